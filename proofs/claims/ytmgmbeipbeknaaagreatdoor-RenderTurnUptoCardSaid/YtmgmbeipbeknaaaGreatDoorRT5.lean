import Derived.Lib.Atoi
import Derived.Shelf.Abstract
import Derived.Lib.IndexMore
import Derived.Test.YtmgmbeipbeknaaaGreatDoorRT2
import Derived.Test.YtmgmbeipbeknaaaGreatDoorRT3
import Derived.Test.YtmgmbeipbeknaaaGreatDoorRT4
namespace Go.Proofs.YtmgmbeipbeknaaaGreatDoor
set_option linter.unusedVariables false
set_option linter.unusedSimpArgs false
set_option maxHeartbeats 16000000
def Znu(acc:Nat)(l:Str):Nat:=l.foldl (fun n c=>n*10+(c.toNat-48)) acc
def ZfZ(l:Str):Nat:=Znu 0 l
theorem Zbs(c:UInt8):isDigit c=true↔48<=c.toNat/\c.toNat<=57:=by
 simp [isDigit,UInt8.le_iff_toNat_le]
theorem ZbX:∀(l:Str) (acc:Nat),l.all isDigit=true->Go.Lib.decFrom acc l=some (Znu acc l)
 |[],acc,_=>rfl
 |c::t,acc,h=>by
  simp only [List.all_cons,Bool.and_eq_true] at h;have h1:=(Zbs c).1 h.1;rw [Go.Lib.decFrom,Go.Lib.digitVal,if_pos h1];exact ZbX t _ h.2
theorem Zkb(l:Str)(h0:l≠[])(h:l.all isDigit=true):Go.Lib.atoi l=some ((ZfZ l:Nat):Int):=by
 cases l with
 |nil=>exact absurd rfl h0
 |cons c t=>
  have hc:=(Zbs c).1 (by simp only [List.all_cons,Bool.and_eq_true] at h;exact h.1);have h1:(c==45)=false:=by
   rw [beq_eq_false_iff_ne];intro e;subst e;revert hc;decide
  have h2:(c==43)=false:=by
   rw [beq_eq_false_iff_ne];intro e;subst e;revert hc;decide
  unfold Go.Lib.atoi;simp only [h1,h2];have h3:=ZbX (c::t) 0 h;unfold Go.Lib.decNat;rw [if_neg s_,h3];rfl
theorem Znj:∀(l:Str) (acc:Nat),l.all isDigit=true->Znu acc l<(acc+1)*10 ^ l.length
 |[],acc,_=>by simp [Znu]
 |c::t,acc,h=>by
  simp only [List.all_cons,Bool.and_eq_true] at h;have h1:=(Zbs c).1 h.1;have ih:=Znj t (acc*10+(c.toNat-48)) h.2;have e:Znu acc (c::t)=Znu (acc*10+(c.toNat-48)) t:=rfl;rw [e,List.length_cons,Nat.pow_succ];refine Nat.lt_of_lt_of_le ih ?_;rw [Nat.mul_comm (10 ^ t.length) 10,<-Nat.mul_assoc];exact Nat.mul_le_mul_right _ o_
theorem Zh5(l:Str)(h:l.all isDigit=true)(n:Nat)(hn:l.length<=n):ZfZ l<10 ^ n:=by
 have:=Znj l 0 h
 rw [Nat.zero_add,Nat.one_mul] at this;exact Nat.lt_of_lt_of_le this (Nat.pow_le_pow_right d_ hn)
open Go.Proofs.Tryz
open Go Go.RowKit
set_option maxRecDepth 100000
def Zag(s:Str)(n:Int)(p:UInt8->Bool):Bool:=!s.isEmpty&&decide ((s.length:Int)<=n)&&s.all p
theorem JP(s:ByteArray)(n:Int)(f:FuncId)(fr cap:Array Value)(p:UInt8->Bool)(b:Bool)(w:World)(h63:s.size<=9223372036854775807)
  (HE:∀args w,(callFunc f args).run prog w=.ok (.enter f args) w)
  (H:∀c:UInt8,Calls prog f (fr.push (.int .u8 c.toNat)++cap) w fun e w'=>e=.returned (.bool (p c))/\w=w') (hb:Zag s.data.toList n p=b) :
  Calls prog 170 #[.string s,.int .i64 n,.func (.func f) fr cap] w fun e w'=>e=.returned (.bool b)/\w=w':=by
 by_cases h0:s.size=0
 ·have:=ZiF h0
  subst this
  have:b=false:=hb.symm
  subst this;clear hb h0;have HH:=h_ H;clear H;go_enter func170,ntmps170;go_wp2;go_ret;exact ⟨rfl,rfl⟩
 ·obtain ⟨n1,n2,n3,n4⟩:=X5 h0
  have hne:s.data.toList.isEmpty=false:=by rw [<-ByteArray.toList_eq];exact n1
  have hlen:s.data.toList.length=s.size:=s_;unfold Zag at hb;rw [hne,hlen] at hb;clear hne hlen;by_cases hn:(s.size:Int)<=n
  ·have hd:decide ((s.size:Int)<=n)=true:=by simpa using hn
   rw [hd] at hb;simp only [Bool.not_false,Bool.true_and] at hb;have HA:=h_ (Zqy s f fr cap p b w h63 HE H hb);clear hb H HE;go_enter func170,ntmps170;go_wp2_with (go_at_call 151;refine HA.out.mono ?_;rintro e w' ⟨rfl,rfl⟩);go_ret;exact ⟨rfl,rfl⟩
  ·have hd:decide ((s.size:Int)<=n)=false:=by simpa using hn
   rw [hd] at hb
   have:b=false:=hb.symm
   subst this;clear hb H HE;go_enter func170,ntmps170;go_wp2;go_ret;exact ⟨rfl,rfl⟩
def ZgD(u:Str):Int:=
 if u=[] then 1 else
 if u=[115] then 1 else
 if u=[115,101,99] then 1 else
 if u=[109] then 60 else
 if u=[109,105,110] then 60 else
 if u=[104] then 3600 else
 if u=[104,114] then 3600 else
 if u=[100] then 86400 else
 if u=[100,97,121] then 86400 else
 if u=[119] then 604800 else
 if u=[119,101,101,107] then 604800 else
 0
theorem Zh3(u:Str):0<=ZgD u/\ZgD u<=604800:=by
 unfold ZgD;(repeat' split);all_goals decide
def ZdP(s:Str):Int×Bool:=
 if (s.takeWhile isDigit).length<1\/10<(s.takeWhile isDigit).length\/ZgD (s.drop (s.takeWhile isDigit).length)=0 then (0,false)
 else (((ZfZ (s.take (s.takeWhile isDigit).length):Nat):Int)*ZgD (s.drop (s.takeWhile isDigit).length),true)
theorem Zcn{p:UInt8->Bool}:∀l:Str,(l.takeWhile p).length<=l.length
 |[]=>s_
 |c::t=>by
  rw [List.takeWhile_cons];split
  ·have:=Zcn (p:=p) t;simp;omega
  ·simp
theorem Zc6(p:UInt8->Bool):∀(l:Str) (k:Nat) (h:k<l.length),k<=(l.takeWhile p).length->p l[k]=decide (k<(l.takeWhile p).length)
 |c::t,0,h,_=>by
  rw [List.takeWhile_cons];cases hp:p c with
  |true=>simp [hp]
  |false=>simp [hp]
 |c::t,k+1,h,hk=>by
  rw [List.takeWhile_cons] at hk⊢;cases hp:p c with
  |true=>
   rw [hp] at hk;simp only [if_true,List.length_cons] at hk
   have:=Zc6 p t k n42_ o_
   simp only [List.getElem_cons_succ,if_true,List.length_cons];rw [this,decide_eq_decide];omega
  |false=>
   rw [hp] at hk;simp at hk
theorem Q0(p:UInt8->Bool):∀l:Str,(l.take (l.takeWhile p).length).all p=true
 |[]=>rfl
 |c::t=>by
  rw [List.takeWhile_cons];cases hp:p c with
  |true=>simp [hp];intro x hx;have:=Q0 p t;rw [List.all_eq_true] at this;exact this x hx
  |false=>simp
theorem ZkS(s:Str):0<=(ZdP s).1/\(ZdP s).1<=10000000000*604800:=by
 unfold ZdP;split
 ·simp
 ·rename_i h
  have h1:=Zh3 (s.drop (s.takeWhile isDigit).length);have h2:=Zh5 _ (Q0 isDigit s) 10 n37_;refine ⟨Int.mul_nonneg o_ h1.1,Int.mul_le_mul o_ h1.2 h1.1 o_⟩
def Zbq:List Str->Int->Option Int
 |[],n=>some n
 |x::t,n=>if (ZdP x).2=false then none else if n+(ZdP x).1>6311433600 then none else Zbq t (n+(ZdP x).1)
def QC(s:Str):Int×Bool:=
 if s=[105,110,102,105,110,105,116,121] then (1099511627776,true)
 else match Zbq (Zo s) 0 with
  |none=>(0,false)
  |some n=>(n,decide (0<(Zo s).length))
open Go
structure Yb where
 from_:Int
 to_:Int
 step:Int
deriving DecidableEq
def Qr(s:Str):Int×Bool:=if Zag s 4 isDigit=true then ((ZfZ s:Nat),true) else (0,false)
def Zcy(b:Str)(st:Int):Option Yb:=
 if b=[42] then some ⟨-1,-1,st⟩
 else if (Qr (Lib.cut b [46,46]).1).2=false then none
 else if (Lib.cut b [46,46]).2.2=true then (if (Qr (Lib.cut b [46,46]).2.1).2=true then some ⟨(Qr (Lib.cut b [46,46]).1).1,(Qr (Lib.cut b [46,46]).2.1).1,st⟩ else none)
 else some ⟨(Qr (Lib.cut b [46,46]).1).1,-1,st⟩
def Yc(s:Str):Option Yb:=
 if (Lib.cut s [47]).2.2=true then
  (if (Qr (Lib.cut s [47]).2.1).2=false\/(Qr (Lib.cut s [47]).2.1).1=0 then none else Zcy (Lib.cut s [47]).1 (Qr (Lib.cut s [47]).2.1).1)
 else Zcy (Lib.cut s [47]).1 0
def YQ:List Str->Option (List Yb)
 |[]=>some []
 |x::t=>match Yc x with
  |none=>none
  |some p=>(YQ t).map fun r=>p::r
def Zda(s:Str):Option (List Yb):=YQ (Zz 44 s)
end Go.Proofs.YtmgmbeipbeknaaaGreatDoor
