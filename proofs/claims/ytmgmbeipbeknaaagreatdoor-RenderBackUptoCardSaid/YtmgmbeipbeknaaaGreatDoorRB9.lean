import Derived.Lib.FieldsP
import Derived.Laws.RangeAny
import Derived.Lib.Atoi
import Derived.Test.YtmgmbeipbeknaaaGreatDoorRB1
import Derived.Test.YtmgmbeipbeknaaaGreatDoorRB5
import Derived.Test.YtmgmbeipbeknaaaGreatDoorRB8
namespace Go.Proofs.YtmgmbeipbeknaaaGreatDoor
open Go
set_option linter.all false
set_option maxHeartbeats 16000000
def Jy:Str->Str->List Str
 |[],cur=>if cur.isEmpty then [] else [cur]
 |c::t,cur=>if c=32 then (if cur.isEmpty then Jy t [] else cur::Jy t []) else Jy t (cur++[c])
def Zg(s:Str):List Str:=Jy s []
theorem ZdG:∀(t u x:Str),(∀c∈t,c≠32)->Jy (t++u) x=Jy u (x++t)
 |[],u,x,_=>s_
 |c::t,u,x,h=>by
  have hc:c≠32:=h c s_;rw [c12_,Jy,if_neg hc,ZdG t u (x++[c]) (fun d hd=>h d (by simp [hd]))];simp
theorem ZeA(s:Str)(h:∀c∈s,c≠32)(hs:s≠[]):Zg s=[s]:=by
 have:=ZdG s [] [] h
 simp only [List.append_nil,List.nil_append] at this;unfold Zg;rw [this,Jy];simp [hs]
theorem Zud(c:UInt8)(h:c.toNat / 64=2):c≠32:=by
 rintro rfl;simp at h
theorem Zk2(s:ByteArray)(pos:Nat)(h:pos<s.size)(h32:s.get! pos≠32) :
  (Utf8.decode s pos).1≠32/\1<=(Utf8.decode s pos).2/\pos+(Utf8.decode s pos).2<=s.size/\∀k,k<(Utf8.decode s pos).2->s.get! (pos+k)≠32:=by
 have h0:s.get! (pos+0)=s[pos]'h:=get_at s pos h;simp only [Nat.add_zero] at h0;rw [h0] at h32;by_cases ha:(s[pos]'h).toNat<128
 ·rw [decode_ascii s pos h ha]
  refine ⟨fun hh=>h32 (UInt8.toNat_inj.1 hh),l_,n6_,fun k hk=>?_⟩;obtain rfl:k=0:=by simpa using hk
  rw [Nat.add_zero,h0];exact h32
 ·have hh:=decode_high s pos h o_
  refine ⟨o_,hh.2,?_,?_⟩
  ·have h0':(s.get! (pos+0))=s[pos]'h:=get_at s pos h
   simp only [Utf8.decode,h0',ha,if_false];(repeat' split);(all_goals simp_all [Utf8.runeError]);all_goals omega
  ·have h0':(s.get! (pos+0))=s[pos]'h:=get_at s pos h
   have key4:(2<=(Utf8.decode s pos).2->(s.get! (pos+1)).toNat / 64=2)/\(3<=(Utf8.decode s pos).2->(s.get! (pos+2)).toNat / 64=2)/\(4<=(Utf8.decode s pos).2->(s.get! (pos+3)).toNat / 64=2)/\(Utf8.decode s pos).2<=4:=by
    clear hh;simp only [Utf8.decode,h0',ha,if_false];(repeat' split);all_goals simp_all [Utf8.runeError]
   have key:∀k,k<(Utf8.decode s pos).2->k=0\/(s.get! (pos+k)).toNat / 64=2:=by
    intro k hk;obtain ⟨q1,q2,q3,q4⟩:=key4;rcases (show k=0\/k=1\/k=2\/k=3 by omega) with rfl|rfl|rfl|rfl
    ·exact .inl rfl
    ·exact .inr (q1 o_)
    ·exact .inr (q2 o_)
    ·exact .inr (q3 o_)
   intro k hk;rcases key k hk with rfl|h2
   ·rw [Nat.add_zero,h0];exact h32
   ·exact Zud _ h2
def isB(n:Nat):Bool:=n==32
theorem ZaF(s:ByteArray):∀(f pos:Nat) (st:Option Nat) (acc:List (Nat×Nat)),s.size-pos<=f->pos<=s.size->(∀a,st=some a->a<pos)->
  (Lib.closeSpans s (Lib.spansFromP isB s f pos st acc)).map (fun x=>(s.extract x.1 x.2).data.toList) =
   acc.map (fun x=>(s.extract x.1 x.2).data.toList)++Jy (s.data.toList.drop pos) (match st with|none=>[]|some a=>(s.data.toList.take pos).drop a)
 |0,pos,st,acc,hf,hp,hst=>by
  have hpe:pos=s.size:=o_;subst hpe;have hd:s.data.toList.drop s.size=[]:=s_;rw [hd];have ht:s.data.toList.take s.size=s.data.toList:=c9_ s_;rw [ht];cases st with
  |none=>simp [Lib.spansFromP,Lib.closeSpans,Jy]
  |some a=>
   have hne:(s.data.toList.drop a)≠[]:=by
    intro hh
    have:=congrArg List.length hh
    have ha:=hst a rfl;simp at this;omega
   have hx:(s.extract a s.size).data.toList=s.data.toList.drop a:=by
    rw [ByteArray.data_extract];simp;exact c9_ s_
   have hlast:Jy [] (s.data.toList.drop a)=[s.data.toList.drop a]:=by simp [Jy,hne]
   simp only [Lib.spansFromP,Lib.closeSpans,List.map_append,List.map_cons,List.map_nil,hx,hlast]
 |f+1,pos,st,acc,hf,hp,hst=>by
  by_cases hlt:pos<s.size
  ·unfold Lib.spansFromP
   rw [if_pos hlt];have hlen:pos<s.data.toList.length:=n31_;have hg:s.get! pos=s.data.toList[pos]:=by
    show s.get! (pos+0)=_;rw [get_at s pos hlt];simp;rfl
   have hdc:s.data.toList.drop pos=s.data.toList[pos]::s.data.toList.drop (pos+1):=List.drop_eq_getElem_cons hlen;by_cases h32:s.get! pos=32
   ·have hdec:Utf8.decode s pos=(32,1):=by
     have h0:s.get! (pos+0)=s[pos]'hlt:=get_at s pos hlt;simp only [Nat.add_zero] at h0;rw [h0] at h32;have hd:=decode_ascii s pos hlt (by rw [h32];decide);rw [hd,h32];rfl
    rw [hdec];rw [if_pos n18_];rw [hdc,<-hg,h32,Jy,if_pos rfl];cases st with
    |none=>
     rw [ZaF s f (pos+1) none acc o_ o_ s_];simp
    |some a=>
     have ha:=hst a rfl;have hne:((s.data.toList.take pos).drop a)≠[]:=by
      intro hh
      have:=congrArg List.length hh
      simp at this;omega
     simp only;rw [ZaF s f (pos+1) none (acc++[(a,pos)]) o_ o_ s_];have hx:(s.extract a pos).data.toList=(s.data.toList.take pos).drop a:=by
      rw [ByteArray.data_extract];simp [List.drop_take]
     have hne2:((s.data.toList.take pos).drop a).isEmpty=false:=by simpa using hne
     rw [hne2];simp only [List.map_append,List.map_cons,List.map_nil,hx,List.append_assoc,c12_,List.nil_append];rfl
   ·obtain ⟨h1,h2,h3,h4⟩:=Zk2 s pos hlt h32
    generalize hwd:(Utf8.decode s pos).2=wd at *;rw [if_neg (by simpa [isB] using h1)];have hsplit:s.data.toList.drop pos=(s.data.toList.drop pos).take wd++s.data.toList.drop (pos+wd):=by
     rw [<-List.drop_drop];exact (List.take_append_drop wd _).symm
    have hall:∀c∈(s.data.toList.drop pos).take wd,c≠32:=by
     intro c hc;obtain ⟨i,hi,rfl⟩:=List.getElem_of_mem hc;have hiw:i<wd:=by simp at hi;omega
     have:=h4 i hiw
     have hii:pos+i<s.size:=o_;have hgi:s.get! (pos+i)=s.data.toList[pos+i]'(by simpa using hii):=by
      show s.get! (pos+i+0)=_;rw [get_at s (pos+i) hii];simp;rfl
     rw [hgi] at this;simpa using this
    have hcat:∀a,a<=pos->(s.data.toList.take pos).drop a++(s.data.toList.drop pos).take wd=(s.data.toList.take (pos+wd)).drop a:=by
     intro a ha;rw [List.take_add,List.drop_append_of_le_length n6_]
    rw [hsplit,ZdG _ _ _ hall];cases st with
    |none=>
     simp only;rw [ZaF s f (pos+wd) (some pos) acc o_ h3 (by intro a ha;cases ha;omega)]
     have:=hcat pos l_
     simp only;rw [<-this];simp
    |some a=>
     have ha:=hst a rfl;simp only;rw [ZaF s f (pos+wd) (some a) acc o_ h3 (by intro b hb;cases hb;omega)];simp only;rw [<-hcat a o_]
  ·rw [Lib.spansFromP_end isB s (f+1) pos st acc hlt]
   have:=ZaF s 0 pos st acc o_ hp hst
   rw [Lib.spansFromP_end isB s 0 pos st acc hlt] at this;exact this
theorem Zi0(s:ByteArray):(Lib.goFieldsP isB s).map (fun x=>x.data.toList)=Zg s.data.toList:=by
 unfold Lib.goFieldsP Lib.spansOfP;rw [List.map_map]
 have:=ZaF s s.size 0 none [] o_ o_ s_
 exact this
def Zj3(acc:Nat)(l:Str):Nat:=l.foldl (fun n c=>n*10+(c.toNat-48)) acc
def Zem(l:Str):Nat:=Zj3 0 l
theorem Zc9(c:UInt8):isDigit c=true↔48<=c.toNat/\c.toNat<=57:=by
 simp [isDigit,UInt8.le_iff_toNat_le]
theorem ZdA:∀(l:Str) (acc:Nat),l.all isDigit=true->Go.Lib.decFrom acc l=some (Zj3 acc l)
 |[],acc,_=>rfl
 |c::t,acc,h=>by
  simp only [List.all_cons,Bool.and_eq_true] at h;have h1:=(Zc9 c).1 h.1;rw [Go.Lib.decFrom,Go.Lib.digitVal,if_pos h1];exact ZdA t _ h.2
theorem Zlt(l:Str)(h0:l≠[])(h:l.all isDigit=true):Go.Lib.atoi l=some ((Zem l:Nat):Int):=by
 cases l with
 |nil=>exact absurd rfl h0
 |cons c t=>
  have hc:=(Zc9 c).1 (by simp only [List.all_cons,Bool.and_eq_true] at h;exact h.1);have h1:(c==45)=false:=by
   rw [c11_];intro e;subst e;revert hc;decide
  have h2:(c==43)=false:=by
   rw [c11_];intro e;subst e;revert hc;decide
  unfold Go.Lib.atoi;simp only [h1,h2];have h3:=ZdA (c::t) 0 h;unfold Go.Lib.decNat;rw [if_neg s_,h3];rfl
theorem ZpA:∀(l:Str) (acc:Nat),l.all isDigit=true->Zj3 acc l<(acc+1)*10 ^ l.length
 |[],acc,_=>by simp [Zj3]
 |c::t,acc,h=>by
  simp only [List.all_cons,Bool.and_eq_true] at h;have h1:=(Zc9 c).1 h.1;have ih:=ZpA t (acc*10+(c.toNat-48)) h.2;have e:Zj3 acc (c::t)=Zj3 (acc*10+(c.toNat-48)) t:=rfl;rw [e,c14_,Nat.pow_succ];refine c16_ ih ?_;rw [Nat.mul_comm (10 ^ t.length) 10,<-Nat.mul_assoc];exact Nat.mul_le_mul_right _ o_
theorem Zj7(l:Str)(h:l.all isDigit=true)(n:Nat)(hn:l.length<=n):Zem l<10 ^ n:=by
 have:=ZpA l 0 h
 rw [Nat.zero_add,Nat.one_mul] at this;exact c16_ this (Nat.pow_le_pow_right d_ hn)
theorem Zq6(acc:Nat)(l:Str)(c:UInt8):Zj3 acc (l++[c])=Zj3 acc l*10+(c.toNat-48):=by
 unfold Zj3;rw [List.foldl_append];rfl
open Go.Proofs.Tryz
open Go Go.RowKit
set_option maxRecDepth 100000
theorem m14_{p:Prop}(h:p:=by clear hv;go_enter func137,ntmps137;go_wp2_with fail;refine HL.out.mono ?_;rintro e w1 ⟨rfl,rfl⟩;go_wp2_with fail;refine HA.out.mono ?_;rintro e w2 ⟨rfl,hb⟩;have HB:=h_ hb;clear hb;go_wp2_with fail;go_ret2;exact ⟨rfl,HB.out⟩):p:=h
theorem Zms(w:World)(e:TypeId)(s:ByteArray):Below w.heap.size w (Lib.bytesWorld w e s):=by
 have h1:Below w.heap.size w (w.drew.alloc (.cells (Lib.bytesCells w e s) e)):=(show Below w.heap.size w w.drew from Ze ⟨1,rfl⟩).alloc l_ _;have h2:Fr (fun k=>k=w.heap.size) w (Lib.bytesWorld w e s):=Fr.freeze (M:=fun k=>k=w.heap.size) (p:=⟨w.heap.size,(Lib.bytesCells w e s).size,none⟩) (Fr.of_below h1 _) (fun h=>absurd h s_) 1;exact h2.below _ l_ (fun k hk e=>by omega)
theorem Zfq(s:ByteArray)(w:World)(h0:s.data.toList≠[])(hs:s.size<=18)(h:s.data.toList.all isDigit=true)(n:Nat)(hn:Zem s.data.toList=n) :
  Calls prog 206 #[.string s] w fun e w'=>e=.returned (.tuple #[.int .i64 n,.nilIface])/\Below w.heap.size w w':=by
 refine (Tryz.strconv_Atoi s n hs (by rw [Zlt _ h0 h,hn]) w).mono ?_;rintro e w' ⟨rfl,t,rfl⟩;exact ⟨rfl,Zms _ _ _⟩
def Xd(s:Str):Int×Bool:=if JC s 5 isDigit=true then (if Zem s<=65535 then ((Zem s:Nat),true) else (0,false)) else (0,false)
theorem ZeJ{s:Str}{n:Nat}{p:UInt8->Bool}(h:JC s n p=true):s≠[]/\s.length<=n/\s.all p=true:=by
 unfold JC at h;simp only [Bool.and_eq_true,decide_eq_true_eq] at h;exact ⟨by intro e;subst e;simp at h,o_,h.2⟩
theorem ZaZ(s:ByteArray)(w:World)(h63:s.size<=9223372036854775807)(v:Int)(b:Bool)(hv:Xd s.data.toList=(v,b)) :
  Calls prog 137 #[.string s] w fun e w'=>e=.returned (.tuple #[.int .i64 v,.bool b])/\Below w.heap.size w w':=by
 unfold Xd at hv;cases hl:JC s.data.toList 5 isDigit with
 |false=>
  rw [hl,if_neg s_] at hv;obtain ⟨rfl,rfl⟩:0=v/\false=b:=n114_;have HL:=h_ (Za1 s 5 154 #[] #[] isDigit false w h63 Qd (fun c=>XM c w) hl);clear hv hl;go_enter func137,ntmps137;go_wp2_with fail;refine HL.out.mono ?_;rintro e w1 ⟨rfl,rfl⟩;go_wp2_with fail;go_ret2;exact ⟨rfl,Below.refl _ _⟩
 |true=>
  rw [hl,if_pos rfl] at hv;have HL:=h_ (Za1 s 5 154 #[] #[] isDigit true w h63 Qd (fun c=>XM c w) hl);obtain ⟨h0,h5,hd⟩:=ZeJ (n:=5) hl;have hsz:s.data.toList.length=s.size:=s_;obtain ⟨n,hn⟩:∃n,Zem s.data.toList=n:=⟨_,rfl⟩;have HA:=h_ (Zfq s w h0 o_ hd n hn);rw [hn] at hv;clear hl h0 h5 hd hn hsz;by_cases hle:n<=65535
  ·rw [if_pos hle] at hv
   obtain ⟨rfl,rfl⟩:(n:Int)=v/\true=b:=n114_;have hz:¬((n:Int)>65535):=o_;have hz2:¬((65535:Int)<n):=o_;exact m14_
  ·rw [if_neg hle] at hv
   obtain ⟨rfl,rfl⟩:0=v/\false=b:=n114_;have hz:((n:Int)>65535):=o_;have hz2:((65535:Int)<n):=o_;exact m14_
theorem Zgx(s:ByteArray)(w:World)(h63:s.size<=9223372036854775807)(b:Bool)(hv:(Xd s.data.toList).2=b) :
  Calls prog 254 #[.string s] w fun e w'=>e=.returned (.bool b)/\Below w.heap.size w w':=by
 obtain ⟨v,b',hvb⟩:∃v b',Xd s.data.toList=(v,b'):=⟨_,_,rfl⟩;obtain rfl:b'=b:=by rw [hvb] at hv;exact hv
 have H:=h_ (ZaZ s w h63 v b' hvb);clear hvb hv;go_enter func254,ntmps254;go_wp2_with fail;refine H.out.mono ?_;rintro e w1 ⟨rfl,hb⟩;have HB:=h_ hb;clear hb;go_wp2_with fail;go_ret;exact ⟨rfl,HB.out⟩
theorem Zhr:∀args w,(callFunc 254 args).run prog w=.ok (.enter 254 args) w:=enters_of func254 k_ rfl
def ZfW(u:Str):Int:=
 if u=[] then 1 else
 if u=[115] then 1 else
 if u=[115,101,99] then 1 else
 if u=[109] then 60 else
 if u=[109,105,110] then 60 else
 if u=[104] then 3600 else
 if u=[104,114] then 3600 else
 if u=[100] then 86400 else
 if u=[100,97,121] then 86400 else
 if u=[119] then 604800 else
 if u=[119,101,101,107] then 604800 else
 0
theorem Zkc(u:Str):0<=ZfW u/\ZfW u<=604800:=by
 unfold ZfW;(repeat' split);all_goals decide
def ZeD(s:Str):Int×Bool:=
 if (s.takeWhile isDigit).length<1\/10<(s.takeWhile isDigit).length\/ZfW (s.drop (s.takeWhile isDigit).length)=0 then (0,false)
 else (((Zem (s.take (s.takeWhile isDigit).length):Nat):Int)*ZfW (s.drop (s.takeWhile isDigit).length),true)
theorem Zd2{p:UInt8->Bool}:∀l:Str,(l.takeWhile p).length<=l.length
 |[]=>s_
 |c::t=>by
  rw [List.takeWhile_cons];split
  ·have:=Zd2 (p:=p) t;simp;omega
  ·simp
theorem Zfk(p:UInt8->Bool):∀(l:Str) (k:Nat) (h:k<l.length),k<=(l.takeWhile p).length->p l[k]=decide (k<(l.takeWhile p).length)
 |c::t,0,h,_=>by
  rw [List.takeWhile_cons];cases hp:p c with
  |true=>simp [hp]
  |false=>simp [hp]
 |c::t,k+1,h,hk=>by
  rw [List.takeWhile_cons] at hk⊢;cases hp:p c with
  |true=>
   rw [hp] at hk;simp only [if_true,c14_] at hk
   have:=Zfk p t k n32_ o_
   simp only [List.getElem_cons_succ,if_true,c14_];rw [this,decide_eq_decide];omega
  |false=>
   rw [hp] at hk;simp at hk
theorem JV(p:UInt8->Bool):∀l:Str,(l.take (l.takeWhile p).length).all p=true
 |[]=>rfl
 |c::t=>by
  rw [List.takeWhile_cons];cases hp:p c with
  |true=>simp [hp];intro x hx;have:=JV p t;rw [c7_] at this;exact this x hx
  |false=>simp
theorem Zbu(s:Str):0<=(ZeD s).1/\(ZeD s).1<=10000000000*604800:=by
 unfold ZeD;split
 ·simp
 ·rename_i h
  have h1:=Zkc (s.drop (s.takeWhile isDigit).length);have h2:=Zj7 _ (JV isDigit s) 10 n53_;refine ⟨Int.mul_nonneg o_ h1.1,Int.mul_le_mul o_ h1.2 h1.1 o_⟩
def Qn:List Str->Int->Option Int
 |[],n=>some n
 |x::t,n=>if (ZeD x).2=false then none else if n+(ZeD x).1>6311433600 then none else Qn t (n+(ZeD x).1)
def YF(s:Str):Int×Bool:=
 if s=[105,110,102,105,110,105,116,121] then (1099511627776,true)
 else match Qn (Zg s) 0 with
  |none=>(0,false)
  |some n=>(n,decide (0<(Zg s).length))
end Go.Proofs.YtmgmbeipbeknaaaGreatDoor
