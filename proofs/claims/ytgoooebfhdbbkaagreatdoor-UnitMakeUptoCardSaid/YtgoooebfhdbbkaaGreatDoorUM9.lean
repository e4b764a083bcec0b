import Derived.Lib.FieldsP
import Derived.Laws.RangeAny
import Derived.Lib.Atoi
import Derived.Lib.Bytealg
import Derived.Lib.SplitLaws
import Derived.Lib.IndexMore
import Derived.Test.YtgoooebfhdbbkaaGreatDoorUM2
import Derived.Test.YtgoooebfhdbbkaaGreatDoorUM5
import Derived.Test.YtgoooebfhdbbkaaGreatDoorUM8
namespace Go.Proofs.YtgoooebfhdbbkaaGreatDoor
open Go
set_option linter.unusedVariables false
set_option linter.unusedSimpArgs false
set_option maxHeartbeats 16000000
def Za5:Str->Str->List Str
 |[],cur=>if cur.isEmpty then [] else [cur]
 |c::t,cur=>if c=32 then (if cur.isEmpty then Za5 t [] else cur::Za5 t []) else Za5 t (cur++[c])
def Zc(s:Str):List Str:=Za5 s []
theorem ZhR:∀(t u x:Str),(∀c∈t,c≠32)->Za5 (t++u) x=Za5 u (x++t)
 |[],u,x,_=>s_
 |c::t,u,x,h=>by
  have hc:c≠32:=h c s_;rw [List.cons_append,Za5,if_neg hc,ZhR t u (x++[c]) (fun d hd=>h d (by simp [hd]))];simp
theorem Zqr(c:UInt8)(h:c.toNat / 64=2):c≠32:=by
 rintro rfl;simp at h
theorem Zit(s:ByteArray)(pos:Nat)(h:pos<s.size)(h32:s.get! pos≠32) :
  (Utf8.decode s pos).1≠32/\1<=(Utf8.decode s pos).2/\pos+(Utf8.decode s pos).2<=s.size/\∀k,k<(Utf8.decode s pos).2->s.get! (pos+k)≠32:=by
 have h0:s.get! (pos+0)=s[pos]'h:=get_at s pos h;simp only [Nat.add_zero] at h0;rw [h0] at h32;by_cases ha:(s[pos]'h).toNat<128
 ·rw [decode_ascii s pos h ha]
  refine ⟨fun hh=>h32 (UInt8.toNat_inj.1 hh),l_,n2_,fun k hk=>?_⟩;obtain rfl:k=0:=by simpa using hk
  rw [Nat.add_zero,h0];exact h32
 ·have hh:=decode_high s pos h o_
  refine ⟨o_,hh.2,?_,?_⟩
  ·have h0':(s.get! (pos+0))=s[pos]'h:=get_at s pos h
   simp only [Utf8.decode,h0',ha,if_false];(repeat' split);(all_goals simp_all [Utf8.runeError]);all_goals omega
  ·have h0':(s.get! (pos+0))=s[pos]'h:=get_at s pos h
   have key4:(2<=(Utf8.decode s pos).2->(s.get! (pos+1)).toNat / 64=2)/\(3<=(Utf8.decode s pos).2->(s.get! (pos+2)).toNat / 64=2)/\(4<=(Utf8.decode s pos).2->(s.get! (pos+3)).toNat / 64=2)/\(Utf8.decode s pos).2<=4:=by
    clear hh;simp only [Utf8.decode,h0',ha,if_false];(repeat' split);all_goals simp_all [Utf8.runeError]
   have key:∀k,k<(Utf8.decode s pos).2->k=0\/(s.get! (pos+k)).toNat / 64=2:=by
    intro k hk;obtain ⟨q1,q2,q3,q4⟩:=key4;rcases (show k=0\/k=1\/k=2\/k=3 by omega) with rfl|rfl|rfl|rfl
    ·exact .inl rfl
    ·exact .inr (q1 o_)
    ·exact .inr (q2 o_)
    ·exact .inr (q3 o_)
   intro k hk;rcases key k hk with rfl|h2
   ·rw [Nat.add_zero,h0];exact h32
   ·exact Zqr _ h2
def isB(n:Nat):Bool:=n==32
theorem J7(s:ByteArray):∀(f pos:Nat) (st:Option Nat) (acc:List (Nat×Nat)),s.size-pos<=f->pos<=s.size->(∀a,st=some a->a<pos)->
  (Lib.closeSpans s (Lib.spansFromP isB s f pos st acc)).map (fun x=>(s.extract x.1 x.2).data.toList) =
   acc.map (fun x=>(s.extract x.1 x.2).data.toList)++Za5 (s.data.toList.drop pos) (match st with|none=>[]|some a=>(s.data.toList.take pos).drop a)
 |0,pos,st,acc,hf,hp,hst=>by
  have hpe:pos=s.size:=o_;subst hpe;have hd:s.data.toList.drop s.size=[]:=s_;rw [hd];have ht:s.data.toList.take s.size=s.data.toList:=List.take_of_length_le s_;rw [ht];cases st with
  |none=>simp [Lib.spansFromP,Lib.closeSpans,Za5]
  |some a=>
   have hne:(s.data.toList.drop a)≠[]:=by
    intro hh
    have:=congrArg List.length hh
    have ha:=hst a rfl;simp at this;omega
   have hx:(s.extract a s.size).data.toList=s.data.toList.drop a:=by
    rw [ByteArray.data_extract];simp;exact List.take_of_length_le s_
   have hlast:Za5 [] (s.data.toList.drop a)=[s.data.toList.drop a]:=by simp [Za5,hne]
   simp only [Lib.spansFromP,Lib.closeSpans,List.map_append,List.map_cons,List.map_nil,hx,hlast]
 |f+1,pos,st,acc,hf,hp,hst=>by
  by_cases hlt:pos<s.size
  ·unfold Lib.spansFromP
   rw [if_pos hlt];have hlen:pos<s.data.toList.length:=n42_;have hg:s.get! pos=s.data.toList[pos]:=by
    show s.get! (pos+0)=_;rw [get_at s pos hlt];simp;rfl
   have hdc:s.data.toList.drop pos=s.data.toList[pos]::s.data.toList.drop (pos+1):=List.drop_eq_getElem_cons hlen;by_cases h32:s.get! pos=32
   ·have hdec:Utf8.decode s pos=(32,1):=by
     have h0:s.get! (pos+0)=s[pos]'hlt:=get_at s pos hlt;simp only [Nat.add_zero] at h0;rw [h0] at h32;have hd:=decode_ascii s pos hlt (by rw [h32];decide);rw [hd,h32];rfl
    rw [hdec];rw [if_pos n19_];rw [hdc,<-hg,h32,Za5,if_pos rfl];cases st with
    |none=>
     rw [J7 s f (pos+1) none acc o_ o_ s_];simp
    |some a=>
     have ha:=hst a rfl;have hne:((s.data.toList.take pos).drop a)≠[]:=by
      intro hh
      have:=congrArg List.length hh
      simp at this;omega
     simp only;rw [J7 s f (pos+1) none (acc++[(a,pos)]) o_ o_ s_];have hx:(s.extract a pos).data.toList=(s.data.toList.take pos).drop a:=by
      rw [ByteArray.data_extract];simp [List.drop_take]
     have hne2:((s.data.toList.take pos).drop a).isEmpty=false:=by simpa using hne
     rw [hne2];simp only [List.map_append,List.map_cons,List.map_nil,hx,List.append_assoc,List.cons_append,List.nil_append];rfl
   ·obtain ⟨h1,h2,h3,h4⟩:=Zit s pos hlt h32
    generalize hwd:(Utf8.decode s pos).2=wd at *;rw [if_neg (by simpa [isB] using h1)];have hsplit:s.data.toList.drop pos=(s.data.toList.drop pos).take wd++s.data.toList.drop (pos+wd):=by
     rw [<-List.drop_drop];exact (List.take_append_drop wd _).symm
    have hall:∀c∈(s.data.toList.drop pos).take wd,c≠32:=by
     intro c hc;obtain ⟨i,hi,rfl⟩:=List.getElem_of_mem hc;have hiw:i<wd:=by simp at hi;omega
     have:=h4 i hiw
     have hii:pos+i<s.size:=o_;have hgi:s.get! (pos+i)=s.data.toList[pos+i]'(by simpa using hii):=by
      show s.get! (pos+i+0)=_;rw [get_at s (pos+i) hii];simp;rfl
     rw [hgi] at this;simpa using this
    have hcat:∀a,a<=pos->(s.data.toList.take pos).drop a++(s.data.toList.drop pos).take wd=(s.data.toList.take (pos+wd)).drop a:=by
     intro a ha;rw [List.take_add,List.drop_append_of_le_length n2_]
    rw [hsplit,ZhR _ _ _ hall];cases st with
    |none=>
     simp only;rw [J7 s f (pos+wd) (some pos) acc o_ h3 (by intro a ha;cases ha;omega)]
     have:=hcat pos l_
     simp only;rw [<-this];simp
    |some a=>
     have ha:=hst a rfl;simp only;rw [J7 s f (pos+wd) (some a) acc o_ h3 (by intro b hb;cases hb;omega)];simp only;rw [<-hcat a o_]
  ·rw [Lib.spansFromP_end isB s (f+1) pos st acc hlt]
   have:=J7 s 0 pos st acc o_ hp hst
   rw [Lib.spansFromP_end isB s 0 pos st acc hlt] at this;exact this
theorem Zhe(s:ByteArray):(Lib.goFieldsP isB s).map (fun x=>x.data.toList)=Zc s.data.toList:=by
 unfold Lib.goFieldsP Lib.spansOfP;rw [List.map_map]
 have:=J7 s s.size 0 none [] o_ o_ s_
 exact this
def Zih(acc:Nat)(l:Str):Nat:=l.foldl (fun n c=>n*10+(c.toNat-48)) acc
def ZaB(l:Str):Nat:=Zih 0 l
theorem QN(c:UInt8):isDigit c=true↔48<=c.toNat/\c.toNat<=57:=by
 simp [isDigit,UInt8.le_iff_toNat_le]
theorem Zb4:∀(l:Str) (acc:Nat),l.all isDigit=true->Go.Lib.decFrom acc l=some (Zih acc l)
 |[],acc,_=>rfl
 |c::t,acc,h=>by
  simp only [List.all_cons,Bool.and_eq_true] at h;have h1:=(QN c).1 h.1;rw [Go.Lib.decFrom,Go.Lib.digitVal,if_pos h1];exact Zb4 t _ h.2
theorem Zj0(l:Str)(h0:l≠[])(h:l.all isDigit=true):Go.Lib.atoi l=some ((ZaB l:Nat):Int):=by
 cases l with
 |nil=>exact absurd rfl h0
 |cons c t=>
  have hc:=(QN c).1 (by simp only [List.all_cons,Bool.and_eq_true] at h;exact h.1);have h1:(c==45)=false:=by
   rw [beq_eq_false_iff_ne];intro e;subst e;revert hc;decide
  have h2:(c==43)=false:=by
   rw [beq_eq_false_iff_ne];intro e;subst e;revert hc;decide
  unfold Go.Lib.atoi;simp only [h1,h2];have h3:=Zb4 (c::t) 0 h;unfold Go.Lib.decNat;rw [if_neg s_,h3];rfl
theorem ZmK:∀(l:Str) (acc:Nat),l.all isDigit=true->Zih acc l<(acc+1)*10 ^ l.length
 |[],acc,_=>by simp [Zih]
 |c::t,acc,h=>by
  simp only [List.all_cons,Bool.and_eq_true] at h;have h1:=(QN c).1 h.1;have ih:=ZmK t (acc*10+(c.toNat-48)) h.2;have e:Zih acc (c::t)=Zih (acc*10+(c.toNat-48)) t:=rfl;rw [e,List.length_cons,Nat.pow_succ];refine Nat.lt_of_lt_of_le ih ?_;rw [Nat.mul_comm (10 ^ t.length) 10,<-Nat.mul_assoc];exact Nat.mul_le_mul_right _ o_
theorem Zcn(l:Str)(h:l.all isDigit=true)(n:Nat)(hn:l.length<=n):ZaB l<10 ^ n:=by
 have:=ZmK l 0 h
 rw [Nat.zero_add,Nat.one_mul] at this;exact Nat.lt_of_lt_of_le this (Nat.pow_le_pow_right d_ hn)
theorem ZhW(acc:Nat)(l:Str)(c:UInt8):Zih acc (l++[c])=Zih acc l*10+(c.toNat-48):=by
 unfold Zih;rw [List.foldl_append];rfl
open Go.Proofs.Tryz
open Go Go.RowKit
set_option maxRecDepth 100000
theorem m14_{p:Prop}(h:p:=by clear hv;go_enter func65,ntmps65;go_wp2_with fail;refine HL.out.mono ?_;rintro e w1 ⟨rfl,rfl⟩;go_wp2_with fail;refine HA.out.mono ?_;rintro e w2 ⟨rfl,hb⟩;have HB:=h_ hb;clear hb;go_wp2_with fail;go_ret2;exact ⟨rfl,HB.out⟩):p:=h
theorem Zi7(w:World)(e:TypeId)(s:ByteArray):Below w.heap.size w (Lib.bytesWorld w e s):=by
 have h1:Below w.heap.size w (w.drew.alloc (.cells (Lib.bytesCells w e s) e)):=(show Below w.heap.size w w.drew from Zb ⟨1,rfl⟩).alloc l_ _;have h2:Fr (fun k=>k=w.heap.size) w (Lib.bytesWorld w e s):=Fr.freeze (M:=fun k=>k=w.heap.size) (p:=⟨w.heap.size,(Lib.bytesCells w e s).size,none⟩) (Fr.of_below h1 _) (fun h=>absurd h s_) 1;exact h2.below _ l_ (fun k hk e=>by omega)
theorem Zdl(s:ByteArray)(w:World)(h0:s.data.toList≠[])(hs:s.size<=18)(h:s.data.toList.all isDigit=true)(n:Nat)(hn:ZaB s.data.toList=n) :
  Calls prog 107 #[.string s] w fun e w'=>e=.returned (.tuple #[.int .i64 n,.nilIface])/\Below w.heap.size w w':=by
 refine (Tryz.strconv_Atoi s n hs (by rw [Zj0 _ h0 h,hn]) w).mono ?_;rintro e w' ⟨rfl,t,rfl⟩;exact ⟨rfl,Zi7 _ _ _⟩
def Ql(s:Str):Int×Bool:=if Qk s 5 isDigit=true then (if ZaB s<=65535 then ((ZaB s:Nat),true) else (0,false)) else (0,false)
theorem Zbm{s:Str}{n:Nat}{p:UInt8->Bool}(h:Qk s n p=true):s≠[]/\s.length<=n/\s.all p=true:=by
 unfold Qk at h;simp only [Bool.and_eq_true,decide_eq_true_eq] at h;exact ⟨by intro e;subst e;simp at h,o_,h.2⟩
theorem Zak(s:ByteArray)(w:World)(h63:s.size<=9223372036854775807)(v:Int)(b:Bool)(hv:Ql s.data.toList=(v,b)) :
  Calls prog 65 #[.string s] w fun e w'=>e=.returned (.tuple #[.int .i64 v,.bool b])/\Below w.heap.size w w':=by
 unfold Ql at hv;cases hl:Qk s.data.toList 5 isDigit with
 |false=>
  rw [hl,if_neg s_] at hv;obtain ⟨rfl,rfl⟩:0=v/\false=b:=n127_;have HL:=h_ (ZbS s 5 96 #[] #[] isDigit false w h63 Qs (fun c=>XY c w) hl);clear hv hl;go_enter func65,ntmps65;go_wp2_with fail;refine HL.out.mono ?_;rintro e w1 ⟨rfl,rfl⟩;go_wp2_with fail;go_ret2;exact ⟨rfl,Below.refl _ _⟩
 |true=>
  rw [hl,if_pos rfl] at hv;have HL:=h_ (ZbS s 5 96 #[] #[] isDigit true w h63 Qs (fun c=>XY c w) hl);obtain ⟨h0,h5,hd⟩:=Zbm (n:=5) hl;have hsz:s.data.toList.length=s.size:=s_;obtain ⟨n,hn⟩:∃n,ZaB s.data.toList=n:=⟨_,rfl⟩;have HA:=h_ (Zdl s w h0 o_ hd n hn);rw [hn] at hv;clear hl h0 h5 hd hn hsz;by_cases hle:n<=65535
  ·rw [if_pos hle] at hv
   obtain ⟨rfl,rfl⟩:(n:Int)=v/\true=b:=n127_;have hz:¬((n:Int)>65535):=o_;have hz2:¬((65535:Int)<n):=o_;exact m14_
  ·rw [if_neg hle] at hv
   obtain ⟨rfl,rfl⟩:0=v/\false=b:=n127_;have hz:((n:Int)>65535):=o_;have hz2:((65535:Int)<n):=o_;exact m14_
theorem Zet(s:ByteArray)(w:World)(h63:s.size<=9223372036854775807)(b:Bool)(hv:(Ql s.data.toList).2=b) :
  Calls prog 147 #[.string s] w fun e w'=>e=.returned (.bool b)/\Below w.heap.size w w':=by
 obtain ⟨v,b',hvb⟩:∃v b',Ql s.data.toList=(v,b'):=⟨_,_,rfl⟩;obtain rfl:b'=b:=by rw [hvb] at hv;exact hv
 have H:=h_ (Zak s w h63 v b' hvb);clear hvb hv;go_enter func147,ntmps147;go_wp2_with fail;refine H.out.mono ?_;rintro e w1 ⟨rfl,hb⟩;have HB:=h_ hb;clear hb;go_wp2_with fail;go_ret;exact ⟨rfl,HB.out⟩
theorem Zf5:∀args w,(callFunc 147 args).run prog w=.ok (.enter 147 args) w:=enters_of func147 k_ rfl
def ZbL(u:Str):Int:=
 if u=[] then 1 else
 if u=[115] then 1 else
 if u=[115,101,99] then 1 else
 if u=[109] then 60 else
 if u=[109,105,110] then 60 else
 if u=[104] then 3600 else
 if u=[104,114] then 3600 else
 if u=[100] then 86400 else
 if u=[100,97,121] then 86400 else
 if u=[119] then 604800 else
 if u=[119,101,101,107] then 604800 else
 0
theorem ZdH(u:Str):0<=ZbL u/\ZbL u<=604800:=by
 unfold ZbL;(repeat' split);all_goals decide
def JN(s:Str):Int×Bool:=
 if (s.takeWhile isDigit).length<1\/10<(s.takeWhile isDigit).length\/ZbL (s.drop (s.takeWhile isDigit).length)=0 then (0,false)
 else (((ZaB (s.take (s.takeWhile isDigit).length):Nat):Int)*ZbL (s.drop (s.takeWhile isDigit).length),true)
theorem ZaR{p:UInt8->Bool}:∀l:Str,(l.takeWhile p).length<=l.length
 |[]=>s_
 |c::t=>by
  rw [List.takeWhile_cons];split
  ·have:=ZaR (p:=p) t;simp;omega
  ·simp
theorem ZbA(p:UInt8->Bool):∀(l:Str) (k:Nat) (h:k<l.length),k<=(l.takeWhile p).length->p l[k]=decide (k<(l.takeWhile p).length)
 |c::t,0,h,_=>by
  rw [List.takeWhile_cons];cases hp:p c with
  |true=>simp [hp]
  |false=>simp [hp]
 |c::t,k+1,h,hk=>by
  rw [List.takeWhile_cons] at hk⊢;cases hp:p c with
  |true=>
   rw [hp] at hk;simp only [if_true,List.length_cons] at hk
   have:=ZbA p t k n60_ o_
   simp only [List.getElem_cons_succ,if_true,List.length_cons];rw [this,decide_eq_decide];omega
  |false=>
   rw [hp] at hk;simp at hk
theorem QC(p:UInt8->Bool):∀l:Str,(l.take (l.takeWhile p).length).all p=true
 |[]=>rfl
 |c::t=>by
  rw [List.takeWhile_cons];cases hp:p c with
  |true=>simp [hp];intro x hx;have:=QC p t;rw [List.all_eq_true] at this;exact this x hx
  |false=>simp
theorem ZjZ(s:Str):0<=(JN s).1/\(JN s).1<=10000000000*604800:=by
 unfold JN;split
 ·simp
 ·rename_i h
  have h1:=ZdH (s.drop (s.takeWhile isDigit).length);have h2:=Zcn _ (QC isDigit s) 10 n46_;refine ⟨Int.mul_nonneg o_ h1.1,Int.mul_le_mul o_ h1.2 h1.1 o_⟩
def XG:List Str->Int->Option Int
 |[],n=>some n
 |x::t,n=>if (JN x).2=false then none else if n+(JN x).1>6311433600 then none else XG t (n+(JN x).1)
def YT(s:Str):Int×Bool:=
 if s=[105,110,102,105,110,105,116,121] then (1099511627776,true)
 else match XG (Zc s) 0 with
  |none=>(0,false)
  |some n=>(n,decide (0<(Zc s).length))
def ZfH(x:UInt8):List Str->List Str
 |[]=>[[x]]
 |h::r=>(x::h)::r
def Zl(c:UInt8):Str->List Str
 |[]=>[[]]
 |x::t=>if x=c then []::Zl c t else ZfH x (Zl c t)
theorem Qr(c:UInt8):∀s:Str,Zl c s≠[]
 |[]=>by simp [Zl]
 |x::t=>by
  unfold Zl;split
  ·simp
  ·unfold ZfH;split<;>simp
theorem Jp(c:UInt8):∀(a b:Str),(∀x∈a,x≠c)->Zl c (a++c::b)=a::Zl c b
 |[],b,_=>by simp [Zl]
 |x::t,b,h=>by
  rw [List.cons_append,Zl,if_neg (h x s_),Jp c t b (fun y hy=>h y (by simp [hy]))];rfl
theorem QL(c:UInt8):∀(a:Str),(∀x∈a,x≠c)->Zl c a=[a]
 |[],_=>rfl
 |x::t,h=>by
  rw [Zl,if_neg (h x s_),QL c t (fun y hy=>h y (by simp [hy]))];rfl
theorem ZaZ(c:UInt8):∀s:Str,(Lib.indexByte s c = -1/\∀x∈s,x≠c)\/∃(i:Nat) (a b:Str),Lib.indexByte s c=i/\s=a++c::b/\a.length=i/\∀x∈a,x≠c
 |[]=>.inl ⟨rfl,s_⟩
 |x::t=>by
  by_cases hx:x=c
  ·subst hx
   exact .inr ⟨0,[],t,by simp [Lib.indexByte],rfl,rfl,s_⟩
  ·rcases ZaZ c t with ⟨h1,h2⟩|⟨i,a,b,h1,h2,h3,h4⟩
   ·exact .inl ⟨by simp [Lib.indexByte,hx,h1],by
     intro y hy;rcases List.mem_cons.1 hy with rfl|hy
     ·exact hx
     ·exact h2 y hy⟩
   ·refine .inr ⟨i+1,x::a,b,?_,by rw [h2];rfl,by simp [h3],?_⟩
    ·have hne:¬((i:Int) = -1):=o_
     simp [Lib.indexByte,hx,h1,hne]
    ·intro y hy
     rcases List.mem_cons.1 hy with rfl|hy
     ·exact hx
     ·exact h4 y hy
theorem YP(c:UInt8):∀(s:Str) x,x∈Zl c s->x.length<=s.length
 |[],x,h=>by simp [Zl] at h;subst h;simp
 |y::t,x,h=>by
  unfold Zl at h;split at h
  ·rcases List.mem_cons.1 h with rfl|h
   ·simp
   ·have:=YP c t x h;simp;omega
  ·have ih:=YP c t
   cases hs:Zl c t with
   |nil=>exact absurd hs (Qr c t)
   |cons a r=>
    rw [hs] at h ih;simp only [ZfH] at h;rcases List.mem_cons.1 h with rfl|h
    ·have:=ih a s_;simp;omega
    ·have:=ih x (by simp [h]);simp;omega
theorem YG(c:UInt8):∀(s:Str),(Zl c s).length<=s.length+1
 |[]=>by simp [Zl]
 |y::t=>by
  have ih:=YG c t;unfold Zl;split
  ·simp;omega
  ·cases hs:Zl c t with
   |nil=>exact absurd hs (Qr c t)
   |cons a r=>rw [hs] at ih;simp [ZfH] at ih⊢;omega
structure Yc where
 from_:Int
 to_:Int
 step:Int
deriving DecidableEq
def ZQ(s:Str):Int×Bool:=if Qk s 4 isDigit=true then ((ZaB s:Nat),true) else (0,false)
def XP(b:Str)(st:Int):Option Yc:=
 if b=[42] then some ⟨-1,-1,st⟩
 else if (ZQ (Lib.cut b [46,46]).1).2=false then none
 else if (Lib.cut b [46,46]).2.2=true then (if (ZQ (Lib.cut b [46,46]).2.1).2=true then some ⟨(ZQ (Lib.cut b [46,46]).1).1,(ZQ (Lib.cut b [46,46]).2.1).1,st⟩ else none)
 else some ⟨(ZQ (Lib.cut b [46,46]).1).1,-1,st⟩
def ZF(s:Str):Option Yc:=
 if (Lib.cut s [47]).2.2=true then
  (if (ZQ (Lib.cut s [47]).2.1).2=false\/(ZQ (Lib.cut s [47]).2.1).1=0 then none else XP (Lib.cut s [47]).1 (ZQ (Lib.cut s [47]).2.1).1)
 else XP (Lib.cut s [47]).1 0
def Yr:List Str->Option (List Yc)
 |[]=>some []
 |x::t=>match ZF x with
  |none=>none
  |some p=>(Yr t).map fun r=>p::r
def QK(s:Str):Option (List Yc):=Yr (Zl 44 s)
theorem Zpy(x:Str)(h:10<(x.takeWhile isDigit).length):JN x=(0,false):=by
 unfold JN;rw [if_pos (.inr (.inl h))]
theorem ZhU(x:Str)(h:(x.takeWhile isDigit).length<1):JN x=(0,false):=by
 unfold JN;rw [if_pos (.inl h)]
theorem Zkc(x:Str)(h:ZbL (x.drop (x.takeWhile isDigit).length)=0):JN x=(0,false):=by
 unfold JN;rw [if_pos (.inr (.inr h))]
theorem Zou(x:Str)(h1:¬(x.takeWhile isDigit).length<1)(h2:¬10<(x.takeWhile isDigit).length)(h3:ZbL (x.drop (x.takeWhile isDigit).length)≠0) :
  JN x=(((ZaB (x.take (x.takeWhile isDigit).length):Nat):Int)*ZbL (x.drop (x.takeWhile isDigit).length),true):=by
 unfold JN;rw [if_neg (by rintro (h|h|h)<;>first|exact h1 h|exact h2 h|exact h3 h)]
theorem ZdK(x:Str)(t:List Str)(n:Int)(h:(JN x).2=false):XG (x::t) n=none:=by
 rw [XG,if_pos h]
theorem Zdu(x:Str)(t:List Str)(n m:Int)(h:JN x=(m,true))(hb:n+m>6311433600):XG (x::t) n=none:=by
 rw [XG,h,if_neg s_,if_pos hb]
theorem Zmw(x:Str)(t:List Str)(n m:Int)(h:JN x=(m,true))(hb:¬n+m>6311433600):XG (x::t) n=XG t (n+m):=by
 rw [XG,h,if_neg s_,if_neg hb]
theorem ZkJ(n u:Int)(hu:0<u)(hn:0<=n)(h:¬n<=6311433600 / u):n*u>6311433600:=by
 have h1:6311433600 / u+1<=n:=o_;have h2:(6311433600 / u+1)*u<=n*u:=Int.mul_le_mul_of_nonneg_right h1 (Int.le_of_lt hu);have h3:=Int.emod_add_mul_ediv 6311433600 u;have h4:=Int.emod_lt_of_pos 6311433600 hu;rw [Int.add_mul,Int.one_mul,Int.mul_comm (6311433600 / u) u] at h2;omega
theorem ZhG(n u:Int)(hu:0<u)(hn:0<=n)(h:n<=6311433600 / u):n*u<=6311433600:=by
 have h1:n<=6311433600 / u:=h;have h2:n*u<=(6311433600 / u)*u:=Int.mul_le_mul_of_nonneg_right h1 (Int.le_of_lt hu);have h3:=Int.emod_add_mul_ediv 6311433600 u;have h4:=Int.emod_nonneg 6311433600 (Int.ne_of_gt hu);rw [Int.mul_comm (6311433600 / u) u] at h2;omega
theorem Zpu(x:Str)(k:Nat)(h:k<x.length):ZaB (x.take (k+1))=ZaB (x.take k)*10+(x[k].toNat-48):=by
 rw [List.take_succ_eq_append_getElem h];exact ZhW 0 _ _
end Go.Proofs.YtgoooebfhdbbkaaGreatDoor
