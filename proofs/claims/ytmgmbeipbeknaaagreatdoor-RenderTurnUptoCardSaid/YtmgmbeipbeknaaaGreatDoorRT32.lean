import Derived.Lib.ItoaNum
import Derived.Test.YtmgmbeipbeknaaaGreatDoorRT2
import Derived.Test.YtmgmbeipbeknaaaGreatDoorRT27
namespace Go.Proofs.YtmgmbeipbeknaaaGreatDoor
set_option linter.unusedVariables false
set_option linter.unusedSimpArgs false
set_option maxHeartbeats 16000000
def Xw(u v:UV):Bool:=(List.range 35).all fun j=>u j==v j
theorem Zfq{u v:UV}(h:∀j,j<35->u j=v j):Xw u v=true:=by
 unfold Xw;rw [List.all_eq_true];intro j hj;rw [h j (List.mem_range.1 hj)];exact beq_self_eq_true _
theorem ZaC{u v:UV}(h:Xw u v=true)(j:Nat)(hj:j<35):u j=v j:=by
 unfold Xw at h;exact eq_of_beq (List.all_eq_true.1 h j (List.mem_range.2 hj))
theorem Zlw(u v:UV):Xw u v=Xw v u:=by
 cases e:Xw u v with
 |true=>exact (Zfq fun j hj=>(ZaC e j hj).symm).symm
 |false=>
  cases e2:Xw v u with
  |false=>rfl
  |true=>rw [Zfq fun j hj=>(ZaC e2 j hj).symm] at e;cases e
def UC.bool:UC->Bool|.b x=>x|_=>false
theorem Zaz:∀(r:List Str) (s:Str) (n:Nat),(Yu s r n).2.1.length<=r.length
 |[],s,n=>by unfold Yu;split<;>simp
 |x::r,s,n=>by
  unfold Yu;split
  ·split
   ·have:=Zaz r s (n+1);simp;omega
   ·have:=Zaz r (s.dropLast++[32]++x) (n+1);simp at this⊢;omega
  ·simp
theorem Zbu:∀(f g:Nat) (r:List Str) (n:Nat),r.length<f->r.length<g->Jq f r n=Jq g r n
 |0,_,_,_,h,_=>absurd h o_
 |_,0,_,_,_,h=>absurd h o_
 |f+1,g+1,[],n,_,_=>rfl
 |f+1,g+1,x::r,n,h1,h2=>by
  simp only [List.length_cons] at h1 h2;unfold Jq;split
  ·exact Zbu f g r _ o_ o_
  ·have:=Zaz r x (n+1)
   rw [Zbu f g _ _ o_ o_]
def YS(r:List Str)(n:Nat):List (Str×Nat):=Jq (r.length+1) r n
theorem Zlr(n:Nat):YS [] n=[]:=rfl
theorem ZbZ{x:Str}{r:List Str}{n:Nat}(h:(YF x||JZ x)=true):YS (x::r) n=YS r (n+1):=by
 unfold YS;rw [List.length_cons]
 conv=>lhs;unfold Jq
 rw [if_pos h]
theorem Zei{x:Str}{r:List Str}{n:Nat}(h:(YF x||JZ x)=false):YS (x::r) n=((Yu x r (n+1)).1,n+1)::YS (Yu x r (n+1)).2.1 (Yu x r (n+1)).2.2:=by
 have:=Zaz r x (n+1)
 unfold YS;rw [List.length_cons]
 conv=>lhs;unfold Jq
 rw [if_neg (by simp [h]),Zbu (r.length+1) ((Yu x r (n+1)).2.1.length+1) _ _ o_ o_]
theorem ZfC{x:Str}{r:List Str}{n:Nat}(h:YD x=false):Yu x r n=(x,r,n):=by
 cases r<;>simp [Yu,h]
theorem Zc3{x:Str}{r:List Str}{n:Nat}(h:(YF x||JZ x)=false)(hg:YD x=false):YS (x::r) n=(x,n+1)::YS r (n+1):=by
 rw [Zei h,ZfC hg]
theorem ZhE(r:List Str):Zlp r=Qn (YS r 0) [] []:=rfl
theorem Qk{a:Str}(h:a.contains 10=false)(b:Str):YW (a++10::b)=a::YW b:=by
 induction a with
 |nil=>simp [YW]
 |cons c r ih=>
  rw [List.contains_cons,Bool.or_eq_false_iff] at h;have hc:(c==10)=false:=by
   rw [beq_eq_false_iff_ne];intro e;subst e;simp at h
  rw [List.cons_append]
  conv=>lhs;unfold YW
  rw [hc,ih h.2];rfl
theorem ZhA:∀(t:Str),(YW t).length<=t.length+1
 |[]=>by simp [YW]
 |c::r=>by
  have ih:=ZhA r;unfold YW;split
  ·simp;omega
  ·split
   ·simp
   ·rename_i h;rw [h] at ih;simp at ih⊢;omega
def Qy:List Str->Nat
 |[]=>0
 |x::r=>x.length+1+Qy r
theorem Zfr:∀(t:Str),Qy (YW t)=t.length+1
 |[]=>by simp [YW,Qy]
 |c::r=>by
  have ih:=Zfr r;unfold YW;split
  ·simp [Qy];omega
  ·split
   ·rename_i h;rw [h] at ih;simp [Qy] at ih
   ·rename_i h;rw [h] at ih;simp [Qy] at ih⊢;omega
theorem Zd0{s:Str}(h:YD s=true):s≠[]:=by
 intro e;subst e;simp [YD] at h
theorem ZcA:∀(r:List Str) (s:Str) (n:Nat),(Yu s r n).1.length+Qy (Yu s r n).2.1<=s.length+Qy r
 |[],s,n=>by
  unfold Yu;split
  ·rename_i h
   have:=List.length_pos_iff.2 (Zd0 h)
   simp [Qy];omega
  ·simp
 |x::r,s,n=>by
  unfold Yu;split
  ·rename_i h
   have hp:=List.length_pos_iff.2 (Zd0 h);split
   ·have:=ZcA r s (n+1);simp [Qy];omega
   ·have:=ZcA r (s.dropLast++[32]++x) (n+1);simp [Qy] at this⊢;omega
  ·simp
theorem Zdf{l:Str}{p:UInt8->Bool}(h:∀c t,l=c::t->p c=false):l.dropWhile p=l:=by
 cases l with
 |nil=>rfl
 |cons c t=>rw [List.dropWhile_cons,if_neg (by simp [h c t rfl])]
theorem Zix{l:Str}{p:UInt8->Bool}{c:UInt8}{t:Str}(h:l.dropWhile p=c::t):p c=false:=by
 induction l with
 |nil=>simp at h
 |cons a r ih=>
  rw [List.dropWhile_cons] at h;split at h
  ·exact ih h
  ·injection h with h1 h2;subst h1;exact Bool.eq_false_iff.2 ‹_›
theorem Zfx{l:Str}(h1:∀c t,l=c::t->Zg c=false)(h2:∀c,l.getLast?=some c->Zg c=false):trimS l=l:=by
 unfold trimS;rw [Zdf (l:=l.reverse) (by
  intro c t e;apply h2
  have:l=t.reverse++[c]:=by rw [<-List.reverse_reverse l,e];simp
  rw [this];simp)]
 rw [List.reverse_reverse];exact Zdf h1
theorem ZpJ(l:Str):(l.reverse.dropWhile Zg).reverse <+: l:=by
 have:=List.dropWhile_suffix (l:=l.reverse) Zg
 have:=List.reverse_prefix.2 this
 simpa using this
theorem ZkG(l:Str):trimS l <:+: l:=by
 unfold trimS;exact ((List.dropWhile_suffix Zg).isInfix).trans (ZpJ l).isInfix
theorem Xu(l:Str):(trimS l).length<=l.length:=(ZkG l).length_le
theorem Zlj{l:Str}{c:UInt8}(h:(trimS l).getLast?=some c):Zg c=false:=by
 have h1:(l.reverse.dropWhile Zg).reverse.getLast?=some c:=by
  obtain ⟨p,hp⟩:=List.dropWhile_suffix (l:=(l.reverse.dropWhile Zg).reverse) Zg;unfold trimS at h;rw [<-hp,List.getLast?_append,h];rfl
 rw [List.getLast?_reverse] at h1;cases hl:l.reverse.dropWhile Zg with
 |nil=>rw [hl] at h1;simp at h1
 |cons a r=>
  rw [hl] at h1;simp at h1;subst h1;exact Zix hl
theorem ZaH:∀{s k v:Str},XV s=some (k,v)->s=k++61::v
 |[],_,_,h=>by simp [XV] at h
 |c::r,k,v,h=>by
  unfold XV at h;split at h
  ·rename_i hc
   simp at h;obtain ⟨rfl,rfl⟩:=h;simp at hc;simp [hc]
  ·split at h
   ·rename_i a b hr
    simp at h;obtain ⟨rfl,rfl⟩:=h;rw [ZaH hr];simp
   ·cases h
theorem ZoD{k:Str}(h:k.contains 61=false)(v:Str):XV (k++61::v)=some (k,v):=by
 induction k with
 |nil=>simp [XV]
 |cons c r ih=>
  rw [List.contains_cons,Bool.or_eq_false_iff] at h;have hc:(c==61)=false:=by
   rw [beq_eq_false_iff_ne];intro e;subst e;simp at h
  rw [List.cons_append]
  conv=>lhs;unfold XV
  rw [hc,ih h.2];rfl
theorem m92_{p:Prop}(h:p:=by simp only [h,Bool.not_true,Bool.false_or] at this;exact of_decide_eq_true this):p:=h
theorem Zqp{p:UInt8->Bool}(h:∀n:Fin 256,p (UInt8.ofNat n)=true)(c:UInt8):p c=true:=by
 have:=h ⟨c.toNat,UInt8.toNat_lt c⟩
 simpa using this
theorem ZdC(c:UInt8)(h:ZR c=true):Zg c=false/\XW c=false/\c≠10/\c≠61/\c≠92/\c≠91/\c≠35/\c≠59/\c≠93:=by
 have:=Zqp (p:=fun c=>!ZR c||decide (Zg c=false/\XW c=false/\c≠10/\c≠61/\c≠92/\c≠91/\c≠35/\c≠59/\c≠93)) n4_ c
 exact m92_
theorem XC(c:UInt8)(h:(ZR c||isDigit c)=true):Zg c=false/\XW c=false/\c≠10/\c≠61/\c≠92/\c≠91/\c≠35/\c≠59/\c≠93:=by
 have:=Zqp (p:=fun c=>!(ZR c||isDigit c)||decide (Zg c=false/\XW c=false/\c≠10/\c≠61/\c≠92/\c≠91/\c≠35/\c≠59/\c≠93)) n4_ c
 exact m92_
theorem Zsf:XW 10=true:=d_
theorem ZnQ{v:Str}(h:Xo v=true):v.contains 10=false:=by
 rw [<-Bool.not_eq_true,List.contains_iff_mem];intro hm
 have:=List.all_eq_true.1 h 10 hm
 simp [Zsf] at this
theorem Zad{s:Str}(h:XJ s=true):s≠[]/\s.length<=20/\∀c∈s,ZR c=true:=by
 simp only [XJ,Bool.and_eq_true,decide_eq_true_eq,List.all_eq_true] at h;exact ⟨n66_,h.1.2,h.2⟩
theorem QK{s:Str}(h:ZaI s=true):s≠[]/\s.length<=40/\∀c∈s,(ZR c||isDigit c)=true:=by
 simp only [ZaI,Bool.and_eq_true,decide_eq_true_eq,List.all_eq_true] at h;exact ⟨n66_,h.1.2,h.2⟩
structure ZeO(l:Ln):Prop where
 sec:XJ l.sec=true
 key:ZaI l.key=true
 good:Xo l.val=true
 trim:trimS l.val=l.val
 back:YD l.val=false
 len:l.key.length+1+l.val.length<=400
theorem Zoo(l:Ln):Qt l=true↔ZeO l:=by
 simp only [Qt,Bool.and_eq_true,decide_eq_true_eq,beq_iff_eq,Bool.not_eq_true'];exact ⟨fun ⟨⟨⟨⟨⟨a,b⟩,c⟩,d⟩,e⟩,f⟩=>⟨a,b,c,d,e,f⟩,fun h=>⟨⟨⟨⟨⟨h.sec,h.key⟩,h.good⟩,h.trim⟩,h.back⟩,h.len⟩⟩
def Qi(sec:Str):Str:=91::sec++[93]
def Xz(l:Ln):Str:=l.key++61::l.val
theorem ZkF(sec r:Str):Zcu sec++r=Qi sec++10::r:=by simp [Zcu,Qi]
theorem Zgl(l:Ln)(r:Str):ZbU l++r=Xz l++10::r:=by simp [ZbU,Xz]
theorem ZfB{sec:Str}(h:XJ sec=true):(Qi sec).contains 10=false:=by
 obtain ⟨h0,h1,h2⟩:=Zad h;rw [<-Bool.not_eq_true,List.contains_iff_mem];simp only [Qi,List.cons_append,List.mem_cons,List.mem_append,List.mem_nil_iff,or_false];rintro (e|e|e)
 ·cases e
 ·exact (ZdC _ (h2 _ e)).2.2.1 rfl
 ·cases e
theorem ZcS{l:Ln}(h:ZeO l):(Xz l).contains 10=false:=by
 obtain ⟨h0,h1,h2⟩:=QK h.key;rw [<-Bool.not_eq_true,List.contains_iff_mem];simp only [Xz,List.mem_cons,List.mem_append];rintro (e|e|e)
 ·exact (XC _ (h2 _ e)).2.2.1 rfl
 ·cases e
 ·have:=ZnQ h.good
  rw [<-Bool.not_eq_true,List.contains_iff_mem] at this;exact this e
theorem Ze7(sec:Str):(Qi sec).getLast?=some 93:=by
 show (((91:UInt8)::sec)++[93]).getLast?=_;rw [List.getLast?_append];rfl
theorem Zlo(sec:Str):YD (Qi sec)=false:=by rw [YD,Ze7];rfl
theorem Zlk{l:Ln}(h:ZeO l):YD (Xz l)=false:=by
 have hb:=h.back;unfold YD Xz at *;rw [List.getLast?_append,List.getLast?_cons];cases hv:l.val.getLast? with
 |none=>simp
 |some c=>rw [hv] at hb;simpa using hb
theorem Zeg(sec:Str):trimS (Qi sec)=Qi sec:=by
 refine Zfx ?_ ?_
 ·intro c t h;simp only [Qi,List.cons_append] at h;injection h with h1 h2;subst h1;decide
 ·intro c h;rw [Ze7] at h;injection h with h;subst h;decide
theorem ZnK{k:Str}(h:ZaI k=true):trimS k=k:=by
 obtain ⟨h0,h1,h2⟩:=QK h;refine Zfx ?_ ?_
 ·intro c t e;exact (XC _ (h2 c (by rw [e];simp))).1
 ·intro c e;exact (XC _ (h2 c (List.mem_of_getLast? e))).1
theorem Zek{l:Ln}(h:ZeO l):trimS (Xz l)=Xz l:=by
 obtain ⟨h0,h1,h2⟩:=QK h.key;refine Zfx ?_ ?_
 ·intro c t e
  obtain ⟨a,r,hk⟩:=List.exists_cons_of_ne_nil h0;unfold Xz at e;rw [hk] at e;injection e with e1 e2
  subst e1;exact (XC _ (h2 _ (by rw [hk];simp))).1
 ·intro c e
  unfold Xz at e;rw [List.getLast?_append,List.getLast?_cons] at e;cases hv:l.val.getLast? with
  |none=>rw [hv] at e;simp at e;subst e;decide
  |some d=>
   rw [hv] at e;simp at e;subst e
   have:=Zlj (l:=l.val) (c:=d) (by rw [h.trim];exact hv)
   exact this
theorem Zmk(sec:Str):(YF (Qi sec)||JZ (Qi sec))=false:=by
 unfold YF JZ;rw [Zeg];rfl
theorem Zld{l:Ln}(h:ZeO l):(YF (Xz l)||JZ (Xz l))=false:=by
 obtain ⟨h0,h1,h2⟩:=QK h.key;unfold YF JZ;rw [Zek h];obtain ⟨a,r,hk⟩:=List.exists_cons_of_ne_nil h0
 have:=XC a (h2 a (by rw [hk];simp))
 unfold Xz;rw [hk];simp [this]
theorem Zl4{sec:Str}(h:XJ sec=true):Xo (Qi sec)=true:=by
 obtain ⟨h0,h1,h2⟩:=Zad h;unfold Xo;rw [List.all_eq_true];simp only [Qi,List.cons_append,List.mem_cons,List.mem_append,List.mem_nil_iff,or_false];rintro c (rfl|e|rfl)
 ·decide
 ·simp [(ZdC _ (h2 _ e)).2.1]
 ·decide
theorem Zk6{l:Ln}(h:ZeO l):Xo (Xz l)=true:=by
 obtain ⟨h0,h1,h2⟩:=QK h.key;unfold Xo;rw [List.all_eq_true];simp only [Xz,List.mem_cons,List.mem_append];rintro c (e|rfl|e)
 ·simp [(XC _ (h2 _ e)).2.1]
 ·decide
 ·exact List.all_eq_true.1 h.good c e
theorem ZlI(sec name:Str)(h:XJ name=true):J5 sec (Qi name)=.sect name:=by
 have hl:=(Zad h).2.1;unfold J5;rw [if_pos (Zl4 h),if_pos (by simp [Qi];omega),Zeg];simp [Qi,h]
theorem Zlc(sec:Str)(hs:sec≠[]){l:Ln}(h:ZeO l):J5 sec (Xz l)=.pair l.key l.val:=by
 obtain ⟨h0,h1,h2⟩:=QK h.key;have hlen:=h.len;unfold J5;rw [if_pos (Zk6 h),if_pos (by simp [Xz];omega),Zek h];have hc:XV (Xz l)=some (l.key,l.val):=by
  refine ZoD ?_ _;rw [<-Bool.not_eq_true,List.contains_iff_mem];intro e;exact (XC _ (h2 _ e)).2.2.2.1 rfl
 obtain ⟨a,r,hk⟩:=List.exists_cons_of_ne_nil h0;have ha:=XC a (h2 a (by rw [hk];simp));have hp:Xz l=a::(r++61::l.val):=by simp [Xz,hk]
 rw [hp] at hc⊢;have h91:(a==91)=false:=by simpa using ha.2.2.2.2.2.1
 have hsec:sec.isEmpty=false:=by simpa using hs
 simp only [h91,hc,ZnK h.key,h.key,h.trim,hsec];simp
def Q9:Option Str->List Ln->List Str
 |_,[]=>[]
 |none,l::r=>Qi l.sec::Xz l::Q9 (some l.sec) r
 |some s,l::r=>(if l.sec=s then [] else [[],Qi l.sec])++Xz l::Q9 (some l.sec) r
def YJ:Option Str->List Ln->Nat->List Ln
 |_,[],_=>[]
 |none,l::r,n=>{ l with at_:=((n+2:Nat):Int) }::YJ (some l.sec) r (n+2)
 |some s,l::r,n=>if l.sec=s then { l with at_:=((n+1:Nat):Int) }::YJ (some l.sec) r (n+1) else { l with at_:=((n+3:Nat):Int) }::YJ (some l.sec) r (n+3)
def Zdv(sec:Str):List Ln->Str
 |[]=>sec
 |l::r=>Zdv l.sec r
theorem Zb6:∀(l:List Ln) (p:Option Str) (more:Str),(∀x∈l,ZeO x)->YW (Yt p l++more)=Q9 p l++YW more
 |[],p,more,_=>by cases p<;>simp [Yt,Q9]
 |x::r,none,more,h=>by
  have hx:=h x s_;simp only [Yt,Q9];rw [List.append_assoc,List.append_assoc,ZkF,Qk (ZfB hx.sec),Zgl,Qk (ZcS hx),Zb6 r _ more (fun y hy=>h y n83_)];simp
 |x::r,some s,more,h=>by
  have hx:=h x s_;simp only [Yt,Q9];split
  ·rw [List.nil_append,List.append_assoc,Zgl,Qk (ZcS hx),Zb6 r _ more (fun y hy=>h y n83_)]
   simp
  ·rw [List.append_assoc,List.append_assoc,List.cons_append,ZkF]
   have:=Qk (a:=[]) n13_ (Qi x.sec++10::(ZbU x++(Yt (some x.sec) r++more)))
   rw [List.nil_append] at this;rw [this,Qk (ZfB hx.sec),Zgl,Qk (ZcS hx),Zb6 r _ more (fun y hy=>h y n83_)];simp
theorem Zhu{name sec:Str}(h:XJ name=true)(R:List Str)(n:Nat)(out:List Ln):Qn (YS (Qi name::R) n) sec out=Qn (YS R (n+1)) name out:=by
 rw [Zc3 (Zmk _) (Zlo _)];simp only [Qn,ZlI sec name h]
theorem ZdO{x:Ln}(h:ZeO x)(R:List Str)(n:Nat)(out:List Ln):Qn (YS (Xz x::R) n) x.sec out=Qn (YS R (n+1)) x.sec (out++[{ x with at_:=((n+1:Nat):Int) }]):=by
 rw [Zc3 (Zld h) (Zlk h)];simp only [Qn,Zlc x.sec (Zad h.sec).1 h]
theorem Zg4(R:List Str)(n:Nat)(sec:Str)(out:List Ln):Qn (YS ([]::R) n) sec out=Qn (YS R (n+1)) sec out:=by
 rw [ZbZ d_]
theorem Zcb:∀(l:List Ln) (p:Option Str) (n:Nat) (sec:Str) (out:List Ln) (R:List Str),(∀x∈l,ZeO x)->(∀s,p=some s->s=sec)->
  Qn (YS (Q9 p l++R) n) sec out=Qn (YS R (n+(Q9 p l).length)) (Zdv sec l) (out++YJ p l n)
 |[],p,n,sec,out,R,_,_=>by cases p<;>simp [Q9,YJ,Zdv]
 |x::r,none,n,sec,out,R,h,_=>by
  have hx:=h x s_;simp only [Q9,YJ,Zdv,List.cons_append];rw [Zhu hx.sec,ZdO hx,Zcb r (some x.sec) _ x.sec _ R (fun y hy=>h y n83_) (fun s e=>by injection e with e;exact e.symm)];simp only [List.length_cons,List.append_assoc,List.singleton_append];rw [show n+1+1+(Q9 (some x.sec) r).length=n+((Q9 (some x.sec) r).length+1+1) by omega]
 |x::r,some s,n,sec,out,R,h,hs=>by
  have hx:=h x s_
  have:=hs s rfl
  subst this;simp only [Q9,YJ,Zdv];split
  ·rename_i e
   subst e;rw [List.nil_append,List.cons_append,ZdO hx,Zcb r (some x.sec) _ x.sec _ R (fun y hy=>h y n83_) (fun s e=>by injection e with e;exact e.symm)];simp only [List.length_cons,List.append_assoc,List.singleton_append];rw [show n+1+(Q9 (some x.sec) r).length=n+((Q9 (some x.sec) r).length+1) by omega]
  ·simp only [List.cons_append,List.nil_append]
   rw [Zg4,Zhu hx.sec,ZdO hx,Zcb r (some x.sec) _ x.sec _ R (fun y hy=>h y n83_) (fun s e=>by injection e with e;exact e.symm)];simp only [List.length_cons,List.append_assoc,List.singleton_append];rw [show n+1+1+1+(Q9 (some x.sec) r).length=n+((Q9 (some x.sec) r).length+1+1+1) by omega]
inductive YL:List Ln->List Ln->Prop where
 |nil:YL [] []
 |cons {a b:Ln} {l m:List Ln} (h:Zsa a b) (t:YL l m):YL (a::l) (b::m)
theorem Zdx:∀(l:List Ln) (p:Option Str) (n:Nat),YL l (YJ p l n)
 |[],p,n=>by cases p<;>exact .nil
 |x::r,none,n=>.cons ⟨rfl,rfl,rfl⟩ (Zdx r _ _)
 |x::r,some s,n=>by
  unfold YJ;split
  ·exact .cons ⟨rfl,rfl,rfl⟩ (Zdx r _ _)
  ·exact .cons ⟨rfl,rfl,rfl⟩ (Zdx r _ _)
theorem Zrr{l:List Ln}(h:l.all Qt=true):∀x∈l,ZeO x:=fun x hx=>(Zoo x).1 (List.all_eq_true.1 h x hx)
theorem Zl0{l:List Ln}(h:ZdE l=true):(∀x∈l,ZeO x)/\(Qa l).length<=20000:=by
 simp only [ZdE,Bool.and_eq_true,decide_eq_true_eq] at h;exact ⟨Zrr h.1,h.2⟩
theorem ZkH{l:List Ln}(h:ZdE l=true):ZhX (Qa l)=.ok (YJ none l 0):=by
 obtain ⟨h1,h2⟩:=Zl0 h;unfold ZhX;rw [if_pos h2,ZhE];have h3:=Zb6 l none [] h1;rw [List.append_nil] at h3;unfold Qa;rw [h3,Zcb l none 0 [] [] (YW []) h1 s_];rw [show YW []=[[]] from rfl,Zg4];simp [Zlr,Qn]
set_option maxRecDepth 100000
def Yf(n:Int)(u:Str):List Str:=if 0<n then [Go.Lib.itoa n++u] else []
def Zcv(n:Int):Str:=
 if n=1099511627776 then [105,110,102,105,110,105,116,121]
 else if n<0\/6311433600<n then []
 else if n=0 then [48]
 else YB [32] (Yf (n / 86400) [100]++Yf (n % 86400 / 3600) [104]++Yf (n % 3600 / 60) [109,105,110]++Yf (n % 60) [115])
def XE:List Str:=[XT,Zf0,JA,ZbF,Zc1,JQ,ZdB,Ze6,JI]
def Xh(r:Int):Str:=if 1<=r/\r<=9 then XE.getD (r-1).toNat [] else []
def Ji(k:ZQ)(n:Int):Str:=
 if k.form=4 then Zcv n else if k.form=10 then (if n<1\/k.words.length<n then [] else k.words.getD (n-1).toNat []) else Go.Lib.itoa n
def Zfo(b:Bool):Str:=if b then [121,101,115] else [110,111]
def Zbk(u f:UV)(k:ZQ):List Str:=
 if u (Zh k.name)=f (Zh k.name) then []
 else if k.form=1\/k.form=5 then [(u (Zh k.name)).str]
 else if k.form=2 then [Zfo (u (Zh k.name)).bool]
 else [Ji k (u (Zh k.name)).num]
def Zaw(c:Qs):Str:=(if c.1 then [45] else [])++join c.2
def Zbl(u:UV)(k:ZQ):List Str:=
 if k.form=7 then (u (Zh k.name)).cmds.map Zaw
 else if k.form=4\/k.form=11 then (u (Zh k.name)).nums.map (Ji k)
 else (u (Zh k.name)).strs
def pairT(p:Str×Str):Str:=join [p.1++61::p.2]
def J2(u f:UV)(k:ZQ):List (Str×Str):=
 if k.name=XT then (u 4).rels.map fun r=>(Xh r.1,r.2)
 else if Yp k.name≠0 then []
 else if k.name=Yh then (u 19).prs.map fun p=>(k.name,pairT p)
 else if (k.name=Yr/\(u 1).num=3)\/(k.name=Zaj/\(u 1).num≠3) then []
 else (if k.list then Zbl u k else Zbk u f k).map fun s=>(k.name,s)
def lnT(k:ZQ)(p:Str×Str):Ln:=⟨k.sec,p.1,Xy p.2,0⟩
def ZeQ(u:UV):List Ln:=Zf.flatMap fun k=>(J2 u (ZT (u 0).str) k).map (lnT k)
def XH(u:UV):List Ln:=YJ none (ZeQ u) 0
def Zci(u:UV):Bool:=((Qu (u 0).str (XH u)).2==(0,0))&&(Xw (Qu (u 0).str (XH u)).1 u&&ZdE (XH u))
def Z4(u:UV):List Ln:=if Zci u then XH u else []
def X8(u:UV):Str:=Zig (Z4 u)
end Go.Proofs.YtmgmbeipbeknaaaGreatDoor
