import Derived.Test.YtmgmbeipbeknaaaGreatDoorRT27
import Derived.Test.YtmgmbeipbeknaaaGreatDoorRT32
namespace Go.Proofs.YtmgmbeipbeknaaaGreatDoor
set_option linter.unusedVariables false
set_option linter.unusedSimpArgs false
set_option maxHeartbeats 16000000
set_option maxRecDepth 100000
theorem Zb3:∀(l:List Ln) (p:Option Str) (n m:Nat),YJ p (YJ p l m) n=YJ p l n
 |[],p,n,m=>by cases p<;>rfl
 |x::r,none,n,m=>by
  simp only [YJ];rw [Zb3]
 |x::r,some s,n,m=>by
  by_cases h:x.sec=s
  ·subst h
   simp only [YJ,if_true];rw [Zb3]
  ·simp only [YJ,h,if_false]
   rw [Zb3]
theorem ZrB{u:UV}(h:Zci u=false):X8 u=[]/\Z4 u=[]:=by
 unfold X8 Z4;rw [h];exact ⟨rfl,rfl⟩
theorem Jv{u:UV}(h:Zci u=true):(Qu (u 0).str (XH u)).2=(0,0)/\Xw (Qu (u 0).str (XH u)).1 u=true/\ZdE (XH u)=true:=by
 unfold Zci at h;simp only [Bool.and_eq_true] at h;exact ⟨eq_of_beq h.1,h.2.1,h.2.2⟩
theorem JV{u:UV}(h:Zci u=true):X8 u=Qa (XH u)/\Z4 u=XH u:=by
 unfold X8 Z4;rw [h,if_pos rfl];unfold Zig;rw [if_pos (Jv h).2.2];exact ⟨rfl,rfl⟩
theorem ZbV{u:UV}(h:Zci u=true):ZhX (X8 u)=.ok (Z4 u):=by
 obtain ⟨e1,e2⟩:=JV h;rw [e1,e2,ZkH (Jv h).2.2];unfold XH;rw [Zb3]
theorem Zpj(key:Str):Zh key<35:=by
 have h0:∀p∈ZiP,p.2<35:=d_;unfold Zh;cases h:ZiP.find? (fun p=>p.1==key) with
 |none=>decide
 |some p=>exact h0 p (List.mem_of_find?_eq_some h)
theorem ZoL{u v:UV}(h:Xw u v=true):ZeQ u=ZeQ v:=by
 have g:=fun j hj=>ZaC h j hj
 unfold ZeQ;congr 1;funext k;congr 1;have hs:=g _ (Zpj k.name);unfold J2 Zbl Zbk;rw [g 4 d_,g 19 d_,g 1 d_,g 0 d_,hs]
theorem ZkO{u v x:UV}(h:Xw u v=true)(g:Xw v x=true):Xw u x=true:=Zfq fun j hj=>(ZaC h j hj).trans (ZaC g j hj)
theorem ZnF{u v:UV}(hu:Zci u=true)(hv:Zci v=true)(h0:v 0=u 0):(X8 u==X8 v)=Xw u v:=by
 cases hs:Xw u v with
 |true=>
  have e:XH u=XH v:=by unfold XH;rw [ZoL hs]
  rw [(JV hu).1,(JV hv).1,e];exact beq_self_eq_true _
 |false=>
  cases ht:X8 u==X8 v with
  |false=>rfl
  |true=>
   have e:=ZbV hu;rw [eq_of_beq ht,ZbV hv] at e;have e2:Z4 v=Z4 u:=by injection e
   rw [(JV hu).2,(JV hv).2] at e2;have a:=(Jv hu).2.1;have b:=(Jv hv).2.1;rw [h0,e2] at b;rw [Zlw] at a;rw [ZkO a b] at hs;cases hs
theorem YL.erase{L M:List Ln}(h:YL L M):∀i,YL (L.eraseIdx i) (M.eraseIdx i):=by
 induction h with
 |nil=>intro i;exact .nil
 |cons hab ht ih=>
  intro i;cases i with
  |zero=>exact ht
  |succ i=>exact .cons hab (ih i)
theorem YL.symm{L M:List Ln}(h:YL L M):YL M L:=by
 induction h with
 |nil=>exact .nil
 |cons hab ht ih=>exact .cons ⟨hab.1.symm,hab.2.1.symm,hab.2.2.symm⟩ ih
theorem YL.len{L M:List Ln}(h:YL L M):L.length=M.length:=by
 induction h with
 |nil=>rfl
 |cons hab ht ih=>rw [List.length_cons,List.length_cons,ih]
theorem ZnV(name:Str)(j:Nat):(ZT name j).len=0:=by
 have hz:∀j,(ZF j).len=0:=by
  intro j;unfold ZF;(repeat' split);all_goals rfl
 have hu:∀(u:UV) (i:Nat) (c:UC),(∀j,(u j).len=0)->c.len=0->∀j,(u.upd i c j).len=0:=by
  intro u i c h hc j;unfold UV.upd;split
  ·exact hc
  ·exact h j
 unfold ZT;split
 ·exact hz j
 ·have hb:=hu _ 6 (.n 5) (hu _ 5 (.n 10) (hu _ 3 (.b true) (hu _ 1 (.n (ZH name:Nat)) (hu ZF 0 (.s name) hz rfl) rfl) rfl) rfl) rfl
  simp only;split
  ·exact hu _ 17 _ (hu _ 16 _ (hu _ 14 _ (hu _ 7 _ hb rfl) rfl) rfl) rfl j
  ·split
   ·exact hu _ 22 _ hb rfl j
   ·exact hb j
theorem Zqt(c:UC):c.strs.length<=c.len:=by cases c<;>simp [UC.strs,UC.len]
theorem ZqM(c:UC):c.rels.length<=c.len:=by cases c<;>simp [UC.rels,UC.len]
def NoB(u:UV):Prop:=(∀j∈([20,30,31,32,33]:List Nat),∀s∈(u j).strs,∀c∈s,c≠32)/\∀r∈(u 4).rels,∀c∈r.2,c≠32
theorem NoB.new(name:Str):NoB (ZT name):=by
 have h:=ZnV name;have hs:∀j,(ZT name j).strs=[]:=fun j=>by
  have:=Zqt (ZT name j)
  rw [h j] at this;exact List.eq_nil_of_length_eq_zero o_
 have hr:(ZT name 4).rels=[]:=by
  have:=ZqM (ZT name 4)
  rw [h 4] at this;exact List.eq_nil_of_length_eq_zero o_
 exact ⟨fun j _ s hm=>(by rw [hs j] at hm;cases hm),fun q hm=>(by rw [hr] at hm;cases hm)⟩
theorem Zor{name s v:Str}(hn:ZH name≠0)(h:QF (Xy s) name=.ok v):v=s:=by
 unfold QF at h;rw [if_neg hn,Zgg] at h;injection h with h
 exact h.symm
end Go.Proofs.YtmgmbeipbeknaaaGreatDoor
