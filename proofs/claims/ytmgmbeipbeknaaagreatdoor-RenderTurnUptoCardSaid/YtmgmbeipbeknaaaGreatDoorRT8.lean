import Derived.StillTail
import Derived.OrdersHeld
import Derived.Deep.RegionHeld
import Derived.Deep.RegionLawGrows
import Derived.Deep.LoopGhost
import Derived.IntWalk
import Derived.Lib.QuietBelow
import Derived.RangeFuncNested
import Derived.RangeFuncBound
import Derived.RangeFuncCalls
import Derived.RangeFuncLeaves
import Derived.Shelf.Abstract
import Derived.Shelf.RegionOpen
import Derived.WalkKit
import Derived.OwnWalkIn
import Derived.TacticsInMore
import Derived.LoopNIn
import Derived.LoopIn
import Derived.Sort.LoopGhostIn
import Derived.Test.YtmgmbeipbeknaaaGreatDoorRT1
import Derived.Test.YtmgmbeipbeknaaaGreatDoorRT2
import Derived.Test.YtmgmbeipbeknaaaGreatDoorRT4
import Derived.Test.YtmgmbeipbeknaaaGreatDoorRT6
namespace Go.Proofs.YtmgmbeipbeknaaaGreatDoor
open Go
set_option linter.unusedVariables false
set_option linter.unusedSimpArgs false
set_option maxHeartbeats 16000000
section
variable {P:Program} {ops:Array Oper} {Q:Exit->Act->World->Prop} {md:Region.Mode} {S:World->Prop}
def Zec(P:Program)(md:Region.Mode)(ops:Array Oper)(Q:Exit->Act->World->Prop)(S:World->Prop)(n:Nat)(L:Array Bool->Act->World->Prop):Nat->Array Bool->Act->World->Prop
 |0,b,a,w=>L b a w
 |f+1,b,a,w=>Region.ready md ops b≠[]/\∀i∈Region.ready md ops b,i<n/\wpOp P ops Q i (fun a' w'=>S w'/\Zec P md ops Q S n L f (b.setIfInBounds i true) a' w') a w
theorem ZgV{n g:Nat}{L:Array Bool->Act->World->Prop}(hL:∀b a w,L b a w->wpAny P md ops Q g b a w):∀(f:Nat) (b:Array Bool) (a:Act) (w:World),Zec P md ops Q S n L f b a w->wpAny P md ops Q (f+g) b a w
 |0,b,a,w,h=>by rw [Nat.zero_add];exact hL _ _ _ h
 |f+1,b,a,w,h=>by
  rw [show f+1+g=f+g+1 by omega];exact ⟨fun e=>absurd e h.1,fun i hi=>wpOp_mono (fun a' w' q=>ZgV hL f _ a' w' q.2) (h.2 i hi).2⟩
theorem Zim{n i j:Nat}{b:Array Bool}(hs:Region.sinkB md ops n=true)(hc:Region.chainB md ops n=true)(hn:n<ops.size)(inv:HeadInv md ops n b)(hin:i<n)(hi:i∈Region.ready md ops b)(hj:j∈Region.ready md ops b):j<n:=by
 rcases Nat.lt_or_ge j n with h|h
 ·exact h
 ·exact absurd hj (tail_waits hs hc hn inv _ i rfl hin (mem_ready.1 hi).1 j h)
theorem Zke{n i:Nat}{oi:Oper}{v:Value}{L:Array Bool->Act->World->Prop}(hi:ops[i]?=some oi)(hsel:∀(j:Nat) (o:Oper) cs b,ops[j]?=some o->o.op≠.select cs b)
  (hs:Region.sinkB md ops n=true) (hc:Region.chainB md ops n=true) (hn:n<ops.size) (hin:i<n)
  (hQ:∀c a w,Q (.panic c) (a.put oi.dst v) w->Q (.panic c) a w) (hdone:∀b a w,L b a w->∀j∈Region.ready md ops b,n<=j) (f:Nat) :
  ∀(b:Array Bool) (a:Act) (w:World),HeadInv md ops n b->
   (∀j oj,ops[j]?=some oj->j≠i->b.getD j true=false->(∀e∈oj.after,Region.binds md e=true->e.on≠i)->oi.apart ops oj=true)->
   i∈Region.ready md ops b->YieldsIf P ops S oi v a->S w->Zec P md ops Q S n L f (b.setIfInBounds i true) (a.put oi.dst v) w->Zec P md ops Q S n L (f+1) b a w:=by
 induction f with
 |zero=>
  intro b a w inv _ hr hy hS H;refine ⟨List.ne_nil_of_mem hr,fun j hj=>⟨Zim hs hc hn inv hin hr hj,?_⟩⟩;by_cases e:j=i
  ·subst e;exact hy.wpOp hi hS ⟨hS,H⟩
  ·have h1:=hdone _ _ _ H j (ready_mono hj e)
   have h2:=Zim hs hc hn inv hin hr hj;omega
 |succ f ih=>
  intro b a w inv hfree hr hy hS H;refine ⟨List.ne_nil_of_mem hr,fun j hj=>?_⟩;have hjn:=Zim hs hc hn inv hin hr hj;refine ⟨hjn,?_⟩;by_cases e:j=i
  ·subst e;exact hy.wpOp hi hS ⟨hS,H⟩
  ·obtain ⟨hju,oj,hoj,hall⟩:=mem_ready.1 hj
   have hno:∀e∈oj.after,Region.binds md e=true->e.on≠i:=by
    intro x hx hb q
    have:=hall x hx hb
    rw [q,getD_both (mem_ready.1 hr).1] at this;cases this
   have h2:=wpOp_putIf hoj (hfree j oj hoj e hju hno) (fun cs b=>hsel i oi cs b hi) (fun cs b=>hsel j oj cs b hoj) hQ hy (H.2 j (ready_mono hj e)).2;refine wpOp_mono (fun a' w' q=>⟨q.2.1,ih _ a' w' (inv.set hj hjn) (fun k ok hk hki hun hx=>hfree k ok hk hki ?_ hx) (ready_mono hr (Ne.symm e)) q.1 q.2.1 ?_⟩) h2
   ·by_cases z:j=k
    ·subst z;exact hju
    ·rwa [getD_set_ne true z] at hun
   ·rw [Array.setIfInBounds_comm _ _ e];exact q.2.2
def Zm3(P:Program)(md:Region.Mode)(ops:Array Oper)(Q:Exit->Act->World->Prop)(n:Nat)(b:Array Bool)(a:Act)(w:World):Prop:=
 Region.seqB md ops (ops.toList.drop n).length n b=true/\wpList P ops Q (ops.toList.drop n) a w
def ZaB(P:Program)(md:Region.Mode)(ops:Array Oper)(Q:Exit->Act->World->Prop)(S:World->Prop)(n f:Nat)(b:Array Bool)(a:Act)(w:World):Prop:=
 HeadInv md ops n b->Zec P md ops Q S n (Zm3 P md ops Q n) f b a w
def Zd2(md:Region.Mode)(ops:Array Oper)(n:Nat):Bool:=Region.noSelect ops&&(decide (n<ops.size)&&(Region.sinkB md ops n&&Region.chainB md ops n))
theorem Zew{n:Nat}(h:Zd2 md ops n=true):Region.noSelect ops=true/\n<ops.size/\Region.sinkB md ops n=true/\Region.chainB md ops n=true:=by
 simpa [Zd2] using h
theorem Yv{n i:Nat}{oi:Oper}{v:Value}{f:Nat}{b:Array Bool}{a:Act}{w:World}(hi:ops[i]?=some oi)(hok:Zd2 md ops n=true)(hin:decide (i<n)=true)
  (hf:Region.free md ops b i=true) (hr:(Region.ready md ops b).contains i=true) (hQ:∀c a w,Q (.panic c) (a.put oi.dst v) w->Q (.panic c) a w) (hy:YieldsIf P ops S oi v a) (hS:S w)
  (h:ZaB P md ops Q S n f (b.setIfInBounds i true) (a.put oi.dst v) w):ZaB P md ops Q S n (f+1) b a w:=by
 obtain ⟨h1,h2,h3,h4⟩:=Zew hok;have hin:=of_decide_eq_true hin;have hr':i∈Region.ready md ops b:=by simpa using hr
 intro inv;exact Zke hi (Region.noSelect_spec h1) h3 h4 h2 hin hQ (fun b a w hL=>seqB_ready hL.1) f b a w inv (Region.free_spec hi hf) hr' hy hS (h (inv.set hr' hin))
theorem Zm{n i:Nat}{oi:Oper}{f:Nat}{b:Array Bool}{a:Act}{w:World}(hi:ops[i]?=some oi)(hin:decide (i<n)=true)(hr:Region.ready md ops b=[i])
  (h:∀K:Act->World->Prop,Shut (∀a' w',S w'->(S w'->ZaB P md ops Q S n f (b.setIfInBounds i true) a' w')->K a' w')->if Region.wanted oi (yielded ops a.tmps)=true then Oper.wp P oi a w K Q else K (a.put oi.dst undef) w):ZaB P md ops Q S n (f+1) b a w:=by
 have hin:=of_decide_eq_true hin;intro inv;have hm:i∈Region.ready md ops b:=by rw [hr];simp
 refine ⟨by rw [hr];simp,fun j hj=>?_⟩;rw [hr] at hj;obtain rfl:j=i:=n88_;refine ⟨hin,?_⟩;unfold wpOp;simp only [hi];have h2:=h (fun a' w'=>S w'/\Zec P md ops Q S n (Zm3 P md ops Q n) f (b.setIfInBounds j true) a' w') (fun a' w' hS q=>⟨hS,q hS (inv.set hm hin)⟩);split
 ·rename_i hw;rw [if_pos hw] at h2;exact .inl h2
 ·rename_i hw;rw [if_neg hw] at h2;exact h2
theorem Zv{n:Nat}{b:Array Bool}{a:Act}{w:World}(hB:Region.seqB md ops (ops.toList.drop n).length n b=true)(h:wpList P ops Q (ops.toList.drop n) a w):ZaB P md ops Q S n 0 b a w:=fun _=>⟨hB,h⟩
theorem Ze{id:Nat}{a:Act}{w:World}(n:Nat)(hm:P.follows .mixedOrders=true)(hok:Zd2 .any ops n=true)(hS:S w.drew)
  (h:S w.drew->ZaB P .any ops Q S n n (Array.replicate ops.size false) a w.drew):(Code.region id ops true).wp P Q a w:=by
 obtain ⟨_,h2,_,_⟩:=Zew hok;have inv0:HeadInv .any ops n (Array.replicate ops.size false):=
  ⟨s_,fun j oj _ hl=>(by rw [getD_replicate_false] at hl;cases hl),fun t _ ht=>getD_in (by simpa using ht) (getD_replicate_false _ _)⟩
 refine wp_region_any hm ?_
 have:=ZgV (Q:=Q) (g:=(ops.toList.drop n).length) (fun b a w hL=>wpAny_of_seq (md:=.any) (ops.toList.drop n) n b a w (fun j=>by simp) hL.1 hL.2) n _ _ _ (h hS inv0)
 rw [show n+(ops.toList.drop n).length=ops.size by simp;omega] at this;exact this
end
theorem dT_{P:Program}{ops:Array Oper}{Q:Exit->Act->World->Prop}{md:Region.Mode}{S:World->Prop}{n i:Nat}{oi:Oper}{v:Value}{f:Nat}{b:Array Bool}{a:Act}{w:World}(hi:ops[i]?=some oi)(hy:∀w,S w->(execOp a.eval oi).run P w=.ok (.value v) w)(h:ZaB P md ops Q S n f (b.setIfInBounds i true) (a.put oi.dst v) w)
 (hok:Zd2 md ops n=true:=by kernel_rfl) (hin:decide (i<n)=true:=by kernel_rfl) (hf:Region.free md ops b i=true:=by kernel_rfl) (hr:(Region.ready md ops b).contains i=true:=by kernel_rfl) (hQ:∀c a w,Q (.panic c) (a.put oi.dst v) w->Q (.panic c) a w:=by exact fun _ _ _ h=>h) (hw:Region.wanted oi (yielded ops a.tmps)=true:=by rfl) (hS:S w:=by assumption):ZaB P md ops Q S n (f+1) b a w:=Yv hi hok hin hf hr hQ (Or.inl ⟨hw,hy⟩) hS h
theorem dN_{P:Program}{ops:Array Oper}{Q:Exit->Act->World->Prop}{md:Region.Mode}{S:World->Prop}{n:Nat}(s:Nat){oi:Oper}{v:Value}{f:Nat}{b:Array Bool}{a:Act}{w:World}(hi:ops[n-(f+1)+s]?=some oi)(hy:∀w,S w->(execOp a.eval oi).run P w=.ok (.value v) w)(h:ZaB P md ops Q S n f (b.setIfInBounds (n-(f+1)+s) true) (a.put oi.dst v) w)
 (hok:Zd2 md ops n=true:=by kernel_rfl) (hin:decide (n-(f+1)+s<n)=true:=by kernel_rfl) (hf:Region.free md ops b (n-(f+1)+s)=true:=by kernel_rfl) (hr:(Region.ready md ops b).contains (n-(f+1)+s)=true:=by kernel_rfl) (hQ:∀c a w,Q (.panic c) (a.put oi.dst v) w->Q (.panic c) a w:=by exact fun _ _ _ h=>h) (hw:Region.wanted oi (yielded ops a.tmps)=true:=by rfl) (hS:S w:=by assumption):ZaB P md ops Q S n (f+1) b a w:=Yv hi hok hin hf hr hQ (Or.inl ⟨hw,hy⟩) hS h
theorem dB_{P:Program}{ops:Array Oper}{Q:Exit->Act->World->Prop}{md:Region.Mode}{S:World->Prop}{i:Nat}{oi:Oper}{v:Value}{f:Nat}{b:Array Bool}{a:Act}{w:World}(hi:ops[i]?=some oi)(hy:∀w,S w->(execOp a.eval oi).run P w=.ok (.value v) w)(h:wpAnyH P md ops Q S f (b.setIfInBounds i true) (a.put oi.dst v) w)(hs:Region.noSelect ops=true:=by kernel_rfl)(hf:Region.free md ops b i=true:=by kernel_rfl)(hr:(Region.ready md ops b).contains i=true:=by kernel_rfl)(hQ:∀c a w,Q (.panic c) (a.put oi.dst v) w->Q (.panic c) a w:=by exact fun _ _ _ h=>h)(hw:Region.wanted oi (yielded ops a.tmps)=true:=by rfl)(hS:S w:=by assumption):wpAnyH P md ops Q S (f+1) b a w:=wpAnyH_take hi hs hf hr hQ (Or.inl ⟨hw,hy⟩) hS h
theorem dU_{P:Program}{ops:Array Oper}{Q:Exit->Act->World->Prop}{md:Region.Mode}{S:World->Prop}{i:Nat}{oi:Oper}{f:Nat}{b:Array Bool}{a:Act}{w:World}(hi:ops[i]?=some oi)(h:wpAnyH P md ops Q S f (b.setIfInBounds i true) (a.put oi.dst undef) w)(hs:Region.noSelect ops=true:=by kernel_rfl)(hf:Region.free md ops b i=true:=by kernel_rfl)(hr:(Region.ready md ops b).contains i=true:=by kernel_rfl)(hQ:∀c a w,Q (.panic c) (a.put oi.dst undef) w->Q (.panic c) a w:=by exact fun _ _ _ h=>h)(hw:Region.wanted oi (yielded ops a.tmps)=false:=by rfl)(hS:S w:=by assumption):wpAnyH P md ops Q S (f+1) b a w:=wpAnyH_take hi hs hf hr hQ (Or.inr ⟨hw,rfl⟩) hS h
open Go Go.RowKit
set_option maxRecDepth 100000
theorem m1_{p:Prop}(h:p:=by obtain ⟨oa,cap,e,hr⟩:=h.ex;exact ⟨oa,cap,e,hr.below hb⟩):p:=h
def Zy{α:Type}(enc:α->List Value)(l:List α):List Value:=l.flatMap enc
theorem Xg{α:Type}{enc:α->List Value}{k:Nat}(hk:∀x,(enc x).length=k):∀l:List α,(Zy enc l).length=l.length*k
 |[]=>by simp [Zy]
 |x::r=>by
  have:=Xg hk r
  unfold Zy at *;rw [List.flatMap_cons,List.length_append,hk,this,List.length_cons,Nat.add_mul];omega
theorem Zb5{α:Type}{enc:α->List Value}{k:Nat}(hk:∀x,(enc x).length=k):∀(l:List α) (i j:Nat) (hi:i<l.length),j<k->(Zy enc l)[i*k+j]?=(enc l[i])[j]?
 |[],i,j,hi,_=>absurd hi s_
 |x::r,0,j,_,hj=>by
  unfold Zy;rw [List.flatMap_cons,Nat.zero_mul,Nat.zero_add,List.getElem?_append_left (by rw [hk];exact hj)];rfl
 |x::r,i+1,j,hi,hj=>by
  have:=Zb5 hk r i j n54_ hj
  unfold Zy at *;rw [List.flatMap_cons,List.getElem?_append_right (by rw [hk,Nat.add_mul];omega),hk];rw [show (i+1)*k+j-k=i*k+j by rw [Nat.add_mul];omega,this];rfl
theorem ZN{α:Type}(enc:α->List Value)(a b:List α):Zy enc (a++b)=Zy enc a++Zy enc b:=by simp [Zy]
theorem XK{α:Type}(enc:α->List Value)(a:α):Zy enc [a]=enc a:=by simp [Zy]
theorem YR{α:Type}{enc:α->List Value}(h1:∀x,∀v∈enc x,v.oneCell'=true)(l:List α):∀v∈Zy enc l,v.oneCell'=true:=by
 intro v hv;obtain ⟨x,_,hx⟩:=List.mem_flatMap.1 hv;exact h1 x v hx
theorem Zqb{α:Type}{enc:α->List Value}{k:Nat}(hk:∀x,(enc x).length=k){w:World}{B:Nat}{T:TypeId}{oa:Option Addr}{n cap:Nat}{l:List α}(h:w.ownsRow B T k (.slice oa n cap) n (Zy enc l))(hn:n=l.length)
  {i:Nat} (hi:i<l.length):∃g,oa=some ⟨g,0,none⟩/\B<=g/\g<w.heap.size/\n<=cap/\∀j v,(enc l[i])[j]?=some v->w.cell? ⟨g,i*k+j,none⟩=some v:=by
 subst hn;rcases h.2 with ⟨_,h0⟩|⟨g,cap',cur,hv,hb,hg,hnc,hcm,hsz,ht⟩
 ·omega
 ·injection hv with e1 e2 e3
  subst e1;subst e3;refine ⟨g,rfl,hb,Zb hg,hnc,fun j v hj=>?_⟩;have hjk:j<k:=by
   rcases Nat.lt_or_ge j k with q|q
   ·exact q
   ·rw [List.getElem?_eq_none (by rw [hk];exact q)] at hj;cases hj
  have h1:=Zb5 hk l i j hi hjk;rw [hj,<-ht] at h1;have hlt:i*k+j<l.length*k:=by
   have:=Nat.mul_le_mul_right k (show i+1<=l.length from hi);rw [Nat.add_mul,Nat.one_mul] at this;omega
  rw [List.getElem?_take_of_lt hlt] at h1;simp only [World.cell?,hg];simpa using h1
def Zw{α:Type}(enc:α->List Value)(k:Nat)(w:World)(oa:Option Addr)(l:List α):Prop:=
 ∀i (h:i<l.length),∃b o,oa=some ⟨b,o,none⟩/\b<w.heap.size/\∀j v,(enc l[i])[j]?=some v->w.cell? ⟨b,o+i*k+j,none⟩=some v
theorem Zw.below{α:Type}{enc:α->List Value}{k:Nat}{w w':World}{oa:Option Addr}{l:List α}(h:Zw enc k w oa l)(hb:Below w.heap.size w w'):Zw enc k w' oa l:=by
 intro i hi;obtain ⟨b,o,e,hlt,hc⟩:=h i hi;exact ⟨b,o,e,Nat.lt_of_lt_of_le hlt hb.size,fun j v hj=>(hb.cell (p:=⟨b,o+i*k+j,none⟩) hlt).trans (hc j v hj)⟩
theorem Zw.of_own{α:Type}{enc:α->List Value}{k:Nat}(hk:∀x,(enc x).length=k){w:World}{B:Nat}{T:TypeId}{oa:Option Addr}{cap:Nat}{l:List α}(h:w.ownsRow B T k (.slice oa l.length cap) l.length (Zy enc l)):Zw enc k w oa l:=by
 intro i hi;obtain ⟨g,e,hb,hlt,_,hc⟩:=Zqb hk h rfl hi;exact ⟨g,0,e,hlt,fun j v hj=>by rw [Nat.zero_add];exact hc j v hj⟩
theorem Zw.nil{α:Type}(enc:α->List Value)(k:Nat)(w:World)(oa:Option Addr):Zw enc k w oa ([]:List α):=fun i h=>absurd h s_
theorem ZqH{α:Type}{enc:α->List Value}{k:Nat}(hk:∀x,(enc x).length=k)(h0:0<k){l:List α}{j:Nat}{u:Value}(h:(Zy enc l)[j]?=some u) :
  ∃i r,∃hi:i<l.length,r<k/\j=i*k+r/\(enc l[i])[r]?=some u:=by
 have hj:j<(Zy enc l).length:=(List.getElem?_eq_some_iff.1 h).1;rw [Xg hk] at hj;have hi:j / k<l.length:=(Nat.div_lt_iff_lt_mul h0).2 hj;have hr:=Nat.mod_lt j h0;have e:j=j / k*k+j % k:=by have:=Nat.div_add_mod j k;rw [Nat.mul_comm] at this;exact this.symm
 refine ⟨j / k,j % k,hi,hr,e,?_⟩;rw [<-Zb5 hk l (j / k) (j % k) hi hr,<-e];exact h
section
variable {α:Type} {enc:α->List Value} {k:Nat} {w w':World} {oa:Option Addr} {l:List α}
theorem Zw.flat(hk:∀x,(enc x).length=k)(h0:0<k)(h:Zw enc k w oa l):∀j u,(Zy enc l)[j]?=some u->∃b o,oa=some ⟨b,o,none⟩/\w.cell? ⟨b,o+j,none⟩=some u:=by
 intro j u hj;obtain ⟨i,r,hi,hr,rfl,hu⟩:=ZqH hk h0 hj;obtain ⟨b,o,e,_,hc⟩:=h i hi;exact ⟨b,o,e,by rw [<-Nat.add_assoc];exact hc r u hu⟩
theorem Zw.take(h:Zw enc k w oa l)(n:Nat):Zw enc k w oa (l.take n):=by
 intro i hi;obtain ⟨b,o,e,hl,hc⟩:=h i (by simp at hi;omega);exact ⟨b,o,e,hl,by rw [List.getElem_take];exact hc⟩
theorem Zw.drop{b o:Nat}(h:Zw enc k w (some ⟨b,o,none⟩) l)(n:Nat):Zw enc k w (some ⟨b,o+n*k,none⟩) (l.drop n):=by
 intro i hi;obtain ⟨b1,o1,e,hl,hc⟩:=h (n+i) (by simp at hi;omega);injection e with e;injection e with e1 e2
 subst e1;subst e2;refine ⟨b,o+n*k,rfl,hl,fun j v hj=>?_⟩;rw [List.getElem_drop] at hj
 have:=hc j v hj
 rwa [Nat.add_mul,<-Nat.add_assoc] at this
theorem Zw.holds{b o:Nat}(hk:∀x,(enc x).length=k)(h0:0<k)(h:Zw enc k w (some ⟨b,o,none⟩) l):∀b',(some (⟨b,o,none⟩:Addr))=some b'->∀j u,(Zy enc l)[j]?=some u->w.cell? (b'.add j)=some u:=by
 intro b' e j u hu;injection e with e
 subst e;obtain ⟨b1,o1,e1,hc⟩:=h.flat hk h0 j u hu;injection e1 with e1;injection e1 with e2 e3
 subst e2;subst e3;rw [show (⟨b,o,none⟩:Addr).add j=⟨b,o+j,none⟩ by unfold Addr.add;split<;>simp_all];exact hc
end
theorem ZoG{w:World}{base k:Nat}{e:TypeId}{v:Value}{n:Nat}{xs:List Value}(h:w.ownsRow base e k v n xs)(hn:0<n) :
  ∃g cap,v=.slice (some ⟨g,0,none⟩) n cap/\(∀j u,xs[j]?=some u->w.cell? ((⟨g,0,none⟩:Addr).add j)=some u)/\base<=g/\g<w.heap.size:=by
 rcases h.2 with ⟨_,h0⟩|⟨g,cap,cur,hv,hb,hg,hnc,hcm,hs,ht⟩
 ·omega
 ·refine ⟨g,cap,hv,fun j u hu=>?_,hb,Zb hg⟩
  rw [show (⟨g,0,none⟩:Addr).add j=⟨g,j,none⟩ by unfold Addr.add;split<;>simp_all];have hj:j<xs.length:=(List.getElem?_eq_some_iff.1 hu).1;rw [h.1] at hj;rw [<-ht,List.getElem?_take_of_lt hj] at hu;simp only [World.cell?,hg];simpa using hu
theorem ZmM(w:World)(x y z:Value)(T:TypeId):(w.alloc (.cells #[x,y,z] T)).ownsRow w.heap.size T 3 (.slice (some ⟨w.heap.size,0,none⟩) 1 1) 1 [x,y,z]:=
 ⟨rfl,.inr ⟨w.heap.size,1,#[x,y,z],rfl,l_,heap_alloc_new _ _,l_,d_,rfl,rfl⟩⟩
structure ZlZ{α:Type}(enc:α->List Value)(k:Nat)(w:World)(oa:Option Addr)(cap:Nat)(l:List α):Prop where
 row:Zw enc k w oa l
 fit:l.length<=cap
 isnil:oa=none->cap=0
 form:∀a,oa=some a->∃b o,a=⟨b,o,none⟩
section
variable {α:Type} {enc:α->List Value} {k:Nat} {w w':World} {oa:Option Addr} {cap:Nat} {l:List α}
theorem ZlZ.below(h:ZlZ enc k w oa cap l)(hb:Below w.heap.size w w'):ZlZ enc k w' oa cap l:=⟨h.row.below hb,h.fit,h.isnil,h.form⟩
theorem ZlZ.none:ZlZ enc k w none 0 []:=⟨fun i h=>absurd h s_,l_,fun _=>rfl,fun a e=>by cases e⟩
theorem ZlZ.of_own(hk:∀x,(enc x).length=k){B:Nat}{T:TypeId}(h:w.ownsRow B T k (.slice oa l.length cap) l.length (Zy enc l)):ZlZ enc k w oa cap l:=by
 refine ⟨Zw.of_own hk h,?_,?_,?_⟩
 ·rcases h.2 with ⟨hv,h0⟩|⟨g,cap',cur,hv,hb,hg,hnc,_⟩
  ·omega
  ·injection hv with _ _ e3;omega
 ·rintro rfl
  rcases h.2 with ⟨hv,h0⟩|⟨g,cap',cur,hv,_⟩
  ·injection hv
  ·injection hv with e1;cases e1
 ·rintro a rfl
  rcases h.2 with ⟨hv,h0⟩|⟨g,cap',cur,hv,_⟩
  ·injection hv with e1;cases e1
  ·injection hv with e1;injection e1 with e1;exact ⟨g,0,e1⟩
end
theorem Za{w w':World}{b:Nat}{o:Obj}(h:w.heap[b]?=some o)(hb:Below w.heap.size w w'):w'.heap[b]?=some o:=(hb.block b (Zb h)).trans h
theorem Y2{w:World}{b:Nat}{x y:Value}{T:TypeId}(h:w.heap[b]?=some (.cells #[x,y] T (0,0))):w.cell? ⟨b,0,none⟩=some x/\w.cell? ⟨b,1,none⟩=some y:=
 ⟨n18_,n18_⟩
theorem cells3{w:World}{b:Nat}{x y z:Value}{T:TypeId}(h:w.heap[b]?=some (.cells #[x,y,z] T (0,0))):w.cell? ⟨b,0,none⟩=some x/\w.cell? ⟨b,1,none⟩=some y/\w.cell? ⟨b,2,none⟩=some z:=
 ⟨n18_,n18_,n18_⟩
theorem Zn.drop{w:World}{b o:Nat}{l:List (List UInt8)}(h:Zn w (some ⟨b,o,none⟩) l)(k:Nat):Zn w (some ⟨b,o+k,none⟩) (l.drop k):=by
 intro i hi;obtain ⟨b',o',e,hc⟩:=h (k+i) (by simp at hi;omega);injection e with e;injection e with e1 e2
 subst e1;subst e2;exact ⟨b,o+k,rfl,by rw [Nat.add_assoc];simpa using hc⟩
theorem Y0{P:Program}{ops:Array Oper}{o:Oper}{a:Act}{w:World}{K:Act->World->Prop}{Q:Exit->Act->World->Prop}{E:Prop}
  (hg:o.guard=none) (s x:Operand) (t:TypeId) (hop:o.op=Op.call { callee:=Callee.builtin Builtin.append,args:=#[s,x],argTypes:=#[t,t] })
  (base e:TypeId) (i:TypeInfo) (z:Value) (size bytes:Nat) (ht:P.underlying t=some (.slice e)) (hi:P.info? e=some i) (hz:i.zero=some z)
  (hsize:i.size=size) (hby:i.bytes=bytes) (hzs:z.cells.size=size) (hsz:0<size)
  (v:Value) (n:Nat) (xs:List Value) (hs:a.eval s=v) (hown:w.ownsRow base e size v n xs) (oa:Option Addr) (m c:Nat) (news:List Value) (hx:a.eval x=.slice oa m c) (hl:news.length=m*size)
  (hc:∀j u,news[j]?=some u->∃b o,oa=some ⟨b,o,none⟩/\w.cell? ⟨b,o+j,none⟩=some u) (h1:∀u∈news,u.oneCell'=true)
  (h63:n+m<=maxLen) (hbytes:(n+m)*bytes<=140737488355328) (hbase:base<=w.heap.size)
  (hK:∀v' w',w'.ownsRow base e size v' (n+m) (xs++news)->w.grownBy w' v.ownBlock->K (a.put o.dst v') w') :
  if Region.wanted o (yielded ops a.tmps)=true then Oper.wp P o a w K Q else E:=by
 have hw:Region.wanted o (yielded ops a.tmps)=true:=by simp [Region.wanted,hg]
 rw [if_pos hw];obtain ⟨v',w',hrun,r1,r2⟩:=Qm (P:=P) base t o.type e i z size bytes ht hi hz hsize hby hzs hsz v n xs hown oa m c news hl hc h1 h63 hbytes hbase;unfold Oper.wp;simp [execOp,hop,resolve,invoke,builtin,hs,hx,hrun,Result.andThen];exact hK v' w' r1 r2
theorem Zr{w w':World}{B e size n:Nat}{v:Value}{xs:List Value}(h:w.ownsRow B e size v n xs)(hb:Below w.heap.size w w'):w'.ownsRow B e size v n xs:=by
 refine ⟨h.1,?_⟩;rcases h.2 with hn|⟨g,cap,cur,rfl,hg,hgg,rest⟩
 ·exact .inl hn
 ·exact .inr ⟨g,cap,cur,rfl,hg,by rw [hb.block g (Zb hgg)];exact hgg,rest⟩
theorem Zav{P:Program}{a:Act}{w:World}{o:Oper}(t:TypeId)(x:Operand)(b:Nat)(cells:Array Value)(T:TypeId)(d:TypeDesc)(ho:o.op=Op.load t x)
  (hx:a.eval x=.pointer (some ⟨b,0,none⟩)) (hw:w.heap[b]?=some (.cells cells T (0,0))) (hd:P.underlying t=some d) (hr:d.isRow=true) (hi:(P.info? t).map (·.size)=some cells.size):(execOp a.eval o).run P w=.ok (.value (.agg cells)) w:=by
 have h:=Zme (P:=P) t d hd hr hi hw;unfold execOp;simp only [ho,hx,Sem.run_bind,h];rfl
theorem ZW{w:World}{base e size n X:Nat}{v:Value}{xs:List Value}(h:w.ownsRow base e size v n xs){cs:Array Value}{T:TypeId}{fz:Nat×Nat}(hx:w.heap[X]?=some (.cells cs T fz))(hT:T≠e):some X≠v.ownBlock:=by
 rcases h.2 with ⟨rfl,_⟩|⟨g,cap,cur,rfl,hg,hgg,rest⟩
 ·simp [Value.ownBlock]
 ·simp only [Value.ownBlock]
  intro e2;injection e2 with e2
  subst e2;rw [hgg] at hx;injection hx with hx
  injection hx with h1 h2
  exact hT h2.symm
theorem ZkP{P:Program}{w:World}{ops:Array Oper}{rest:List Oper}{o:Oper}{a:Act}{Q:Exit->Act->World->Prop}(hg:Region.wanted o (yielded ops a.tmps)=true)(t:TypeId)(x:Operand)(b n:Nat)(part:Array Value)(d:TypeDesc)(ho:o.op=Op.load t x)
  (hx:a.eval x=.pointer (some ⟨b,n,none⟩)) (hp:∀j v,part[j]?=some v->w.cell? ⟨b,n+j,none⟩=some v) (hd:P.underlying t=some d) (hr:d.isRow=true) (hi:(P.info? t).map (·.size)=some part.size)
  (h:wpList P ops Q rest (a.put o.dst (.agg part)) w):wpList P ops Q (o::rest) a w:=by
 refine wpList_step fun K hK=>?_
 rw [if_pos hg];refine wp_load_mid t x ho b n hx part.toList d ?_ hd hr n54_ (by simpa using hK _ _ h);intro j v hv;exact hp j v n89_
structure ZcE{α:Type}(enc:α->List Value)(k:Nat)(w:World)(v:Value)(l:List α):Prop where
 ex:∃oa cap,v=.slice oa l.length cap/\Zw enc k w oa l
theorem ZcE.below{α:Type}{enc:α->List Value}{k:Nat}{w w':World}{v:Value}{l:List α}(h:ZcE enc k w v l)(hb:Below w.heap.size w w'):ZcE enc k w' v l:=by
 exact m1_
structure Zli(w:World)(v:Value)(l:List Str):Prop where
 ex:∃oa cap,v=.slice oa l.length cap/\Zn w oa l
theorem Zli.below{w w':World}{v:Value}{l:List Str}(h:Zli w v l)(hb:Below w.heap.size w w'):Zli w' v l:=by
 exact m1_
def ZsE{β:Type}(b:Nat)(J:β->World->Prop):Prop:=∀s A B,J s A->A.grownBy B (some b)->J s B
def Zkc{β:Type}(B0 b:Nat)(J:β->World->Prop):Prop:=
 ∀s A B row,J s A->A.grownBy B row->(∀r,row=some r->r=b\/(B0<=r/\∃o:Obj,A.heap[r]?=some o/\o.isCells=false))->J s B
def Zo2{α:Type}(n:Nat)(P:Program)(g:Nat)(lb:Array Value)(enc:α->Value)(b:Nat)(Kp:World->World->Prop)(xs:List α)(w:World):Prop:=
 ∀(l:Nat) (J Jx:List α->World->Prop) (W:World),Kp w W->ZsE b J->
  (∀pre x post W1,xs=pre++x::post->J pre W1->YieldAt Fence.wide (n-1) P l #[enc x] W1 fun e W' =>
   (e=.returned (.bool true)/\J (pre++[x]) W'/\Kp W1 W')\/(e=.returned (.bool false)/\Jx (pre++[x]) W'))->
  J [] W->
  CallsIn Fence.wide n P g (#[.func (.yield l) #[] #[]]++lb) W fun e W'=>(∃v,e=.returned v)/\(J xs W'\/∃pre,Jx pre W')
theorem Zm7{A B:World}{b k:Nat}{o:Obj}(h:A.grownBy B (some b))(hk:A.heap[k]?=some o)(hne:k≠b):B.heap[k]?=some o:=
 (h.block k (Zb hk) (fun e=>hne (by injection e))).trans hk
theorem ZeE{α:Type}{n:Nat}{P:Program}{g:Operand}{ps:Array Tmp}{assign body:Code}{Q:Exit->Act->World->Prop}{a:Act}{w:World}{gf:Nat}{lb:Array Value}(hg:a.eval g=.func (.func gf) #[] lb)
  (eg:∀args w,(callFunc gf args).run P w=.ok (.enter gf args) w) {enc:α->Value} {b:Nat} {Kp:World->World->Prop} {xs:List α} (hseq:Zo2 (n-1) P gf lb enc b Kp xs w) (hb:b<w.heap.size)
  (hKn:∀A o,w.heap.size<=A.heap.size->Kp A (A.alloc o)) (hKt:∀{A B C:World},Kp A B->Kp B C->Kp A C) (hKb:∀(W:World) (l:Nat) (o:Obj),w.heap.size<=l->Kp W (W.putObj l o)) (hps:ps.size=1)
  (I:List α->World->Prop) (Ix:Code->List α->World->Prop) (hI:Zkc w.heap.size b I) (hIx:∀c,Zkc w.heap.size b (Ix c)) (h0:I [] w) (a₁:α->Act)
  (hassign:∀(l:Nat) (x:α) (W:World) (K:Act->World->Prop),K (a₁ x) W->
   assign.wpIn (Fence.wide.inRound l) (n-1-1) P (Exit.then K (fun _ _ _=>False)) { tmps:=(ps.zip #[enc x]).foldl (fun t (p,v)=>t.setIfInBounds p v) a.tmps,defers:=[] } W)
  (hbody:∀(l:Nat) (pre:List α) (x:α) (post:List α) (W:World),xs=pre++x::post->I pre W->body.wpIn (Fence.wide.inRound l) (n-1-1) P (ownPostG w.heap.size Kp I Ix (pre++[x]) W) (a₁ x) W)
  (hdone:∀(D:Nat) (W:World),w.heap.size<=D->I xs W->W.heap[D]?=some (.deferred (some []))->Q .normal { a with defers:={ target:=.collected D,args:=#[] }::a.defers } W)
  (hstop:∀(D:Nat) (c:Code) (pre:List α) (W:World),w.heap.size<=D->Ix c pre W->W.heap[D]?=some (.deferred (some []))->c.wpIn Fence.wide n P Q { a with defers:={ target:=.collected D,args:=#[] }::a.defers } W) :
  (Code.rangeFunc g ps assign body).wpIn Fence.wide n P Q a w:=by
 refine wpIn_rangeFunc (fun fn hfn=>?_);obtain ⟨D,hD⟩:=e_ w.heap.size;let rec_:LoopState->Option Code->Loop:=fun st pe=>{ state:=st,pending:=pe,fn,tmps:=a.tmps,params:=ps,assign,body,defers:=w.heap.size }
 let w1:=(w.alloc (.deferred (some []))).alloc (.loop (rec_ .ready none));have z1:(w.alloc (.deferred (some []))).heap.size=D+1:=by rw [hD];simp
 have hL:w1.heap[D+1]?=some (.loop (rec_ .ready none)):=by rw [<-z1];exact World.alloc_heap_new _ _
 have hdf:w1.heap[D]?=some (.deferred (some [])):=by rw [hD];exact heap_alloc (World.alloc_heap_new w _) _
 have soft_new:∀A o,I [] A->I [] (A.alloc o):=fun A o h=>hI [] A _ none h (World.grownBy_alloc A o none) (fun r e=>by cases e)
 have hI1:I [] w1:=soft_new _ _ (soft_new _ _ h0);have hK1:Kp w w1:=hKt (hKn w _ l_) (hKn _ _ s_);have hbD:b≠D:=o_;have hbD1:b≠D+1:=o_;refine ⟨D+1,[{ target:=.collected D,args:=#[] }],w1,{ target:=.fn (.func gf) lb,args:=#[.func (.yield (D+1)) #[] #[]] },w1,gf,#[.func (.yield (D+1)) #[] #[]]++lb,w1,?_,?_,?_,?_,?_,?_⟩
 ·rw [hD];exact run_enterLoop_outer _ _ _ _ _
 ·simp only [resolve,hg]
  simp [go_sem]
 ·intro f' hf';trivial
 ·simp [invoke,go_sem,eg]
 ·intro h;exact absurd h (by simp [Fence.wide])
 refine (hseq (D+1) (fun pre W=>I pre W/\W.heap[D+1]?=some (.loop (rec_ .ready none))/\W.heap[D]?=some (.deferred (some [])))
  (fun pre W=>∃c,Ix c pre W/\W.heap[D+1]?=some (.loop (rec_ .done (some c)))/\W.heap[D]?=some (.deferred (some []))) w1 hK1
  (fun s A B ⟨i1,i2,i3⟩ hgr=>⟨hI s A B _ i1 hgr (fun r e=>.inl (by injection e with e;exact e.symm)),Zm7 hgr i2 (Ne.symm hbD1),Zm7 hgr i3 (Ne.symm hbD)⟩) ?_ ⟨hI1,hL,hdf⟩).mono ?_
 ·rintro pre x post W hx ⟨i1,i2,i3⟩
  have hlt:D+1<W.heap.size:=Zb i2;refine ⟨fn,_,assign,body,run_yield (P:=P) (args:=#[enc x]) i2 (by rw [hps];rfl),roundIn_of_wpIn hfn (hassign _ x W _ ⟨_,run_beginRound i2 rfl,?_⟩)⟩;let w2:=W.putObj (D+1) (.loop { rec_ .ready none with state:=.busy });have j2:w2.heap[D+1]?=some (.loop { rec_ .ready none with state:=.busy }):=World.putObj_heap_same hlt;have j3:w2.heap[D]?=some (.deferred (some [])):=(World.putObj_heap_other o_).trans i3;have soft_put:∀(J:List α->World->Prop) (s:List α) (A:World) (o o':Obj),Zkc w.heap.size b J->A.heap[D+1]?=some o->o.isCells=false->J s A->J s (A.putObj (D+1) o'):=fun J s A o o' hJ h1 h2 h3=>
   hJ s A _ (some (D+1)) h3 (grownBy_putObj' A (D+1) o') (fun r e=>by cases e;exact .inr ⟨o_,o,h1,h2⟩)
  refine wpIn_mono (hbody (D+1) pre x post w2 hx (soft_put I pre W _ _ hI i2 rfl i1)) ?_;have fin:∀(jump:Option Code) (V:World),KeepsFrom w.heap.size w2 V->(Instr.endRound (D+1) jump).run P V=.ok (.bool jump.isNone) (V.putObj (D+1) (.loop (rec_ (if jump.isNone then .ready else .done) jump)))/\
    V.heap[D+1]?=some (.loop { rec_ .ready none with state:=.busy })/\(V.putObj (D+1) (.loop (rec_ (if jump.isNone then .ready else .done) jump))).heap[D+1]?=some (.loop (rec_ (if jump.isNone then .ready else .done) jump))/\
    (V.putObj (D+1) (.loop (rec_ (if jump.isNone then .ready else .done) jump))).heap[D]?=some (.deferred (some [])):=by
   intro jump V hk;have k2:=hk.same _ _ o_ j2 rfl;have k3:=hk.same _ _ o_ j3 rfl;exact ⟨run_endRound jump k2,k2,World.putObj_heap_same (Zb k2),(World.putObj_heap_other o_).trans k3⟩
  rintro e a3 V hp;cases e with
  |normal=>
   obtain ⟨p1,p2,p3⟩:=hp;obtain ⟨f1,f2,f3,f4⟩:=fin none V p1;exact ⟨_,_,f1,.inl ⟨rfl,⟨soft_put I _ V _ _ hI f2 rfl p3,f3,f4⟩,hKt (hKb W _ _ o_) (hKt p2 (hKb V _ _ o_))⟩⟩
  |ret=>
   obtain ⟨p1,p3⟩:=hp;obtain ⟨f1,f2,f3,f4⟩:=fin (some .ret) V p1;exact ⟨_,_,f1,.inr ⟨rfl,.ret,soft_put _ _ V _ _ (hIx _) f2 rfl p3,f3,f4⟩⟩
  |exit id=>
   obtain ⟨p1,p3⟩:=hp;obtain ⟨f1,f2,f3,f4⟩:=fin (some (.exit id)) V p1;exact ⟨_,_,f1,.inr ⟨rfl,.exit id,soft_put _ _ V _ _ (hIx _) f2 rfl p3,f3,f4⟩⟩
  |goto t=>
   obtain ⟨p1,p3⟩:=hp;obtain ⟨f1,f2,f3,f4⟩:=fin (some (.goto t)) V p1;exact ⟨_,_,f1,.inr ⟨rfl,.goto t,soft_put _ _ V _ _ (hIx _) f2 rfl p3,f3,f4⟩⟩
  |panic ch=>exact hp.elim
  |outgrown=>exact hp.elim
 ·have soft_put:∀(J:List α->World->Prop) (s:List α) (A:World) (o o':Obj),Zkc w.heap.size b J->A.heap[D+1]?=some o->o.isCells=false->J s A->J s (A.putObj (D+1) o'):=fun J s A o o' hJ h1 h2 h3=>
   hJ s A _ (some (D+1)) h3 (grownBy_putObj' A (D+1) o') (fun r e=>by cases e;exact .inr ⟨o_,o,h1,h2⟩)
  rintro e W2 ⟨⟨v,rfl⟩,⟨i1,i2,i3⟩|⟨pre,c,i1,i2,i3⟩⟩
  ·exact ⟨none,_,run_endLoop (P:=P) i2 (by simp [rec_]),hdone D _ o_ (soft_put I _ W2 _ _ hI i2 rfl i1) ((World.putObj_heap_other o_).trans i3)⟩
  ·exact ⟨some c,_,run_endLoop (P:=P) i2 (by simp [rec_]),hstop D c pre _ o_ (soft_put _ _ W2 _ _ (hIx c) i2 rfl i1) ((World.putObj_heap_other o_).trans i3)⟩
open Go.Proofs.Tryz
open Go Go.RowKit Go.Shelf
attribute [local go_sem] Oper.semAt_some
def KpB(b:Nat)(W W':World):Prop:=W.heap.size<=W'.heap.size/\∀k,k=b\/k=b+1\/k=b+2->W'.heap[k]?=W.heap[k]?
theorem KpB.trans{b:Nat}{A B C:World}(h:KpB b A B)(k:KpB b B C):KpB b A C:=⟨Nat.le_trans h.1 k.1,fun i hi=>(k.2 i hi).trans (h.2 i hi)⟩
theorem KpB.of_below{b:Nat}{A B:World}(h:Below A.heap.size A B)(hb:b+2<A.heap.size):KpB b A B:=⟨h.size,fun i hi=>h.block i o_⟩
structure Place(W:World)(b:Nat)(c:UInt8)(r:Str):Prop where
 s:W.heap[b]?=some (.cells #[.string ⟨r.toArray⟩] 9 (0,0))
 sep:W.heap[b+1]?=some (.cells #[.string ⟨#[c]⟩] 9 (0,0))
 save:W.heap[b+2]?=some (.cells #[.int .i64 0] 3 (0,0))
theorem Place.kept{W W':World}{b:Nat}{c:UInt8}{r:Str}(h:Place W b c r)(k:KpB b W W'):Place W' b c r:=
 ⟨(k.2 b (.inl rfl)).trans h.s,(k.2 (b+1) (.inr (.inl rfl))).trans h.sep,(k.2 (b+2) (.inr (.inr rfl))).trans h.save⟩
theorem Place.moved{W:World}{b:Nat}{c:UInt8}{r r':Str}(h:Place W b c r):Place (W.setCell ⟨b,0,none⟩ (.string ⟨r'.toArray⟩)) b c r' :=
 ⟨by have:=heap_setCell h.s 0 (.string ⟨r'.toArray⟩);exact this,Zu h.sep (a:=⟨b,0,none⟩) (by show b+1≠b;omega) _,Zu h.save (a:=⟨b,0,none⟩) (by show b+2≠b;omega) _⟩
theorem Zoq(s:Str)(k n:Nat)(hn:n=s.length):(⟨s.toArray⟩:ByteArray).extract k n=⟨(s.drop k).toArray⟩:=by
 subst hn;apply ByteArray.ext;apply Array.ext'
 have:=Lib.extract_to_end (⟨s.toArray⟩:ByteArray) k
 simpa [ByteArray.size] using this
theorem Zro(s:Str)(k:Nat):(⟨s.toArray⟩:ByteArray).extract 0 k=⟨(s.take k).toArray⟩:=by
 apply ByteArray.ext;apply Array.ext';rw [Lib.extract_data];simp
theorem ZgN(n l b:Nat)(hn1:1<=n)(c:UInt8)(xs:List Str)(J Jx:List Str->World->Prop)(s:Str)(W:World)(hp:Place W b c s)(hs:s.length<=1000000000)(hxs:Zz c s=xs)(hJ:ZsE b J)
  (hY:∀pre x post W1,xs=pre++x::post->J pre W1->YieldAt Fence.wide (n-1) prog l #[.string ⟨x.toArray⟩] W1 fun e W' =>
   (e=.returned (.bool true)/\J (pre++[x]) W'/\KpB b W1 W')\/(e=.returned (.bool false)/\Jx (pre++[x]) W')) (h0:J [] W) :
  CallsIn Fence.wide n prog 355 #[.func (.yield l) #[] #[],.pointer (some ⟨b+1,0,none⟩),.pointer (some ⟨b,0,none⟩),.pointer (some ⟨b+2,0,none⟩)] W fun e W'=>(∃v,e=.returned v)/\(J xs W'\/∃pre,Jx pre W'):=by
 have HP:=h_ hp;have HXS:=h_ hxs;have HJ:=h_ hJ;have HY:=h_ hY;have H0:=h_ h0;have e1:=(rd hp.sep).1 0;simp only [List.getElem?_toArray,List.getElem?_cons_zero] at e1;clear hp hxs hJ hY h0;have hF:Fence.wide.fn 158:=trivial;refine callsIn_of_wp func355 rfl trivial ?_ rfl;simp only [ntmps355,List.size_toArray,List.length_cons,List.length_nil,Nat.reduceAdd,Nat.reduceSub,Array.replicate_succ,Array.replicate_zero,List.push_toArray,List.append_toArray,List.nil_append,List.cons_append]
 gi_wp2
 gi_loopg [] (s.length+1) (fun f wr=>∃(done:List Str) (r:Str),r.length<f/\r.length<=s.length/\Hid (Place wr b c r)/\Hid (done++Zz c r=xs)/\Hid (J done wr))
 case atStart=>exact ⟨[],s,o_,o_,HP,HXS,H0⟩
 case round=>
  obtain ⟨done,r,hf,hrl,HPr,HD,HJr⟩:=hrel;obtain ⟨c0,f0,s0,l0⟩:=rd HPr.out.s;obtain ⟨c1,f1,s1,l1⟩:=rd HPr.out.sep;obtain ⟨c2,f2,s2,l2⟩:=rd HPr.out.save;have d0:=c0 0;have d1:=c1 0;have d2:=c2 0;have g0:=f0 0;simp only [List.getElem?_toArray,List.getElem?_cons_zero] at d0 d1 d2;clear c0 c1 c2 f0 f1 f2 s0 s1 s2 e1;rcases Zgm c r with ⟨h1,h2⟩|⟨i,a,t,h1,h2,h3,h4⟩
  ·have hx:xs=done++r::[]:=by rw [<-HD.out,ZcZ c r h2]
   have HX:=h_ hx;have HI:=h_ (fun V=>Tryz.strings_Index_one ⟨r.toArray⟩ c V);change Hid (∀V,Calls _ _ _ V fun e w'=>e=.returned (.int .i64 (Lib.indexByte r c))/\_) at HI;rw [h1] at HI;obtain ⟨fn,tmps,assign,body,hy,hR⟩:=HY.out done r [] wr hx HJr.out;have HRR:=h_ hR;clear hx hR h1 h2 HY
   gi_wp2_with (gi_at_call 158;refine (callsIn_wide.2 (HI.out _)).mono ?_;rintro e w' ⟨rfl,rfl⟩)
   refine HRR.out.mono ?_;rintro e W3 (⟨rfl,hJ3,hk3⟩|⟨rfl,hJx3⟩)
   ·have HJ3:=h_ (show J xs W3 from by rw [HX.out];exact hJ3)
    clear hJ3 hk3 HX
    gi_wp2
    refine ⟨rfl,_,results_none rfl _ _ _,?_⟩;exact ⟨⟨_,rfl⟩,.inl HJ3.out⟩
   ·have HJ3:=h_ hJx3
    clear hJx3
    gi_wp2
    refine ⟨rfl,_,results_none rfl _ _ _,?_⟩;exact ⟨⟨_,rfl⟩,.inr ⟨_,HJ3.out⟩⟩
  ·have hx:xs=done++a::Zz c t:=by rw [<-HD.out,h2,ZcJ c a t h4]
   have HX:=h_ (show (done++[a])++Zz c t=xs from by rw [hx];simp);have HI:=h_ (fun V=>Tryz.strings_Index_one ⟨r.toArray⟩ c V);change Hid (∀V,Calls _ _ _ V fun e w'=>e=.returned (.int .i64 (Lib.indexByte r c))/\_) at HI;rw [h1] at HI;have hil:i+1<=r.length:=by rw [h2,<-h3];simp
   have hrs:(⟨r.toArray⟩:ByteArray).size=r.length:=n16_;have ea:(⟨r.toArray⟩:ByteArray).extract 0 i=⟨a.toArray⟩:=by rw [Zro,h2,<-h3];simp
   have et:(⟨r.toArray⟩:ByteArray).extract (i+1) (⟨r.toArray⟩:ByteArray).size=⟨t.toArray⟩:=by
    rw [hrs,Zoq r (i+1) r.length rfl,h2,<-h3];simp
   have htl:t.length+(i+1)=r.length:=by rw [h2,<-h3];simp;omega
   have HEA:=h_ ea;have HET:=h_ et;obtain ⟨fn,tmps,assign,body,hy,hR⟩:=HY.out done a (Zz c t) wr hx HJr.out;rw [<-ea] at hy;have HRR:=h_ hR;have iz0:¬((i:Int)<0):=o_;have iz1:(i:Int)<=((⟨r.toArray⟩:ByteArray).size:Int):=by rw [hrs];omega
   have iz2:(i:Int)+1<=((⟨r.toArray⟩:ByteArray).size:Int):=by rw [hrs];omega
   have iz3:i<=1000000000:=o_;have HTL:=h_ htl;clear hx hR h1 h2 h3 h4 ea et HD htl hrs hil;have hP1:∀V,KpB b wr V->Place V b c r:=fun V hk=>HPr.out.kept hk
   have HP1:=h_ hP1;clear hP1 HPr;generalize hRd:(⟨r.toArray⟩:ByteArray)=R at *;have HRd:=h_ hRd;clear hRd
   gi_wp2_with (gi_at_call 158;refine (callsIn_wide.2 (HI.out _)).mono ?_;rintro e w' ⟨rfl,rfl⟩)
   refine HRR.out.mono ?_;rintro e W3 (⟨rfl,hJ3,hk3⟩|⟨rfl,hJx3⟩)
   ·have hP3:=HP1.out _ hk3
    have HJ4:=h_ (HJ.out _ _ _ hJ3 (grownBy_setCell' W3 b (.string ⟨t.toArray⟩)));have HP4:=h_ (hP3.moved (r':=t));obtain ⟨c0,f0,s0,l0'⟩:=rd hP3.s;obtain ⟨c1,f1,s1,l1'⟩:=rd hP3.sep;have q0:=c0 0;have q1:=c1 0;have p0:=f0 0;simp only [List.getElem?_toArray,List.getElem?_cons_zero] at q0 q1;rw [HRd.out] at q0;clear c0 c1 f0 f1 s0 s1 hJ3 hk3 hP3 l0 l1 l2 HJr HP1 hy d0 d1 d2 g0 HI
    gi_wp2
    gi_roundg (r.length-i)
    case measure=>omega
    case rel=>exact ⟨done++[a],t,by have:=HTL.out;omega,by have:=HTL.out;omega,by rw [<-HET.out] at HP4;exact HP4,HX,by rw [<-HET.out] at HJ4;exact HJ4⟩
   ·have HJ3:=h_ hJx3
    clear hJx3
    gi_wp2
    refine bodyPost_ret (results_none rfl _ _ _) rfl ?_;exact ⟨⟨_,rfl⟩,.inr ⟨_,HJ3.out⟩⟩
theorem Zeb(n b:Nat)(hn1:1<=n)(c:UInt8)(s:Str)(w:World)(hp:Place w b c s)(hs:s.length<=1000000000) :
  Zo2 n prog 355 #[.pointer (some ⟨b+1,0,none⟩),.pointer (some ⟨b,0,none⟩),.pointer (some ⟨b+2,0,none⟩)] (fun x:Str=>.string ⟨x.toArray⟩) b (KpB b) (Zz c s) w:=
 fun l J Jx W hW hJ hY h0=>ZgN n l b hn1 c _ J Jx s W (hp.kept hW) hs rfl hJ hY h0
theorem Zcl:∀args w,(callFunc 355 args).run prog w=.ok (.enter 355 args) w:=enters_of func355 k_ rfl
def YI(w:World)(c:UInt8)(s:Str):World:=((w.alloc (.cells #[.string ⟨s.toArray⟩] 9)).alloc (.cells #[.string ⟨#[c]⟩] 9)).alloc (.cells #[.int .i64 0] 3)
theorem Zdw(c:UInt8)(s:Str)(w:World):Calls prog 321 #[.string ⟨s.toArray⟩,.string ⟨#[c]⟩] w fun e w' =>
  e=.returned (.func (.func 355) #[] #[.pointer (some ⟨w.heap.size+1,0,none⟩),.pointer (some ⟨w.heap.size,0,none⟩),.pointer (some ⟨w.heap.size+2,0,none⟩)])/\w'=YI w c s:=by
 have H:Calls prog 340 #[.string ⟨s.toArray⟩,.string ⟨#[c]⟩,.int .i64 0] w fun e w' =>
  e=.returned (.func (.func 355) #[] #[.pointer (some ⟨w.heap.size+1,0,none⟩),.pointer (some ⟨w.heap.size,0,none⟩),.pointer (some ⟨w.heap.size+2,0,none⟩)])/\w'=YI w c s:=by
  go_enter func340,ntmps340;go_wp2;go_ret;exact ⟨rfl,rfl⟩
 have HH:=h_ H;clear H;go_enter func321,ntmps321;go_wp2_with fail;refine HH.out.mono ?_;rintro e w1 ⟨rfl,rfl⟩;go_wp2;go_ret;exact ⟨rfl,rfl⟩
theorem Zdm(w:World)(c:UInt8)(s:Str):Place (YI w c s) w.heap.size c s/\Below w.heap.size w (YI w c s)/\(YI w c s).heap.size=w.heap.size+3:=by
 have z1:(w.alloc (.cells #[.string ⟨s.toArray⟩] 9)).heap.size=w.heap.size+1:=s_;have z2:((w.alloc (.cells #[.string ⟨s.toArray⟩] 9)).alloc (.cells #[.string ⟨#[c]⟩] 9)).heap.size=w.heap.size+2:=s_;refine ⟨⟨heap_alloc (heap_alloc (heap_alloc_new w _) _) _,?_,?_⟩,((b_.alloc l_ _).alloc s_ _).alloc n5_ _,by simp [YI]⟩
 ·rw [<-z1];exact heap_alloc (heap_alloc_new _ _) _
 ·rw [<-z2];exact heap_alloc_new _ _
end Go.Proofs.YtmgmbeipbeknaaaGreatDoor
