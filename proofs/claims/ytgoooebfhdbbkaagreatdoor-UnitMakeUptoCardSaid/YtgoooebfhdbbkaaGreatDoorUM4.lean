import Derived.StillTail
import Derived.OrdersHeld
import Derived.Deep.RegionHeld
import Derived.Deep.RegionLawGrows
import Derived.Deep.LoopGhost
import Derived.IntWalk
import Derived.Lib.QuietBelow
import Derived.RangeFuncNested
import Derived.RangeFuncBound
import Derived.RangeFuncCalls
import Derived.RangeFuncLeaves
import Derived.Test.YtgoooebfhdbbkaaGreatDoorUM1
import Derived.Test.YtgoooebfhdbbkaaGreatDoorUM2
namespace Go.Proofs.YtgoooebfhdbbkaaGreatDoor
open Go
set_option linter.unusedVariables false
set_option linter.unusedSimpArgs false
set_option maxHeartbeats 16000000
section
variable {P:Program} {ops:Array Oper} {Q:Exit->Act->World->Prop} {md:Region.Mode} {S:World->Prop}
def ZeR(P:Program)(md:Region.Mode)(ops:Array Oper)(Q:Exit->Act->World->Prop)(S:World->Prop)(n:Nat)(L:Array Bool->Act->World->Prop):Nat->Array Bool->Act->World->Prop
 |0,b,a,w=>L b a w
 |f+1,b,a,w=>Region.ready md ops b≠[]/\∀i∈Region.ready md ops b,i<n/\wpOp P ops Q i (fun a' w'=>S w'/\ZeR P md ops Q S n L f (b.setIfInBounds i true) a' w') a w
theorem Zh5{n g:Nat}{L:Array Bool->Act->World->Prop}(hL:∀b a w,L b a w->wpAny P md ops Q g b a w):∀(f:Nat) (b:Array Bool) (a:Act) (w:World),ZeR P md ops Q S n L f b a w->wpAny P md ops Q (f+g) b a w
 |0,b,a,w,h=>by rw [Nat.zero_add];exact hL _ _ _ h
 |f+1,b,a,w,h=>by
  rw [show f+1+g=f+g+1 by omega];exact ⟨fun e=>absurd e h.1,fun i hi=>wpOp_mono (fun a' w' q=>Zh5 hL f _ a' w' q.2) (h.2 i hi).2⟩
theorem ZiV{n i j:Nat}{b:Array Bool}(hs:Region.sinkB md ops n=true)(hc:Region.chainB md ops n=true)(hn:n<ops.size)(inv:HeadInv md ops n b)(hin:i<n)(hi:i∈Region.ready md ops b)(hj:j∈Region.ready md ops b):j<n:=by
 rcases Nat.lt_or_ge j n with h|h
 ·exact h
 ·exact absurd hj (tail_waits hs hc hn inv _ i rfl hin (mem_ready.1 hi).1 j h)
theorem Zjh{n i:Nat}{oi:Oper}{v:Value}{L:Array Bool->Act->World->Prop}(hi:ops[i]?=some oi)(hsel:∀(j:Nat) (o:Oper) cs b,ops[j]?=some o->o.op≠.select cs b)
  (hs:Region.sinkB md ops n=true) (hc:Region.chainB md ops n=true) (hn:n<ops.size) (hin:i<n)
  (hQ:∀c a w,Q (.panic c) (a.put oi.dst v) w->Q (.panic c) a w) (hdone:∀b a w,L b a w->∀j∈Region.ready md ops b,n<=j) (f:Nat) :
  ∀(b:Array Bool) (a:Act) (w:World),HeadInv md ops n b->
   (∀j oj,ops[j]?=some oj->j≠i->b.getD j true=false->(∀e∈oj.after,Region.binds md e=true->e.on≠i)->oi.apart ops oj=true)->
   i∈Region.ready md ops b->YieldsIf P ops S oi v a->S w->ZeR P md ops Q S n L f (b.setIfInBounds i true) (a.put oi.dst v) w->ZeR P md ops Q S n L (f+1) b a w:=by
 induction f with
 |zero=>
  intro b a w inv _ hr hy hS H;refine ⟨List.ne_nil_of_mem hr,fun j hj=>⟨ZiV hs hc hn inv hin hr hj,?_⟩⟩;by_cases e:j=i
  ·subst e;exact hy.wpOp hi hS ⟨hS,H⟩
  ·have h1:=hdone _ _ _ H j (ready_mono hj e)
   have h2:=ZiV hs hc hn inv hin hr hj;omega
 |succ f ih=>
  intro b a w inv hfree hr hy hS H;refine ⟨List.ne_nil_of_mem hr,fun j hj=>?_⟩;have hjn:=ZiV hs hc hn inv hin hr hj;refine ⟨hjn,?_⟩;by_cases e:j=i
  ·subst e;exact hy.wpOp hi hS ⟨hS,H⟩
  ·obtain ⟨hju,oj,hoj,hall⟩:=mem_ready.1 hj
   have hno:∀e∈oj.after,Region.binds md e=true->e.on≠i:=by
    intro x hx hb q
    have:=hall x hx hb
    rw [q,getD_both (mem_ready.1 hr).1] at this;cases this
   have h2:=wpOp_putIf hoj (hfree j oj hoj e hju hno) (fun cs b=>hsel i oi cs b hi) (fun cs b=>hsel j oj cs b hoj) hQ hy (H.2 j (ready_mono hj e)).2;refine wpOp_mono (fun a' w' q=>⟨q.2.1,ih _ a' w' (inv.set hj hjn) (fun k ok hk hki hun hx=>hfree k ok hk hki ?_ hx) (ready_mono hr (Ne.symm e)) q.1 q.2.1 ?_⟩) h2
   ·by_cases z:j=k
    ·subst z;exact hju
    ·rwa [getD_set_ne true z] at hun
   ·rw [Array.setIfInBounds_comm _ _ e];exact q.2.2
def ZmP(P:Program)(md:Region.Mode)(ops:Array Oper)(Q:Exit->Act->World->Prop)(n:Nat)(b:Array Bool)(a:Act)(w:World):Prop:=
 Region.seqB md ops (ops.toList.drop n).length n b=true/\wpList P ops Q (ops.toList.drop n) a w
def Zba(P:Program)(md:Region.Mode)(ops:Array Oper)(Q:Exit->Act->World->Prop)(S:World->Prop)(n f:Nat)(b:Array Bool)(a:Act)(w:World):Prop:=
 HeadInv md ops n b->ZeR P md ops Q S n (ZmP P md ops Q n) f b a w
def Zd8(md:Region.Mode)(ops:Array Oper)(n:Nat):Bool:=Region.noSelect ops&&(decide (n<ops.size)&&(Region.sinkB md ops n&&Region.chainB md ops n))
theorem ZeC{n:Nat}(h:Zd8 md ops n=true):Region.noSelect ops=true/\n<ops.size/\Region.sinkB md ops n=true/\Region.chainB md ops n=true:=by
 simpa [Zd8] using h
theorem ZK{n i:Nat}{oi:Oper}{v:Value}{f:Nat}{b:Array Bool}{a:Act}{w:World}(hi:ops[i]?=some oi)(hok:Zd8 md ops n=true)(hin:decide (i<n)=true)
  (hf:Region.free md ops b i=true) (hr:(Region.ready md ops b).contains i=true) (hQ:∀c a w,Q (.panic c) (a.put oi.dst v) w->Q (.panic c) a w) (hy:YieldsIf P ops S oi v a) (hS:S w)
  (h:Zba P md ops Q S n f (b.setIfInBounds i true) (a.put oi.dst v) w):Zba P md ops Q S n (f+1) b a w:=by
 obtain ⟨h1,h2,h3,h4⟩:=ZeC hok;have hin:=of_decide_eq_true hin;have hr':i∈Region.ready md ops b:=by simpa using hr
 intro inv;exact Zjh hi (Region.noSelect_spec h1) h3 h4 h2 hin hQ (fun b a w hL=>seqB_ready hL.1) f b a w inv (Region.free_spec hi hf) hr' hy hS (h (inv.set hr' hin))
theorem Zq{n i:Nat}{oi:Oper}{f:Nat}{b:Array Bool}{a:Act}{w:World}(hi:ops[i]?=some oi)(hin:decide (i<n)=true)(hr:Region.ready md ops b=[i])
  (h:∀K:Act->World->Prop,Shut (∀a' w',S w'->(S w'->Zba P md ops Q S n f (b.setIfInBounds i true) a' w')->K a' w')->if Region.wanted oi (yielded ops a.tmps)=true then Oper.wp P oi a w K Q else K (a.put oi.dst undef) w):Zba P md ops Q S n (f+1) b a w:=by
 have hin:=of_decide_eq_true hin;intro inv;have hm:i∈Region.ready md ops b:=by rw [hr];simp
 refine ⟨by rw [hr];simp,fun j hj=>?_⟩;rw [hr] at hj;obtain rfl:j=i:=n97_;refine ⟨hin,?_⟩;unfold wpOp;simp only [hi];have h2:=h (fun a' w'=>S w'/\ZeR P md ops Q S n (ZmP P md ops Q n) f (b.setIfInBounds j true) a' w') (fun a' w' hS q=>⟨hS,q hS (inv.set hm hin)⟩);split
 ·rename_i hw;rw [if_pos hw] at h2;exact .inl h2
 ·rename_i hw;rw [if_neg hw] at h2;exact h2
theorem Zr{n:Nat}{b:Array Bool}{a:Act}{w:World}(hB:Region.seqB md ops (ops.toList.drop n).length n b=true)(h:wpList P ops Q (ops.toList.drop n) a w):Zba P md ops Q S n 0 b a w:=fun _=>⟨hB,h⟩
theorem Zi{id:Nat}{a:Act}{w:World}(n:Nat)(hm:P.follows .mixedOrders=true)(hok:Zd8 .any ops n=true)(hS:S w.drew)
  (h:S w.drew->Zba P .any ops Q S n n (Array.replicate ops.size false) a w.drew):(Code.region id ops true).wp P Q a w:=by
 obtain ⟨_,h2,_,_⟩:=ZeC hok;have inv0:HeadInv .any ops n (Array.replicate ops.size false):=
  ⟨s_,fun j oj _ hl=>(by rw [getD_replicate_false] at hl;cases hl),fun t _ ht=>getD_in (by simpa using ht) (getD_replicate_false _ _)⟩
 refine wp_region_any hm ?_
 have:=Zh5 (Q:=Q) (g:=(ops.toList.drop n).length) (fun b a w hL=>wpAny_of_seq (md:=.any) (ops.toList.drop n) n b a w (fun j=>by simp) hL.1 hL.2) n _ _ _ (h hS inv0)
 rw [show n+(ops.toList.drop n).length=ops.size by simp;omega] at this;exact this
end
theorem dT_{P:Program}{ops:Array Oper}{Q:Exit->Act->World->Prop}{md:Region.Mode}{S:World->Prop}{n i:Nat}{oi:Oper}{v:Value}{f:Nat}{b:Array Bool}{a:Act}{w:World}(hi:ops[i]?=some oi)(hy:∀w,S w->(execOp a.eval oi).run P w=.ok (.value v) w)(h:Zba P md ops Q S n f (b.setIfInBounds i true) (a.put oi.dst v) w)
 (hok:Zd8 md ops n=true:=by kernel_rfl) (hin:decide (i<n)=true:=by kernel_rfl) (hf:Region.free md ops b i=true:=by kernel_rfl) (hr:(Region.ready md ops b).contains i=true:=by kernel_rfl) (hQ:∀c a w,Q (.panic c) (a.put oi.dst v) w->Q (.panic c) a w:=by exact fun _ _ _ h=>h) (hw:Region.wanted oi (yielded ops a.tmps)=true:=by rfl) (hS:S w:=by assumption):Zba P md ops Q S n (f+1) b a w:=ZK hi hok hin hf hr hQ (Or.inl ⟨hw,hy⟩) hS h
theorem dN_{P:Program}{ops:Array Oper}{Q:Exit->Act->World->Prop}{md:Region.Mode}{S:World->Prop}{n:Nat}(s:Nat){oi:Oper}{v:Value}{f:Nat}{b:Array Bool}{a:Act}{w:World}(hi:ops[n-(f+1)+s]?=some oi)(hy:∀w,S w->(execOp a.eval oi).run P w=.ok (.value v) w)(h:Zba P md ops Q S n f (b.setIfInBounds (n-(f+1)+s) true) (a.put oi.dst v) w)
 (hok:Zd8 md ops n=true:=by kernel_rfl) (hin:decide (n-(f+1)+s<n)=true:=by kernel_rfl) (hf:Region.free md ops b (n-(f+1)+s)=true:=by kernel_rfl) (hr:(Region.ready md ops b).contains (n-(f+1)+s)=true:=by kernel_rfl) (hQ:∀c a w,Q (.panic c) (a.put oi.dst v) w->Q (.panic c) a w:=by exact fun _ _ _ h=>h) (hw:Region.wanted oi (yielded ops a.tmps)=true:=by rfl) (hS:S w:=by assumption):Zba P md ops Q S n (f+1) b a w:=ZK hi hok hin hf hr hQ (Or.inl ⟨hw,hy⟩) hS h
theorem dA_{P:Program}{ops:Array Oper}{Q:Exit->Act->World->Prop}{md:Region.Mode}{S:World->Prop}(s:Nat){oi:Oper}{v:Value}{f:Nat}{b:Array Bool}{a:Act}{w:World}(hi:ops[ops.size-(f+1)+s]?=some oi)(hy:∀w,S w->(execOp a.eval oi).run P w=.ok (.value v) w)(h:wpAnyH P md ops Q S f (b.setIfInBounds (ops.size-(f+1)+s) true) (a.put oi.dst v) w)
 (hs:Region.noSelect ops=true:=by kernel_rfl) (hf:Region.free md ops b (ops.size-(f+1)+s)=true:=by kernel_rfl) (hr:(Region.ready md ops b).contains (ops.size-(f+1)+s)=true:=by kernel_rfl) (hQ:∀c a w,Q (.panic c) (a.put oi.dst v) w->Q (.panic c) a w:=by exact fun _ _ _ h=>h) (hw:Region.wanted oi (yielded ops a.tmps)=true:=by rfl) (hS:S w:=by assumption):wpAnyH P md ops Q S (f+1) b a w:=wpAnyH_take hi hs hf hr hQ (Or.inl ⟨hw,hy⟩) hS h
theorem dB_{P:Program}{ops:Array Oper}{Q:Exit->Act->World->Prop}{md:Region.Mode}{S:World->Prop}{i:Nat}{oi:Oper}{v:Value}{f:Nat}{b:Array Bool}{a:Act}{w:World}(hi:ops[i]?=some oi)(hy:∀w,S w->(execOp a.eval oi).run P w=.ok (.value v) w)(h:wpAnyH P md ops Q S f (b.setIfInBounds i true) (a.put oi.dst v) w)(hs:Region.noSelect ops=true:=by kernel_rfl)(hf:Region.free md ops b i=true:=by kernel_rfl)(hr:(Region.ready md ops b).contains i=true:=by kernel_rfl)(hQ:∀c a w,Q (.panic c) (a.put oi.dst v) w->Q (.panic c) a w:=by exact fun _ _ _ h=>h)(hw:Region.wanted oi (yielded ops a.tmps)=true:=by rfl)(hS:S w:=by assumption):wpAnyH P md ops Q S (f+1) b a w:=wpAnyH_take hi hs hf hr hQ (Or.inl ⟨hw,hy⟩) hS h
theorem dU_{P:Program}{ops:Array Oper}{Q:Exit->Act->World->Prop}{md:Region.Mode}{S:World->Prop}{i:Nat}{oi:Oper}{f:Nat}{b:Array Bool}{a:Act}{w:World}(hi:ops[i]?=some oi)(h:wpAnyH P md ops Q S f (b.setIfInBounds i true) (a.put oi.dst undef) w)(hs:Region.noSelect ops=true:=by kernel_rfl)(hf:Region.free md ops b i=true:=by kernel_rfl)(hr:(Region.ready md ops b).contains i=true:=by kernel_rfl)(hQ:∀c a w,Q (.panic c) (a.put oi.dst undef) w->Q (.panic c) a w:=by exact fun _ _ _ h=>h)(hw:Region.wanted oi (yielded ops a.tmps)=false:=by rfl)(hS:S w:=by assumption):wpAnyH P md ops Q S (f+1) b a w:=wpAnyH_take hi hs hf hr hQ (Or.inr ⟨hw,rfl⟩) hS h
open Go Go.RowKit
set_option maxRecDepth 100000
theorem m1_{p:Prop}(h:p:=by obtain ⟨oa,cap,e,hr⟩:=h.ex;exact ⟨oa,cap,e,hr.below hb⟩):p:=h
def Zy{α:Type}(enc:α->List Value)(l:List α):List Value:=l.flatMap enc
theorem Xx{α:Type}{enc:α->List Value}{k:Nat}(hk:∀x,(enc x).length=k):∀l:List α,(Zy enc l).length=l.length*k
 |[]=>by simp [Zy]
 |x::r=>by
  have:=Xx hk r
  unfold Zy at *;rw [List.flatMap_cons,List.length_append,hk,this,List.length_cons,Nat.add_mul];omega
theorem ZcA{α:Type}{enc:α->List Value}{k:Nat}(hk:∀x,(enc x).length=k):∀(l:List α) (i j:Nat) (hi:i<l.length),j<k->(Zy enc l)[i*k+j]?=(enc l[i])[j]?
 |[],i,j,hi,_=>absurd hi s_
 |x::r,0,j,_,hj=>by
  unfold Zy;rw [List.flatMap_cons,Nat.zero_mul,Nat.zero_add,List.getElem?_append_left (by rw [hk];exact hj)];rfl
 |x::r,i+1,j,hi,hj=>by
  have:=ZcA hk r i j n126_ hj
  unfold Zy at *;rw [List.flatMap_cons,List.getElem?_append_right (by rw [hk,Nat.add_mul];omega),hk];rw [show (i+1)*k+j-k=i*k+j by rw [Nat.add_mul];omega,this];rfl
theorem ZH{α:Type}(enc:α->List Value)(a b:List α):Zy enc (a++b)=Zy enc a++Zy enc b:=by simp [Zy]
theorem YX{α:Type}(enc:α->List Value)(a:α):Zy enc [a]=enc a:=by simp [Zy]
theorem XC{α:Type}{enc:α->List Value}(h1:∀x,∀v∈enc x,v.oneCell'=true)(l:List α):∀v∈Zy enc l,v.oneCell'=true:=by
 intro v hv;obtain ⟨x,_,hx⟩:=List.mem_flatMap.1 hv;exact h1 x v hx
theorem ZoG{α:Type}{enc:α->List Value}{k:Nat}(hk:∀x,(enc x).length=k){w:World}{B:Nat}{T:TypeId}{oa:Option Addr}{n cap:Nat}{l:List α}(h:w.ownsRow B T k (.slice oa n cap) n (Zy enc l))(hn:n=l.length)
  {i:Nat} (hi:i<l.length):∃g,oa=some ⟨g,0,none⟩/\B<=g/\g<w.heap.size/\n<=cap/\∀j v,(enc l[i])[j]?=some v->w.cell? ⟨g,i*k+j,none⟩=some v:=by
 subst hn;rcases h.2 with ⟨_,h0⟩|⟨g,cap',cur,hv,hb,hg,hnc,hcm,hsz,ht⟩
 ·omega
 ·injection hv with e1 e2 e3
  subst e1;subst e3;refine ⟨g,rfl,hb,Zg hg,hnc,fun j v hj=>?_⟩;have hjk:j<k:=by
   rcases Nat.lt_or_ge j k with q|q
   ·exact q
   ·rw [List.getElem?_eq_none (by rw [hk];exact q)] at hj;cases hj
  have h1:=ZcA hk l i j hi hjk;rw [hj,<-ht] at h1;have hlt:i*k+j<l.length*k:=by
   have:=Nat.mul_le_mul_right k (show i+1<=l.length from hi);rw [Nat.add_mul,Nat.one_mul] at this;omega
  rw [List.getElem?_take_of_lt hlt] at h1;simp only [World.cell?,hg];simpa using h1
def ZB{α:Type}(enc:α->List Value)(k:Nat)(w:World)(oa:Option Addr)(l:List α):Prop:=
 ∀i (h:i<l.length),∃b o,oa=some ⟨b,o,none⟩/\b<w.heap.size/\∀j v,(enc l[i])[j]?=some v->w.cell? ⟨b,o+i*k+j,none⟩=some v
theorem ZB.below{α:Type}{enc:α->List Value}{k:Nat}{w w':World}{oa:Option Addr}{l:List α}(h:ZB enc k w oa l)(hb:Below w.heap.size w w'):ZB enc k w' oa l:=by
 intro i hi;obtain ⟨b,o,e,hlt,hc⟩:=h i hi;exact ⟨b,o,e,Nat.lt_of_lt_of_le hlt hb.size,fun j v hj=>(hb.cell (p:=⟨b,o+i*k+j,none⟩) hlt).trans (hc j v hj)⟩
theorem ZB.of_own{α:Type}{enc:α->List Value}{k:Nat}(hk:∀x,(enc x).length=k){w:World}{B:Nat}{T:TypeId}{oa:Option Addr}{cap:Nat}{l:List α}(h:w.ownsRow B T k (.slice oa l.length cap) l.length (Zy enc l)):ZB enc k w oa l:=by
 intro i hi;obtain ⟨g,e,hb,hlt,_,hc⟩:=ZoG hk h rfl hi;exact ⟨g,0,e,hlt,fun j v hj=>by rw [Nat.zero_add];exact hc j v hj⟩
theorem ZB.nil{α:Type}(enc:α->List Value)(k:Nat)(w:World)(oa:Option Addr):ZB enc k w oa ([]:List α):=fun i h=>absurd h s_
theorem ZoQ{α:Type}{enc:α->List Value}{k:Nat}(hk:∀x,(enc x).length=k)(h0:0<k){l:List α}{j:Nat}{u:Value}(h:(Zy enc l)[j]?=some u) :
  ∃i r,∃hi:i<l.length,r<k/\j=i*k+r/\(enc l[i])[r]?=some u:=by
 have hj:j<(Zy enc l).length:=(List.getElem?_eq_some_iff.1 h).1;rw [Xx hk] at hj;have hi:j / k<l.length:=(Nat.div_lt_iff_lt_mul h0).2 hj;have hr:=Nat.mod_lt j h0;have e:j=j / k*k+j % k:=by have:=Nat.div_add_mod j k;rw [Nat.mul_comm] at this;exact this.symm
 refine ⟨j / k,j % k,hi,hr,e,?_⟩;rw [<-ZcA hk l (j / k) (j % k) hi hr,<-e];exact h
section
variable {α:Type} {enc:α->List Value} {k:Nat} {w w':World} {oa:Option Addr} {l:List α}
theorem ZB.flat(hk:∀x,(enc x).length=k)(h0:0<k)(h:ZB enc k w oa l):∀j u,(Zy enc l)[j]?=some u->∃b o,oa=some ⟨b,o,none⟩/\w.cell? ⟨b,o+j,none⟩=some u:=by
 intro j u hj;obtain ⟨i,r,hi,hr,rfl,hu⟩:=ZoQ hk h0 hj;obtain ⟨b,o,e,_,hc⟩:=h i hi;exact ⟨b,o,e,by rw [<-Nat.add_assoc];exact hc r u hu⟩
theorem ZB.take(h:ZB enc k w oa l)(n:Nat):ZB enc k w oa (l.take n):=by
 intro i hi;obtain ⟨b,o,e,hl,hc⟩:=h i (by simp at hi;omega);exact ⟨b,o,e,hl,by rw [List.getElem_take];exact hc⟩
theorem ZB.drop{b o:Nat}(h:ZB enc k w (some ⟨b,o,none⟩) l)(n:Nat):ZB enc k w (some ⟨b,o+n*k,none⟩) (l.drop n):=by
 intro i hi;obtain ⟨b1,o1,e,hl,hc⟩:=h (n+i) (by simp at hi;omega);injection e with e;injection e with e1 e2
 subst e1;subst e2;refine ⟨b,o+n*k,rfl,hl,fun j v hj=>?_⟩;rw [List.getElem_drop] at hj
 have:=hc j v hj
 rwa [Nat.add_mul,<-Nat.add_assoc] at this
theorem ZB.holds{b o:Nat}(hk:∀x,(enc x).length=k)(h0:0<k)(h:ZB enc k w (some ⟨b,o,none⟩) l):∀b',(some (⟨b,o,none⟩:Addr))=some b'->∀j u,(Zy enc l)[j]?=some u->w.cell? (b'.add j)=some u:=by
 intro b' e j u hu;injection e with e
 subst e;obtain ⟨b1,o1,e1,hc⟩:=h.flat hk h0 j u hu;injection e1 with e1;injection e1 with e2 e3
 subst e2;subst e3;rw [show (⟨b,o,none⟩:Addr).add j=⟨b,o+j,none⟩ by unfold Addr.add;split<;>simp_all];exact hc
end
theorem Zhk{w:World}{base k:Nat}{e:TypeId}{v:Value}{n:Nat}{xs:List Value}(h:w.ownsRow base e k v n xs)(hn:0<n) :
  ∃g cap,v=.slice (some ⟨g,0,none⟩) n cap/\(∀j u,xs[j]?=some u->w.cell? ((⟨g,0,none⟩:Addr).add j)=some u)/\base<=g/\g<w.heap.size:=by
 rcases h.2 with ⟨_,h0⟩|⟨g,cap,cur,hv,hb,hg,hnc,hcm,hs,ht⟩
 ·omega
 ·refine ⟨g,cap,hv,fun j u hu=>?_,hb,Zg hg⟩
  rw [show (⟨g,0,none⟩:Addr).add j=⟨g,j,none⟩ by unfold Addr.add;split<;>simp_all];have hj:j<xs.length:=(List.getElem?_eq_some_iff.1 hu).1;rw [h.1] at hj;rw [<-ht,List.getElem?_take_of_lt hj] at hu;simp only [World.cell?,hg];simpa using hu
theorem Zlq(w:World)(x y z:Value)(T:TypeId):(w.alloc (.cells #[x,y,z] T)).ownsRow w.heap.size T 3 (.slice (some ⟨w.heap.size,0,none⟩) 1 1) 1 [x,y,z]:=
 ⟨rfl,.inr ⟨w.heap.size,1,#[x,y,z],rfl,l_,heap_alloc_new _ _,l_,d_,rfl,rfl⟩⟩
structure Zmj{α:Type}(enc:α->List Value)(k:Nat)(w:World)(oa:Option Addr)(cap:Nat)(l:List α):Prop where
 row:ZB enc k w oa l
 fit:l.length<=cap
 isnil:oa=none->cap=0
 form:∀a,oa=some a->∃b o,a=⟨b,o,none⟩
section
variable {α:Type} {enc:α->List Value} {k:Nat} {w w':World} {oa:Option Addr} {cap:Nat} {l:List α}
theorem Zmj.below(h:Zmj enc k w oa cap l)(hb:Below w.heap.size w w'):Zmj enc k w' oa cap l:=⟨h.row.below hb,h.fit,h.isnil,h.form⟩
theorem Zmj.none:Zmj enc k w none 0 []:=⟨fun i h=>absurd h s_,l_,fun _=>rfl,fun a e=>by cases e⟩
theorem Zmj.of_own(hk:∀x,(enc x).length=k){B:Nat}{T:TypeId}(h:w.ownsRow B T k (.slice oa l.length cap) l.length (Zy enc l)):Zmj enc k w oa cap l:=by
 refine ⟨ZB.of_own hk h,?_,?_,?_⟩
 ·rcases h.2 with ⟨hv,h0⟩|⟨g,cap',cur,hv,hb,hg,hnc,_⟩
  ·omega
  ·injection hv with _ _ e3;omega
 ·rintro rfl
  rcases h.2 with ⟨hv,h0⟩|⟨g,cap',cur,hv,_⟩
  ·injection hv
  ·injection hv with e1;cases e1
 ·rintro a rfl
  rcases h.2 with ⟨hv,h0⟩|⟨g,cap',cur,hv,_⟩
  ·injection hv with e1;cases e1
  ·injection hv with e1;injection e1 with e1;exact ⟨g,0,e1⟩
end
theorem Za{w w':World}{b:Nat}{o:Obj}(h:w.heap[b]?=some o)(hb:Below w.heap.size w w'):w'.heap[b]?=some o:=(hb.block b (Zg h)).trans h
theorem YB{w:World}{b:Nat}{x y:Value}{T:TypeId}(h:w.heap[b]?=some (.cells #[x,y] T (0,0))):w.cell? ⟨b,0,none⟩=some x/\w.cell? ⟨b,1,none⟩=some y:=
 ⟨n33_,n33_⟩
theorem cells3{w:World}{b:Nat}{x y z:Value}{T:TypeId}(h:w.heap[b]?=some (.cells #[x,y,z] T (0,0))):w.cell? ⟨b,0,none⟩=some x/\w.cell? ⟨b,1,none⟩=some y/\w.cell? ⟨b,2,none⟩=some z:=
 ⟨n33_,n33_,n33_⟩
theorem Zj.drop{w:World}{b o:Nat}{l:List (List UInt8)}(h:Zj w (some ⟨b,o,none⟩) l)(k:Nat):Zj w (some ⟨b,o+k,none⟩) (l.drop k):=by
 intro i hi;obtain ⟨b',o',e,hc⟩:=h (k+i) (by simp at hi;omega);injection e with e;injection e with e1 e2
 subst e1;subst e2;exact ⟨b,o+k,rfl,by rw [Nat.add_assoc];simpa using hc⟩
theorem Zbj{P:Program}{ops:Array Oper}{o:Oper}{a:Act}{w:World}{K:Act->World->Prop}{Q:Exit->Act->World->Prop}{E:Prop}
  (hg:o.guard=none) (s x:Operand) (t:TypeId) (hop:o.op=Op.call { callee:=Callee.builtin Builtin.append,args:=#[s,x],argTypes:=#[t,t] })
  (base e:TypeId) (i:TypeInfo) (z:Value) (size bytes:Nat) (ht:P.underlying t=some (.slice e)) (hi:P.info? e=some i) (hz:i.zero=some z)
  (hsize:i.size=size) (hby:i.bytes=bytes) (hzs:z.cells.size=size) (hsz:0<size)
  (v:Value) (n:Nat) (xs:List Value) (hs:a.eval s=v) (hown:w.ownsRow base e size v n xs) (oa:Option Addr) (m c:Nat) (news:List Value) (hx:a.eval x=.slice oa m c) (hl:news.length=m*size)
  (hc:∀j u,news[j]?=some u->∃b o,oa=some ⟨b,o,none⟩/\w.cell? ⟨b,o+j,none⟩=some u) (h1:∀u∈news,u.oneCell'=true)
  (h63:n+m<=maxLen) (hbytes:(n+m)*bytes<=140737488355328) (hbase:base<=w.heap.size)
  (hK:∀v' w',w'.ownsRow base e size v' (n+m) (xs++news)->w.grownBy w' v.ownBlock->K (a.put o.dst v') w') :
  if Region.wanted o (yielded ops a.tmps)=true then Oper.wp P o a w K Q else E:=by
 have hw:Region.wanted o (yielded ops a.tmps)=true:=by simp [Region.wanted,hg]
 rw [if_pos hw];obtain ⟨v',w',hrun,r1,r2⟩:=Xu (P:=P) base t o.type e i z size bytes ht hi hz hsize hby hzs hsz v n xs hown oa m c news hl hc h1 h63 hbytes hbase;unfold Oper.wp;simp [execOp,hop,resolve,invoke,builtin,hs,hx,hrun,Result.andThen];exact hK v' w' r1 r2
theorem Zp{w w':World}{B e size n:Nat}{v:Value}{xs:List Value}(h:w.ownsRow B e size v n xs)(hb:Below w.heap.size w w'):w'.ownsRow B e size v n xs:=by
 refine ⟨h.1,?_⟩;rcases h.2 with hn|⟨g,cap,cur,rfl,hg,hgg,rest⟩
 ·exact .inl hn
 ·exact .inr ⟨g,cap,cur,rfl,hg,by rw [hb.block g (Zg hgg)];exact hgg,rest⟩
theorem Zb8{w:World}{base e size n X:Nat}{v:Value}{xs:List Value}(h:w.ownsRow base e size v n xs){cs:Array Value}{T:TypeId}{fz:Nat×Nat}(hx:w.heap[X]?=some (.cells cs T fz))(hT:T≠e):some X≠v.ownBlock:=by
 rcases h.2 with ⟨rfl,_⟩|⟨g,cap,cur,rfl,hg,hgg,rest⟩
 ·simp [Value.ownBlock]
 ·simp only [Value.ownBlock]
  intro e2;injection e2 with e2
  subst e2;rw [hgg] at hx;injection hx with hx
  injection hx with h1 h2
  exact hT h2.symm
theorem Ze0{P:Program}{w:World}{ops:Array Oper}{rest:List Oper}{o:Oper}{a:Act}{Q:Exit->Act->World->Prop}(hg:Region.wanted o (yielded ops a.tmps)=true)(t:TypeId)(x:Operand)(b n:Nat)(part:Array Value)(d:TypeDesc)(ho:o.op=Op.load t x)
  (hx:a.eval x=.pointer (some ⟨b,n,none⟩)) (hp:∀j v,part[j]?=some v->w.cell? ⟨b,n+j,none⟩=some v) (hd:P.underlying t=some d) (hr:d.isRow=true) (hi:(P.info? t).map (·.size)=some part.size)
  (h:wpList P ops Q rest (a.put o.dst (.agg part)) w):wpList P ops Q (o::rest) a w:=by
 refine wpList_step fun K hK=>?_
 rw [if_pos hg];refine wp_load_mid t x ho b n hx part.toList d ?_ hd hr n126_ (by simpa using hK _ _ h);intro j v hv;exact hp j v n127_
structure ZcV{α:Type}(enc:α->List Value)(k:Nat)(w:World)(v:Value)(l:List α):Prop where
 ex:∃oa cap,v=.slice oa l.length cap/\ZB enc k w oa l
theorem ZcV.below{α:Type}{enc:α->List Value}{k:Nat}{w w':World}{v:Value}{l:List α}(h:ZcV enc k w v l)(hb:Below w.heap.size w w'):ZcV enc k w' v l:=by
 exact m1_
structure Zl5(w:World)(v:Value)(l:List Str):Prop where
 ex:∃oa cap,v=.slice oa l.length cap/\Zj w oa l
theorem Zl5.below{w w':World}{v:Value}{l:List Str}(h:Zl5 w v l)(hb:Below w.heap.size w w'):Zl5 w' v l:=by
 exact m1_
theorem ZlH{w:World}{B:Nat}{T:TypeId}{v:Value}{l:List Str}(h:w.ownsRow B T 1 v l.length (Ze l)):∃oa cap,v=.slice oa l.length cap/\Zj w oa l:=by
 obtain ⟨oa,cap,rfl⟩:=ownsRow_form h;exact ⟨oa,cap,rfl,Zj.of_own h⟩
structure Yn where
 sec:Str
 name:Str
 form:Int
 list:Bool
 kinds:Int
 words:List Str
deriving DecidableEq
abbrev Qc:Str:=[85,110,105,116]
abbrev ZdA:Str:=[68,101,115,99,114,105,112,116,105,111,110]
abbrev JI:Str:=[68,101,102,97,117,108,116,68,101,112,101,110,100,101,110,99,105,101,115]
abbrev ZhA:Str:=[82,101,113,117,105,114,101,115]
abbrev Zo1:Str:=[87,97,110,116,115]
abbrev Zgw:Str:=[82,101,113,117,105,115,105,116,101]
abbrev Zjc:Str:=[66,105,110,100,115,84,111]
abbrev Zmz:Str:=[80,97,114,116,79,102]
abbrev Zga:Str:=[67,111,110,102,108,105,99,116,115]
abbrev Zmu:Str:=[66,101,102,111,114,101]
abbrev Zo9:Str:=[65,102,116,101,114]
abbrev ZfD:Str:=[79,110,70,97,105,108,117,114,101]
abbrev QZ:Str:=[83,116,97,114,116,76,105,109,105,116,73,110,116,101,114,118,97,108,83,101,99]
abbrev Zbg:Str:=[83,116,97,114,116,76,105,109,105,116,66,117,114,115,116]
abbrev ZI:Str:=[83,101,114,118,105,99,101]
abbrev Zhu:Str:=[84,121,112,101]
abbrev ZcC:Str:=[69,120,101,99,83,116,97,114,116,80,114,101]
abbrev ZfU:Str:=[69,120,101,99,83,116,97,114,116]
abbrev ZbV:Str:=[69,120,101,99,83,116,97,114,116,80,111,115,116]
abbrev ZhX:Str:=[69,120,101,99,83,116,111,112]
abbrev ZeS:Str:=[69,120,101,99,82,101,108,111,97,100]
abbrev Za1:Str:=[82,101,109,97,105,110,65,102,116,101,114,69,120,105,116]
abbrev Za3:Str:=[82,101,115,116,97,114,116]
abbrev Zez:Str:=[82,101,115,116,97,114,116,83,101,99]
abbrev Za9:Str:=[84,105,109,101,111,117,116,83,116,97,114,116,83,101,99]
abbrev ZbG:Str:=[84,105,109,101,111,117,116,83,116,111,112,83,101,99]
abbrev Zaa:Str:=[83,117,99,99,101,115,115,69,120,105,116,83,116,97,116,117,115]
abbrev ZiR:Str:=[69,110,118,105,114,111,110,109,101,110,116]
abbrev ZfK:Str:=[83,111,99,107,101,116,115]
abbrev Zql:Str:=[115,105,109,112,108,101]
abbrev ZoX:Str:=[111,110,101,115,104,111,116]
abbrev ZpT:Str:=[110,111,116,105,102,121]
abbrev nno:Str:=[110,111]
abbrev ZkM:Str:=[111,110,45,115,117,99,99,101,115,115]
abbrev Zkl:Str:=[111,110,45,102,97,105,108,117,114,101]
abbrev Zim:Str:=[111,110,45,97,98,110,111,114,109,97,108]
abbrev Zp8:Str:=[97,108,119,97,121,115]
abbrev YZ:Str:=[83,111,99,107,101,116]
abbrev ZcQ:Str:=[76,105,115,116,101,110,83,116,114,101,97,109]
abbrev ZkK:Str:=[66,97,99,107,108,111,103]
abbrev JU:Str:=[70,105,108,101,68,101,115,99,114,105,112,116,111,114,78,97,109,101]
abbrev XI:Str:=[84,105,109,101,114]
abbrev ZgV:Str:=[79,110,66,111,111,116,83,101,99]
abbrev ZdO:Str:=[79,110,65,99,116,105,118,101,83,101,99]
abbrev Zaj:Str:=[79,110,85,110,105,116,73,110,97,99,116,105,118,101,83,101,99]
abbrev Zex:Str:=[79,110,67,97,108,101,110,100,97,114]
abbrev ZeT:Str:=[80,101,114,115,105,115,116,101,110,116]
abbrev Qz:Str:=[73,110,115,116,97,108,108]
abbrev Zeb:Str:=[87,97,110,116,101,100,66,121]
abbrev ZbW:Str:=[82,101,113,117,105,114,101,100,66,121]
abbrev Zlw:Str:=[65,108,105,97,115]
abbrev ZoI:Str:=[65,108,115,111]
abbrev Zbh:Str:=[68,101,102,97,117,108,116,73,110,115,116,97,110,99,101]
abbrev Zb1:List Str:=[ZdA]
abbrev ZbQ:List Str:=[JI]
abbrev ZbU:List Str:=[ZhA,Zo1,Zgw,Zjc,Zmz,Zga,Zmu,Zo9,ZfD]
abbrev Zck:List Str:=[QZ]
abbrev Zb2:List Str:=[Zbg]
abbrev JL:List Str:=[Zql,ZoX,ZpT]
abbrev JB:List Str:=[ZcC,ZfU,ZbV,ZhX,ZeS]
abbrev Jy:List Str:=[Za1]
abbrev JD:List Str:=[nno,ZkM,Zkl,Zim,Zp8]
abbrev Jz:List Str:=[Zez,Za9,ZbG]
abbrev JH:List Str:=[Zaa]
abbrev JK:List Str:=[ZiR]
abbrev Jw:List Str:=[ZfK]
abbrev Zap:List Str:=[ZcQ]
abbrev Zad:List Str:=[ZkK]
abbrev Zao:List Str:=[JU]
abbrev Zau:List Str:=[ZI]
abbrev Zbc:List Str:=[ZgV,ZdO,Zaj]
abbrev Zbi:List Str:=[Zex]
abbrev Zbe:List Str:=[ZeT]
abbrev ZaY:List Str:=[Qc]
abbrev JG:List Str:=[Zeb,ZbW,Zlw,ZoI]
abbrev JM:List Str:=[Zbh]
def keysOf(sec:Str)(kinds form:Int)(list:Bool)(names:List Str):List Yn:=names.map fun n=>⟨sec,n,form,list,kinds,[]⟩
def Zjd:List Yn:=keysOf Qc 30 1 false Zb1++keysOf Qc 30 2 false ZbQ++keysOf Qc 30 6 true ZbU++keysOf Qc 30 4 false Zck++keysOf Qc 30 3 false Zb2
def Ze2:List Yn:=[⟨ZI,Zhu,10,false,2,JL⟩]++keysOf ZI 2 7 true JB++keysOf ZI 2 2 false Jy++[⟨ZI,Za3,10,false,2,JD⟩]++keysOf ZI 2 4 false Jz++keysOf ZI 2 11 true JH++keysOf ZI 2 8 true JK++keysOf ZI 2 6 true Jw
def ZfL:List Yn:=keysOf YZ 4 11 true Zap++keysOf YZ 4 3 false Zad++keysOf YZ 4 1 false Zao++keysOf YZ 4 5 false Zau
def Zhh:List Yn:=keysOf XI 8 4 true Zbc++keysOf XI 8 9 true Zbi++keysOf XI 8 2 false Zbe++keysOf XI 8 5 false ZaY
def Ze8:List Yn:=keysOf Qz 30 6 true JG++keysOf Qz 30 1 false JM
def Zx:List Yn:=Zjd++(Ze2++(ZfL++(Zhh++(Ze8))))
def findKey(sec name:Str):Option Yn:=Zx.find? fun k=>k.sec==sec&&k.name==name
theorem XA:Zx.length=42:=d_
open Go.Proofs.Tryz
structure ZT where
 sec:Str
 name:Str
 form:Int
 list:Bool
 kinds:Int
 wa:Option Addr
 wn:Nat
 wc:Nat
def Zv(k:ZT):List Value:=[.string ⟨k.sec.toArray⟩,.string ⟨k.name.toArray⟩,.int .i64 k.form,.bool k.list,.int .i64 k.kinds,.slice k.wa k.wn k.wc]
theorem ZdG(k:ZT):∀v∈Zv k,v.oneCell'=true:=by intro v hv;simp [Zv] at hv;rcases hv with rfl|rfl|rfl|rfl|rfl|rfl<;>rfl
def YM(sec:Str)(kinds form:Int)(list:Bool)(n:Str):ZT:=⟨sec,n,form,list,kinds,none,0,0⟩
theorem ZdR:(prog.info? 66).map (fun i=>(i.zero,i.size,i.bytes))=some (some (.agg #[.string ⟨#[]⟩,.string ⟨#[]⟩,.int .i64 0,.bool false,.int .i64 0,.slice none 0 0]),6,80):=k_
theorem ZgB(w:World)(a b c d e f:Value)(T:TypeId):(w.alloc (.cells #[a,b,c,d,e,f] T)).ownsRow w.heap.size T 6 (.slice (some ⟨w.heap.size,0,none⟩) 1 1) 1 [a,b,c,d,e,f]:=
 ⟨rfl,.inr ⟨w.heap.size,1,#[a,b,c,d,e,f],rfl,l_,heap_alloc_new _ _,l_,d_,rfl,rfl⟩⟩
theorem ZaH{w:World}{B e k n:Nat}{v:Value}{xs:List Value}(h:w.ownsRow B e k v n xs):∀g,v.ownBlock=some g->B<=g/\ZbX e w g:=by
 intro g hg;rcases h.2 with ⟨rfl,_⟩|⟨g',cap,cur,rfl,hb,hh,_⟩
 ·simp [Value.ownBlock] at hg
 ·simp [Value.ownBlock] at hg
  subst hg;exact ⟨hb,cur,(0,0),hh⟩
structure XU(w:World)(P B:Nat)(sec:Str)(kinds:Int)(kvs:List ZT):Prop where
 ex:∃ga gc,w.heap[P]?=some (.cells #[.string ⟨sec.toArray⟩,.int .i64 kinds,.slice ga kvs.length gc] 141 (0,0))/\w.ownsRow B 66 6 (.slice ga kvs.length gc) kvs.length (Zy Zv kvs)
theorem XU.below{w w':World}{P B:Nat}{sec:Str}{kinds:Int}{kvs:List ZT}(h:XU w P B sec kinds kvs)(hb:Below w.heap.size w w'):XU w' P B sec kinds kvs:=by
 obtain ⟨ga,gc,h1,h2⟩:=h.ex;exact ⟨ga,gc,Za h1 hb,Zp h2 hb⟩
theorem XU.more{wr w7 w8:World}{P B:Nat}{sec:Str}{kinds:Int}{kvs:List ZT}{k:ZT}{ga ga2:Option Addr}{gc gc2:Nat}(hb:Below wr.heap.size wr w7)
  (h1:wr.heap[P]?=some (.cells #[.string ⟨sec.toArray⟩,.int .i64 kinds,.slice ga kvs.length gc] 141 (0,0))) (h2:wr.ownsRow B 66 6 (.slice ga kvs.length gc) kvs.length (Zy Zv kvs)) (hPB:P<B)
  (hg:w7.grownBy w8 (Value.slice ga kvs.length gc).ownBlock) (ho:w8.ownsRow B 66 6 (.slice ga2 (kvs.length+1) gc2) (kvs.length+1) (Zy Zv kvs++Zv k)) :
  XU (w8.setCell ⟨P,2,none⟩ (.slice ga2 (kvs.length+1) gc2)) P B sec kinds (kvs++[k])/\FrB P B 66 wr (w8.setCell ⟨P,2,none⟩ (.slice ga2 (kvs.length+1) gc2)):=by
 have b7:=Za h1 hb;have o7:=Zp h2 hb;have b8:w8.heap[P]?=some (.cells #[.string ⟨sec.toArray⟩,.int .i64 kinds,.slice ga kvs.length gc] 141 (0,0)):=by
  rw [hg.block P (Zg b7) (Zb8 o7 b7 d_)];exact b7
 have e:(kvs++[k]).length=kvs.length+1:=s_;refine ⟨⟨ga2,gc2,?_,?_⟩,?_⟩
 ·have:=heap_setCell b8 2 (.slice ga2 (kvs.length+1) gc2)
  rw [this,e];rfl
 ·rw [e,ZH,YX]
  refine ⟨ho.1,?_⟩;rcases ho.2 with hn|⟨g,cp,cur,hv,hg2,hgg,rest⟩
  ·exact .inl hn
  ·refine .inr ⟨g,cp,cur,hv,hg2,?_,rest⟩
   have hne:g≠P:=o_;exact Zk hgg (a:=⟨P,2,none⟩) hne _
 ·have f1:FrB P B 66 wr w7:=Fr.of_below hb _
  exact (f1.trans ((FrB.refl P B 66 w7).grown hg (ZaH o7))).setCell 2 _
theorem Zi9(P B:Nat)(sec:Str)(kinds form:Int)(list:Bool)(kvs:List ZT)(NB nc:Nat)(names:List Str)(w:World)(hG:XU w P B sec kinds kvs)(hPB:P<B)(hBw:B<=w.heap.size)
  (hN:w.heap[NB]?=some (.cells (Ze names).toArray 9 (0,0))) (hl:names.length<=100) (hk:kvs.length<=100) :
  Calls prog 102 #[.pointer (some ⟨P,0,none⟩),.int .i64 form,.bool list,.slice (some ⟨NB,0,none⟩) names.length nc] w fun e w'=>e=.returned (.tuple #[])/\XU w' P B sec kinds (kvs++names.map (YM sec kinds form list))/\FrB P B 66 w w':=by
 obtain ⟨i0,hi0,hz0,hz1,hz2⟩:=info_parts ZdR;have HN:=h_ hN;have HG0:=h_ (show XU w P B sec kinds (kvs++(names.take 0).map (YM sec kinds form list)) by simpa using hG);have HNP:=h_ (show NB≠P from by rintro rfl;obtain ⟨ga,gc,h1,_⟩:=hG.ex;rw [hN] at h1;simp at h1);clear hN hG;go_enter func102,ntmps102;go_wp2_with fail;go_loopg [12] (names.length+1) (fun f i wr=>∃k:Nat,k<=names.length/\i=.int .i64 k/\names.length-k<f/\Hid (XU wr P B sec kinds (kvs++(names.take k).map (YM sec kinds form list)))/\Hid (FrB P B 66 w wr))
 case atStart=>exact ⟨0,o_,rfl,o_,HG0,FrB.refl _ _ _ _⟩
 case round=>
  obtain ⟨k,hk2,rfl,hfu,HGk,Hf⟩:=hrel;clear HG0;by_cases hlt:k<names.length
  ·obtain ⟨n,hn⟩:=e_ (names[k])
   have hb2:=Hf.out.heap HN.out HNP.out d_;have d0:wr.cell? ⟨NB,k,none⟩=some (.string ⟨n.toArray⟩):=by
    rw [(rd hb2).1 k,List.getElem?_toArray,Ze,List.getElem?_map,List.getElem?_eq_getElem hlt,hn];rfl
   have HSN:=h_ (show kvs++(names.take (k+1)).map (YM sec kinds form list)=(kvs++(names.take k).map (YM sec kinds form list))++[YM sec kinds form list n] by
    rw [List.take_succ_eq_append_getElem hlt,List.map_append,hn];simp)
   have hlen:(kvs++(names.take k).map (YM sec kinds form list)).length<=200:=by rw [List.length_append,List.length_map,List.length_take];omega
   have hsz:=Hf.out.size;generalize kvs++(names.take k).map (YM sec kinds form list)=ks at *;obtain ⟨ga,gc,hbx,hown⟩:=HGk.out.ex;have HBX:=h_ hbx;have HOW:=h_ hown;have i5:(k:Int)<(names.length:Int):=o_;clear hb2 hn hbx hown;go_wp2_with fail;refine Zi (S:=fun V=>V.heap[P]?=some (.cells #[.string ⟨sec.toArray⟩,.int .i64 kinds,.slice ga ks.length gc] 141 (0,0))) 19 k_ k_ HBX.out (fun hHeld=>?_);refine u_ ?_;(iterate 17 refine dN_ 0 (gT_ rfl) (fun W hW=>by obtain ⟨q0,q1,q2⟩:=cells3 hW;clear hW;go_simp;rfl) (u_ ?_));refine Zq (i:=17) (gT_ rfl) k_ k_ (fun K hK=>?_);clear hHeld;rw [if_pos n19_];go_simp;have HBJ:=h_ (show Below wr.heap.size wr (wr.drew.alloc (.cells #[.string ⟨sec.toArray⟩,.string ⟨n.toArray⟩,.int .i64 form,.bool list,.int .i64 kinds,.slice none 0 0] 66)) from (show Below wr.heap.size wr wr.drew from Zb ⟨1,rfl⟩).alloc l_ _);have HBL:=h_ (ZB.of_own (enc:=Zv) (k:=6) (l:=[YM sec kinds form list n]) (oa:=some ⟨wr.drew.heap.size,0,none⟩) (cap:=1) (fun _=>rfl) (ZgB wr.drew (.string ⟨sec.toArray⟩) (.string ⟨n.toArray⟩) (.int .i64 form) (.bool list) (.int .i64 kinds) (.slice none 0 0) 66));refine hK.out _ _ (Za HBX.out HBJ.out) (fun hHeld=>?_);clear hK K;refine u_ ?_;refine Zq (i:=18) (gT_ rfl) k_ k_ (fun K hK=>?_);clear hHeld;refine Zbj n19_ (.tmp 20) (.tmp 33) 98 n19_ B 66 i0 (.agg #[.string ⟨#[]⟩,.string ⟨#[]⟩,.int .i64 0,.bool false,.int .i64 0,.slice none 0 0]) 6 80 underlying98 hi0 hz0 hz1 hz2 n19_ d_ (.slice ga ks.length gc) ks.length (Zy Zv ks) n19_ (Zp HOW.out HBJ.out) (some ⟨wr.heap.size,0,none⟩) 1 1 (Zy Zv [YM sec kinds form list n]) n19_
     rfl (ZB.flat (enc:=Zv) (k:=6) (fun _=>rfl) o_ HBL.out) (XC ZdG _) n20_ o_ (Nat.le_trans (Nat.le_trans hBw hsz) HBJ.out.size) ?_
   intro v1 w7 hown1 hgrow1;obtain ⟨ga2,gc2,rfl⟩:=ownsRow_form hown1;have HM:=h_ (XU.more (k:=YM sec kinds form list n) HBJ.out HBX.out HOW.out hPB hgrow1 (by rw [<-YX Zv];exact hown1));have HBX7:=h_ (show w7.heap[P]?=some (.cells #[.string ⟨sec.toArray⟩,.int .i64 kinds,.slice ga ks.length gc] 141 (0,0)) from by
    rw [hgrow1.block P (Zg (Za HBX.out HBJ.out)) (Zb8 (Zp HOW.out HBJ.out) (Za HBX.out HBJ.out) d_)];exact Za HBX.out HBJ.out)
   clear hown1 hgrow1;refine hK.out _ _ HBX7.out (fun hHeld=>?_);clear hK K;refine u_ ?_;refine Zr k_ ?_;clear hHeld;have hgb:=rd HBX7.out;have s3:=(cells3 HBX7.out).2.2;have s4:=hgb.2.1 2;have s5:=hgb.2.2.1;clear hgb;go_wp2_with fail;go_roundg (gk-1)
   case measure=>omega
   case rel=>exact ⟨k+1,o_,n14_,o_,by rw [HSN.out];exact HM.out.1,Hf.out.trans HM.out.2⟩
  ·have hk3:k=names.length:=o_
   subst hk3;rw [List.take_of_length_le l_] at HGk;go_wp2_with fail;refine ⟨rfl,_,results_none rfl _ _ _,?_⟩;exact ⟨rfl,HGk.out,Hf.out⟩
def Zra{β:Type}(b:Nat)(J:β->World->Prop):Prop:=∀s A B,J s A->A.grownBy B (some b)->J s B
def Zi3{β:Type}(B0 b:Nat)(J:β->World->Prop):Prop:=
 ∀s A B row,J s A->A.grownBy B row->(∀r,row=some r->r=b\/(B0<=r/\∃o:Obj,A.heap[r]?=some o/\o.isCells=false))->J s B
def ZpD{α:Type}(n:Nat)(P:Program)(g:Nat)(lb:Array Value)(enc:α->Value)(b:Nat)(Kp:World->World->Prop)(xs:List α)(w:World):Prop:=
 ∀(l:Nat) (J Jx:List α->World->Prop) (W:World),Kp w W->Zra b J->
  (∀pre x post W1,xs=pre++x::post->J pre W1->YieldAt Fence.wide (n-1) P l #[enc x] W1 fun e W' =>
   (e=.returned (.bool true)/\J (pre++[x]) W'/\Kp W1 W')\/(e=.returned (.bool false)/\Jx (pre++[x]) W'))->
  J [] W->
  CallsIn Fence.wide n P g (#[.func (.yield l) #[] #[]]++lb) W fun e W'=>(∃v,e=.returned v)/\(J xs W'\/∃pre,Jx pre W')
theorem ZmQ{A B:World}{b k:Nat}{o:Obj}(h:A.grownBy B (some b))(hk:A.heap[k]?=some o)(hne:k≠b):B.heap[k]?=some o:=
 (h.block k (Zg hk) (fun e=>hne (by injection e))).trans hk
theorem ZeH{α:Type}{n:Nat}{P:Program}{g:Operand}{ps:Array Tmp}{assign body:Code}{Q:Exit->Act->World->Prop}{a:Act}{w:World}{gf:Nat}{lb:Array Value}(hg:a.eval g=.func (.func gf) #[] lb)
  (eg:∀args w,(callFunc gf args).run P w=.ok (.enter gf args) w) {enc:α->Value} {b:Nat} {Kp:World->World->Prop} {xs:List α} (hseq:ZpD (n-1) P gf lb enc b Kp xs w) (hb:b<w.heap.size)
  (hKn:∀A o,w.heap.size<=A.heap.size->Kp A (A.alloc o)) (hKt:∀{A B C:World},Kp A B->Kp B C->Kp A C) (hKb:∀(W:World) (l:Nat) (o:Obj),w.heap.size<=l->Kp W (W.putObj l o)) (hps:ps.size=1)
  (I:List α->World->Prop) (Ix:Code->List α->World->Prop) (hI:Zi3 w.heap.size b I) (hIx:∀c,Zi3 w.heap.size b (Ix c)) (h0:I [] w) (a₁:α->Act)
  (hassign:∀(l:Nat) (x:α) (W:World) (K:Act->World->Prop),K (a₁ x) W->
   assign.wpIn (Fence.wide.inRound l) (n-1-1) P (Exit.then K (fun _ _ _=>False)) { tmps:=(ps.zip #[enc x]).foldl (fun t (p,v)=>t.setIfInBounds p v) a.tmps,defers:=[] } W)
  (hbody:∀(l:Nat) (pre:List α) (x:α) (post:List α) (W:World),xs=pre++x::post->I pre W->body.wpIn (Fence.wide.inRound l) (n-1-1) P (ownPostG w.heap.size Kp I Ix (pre++[x]) W) (a₁ x) W)
  (hdone:∀(D:Nat) (W:World),w.heap.size<=D->I xs W->W.heap[D]?=some (.deferred (some []))->Q .normal { a with defers:={ target:=.collected D,args:=#[] }::a.defers } W)
  (hstop:∀(D:Nat) (c:Code) (pre:List α) (W:World),w.heap.size<=D->Ix c pre W->W.heap[D]?=some (.deferred (some []))->c.wpIn Fence.wide n P Q { a with defers:={ target:=.collected D,args:=#[] }::a.defers } W) :
  (Code.rangeFunc g ps assign body).wpIn Fence.wide n P Q a w:=by
 refine wpIn_rangeFunc (fun fn hfn=>?_);obtain ⟨D,hD⟩:=e_ w.heap.size;let rec_:LoopState->Option Code->Loop:=fun st pe=>{ state:=st,pending:=pe,fn,tmps:=a.tmps,params:=ps,assign,body,defers:=w.heap.size }
 let w1:=(w.alloc (.deferred (some []))).alloc (.loop (rec_ .ready none));have z1:(w.alloc (.deferred (some []))).heap.size=D+1:=by rw [hD];simp
 have hL:w1.heap[D+1]?=some (.loop (rec_ .ready none)):=by rw [<-z1];exact World.alloc_heap_new _ _
 have hdf:w1.heap[D]?=some (.deferred (some [])):=by rw [hD];exact heap_alloc (World.alloc_heap_new w _) _
 have soft_new:∀A o,I [] A->I [] (A.alloc o):=fun A o h=>hI [] A _ none h (World.grownBy_alloc A o none) (fun r e=>by cases e)
 have hI1:I [] w1:=soft_new _ _ (soft_new _ _ h0);have hK1:Kp w w1:=hKt (hKn w _ l_) (hKn _ _ s_);have hbD:b≠D:=o_;have hbD1:b≠D+1:=o_;refine ⟨D+1,[{ target:=.collected D,args:=#[] }],w1,{ target:=.fn (.func gf) lb,args:=#[.func (.yield (D+1)) #[] #[]] },w1,gf,#[.func (.yield (D+1)) #[] #[]]++lb,w1,?_,?_,?_,?_,?_,?_⟩
 ·rw [hD];exact run_enterLoop_outer _ _ _ _ _
 ·simp only [resolve,hg]
  simp [go_sem]
 ·intro f' hf';trivial
 ·simp [invoke,go_sem,eg]
 ·intro h;exact absurd h (by simp [Fence.wide])
 refine (hseq (D+1) (fun pre W=>I pre W/\W.heap[D+1]?=some (.loop (rec_ .ready none))/\W.heap[D]?=some (.deferred (some [])))
  (fun pre W=>∃c,Ix c pre W/\W.heap[D+1]?=some (.loop (rec_ .done (some c)))/\W.heap[D]?=some (.deferred (some []))) w1 hK1
  (fun s A B ⟨i1,i2,i3⟩ hgr=>⟨hI s A B _ i1 hgr (fun r e=>.inl (by injection e with e;exact e.symm)),ZmQ hgr i2 (Ne.symm hbD1),ZmQ hgr i3 (Ne.symm hbD)⟩) ?_ ⟨hI1,hL,hdf⟩).mono ?_
 ·rintro pre x post W hx ⟨i1,i2,i3⟩
  have hlt:D+1<W.heap.size:=Zg i2;refine ⟨fn,_,assign,body,run_yield (P:=P) (args:=#[enc x]) i2 (by rw [hps];rfl),roundIn_of_wpIn hfn (hassign _ x W _ ⟨_,run_beginRound i2 rfl,?_⟩)⟩;let w2:=W.putObj (D+1) (.loop { rec_ .ready none with state:=.busy });have j2:w2.heap[D+1]?=some (.loop { rec_ .ready none with state:=.busy }):=World.putObj_heap_same hlt;have j3:w2.heap[D]?=some (.deferred (some [])):=(World.putObj_heap_other o_).trans i3;have soft_put:∀(J:List α->World->Prop) (s:List α) (A:World) (o o':Obj),Zi3 w.heap.size b J->A.heap[D+1]?=some o->o.isCells=false->J s A->J s (A.putObj (D+1) o'):=fun J s A o o' hJ h1 h2 h3=>
   hJ s A _ (some (D+1)) h3 (grownBy_putObj' A (D+1) o') (fun r e=>by cases e;exact .inr ⟨o_,o,h1,h2⟩)
  refine wpIn_mono (hbody (D+1) pre x post w2 hx (soft_put I pre W _ _ hI i2 rfl i1)) ?_;have fin:∀(jump:Option Code) (V:World),KeepsFrom w.heap.size w2 V->(Instr.endRound (D+1) jump).run P V=.ok (.bool jump.isNone) (V.putObj (D+1) (.loop (rec_ (if jump.isNone then .ready else .done) jump)))/\
    V.heap[D+1]?=some (.loop { rec_ .ready none with state:=.busy })/\(V.putObj (D+1) (.loop (rec_ (if jump.isNone then .ready else .done) jump))).heap[D+1]?=some (.loop (rec_ (if jump.isNone then .ready else .done) jump))/\
    (V.putObj (D+1) (.loop (rec_ (if jump.isNone then .ready else .done) jump))).heap[D]?=some (.deferred (some [])):=by
   intro jump V hk;have k2:=hk.same _ _ o_ j2 rfl;have k3:=hk.same _ _ o_ j3 rfl;exact ⟨run_endRound jump k2,k2,World.putObj_heap_same (Zg k2),(World.putObj_heap_other o_).trans k3⟩
  rintro e a3 V hp;cases e with
  |normal=>
   obtain ⟨p1,p2,p3⟩:=hp;obtain ⟨f1,f2,f3,f4⟩:=fin none V p1;exact ⟨_,_,f1,.inl ⟨rfl,⟨soft_put I _ V _ _ hI f2 rfl p3,f3,f4⟩,hKt (hKb W _ _ o_) (hKt p2 (hKb V _ _ o_))⟩⟩
  |ret=>
   obtain ⟨p1,p3⟩:=hp;obtain ⟨f1,f2,f3,f4⟩:=fin (some .ret) V p1;exact ⟨_,_,f1,.inr ⟨rfl,.ret,soft_put _ _ V _ _ (hIx _) f2 rfl p3,f3,f4⟩⟩
  |exit id=>
   obtain ⟨p1,p3⟩:=hp;obtain ⟨f1,f2,f3,f4⟩:=fin (some (.exit id)) V p1;exact ⟨_,_,f1,.inr ⟨rfl,.exit id,soft_put _ _ V _ _ (hIx _) f2 rfl p3,f3,f4⟩⟩
  |goto t=>
   obtain ⟨p1,p3⟩:=hp;obtain ⟨f1,f2,f3,f4⟩:=fin (some (.goto t)) V p1;exact ⟨_,_,f1,.inr ⟨rfl,.goto t,soft_put _ _ V _ _ (hIx _) f2 rfl p3,f3,f4⟩⟩
  |panic ch=>exact hp.elim
  |outgrown=>exact hp.elim
 ·have soft_put:∀(J:List α->World->Prop) (s:List α) (A:World) (o o':Obj),Zi3 w.heap.size b J->A.heap[D+1]?=some o->o.isCells=false->J s A->J s (A.putObj (D+1) o'):=fun J s A o o' hJ h1 h2 h3=>
   hJ s A _ (some (D+1)) h3 (grownBy_putObj' A (D+1) o') (fun r e=>by cases e;exact .inr ⟨o_,o,h1,h2⟩)
  rintro e W2 ⟨⟨v,rfl⟩,⟨i1,i2,i3⟩|⟨pre,c,i1,i2,i3⟩⟩
  ·exact ⟨none,_,run_endLoop (P:=P) i2 (by simp [rec_]),hdone D _ o_ (soft_put I _ W2 _ _ hI i2 rfl i1) ((World.putObj_heap_other o_).trans i3)⟩
  ·exact ⟨some c,_,run_endLoop (P:=P) i2 (by simp [rec_]),hstop D c pre _ o_ (soft_put _ _ W2 _ _ (hIx c) i2 rfl i1) ((World.putObj_heap_other o_).trans i3)⟩
end Go.Proofs.YtgoooebfhdbbkaaGreatDoor
