import Derived.StillTail
import Derived.OrdersHeld
import Derived.Deep.RegionHeld
import Derived.Deep.RegionLawGrows
import Derived.Deep.LoopGhost
import Derived.IntWalk
import Derived.Lib.QuietBelow
import Derived.RangeFuncNested
import Derived.RangeFuncBound
import Derived.RangeFuncCalls
import Derived.RangeFuncLeaves
import Derived.Test.YtmgmbeipbeknaaaGreatDoorRF1
import Derived.Test.YtmgmbeipbeknaaaGreatDoorRF2
namespace Go.Proofs.YtmgmbeipbeknaaaGreatDoor
open Go
set_option linter.unusedVariables false
set_option linter.unusedSimpArgs false
set_option maxHeartbeats 16000000
section
variable {P:Program} {ops:Array Oper} {Q:Exit->Act->World->Prop} {md:Region.Mode} {S:World->Prop}
def ZdR(P:Program)(md:Region.Mode)(ops:Array Oper)(Q:Exit->Act->World->Prop)(S:World->Prop)(n:Nat)(L:Array Bool->Act->World->Prop):Nat->Array Bool->Act->World->Prop
 |0,b,a,w=>L b a w
 |f+1,b,a,w=>Region.ready md ops b≠[]/\∀i∈Region.ready md ops b,i<n/\wpOp P ops Q i (fun a' w'=>S w'/\ZdR P md ops Q S n L f (b.setIfInBounds i true) a' w') a w
theorem Zg9{n g:Nat}{L:Array Bool->Act->World->Prop}(hL:∀b a w,L b a w->wpAny P md ops Q g b a w):∀(f:Nat) (b:Array Bool) (a:Act) (w:World),ZdR P md ops Q S n L f b a w->wpAny P md ops Q (f+g) b a w
 |0,b,a,w,h=>by rw [Nat.zero_add];exact hL _ _ _ h
 |f+1,b,a,w,h=>by
  rw [show f+1+g=f+g+1 by omega];exact ⟨fun e=>absurd e h.1,fun i hi=>wpOp_mono (fun a' w' q=>Zg9 hL f _ a' w' q.2) (h.2 i hi).2⟩
theorem Zh5{n i j:Nat}{b:Array Bool}(hs:Region.sinkB md ops n=true)(hc:Region.chainB md ops n=true)(hn:n<ops.size)(inv:HeadInv md ops n b)(hin:i<n)(hi:i∈Region.ready md ops b)(hj:j∈Region.ready md ops b):j<n:=by
 rcases Nat.lt_or_ge j n with h|h
 ·exact h
 ·exact absurd hj (tail_waits hs hc hn inv _ i rfl hin (mem_ready.1 hi).1 j h)
theorem Zkq{n i:Nat}{oi:Oper}{v:Value}{L:Array Bool->Act->World->Prop}(hi:ops[i]?=some oi)(hsel:∀(j:Nat) (o:Oper) cs b,ops[j]?=some o->o.op≠.select cs b)
  (hs:Region.sinkB md ops n=true) (hc:Region.chainB md ops n=true) (hn:n<ops.size) (hin:i<n)
  (hQ:∀c a w,Q (.panic c) (a.put oi.dst v) w->Q (.panic c) a w) (hdone:∀b a w,L b a w->∀j∈Region.ready md ops b,n<=j) (f:Nat) :
  ∀(b:Array Bool) (a:Act) (w:World),HeadInv md ops n b->
   (∀j oj,ops[j]?=some oj->j≠i->b.getD j true=false->(∀e∈oj.after,Region.binds md e=true->e.on≠i)->oi.apart ops oj=true)->
   i∈Region.ready md ops b->YieldsIf P ops S oi v a->S w->ZdR P md ops Q S n L f (b.setIfInBounds i true) (a.put oi.dst v) w->ZdR P md ops Q S n L (f+1) b a w:=by
 induction f with
 |zero=>
  intro b a w inv _ hr hy hS H;refine ⟨List.ne_nil_of_mem hr,fun j hj=>⟨Zh5 hs hc hn inv hin hr hj,?_⟩⟩;by_cases e:j=i
  ·subst e;exact hy.wpOp hi hS ⟨hS,H⟩
  ·have h1:=hdone _ _ _ H j (ready_mono hj e)
   have h2:=Zh5 hs hc hn inv hin hr hj;omega
 |succ f ih=>
  intro b a w inv hfree hr hy hS H;refine ⟨List.ne_nil_of_mem hr,fun j hj=>?_⟩;have hjn:=Zh5 hs hc hn inv hin hr hj;refine ⟨hjn,?_⟩;by_cases e:j=i
  ·subst e;exact hy.wpOp hi hS ⟨hS,H⟩
  ·obtain ⟨hju,oj,hoj,hall⟩:=mem_ready.1 hj
   have hno:∀e∈oj.after,Region.binds md e=true->e.on≠i:=by
    intro x hx hb q
    have:=hall x hx hb
    rw [q,getD_both (mem_ready.1 hr).1] at this;cases this
   have h2:=wpOp_putIf hoj (hfree j oj hoj e hju hno) (fun cs b=>hsel i oi cs b hi) (fun cs b=>hsel j oj cs b hoj) hQ hy (H.2 j (ready_mono hj e)).2;refine wpOp_mono (fun a' w' q=>⟨q.2.1,ih _ a' w' (inv.set hj hjn) (fun k ok hk hki hun hx=>hfree k ok hk hki ?_ hx) (ready_mono hr (Ne.symm e)) q.1 q.2.1 ?_⟩) h2
   ·by_cases z:j=k
    ·subst z;exact hju
    ·rwa [getD_set_ne true z] at hun
   ·rw [Array.setIfInBounds_comm _ _ e];exact q.2.2
def ZmB(P:Program)(md:Region.Mode)(ops:Array Oper)(Q:Exit->Act->World->Prop)(n:Nat)(b:Array Bool)(a:Act)(w:World):Prop:=
 Region.seqB md ops (ops.toList.drop n).length n b=true/\wpList P ops Q (ops.toList.drop n) a w
def Zaf(P:Program)(md:Region.Mode)(ops:Array Oper)(Q:Exit->Act->World->Prop)(S:World->Prop)(n f:Nat)(b:Array Bool)(a:Act)(w:World):Prop:=
 HeadInv md ops n b->ZdR P md ops Q S n (ZmB P md ops Q n) f b a w
def ZdI(md:Region.Mode)(ops:Array Oper)(n:Nat):Bool:=Region.noSelect ops&&(decide (n<ops.size)&&(Region.sinkB md ops n&&Region.chainB md ops n))
theorem ZdV{n:Nat}(h:ZdI md ops n=true):Region.noSelect ops=true/\n<ops.size/\Region.sinkB md ops n=true/\Region.chainB md ops n=true:=by
 simpa [ZdI] using h
theorem Yy{n i:Nat}{oi:Oper}{v:Value}{f:Nat}{b:Array Bool}{a:Act}{w:World}(hi:ops[i]?=some oi)(hok:ZdI md ops n=true)(hin:decide (i<n)=true)
  (hf:Region.free md ops b i=true) (hr:(Region.ready md ops b).contains i=true) (hQ:∀c a w,Q (.panic c) (a.put oi.dst v) w->Q (.panic c) a w) (hy:YieldsIf P ops S oi v a) (hS:S w)
  (h:Zaf P md ops Q S n f (b.setIfInBounds i true) (a.put oi.dst v) w):Zaf P md ops Q S n (f+1) b a w:=by
 obtain ⟨h1,h2,h3,h4⟩:=ZdV hok;have hin:=of_decide_eq_true hin;have hr':i∈Region.ready md ops b:=by simpa using hr
 intro inv;exact Zkq hi (Region.noSelect_spec h1) h3 h4 h2 hin hQ (fun b a w hL=>seqB_ready hL.1) f b a w inv (Region.free_spec hi hf) hr' hy hS (h (inv.set hr' hin))
theorem Zn{n i:Nat}{oi:Oper}{f:Nat}{b:Array Bool}{a:Act}{w:World}(hi:ops[i]?=some oi)(hin:decide (i<n)=true)(hr:Region.ready md ops b=[i])
  (h:∀K:Act->World->Prop,Shut (∀a' w',S w'->(S w'->Zaf P md ops Q S n f (b.setIfInBounds i true) a' w')->K a' w')->if Region.wanted oi (yielded ops a.tmps)=true then Oper.wp P oi a w K Q else K (a.put oi.dst undef) w):Zaf P md ops Q S n (f+1) b a w:=by
 have hin:=of_decide_eq_true hin;intro inv;have hm:i∈Region.ready md ops b:=by rw [hr];simp
 refine ⟨by rw [hr];simp,fun j hj=>?_⟩;rw [hr] at hj;obtain rfl:j=i:=n89_;refine ⟨hin,?_⟩;unfold wpOp;simp only [hi];have h2:=h (fun a' w'=>S w'/\ZdR P md ops Q S n (ZmB P md ops Q n) f (b.setIfInBounds j true) a' w') (fun a' w' hS q=>⟨hS,q hS (inv.set hm hin)⟩);split
 ·rename_i hw;rw [if_pos hw] at h2;exact .inl h2
 ·rename_i hw;rw [if_neg hw] at h2;exact h2
theorem Zv{n:Nat}{b:Array Bool}{a:Act}{w:World}(hB:Region.seqB md ops (ops.toList.drop n).length n b=true)(h:wpList P ops Q (ops.toList.drop n) a w):Zaf P md ops Q S n 0 b a w:=fun _=>⟨hB,h⟩
theorem Zh{id:Nat}{a:Act}{w:World}(n:Nat)(hm:P.follows .mixedOrders=true)(hok:ZdI .any ops n=true)(hS:S w.drew)
  (h:S w.drew->Zaf P .any ops Q S n n (Array.replicate ops.size false) a w.drew):(Code.region id ops true).wp P Q a w:=by
 obtain ⟨_,h2,_,_⟩:=ZdV hok;have inv0:HeadInv .any ops n (Array.replicate ops.size false):=
  ⟨s_,fun j oj _ hl=>(by rw [getD_replicate_false] at hl;cases hl),fun t _ ht=>getD_in (by simpa using ht) (getD_replicate_false _ _)⟩
 refine wp_region_any hm ?_
 have:=Zg9 (Q:=Q) (g:=(ops.toList.drop n).length) (fun b a w hL=>wpAny_of_seq (md:=.any) (ops.toList.drop n) n b a w (fun j=>by simp) hL.1 hL.2) n _ _ _ (h hS inv0)
 rw [show n+(ops.toList.drop n).length=ops.size by simp;omega] at this;exact this
end
theorem dT_{P:Program}{ops:Array Oper}{Q:Exit->Act->World->Prop}{md:Region.Mode}{S:World->Prop}{n i:Nat}{oi:Oper}{v:Value}{f:Nat}{b:Array Bool}{a:Act}{w:World}(hi:ops[i]?=some oi)(hy:∀w,S w->(execOp a.eval oi).run P w=.ok (.value v) w)(h:Zaf P md ops Q S n f (b.setIfInBounds i true) (a.put oi.dst v) w)
 (hok:ZdI md ops n=true:=by kernel_rfl) (hin:decide (i<n)=true:=by kernel_rfl) (hf:Region.free md ops b i=true:=by kernel_rfl) (hr:(Region.ready md ops b).contains i=true:=by kernel_rfl) (hQ:∀c a w,Q (.panic c) (a.put oi.dst v) w->Q (.panic c) a w:=by exact fun _ _ _ h=>h) (hw:Region.wanted oi (yielded ops a.tmps)=true:=by rfl) (hS:S w:=by assumption):Zaf P md ops Q S n (f+1) b a w:=Yy hi hok hin hf hr hQ (Or.inl ⟨hw,hy⟩) hS h
theorem dN_{P:Program}{ops:Array Oper}{Q:Exit->Act->World->Prop}{md:Region.Mode}{S:World->Prop}{n:Nat}(s:Nat){oi:Oper}{v:Value}{f:Nat}{b:Array Bool}{a:Act}{w:World}(hi:ops[n-(f+1)+s]?=some oi)(hy:∀w,S w->(execOp a.eval oi).run P w=.ok (.value v) w)(h:Zaf P md ops Q S n f (b.setIfInBounds (n-(f+1)+s) true) (a.put oi.dst v) w)
 (hok:ZdI md ops n=true:=by kernel_rfl) (hin:decide (n-(f+1)+s<n)=true:=by kernel_rfl) (hf:Region.free md ops b (n-(f+1)+s)=true:=by kernel_rfl) (hr:(Region.ready md ops b).contains (n-(f+1)+s)=true:=by kernel_rfl) (hQ:∀c a w,Q (.panic c) (a.put oi.dst v) w->Q (.panic c) a w:=by exact fun _ _ _ h=>h) (hw:Region.wanted oi (yielded ops a.tmps)=true:=by rfl) (hS:S w:=by assumption):Zaf P md ops Q S n (f+1) b a w:=Yy hi hok hin hf hr hQ (Or.inl ⟨hw,hy⟩) hS h
theorem dB_{P:Program}{ops:Array Oper}{Q:Exit->Act->World->Prop}{md:Region.Mode}{S:World->Prop}{i:Nat}{oi:Oper}{v:Value}{f:Nat}{b:Array Bool}{a:Act}{w:World}(hi:ops[i]?=some oi)(hy:∀w,S w->(execOp a.eval oi).run P w=.ok (.value v) w)(h:wpAnyH P md ops Q S f (b.setIfInBounds i true) (a.put oi.dst v) w)(hs:Region.noSelect ops=true:=by kernel_rfl)(hf:Region.free md ops b i=true:=by kernel_rfl)(hr:(Region.ready md ops b).contains i=true:=by kernel_rfl)(hQ:∀c a w,Q (.panic c) (a.put oi.dst v) w->Q (.panic c) a w:=by exact fun _ _ _ h=>h)(hw:Region.wanted oi (yielded ops a.tmps)=true:=by rfl)(hS:S w:=by assumption):wpAnyH P md ops Q S (f+1) b a w:=wpAnyH_take hi hs hf hr hQ (Or.inl ⟨hw,hy⟩) hS h
theorem dU_{P:Program}{ops:Array Oper}{Q:Exit->Act->World->Prop}{md:Region.Mode}{S:World->Prop}{i:Nat}{oi:Oper}{f:Nat}{b:Array Bool}{a:Act}{w:World}(hi:ops[i]?=some oi)(h:wpAnyH P md ops Q S f (b.setIfInBounds i true) (a.put oi.dst undef) w)(hs:Region.noSelect ops=true:=by kernel_rfl)(hf:Region.free md ops b i=true:=by kernel_rfl)(hr:(Region.ready md ops b).contains i=true:=by kernel_rfl)(hQ:∀c a w,Q (.panic c) (a.put oi.dst undef) w->Q (.panic c) a w:=by exact fun _ _ _ h=>h)(hw:Region.wanted oi (yielded ops a.tmps)=false:=by rfl)(hS:S w:=by assumption):wpAnyH P md ops Q S (f+1) b a w:=wpAnyH_take hi hs hf hr hQ (Or.inr ⟨hw,rfl⟩) hS h
open Go Go.RowKit
set_option maxRecDepth 100000
theorem m1_{p:Prop}(h:p:=by obtain ⟨oa,cap,e,hr⟩:=h.ex;exact ⟨oa,cap,e,hr.below hb⟩):p:=h
def ZA{α:Type}(enc:α->List Value)(l:List α):List Value:=l.flatMap enc
theorem YC{α:Type}{enc:α->List Value}{k:Nat}(hk:∀x,(enc x).length=k):∀l:List α,(ZA enc l).length=l.length*k
 |[]=>by simp [ZA]
 |x::r=>by
  have:=YC hk r
  unfold ZA at *;rw [List.flatMap_cons,List.length_append,hk,this,List.length_cons,Nat.add_mul];omega
theorem ZbG{α:Type}{enc:α->List Value}{k:Nat}(hk:∀x,(enc x).length=k):∀(l:List α) (i j:Nat) (hi:i<l.length),j<k->(ZA enc l)[i*k+j]?=(enc l[i])[j]?
 |[],i,j,hi,_=>absurd hi s_
 |x::r,0,j,_,hj=>by
  unfold ZA;rw [List.flatMap_cons,Nat.zero_mul,Nat.zero_add,List.getElem?_append_left (by rw [hk];exact hj)];rfl
 |x::r,i+1,j,hi,hj=>by
  have:=ZbG hk r i j n60_ hj
  unfold ZA at *;rw [List.flatMap_cons,List.getElem?_append_right (by rw [hk,Nat.add_mul];omega),hk];rw [show (i+1)*k+j-k=i*k+j by rw [Nat.add_mul];omega,this];rfl
theorem ZN{α:Type}(enc:α->List Value)(a b:List α):ZA enc (a++b)=ZA enc a++ZA enc b:=by simp [ZA]
theorem XG{α:Type}(enc:α->List Value)(a:α):ZA enc [a]=enc a:=by simp [ZA]
theorem Yt{α:Type}{enc:α->List Value}(h1:∀x,∀v∈enc x,v.oneCell'=true)(l:List α):∀v∈ZA enc l,v.oneCell'=true:=by
 intro v hv;obtain ⟨x,_,hx⟩:=List.mem_flatMap.1 hv;exact h1 x v hx
theorem ZoD{α:Type}{enc:α->List Value}{k:Nat}(hk:∀x,(enc x).length=k){w:World}{B:Nat}{T:TypeId}{oa:Option Addr}{n cap:Nat}{l:List α}(h:w.ownsRow B T k (.slice oa n cap) n (ZA enc l))(hn:n=l.length)
  {i:Nat} (hi:i<l.length):∃g,oa=some ⟨g,0,none⟩/\B<=g/\g<w.heap.size/\n<=cap/\∀j v,(enc l[i])[j]?=some v->w.cell? ⟨g,i*k+j,none⟩=some v:=by
 subst hn;rcases h.2 with ⟨_,h0⟩|⟨g,cap',cur,hv,hb,hg,hnc,hcm,hsz,ht⟩
 ·omega
 ·injection hv with e1 e2 e3
  subst e1;subst e3;refine ⟨g,rfl,hb,Zb hg,hnc,fun j v hj=>?_⟩;have hjk:j<k:=by
   rcases Nat.lt_or_ge j k with q|q
   ·exact q
   ·rw [List.getElem?_eq_none (by rw [hk];exact q)] at hj;cases hj
  have h1:=ZbG hk l i j hi hjk;rw [hj,<-ht] at h1;have hlt:i*k+j<l.length*k:=by
   have:=Nat.mul_le_mul_right k (show i+1<=l.length from hi);rw [Nat.add_mul,Nat.one_mul] at this;omega
  rw [List.getElem?_take_of_lt hlt] at h1;simp only [World.cell?,hg];simpa using h1
def Zx{α:Type}(enc:α->List Value)(k:Nat)(w:World)(oa:Option Addr)(l:List α):Prop:=
 ∀i (h:i<l.length),∃b o,oa=some ⟨b,o,none⟩/\b<w.heap.size/\∀j v,(enc l[i])[j]?=some v->w.cell? ⟨b,o+i*k+j,none⟩=some v
theorem Zx.below{α:Type}{enc:α->List Value}{k:Nat}{w w':World}{oa:Option Addr}{l:List α}(h:Zx enc k w oa l)(hb:Below w.heap.size w w'):Zx enc k w' oa l:=by
 intro i hi;obtain ⟨b,o,e,hlt,hc⟩:=h i hi;exact ⟨b,o,e,Nat.lt_of_lt_of_le hlt hb.size,fun j v hj=>(hb.cell (p:=⟨b,o+i*k+j,none⟩) hlt).trans (hc j v hj)⟩
theorem Zx.of_own{α:Type}{enc:α->List Value}{k:Nat}(hk:∀x,(enc x).length=k){w:World}{B:Nat}{T:TypeId}{oa:Option Addr}{cap:Nat}{l:List α}(h:w.ownsRow B T k (.slice oa l.length cap) l.length (ZA enc l)):Zx enc k w oa l:=by
 intro i hi;obtain ⟨g,e,hb,hlt,_,hc⟩:=ZoD hk h rfl hi;exact ⟨g,0,e,hlt,fun j v hj=>by rw [Nat.zero_add];exact hc j v hj⟩
theorem Zx.nil{α:Type}(enc:α->List Value)(k:Nat)(w:World)(oa:Option Addr):Zx enc k w oa ([]:List α):=fun i h=>absurd h s_
theorem ZpR{α:Type}{enc:α->List Value}{k:Nat}(hk:∀x,(enc x).length=k)(h0:0<k){l:List α}{j:Nat}{u:Value}(h:(ZA enc l)[j]?=some u) :
  ∃i r,∃hi:i<l.length,r<k/\j=i*k+r/\(enc l[i])[r]?=some u:=by
 have hj:j<(ZA enc l).length:=(List.getElem?_eq_some_iff.1 h).1;rw [YC hk] at hj;have hi:j / k<l.length:=(Nat.div_lt_iff_lt_mul h0).2 hj;have hr:=Nat.mod_lt j h0;have e:j=j / k*k+j % k:=by have:=Nat.div_add_mod j k;rw [Nat.mul_comm] at this;exact this.symm
 refine ⟨j / k,j % k,hi,hr,e,?_⟩;rw [<-ZbG hk l (j / k) (j % k) hi hr,<-e];exact h
section
variable {α:Type} {enc:α->List Value} {k:Nat} {w w':World} {oa:Option Addr} {l:List α}
theorem Zx.flat(hk:∀x,(enc x).length=k)(h0:0<k)(h:Zx enc k w oa l):∀j u,(ZA enc l)[j]?=some u->∃b o,oa=some ⟨b,o,none⟩/\w.cell? ⟨b,o+j,none⟩=some u:=by
 intro j u hj;obtain ⟨i,r,hi,hr,rfl,hu⟩:=ZpR hk h0 hj;obtain ⟨b,o,e,_,hc⟩:=h i hi;exact ⟨b,o,e,by rw [<-Nat.add_assoc];exact hc r u hu⟩
theorem Zx.take(h:Zx enc k w oa l)(n:Nat):Zx enc k w oa (l.take n):=by
 intro i hi;obtain ⟨b,o,e,hl,hc⟩:=h i (by simp at hi;omega);exact ⟨b,o,e,hl,by rw [List.getElem_take];exact hc⟩
theorem Zx.drop{b o:Nat}(h:Zx enc k w (some ⟨b,o,none⟩) l)(n:Nat):Zx enc k w (some ⟨b,o+n*k,none⟩) (l.drop n):=by
 intro i hi;obtain ⟨b1,o1,e,hl,hc⟩:=h (n+i) (by simp at hi;omega);injection e with e;injection e with e1 e2
 subst e1;subst e2;refine ⟨b,o+n*k,rfl,hl,fun j v hj=>?_⟩;rw [List.getElem_drop] at hj
 have:=hc j v hj
 rwa [Nat.add_mul,<-Nat.add_assoc] at this
theorem Zx.holds{b o:Nat}(hk:∀x,(enc x).length=k)(h0:0<k)(h:Zx enc k w (some ⟨b,o,none⟩) l):∀b',(some (⟨b,o,none⟩:Addr))=some b'->∀j u,(ZA enc l)[j]?=some u->w.cell? (b'.add j)=some u:=by
 intro b' e j u hu;injection e with e
 subst e;obtain ⟨b1,o1,e1,hc⟩:=h.flat hk h0 j u hu;injection e1 with e1;injection e1 with e2 e3
 subst e2;subst e3;rw [show (⟨b,o,none⟩:Addr).add j=⟨b,o+j,none⟩ by unfold Addr.add;split<;>simp_all];exact hc
end
theorem Zm5{w:World}{base k:Nat}{e:TypeId}{v:Value}{n:Nat}{xs:List Value}(h:w.ownsRow base e k v n xs)(hn:0<n) :
  ∃g cap,v=.slice (some ⟨g,0,none⟩) n cap/\(∀j u,xs[j]?=some u->w.cell? ((⟨g,0,none⟩:Addr).add j)=some u)/\base<=g/\g<w.heap.size:=by
 rcases h.2 with ⟨_,h0⟩|⟨g,cap,cur,hv,hb,hg,hnc,hcm,hs,ht⟩
 ·omega
 ·refine ⟨g,cap,hv,fun j u hu=>?_,hb,Zb hg⟩
  rw [show (⟨g,0,none⟩:Addr).add j=⟨g,j,none⟩ by unfold Addr.add;split<;>simp_all];have hj:j<xs.length:=(List.getElem?_eq_some_iff.1 hu).1;rw [h.1] at hj;rw [<-ht,List.getElem?_take_of_lt hj] at hu;simp only [World.cell?,hg];simpa using hu
theorem Zk4(w:World)(x y z:Value)(T:TypeId):(w.alloc (.cells #[x,y,z] T)).ownsRow w.heap.size T 3 (.slice (some ⟨w.heap.size,0,none⟩) 1 1) 1 [x,y,z]:=
 ⟨rfl,.inr ⟨w.heap.size,1,#[x,y,z],rfl,l_,heap_alloc_new _ _,l_,d_,rfl,rfl⟩⟩
structure Zk8{α:Type}(enc:α->List Value)(k:Nat)(w:World)(oa:Option Addr)(cap:Nat)(l:List α):Prop where
 row:Zx enc k w oa l
 fit:l.length<=cap
 isnil:oa=none->cap=0
 form:∀a,oa=some a->∃b o,a=⟨b,o,none⟩
section
variable {α:Type} {enc:α->List Value} {k:Nat} {w w':World} {oa:Option Addr} {cap:Nat} {l:List α}
theorem Zk8.below(h:Zk8 enc k w oa cap l)(hb:Below w.heap.size w w'):Zk8 enc k w' oa cap l:=⟨h.row.below hb,h.fit,h.isnil,h.form⟩
theorem Zk8.none:Zk8 enc k w none 0 []:=⟨fun i h=>absurd h s_,l_,fun _=>rfl,fun a e=>by cases e⟩
theorem Zk8.of_own(hk:∀x,(enc x).length=k){B:Nat}{T:TypeId}(h:w.ownsRow B T k (.slice oa l.length cap) l.length (ZA enc l)):Zk8 enc k w oa cap l:=by
 refine ⟨Zx.of_own hk h,?_,?_,?_⟩
 ·rcases h.2 with ⟨hv,h0⟩|⟨g,cap',cur,hv,hb,hg,hnc,_⟩
  ·omega
  ·injection hv with _ _ e3;omega
 ·rintro rfl
  rcases h.2 with ⟨hv,h0⟩|⟨g,cap',cur,hv,_⟩
  ·injection hv
  ·injection hv with e1;cases e1
 ·rintro a rfl
  rcases h.2 with ⟨hv,h0⟩|⟨g,cap',cur,hv,_⟩
  ·injection hv with e1;cases e1
  ·injection hv with e1;injection e1 with e1;exact ⟨g,0,e1⟩
end
theorem Za{w w':World}{b:Nat}{o:Obj}(h:w.heap[b]?=some o)(hb:Below w.heap.size w w'):w'.heap[b]?=some o:=(hb.block b (Zb h)).trans h
theorem Y4{w:World}{b:Nat}{x y:Value}{T:TypeId}(h:w.heap[b]?=some (.cells #[x,y] T (0,0))):w.cell? ⟨b,0,none⟩=some x/\w.cell? ⟨b,1,none⟩=some y:=
 ⟨n17_,n17_⟩
theorem cells3{w:World}{b:Nat}{x y z:Value}{T:TypeId}(h:w.heap[b]?=some (.cells #[x,y,z] T (0,0))):w.cell? ⟨b,0,none⟩=some x/\w.cell? ⟨b,1,none⟩=some y/\w.cell? ⟨b,2,none⟩=some z:=
 ⟨n17_,n17_,n17_⟩
theorem Zu.drop{w:World}{b o:Nat}{l:List (List UInt8)}(h:Zu w (some ⟨b,o,none⟩) l)(k:Nat):Zu w (some ⟨b,o+k,none⟩) (l.drop k):=by
 intro i hi;obtain ⟨b',o',e,hc⟩:=h (k+i) (by simp at hi;omega);injection e with e;injection e with e1 e2
 subst e1;subst e2;exact ⟨b,o+k,rfl,by rw [Nat.add_assoc];simpa using hc⟩
theorem Y8{P:Program}{ops:Array Oper}{o:Oper}{a:Act}{w:World}{K:Act->World->Prop}{Q:Exit->Act->World->Prop}{E:Prop}
  (hg:o.guard=none) (s x:Operand) (t:TypeId) (hop:o.op=Op.call { callee:=Callee.builtin Builtin.append,args:=#[s,x],argTypes:=#[t,t] })
  (base e:TypeId) (i:TypeInfo) (z:Value) (size bytes:Nat) (ht:P.underlying t=some (.slice e)) (hi:P.info? e=some i) (hz:i.zero=some z)
  (hsize:i.size=size) (hby:i.bytes=bytes) (hzs:z.cells.size=size) (hsz:0<size)
  (v:Value) (n:Nat) (xs:List Value) (hs:a.eval s=v) (hown:w.ownsRow base e size v n xs) (oa:Option Addr) (m c:Nat) (news:List Value) (hx:a.eval x=.slice oa m c) (hl:news.length=m*size)
  (hc:∀j u,news[j]?=some u->∃b o,oa=some ⟨b,o,none⟩/\w.cell? ⟨b,o+j,none⟩=some u) (h1:∀u∈news,u.oneCell'=true)
  (h63:n+m<=maxLen) (hbytes:(n+m)*bytes<=140737488355328) (hbase:base<=w.heap.size)
  (hK:∀v' w',w'.ownsRow base e size v' (n+m) (xs++news)->w.grownBy w' v.ownBlock->K (a.put o.dst v') w') :
  if Region.wanted o (yielded ops a.tmps)=true then Oper.wp P o a w K Q else E:=by
 have hw:Region.wanted o (yielded ops a.tmps)=true:=by simp [Region.wanted,hg]
 rw [if_pos hw];obtain ⟨v',w',hrun,r1,r2⟩:=Xf (P:=P) base t o.type e i z size bytes ht hi hz hsize hby hzs hsz v n xs hown oa m c news hl hc h1 h63 hbytes hbase;unfold Oper.wp;simp [execOp,hop,resolve,invoke,builtin,hs,hx,hrun,Result.andThen];exact hK v' w' r1 r2
theorem ZkT{P:Program}{K:Act->World->Prop}{Q:Exit->Act->World->Prop}{a:Act}{w:World}{o:Oper}(t:TypeId)(Z:Array Value)(ho:o.op=Op.alloc t)
  (hr:(Instr.alloc t true (.tuple #[])).run P w=.ok (.pointer (some ⟨w.heap.size,0,none⟩)) (w.alloc (.cells Z t)))
  (h:∀w3:World,w3.heap[w.heap.size]?=some (.cells Z t (0,0))->Below w.heap.size w w3->w.heap.size<w3.heap.size->K (a.put o.dst (.pointer (some ⟨w.heap.size,0,none⟩))) w3):Oper.wp P o a w K Q:=by
 unfold Oper.wp
 have:Sem.run P (execOp a.eval o) w=.ok (Next.value (.pointer (some ⟨w.heap.size,0,none⟩))) (w.alloc (.cells Z t)):=by
  unfold execOp;simp only [ho,Sem.run_bind,hr];rfl
 rw [this,Oper.upon_value];exact h _ (heap_alloc_new _ _) (b_.alloc l_ _) s_
theorem Zb3{P:Program}{K:Act->World->Prop}{Q:Exit->Act->World->Prop}{a:Act}{w:World}{o:Oper}(n:Nat)(hn:w.heap.size=n)(t:TypeId)(Z:Array Value)(ho:o.op=Op.alloc t)
  (hr:(Instr.alloc t true (.tuple #[])).run P w=.ok (.pointer (some ⟨w.heap.size,0,none⟩)) (w.alloc (.cells Z t)))
  (h:∀w3:World,w3.heap[n]?=some (.cells Z t (0,0))->Below n w w3->n<w3.heap.size->K (a.put o.dst (.pointer (some ⟨n,0,none⟩))) w3):Oper.wp P o a w K Q:=by
 subst hn;exact ZkT t Z ho hr h
theorem Zq{w w':World}{B e size n:Nat}{v:Value}{xs:List Value}(h:w.ownsRow B e size v n xs)(hb:Below w.heap.size w w'):w'.ownsRow B e size v n xs:=by
 refine ⟨h.1,?_⟩;rcases h.2 with hn|⟨g,cap,cur,rfl,hg,hgg,rest⟩
 ·exact .inl hn
 ·exact .inr ⟨g,cap,cur,rfl,hg,by rw [hb.block g (Zb hgg)];exact hgg,rest⟩
theorem J3{P:Program}{a:Act}{w:World}{o:Oper}(t:TypeId)(x:Operand)(b:Nat)(cells:Array Value)(T:TypeId)(d:TypeDesc)(ho:o.op=Op.load t x)
  (hx:a.eval x=.pointer (some ⟨b,0,none⟩)) (hw:w.heap[b]?=some (.cells cells T (0,0))) (hd:P.underlying t=some d) (hr:d.isRow=true) (hi:(P.info? t).map (·.size)=some cells.size):(execOp a.eval o).run P w=.ok (.value (.agg cells)) w:=by
 have h:=Zl8 (P:=P) t d hd hr hi hw;unfold execOp;simp only [ho,hx,Sem.run_bind,h];rfl
theorem Z4{w:World}{base e size n X:Nat}{v:Value}{xs:List Value}(h:w.ownsRow base e size v n xs){cs:Array Value}{T:TypeId}{fz:Nat×Nat}(hx:w.heap[X]?=some (.cells cs T fz))(hT:T≠e):some X≠v.ownBlock:=by
 rcases h.2 with ⟨rfl,_⟩|⟨g,cap,cur,rfl,hg,hgg,rest⟩
 ·simp [Value.ownBlock]
 ·simp only [Value.ownBlock]
  intro e2;injection e2 with e2
  subst e2;rw [hgg] at hx;injection hx with hx
  injection hx with h1 h2
  exact hT h2.symm
theorem Ziv{P:Program}{w:World}{ops:Array Oper}{rest:List Oper}{o:Oper}{a:Act}{Q:Exit->Act->World->Prop}(hg:Region.wanted o (yielded ops a.tmps)=true)(t:TypeId)(x:Operand)(b n:Nat)(part:Array Value)(d:TypeDesc)(ho:o.op=Op.load t x)
  (hx:a.eval x=.pointer (some ⟨b,n,none⟩)) (hp:∀j v,part[j]?=some v->w.cell? ⟨b,n+j,none⟩=some v) (hd:P.underlying t=some d) (hr:d.isRow=true) (hi:(P.info? t).map (·.size)=some part.size)
  (h:wpList P ops Q rest (a.put o.dst (.agg part)) w):wpList P ops Q (o::rest) a w:=by
 refine wpList_step fun K hK=>?_
 rw [if_pos hg];refine wp_load_mid t x ho b n hx part.toList d ?_ hd hr n60_ (by simpa using hK _ _ h);intro j v hv;exact hp j v n90_
structure Zch{α:Type}(enc:α->List Value)(k:Nat)(w:World)(v:Value)(l:List α):Prop where
 ex:∃oa cap,v=.slice oa l.length cap/\Zx enc k w oa l
theorem Zch.below{α:Type}{enc:α->List Value}{k:Nat}{w w':World}{v:Value}{l:List α}(h:Zch enc k w v l)(hb:Below w.heap.size w w'):Zch enc k w' v l:=by
 exact m1_
structure ZkY(w:World)(v:Value)(l:List Str):Prop where
 ex:∃oa cap,v=.slice oa l.length cap/\Zu w oa l
theorem ZkY.below{w w':World}{v:Value}{l:List Str}(h:ZkY w v l)(hb:Below w.heap.size w w'):ZkY w' v l:=by
 exact m1_
structure ZC where
 sec:Str
 name:Str
 form:Int
 list:Bool
 kinds:Int
 words:List Str
deriving DecidableEq
abbrev Xt:Str:=[85,110,105,116]
abbrev Zaz:Str:=[68,101,115,99,114,105,112,116,105,111,110]
abbrev XB:Str:=[68,101,102,97,117,108,116,68,101,112,101,110,100,101,110,99,105,101,115]
abbrev ZY:Str:=[82,101,113,117,105,114,101,115]
abbrev Ze5:Str:=[87,97,110,116,115]
abbrev Ju:Str:=[82,101,113,117,105,115,105,116,101]
abbrev Za7:Str:=[66,105,110,100,115,84,111]
abbrev Zc3:Str:=[80,97,114,116,79,102]
abbrev Js:Str:=[67,111,110,102,108,105,99,116,115]
abbrev Zdk:Str:=[66,101,102,111,114,101]
abbrev Zf8:Str:=[65,102,116,101,114]
abbrev JF:Str:=[79,110,70,97,105,108,117,114,101]
abbrev Xh:Str:=[83,116,97,114,116,76,105,109,105,116,73,110,116,101,114,118,97,108,83,101,99]
abbrev QG:Str:=[83,116,97,114,116,76,105,109,105,116,66,117,114,115,116]
abbrev ZW:Str:=[83,101,114,118,105,99,101]
abbrev Zmt:Str:=[84,121,112,101]
abbrev J4:Str:=[69,120,101,99,83,116,97,114,116,80,114,101]
abbrev Zcm:Str:=[69,120,101,99,83,116,97,114,116]
abbrev JD:Str:=[69,120,101,99,83,116,97,114,116,80,111,115,116]
abbrev Zdm:Str:=[69,120,101,99,83,116,111,112]
abbrev ZbC:Str:=[69,120,101,99,82,101,108,111,97,100]
abbrev QJ:Str:=[82,101,109,97,105,110,65,102,116,101,114,69,120,105,116]
abbrev Zda:Str:=[82,101,115,116,97,114,116]
abbrev Zbg:Str:=[82,101,115,116,97,114,116,83,101,99]
abbrev QA:Str:=[84,105,109,101,111,117,116,83,116,97,114,116,83,101,99]
abbrev Ja:Str:=[84,105,109,101,111,117,116,83,116,111,112,83,101,99]
abbrev X7:Str:=[83,117,99,99,101,115,115,69,120,105,116,83,116,97,116,117,115]
abbrev ZJ:Str:=[69,110,118,105,114,111,110,109,101,110,116]
abbrev ZcZ:Str:=[83,111,99,107,101,116,115]
abbrev ZqQ:Str:=[115,105,109,112,108,101]
abbrev ZpM:Str:=[111,110,101,115,104,111,116]
abbrev Zqq:Str:=[110,111,116,105,102,121]
abbrev nno:Str:=[110,111]
abbrev Zis:Str:=[111,110,45,115,117,99,99,101,115,115]
abbrev Zke:Str:=[111,110,45,102,97,105,108,117,114,101]
abbrev Zil:Str:=[111,110,45,97,98,110,111,114,109,97,108]
abbrev ZqL:Str:=[97,108,119,97,121,115]
abbrev ZbH:Str:=[83,111,99,107,101,116]
abbrev XV:Str:=[76,105,115,116,101,110,83,116,114,101,97,109]
abbrev ZfQ:Str:=[66,97,99,107,108,111,103]
abbrev XT:Str:=[70,105,108,101,68,101,115,99,114,105,112,116,111,114,78,97,109,101]
abbrev ZdB:Str:=[84,105,109,101,114]
abbrev ZcB:Str:=[79,110,66,111,111,116,83,101,99]
abbrev ZaI:Str:=[79,110,65,99,116,105,118,101,83,101,99]
abbrev X8:Str:=[79,110,85,110,105,116,73,110,97,99,116,105,118,101,83,101,99]
abbrev Zbm:Str:=[79,110,67,97,108,101,110,100,97,114]
abbrev Za8:Str:=[80,101,114,115,105,115,116,101,110,116]
abbrev ZcK:Str:=[73,110,115,116,97,108,108]
abbrev ZbF:Str:=[87,97,110,116,101,100,66,121]
abbrev JR:Str:=[82,101,113,117,105,114,101,100,66,121]
abbrev ZhF:Str:=[65,108,105,97,115]
abbrev ZmE:Str:=[65,108,115,111]
abbrev Qz:Str:=[68,101,102,97,117,108,116,73,110,115,116,97,110,99,101]
abbrev Zji:List Str:=[Zaz]
abbrev Zj8:List Str:=[XB]
abbrev ZiL:List Str:=[ZY,Ze5,Ju,Za7,Zc3,Js,Zdk,Zf8,JF]
abbrev Zks:List Str:=[Xh]
abbrev ZjA:List Str:=[QG]
abbrev Zeu:List Str:=[ZqQ,ZpM,Zqq]
abbrev Zee:List Str:=[J4,Zcm,JD,Zdm,ZbC]
abbrev Zer:List Str:=[QJ]
abbrev Zes:List Str:=[nno,Zis,Zke,Zil,ZqL]
abbrev Zeb:List Str:=[Zbg,QA,Ja]
abbrev ZdK:List Str:=[X7]
abbrev Zeq:List Str:=[ZJ]
abbrev Zek:List Str:=[ZcZ]
abbrev Zfk:List Str:=[XV]
abbrev ZfN:List Str:=[ZfQ]
abbrev Ze7:List Str:=[XT]
abbrev Zff:List Str:=[ZW]
abbrev Zhh:List Str:=[ZcB,ZaI,X8]
abbrev Zg1:List Str:=[Zbm]
abbrev Zha:List Str:=[Za8]
abbrev Zg4:List Str:=[Xt]
abbrev ZdS:List Str:=[ZbF,JR,ZhF,ZmE]
abbrev ZdY:List Str:=[Qz]
def keysOf(sec:Str)(kinds form:Int)(list:Bool)(names:List Str):List ZC:=names.map fun n=>⟨sec,n,form,list,kinds,[]⟩
def ZjH:List ZC:=keysOf Xt 30 1 false Zji++keysOf Xt 30 2 false Zj8++keysOf Xt 30 6 true ZiL++keysOf Xt 30 4 false Zks++keysOf Xt 30 3 false ZjA
def ZdO:List ZC:=[⟨ZW,Zmt,10,false,2,Zeu⟩]++keysOf ZW 2 7 true Zee++keysOf ZW 2 2 false Zer++[⟨ZW,Zda,10,false,2,Zes⟩]++keysOf ZW 2 4 false Zeb++keysOf ZW 2 11 true ZdK++keysOf ZW 2 8 true Zeq++keysOf ZW 2 6 true Zek
def Zgb:List ZC:=keysOf ZbH 4 11 true Zfk++keysOf ZbH 4 3 false ZfN++keysOf ZbH 4 1 false Ze7++keysOf ZbH 4 5 false Zff
def Zg0:List ZC:=keysOf ZdB 8 4 true Zhh++keysOf ZdB 8 9 true Zg1++keysOf ZdB 8 2 false Zha++keysOf ZdB 8 5 false Zg4
def Zd6:List ZC:=keysOf ZcK 30 6 true ZdS++keysOf ZcK 30 1 false ZdY
def Ze:List ZC:=ZjH++(ZdO++(Zgb++(Zg0++(Zd6))))
def findKey(sec name:Str):Option ZC:=Ze.find? fun k=>k.sec==sec&&k.name==name
theorem QV:Ze.length=42:=d_
theorem Zn4:∀k∈Ze,findKey k.sec k.name=some k:=n4_
open Go.Proofs.Tryz
structure ZM where
 sec:Str
 name:Str
 form:Int
 list:Bool
 kinds:Int
 wa:Option Addr
 wn:Nat
 wc:Nat
def Zp(k:ZM):List Value:=[.string ⟨k.sec.toArray⟩,.string ⟨k.name.toArray⟩,.int .i64 k.form,.bool k.list,.int .i64 k.kinds,.slice k.wa k.wn k.wc]
theorem Zkz(k:ZM):∀v∈Zp k,v.oneCell'=true:=by intro v hv;simp [Zp] at hv;rcases hv with rfl|rfl|rfl|rfl|rfl|rfl<;>rfl
def XR(sec:Str)(kinds form:Int)(list:Bool)(n:Str):ZM:=⟨sec,n,form,list,kinds,none,0,0⟩
theorem Zie:(prog.info? 82).map (fun i=>(i.zero,i.size,i.bytes))=some (some (.agg #[.string ⟨#[]⟩,.string ⟨#[]⟩,.int .i64 0,.bool false,.int .i64 0,.slice none 0 0]),6,80):=k_
theorem ZkJ(w:World)(a b c d e f:Value)(T:TypeId):(w.alloc (.cells #[a,b,c,d,e,f] T)).ownsRow w.heap.size T 6 (.slice (some ⟨w.heap.size,0,none⟩) 1 1) 1 [a,b,c,d,e,f]:=
 ⟨rfl,.inr ⟨w.heap.size,1,#[a,b,c,d,e,f],rfl,l_,heap_alloc_new _ _,l_,d_,rfl,rfl⟩⟩
theorem Qg{w:World}{B e k n:Nat}{v:Value}{xs:List Value}(h:w.ownsRow B e k v n xs):∀g,v.ownBlock=some g->B<=g/\Zbu e w g:=by
 intro g hg;rcases h.2 with ⟨rfl,_⟩|⟨g',cap,cur,rfl,hb,hh,_⟩
 ·simp [Value.ownBlock] at hg
 ·simp [Value.ownBlock] at hg
  subst hg;exact ⟨hb,cur,(0,0),hh⟩
structure Xl(w:World)(P B:Nat)(sec:Str)(kinds:Int)(kvs:List ZM):Prop where
 ex:∃ga gc,w.heap[P]?=some (.cells #[.string ⟨sec.toArray⟩,.int .i64 kinds,.slice ga kvs.length gc] 115 (0,0))/\w.ownsRow B 82 6 (.slice ga kvs.length gc) kvs.length (ZA Zp kvs)
theorem Xl.below{w w':World}{P B:Nat}{sec:Str}{kinds:Int}{kvs:List ZM}(h:Xl w P B sec kinds kvs)(hb:Below w.heap.size w w'):Xl w' P B sec kinds kvs:=by
 obtain ⟨ga,gc,h1,h2⟩:=h.ex;exact ⟨ga,gc,Za h1 hb,Zq h2 hb⟩
theorem Xl.more{wr w7 w8:World}{P B:Nat}{sec:Str}{kinds:Int}{kvs:List ZM}{k:ZM}{ga ga2:Option Addr}{gc gc2:Nat}(hb:Below wr.heap.size wr w7)
  (h1:wr.heap[P]?=some (.cells #[.string ⟨sec.toArray⟩,.int .i64 kinds,.slice ga kvs.length gc] 115 (0,0))) (h2:wr.ownsRow B 82 6 (.slice ga kvs.length gc) kvs.length (ZA Zp kvs)) (hPB:P<B)
  (hg:w7.grownBy w8 (Value.slice ga kvs.length gc).ownBlock) (ho:w8.ownsRow B 82 6 (.slice ga2 (kvs.length+1) gc2) (kvs.length+1) (ZA Zp kvs++Zp k)) :
  Xl (w8.setCell ⟨P,2,none⟩ (.slice ga2 (kvs.length+1) gc2)) P B sec kinds (kvs++[k])/\FrB P B 82 wr (w8.setCell ⟨P,2,none⟩ (.slice ga2 (kvs.length+1) gc2)):=by
 have b7:=Za h1 hb;have o7:=Zq h2 hb;have b8:w8.heap[P]?=some (.cells #[.string ⟨sec.toArray⟩,.int .i64 kinds,.slice ga kvs.length gc] 115 (0,0)):=by
  rw [hg.block P (Zb b7) (Z4 o7 b7 d_)];exact b7
 have e:(kvs++[k]).length=kvs.length+1:=s_;refine ⟨⟨ga2,gc2,?_,?_⟩,?_⟩
 ·have:=heap_setCell b8 2 (.slice ga2 (kvs.length+1) gc2)
  rw [this,e];rfl
 ·rw [e,ZN,XG]
  refine ⟨ho.1,?_⟩;rcases ho.2 with hn|⟨g,cp,cur,hv,hg2,hgg,rest⟩
  ·exact .inl hn
  ·refine .inr ⟨g,cp,cur,hv,hg2,?_,rest⟩
   have hne:g≠P:=o_;exact Zw hgg (a:=⟨P,2,none⟩) hne _
 ·have f1:FrB P B 82 wr w7:=Fr.of_below hb _
  exact (f1.trans ((FrB.refl P B 82 w7).grown hg (Qg o7))).setCell 2 _
theorem Zjh(P B:Nat)(sec:Str)(kinds form:Int)(list:Bool)(kvs:List ZM)(NB nc:Nat)(names:List Str)(w:World)(hG:Xl w P B sec kinds kvs)(hPB:P<B)(hBw:B<=w.heap.size)
  (hN:w.heap[NB]?=some (.cells (Zr names).toArray 9 (0,0))) (hl:names.length<=100) (hk:kvs.length<=100) :
  Calls prog 88 #[.pointer (some ⟨P,0,none⟩),.int .i64 form,.bool list,.slice (some ⟨NB,0,none⟩) names.length nc] w fun e w'=>e=.returned (.tuple #[])/\Xl w' P B sec kinds (kvs++names.map (XR sec kinds form list))/\FrB P B 82 w w':=by
 obtain ⟨i0,hi0,hz0,hz1,hz2⟩:=info_parts Zie;have HN:=h_ hN;have HG0:=h_ (show Xl w P B sec kinds (kvs++(names.take 0).map (XR sec kinds form list)) by simpa using hG);have HNP:=h_ (show NB≠P from by rintro rfl;obtain ⟨ga,gc,h1,_⟩:=hG.ex;rw [hN] at h1;simp at h1);clear hN hG;go_enter func88,ntmps88;go_wp2_with fail;go_loopg [12] (names.length+1) (fun f i wr=>∃k:Nat,k<=names.length/\i=.int .i64 k/\names.length-k<f/\Hid (Xl wr P B sec kinds (kvs++(names.take k).map (XR sec kinds form list)))/\Hid (FrB P B 82 w wr))
 case atStart=>exact ⟨0,o_,rfl,o_,HG0,FrB.refl _ _ _ _⟩
 case round=>
  obtain ⟨k,hk2,rfl,hfu,HGk,Hf⟩:=hrel;clear HG0;by_cases hlt:k<names.length
  ·obtain ⟨n,hn⟩:=e_ (names[k])
   have hb2:=Hf.out.heap HN.out HNP.out d_;have d0:wr.cell? ⟨NB,k,none⟩=some (.string ⟨n.toArray⟩):=by
    rw [(rd hb2).1 k,List.getElem?_toArray,Zr,List.getElem?_map,List.getElem?_eq_getElem hlt,hn];rfl
   have HSN:=h_ (show kvs++(names.take (k+1)).map (XR sec kinds form list)=(kvs++(names.take k).map (XR sec kinds form list))++[XR sec kinds form list n] by
    rw [List.take_succ_eq_append_getElem hlt,List.map_append,hn];simp)
   have hlen:(kvs++(names.take k).map (XR sec kinds form list)).length<=200:=by rw [List.length_append,List.length_map,List.length_take];omega
   have hsz:=Hf.out.size;generalize kvs++(names.take k).map (XR sec kinds form list)=ks at *;obtain ⟨ga,gc,hbx,hown⟩:=HGk.out.ex;have HBX:=h_ hbx;have HOW:=h_ hown;have i5:(k:Int)<(names.length:Int):=o_;clear hb2 hn hbx hown;go_wp2_with fail;refine Zh (S:=fun V=>V.heap[P]?=some (.cells #[.string ⟨sec.toArray⟩,.int .i64 kinds,.slice ga ks.length gc] 115 (0,0))) 19 k_ k_ HBX.out (fun hHeld=>?_);refine u_ ?_;(iterate 17 refine dN_ 0 (gT_ rfl) (fun W hW=>by obtain ⟨q0,q1,q2⟩:=cells3 hW;clear hW;go_simp;rfl) (u_ ?_));refine Zn (i:=17) (gT_ rfl) k_ k_ (fun K hK=>?_);clear hHeld;rw [if_pos n13_];go_simp;have HBJ:=h_ (show Below wr.heap.size wr (wr.drew.alloc (.cells #[.string ⟨sec.toArray⟩,.string ⟨n.toArray⟩,.int .i64 form,.bool list,.int .i64 kinds,.slice none 0 0] 82)) from (show Below wr.heap.size wr wr.drew from Zd ⟨1,rfl⟩).alloc l_ _);have HBL:=h_ (Zx.of_own (enc:=Zp) (k:=6) (l:=[XR sec kinds form list n]) (oa:=some ⟨wr.drew.heap.size,0,none⟩) (cap:=1) (fun _=>rfl) (ZkJ wr.drew (.string ⟨sec.toArray⟩) (.string ⟨n.toArray⟩) (.int .i64 form) (.bool list) (.int .i64 kinds) (.slice none 0 0) 82));refine hK.out _ _ (Za HBX.out HBJ.out) (fun hHeld=>?_);clear hK K;refine u_ ?_;refine Zn (i:=18) (gT_ rfl) k_ k_ (fun K hK=>?_);clear hHeld;refine Y8 n13_ (.tmp 20) (.tmp 33) 79 n13_ B 82 i0 (.agg #[.string ⟨#[]⟩,.string ⟨#[]⟩,.int .i64 0,.bool false,.int .i64 0,.slice none 0 0]) 6 80 underlying79 hi0 hz0 hz1 hz2 n13_ d_ (.slice ga ks.length gc) ks.length (ZA Zp ks) n13_ (Zq HOW.out HBJ.out) (some ⟨wr.heap.size,0,none⟩) 1 1 (ZA Zp [XR sec kinds form list n]) n13_
     rfl (Zx.flat (enc:=Zp) (k:=6) (fun _=>rfl) o_ HBL.out) (Yt Zkz _) n23_ o_ (Nat.le_trans (Nat.le_trans hBw hsz) HBJ.out.size) ?_
   intro v1 w7 hown1 hgrow1;obtain ⟨ga2,gc2,rfl⟩:=ownsRow_form hown1;have HM:=h_ (Xl.more (k:=XR sec kinds form list n) HBJ.out HBX.out HOW.out hPB hgrow1 (by rw [<-XG Zp];exact hown1));have HBX7:=h_ (show w7.heap[P]?=some (.cells #[.string ⟨sec.toArray⟩,.int .i64 kinds,.slice ga ks.length gc] 115 (0,0)) from by
    rw [hgrow1.block P (Zb (Za HBX.out HBJ.out)) (Z4 (Zq HOW.out HBJ.out) (Za HBX.out HBJ.out) d_)];exact Za HBX.out HBJ.out)
   clear hown1 hgrow1;refine hK.out _ _ HBX7.out (fun hHeld=>?_);clear hK K;refine u_ ?_;refine Zv k_ ?_;clear hHeld;have hgb:=rd HBX7.out;have s3:=(cells3 HBX7.out).2.2;have s4:=hgb.2.1 2;have s5:=hgb.2.2.1;clear hgb;go_wp2_with fail;go_roundg (gk-1)
   case measure=>omega
   case rel=>exact ⟨k+1,o_,n14_,o_,by rw [HSN.out];exact HM.out.1,Hf.out.trans HM.out.2⟩
  ·have hk3:k=names.length:=o_
   subst hk3;rw [List.take_of_length_le l_] at HGk;go_wp2_with fail;refine ⟨rfl,_,results_none rfl _ _ _,?_⟩;exact ⟨rfl,HGk.out,Hf.out⟩
def Zr2{β:Type}(b:Nat)(J:β->World->Prop):Prop:=∀s A B,J s A->A.grownBy B (some b)->J s B
def Zi2{β:Type}(B0 b:Nat)(J:β->World->Prop):Prop:=
 ∀s A B row,J s A->A.grownBy B row->(∀r,row=some r->r=b\/(B0<=r/\∃o:Obj,A.heap[r]?=some o/\o.isCells=false))->J s B
def Zpq{α:Type}(n:Nat)(P:Program)(g:Nat)(lb:Array Value)(enc:α->Value)(b:Nat)(Kp:World->World->Prop)(xs:List α)(w:World):Prop:=
 ∀(l:Nat) (J Jx:List α->World->Prop) (W:World),Kp w W->Zr2 b J->
  (∀pre x post W1,xs=pre++x::post->J pre W1->YieldAt Fence.wide (n-1) P l #[enc x] W1 fun e W' =>
   (e=.returned (.bool true)/\J (pre++[x]) W'/\Kp W1 W')\/(e=.returned (.bool false)/\Jx (pre++[x]) W'))->
  J [] W->
  CallsIn Fence.wide n P g (#[.func (.yield l) #[] #[]]++lb) W fun e W'=>(∃v,e=.returned v)/\(J xs W'\/∃pre,Jx pre W')
theorem Zmk{A B:World}{b k:Nat}{o:Obj}(h:A.grownBy B (some b))(hk:A.heap[k]?=some o)(hne:k≠b):B.heap[k]?=some o:=
 (h.block k (Zb hk) (fun e=>hne (by injection e))).trans hk
theorem ZdN{α:Type}{n:Nat}{P:Program}{g:Operand}{ps:Array Tmp}{assign body:Code}{Q:Exit->Act->World->Prop}{a:Act}{w:World}{gf:Nat}{lb:Array Value}(hg:a.eval g=.func (.func gf) #[] lb)
  (eg:∀args w,(callFunc gf args).run P w=.ok (.enter gf args) w) {enc:α->Value} {b:Nat} {Kp:World->World->Prop} {xs:List α} (hseq:Zpq (n-1) P gf lb enc b Kp xs w) (hb:b<w.heap.size)
  (hKn:∀A o,w.heap.size<=A.heap.size->Kp A (A.alloc o)) (hKt:∀{A B C:World},Kp A B->Kp B C->Kp A C) (hKb:∀(W:World) (l:Nat) (o:Obj),w.heap.size<=l->Kp W (W.putObj l o)) (hps:ps.size=1)
  (I:List α->World->Prop) (Ix:Code->List α->World->Prop) (hI:Zi2 w.heap.size b I) (hIx:∀c,Zi2 w.heap.size b (Ix c)) (h0:I [] w) (a₁:α->Act)
  (hassign:∀(l:Nat) (x:α) (W:World) (K:Act->World->Prop),K (a₁ x) W->
   assign.wpIn (Fence.wide.inRound l) (n-1-1) P (Exit.then K (fun _ _ _=>False)) { tmps:=(ps.zip #[enc x]).foldl (fun t (p,v)=>t.setIfInBounds p v) a.tmps,defers:=[] } W)
  (hbody:∀(l:Nat) (pre:List α) (x:α) (post:List α) (W:World),xs=pre++x::post->I pre W->body.wpIn (Fence.wide.inRound l) (n-1-1) P (ownPostG w.heap.size Kp I Ix (pre++[x]) W) (a₁ x) W)
  (hdone:∀(D:Nat) (W:World),w.heap.size<=D->I xs W->W.heap[D]?=some (.deferred (some []))->Q .normal { a with defers:={ target:=.collected D,args:=#[] }::a.defers } W)
  (hstop:∀(D:Nat) (c:Code) (pre:List α) (W:World),w.heap.size<=D->Ix c pre W->W.heap[D]?=some (.deferred (some []))->c.wpIn Fence.wide n P Q { a with defers:={ target:=.collected D,args:=#[] }::a.defers } W) :
  (Code.rangeFunc g ps assign body).wpIn Fence.wide n P Q a w:=by
 refine wpIn_rangeFunc (fun fn hfn=>?_);obtain ⟨D,hD⟩:=e_ w.heap.size;let rec_:LoopState->Option Code->Loop:=fun st pe=>{ state:=st,pending:=pe,fn,tmps:=a.tmps,params:=ps,assign,body,defers:=w.heap.size }
 let w1:=(w.alloc (.deferred (some []))).alloc (.loop (rec_ .ready none));have z1:(w.alloc (.deferred (some []))).heap.size=D+1:=by rw [hD];simp
 have hL:w1.heap[D+1]?=some (.loop (rec_ .ready none)):=by rw [<-z1];exact World.alloc_heap_new _ _
 have hdf:w1.heap[D]?=some (.deferred (some [])):=by rw [hD];exact heap_alloc (World.alloc_heap_new w _) _
 have soft_new:∀A o,I [] A->I [] (A.alloc o):=fun A o h=>hI [] A _ none h (World.grownBy_alloc A o none) (fun r e=>by cases e)
 have hI1:I [] w1:=soft_new _ _ (soft_new _ _ h0);have hK1:Kp w w1:=hKt (hKn w _ l_) (hKn _ _ s_);have hbD:b≠D:=o_;have hbD1:b≠D+1:=o_;refine ⟨D+1,[{ target:=.collected D,args:=#[] }],w1,{ target:=.fn (.func gf) lb,args:=#[.func (.yield (D+1)) #[] #[]] },w1,gf,#[.func (.yield (D+1)) #[] #[]]++lb,w1,?_,?_,?_,?_,?_,?_⟩
 ·rw [hD];exact run_enterLoop_outer _ _ _ _ _
 ·simp only [resolve,hg]
  simp [go_sem]
 ·intro f' hf';trivial
 ·simp [invoke,go_sem,eg]
 ·intro h;exact absurd h (by simp [Fence.wide])
 refine (hseq (D+1) (fun pre W=>I pre W/\W.heap[D+1]?=some (.loop (rec_ .ready none))/\W.heap[D]?=some (.deferred (some [])))
  (fun pre W=>∃c,Ix c pre W/\W.heap[D+1]?=some (.loop (rec_ .done (some c)))/\W.heap[D]?=some (.deferred (some []))) w1 hK1
  (fun s A B ⟨i1,i2,i3⟩ hgr=>⟨hI s A B _ i1 hgr (fun r e=>.inl (by injection e with e;exact e.symm)),Zmk hgr i2 (Ne.symm hbD1),Zmk hgr i3 (Ne.symm hbD)⟩) ?_ ⟨hI1,hL,hdf⟩).mono ?_
 ·rintro pre x post W hx ⟨i1,i2,i3⟩
  have hlt:D+1<W.heap.size:=Zb i2;refine ⟨fn,_,assign,body,run_yield (P:=P) (args:=#[enc x]) i2 (by rw [hps];rfl),roundIn_of_wpIn hfn (hassign _ x W _ ⟨_,run_beginRound i2 rfl,?_⟩)⟩;let w2:=W.putObj (D+1) (.loop { rec_ .ready none with state:=.busy });have j2:w2.heap[D+1]?=some (.loop { rec_ .ready none with state:=.busy }):=World.putObj_heap_same hlt;have j3:w2.heap[D]?=some (.deferred (some [])):=(World.putObj_heap_other o_).trans i3;have soft_put:∀(J:List α->World->Prop) (s:List α) (A:World) (o o':Obj),Zi2 w.heap.size b J->A.heap[D+1]?=some o->o.isCells=false->J s A->J s (A.putObj (D+1) o'):=fun J s A o o' hJ h1 h2 h3=>
   hJ s A _ (some (D+1)) h3 (grownBy_putObj' A (D+1) o') (fun r e=>by cases e;exact .inr ⟨o_,o,h1,h2⟩)
  refine wpIn_mono (hbody (D+1) pre x post w2 hx (soft_put I pre W _ _ hI i2 rfl i1)) ?_;have fin:∀(jump:Option Code) (V:World),KeepsFrom w.heap.size w2 V->(Instr.endRound (D+1) jump).run P V=.ok (.bool jump.isNone) (V.putObj (D+1) (.loop (rec_ (if jump.isNone then .ready else .done) jump)))/\
    V.heap[D+1]?=some (.loop { rec_ .ready none with state:=.busy })/\(V.putObj (D+1) (.loop (rec_ (if jump.isNone then .ready else .done) jump))).heap[D+1]?=some (.loop (rec_ (if jump.isNone then .ready else .done) jump))/\
    (V.putObj (D+1) (.loop (rec_ (if jump.isNone then .ready else .done) jump))).heap[D]?=some (.deferred (some [])):=by
   intro jump V hk;have k2:=hk.same _ _ o_ j2 rfl;have k3:=hk.same _ _ o_ j3 rfl;exact ⟨run_endRound jump k2,k2,World.putObj_heap_same (Zb k2),(World.putObj_heap_other o_).trans k3⟩
  rintro e a3 V hp;cases e with
  |normal=>
   obtain ⟨p1,p2,p3⟩:=hp;obtain ⟨f1,f2,f3,f4⟩:=fin none V p1;exact ⟨_,_,f1,.inl ⟨rfl,⟨soft_put I _ V _ _ hI f2 rfl p3,f3,f4⟩,hKt (hKb W _ _ o_) (hKt p2 (hKb V _ _ o_))⟩⟩
  |ret=>
   obtain ⟨p1,p3⟩:=hp;obtain ⟨f1,f2,f3,f4⟩:=fin (some .ret) V p1;exact ⟨_,_,f1,.inr ⟨rfl,.ret,soft_put _ _ V _ _ (hIx _) f2 rfl p3,f3,f4⟩⟩
  |exit id=>
   obtain ⟨p1,p3⟩:=hp;obtain ⟨f1,f2,f3,f4⟩:=fin (some (.exit id)) V p1;exact ⟨_,_,f1,.inr ⟨rfl,.exit id,soft_put _ _ V _ _ (hIx _) f2 rfl p3,f3,f4⟩⟩
  |goto t=>
   obtain ⟨p1,p3⟩:=hp;obtain ⟨f1,f2,f3,f4⟩:=fin (some (.goto t)) V p1;exact ⟨_,_,f1,.inr ⟨rfl,.goto t,soft_put _ _ V _ _ (hIx _) f2 rfl p3,f3,f4⟩⟩
  |panic ch=>exact hp.elim
  |outgrown=>exact hp.elim
 ·have soft_put:∀(J:List α->World->Prop) (s:List α) (A:World) (o o':Obj),Zi2 w.heap.size b J->A.heap[D+1]?=some o->o.isCells=false->J s A->J s (A.putObj (D+1) o'):=fun J s A o o' hJ h1 h2 h3=>
   hJ s A _ (some (D+1)) h3 (grownBy_putObj' A (D+1) o') (fun r e=>by cases e;exact .inr ⟨o_,o,h1,h2⟩)
  rintro e W2 ⟨⟨v,rfl⟩,⟨i1,i2,i3⟩|⟨pre,c,i1,i2,i3⟩⟩
  ·exact ⟨none,_,run_endLoop (P:=P) i2 (by simp [rec_]),hdone D _ o_ (soft_put I _ W2 _ _ hI i2 rfl i1) ((World.putObj_heap_other o_).trans i3)⟩
  ·exact ⟨some c,_,run_endLoop (P:=P) i2 (by simp [rec_]),hstop D c pre _ o_ (soft_put _ _ W2 _ _ (hIx c) i2 rfl i1) ((World.putObj_heap_other o_).trans i3)⟩
end Go.Proofs.YtmgmbeipbeknaaaGreatDoor
