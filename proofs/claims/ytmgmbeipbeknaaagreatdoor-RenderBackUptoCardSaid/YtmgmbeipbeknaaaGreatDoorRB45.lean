import Derived.Test.YtmgmbeipbeknaaaGreatDoorRB2
import Derived.Test.YtmgmbeipbeknaaaGreatDoorRB34
import Derived.Test.YtmgmbeipbeknaaaGreatDoorRB43
namespace Go.Proofs.YtmgmbeipbeknaaaGreatDoor
open Go Go.RowKit
set_option linter.all false
set_option maxHeartbeats 16000000
set_option maxRecDepth 100000
def ZcH{α:Type}(f:Nat->α)(i:Nat)(v:α):Nat->α:=fun j=>if j=i then v else f j
theorem Zav{α:Type}(f:Nat->α)(i:Nat)(v:α):ZcH f i v i=v:=by unfold ZcH;rw [if_pos rfl]
theorem QW{α:Type}(f:Nat->α){i j:Nat}(v:α)(h:j≠i):ZcH f i v j=f j:=by unfold ZcH;rw [if_neg h]
def ZmF(N:Nat)(ops:Array Oper):Bool:=
 (List.range ops.size).all fun i=>match ops[i]? with
  |none=>false
  |some o=>o.guard.isNone&&((o.after.all fun e=>!Region.binds .any e||decide (e.on<i))&&((match o.dst with|some d=>decide (d<N)|none=>true)&&((List.range ops.size).all fun j=>i==j||(o.dst.isNone||!((ops[j]?).bind (·.dst)==o.dst)))))
section
variable {P:Program} {ops:Array Oper} {Q:Exit->Act->World->Prop}
theorem Zie{N:Nat}(h:ZmF N ops=true){i:Nat}{o:Oper}(ho:ops[i]?=some o):o.guard=none/\(∀e∈o.after,Region.binds .any e=true->e.on<i)/\(∀d,o.dst=some d->d<N)/\∀j oj d,ops[j]?=some oj->o.dst=some d->oj.dst=some d->i=j:=by
 have hi:i<ops.size:=(c6_.1 ho).1;have h1:=c7_.1 h i (List.mem_range.2 hi);rw [ho] at h1;simp only [Bool.and_eq_true] at h1;obtain ⟨a1,a2,a3,a4⟩:=h1;refine ⟨by simpa using a1,fun e he hb=>?_,fun d hd=>?_,fun j oj d hj hd hd2=>?_⟩
 ·rw [Array.all_eq_true'] at a2
  have:=a2 e he
  rw [hb] at this;exact of_decide_eq_true (by simpa using this)
 ·rw [hd] at a3;exact of_decide_eq_true a3
 ·have hjl:j<ops.size:=(c6_.1 hj).1
  have h2:=c7_.1 a4 j (List.mem_range.2 hjl);rw [hj,hd] at h2;simp [hd2] at h2;exact h2
structure ZaN(ops:Array Oper)(a0:Act)(Ψ:(Nat->Bool)->(Nat->Value)->World->Prop)(D:Nat->Bool)(V:Nat->Value)(a:Act)(w:World):Prop where
 tsz:a.tmps.size=a0.tmps.size
 dfr:a.defers=a0.defers
 out:∀k,(∀(i:Nat) (o:Oper),ops[i]?=some o->o.dst=some k->D i=false)->a.tmps[k]?=a0.tmps[k]?
 slot:∀(i:Nat) (o:Oper) (d:Nat),ops[i]?=some o->o.dst=some d->D i=true->a.tmps[d]?=some (V i)
 inv:Ψ D V w
theorem ZuU{a0:Act}{N:Nat}{Ψ:(Nat->Bool)->(Nat->Value)->World->Prop}(hok:ZmF N ops=true)(hN:a0.tmps.size=N)
  (hstep:∀(i:Nat) (o:Oper),ops[i]?=some o->∀(D:Nat->Bool) (V:Nat->Value) (a:Act) (w:World),D i=false->(∀e∈o.after,Region.binds .any e=true->D e.on=true)->ZaN ops a0 Ψ D V a w->
   Oper.wp P o a w (fun a' w'=>∃v,a'=a.put o.dst v/\Ψ (ZcH D i true) (ZcH V i v) w') Q)
  (hend:∀(D:Nat->Bool) (V:Nat->Value) (a:Act) (w:World),(∀i,i<ops.size->D i=true)->ZaN ops a0 Ψ D V a w->Q .normal a w) :
  ∀(f:Nat) (L:List Nat) (b:Array Bool) (V:Nat->Value) (a:Act) (w:World),L.length<=f->b.size=ops.size->(∀i,i<ops.size->b.getD i false=false->i∈L)->ZaN ops a0 Ψ (fun i=>b.getD i false) V a w->wpAny P .any ops Q f b a w:=by
 have hall:∀(b:Array Bool),b.size=ops.size->Region.ready .any ops b=[]->∀i,i<ops.size->b.getD i false=true:=by
  intro b hb hr i;induction i using Nat.strongRecOn with
  |_ i ih=>
   intro hi;cases hq:b.getD i false with
   |true=>rfl
   |false=>
    have hm:i∈Region.ready .any ops b:=by
     refine mem_ready.2 ⟨?_,_,Array.getElem?_eq_getElem hi,fun e he hb=>?_⟩
     ·simp [Array.getD,hb,hi] at hq⊢;exact hq
     ·have:=(Zie hok (Array.getElem?_eq_getElem hi)).2.1 e he hb
      exact ih _ this o_
    rw [hr] at hm;cases hm
 intro f;induction f with
 |zero=>
  intro L b V a w hL hb hm hI;have hL0:L=[]:=c10_ o_;subst hL0;have ha:∀i,i<ops.size->b.getD i false=true:=fun i hi=>by
   cases hq:b.getD i false with
   |true=>rfl
   |false=>have:=hm i hi hq;cases this
  refine ⟨?_,hend _ V a w ha hI⟩;rw [List.eq_nil_iff_forall_not_mem];intro i hi;obtain ⟨h1,o,ho,_⟩:=mem_ready.1 hi;have hil:i<ops.size:=(c6_.1 ho).1
  have:=ha i hil
  simp [Array.getD,hb,hil] at h1 this;rw [this] at h1;cases h1
 |succ f ih=>
  intro L b V a w hL hb hm hI;refine ⟨fun hr=>hend _ V a w (hall b hb hr) hI,fun i hi=>?_⟩;obtain ⟨h1,o,ho,hdep⟩:=mem_ready.1 hi;have hil:i<ops.size:=(c6_.1 ho).1;have hi0:b.getD i false=false:=by
   simp [Array.getD,hb,hil] at h1⊢;exact h1
  obtain ⟨hg,_,hd,hinj⟩:=Zie hok ho;have hw:=hstep i o ho (fun i=>b.getD i false) V a w hi0 hdep hI;unfold wpOp;simp only [ho];rw [if_pos (by unfold Region.wanted;rw [hg])];refine .inl (Oper.wp_mono ?_ hw);rintro a' w' ⟨v,rfl,hΨ⟩;have hset:∀j,(b.setIfInBounds i true).getD j false=ZcH (fun i=>b.getD i false) i true j:=by
   intro j;by_cases e:j=i
   ·subst e;rw [Zav];simp [Array.getD,hb,hil]
   ·rw [QW _ _ e,getD_set_ne false (Ne.symm e)]
  refine ih (L.erase i) _ (ZcH V i v) _ w' ?_ (by simp [hb]) (fun j hj hq=>?_) ?_
  ·have:=List.length_erase_of_mem (hm i hil hi0)
   have h0:0<L.length:=List.length_pos_of_mem (hm i hil hi0);omega
  ·rw [hset j] at hq
   by_cases e:j=i
   ·subst e;rw [Zav] at hq;cases hq
   ·rw [QW _ _ e] at hq
    exact (List.mem_erase_of_ne e).2 (hm j hj hq)
  ·have hfun:(fun j=>(b.setIfInBounds i true).getD j false)=ZcH (fun i=>b.getD i false) i true:=funext hset
   rw [hfun];refine ⟨?_,?_,fun k hk=>?_,fun j oj d hj hdj hD=>?_,hΨ⟩
   ·rw [<-hI.tsz];cases o.dst<;>simp [Act.put]
   ·rw [<-hI.dfr];cases o.dst<;>simp [Act.put]
   ·have h:o.dst≠some k:=fun e=>by have:=hk i o ho e;rw [Zav] at this;cases this
    rw [<-hI.out k (fun i' o' ho' e=>by
     have:=hk i' o' ho' e
     by_cases hii:i'=i
     ·subst hii;exact hi0
     ·rw [QW _ _ hii] at this;exact this)]
    cases ed:o.dst with
    |none=>rfl
    |some d=>rw [ed] at h;exact Zk4 v (fun e=>h (by rw [e]))
   ·by_cases e:j=i
    ·subst e
     rw [ho] at hj;injection hj with hj;subst hj
     rw [hdj,Zav];exact Zmv v (by rw [hI.tsz,hN];exact hd d hdj)
    ·rw [QW _ _ e] at hD⊢
     rw [<-hI.slot j oj d hj hdj hD];cases ed:o.dst with
     |none=>rfl
     |some d2=>exact Zk4 v (fun e2=>e (hinj j oj d2 hj ed (by rw [hdj,e2])).symm)
theorem Zi9{id:Nat}{a:Act}{w:World}{N:Nat}{Ψ:(Nat->Bool)->(Nat->Value)->World->Prop}(hm:P.follows .mixedOrders=true)(hok:ZmF N ops=true)(hN:a.tmps.size=N)(h0:Ψ (fun _=>false) (fun _=>undef) w.drew)
  (hstep:∀(i:Nat) (o:Oper),ops[i]?=some o->∀(D:Nat->Bool) (V:Nat->Value) (a':Act) (w':World),D i=false->(∀e∈o.after,Region.binds .any e=true->D e.on=true)->ZaN ops a Ψ D V a' w'->
   Oper.wp P o a' w' (fun a'' w''=>∃v,a''=a'.put o.dst v/\Ψ (ZcH D i true) (ZcH V i v) w'') Q)
  (hend:∀(D:Nat->Bool) (V:Nat->Value) (a':Act) (w':World),(∀i,i<ops.size->D i=true)->ZaN ops a Ψ D V a' w'->Q .normal a' w'):(Code.region id ops true).wp P Q a w:=by
 refine wp_region_any hm ?_;refine ZuU hok hN hstep hend ops.size (List.range ops.size) _ (fun _=>undef) a _ s_ s_ (fun i hi _=>List.mem_range.2 hi) ?_;have hf:(fun i=>(Array.replicate ops.size false).getD i false)=fun _=>false:=by
  funext i;simp only [Array.getD];split<;>simp
 rw [hf];exact ⟨rfl,rfl,fun _ _=>rfl,fun _ _ _ _ _ h=>n82_,h0⟩
end
theorem ZA{P:Program}{K:Act->World->Prop}{Q:Exit->Act->World->Prop}{a:Act}{w w':World}{o:Oper}(v:Value)(hr:(execOp a.eval o).run P w=.ok (.value v) w')(h:K (a.put o.dst v) w'):Oper.wp P o a w K Q:=by
 unfold Oper.wp;rw [hr,Oper.upon_value];exact h
def nodupB:List Nat->Bool
 |[]=>true
 |x::t=>!(t.contains x)&&nodupB t
def ZkK:Nat->List Oper->Bool
 |_,[]=>true
 |n,o::t=>(o.after.all fun e=>!Region.binds .any e||decide (e.on<n))&&ZkK (n+1) t
def Zhi(N:Nat)(L:List Nat)(ops:Array Oper):Bool:=(ops.toList.map (·.dst)==L.map some)&&(nodupB L&&(L.all (fun d=>decide (d<N))&&ZkK 0 ops.toList))
theorem Zgn:∀(L:List Nat),nodupB L=true->∀(i j d:Nat),L[i]?=some d->L[j]?=some d->i=j
 |[],_,i,j,d,h,_=>by simp at h
 |x::t,hn,i,j,d,hi,hj=>by
  rw [nodupB,Bool.and_eq_true] at hn;have hx:x∉t:=by simpa using hn.1
  rcases i with _|i<;>rcases j with _|j
  ·rfl
  ·simp at hi hj;subst hi;exact absurd (List.mem_of_getElem? hj) hx
  ·simp at hi hj;subst hj;exact absurd (List.mem_of_getElem? hi) hx
  ·rw [Zgn t hn.2 i j d n78_ n113_]
theorem Zgk:∀(l:List Oper) (n:Nat),ZkK n l=true->∀(i:Nat) (o:Oper),l[i]?=some o->∀e∈o.after,Region.binds .any e=true->e.on<n+i
 |[],_,_,i,o,h=>by simp at h
 |x::t,n,hb,i,o,h=>by
  rw [ZkK,Bool.and_eq_true] at hb;rcases i with _|i
  ·simp at h;subst h
   intro e he hbe;have h1:=hb.1;rw [Array.all_eq_true'] at h1
   have:=h1 e he
   rw [hbe] at this;exact of_decide_eq_true (by simpa using this)
  ·intro e he hbe
   have:=Zgk t (n+1) hb.2 i o n32_ e he hbe
   omega
section
variable {P:Program} {ops:Array Oper} {Q:Exit->Act->World->Prop}
theorem Zga{N:Nat}{L:List Nat}(h:Zhi N L ops=true){i:Nat}{o:Oper}(ho:ops[i]?=some o):(∀e∈o.after,Region.binds .any e=true->e.on<i)/\(∃d,o.dst=some d/\d<N)/\∀j oj d,ops[j]?=some oj->o.dst=some d->oj.dst=some d->i=j:=by
 unfold Zhi at h;simp only [Bool.and_eq_true] at h;obtain ⟨h1,h2,h3,h4⟩:=h;have h1:=eq_of_beq h1;have get:∀(i:Nat) (o:Oper),ops[i]?=some o->∃d,L[i]?=some d/\o.dst=some d:=fun i o ho=>by
  have e:(ops.toList.map (·.dst))[i]?=some o.dst:=by simp [ho]
  rw [h1] at e;simp at e;obtain ⟨d,hd,he⟩:=e;exact ⟨d,hd,he.symm⟩
 obtain ⟨d0,hd0,he0⟩:=get i o ho;refine ⟨fun e he hb=>?_,⟨d0,he0,of_decide_eq_true (c7_.1 h3 d0 (List.mem_of_getElem? hd0))⟩,fun j oj d hj hd hd2=>?_⟩
 ·have:=Zgk ops.toList 0 h4 i o (by simpa using ho) e he hb
  omega
 ·obtain ⟨d1,hd1,he1⟩:=get j oj hj
  rw [hd] at he0;injection he0 with he0
  rw [hd2] at he1;injection he1 with he1
  exact Zgn L h2 i j d (by rw [he0];exact hd0) (by rw [he1];exact hd1)
def Zb0(P:Program)(ops:Array Oper)(Q:Exit->Act->World->Prop)(F:Act->Prop)(S:World->Prop)(val:Nat->Value)(i:Nat)(o:Oper):Prop:=
 ∀(a:Act) (w:World),S w->F a->(∀e∈o.after,Region.binds .any e=true->∀oj d,ops[e.on]?=some oj->oj.dst=some d->a.tmps[d]?=some (val e.on))->
  if Region.wanted o (yielded ops a.tmps)=true then Oper.wp P o a w (fun a' w'=>a'=a.put o.dst (val i)/\S w') Q else val i=undef
theorem ZsY{a0:Act}{N:Nat}{F:Act->Prop}{S:World->Prop}{val:Nat->Value}{L:List Nat}(hok:Zhi N L ops=true)(hN:a0.tmps.size=N)
  (hF:∀a:Act,(∀k,(∀(i:Nat) (o:Oper),ops[i]?=some o->o.dst≠some k)->a.tmps[k]?=a0.tmps[k]?)->F a)
  (hstep:∀(i:Nat) (o:Oper),ops[i]?=some o->Zb0 P ops Q F S val i o)
  (hend:∀(a:Act) (w:World),S w->a.tmps.size=a0.tmps.size->a.defers=a0.defers->(∀k,(∀(i:Nat) (o:Oper),ops[i]?=some o->o.dst≠some k)->a.tmps[k]?=a0.tmps[k]?)->
   (∀(i:Nat) (o:Oper) (d:Nat),ops[i]?=some o->o.dst=some d->a.tmps[d]?=some (val i))->Q .normal a w) :
  ∀(f:Nat) (L:List Nat) (b:Array Bool) (a:Act) (w:World),L.length<=f->b.size=ops.size->(∀i,i<ops.size->b.getD i false=false->i∈L)->S w->a.tmps.size=a0.tmps.size->a.defers=a0.defers->
   (∀k,(∀(i:Nat) (o:Oper),ops[i]?=some o->o.dst≠some k)->a.tmps[k]?=a0.tmps[k]?)->(∀(i:Nat) (o:Oper) (d:Nat),ops[i]?=some o->o.dst=some d->b.getD i false=true->a.tmps[d]?=some (val i))->wpAny P .any ops Q f b a w:=by
 have hall:∀(b:Array Bool),b.size=ops.size->Region.ready .any ops b=[]->∀i,i<ops.size->b.getD i false=true:=by
  intro b hb hr i;induction i using Nat.strongRecOn with
  |_ i ih=>
   intro hi;cases hq:b.getD i false with
   |true=>rfl
   |false=>
    have hm:i∈Region.ready .any ops b:=by
     refine mem_ready.2 ⟨?_,_,Array.getElem?_eq_getElem hi,fun e he hb=>?_⟩
     ·simp [Array.getD,hb,hi] at hq⊢;exact hq
     ·have:=(Zga hok (Array.getElem?_eq_getElem hi)).1 e he hb
      exact ih _ this o_
    rw [hr] at hm;cases hm
 intro f;induction f with
 |zero=>
  intro L b a w hL hb hm hS h1 h2 h3 h4;have hL0:L=[]:=c10_ o_;subst hL0;have ha:∀i,i<ops.size->b.getD i false=true:=fun i hi=>by
   cases hq:b.getD i false with
   |true=>rfl
   |false=>have:=hm i hi hq;cases this
  refine ⟨?_,hend a w hS h1 h2 h3 (fun i o d ho hd=>h4 i o d ho hd (ha i (c6_.1 ho).1))⟩;rw [List.eq_nil_iff_forall_not_mem];intro i hi;obtain ⟨h1,o,ho,_⟩:=mem_ready.1 hi;have hil:i<ops.size:=(c6_.1 ho).1
  have:=ha i hil
  simp [Array.getD,hb,hil] at h1 this;rw [this] at h1;cases h1
 |succ f ih=>
  intro L b a w hL hb hm hS h1 h2 h3 h4;refine ⟨fun hr=>hend a w hS h1 h2 h3 (fun i o d ho hd=>h4 i o d ho hd (hall b hb hr i (c6_.1 ho).1)),fun i hi=>?_⟩;obtain ⟨hr1,o,ho,hdep⟩:=mem_ready.1 hi;have hil:i<ops.size:=(c6_.1 ho).1;have hi0:b.getD i false=false:=by
   simp [Array.getD,hb,hil] at hr1⊢;exact hr1
  obtain ⟨_,⟨di,hdi,hdN⟩,hinj⟩:=Zga hok ho;have hw:=hstep i o ho a w hS (hF a h3) (fun e he hb oj d hj hd=>h4 e.on oj d hj hd (hdep e he hb));have next:∀w',S w'->wpAny P .any ops Q f (b.setIfInBounds i true) (a.put o.dst (val i)) w':=by
   intro w' hS';have hset:∀j,j≠i->(b.setIfInBounds i true).getD j false=b.getD j false:=fun j e=>getD_set_ne false (Ne.symm e)
   rw [hdi];refine ih (L.erase i) _ _ w' ?_ (by simp [hb]) (fun j hj hq=>?_) hS' (by rw [<-h1];simp [Act.put]) (by rw [<-h2];simp [Act.put]) (fun k hk=>?_) (fun j oj d hj hd hq=>?_)
   ·have:=List.length_erase_of_mem (hm i hil hi0)
    have h0:0<L.length:=List.length_pos_of_mem (hm i hil hi0);omega
   ·by_cases e:j=i
    ·subst e;simp [Array.getD,hb,hil] at hq
    ·rw [hset j e] at hq
     exact (List.mem_erase_of_ne e).2 (hm j hj hq)
   ·rw [<-h3 k hk]
    exact Zk4 _ (fun e=>hk i o ho (by rw [hdi,e]))
   ·by_cases e:j=i
    ·subst e
     rw [ho] at hj;injection hj with hj;subst hj
     rw [hdi] at hd;injection hd with hd;subst hd
     exact Zmv _ (by rw [h1,hN];exact hdN)
    ·rw [hset j e] at hq
     rw [<-h4 j oj d hj hd hq];exact Zk4 _ (fun e2=>e (hinj j oj di hj hdi (by rw [hd,e2])).symm)
  unfold wpOp;simp only [ho];by_cases hwd:Region.wanted o (yielded ops a.tmps)=true
  ·rw [if_pos hwd] at hw⊢
   refine .inl (Oper.wp_mono ?_ hw);rintro a' w' ⟨rfl,hS'⟩;exact next w' hS'
  ·rw [if_neg hwd] at hw⊢
   rw [<-hw];exact next w hS
theorem ZcW{id:Nat}{a:Act}{w:World}{N:Nat}(F:Act->Prop)(S:World->Prop)(val:Nat->Value)(L:List Nat)(hm:P.follows .mixedOrders=true)(hok:Zhi N L ops=true)(hN:a.tmps.size=N)(h0:S w.drew)
  (hF:∀a':Act,(∀k,(∀(i:Nat) (o:Oper),ops[i]?=some o->o.dst≠some k)->a'.tmps[k]?=a.tmps[k]?)->F a')
  (hstep:∀(i:Nat) (o:Oper),ops[i]?=some o->Zb0 P ops Q F S val i o)
  (hend:∀(a':Act) (w':World),S w'->a'.tmps.size=a.tmps.size->a'.defers=a.defers->(∀k,(∀(i:Nat) (o:Oper),ops[i]?=some o->o.dst≠some k)->a'.tmps[k]?=a.tmps[k]?)->
   (∀(i:Nat) (o:Oper) (d:Nat),ops[i]?=some o->o.dst=some d->a'.tmps[d]?=some (val i))->Q .normal a' w'):(Code.region id ops true).wp P Q a w:=by
 refine wp_region_any hm ?_;refine ZsY hok hN hF hstep hend ops.size (List.range ops.size) _ a _ s_ s_ (fun i hi _=>List.mem_range.2 hi) h0 rfl rfl (fun _ _=>rfl) (fun i o d ho hd h=>?_);rw [getD_replicate_false] at h;cases h
def Zbq(p:Nat->Oper->Prop):Nat->List Oper->Prop
 |_,[]=>True
 |n,o::t=>p n o/\Zbq p (n+1) t
theorem Zf9{p:Nat->Oper->Prop}:∀(l:List Oper) (n:Nat),Zbq p n l->∀(i:Nat) (o:Oper),l[i]?=some o->p (n+i) o
 |[],_,_,i,o,h=>by simp at h
 |x::t,n,⟨h,ht⟩,0,o,e=>by simp at e;rw [<-e];exact h
 |x::t,n,⟨h,ht⟩,i+1,o,e=>by
  have:=Zf9 t (n+1) ht i o (by simpa using e)
  rw [show n+(i+1)=n+1+i by omega];exact this
theorem Zpq{p:Nat->Oper->Prop}(h:Zbq p 0 ops.toList):∀(i:Nat) (o:Oper),ops[i]?=some o->p i o:=fun i o ho=>by
 have:=Zf9 ops.toList 0 h i o (by simpa using ho)
 rw [Nat.zero_add] at this;exact this
theorem YX{p:Nat->Oper->Prop}{i:Nat}{o1 o2 o3 o4 o5 o6 o7:Oper}{rest:List Oper}(h:p i o1/\p (i+1) o2/\p (i+2) o3/\p (i+3) o4/\p (i+4) o5/\p (i+5) o6/\p (i+6) o7)(hr:Zbq p (i+7) rest):Zbq p i (o1::o2::o3::o4::o5::o6::o7::rest):=
 ⟨h.1,h.2.1,h.2.2.1,h.2.2.2.1,h.2.2.2.2.1,h.2.2.2.2.2.1,h.2.2.2.2.2.2,hr⟩
def waits(o:Oper)(j:Nat):Prop:=∃e∈o.after,Region.binds .any e=true/\e.on=j
variable {F:Act->Prop} {S:World->Prop} {val:Nat->Value}
theorem Yf{i:Nat}{o:Oper}(hg:o.guard=none)(h:∀(a:Act) (w:World),S w->F a->(∀j oj d,waits o j->ops[j]?=some oj->oj.dst=some d->a.tmps[d]?=some (val j))->Oper.wp P o a w (fun a' w'=>a'=a.put o.dst (val i)/\S w') Q):Zb0 P ops Q F S val i o:=by
 intro a w hS hF hd;rw [if_pos (ZmJ hg)];exact h a w hS hF (fun j oj d ⟨e,he,hb,hj⟩ ho hdst=>by subst hj;exact hd e he hb oj d ho hdst)
theorem Zac{i g k:Nat}{og o:Oper}{acc:Bool}(hg:o.guard=some (g,true))(hog:ops[g]?=some og)(hk:og.dst=some k)(hwt:waits o g)(hv:val g=.bool acc)(hn:acc=false->val i=undef)
  (h:acc=true->∀(a:Act) (w:World),S w->F a->(∀j oj d,waits o j->ops[j]?=some oj->oj.dst=some d->a.tmps[d]?=some (val j))->Oper.wp P o a w (fun a' w'=>a'=a.put o.dst (val i)/\S w') Q):Zb0 P ops Q F S val i o:=by
 intro a w hS hF hd;have hd2:∀j oj d,waits o j->ops[j]?=some oj->oj.dst=some d->a.tmps[d]?=some (val j):=fun j oj d ⟨e,he,hb,hj⟩ ho hdst=>by subst hj;exact hd e he hb oj d ho hdst
 have hflag:=hd2 g og k hwt hog hk;rw [hv] at hflag;have hgb:(ops[g]?).bind (·.dst)=some k:=by rw [hog];exact hk
 cases acc with
 |true=>
  rw [if_pos (ZoU hg hgb hflag)];exact h rfl a w hS hF hd2
 |false=>
  rw [if_neg (Zro hg hgb hflag)];exact hn rfl
theorem Ye(ops:Array Oper)(i g k d7:Nat){og o1 o2 o3 o4 o5 o6 o7:Oper}(acc t:Bool){pA pB:Value}(pA' pB' vx vy:Value)(hFA:∀a,F a->a.tmps[2]?=some pA/\a.tmps[3]?=some pB)(v0:val g=.bool acc)
  (x2:∀(a':Act) (w:World),S w->a'.tmps[k+1]?=some pA'->(execOp a'.eval o2).run P w=.ok (.value vx) w) (x4:∀(a':Act) (w:World),S w->a'.tmps[k+3]?=some pB'->(execOp a'.eval o4).run P w=.ok (.value vy) w)
  (x5:∀(a':Act) (w:World) (K:Act->World->Prop),S w->a'.tmps[k+2]?=some vx->a'.tmps[k+4]?=some vy->(∀w',S w'->K (a'.put (some (k+5)) (.bool t)) w')->Oper.wp P o5 a' w K Q)
  (ho:ops[g]?=some og:=by exact rfl) (hk:og.dst=some k:=by exact rfl) (e1:ops[i]?=some o1:=by exact rfl) (e2:ops[i+1]?=some o2:=by exact rfl) (e3:ops[i+2]?=some o3:=by exact rfl) (e4:ops[i+3]?=some o4:=by exact rfl) (e5:ops[i+4]?=some o5:=by exact rfl) (e6:ops[i+5]?=some o6:=by exact rfl)
  (d1:o1.dst=some (k+1):=by exact rfl) (d2:o2.dst=some (k+2):=by exact rfl) (d3:o3.dst=some (k+3):=by exact rfl) (d4:o4.dst=some (k+4):=by exact rfl) (d5:o5.dst=some (k+5):=by exact rfl) (d6:o6.dst=some (k+6):=by exact rfl) (d7':o7.dst=some d7:=by exact rfl)
  (g1:o1.guard=some (g,true):=by exact rfl) (g2:o2.guard=some (g,true):=by exact rfl) (g3:o3.guard=some (g,true):=by exact rfl) (g4:o4.guard=some (g,true):=by exact rfl) (g5:o5.guard=some (g,true):=by exact rfl) (g6:o6.guard=none:=by exact rfl) (g7:o7.guard=none:=by exact rfl)
  (m1:waits o1 g:=by exact ⟨⟨_,.guard⟩,s_,rfl,rfl⟩) (m2:waits o2 g/\waits o2 i:=by exact ⟨⟨⟨_,.guard⟩,s_,rfl,rfl⟩,⟨⟨_,.data⟩,s_,rfl,rfl⟩⟩) (m3:waits o3 g:=by exact ⟨⟨_,.guard⟩,s_,rfl,rfl⟩) (m4:waits o4 g/\waits o4 (i+2):=by exact ⟨⟨⟨_,.guard⟩,s_,rfl,rfl⟩,⟨⟨_,.data⟩,s_,rfl,rfl⟩⟩)
  (m5:waits o5 g/\waits o5 (i+1)/\waits o5 (i+3):=by exact ⟨⟨⟨_,.guard⟩,s_,rfl,rfl⟩,⟨⟨_,.data⟩,s_,rfl,rfl⟩,⟨⟨_,.data⟩,s_,rfl,rfl⟩⟩) (m6:waits o6 g/\waits o6 (i+4):=by exact ⟨⟨⟨_,.data⟩,s_,rfl,rfl⟩,⟨⟨_,.data⟩,s_,rfl,rfl⟩⟩) (m7:waits o7 (i+5):=by exact ⟨⟨_,.data⟩,s_,rfl,rfl⟩)
  (v1:val i=if acc then pA' else undef:=by exact rfl) (v2:val (i+1)=if acc then vx else undef:=by exact rfl) (v3:val (i+2)=if acc then pB' else undef:=by exact rfl) (v4:val (i+3)=if acc then vy else undef:=by exact rfl) (v5:val (i+4)=if acc then .bool t else undef:=by exact rfl) (v6:val (i+5)=.bool (acc&&t):=by exact rfl) (v7:val (i+6)=.bool (acc&&t):=by exact rfl)
  (x1:∀(a':Act) (w:World),S w->a'.tmps[2]?=some pA->(execOp a'.eval o1).run P w=.ok (.value pA') w:=by (intro a' W hI h;obtain ⟨y0,z0⟩:=Zi h;go_simp)) (x3:∀(a':Act) (w:World),S w->a'.tmps[3]?=some pB->(execOp a'.eval o3).run P w=.ok (.value pB') w:=by (intro a' W hI h;obtain ⟨y0,z0⟩:=Zi h;go_simp))
  (x6:∀(a':Act) (w:World) (c':Bool) (v:Value),a'.tmps[k]?=some (.bool c')->a'.tmps[k+5]?=some v->(execOp a'.eval o6).run P w=.ok (.value (if c' then v else .bool false)) w:=by (intro a' W c' v h1 h2;obtain ⟨y0,z0⟩:=Zi h1;obtain ⟨y1,z1⟩:=Zi h2;cases c'<;>go_simp))
  (x7:∀(a':Act) (w:World) (v:Value),a'.tmps[k+6]?=some v->(execOp a'.eval o7).run P w=.ok (.value v) w:=by (intro a' W v h;obtain ⟨y0,z0⟩:=Zi h;go_simp)) :
  Zb0 P ops Q F S val i o1/\Zb0 P ops Q F S val (i+1) o2/\Zb0 P ops Q F S val (i+2) o3/\Zb0 P ops Q F S val (i+3) o4/\Zb0 P ops Q F S val (i+4) o5/\Zb0 P ops Q F S val (i+5) o6/\Zb0 P ops Q F S val (i+6) o7:=by
 have no:∀{j:Nat} {v:Value},val j=(if acc then v else undef)->acc=false->val j=undef:=fun h e=>by rw [h,e];rfl
 have ye:∀{j:Nat} {v:Value},val j=(if acc then v else undef)->acc=true->val j=v:=fun h e=>by rw [h,e];rfl
 refine ⟨Zac g1 ho hk m1 v0 (no v1) fun ha a w hS hF hs=>?_,Zac g2 ho hk m2.1 v0 (no v2) fun ha a w hS hF hs=>?_,Zac g3 ho hk m3 v0 (no v3) fun ha a w hS hF hs=>?_,Zac g4 ho hk m4.1 v0 (no v4) fun ha a w hS hF hs=>?_,Zac g5 ho hk m5.1 v0 (no v5) fun ha a w hS hF hs=>?_,Yf g6 fun a w hS hF hs=>?_,Yf g7 fun a w hS hF hs=>?_⟩
 ·exact ZA pA' (x1 a w hS (hFA a hF).1) ⟨by rw [ye v1 ha],hS⟩
 ·have s:=hs i o1 _ m2.2 e1 d1
  rw [ye v1 ha] at s;exact ZA vx (x2 a w hS s) ⟨by rw [ye v2 ha],hS⟩
 ·exact ZA pB' (x3 a w hS (hFA a hF).2) ⟨by rw [ye v3 ha],hS⟩
 ·have s:=hs (i+2) o3 _ m4.2 e3 d3
  rw [ye v3 ha] at s;exact ZA vy (x4 a w hS s) ⟨by rw [ye v4 ha],hS⟩
 ·have s:=hs (i+1) o2 _ m5.2.1 e2 d2
  have s':=hs (i+3) o4 _ m5.2.2 e4 d4;rw [ye v2 ha] at s;rw [ye v4 ha] at s';exact x5 a w _ hS s s' (fun w' hS'=>⟨by rw [ye v5 ha,d5],hS'⟩)
 ·have s:=hs g og _ m6.1 ho hk
  have s':=hs (i+4) o5 _ m6.2 e5 d5;rw [v0] at s;refine ZA _ (x6 a w acc _ s s') ⟨?_,hS⟩;rw [v6,v5];cases acc<;>rfl
 ·have s:=hs (i+5) o6 _ m7 e6 d6
  exact ZA _ (x7 a w _ s) ⟨by rw [v7,v6],hS⟩
end
def Zfz(ops:Array Oper):Nat->Nat->Nat->Bool
 |0,j,k=>j==k
 |f+1,j,k=>j==k||match ops[j]? with
  |none=>false
  |some o=>o.after.any fun e=>Region.binds .any e&&Zfz ops f e.on k
def ZrP(ops:Array Oper)(tg:Nat->Nat):Bool:=(List.range ops.size).all fun j=>Zfz ops 5 j (tg j)
section
variable {P:Program} {ops:Array Oper} {Q:Exit->Act->World->Prop} {I:(Nat->Bool)->World->Prop} {F:Nat->Value->World->Prop} {tg:Nat->Nat} {ks:List (List Nat)} {D:Nat->Bool} {V:Nat->Value} {W:World}
structure ZbA(ops:Array Oper)(I:(Nat->Bool)->World->Prop)(F:Nat->Value->World->Prop)(tg:Nat->Nat)(ks:List (List Nat))(D:Nat->Bool)(V:Nat->Value)(W:World):Prop where
 bel:I D W
 clo:∀(i:Nat) (o:Oper),ops[i]?=some o->D i=true->∀e∈o.after,Region.binds .any e=true->D e.on=true
 lt:∀i,D i=true->i<ops.size
 fact:∀i,D i=true->(∀j∈ks.getD i [],D j=false)->F i (V (tg i)) W
theorem ZbA.reach(h:ZbA ops I F tg ks D V W):∀(f j k:Nat),Zfz ops f j k=true->D j=true->D k=true
 |0,j,k,e,hj=>by
  have e:j=k:=by simpa [Zfz] using e
  rw [<-e];exact hj
 |f+1,j,k,e,hj=>by
  unfold Zfz at e;rw [Bool.or_eq_true] at e;rcases e with e|e
  ·have e:j=k:=by simpa using e
   rw [<-e];exact hj
  ·cases ho:ops[j]? with
   |none=>rw [ho] at e;cases e
   |some o=>
    rw [ho] at e;simp only [Array.any_eq_true'] at e;obtain ⟨x,hx,hb⟩:=e;rw [Bool.and_eq_true] at hb;exact h.reach f x.on k hb.2 (h.clo j o ho hj x hx hb.1)
theorem ZbA.not(h:ZbA ops I F tg ks D V W){i j:Nat}(hi:D i=false)(hr:Zfz ops 5 j i=true):D j=false:=by
 cases hj:D j with
 |false=>rfl
 |true=>rw [h.reach 5 j i hr hj] at hi;cases hi
theorem Zca{id:Nat}{a:Act}{w:World}{N:Nat}(I:(Nat->Bool)->World->Prop)(F:Nat->Value->World->Prop)(tg:Nat->Nat)(ks:List (List Nat))(hm:P.follows .mixedOrders=true)(hok:ZmF N ops=true)(hN:a.tmps.size=N)(hu:ZrP ops tg=true)(hb:I (fun _=>false) w.drew)(hI0:∀(D:Nat->Bool) (i:Nat) (W W':World),Below W.heap.size W W'->I D W->I (ZcH D i true) W')
  (hmono:∀(j:Nat) (v:Value) (W W':World),Below W.heap.size W W'->F j v W->F j v W')
  (hstep:∀(i:Nat) (o:Oper),ops[i]?=some o->∀(D:Nat->Bool) (V:Nat->Value) (a':Act) (w':World),D i=false->(∀e∈o.after,Region.binds .any e=true->D e.on=true)->ZaN ops a (ZbA ops I F tg ks) D V a' w'->
   Oper.wp P o a' w' (fun a'' w''=>∃v,a''=a'.put o.dst v/\F i (ZcH V i v (tg i)) w''/\(Below w'.heap.size w' w''\/(I (ZcH D i true) w''/\∀j,j≠i->D j=true->(∀k∈ks.getD j [],ZcH D i true k=false)->F j (V (tg j)) w'->F j (V (tg j)) w''))) Q)
  (hend:∀(D:Nat->Bool) (V:Nat->Value) (a':Act) (w':World),(∀i,i<ops.size->D i=true)->ZaN ops a (ZbA ops I F tg ks) D V a' w'->Q .normal a' w'):(Code.region id ops true).wp P Q a w:=by
 refine Zi9 hm hok hN ⟨hb,fun i o _ h=>n82_,fun i h=>n82_,fun i h=>n82_⟩ (fun i o ho D V a' w' hD hdep hI=>?_) hend;have h0:=hI.inv;refine Oper.wp_mono ?_ (hstep i o ho D V a' w' hD hdep hI);rintro a'' w'' ⟨v,rfl,hΦ,hw⟩;refine ⟨v,rfl,?_⟩;have hoth:∀j,D j=true->ZcH V i v (tg j)=V (tg j):=fun j hDj=>by
  refine QW _ _ ?_;intro e;have h1:=c7_.1 hu j (List.mem_range.2 (h0.lt j hDj));rw [e] at h1;rw [h0.reach 5 j i h1 hDj] at hD;cases hD
 refine ⟨?_,?_,?_,?_⟩
 ·rcases hw with hw|hw
  ·exact hI0 _ _ _ _ hw h0.bel
  ·exact hw.1
 ·intro j oj hj hDj e he hb
  by_cases hji:j=i
  ·subst hji
   rw [ho] at hj;injection hj with hj;subst hj
   have:=hdep e he hb
   by_cases hei:e.on=j
   ·rw [hei,Zav]
   ·rw [QW _ _ hei];exact this
  ·rw [QW _ _ hji] at hDj
   have:=h0.clo j oj hj hDj e he hb
   by_cases hei:e.on=i
   ·rw [hei,Zav]
   ·rw [QW _ _ hei];exact this
 ·intro j hDj
  by_cases hji:j=i
  ·subst hji;exact (c6_.1 ho).1
  ·rw [QW _ _ hji] at hDj;exact h0.lt j hDj
 ·intro j hDj hk
  by_cases hji:j=i
  ·subst hji;exact hΦ
  ·rw [QW _ _ hji] at hDj
   have hal:∀k∈ks.getD j [],D k=false:=fun k hk'=>by
    have:=hk k hk'
    by_cases hki:k=i
    ·subst hki;exact hD
    ·rw [QW _ _ hki] at this;exact this
   have hf:=h0.fact j hDj hal;rw [hoth j hDj];rcases hw with hw|hw
   ·exact hmono j _ _ _ hw hf
   ·exact hw.2 j hji hDj hk hf
theorem Zaq{id:Nat}{a:Act}{w:World}{N:Nat}(wc:World)(F:Nat->Value->World->Prop)(tg:Nat->Nat)(ks:List (List Nat))(hm:P.follows .mixedOrders=true)(hok:ZmF N ops=true)(hN:a.tmps.size=N)(hu:ZrP ops tg=true)(hb:Below wc.heap.size wc w.drew)
  (hmono:∀(j:Nat) (v:Value) (W W':World),Below W.heap.size W W'->F j v W->F j v W')
  (hstep:∀(i:Nat) (o:Oper),ops[i]?=some o->∀(D:Nat->Bool) (V:Nat->Value) (a':Act) (w':World),D i=false->(∀e∈o.after,Region.binds .any e=true->D e.on=true)->ZaN ops a (ZbA ops (fun _ W=>Below wc.heap.size wc W) F tg ks) D V a' w'->
   Oper.wp P o a' w' (fun a'' w''=>∃v,a''=a'.put o.dst v/\F i (ZcH V i v (tg i)) w''/\(Below w'.heap.size w' w''\/(Below wc.heap.size wc w''/\∀j,j≠i->D j=true->(∀k∈ks.getD j [],ZcH D i true k=false)->F j (V (tg j)) w'->F j (V (tg j)) w''))) Q)
  (hend:∀(D:Nat->Bool) (V:Nat->Value) (a':Act) (w':World),(∀i,i<ops.size->D i=true)->ZaN ops a (ZbA ops (fun _ W=>Below wc.heap.size wc W) F tg ks) D V a' w'->Q .normal a' w'):(Code.region id ops true).wp P Q a w:=
 Zca (fun _ W=>Below wc.heap.size wc W) F tg ks hm hok hN hu hb (fun _ _ _ _ hw h=>h.trans (hw.mono h.size)) hmono hstep hend
end
theorem Zqr{w:World}{B e k n:Nat}{v:Value}{xs:List Value}(h:w.ownsRow B e k v n xs)(g:Nat)(hg:v.ownBlock=some g):∃cur,w.heap[g]?=some (.cells cur e (0,0)):=by
 rcases h.2 with ⟨rfl,_⟩|⟨g',cap,cur,rfl,_,h3,_⟩
 ·cases hg
 ·injection hg with hg
  exact ⟨cur,by rw [<-hg];exact h3⟩
theorem ZlJ{P:Program}{K:Act->World->Prop}{Q:Exit->Act->World->Prop}{a:Act}{w w':World}{o:Oper}(s x:Operand)(t:TypeId)
  (ho:o.op=.call { callee:=.builtin .append,args:=#[s,x],argTypes:=#[t,t] }) {v xv v':Value} (hr:(Builtin.append_ #[t,t] o.type #[v,xv]).run P w=.ok v' w') (hs:a.eval s=v) (hx:a.eval x=xv)
  (h:K (a.put o.dst v') w'):Oper.wp P o a w K Q:=by
 unfold Oper.wp execOp;simp only [ho,resolve,invoke,builtin,Sem.run_bind,Sem.run_pure,Result.andThen_ok,List.map_toArray,List.map_cons,List.map_nil,hs,hx,hr];exact h
theorem Zcp{P:Program}{K:Act->World->Prop}{Q:Exit->Act->World->Prop}{a:Act}{w:World}{o:Oper}{R:Ending->World->Prop}(f:FuncId)(args:Array Value)(hx:(execOp a.eval o).run P w=.ok (.enter f args) w)(hc:Calls P f args w R)
  (h:∀e w',R e w'->∃v,e=.returned v/\K (a.put o.dst v) w'):Oper.wp P o a w K Q:=by
 unfold Oper.wp;rw [hx,Oper.upon_enter];exact hc.mono (fun e w' q=>by obtain ⟨v,rfl,k⟩:=h e w' q;exact k)
theorem ZaN.at{ops:Array Oper}{a0:Act}{Ψ:(Nat->Bool)->(Nat->Value)->World->Prop}{D:Nat->Bool}{V:Nat->Value}{a:Act}{w:World}(h:ZaN ops a0 Ψ D V a w)(k:Nat)(hk:(ops.all fun o=>!(o.dst==some k))=true):a.tmps[k]?=a0.tmps[k]?:=by
 refine h.out k fun i o ho e=>?_
 rw [Array.all_eq_true] at hk;obtain ⟨hi,he⟩:=c6_.1 ho
 have:=hk i hi
 rw [he,e] at this;simp at this
theorem ZaN.ahead{ops:Array Oper}{a0:Act}{Ψ:(Nat->Bool)->(Nat->Value)->World->Prop}{D:Nat->Bool}{V:Nat->Value}{a:Act}{w:World}(h:ZaN ops a0 Ψ D V a w)(k n:Nat)(hD:D n=false)(hk:((List.range ops.size).all fun i=>i==n||!((ops[i]?).bind (·.dst)==some k))=true):a.tmps[k]?=a0.tmps[k]?:=by
 refine h.out k fun i o ho e=>?_
 obtain ⟨hi,he⟩:=c6_.1 ho
 have:=c7_.1 hk i (List.mem_range.2 hi)
 rw [ho] at this;simp only [Option.bind_some,e,beq_self_eq_true,Bool.not_true,Bool.or_false,beq_iff_eq] at this;rw [this];exact hD
theorem foldl_set{f:Nat->Value}:∀(L:List Nat) (t:Array Value),(L.foldl (fun t k=>t.setIfInBounds k (f k)) t).size=t.size/\∀k,(L.foldl (fun t k=>t.setIfInBounds k (f k)) t)[k]?=if k∈L/\k<t.size then some (f k) else t[k]?
 |[],t=>⟨rfl,fun k=>by simp⟩
 |x::L,t=>by
  obtain ⟨h1,h2⟩:=foldl_set (f:=f) L (t.setIfInBounds x (f x));refine ⟨by rw [List.foldl_cons,h1];simp,fun k=>?_⟩;rw [List.foldl_cons,h2 k];simp only [Array.size_setIfInBounds];by_cases hk:k∈L/\k<t.size
  ·rw [if_pos hk,if_pos ⟨List.mem_cons_of_mem _ hk.1,hk.2⟩]
  ·rw [if_neg hk]
   by_cases hx:k=x
   ·subst hx
    by_cases hl:k<t.size
    ·rw [if_pos ⟨s_,hl⟩,c15_ hl]
    ·rw [if_neg (fun h=>hl h.2),Array.getElem?_eq_none n6_,Array.getElem?_eq_none o_]
   ·rw [c13_ (Ne.symm hx)]
    by_cases hm:k∈x::L/\k<t.size
    ·exact absurd ⟨(List.mem_cons.1 hm.1).resolve_left hx,hm.2⟩ hk
    ·rw [if_neg hm]
theorem ZaN.form{ops:Array Oper}{a0:Act}{Ψ:(Nat->Bool)->(Nat->Value)->World->Prop}{D:Nat->Bool}{V:Nat->Value}{a:Act}{w:World}(h:ZaN ops a0 Ψ D V a w)(L:List Nat)
  (hL:(ops.all fun o=>match o.dst with|some d=>L.contains d|none=>true)=true):a=⟨L.foldl (fun t k=>t.setIfInBounds k (a.tmps.getD k undef)) a0.tmps,a0.defers⟩:=by
 obtain ⟨t,d⟩:=a;have hd:d=a0.defers:=h.dfr;subst hd;congr 1;obtain ⟨h1,h2⟩:=foldl_set (f:=fun k=>t.getD k undef) L a0.tmps;apply Array.ext_getElem?;intro k;rw [h2 k];have hs:t.size=a0.tmps.size:=h.tsz;by_cases hk:k∈L
 ·by_cases hl:k<a0.tmps.size
  ·rw [if_pos ⟨hk,hl⟩,Array.getElem?_eq_getElem o_]
   simp [Array.getD,show k<t.size by omega]
  ·rw [if_neg (fun h=>hl h.2),Array.getElem?_eq_none o_,Array.getElem?_eq_none o_]
 ·rw [if_neg (fun h=>hk h.1)]
  refine h.out k fun i o ho e=>?_
  rw [Array.all_eq_true] at hL;obtain ⟨hi,he⟩:=c6_.1 ho
  have:=hL i hi
  rw [he,e] at this;exact absurd (by simpa using this) hk
theorem Yc{t:Array Value}{k:Nat}{v:Value}(h:t[k]?=some v):t.getD k undef=v:=by
 rw [Array.getD_eq_getD_getElem?,h];rfl
abbrev Zaj:TypeId:=53
end Go.Proofs.YtmgmbeipbeknaaaGreatDoor
