import Derived.Test.YtmgmbeipbeknaaaGreatDoorRF37
import Derived.Test.YtmgmbeipbeknaaaGreatDoorRF47
namespace Go.Proofs.YtmgmbeipbeknaaaGreatDoor
open Go.Proofs.Tryz
open Go Go.RowKit
set_option linter.unusedVariables false
set_option linter.unusedSimpArgs false
set_option maxHeartbeats 16000000
set_option maxRecDepth 100000
def Zlm:List TypeId:=[9,3,47,64,49]
theorem QH{w:World}{B e k n:Nat}{v:Value}{xs:List Value}(h:w.ownsRow B e k v n xs)(g:Nat)(hg:v.ownBlock=some g):∃cur,w.heap[g]?=some (.cells cur e (0,0)):=by
 rcases h.2 with ⟨rfl,_⟩|⟨g',cap,cur,rfl,_,h3,_⟩
 ·cases hg
 ·injection hg with hg
  exact ⟨cur,by rw [<-hg];exact h3⟩
theorem Yu.typed{w:World}{F:Nat->Prop}:∀{c:UC} {v:Value},Yu w F c v->Yu w (fun g=>∃cur e,w.heap[g]?=some (.cells cur e (0,0))/\e∈Zlm) c v
 |.s _,_,h=>h
 |.n _,_,h=>h
 |.b _,_,h=>h
 |.ss l,v,h=>⟨h.1,fun g hg=>let ⟨cur,e⟩:=QH h.1 g hg;⟨cur,_,e,d_⟩⟩
 |.ns l,v,h=>⟨h.1,fun g hg=>let ⟨cur,e⟩:=QH h.1 g hg;⟨cur,_,e,d_⟩⟩
 |.rs l,v,h=>⟨h.1,fun g hg=>let ⟨cur,e⟩:=QH h.1 g hg;⟨cur,_,e,d_⟩⟩
 |.ps l,v,h=>⟨h.1,fun g hg=>let ⟨cur,e⟩:=QH h.1 g hg;⟨cur,_,e,d_⟩⟩
 |.cs l,v,h=>by
  obtain ⟨xs,a,b,c,d⟩:=h;refine ⟨xs,a,b,fun g hg=>let ⟨cur,e⟩:=QH b g hg;⟨cur,_,e,d_⟩,fun i h1 h2=>?_⟩;have q:=d i h1 h2;exact ⟨q.dash,q.wn,q.row,fun g hg=>let ⟨cur,e⟩:=QH q.row g hg;⟨cur,_,e,d_⟩⟩
theorem Ye.frT{w w':World}{cs X:Array Value}{u:UV}{b:Nat}{T:TypeId}(h:Ye w cs u)(hb:w.heap[b]?=some (.cells X T (0,0)))(hT:T∉Zlm)(hf:Fr (fun k=>k=b) w w'):Ye w' cs u:=
 ⟨h.size,fun j v hv=>((h.fld j v hv).typed.fr hf (by
  rintro g ⟨cur,e,h1,h2⟩ rfl;rw [hb] at h1;injection h1 with h1
  injection h1 with _ h1 _
  exact hT (h1 ▸ h2))).mono (fun _ _=>trivial)⟩
theorem ZdW{P:Program}{K:Act->World->Prop}{Q:Exit->Act->World->Prop}{a:Act}{w w':World}{o:Oper}(s x:Operand)(t:TypeId)
  (ho:o.op=.call { callee:=.builtin .append,args:=#[s,x],argTypes:=#[t,t] }) {v xv v':Value} (hr:(Builtin.append_ #[t,t] o.type #[v,xv]).run P w=.ok v' w') (hs:a.eval s=v) (hx:a.eval x=xv)
  (h:K (a.put o.dst v') w'):Oper.wp P o a w K Q:=by
 unfold Oper.wp execOp;simp only [ho,resolve,invoke,builtin,Sem.run_bind,Sem.run_pure,Result.andThen_ok,List.map_toArray,List.map_cons,List.map_nil,hs,hx,hr];exact h
theorem ZkF{P:Program}{K:Act->World->Prop}{Q:Exit->Act->World->Prop}{a:Act}{w:World}{o:Oper}{R:Ending->World->Prop}(f:FuncId)(args:Array Value)(hx:(execOp a.eval o).run P w=.ok (.enter f args) w)(hc:Calls P f args w R)
  (h:∀e w',R e w'->∃v,e=.returned v/\K (a.put o.dst v) w'):Oper.wp P o a w K Q:=by
 unfold Oper.wp;rw [hx,Oper.upon_enter];exact hc.mono (fun e w' q=>by obtain ⟨v,rfl,k⟩:=h e w' q;exact k)
theorem Zaq.at{ops:Array Oper}{a0:Act}{Ψ:(Nat->Bool)->(Nat->Value)->World->Prop}{D:Nat->Bool}{V:Nat->Value}{a:Act}{w:World}(h:Zaq ops a0 Ψ D V a w)(k:Nat)(hk:(ops.all fun o=>!(o.dst==some k))=true):a.tmps[k]?=a0.tmps[k]?:=by
 refine h.out k fun i o ho e=>?_
 rw [Array.all_eq_true] at hk;obtain ⟨hi,he⟩:=Array.getElem?_eq_some_iff.1 ho
 have:=hk i hi
 rw [he,e] at this;simp at this
theorem foldl_set{f:Nat->Value}:∀(L:List Nat) (t:Array Value),(L.foldl (fun t k=>t.setIfInBounds k (f k)) t).size=t.size/\∀k,(L.foldl (fun t k=>t.setIfInBounds k (f k)) t)[k]?=if k∈L/\k<t.size then some (f k) else t[k]?
 |[],t=>⟨rfl,fun k=>by simp⟩
 |x::L,t=>by
  obtain ⟨h1,h2⟩:=foldl_set (f:=f) L (t.setIfInBounds x (f x));refine ⟨by rw [List.foldl_cons,h1];simp,fun k=>?_⟩;rw [List.foldl_cons,h2 k];simp only [Array.size_setIfInBounds];by_cases hk:k∈L/\k<t.size
  ·rw [if_pos hk,if_pos ⟨List.mem_cons_of_mem _ hk.1,hk.2⟩]
  ·rw [if_neg hk]
   by_cases hx:k=x
   ·subst hx
    by_cases hl:k<t.size
    ·rw [if_pos ⟨s_,hl⟩,Array.getElem?_setIfInBounds_self_of_lt hl]
    ·rw [if_neg (fun h=>hl h.2),Array.getElem?_eq_none n6_,Array.getElem?_eq_none o_]
   ·rw [Array.getElem?_setIfInBounds_ne (Ne.symm hx)]
    by_cases hm:k∈x::L/\k<t.size
    ·exact absurd ⟨(List.mem_cons.1 hm.1).resolve_left hx,hm.2⟩ hk
    ·rw [if_neg hm]
theorem Zaq.form{ops:Array Oper}{a0:Act}{Ψ:(Nat->Bool)->(Nat->Value)->World->Prop}{D:Nat->Bool}{V:Nat->Value}{a:Act}{w:World}(h:Zaq ops a0 Ψ D V a w)(L:List Nat)
  (hL:(ops.all fun o=>match o.dst with|some d=>L.contains d|none=>true)=true):a=⟨L.foldl (fun t k=>t.setIfInBounds k (a.tmps.getD k undef)) a0.tmps,a0.defers⟩:=by
 obtain ⟨t,d⟩:=a;have hd:d=a0.defers:=h.dfr;subst hd;congr 1;obtain ⟨h1,h2⟩:=foldl_set (f:=fun k=>t.getD k undef) L a0.tmps;apply Array.ext_getElem?;intro k;rw [h2 k];have hs:t.size=a0.tmps.size:=h.tsz;by_cases hk:k∈L
 ·by_cases hl:k<a0.tmps.size
  ·rw [if_pos ⟨hk,hl⟩,Array.getElem?_eq_getElem o_]
   simp [Array.getD,show k<t.size by omega]
  ·rw [if_neg (fun h=>hl h.2),Array.getElem?_eq_none o_,Array.getElem?_eq_none o_]
 ·rw [if_neg (fun h=>hk h.1)]
  refine h.out k fun i o ho e=>?_
  rw [Array.all_eq_true] at hL;obtain ⟨hi,he⟩:=Array.getElem?_eq_some_iff.1 ho
  have:=hL i hi
  rw [he,e] at this;exact absurd (by simpa using this) hk
theorem ZmI{t:Array Value}{k:Nat}{v:Value}(h:t[k]?=some v):t.getD k undef=v:=by
 rw [Array.getD_eq_getD_getElem?,h];rfl
theorem Zez(w:World):(Instr.alloc 37 true (.tuple #[])).run prog w=.ok (.pointer (some ⟨w.heap.size,0,none⟩)) (w.alloc (.cells #[.int .i64 0,.int .i64 0] 37)):=rfl
abbrev ZjN:TypeId:=53
theorem Zc6{w:World}{a b:Nat}{X Y:Array Value}{S T:TypeId}(ha:w.heap[a]?=some (.cells X S (0,0)))(hb:w.heap[b]?=some (.cells Y T (0,0)))(h:S≠T):a≠b:=by
 rintro rfl;rw [ha] at hb;injection hb with hb
 injection hb with _ hb _
 exact h hb
def Ze4(ops:Array Oper):Nat->Nat->Nat->Bool
 |0,j,k=>j==k
 |f+1,j,k=>j==k||match ops[j]? with
  |none=>false
  |some o=>o.after.any fun e=>Region.binds .any e&&Ze4 ops f e.on k
def ZpA(ops:Array Oper)(tg:Nat->Nat):Bool:=(List.range ops.size).all fun j=>Ze4 ops 5 j (tg j)
section
variable {P:Program} {ops:Array Oper} {Q:Exit->Act->World->Prop} {I:(Nat->Bool)->World->Prop} {F:Nat->Value->World->Prop} {tg:Nat->Nat} {ks:List (List Nat)} {D:Nat->Bool} {V:Nat->Value} {W:World}
structure ZbT(ops:Array Oper)(I:(Nat->Bool)->World->Prop)(F:Nat->Value->World->Prop)(tg:Nat->Nat)(ks:List (List Nat))(D:Nat->Bool)(V:Nat->Value)(W:World):Prop where
 bel:I D W
 clo:∀(i:Nat) (o:Oper),ops[i]?=some o->D i=true->∀e∈o.after,Region.binds .any e=true->D e.on=true
 lt:∀i,D i=true->i<ops.size
 fact:∀i,D i=true->(∀j∈ks.getD i [],D j=false)->F i (V (tg i)) W
theorem ZbT.reach(h:ZbT ops I F tg ks D V W):∀(f j k:Nat),Ze4 ops f j k=true->D j=true->D k=true
 |0,j,k,e,hj=>by
  have e:j=k:=by simpa [Ze4] using e
  rw [<-e];exact hj
 |f+1,j,k,e,hj=>by
  unfold Ze4 at e;rw [Bool.or_eq_true] at e;rcases e with e|e
  ·have e:j=k:=by simpa using e
   rw [<-e];exact hj
  ·cases ho:ops[j]? with
   |none=>rw [ho] at e;cases e
   |some o=>
    rw [ho] at e;simp only [Array.any_eq_true'] at e;obtain ⟨x,hx,hb⟩:=e;rw [Bool.and_eq_true] at hb;exact h.reach f x.on k hb.2 (h.clo j o ho hj x hx hb.1)
theorem ZdD{id:Nat}{a:Act}{w:World}{N:Nat}(I:(Nat->Bool)->World->Prop)(F:Nat->Value->World->Prop)(tg:Nat->Nat)(ks:List (List Nat))(hm:P.follows .mixedOrders=true)(hok:ZiD N ops=true)(hN:a.tmps.size=N)(hu:ZpA ops tg=true)(hb:I (fun _=>false) w.drew)(hI0:∀(D:Nat->Bool) (i:Nat) (W W':World),Below W.heap.size W W'->I D W->I (Za3 D i true) W')
  (hmono:∀(j:Nat) (v:Value) (W W':World),Below W.heap.size W W'->F j v W->F j v W')
  (hstep:∀(i:Nat) (o:Oper),ops[i]?=some o->∀(D:Nat->Bool) (V:Nat->Value) (a':Act) (w':World),D i=false->(∀e∈o.after,Region.binds .any e=true->D e.on=true)->Zaq ops a (ZbT ops I F tg ks) D V a' w'->
   Oper.wp P o a' w' (fun a'' w''=>∃v,a''=a'.put o.dst v/\F i (Za3 V i v (tg i)) w''/\(Below w'.heap.size w' w''\/(I (Za3 D i true) w''/\∀j,j≠i->D j=true->(∀k∈ks.getD j [],Za3 D i true k=false)->F j (V (tg j)) w'->F j (V (tg j)) w''))) Q)
  (hend:∀(D:Nat->Bool) (V:Nat->Value) (a':Act) (w':World),(∀i,i<ops.size->D i=true)->Zaq ops a (ZbT ops I F tg ks) D V a' w'->Q .normal a' w'):(Code.region id ops true).wp P Q a w:=by
 refine Zgy hm hok hN ⟨hb,fun i o _ h=>n61_,fun i h=>n61_,fun i h=>n61_⟩ (fun i o ho D V a' w' hD hdep hI=>?_) hend;have h0:=hI.inv;refine Oper.wp_mono ?_ (hstep i o ho D V a' w' hD hdep hI);rintro a'' w'' ⟨v,rfl,hΦ,hw⟩;refine ⟨v,rfl,?_⟩;have hoth:∀j,D j=true->Za3 V i v (tg j)=V (tg j):=fun j hDj=>by
  refine Xk _ _ ?_;intro e;have h1:=List.all_eq_true.1 hu j (List.mem_range.2 (h0.lt j hDj));rw [e] at h1;rw [h0.reach 5 j i h1 hDj] at hD;cases hD
 refine ⟨?_,?_,?_,?_⟩
 ·rcases hw with hw|hw
  ·exact hI0 _ _ _ _ hw h0.bel
  ·exact hw.1
 ·intro j oj hj hDj e he hb
  by_cases hji:j=i
  ·subst hji
   rw [ho] at hj;injection hj with hj;subst hj
   have:=hdep e he hb
   by_cases hei:e.on=j
   ·rw [hei,Jg]
   ·rw [Xk _ _ hei];exact this
  ·rw [Xk _ _ hji] at hDj
   have:=h0.clo j oj hj hDj e he hb
   by_cases hei:e.on=i
   ·rw [hei,Jg]
   ·rw [Xk _ _ hei];exact this
 ·intro j hDj
  by_cases hji:j=i
  ·subst hji;exact (Array.getElem?_eq_some_iff.1 ho).1
  ·rw [Xk _ _ hji] at hDj;exact h0.lt j hDj
 ·intro j hDj hk
  by_cases hji:j=i
  ·subst hji;exact hΦ
  ·rw [Xk _ _ hji] at hDj
   have hal:∀k∈ks.getD j [],D k=false:=fun k hk'=>by
    have:=hk k hk'
    by_cases hki:k=i
    ·subst hki;exact hD
    ·rw [Xk _ _ hki] at this;exact this
   have hf:=h0.fact j hDj hal;rw [hoth j hDj];rcases hw with hw|hw
   ·exact hmono j _ _ _ hw hf
   ·exact hw.2 j hji hDj hk hf
theorem Zev{id:Nat}{a:Act}{w:World}{N:Nat}(wc:World)(F:Nat->Value->World->Prop)(tg:Nat->Nat)(ks:List (List Nat))(hm:P.follows .mixedOrders=true)(hok:ZiD N ops=true)(hN:a.tmps.size=N)(hu:ZpA ops tg=true)(hb:Below wc.heap.size wc w.drew)
  (hmono:∀(j:Nat) (v:Value) (W W':World),Below W.heap.size W W'->F j v W->F j v W')
  (hstep:∀(i:Nat) (o:Oper),ops[i]?=some o->∀(D:Nat->Bool) (V:Nat->Value) (a':Act) (w':World),D i=false->(∀e∈o.after,Region.binds .any e=true->D e.on=true)->Zaq ops a (ZbT ops (fun _ W=>Below wc.heap.size wc W) F tg ks) D V a' w'->
   Oper.wp P o a' w' (fun a'' w''=>∃v,a''=a'.put o.dst v/\F i (Za3 V i v (tg i)) w''/\(Below w'.heap.size w' w''\/(Below wc.heap.size wc w''/\∀j,j≠i->D j=true->(∀k∈ks.getD j [],Za3 D i true k=false)->F j (V (tg j)) w'->F j (V (tg j)) w''))) Q)
  (hend:∀(D:Nat->Bool) (V:Nat->Value) (a':Act) (w':World),(∀i,i<ops.size->D i=true)->Zaq ops a (ZbT ops (fun _ W=>Below wc.heap.size wc W) F tg ks) D V a' w'->Q .normal a' w'):(Code.region id ops true).wp P Q a w:=
 ZdD (fun _ W=>Below wc.heap.size wc W) F tg ks hm hok hN hu hb (fun _ _ _ _ hw h=>h.trans (hw.mono h.size)) hmono hstep hend
end
end Go.Proofs.YtmgmbeipbeknaaaGreatDoor
