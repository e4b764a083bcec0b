import Derived.Test.YtdjkedcpehhmnaaGreatDoorUP4
import Derived.Test.YtdjkedcpehhmnaaGreatDoorUP41
import Derived.Test.YtdjkedcpehhmnaaGreatDoorUP44
namespace Go.Proofs.YtdjkedcpehhmnaaGreatDoor
open Go Go.RowKit
set_option linter.unusedVariables false
set_option linter.unusedSimpArgs false
set_option maxRecDepth 100000
def updF {α : Type} (f : Nat → α) (i : Nat) (v : α) : Nat → α := fun j => if j = i then v else f j
theorem updF_at {α : Type} (f : Nat → α) (i : Nat) (v : α) : updF f i v i = v := by unfold updF; rw [if_pos rfl]
theorem updF_ne {α : Type} (f : Nat → α) {i j : Nat} (v : α) (h : j ≠ i) : updF f i v j = f j := by unfold updF; rw [if_neg h]
def invOk (N : Nat) (ops : Array Oper) : Bool :=
 (List.range ops.size).all fun i => match ops[i]? with
  | none => false
  | some o => o.guard.isNone && ((o.after.all fun e => !Region.binds .any e || decide (e.on < i)) && ((match o.dst with | some d => decide (d < N) | none => true) && ((List.range ops.size).all fun j => i == j || (o.dst.isNone || !((ops[j]?).bind (·.dst) == o.dst)))))
section
variable {P : Program} {ops : Array Oper} {Q : Exit → Act → World → Prop}
theorem invOk_spec {N : Nat} (h : invOk N ops = true) {i : Nat} {o : Oper} (ho : ops[i]? = some o) : o.guard = none ∧ (∀ e ∈ o.after, Region.binds .any e = true → e.on < i) ∧ (∀ d, o.dst = some d → d < N) ∧ ∀ j oj d, ops[j]? = some oj → o.dst = some d → oj.dst = some d → i = j := by
 have hi : i < ops.size := (Array.getElem?_eq_some_iff.1 ho).1
 have h1 := List.all_eq_true.1 h i (List.mem_range.2 hi)
 rw [ho] at h1
 simp only [Bool.and_eq_true] at h1
 obtain ⟨a1, a2, a3, a4⟩ := h1
 refine ⟨by simpa using a1, fun e he hb => ?_, fun d hd => ?_, fun j oj d hj hd hd2 => ?_⟩
 ·rw [Array.all_eq_true'] at a2
  have := a2 e he
  rw [hb] at this
  exact of_decide_eq_true (by simpa using this)
 ·rw [hd] at a3; exact of_decide_eq_true a3
 ·have hjl : j < ops.size := (Array.getElem?_eq_some_iff.1 hj).1
  have h2 := List.all_eq_true.1 a4 j (List.mem_range.2 hjl)
  rw [hj, hd] at h2
  simp [hd2] at h2
  exact h2
structure InvAt (ops : Array Oper) (a0 : Act) (Ψ : (Nat → Bool) → (Nat → Value) → World → Prop) (D : Nat → Bool) (V : Nat → Value) (a : Act) (w : World) : Prop where
 tsz : a.tmps.size = a0.tmps.size
 dfr : a.defers = a0.defers
 out : ∀ k, (∀ (i : Nat) (o : Oper), ops[i]? = some o → o.dst ≠ some k) → a.tmps[k]? = a0.tmps[k]?
 slot : ∀ (i : Nat) (o : Oper) (d : Nat), ops[i]? = some o → o.dst = some d → D i = true → a.tmps[d]? = some (V i)
 inv : Ψ D V w
theorem inv_any {a0 : Act} {N : Nat} {Ψ : (Nat → Bool) → (Nat → Value) → World → Prop} (hok : invOk N ops = true) (hN : a0.tmps.size = N)
  (hstep : ∀ (i : Nat) (o : Oper), ops[i]? = some o → ∀ (D : Nat → Bool) (V : Nat → Value) (a : Act) (w : World), D i = false → (∀ e ∈ o.after, Region.binds .any e = true → D e.on = true) → InvAt ops a0 Ψ D V a w →
   Oper.wp P o a w (fun a' w' => ∃ v, a' = a.put o.dst v ∧ Ψ (updF D i true) (updF V i v) w') Q)
  (hend : ∀ (D : Nat → Bool) (V : Nat → Value) (a : Act) (w : World), (∀ i, i < ops.size → D i = true) → InvAt ops a0 Ψ D V a w → Q .normal a w) :
  ∀ (f : Nat) (L : List Nat) (b : Array Bool) (V : Nat → Value) (a : Act) (w : World), L.length ≤ f → b.size = ops.size → (∀ i, i < ops.size → b.getD i false = false → i ∈ L) → InvAt ops a0 Ψ (fun i => b.getD i false) V a w → wpAny P .any ops Q f b a w := by
 have hall : ∀ (b : Array Bool), b.size = ops.size → Region.ready .any ops b = [] → ∀ i, i < ops.size → b.getD i false = true := by
  intro b hb hr i
  induction i using Nat.strongRecOn with
  | _ i ih =>
   intro hi
   cases hq : b.getD i false with
   | true => rfl
   | false =>
    have hm : i ∈ Region.ready .any ops b := by
     refine mem_ready.2 ⟨?_, _, Array.getElem?_eq_getElem hi, fun e he hb => ?_⟩
     ·simp [Array.getD, hb, hi] at hq ⊢; exact hq
     ·have := (invOk_spec hok (Array.getElem?_eq_getElem hi)).2.1 e he hb
      exact ih _ this (by omega)
    rw [hr] at hm; cases hm
 intro f
 induction f with
 | zero =>
  intro L b V a w hL hb hm hI
  have hL0 : L = [] := List.eq_nil_of_length_eq_zero (by omega)
  subst hL0
  have ha : ∀ i, i < ops.size → b.getD i false = true := fun i hi => by
   cases hq : b.getD i false with
   | true => rfl
   | false => have := hm i hi hq; cases this
  refine ⟨?_, hend _ V a w ha hI⟩
  rw [List.eq_nil_iff_forall_not_mem]
  intro i hi
  obtain ⟨h1, o, ho, _⟩ := mem_ready.1 hi
  have hil : i < ops.size := (Array.getElem?_eq_some_iff.1 ho).1
  have := ha i hil
  simp [Array.getD, hb, hil] at h1 this
  rw [this] at h1; cases h1
 | succ f ih =>
  intro L b V a w hL hb hm hI
  refine ⟨fun hr => hend _ V a w (hall b hb hr) hI, fun i hi => ?_⟩
  obtain ⟨h1, o, ho, hdep⟩ := mem_ready.1 hi
  have hil : i < ops.size := (Array.getElem?_eq_some_iff.1 ho).1
  have hi0 : b.getD i false = false := by
   simp [Array.getD, hb, hil] at h1 ⊢; exact h1
  obtain ⟨hg, _, hd, hinj⟩ := invOk_spec hok ho
  have hw := hstep i o ho (fun i => b.getD i false) V a w hi0 hdep hI
  unfold wpOp
  simp only [ho]
  rw [if_pos (by unfold Region.wanted; rw [hg])]
  refine .inl (Oper.wp_mono ?_ hw)
  rintro a' w' ⟨v, rfl, hΨ⟩
  have hset : ∀ j, (b.setIfInBounds i true).getD j false = updF (fun i => b.getD i false) i true j := by
   intro j
   by_cases e : j = i
   ·subst e; rw [updF_at]; simp [Array.getD, hb, hil]
   ·rw [updF_ne _ _ e, getD_set_ne false (Ne.symm e)]
  refine ih (L.erase i) _ (updF V i v) _ w' ?_ (by simp [hb]) (fun j hj hq => ?_) ?_
  ·have := List.length_erase_of_mem (hm i hil hi0)
   have h0 : 0 < L.length := List.length_pos_of_mem (hm i hil hi0)
   omega
  ·rw [hset j] at hq
   by_cases e : j = i
   ·subst e; rw [updF_at] at hq; cases hq
   ·rw [updF_ne _ _ e] at hq
    exact (List.mem_erase_of_ne e).2 (hm j hj hq)
  ·have hfun : (fun j => (b.setIfInBounds i true).getD j false) = updF (fun i => b.getD i false) i true := funext hset
   rw [hfun]
   refine ⟨?_, ?_, fun k hk => ?_, fun j oj d hj hdj hD => ?_, hΨ⟩
   ·rw [← hI.tsz]; cases o.dst <;> simp [Act.put]
   ·rw [← hI.dfr]; cases o.dst <;> simp [Act.put]
   ·have h := hk i o ho
    rw [← hI.out k hk]
    cases ed : o.dst with
    | none => rfl
    | some d => rw [ed] at h; exact put_ne v (fun e => h (by rw [e]))
   ·by_cases e : j = i
    ·subst e
     rw [ho] at hj; injection hj with hj; subst hj
     rw [hdj, updF_at]
     exact put_self v (by rw [hI.tsz, hN]; exact hd d hdj)
    ·rw [updF_ne _ _ e] at hD ⊢
     rw [← hI.slot j oj d hj hdj hD]
     cases ed : o.dst with
     | none => rfl
     | some d2 => exact put_ne v (fun e2 => e (hinj j oj d2 hj ed (by rw [hdj, e2])).symm)
theorem wp_region_inv {id : Nat} {a : Act} {w : World} {N : Nat} {Ψ : (Nat → Bool) → (Nat → Value) → World → Prop} (hm : P.follows .mixedOrders = true) (hok : invOk N ops = true) (hN : a.tmps.size = N) (h0 : Ψ (fun _ => false) (fun _ => undef) w.drew)
  (hstep : ∀ (i : Nat) (o : Oper), ops[i]? = some o → ∀ (D : Nat → Bool) (V : Nat → Value) (a' : Act) (w' : World), D i = false → (∀ e ∈ o.after, Region.binds .any e = true → D e.on = true) → InvAt ops a Ψ D V a' w' →
   Oper.wp P o a' w' (fun a'' w'' => ∃ v, a'' = a'.put o.dst v ∧ Ψ (updF D i true) (updF V i v) w'') Q)
  (hend : ∀ (D : Nat → Bool) (V : Nat → Value) (a' : Act) (w' : World), (∀ i, i < ops.size → D i = true) → InvAt ops a Ψ D V a' w' → Q .normal a' w') : (Code.region id ops true).wp P Q a w := by
 refine wp_region_any hm ?_
 refine inv_any hok hN hstep hend ops.size (List.range ops.size) _ (fun _ => undef) a _ (by simp) (by simp) (fun i hi _ => List.mem_range.2 hi) ?_
 have hf : (fun i => (Array.replicate ops.size false).getD i false) = fun _ => false := by
  funext i
  simp only [Array.getD]
  split <;> simp
 rw [hf]
 exact ⟨rfl, rfl, fun _ _ => rfl, fun _ _ _ _ _ h => (by cases h), h0⟩
end
def rowTys : List TypeId := [9, 3, 54, 58, 56]
theorem own_typed {w : World} {B e k n : Nat} {v : Value} {xs : List Value} (h : w.ownsRow B e k v n xs) (g : Nat) (hg : v.ownBlock = some g) : ∃ cur, w.heap[g]? = some (.cells cur e (0, 0)) := by
 rcases h.2 with ⟨rfl, _⟩ | ⟨g', cap, cur, rfl, _, h3, _⟩
 ·cases hg
 ·injection hg with hg
  exact ⟨cur, by rw [← hg]; exact h3⟩
theorem UcAt.typed {w : World} {F : Nat → Prop} : ∀ {c : UC} {v : Value}, UcAt w F c v → UcAt w (fun g => ∃ cur e, w.heap[g]? = some (.cells cur e (0, 0)) ∧ e ∈ rowTys) c v
 | .s _, _, h => h
 | .n _, _, h => h
 | .b _, _, h => h
 | .ss l, v, h => ⟨h.1, fun g hg => let ⟨cur, e⟩ := own_typed h.1 g hg; ⟨cur, _, e, by decide⟩⟩
 | .ns l, v, h => ⟨h.1, fun g hg => let ⟨cur, e⟩ := own_typed h.1 g hg; ⟨cur, _, e, by decide⟩⟩
 | .rs l, v, h => ⟨h.1, fun g hg => let ⟨cur, e⟩ := own_typed h.1 g hg; ⟨cur, _, e, by decide⟩⟩
 | .ps l, v, h => ⟨h.1, fun g hg => let ⟨cur, e⟩ := own_typed h.1 g hg; ⟨cur, _, e, by decide⟩⟩
 | .cs l, v, h => by
  obtain ⟨xs, a, b, c, d⟩ := h
  refine ⟨xs, a, b, fun g hg => let ⟨cur, e⟩ := own_typed b g hg; ⟨cur, _, e, by decide⟩, fun i h1 h2 => ?_⟩
  have q := d i h1 h2
  exact ⟨q.dash, q.wn, q.row, fun g hg => let ⟨cur, e⟩ := own_typed q.row g hg; ⟨cur, _, e, by decide⟩⟩
theorem UnitRd.frT {w w' : World} {cs X : Array Value} {u : UV} {b : Nat} {T : TypeId} (h : UnitRd w cs u) (hb : w.heap[b]? = some (.cells X T (0, 0))) (hT : T ∉ rowTys) (hf : Fr (fun k => k = b) w w') : UnitRd w' cs u :=
 ⟨h.size, fun j v hv => ((h.fld j v hv).typed.fr hf (by
  rintro g ⟨cur, e, h1, h2⟩ rfl
  rw [hb] at h1
  injection h1 with h1
  injection h1 with _ h1 _
  exact hT (h1 ▸ h2))).mono (fun _ _ => trivial)⟩
theorem oper_val {P : Program} {K : Act → World → Prop} {Q : Exit → Act → World → Prop} {a : Act} {w w' : World} {o : Oper} (v : Value) (hr : (execOp a.eval o).run P w = .ok (.value v) w') (h : K (a.put o.dst v) w') : Oper.wp P o a w K Q := by
 unfold Oper.wp
 rw [hr, Oper.upon_value]
 exact h
theorem oper_append {P : Program} {K : Act → World → Prop} {Q : Exit → Act → World → Prop} {a : Act} {w w' : World} {o : Oper} (s x : Operand) (t : TypeId)
  (ho : o.op = .call { callee := .builtin .append, args := #[s, x], argTypes := #[t, t] }) {v xv v' : Value} (hr : (Builtin.append_ #[t, t] o.type #[v, xv]).run P w = .ok v' w') (hs : a.eval s = v) (hx : a.eval x = xv)
  (h : K (a.put o.dst v') w') : Oper.wp P o a w K Q := by
 unfold Oper.wp execOp
 simp only [ho, resolve, invoke, builtin, Sem.run_bind, Sem.run_pure, Result.andThen_ok, List.map_toArray, List.map_cons, List.map_nil, hs, hx, hr]
 exact h
theorem oper_enter {P : Program} {K : Act → World → Prop} {Q : Exit → Act → World → Prop} {a : Act} {w : World} {o : Oper} {R : Ending → World → Prop} (f : FuncId) (args : Array Value) (hx : (execOp a.eval o).run P w = .ok (.enter f args) w) (hc : Calls P f args w R)
  (h : ∀ e w', R e w' → ∃ v, e = .returned v ∧ K (a.put o.dst v) w') : Oper.wp P o a w K Q := by
 unfold Oper.wp
 rw [hx, Oper.upon_enter]
 exact hc.mono (fun e w' q => by obtain ⟨v, rfl, k⟩ := h e w' q; exact k)
theorem InvAt.at {ops : Array Oper} {a0 : Act} {Ψ : (Nat → Bool) → (Nat → Value) → World → Prop} {D : Nat → Bool} {V : Nat → Value} {a : Act} {w : World} (h : InvAt ops a0 Ψ D V a w) (k : Nat) (hk : (ops.all fun o => !(o.dst == some k)) = true) : a.tmps[k]? = a0.tmps[k]? := by
 refine h.out k fun i o ho e => ?_
 rw [Array.all_eq_true] at hk
 obtain ⟨hi, he⟩ := Array.getElem?_eq_some_iff.1 ho
 have := hk i hi
 rw [he, e] at this
 simp at this
theorem foldl_set {f : Nat → Value} : ∀ (L : List Nat) (t : Array Value), (L.foldl (fun t k => t.setIfInBounds k (f k)) t).size = t.size ∧ ∀ k, (L.foldl (fun t k => t.setIfInBounds k (f k)) t)[k]? = if k ∈ L ∧ k < t.size then some (f k) else t[k]?
 | [], t => ⟨rfl, fun k => by simp⟩
 | x :: L, t => by
  obtain ⟨h1, h2⟩ := foldl_set (f := f) L (t.setIfInBounds x (f x))
  refine ⟨by rw [List.foldl_cons, h1]; simp, fun k => ?_⟩
  rw [List.foldl_cons, h2 k]
  simp only [Array.size_setIfInBounds]
  by_cases hk : k ∈ L ∧ k < t.size
  ·rw [if_pos hk, if_pos ⟨List.mem_cons_of_mem _ hk.1, hk.2⟩]
  ·rw [if_neg hk]
   by_cases hx : k = x
   ·subst hx
    by_cases hl : k < t.size
    ·rw [if_pos ⟨by simp, hl⟩, Array.getElem?_setIfInBounds_self_of_lt hl]
    ·rw [if_neg (fun h => hl h.2), Array.getElem?_eq_none (by simp; omega), Array.getElem?_eq_none (by omega)]
   ·rw [Array.getElem?_setIfInBounds_ne (Ne.symm hx)]
    by_cases hm : k ∈ x :: L ∧ k < t.size
    ·exact absurd ⟨(List.mem_cons.1 hm.1).resolve_left hx, hm.2⟩ hk
    ·rw [if_neg hm]
theorem InvAt.form {ops : Array Oper} {a0 : Act} {Ψ : (Nat → Bool) → (Nat → Value) → World → Prop} {D : Nat → Bool} {V : Nat → Value} {a : Act} {w : World} (h : InvAt ops a0 Ψ D V a w) (L : List Nat)
  (hL : (ops.all fun o => match o.dst with | some d => L.contains d | none => true) = true) : a = ⟨L.foldl (fun t k => t.setIfInBounds k (a.tmps.getD k undef)) a0.tmps, a0.defers⟩ := by
 obtain ⟨t, d⟩ := a
 have hd : d = a0.defers := h.dfr
 subst hd
 congr 1
 obtain ⟨h1, h2⟩ := foldl_set (f := fun k => t.getD k undef) L a0.tmps
 apply Array.ext_getElem?
 intro k
 rw [h2 k]
 have hs : t.size = a0.tmps.size := h.tsz
 by_cases hk : k ∈ L
 ·by_cases hl : k < a0.tmps.size
  ·rw [if_pos ⟨hk, hl⟩, Array.getElem?_eq_getElem (by omega)]
   simp [Array.getD, show k < t.size by omega]
  ·rw [if_neg (fun h => hl h.2), Array.getElem?_eq_none (by omega), Array.getElem?_eq_none (by omega)]
 ·rw [if_neg (fun h => hk h.1)]
  refine h.out k fun i o ho e => ?_
  rw [Array.all_eq_true] at hL
  obtain ⟨hi, he⟩ := Array.getElem?_eq_some_iff.1 ho
  have := hL i hi
  rw [he, e] at this
  exact hk (by simpa using this)
theorem getD_of {t : Array Value} {k : Nat} {v : Value} (h : t[k]? = some v) : t.getD k undef = v := by
 rw [Array.getD_eq_getD_getElem?, h]; rfl
theorem run_alloc_fault (w : World) : (Instr.alloc 33 true (.tuple #[])).run Tryz.prog w = .ok (.pointer (some ⟨w.heap.size, 0, none⟩)) (w.alloc (.cells #[.int .i64 0, .int .i64 0] 33)) := rfl
abbrev LineT : TypeId := 43
structure Lst (nm : Str) (l : List Ln) (e : Ln) (wc : World) (u2 : UV) (c2 a2 : Int) (oa : Option Addr) (ca : Nat) (D : Nat → Bool) (V : Nat → Value) (W : World) : Prop where
 bel : Below wc.heap.size wc W
 c65 : D 6 = true → D 5 = true
 c126 : D 12 = true → D 6 = true
 c1312 : D 13 = true → D 12 = true
 c76 : D 7 = true → D 6 = true
 c87 : D 8 = true → D 7 = true
 c1210 : D 12 = true → D 10 = true
 c1311 : D 13 = true → D 11 = true
 f0 : D 0 = true → V 0 = .string ⟨nm.toArray⟩
 f1 : D 1 = true → V 1 = .slice oa l.length ca
 f2 : D 2 = true → D 5 = false → W.ownsRow wc.heap.size LineT 4 (V 2) l.length (flatL encLn l)
 f3 : D 3 = true → V 3 = .agg (encLn e).toArray
 f4 : D 4 = true → D 5 = false → ∃ b, V 4 = .slice (some ⟨b, 0, none⟩) 1 1 ∧ W.heap[b]? = some (.cells (encLn e).toArray LineT (0, 0))
 f5 : D 5 = true → D 6 = false → ∃ o cap, V 5 = .slice o (l.length + 1) cap ∧ RowRd encLn 4 W o (l ++ [e])
 f6 : D 6 = true → ∃ cs, V 6 = .tuple #[.agg cs, .agg #[.int .i64 c2, .int .i64 a2]] ∧ UnitRd W cs u2
 f7 : D 7 = true → V 7 = V 6
 f8 : D 8 = true → ∃ cs, V 6 = .tuple #[.agg cs, .agg #[.int .i64 c2, .int .i64 a2]] ∧ V 8 = .agg cs
 f9 : D 9 = true → V 9 = .agg #[.int .i64 c2, .int .i64 a2]
 f10 : D 10 = true → ∃ b X, V 10 = .pointer (some ⟨b, 0, none⟩) ∧ wc.heap.size ≤ b ∧ W.heap[b]? = some (.cells X 30 (0, 0)) ∧ (D 12 = false → X = unitZero) ∧ (D 12 = true → V 6 = .tuple #[.agg X, .agg #[.int .i64 c2, .int .i64 a2]])
 f11 : D 11 = true → ∃ b X, V 11 = .pointer (some ⟨b, 0, none⟩) ∧ wc.heap.size ≤ b ∧ W.heap[b]? = some (.cells X 33 (0, 0)) ∧ (D 13 = false → X = #[.int .i64 0, .int .i64 0]) ∧ (D 13 = true → X = #[.int .i64 c2, .int .i64 a2])
section
variable {nm : Str} {l : List Ln} {e : Ln} {wc : World} {u2 : UV} {c2 a2 : Int} {oa : Option Addr} {ca : Nat} {D : Nat → Bool} {V : Nat → Value} {W : World}
theorem Lst.start (hb : Below wc.heap.size wc W) : Lst nm l e wc u2 c2 a2 oa ca (fun _ => false) (fun _ => undef) W := by
 constructor
 ·exact hb
 all_goals (intro h; cases h)
theorem Lst.below {W' : World} (h : Lst nm l e wc u2 c2 a2 oa ca D V W) (hb : Below W.heap.size W W') : Lst nm l e wc u2 c2 a2 oa ca D V W' where
 bel := h.bel.trans (hb.mono h.bel.size)
 c65 := h.c65
 c126 := h.c126
 c1312 := h.c1312
 c76 := h.c76
 c87 := h.c87
 c1210 := h.c1210
 c1311 := h.c1311
 f0 := h.f0
 f1 := h.f1
 f2 := fun d d5 => own_keeps (h.f2 d d5) hb
 f3 := h.f3
 f4 := fun d d5 => let ⟨b, x, y⟩ := h.f4 d d5; ⟨b, x, heap_below y hb⟩
 f5 := fun d d6 => let ⟨o, cap, x, y⟩ := h.f5 d d6; ⟨o, cap, x, y.below hb⟩
 f6 := fun d => let ⟨cs, x, y⟩ := h.f6 d; ⟨cs, x, y.below hb⟩
 f7 := h.f7
 f8 := h.f8
 f9 := h.f9
 f10 := fun d => let ⟨b, X, p, q, r, s⟩ := h.f10 d; ⟨b, X, p, q, heap_below r hb, s⟩
 f11 := fun d => let ⟨b, X, p, q, r, s⟩ := h.f11 d; ⟨b, X, p, q, heap_below r hb, s⟩
theorem Lst.set0 (h : Lst nm l e wc u2 c2 a2 oa ca D V W) (V0 : Value) (hn : V0 = .string ⟨nm.toArray⟩) : Lst nm l e wc u2 c2 a2 oa ca (updF D 0 true) (updF V 0 V0) W where
 bel := h.bel
 c65 := fun d => h.c65 d
 c126 := fun d => h.c126 d
 c1312 := fun d => h.c1312 d
 c76 := fun d => h.c76 d
 c87 := fun d => h.c87 d
 c1210 := fun d => h.c1210 d
 c1311 := fun d => h.c1311 d
 f0 := fun _ => hn
 f1 := fun d => h.f1 d
 f2 := fun d d2 => h.f2 d d2
 f3 := fun d => h.f3 d
 f4 := fun d d2 => h.f4 d d2
 f5 := fun d d2 => h.f5 d d2
 f6 := fun d => h.f6 d
 f7 := fun d => h.f7 d
 f8 := fun d => h.f8 d
 f9 := fun d => h.f9 d
 f10 := fun d => h.f10 d
 f11 := fun d => h.f11 d
theorem Lst.set1 (h : Lst nm l e wc u2 c2 a2 oa ca D V W) (V0 : Value) (hn : V0 = .slice oa l.length ca) : Lst nm l e wc u2 c2 a2 oa ca (updF D 1 true) (updF V 1 V0) W where
 bel := h.bel
 c65 := fun d => h.c65 d
 c126 := fun d => h.c126 d
 c1312 := fun d => h.c1312 d
 c76 := fun d => h.c76 d
 c87 := fun d => h.c87 d
 c1210 := fun d => h.c1210 d
 c1311 := fun d => h.c1311 d
 f0 := fun d => h.f0 d
 f1 := fun _ => hn
 f2 := fun d d2 => h.f2 d d2
 f3 := fun d => h.f3 d
 f4 := fun d d2 => h.f4 d d2
 f5 := fun d d2 => h.f5 d d2
 f6 := fun d => h.f6 d
 f7 := fun d => h.f7 d
 f8 := fun d => h.f8 d
 f9 := fun d => h.f9 d
 f10 := fun d => h.f10 d
 f11 := fun d => h.f11 d
theorem Lst.set2 (h : Lst nm l e wc u2 c2 a2 oa ca D V W) (V0 : Value) (hn : W.ownsRow wc.heap.size LineT 4 V0 l.length (flatL encLn l)) : Lst nm l e wc u2 c2 a2 oa ca (updF D 2 true) (updF V 2 V0) W where
 bel := h.bel
 c65 := fun d => h.c65 d
 c126 := fun d => h.c126 d
 c1312 := fun d => h.c1312 d
 c76 := fun d => h.c76 d
 c87 := fun d => h.c87 d
 c1210 := fun d => h.c1210 d
 c1311 := fun d => h.c1311 d
 f0 := fun d => h.f0 d
 f1 := fun d => h.f1 d
 f2 := fun _ _ => hn
 f3 := fun d => h.f3 d
 f4 := fun d d2 => h.f4 d d2
 f5 := fun d d2 => h.f5 d d2
 f6 := fun d => h.f6 d
 f7 := fun d => h.f7 d
 f8 := fun d => h.f8 d
 f9 := fun d => h.f9 d
 f10 := fun d => h.f10 d
 f11 := fun d => h.f11 d
theorem Lst.set3 (h : Lst nm l e wc u2 c2 a2 oa ca D V W) (V0 : Value) (hn : V0 = .agg (encLn e).toArray) : Lst nm l e wc u2 c2 a2 oa ca (updF D 3 true) (updF V 3 V0) W where
 bel := h.bel
 c65 := fun d => h.c65 d
 c126 := fun d => h.c126 d
 c1312 := fun d => h.c1312 d
 c76 := fun d => h.c76 d
 c87 := fun d => h.c87 d
 c1210 := fun d => h.c1210 d
 c1311 := fun d => h.c1311 d
 f0 := fun d => h.f0 d
 f1 := fun d => h.f1 d
 f2 := fun d d2 => h.f2 d d2
 f3 := fun _ => hn
 f4 := fun d d2 => h.f4 d d2
 f5 := fun d d2 => h.f5 d d2
 f6 := fun d => h.f6 d
 f7 := fun d => h.f7 d
 f8 := fun d => h.f8 d
 f9 := fun d => h.f9 d
 f10 := fun d => h.f10 d
 f11 := fun d => h.f11 d
theorem Lst.set4 (h : Lst nm l e wc u2 c2 a2 oa ca D V W) (V0 : Value) (hn : ∃ b, V0 = .slice (some ⟨b, 0, none⟩) 1 1 ∧ W.heap[b]? = some (.cells (encLn e).toArray LineT (0, 0))) : Lst nm l e wc u2 c2 a2 oa ca (updF D 4 true) (updF V 4 V0) W where
 bel := h.bel
 c65 := fun d => h.c65 d
 c126 := fun d => h.c126 d
 c1312 := fun d => h.c1312 d
 c76 := fun d => h.c76 d
 c87 := fun d => h.c87 d
 c1210 := fun d => h.c1210 d
 c1311 := fun d => h.c1311 d
 f0 := fun d => h.f0 d
 f1 := fun d => h.f1 d
 f2 := fun d d2 => h.f2 d d2
 f3 := fun d => h.f3 d
 f4 := fun _ _ => hn
 f5 := fun d d2 => h.f5 d d2
 f6 := fun d => h.f6 d
 f7 := fun d => h.f7 d
 f8 := fun d => h.f8 d
 f9 := fun d => h.f9 d
 f10 := fun d => h.f10 d
 f11 := fun d => h.f11 d
theorem Lst.set6 (h : Lst nm l e wc u2 c2 a2 oa ca D V W) (V0 : Value) (hn : ∃ cs, V0 = .tuple #[.agg cs, .agg #[.int .i64 c2, .int .i64 a2]] ∧ UnitRd W cs u2) (h5 : D 5 = true) (h7 : D 7 = false) (h8 : D 8 = false) (h12 : D 12 = false) : Lst nm l e wc u2 c2 a2 oa ca (updF D 6 true) (updF V 6 V0) W where
 bel := h.bel
 c65 := fun _ => h5
 c126 := fun _ => rfl
 c1312 := fun d => h.c1312 d
 c76 := fun _ => rfl
 c87 := fun d => h.c87 d
 c1210 := fun d => h.c1210 d
 c1311 := fun d => h.c1311 d
 f0 := fun d => h.f0 d
 f1 := fun d => h.f1 d
 f2 := fun d d2 => h.f2 d d2
 f3 := fun d => h.f3 d
 f4 := fun d d2 => h.f4 d d2
 f5 := fun _ d => Bool.noConfusion (show true = false from d)
 f6 := fun _ => hn
 f7 := fun d => Bool.noConfusion (h7.symm.trans (show D 7 = true from d))
 f8 := fun d => Bool.noConfusion (h8.symm.trans (show D 8 = true from d))
 f9 := fun d => h.f9 d
 f10 := fun d => let ⟨b, X, p, q, r, s, t⟩ := h.f10 d; ⟨b, X, p, q, r, s, fun d => Bool.noConfusion (h12.symm.trans (show D 12 = true from d))⟩
 f11 := fun d => h.f11 d
theorem Lst.set7 (h : Lst nm l e wc u2 c2 a2 oa ca D V W) (V0 : Value) (hn : V0 = V 6) (h6 : D 6 = true) : Lst nm l e wc u2 c2 a2 oa ca (updF D 7 true) (updF V 7 V0) W where
 bel := h.bel
 c65 := fun d => h.c65 d
 c126 := fun d => h.c126 d
 c1312 := fun d => h.c1312 d
 c76 := fun _ => h6
 c87 := fun _ => rfl
 c1210 := fun d => h.c1210 d
 c1311 := fun d => h.c1311 d
 f0 := fun d => h.f0 d
 f1 := fun d => h.f1 d
 f2 := fun d d2 => h.f2 d d2
 f3 := fun d => h.f3 d
 f4 := fun d d2 => h.f4 d d2
 f5 := fun d d2 => h.f5 d d2
 f6 := fun d => h.f6 d
 f7 := fun _ => hn
 f8 := fun d => h.f8 d
 f9 := fun d => h.f9 d
 f10 := fun d => h.f10 d
 f11 := fun d => h.f11 d
theorem Lst.set8 (h : Lst nm l e wc u2 c2 a2 oa ca D V W) (V0 : Value) (hn : ∃ cs, V 6 = .tuple #[.agg cs, .agg #[.int .i64 c2, .int .i64 a2]] ∧ V0 = .agg cs) (h7 : D 7 = true) : Lst nm l e wc u2 c2 a2 oa ca (updF D 8 true) (updF V 8 V0) W where
 bel := h.bel
 c65 := fun d => h.c65 d
 c126 := fun d => h.c126 d
 c1312 := fun d => h.c1312 d
 c76 := fun d => h.c76 d
 c87 := fun _ => h7
 c1210 := fun d => h.c1210 d
 c1311 := fun d => h.c1311 d
 f0 := fun d => h.f0 d
 f1 := fun d => h.f1 d
 f2 := fun d d2 => h.f2 d d2
 f3 := fun d => h.f3 d
 f4 := fun d d2 => h.f4 d d2
 f5 := fun d d2 => h.f5 d d2
 f6 := fun d => h.f6 d
 f7 := fun d => h.f7 d
 f8 := fun _ => hn
 f9 := fun d => h.f9 d
 f10 := fun d => h.f10 d
 f11 := fun d => h.f11 d
theorem Lst.set9 (h : Lst nm l e wc u2 c2 a2 oa ca D V W) (V0 : Value) (hn : V0 = .agg #[.int .i64 c2, .int .i64 a2]) : Lst nm l e wc u2 c2 a2 oa ca (updF D 9 true) (updF V 9 V0) W where
 bel := h.bel
 c65 := fun d => h.c65 d
 c126 := fun d => h.c126 d
 c1312 := fun d => h.c1312 d
 c76 := fun d => h.c76 d
 c87 := fun d => h.c87 d
 c1210 := fun d => h.c1210 d
 c1311 := fun d => h.c1311 d
 f0 := fun d => h.f0 d
 f1 := fun d => h.f1 d
 f2 := fun d d2 => h.f2 d d2
 f3 := fun d => h.f3 d
 f4 := fun d d2 => h.f4 d d2
 f5 := fun d d2 => h.f5 d d2
 f6 := fun d => h.f6 d
 f7 := fun d => h.f7 d
 f8 := fun d => h.f8 d
 f9 := fun _ => hn
 f10 := fun d => h.f10 d
 f11 := fun d => h.f11 d
theorem Lst.set10 (h : Lst nm l e wc u2 c2 a2 oa ca D V W) (V0 : Value) (hn : ∃ b, V0 = .pointer (some ⟨b, 0, none⟩) ∧ wc.heap.size ≤ b ∧ W.heap[b]? = some (.cells unitZero 30 (0, 0))) (h12 : D 12 = false) : Lst nm l e wc u2 c2 a2 oa ca (updF D 10 true) (updF V 10 V0) W where
 bel := h.bel
 c65 := fun d => h.c65 d
 c126 := fun d => h.c126 d
 c1312 := fun d => h.c1312 d
 c76 := fun d => h.c76 d
 c87 := fun d => h.c87 d
 c1210 := fun _ => rfl
 c1311 := fun d => h.c1311 d
 f0 := fun d => h.f0 d
 f1 := fun d => h.f1 d
 f2 := fun d d2 => h.f2 d d2
 f3 := fun d => h.f3 d
 f4 := fun d d2 => h.f4 d d2
 f5 := fun d d2 => h.f5 d d2
 f6 := fun d => h.f6 d
 f7 := fun d => h.f7 d
 f8 := fun d => h.f8 d
 f9 := fun d => h.f9 d
 f10 := fun _ => let ⟨b, p, q, r⟩ := hn; ⟨b, unitZero, p, q, r, fun _ => rfl, fun d => Bool.noConfusion (h12.symm.trans (show D 12 = true from d))⟩
 f11 := fun d => h.f11 d
theorem Lst.set11 (h : Lst nm l e wc u2 c2 a2 oa ca D V W) (V0 : Value) (hn : ∃ b, V0 = .pointer (some ⟨b, 0, none⟩) ∧ wc.heap.size ≤ b ∧ W.heap[b]? = some (.cells #[.int .i64 0, .int .i64 0] 33 (0, 0))) (h13 : D 13 = false) : Lst nm l e wc u2 c2 a2 oa ca (updF D 11 true) (updF V 11 V0) W where
 bel := h.bel
 c65 := fun d => h.c65 d
 c126 := fun d => h.c126 d
 c1312 := fun d => h.c1312 d
 c76 := fun d => h.c76 d
 c87 := fun d => h.c87 d
 c1210 := fun d => h.c1210 d
 c1311 := fun _ => rfl
 f0 := fun d => h.f0 d
 f1 := fun d => h.f1 d
 f2 := fun d d2 => h.f2 d d2
 f3 := fun d => h.f3 d
 f4 := fun d d2 => h.f4 d d2
 f5 := fun d d2 => h.f5 d d2
 f6 := fun d => h.f6 d
 f7 := fun d => h.f7 d
 f8 := fun d => h.f8 d
 f9 := fun d => h.f9 d
 f10 := fun d => h.f10 d
 f11 := fun _ => let ⟨b, p, q, r⟩ := hn; ⟨b, _, p, q, r, fun _ => rfl, fun d => Bool.noConfusion (h13.symm.trans (show D 13 = true from d))⟩
theorem ne_types {w : World} {a b : Nat} {X Y : Array Value} {S T : TypeId} (ha : w.heap[a]? = some (.cells X S (0, 0))) (hb : w.heap[b]? = some (.cells Y T (0, 0))) (h : S ≠ T) : a ≠ b := by
 rintro rfl
 rw [ha] at hb
 injection hb with hb
 injection hb with _ hb _
 exact h hb
theorem Lst.app {W' : World} (h : Lst nm l e wc u2 c2 a2 oa ca D V W) (V0 : Value) (h2 : D 2 = true) (h5 : D 5 = false) (hf : Fr (fun k => (V 2).ownBlock = some k) W W') (hn : ∃ o cap, V0 = .slice o (l.length + 1) cap ∧ RowRd encLn 4 W' o (l ++ [e])) :
  Lst nm l e wc u2 c2 a2 oa ca (updF D 5 true) (updF V 5 V0) W' where
 bel := h.bel.trans (hf.below _ h.bel.size (fun k hk q => by have := ((h.f2 h2 h5).lt k q).1; omega))
 c65 := fun _ => rfl
 c126 := h.c126
 c1312 := h.c1312
 c76 := h.c76
 c87 := h.c87
 c1210 := h.c1210
 c1311 := h.c1311
 f0 := fun d => h.f0 d
 f1 := fun d => h.f1 d
 f2 := fun _ d => Bool.noConfusion (show true = false from d)
 f3 := fun d => h.f3 d
 f4 := fun _ d => Bool.noConfusion (show true = false from d)
 f5 := fun _ _ => hn
 f6 := fun d => Bool.noConfusion (h5.symm.trans (h.c65 d))
 f7 := fun d => h.f7 d
 f8 := fun d => h.f8 d
 f9 := fun d => h.f9 d
 f10 := fun d => let ⟨b, X, p, q, r, s⟩ := h.f10 d; ⟨b, X, p, q, hf.heap r (fun q => by
  obtain ⟨cur, hc⟩ := own_typed (h.f2 h2 h5) b q
  exact ne_types r hc (by decide) rfl), s⟩
 f11 := fun d => let ⟨b, X, p, q, r, s⟩ := h.f11 d; ⟨b, X, p, q, hf.heap r (fun q => by
  obtain ⟨cur, hc⟩ := own_typed (h.f2 h2 h5) b q
  exact ne_types r hc (by decide) rfl), s⟩
theorem Lst.stU {W' : World} {b : Nat} {X cs : Array Value} (h : Lst nm l e wc u2 c2 a2 oa ca D V W) (V0 : Value) (h6 : D 6 = true) (h10 : D 10 = true) (h13 : D 13 = false) (hv : V 10 = .pointer (some ⟨b, 0, none⟩)) (hbb : wc.heap.size ≤ b) (hx : W.heap[b]? = some (.cells X 30 (0, 0)))
  (h8 : V 6 = .tuple #[.agg cs, .agg #[.int .i64 c2, .int .i64 a2]]) (hy : W'.heap[b]? = some (.cells cs 30 (0, 0))) (hf : Fr (fun k => k = b) W W') :
  Lst nm l e wc u2 c2 a2 oa ca (updF D 12 true) (updF V 12 V0) W' where
 bel := h.bel.trans (hf.below _ h.bel.size (fun k hk q => by omega))
 c65 := h.c65
 c126 := fun _ => h6
 c1312 := fun _ => rfl
 c76 := h.c76
 c87 := h.c87
 c1210 := fun _ => h10
 c1311 := h.c1311
 f0 := fun d => h.f0 d
 f1 := fun d => h.f1 d
 f2 := fun _ d => Bool.noConfusion ((h.c65 h6).symm.trans (show D 5 = false from d))
 f3 := fun d => h.f3 d
 f4 := fun _ d => Bool.noConfusion ((h.c65 h6).symm.trans (show D 5 = false from d))
 f5 := fun _ d => Bool.noConfusion (h6.symm.trans (show D 6 = false from d))
 f6 := fun d => let ⟨cs, x, y⟩ := h.f6 d; ⟨cs, x, y.frT hx (by decide) hf⟩
 f7 := fun d => h.f7 d
 f8 := fun d => h.f8 d
 f9 := fun d => h.f9 d
 f10 := fun d => ⟨b, cs, hv, hbb, hy, fun d => Bool.noConfusion (show true = false from d), fun _ => h8⟩
 f11 := fun d => let ⟨b2, X, p, q, r, s⟩ := h.f11 d; ⟨b2, X, p, q, hf.heap r (fun q => ne_types r hx (by decide) q), s⟩
theorem Lst.stF {W' : World} {b : Nat} {X : Array Value} (h : Lst nm l e wc u2 c2 a2 oa ca D V W) (V0 : Value) (h12 : D 12 = true) (h11 : D 11 = true) (hv : V 11 = .pointer (some ⟨b, 0, none⟩)) (hbb : wc.heap.size ≤ b) (hx : W.heap[b]? = some (.cells X 33 (0, 0)))
  (hy : W'.heap[b]? = some (.cells #[.int .i64 c2, .int .i64 a2] 33 (0, 0))) (hf : Fr (fun k => k = b) W W') :
  Lst nm l e wc u2 c2 a2 oa ca (updF D 13 true) (updF V 13 V0) W' where
 bel := h.bel.trans (hf.below _ h.bel.size (fun k hk q => by omega))
 c65 := h.c65
 c126 := h.c126
 c1312 := fun _ => h12
 c76 := h.c76
 c87 := h.c87
 c1210 := h.c1210
 c1311 := fun _ => h11
 f0 := fun d => h.f0 d
 f1 := fun d => h.f1 d
 f2 := fun _ d => Bool.noConfusion ((h.c65 (h.c126 h12)).symm.trans (show D 5 = false from d))
 f3 := fun d => h.f3 d
 f4 := fun _ d => Bool.noConfusion ((h.c65 (h.c126 h12)).symm.trans (show D 5 = false from d))
 f5 := fun _ d => Bool.noConfusion ((h.c126 h12).symm.trans (show D 6 = false from d))
 f6 := fun d => let ⟨cs, x, y⟩ := h.f6 d; ⟨cs, x, y.frT hx (by decide) hf⟩
 f7 := fun d => h.f7 d
 f8 := fun d => h.f8 d
 f9 := fun d => h.f9 d
 f10 := fun d => let ⟨b2, X, p, q, r, s⟩ := h.f10 d; ⟨b2, X, p, q, hf.heap r (fun q => ne_types r hx (by decide) q), s⟩
 f11 := fun d => ⟨b, _, hv, hbb, hy, fun d => Bool.noConfusion (show true = false from d), fun _ => rfl⟩
end
end Go.Proofs.YtdjkedcpehhmnaaGreatDoor
