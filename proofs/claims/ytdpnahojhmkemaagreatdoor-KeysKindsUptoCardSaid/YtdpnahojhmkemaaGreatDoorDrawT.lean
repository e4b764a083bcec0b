/-
  A region that draws its order and ends in a forced tail: the head is driven by hand under a condition S on the world, the tail is walked as it stands, and need not keep S.
-/
import Derived.StillTail
import Derived.OrdersHeld
import Derived.Deep.RegionHeld
namespace Go.Proofs.YtdpnahojhmkemaaGreatDoor
open Go
set_option linter.unusedVariables false

section
variable {P : Program} {ops : Array Oper} {Q : Exit → Act → World → Prop} {md : Region.Mode} {S : World → Prop}

/-- The head: f more operations below n come up, S holds behind each; then L. -/
def headT (P : Program) (md : Region.Mode) (ops : Array Oper) (Q : Exit → Act → World → Prop) (S : World → Prop) (n : Nat) (L : Array Bool → Act → World → Prop) : Nat → Array Bool → Act → World → Prop
  | 0, b, a, w => L b a w
  | f + 1, b, a, w => Region.ready md ops b ≠ [] ∧ ∀ i ∈ Region.ready md ops b, i < n ∧ wpOp P ops Q i (fun a' w' => S w' ∧ headT P md ops Q S n L f (b.setIfInBounds i true) a' w') a w

theorem headT_any {n g : Nat} {L : Array Bool → Act → World → Prop} (hL : ∀ b a w, L b a w → wpAny P md ops Q g b a w) : ∀ (f : Nat) (b : Array Bool) (a : Act) (w : World), headT P md ops Q S n L f b a w → wpAny P md ops Q (f + g) b a w
  | 0, b, a, w, h => by rw [Nat.zero_add]; exact hL _ _ _ h
  | f + 1, b, a, w, h => by
    rw [show f + 1 + g = f + g + 1 by omega]
    exact ⟨fun e => absurd e h.1, fun i hi => wpOp_mono (fun a' w' q => headT_any hL f _ a' w' q.2) (h.2 i hi).2⟩

/-- What may come up stands below n as long as something below n has not come up. -/
theorem below_n {n i j : Nat} {b : Array Bool} (hs : Region.sinkB md ops n = true) (hc : Region.chainB md ops n = true) (hn : n < ops.size) (inv : HeadInv md ops n b) (hin : i < n) (hi : i ∈ Region.ready md ops b) (hj : j ∈ Region.ready md ops b) : j < n := by
  rcases Nat.lt_or_ge j n with h | h
  · exact h
  · exact absurd hj (tail_waits hs hc hn inv _ i rfl hin (mem_ready.1 hi).1 j h)

theorem headT_first {n i : Nat} {oi : Oper} {v : Value} {L : Array Bool → Act → World → Prop} (hi : ops[i]? = some oi) (hsel : ∀ (j : Nat) (o : Oper) cs b, ops[j]? = some o → o.op ≠ .select cs b)
    (hs : Region.sinkB md ops n = true) (hc : Region.chainB md ops n = true) (hn : n < ops.size) (hin : i < n)
    (hQ : ∀ c a w, Q (.panic c) (a.put oi.dst v) w → Q (.panic c) a w) (hdone : ∀ b a w, L b a w → ∀ j ∈ Region.ready md ops b, n ≤ j) (f : Nat) :
    ∀ (b : Array Bool) (a : Act) (w : World), HeadInv md ops n b →
      (∀ j oj, ops[j]? = some oj → j ≠ i → b.getD j true = false → (∀ e ∈ oj.after, Region.binds md e = true → e.on ≠ i) → oi.apart ops oj = true) →
      i ∈ Region.ready md ops b → YieldsIf P ops S oi v a → S w → headT P md ops Q S n L f (b.setIfInBounds i true) (a.put oi.dst v) w → headT P md ops Q S n L (f + 1) b a w := by
  induction f with
  | zero =>
    intro b a w inv _ hr hy hS H
    refine ⟨List.ne_nil_of_mem hr, fun j hj => ⟨below_n hs hc hn inv hin hr hj, ?_⟩⟩
    by_cases e : j = i
    · subst e; exact hy.wpOp hi hS ⟨hS, H⟩
    · have h1 := hdone _ _ _ H j (ready_mono hj e)
      have h2 := below_n hs hc hn inv hin hr hj
      omega
  | succ f ih =>
    intro b a w inv hfree hr hy hS H
    refine ⟨List.ne_nil_of_mem hr, fun j hj => ?_⟩
    have hjn := below_n hs hc hn inv hin hr hj
    refine ⟨hjn, ?_⟩
    by_cases e : j = i
    · subst e; exact hy.wpOp hi hS ⟨hS, H⟩
    · obtain ⟨hju, oj, hoj, hall⟩ := mem_ready.1 hj
      have hno : ∀ e ∈ oj.after, Region.binds md e = true → e.on ≠ i := by
        intro x hx hb q
        have := hall x hx hb
        rw [q, getD_both (mem_ready.1 hr).1] at this
        cases this
      have h2 := wpOp_putIf hoj (hfree j oj hoj e hju hno) (fun cs b => hsel i oi cs b hi) (fun cs b => hsel j oj cs b hoj) hQ hy (H.2 j (ready_mono hj e)).2
      refine wpOp_mono (fun a' w' q => ⟨q.2.1, ih _ a' w' (inv.set hj hjn) (fun k ok hk hki hun hx => hfree k ok hk hki ?_ hx) (ready_mono hr (Ne.symm e)) q.1 q.2.1 ?_⟩) h2
      · by_cases z : j = k
        · subst z; exact hju
        · rwa [getD_set_ne true z] at hun
      · rw [Array.setIfInBounds_comm _ _ e]; exact q.2.2

/-- The tail, as it stands. -/
def tailL (P : Program) (md : Region.Mode) (ops : Array Oper) (Q : Exit → Act → World → Prop) (n : Nat) (b : Array Bool) (a : Act) (w : World) : Prop :=
  Region.seqB md ops (ops.toList.drop n).length n b = true ∧ wpList P ops Q (ops.toList.drop n) a w
/-- The head with what is known of what has come up. -/
def drawT (P : Program) (md : Region.Mode) (ops : Array Oper) (Q : Exit → Act → World → Prop) (S : World → Prop) (n f : Nat) (b : Array Bool) (a : Act) (w : World) : Prop :=
  HeadInv md ops n b → headT P md ops Q S n (tailL P md ops Q n) f b a w

/-- What the region's text must be: no select, the tail waits for the head. -/
def tailOk (md : Region.Mode) (ops : Array Oper) (n : Nat) : Bool := Region.noSelect ops && (decide (n < ops.size) && (Region.sinkB md ops n && Region.chainB md ops n))
theorem tailOk_spec {n : Nat} (h : tailOk md ops n = true) : Region.noSelect ops = true ∧ n < ops.size ∧ Region.sinkB md ops n = true ∧ Region.chainB md ops n = true := by
  simpa [tailOk] using h

theorem drawT_take {n i : Nat} {oi : Oper} {v : Value} {f : Nat} {b : Array Bool} {a : Act} {w : World} (hi : ops[i]? = some oi) (hok : tailOk md ops n = true) (hin : decide (i < n) = true)
    (hf : Region.free md ops b i = true) (hr : (Region.ready md ops b).contains i = true) (hQ : ∀ c a w, Q (.panic c) (a.put oi.dst v) w → Q (.panic c) a w) (hy : YieldsIf P ops S oi v a) (hS : S w)
    (h : drawT P md ops Q S n f (b.setIfInBounds i true) (a.put oi.dst v) w) : drawT P md ops Q S n (f + 1) b a w := by
  obtain ⟨h1, h2, h3, h4⟩ := tailOk_spec hok
  have hin := of_decide_eq_true hin
  have hr' : i ∈ Region.ready md ops b := by simpa using hr
  intro inv
  exact headT_first hi (Region.noSelect_spec h1) h3 h4 h2 hin hQ (fun b a w hL => seqB_ready hL.1) f b a w inv (Region.free_spec hi hf) hr' hy hS (h (inv.set hr' hin))

/-- One that alone may come up. -/
theorem drawT_one {n i : Nat} {oi : Oper} {f : Nat} {b : Array Bool} {a : Act} {w : World} (hi : ops[i]? = some oi) (hin : decide (i < n) = true) (hr : Region.ready md ops b = [i])
    (h : ∀ K : Act → World → Prop, Shut (∀ a' w', S w' → (S w' → drawT P md ops Q S n f (b.setIfInBounds i true) a' w') → K a' w') → if Region.wanted oi (yielded ops a.tmps) = true then Oper.wp P oi a w K Q else K (a.put oi.dst undef) w) : drawT P md ops Q S n (f + 1) b a w := by
  have hin := of_decide_eq_true hin
  intro inv
  have hm : i ∈ Region.ready md ops b := by rw [hr]; simp
  refine ⟨by rw [hr]; simp, fun j hj => ?_⟩
  rw [hr] at hj
  obtain rfl : j = i := by simpa using hj
  refine ⟨hin, ?_⟩
  unfold wpOp
  simp only [hi]
  have h2 := h (fun a' w' => S w' ∧ headT P md ops Q S n (tailL P md ops Q n) f (b.setIfInBounds j true) a' w') (fun a' w' hS q => ⟨hS, q hS (inv.set hm hin)⟩)
  split
  · rename_i hw; rw [if_pos hw] at h2; exact .inl h2
  · rename_i hw; rw [if_neg hw] at h2; exact h2

theorem drawT_done {n : Nat} {b : Array Bool} {a : Act} {w : World} (hB : Region.seqB md ops (ops.toList.drop n).length n b = true) (h : wpList P ops Q (ops.toList.drop n) a w) : drawT P md ops Q S n 0 b a w := fun _ => ⟨hB, h⟩

theorem wp_region_drawT {id : Nat} {a : Act} {w : World} (n : Nat) (hm : P.follows .mixedOrders = true) (hok : tailOk .any ops n = true) (hS : S w.drew)
    (h : S w.drew → drawT P .any ops Q S n n (Array.replicate ops.size false) a w.drew) : (Code.region id ops true).wp P Q a w := by
  obtain ⟨_, h2, _, _⟩ := tailOk_spec hok
  have inv0 : HeadInv .any ops n (Array.replicate ops.size false) :=
    ⟨by simp, fun j oj _ hl => (by rw [getD_replicate_false] at hl; cases hl), fun t _ ht => getD_in (by simpa using ht) (getD_replicate_false _ _)⟩
  refine wp_region_any hm ?_
  have := headT_any (Q := Q) (g := (ops.toList.drop n).length) (fun b a w hL => wpAny_of_seq (md := .any) (ops.toList.drop n) n b a w (fun j => by simp) hL.1 hL.2) n _ _ _ (h hS inv0)
  rw [show n + (ops.toList.drop n).length = ops.size by simp; omega] at this
  exact this
end
end Go.Proofs.YtdpnahojhmkemaaGreatDoor
