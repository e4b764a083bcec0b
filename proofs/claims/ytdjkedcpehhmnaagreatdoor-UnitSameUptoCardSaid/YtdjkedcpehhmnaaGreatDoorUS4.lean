import Derived.StillTail
import Derived.OrdersHeld
import Derived.Deep.RegionHeld
import Derived.Deep.RegionLawGrows
import Derived.Deep.LoopGhost
import Derived.IntWalk
import Derived.Lib.QuietBelow
import Derived.RangeFuncNested
import Derived.RangeFuncBound
import Derived.RangeFuncCalls
import Derived.RangeFuncLeaves
import Derived.Test.YtdjkedcpehhmnaaGreatDoorUS1
import Derived.Test.YtdjkedcpehhmnaaGreatDoorUS3
namespace Go.Proofs.YtdjkedcpehhmnaaGreatDoor
open Go
set_option linter.unusedVariables false
section
variable {P : Program} {ops : Array Oper} {Q : Exit → Act → World → Prop} {md : Region.Mode} {S : World → Prop}
def headT (P : Program) (md : Region.Mode) (ops : Array Oper) (Q : Exit → Act → World → Prop) (S : World → Prop) (n : Nat) (L : Array Bool → Act → World → Prop) : Nat → Array Bool → Act → World → Prop
 | 0, b, a, w => L b a w
 | f + 1, b, a, w => Region.ready md ops b ≠ [] ∧ ∀ i ∈ Region.ready md ops b, i < n ∧ wpOp P ops Q i (fun a' w' => S w' ∧ headT P md ops Q S n L f (b.setIfInBounds i true) a' w') a w
theorem headT_any {n g : Nat} {L : Array Bool → Act → World → Prop} (hL : ∀ b a w, L b a w → wpAny P md ops Q g b a w) : ∀ (f : Nat) (b : Array Bool) (a : Act) (w : World), headT P md ops Q S n L f b a w → wpAny P md ops Q (f + g) b a w
 | 0, b, a, w, h => by rw [Nat.zero_add]; exact hL _ _ _ h
 | f + 1, b, a, w, h => by
  rw [show f + 1 + g = f + g + 1 by omega]
  exact ⟨fun e => absurd e h.1, fun i hi => wpOp_mono (fun a' w' q => headT_any hL f _ a' w' q.2) (h.2 i hi).2⟩
theorem below_n {n i j : Nat} {b : Array Bool} (hs : Region.sinkB md ops n = true) (hc : Region.chainB md ops n = true) (hn : n < ops.size) (inv : HeadInv md ops n b) (hin : i < n) (hi : i ∈ Region.ready md ops b) (hj : j ∈ Region.ready md ops b) : j < n := by
 rcases Nat.lt_or_ge j n with h | h
 ·exact h
 ·exact absurd hj (tail_waits hs hc hn inv _ i rfl hin (mem_ready.1 hi).1 j h)
theorem headT_first {n i : Nat} {oi : Oper} {v : Value} {L : Array Bool → Act → World → Prop} (hi : ops[i]? = some oi) (hsel : ∀ (j : Nat) (o : Oper) cs b, ops[j]? = some o → o.op ≠ .select cs b)
  (hs : Region.sinkB md ops n = true) (hc : Region.chainB md ops n = true) (hn : n < ops.size) (hin : i < n)
  (hQ : ∀ c a w, Q (.panic c) (a.put oi.dst v) w → Q (.panic c) a w) (hdone : ∀ b a w, L b a w → ∀ j ∈ Region.ready md ops b, n ≤ j) (f : Nat) :
  ∀ (b : Array Bool) (a : Act) (w : World), HeadInv md ops n b →
   (∀ j oj, ops[j]? = some oj → j ≠ i → b.getD j true = false → (∀ e ∈ oj.after, Region.binds md e = true → e.on ≠ i) → oi.apart ops oj = true) →
   i ∈ Region.ready md ops b → YieldsIf P ops S oi v a → S w → headT P md ops Q S n L f (b.setIfInBounds i true) (a.put oi.dst v) w → headT P md ops Q S n L (f + 1) b a w := by
 induction f with
 | zero =>
  intro b a w inv _ hr hy hS H
  refine ⟨List.ne_nil_of_mem hr, fun j hj => ⟨below_n hs hc hn inv hin hr hj, ?_⟩⟩
  by_cases e : j = i
  ·subst e; exact hy.wpOp hi hS ⟨hS, H⟩
  ·have h1 := hdone _ _ _ H j (ready_mono hj e)
   have h2 := below_n hs hc hn inv hin hr hj
   omega
 | succ f ih =>
  intro b a w inv hfree hr hy hS H
  refine ⟨List.ne_nil_of_mem hr, fun j hj => ?_⟩
  have hjn := below_n hs hc hn inv hin hr hj
  refine ⟨hjn, ?_⟩
  by_cases e : j = i
  ·subst e; exact hy.wpOp hi hS ⟨hS, H⟩
  ·obtain ⟨hju, oj, hoj, hall⟩ := mem_ready.1 hj
   have hno : ∀ e ∈ oj.after, Region.binds md e = true → e.on ≠ i := by
    intro x hx hb q
    have := hall x hx hb
    rw [q, getD_both (mem_ready.1 hr).1] at this
    cases this
   have h2 := wpOp_putIf hoj (hfree j oj hoj e hju hno) (fun cs b => hsel i oi cs b hi) (fun cs b => hsel j oj cs b hoj) hQ hy (H.2 j (ready_mono hj e)).2
   refine wpOp_mono (fun a' w' q => ⟨q.2.1, ih _ a' w' (inv.set hj hjn) (fun k ok hk hki hun hx => hfree k ok hk hki ?_ hx) (ready_mono hr (Ne.symm e)) q.1 q.2.1 ?_⟩) h2
   ·by_cases z : j = k
    ·subst z; exact hju
    ·rwa [getD_set_ne true z] at hun
   ·rw [Array.setIfInBounds_comm _ _ e]; exact q.2.2
def tailL (P : Program) (md : Region.Mode) (ops : Array Oper) (Q : Exit → Act → World → Prop) (n : Nat) (b : Array Bool) (a : Act) (w : World) : Prop :=
 Region.seqB md ops (ops.toList.drop n).length n b = true ∧ wpList P ops Q (ops.toList.drop n) a w
def drawT (P : Program) (md : Region.Mode) (ops : Array Oper) (Q : Exit → Act → World → Prop) (S : World → Prop) (n f : Nat) (b : Array Bool) (a : Act) (w : World) : Prop :=
 HeadInv md ops n b → headT P md ops Q S n (tailL P md ops Q n) f b a w
def tailOk (md : Region.Mode) (ops : Array Oper) (n : Nat) : Bool := Region.noSelect ops && (decide (n < ops.size) && (Region.sinkB md ops n && Region.chainB md ops n))
theorem tailOk_spec {n : Nat} (h : tailOk md ops n = true) : Region.noSelect ops = true ∧ n < ops.size ∧ Region.sinkB md ops n = true ∧ Region.chainB md ops n = true := by
 simpa [tailOk] using h
theorem drawT_take {n i : Nat} {oi : Oper} {v : Value} {f : Nat} {b : Array Bool} {a : Act} {w : World} (hi : ops[i]? = some oi) (hok : tailOk md ops n = true) (hin : decide (i < n) = true)
  (hf : Region.free md ops b i = true) (hr : (Region.ready md ops b).contains i = true) (hQ : ∀ c a w, Q (.panic c) (a.put oi.dst v) w → Q (.panic c) a w) (hy : YieldsIf P ops S oi v a) (hS : S w)
  (h : drawT P md ops Q S n f (b.setIfInBounds i true) (a.put oi.dst v) w) : drawT P md ops Q S n (f + 1) b a w := by
 obtain ⟨h1, h2, h3, h4⟩ := tailOk_spec hok
 have hin := of_decide_eq_true hin
 have hr' : i ∈ Region.ready md ops b := by simpa using hr
 intro inv
 exact headT_first hi (Region.noSelect_spec h1) h3 h4 h2 hin hQ (fun b a w hL => seqB_ready hL.1) f b a w inv (Region.free_spec hi hf) hr' hy hS (h (inv.set hr' hin))
theorem drawT_one {n i : Nat} {oi : Oper} {f : Nat} {b : Array Bool} {a : Act} {w : World} (hi : ops[i]? = some oi) (hin : decide (i < n) = true) (hr : Region.ready md ops b = [i])
  (h : ∀ K : Act → World → Prop, Shut (∀ a' w', S w' → (S w' → drawT P md ops Q S n f (b.setIfInBounds i true) a' w') → K a' w') → if Region.wanted oi (yielded ops a.tmps) = true then Oper.wp P oi a w K Q else K (a.put oi.dst undef) w) : drawT P md ops Q S n (f + 1) b a w := by
 have hin := of_decide_eq_true hin
 intro inv
 have hm : i ∈ Region.ready md ops b := by rw [hr]; simp
 refine ⟨by rw [hr]; simp, fun j hj => ?_⟩
 rw [hr] at hj
 obtain rfl : j = i := by simpa using hj
 refine ⟨hin, ?_⟩
 unfold wpOp
 simp only [hi]
 have h2 := h (fun a' w' => S w' ∧ headT P md ops Q S n (tailL P md ops Q n) f (b.setIfInBounds j true) a' w') (fun a' w' hS q => ⟨hS, q hS (inv.set hm hin)⟩)
 split
 ·rename_i hw; rw [if_pos hw] at h2; exact .inl h2
 ·rename_i hw; rw [if_neg hw] at h2; exact h2
theorem drawT_done {n : Nat} {b : Array Bool} {a : Act} {w : World} (hB : Region.seqB md ops (ops.toList.drop n).length n b = true) (h : wpList P ops Q (ops.toList.drop n) a w) : drawT P md ops Q S n 0 b a w := fun _ => ⟨hB, h⟩
theorem wp_region_drawT {id : Nat} {a : Act} {w : World} (n : Nat) (hm : P.follows .mixedOrders = true) (hok : tailOk .any ops n = true) (hS : S w.drew)
  (h : S w.drew → drawT P .any ops Q S n n (Array.replicate ops.size false) a w.drew) : (Code.region id ops true).wp P Q a w := by
 obtain ⟨_, h2, _, _⟩ := tailOk_spec hok
 have inv0 : HeadInv .any ops n (Array.replicate ops.size false) :=
  ⟨by simp, fun j oj _ hl => (by rw [getD_replicate_false] at hl; cases hl), fun t _ ht => getD_in (by simpa using ht) (getD_replicate_false _ _)⟩
 refine wp_region_any hm ?_
 have := headT_any (Q := Q) (g := (ops.toList.drop n).length) (fun b a w hL => wpAny_of_seq (md := .any) (ops.toList.drop n) n b a w (fun j => by simp) hL.1 hL.2) n _ _ _ (h hS inv0)
 rw [show n + (ops.toList.drop n).length = ops.size by simp; omega] at this
 exact this
end
theorem dT_ {P : Program} {ops : Array Oper} {Q : Exit → Act → World → Prop} {md : Region.Mode} {S : World → Prop} {n i : Nat} {oi : Oper} {v : Value} {f : Nat} {b : Array Bool} {a : Act} {w : World} (hi : ops[i]? = some oi) (hy : ∀ w, S w → (execOp a.eval oi).run P w = .ok (.value v) w) (h : drawT P md ops Q S n f (b.setIfInBounds i true) (a.put oi.dst v) w)
 (hok : tailOk md ops n = true := by kernel_rfl) (hin : decide (i < n) = true := by kernel_rfl) (hf : Region.free md ops b i = true := by kernel_rfl) (hr : (Region.ready md ops b).contains i = true := by kernel_rfl) (hQ : ∀ c a w, Q (.panic c) (a.put oi.dst v) w → Q (.panic c) a w := by exact fun _ _ _ h => h) (hw : Region.wanted oi (yielded ops a.tmps) = true := by rfl) (hS : S w := by assumption) : drawT P md ops Q S n (f + 1) b a w := drawT_take hi hok hin hf hr hQ (Or.inl ⟨hw, hy⟩) hS h
open Go Go.RowKit
set_option maxRecDepth 100000
def flatL {α : Type} (enc : α → List Value) (l : List α) : List Value := l.flatMap enc
theorem flatL_length {α : Type} {enc : α → List Value} {k : Nat} (hk : ∀ x, (enc x).length = k) : ∀ l : List α, (flatL enc l).length = l.length * k
 | [] => by simp [flatL]
 | x :: r => by
  have := flatL_length hk r
  unfold flatL at *
  rw [List.flatMap_cons, List.length_append, hk, this, List.length_cons, Nat.add_mul]; omega
theorem flatL_get {α : Type} {enc : α → List Value} {k : Nat} (hk : ∀ x, (enc x).length = k) : ∀ (l : List α) (i j : Nat) (hi : i < l.length), j < k → (flatL enc l)[i * k + j]? = (enc l[i])[j]?
 | [], i, j, hi, _ => absurd hi (by simp)
 | x :: r, 0, j, _, hj => by
  unfold flatL
  rw [List.flatMap_cons, Nat.zero_mul, Nat.zero_add, List.getElem?_append_left (by rw [hk]; exact hj)]
  rfl
 | x :: r, i + 1, j, hi, hj => by
  have := flatL_get hk r i j (by simpa using hi) hj
  unfold flatL at *
  rw [List.flatMap_cons, List.getElem?_append_right (by rw [hk, Nat.add_mul]; omega), hk]
  rw [show (i + 1) * k + j - k = i * k + j by rw [Nat.add_mul]; omega, this]
  rfl
theorem flatL_append {α : Type} (enc : α → List Value) (a b : List α) : flatL enc (a ++ b) = flatL enc a ++ flatL enc b := by simp [flatL]
theorem flatL_one {α : Type} (enc : α → List Value) (a : α) : flatL enc [a] = enc a := by simp [flatL]
theorem flatL_oneCell {α : Type} {enc : α → List Value} (h1 : ∀ x, ∀ v ∈ enc x, v.oneCell' = true) (l : List α) : ∀ v ∈ flatL enc l, v.oneCell' = true := by
 intro v hv
 obtain ⟨x, _, hx⟩ := List.mem_flatMap.1 hv
 exact h1 x v hx
theorem own_cell {α : Type} {enc : α → List Value} {k : Nat} (hk : ∀ x, (enc x).length = k) {w : World} {B : Nat} {T : TypeId} {oa : Option Addr} {n cap : Nat} {l : List α} (h : w.ownsRow B T k (.slice oa n cap) n (flatL enc l)) (hn : n = l.length)
  {i : Nat} (hi : i < l.length) : ∃ g, oa = some ⟨g, 0, none⟩ ∧ B ≤ g ∧ g < w.heap.size ∧ n ≤ cap ∧ ∀ j v, (enc l[i])[j]? = some v → w.cell? ⟨g, i * k + j, none⟩ = some v := by
 subst hn
 rcases h.2 with ⟨_, h0⟩ | ⟨g, cap', cur, hv, hb, hg, hnc, hcm, hsz, ht⟩
 ·omega
 ·injection hv with e1 e2 e3
  subst e1
  subst e3
  refine ⟨g, rfl, hb, lt_heap hg, hnc, fun j v hj => ?_⟩
  have hjk : j < k := by
   rcases Nat.lt_or_ge j k with q | q
   ·exact q
   ·rw [List.getElem?_eq_none (by rw [hk]; exact q)] at hj; cases hj
  have h1 := flatL_get hk l i j hi hjk
  rw [hj, ← ht] at h1
  have hlt : i * k + j < l.length * k := by
   have := Nat.mul_le_mul_right k (show i + 1 ≤ l.length from hi); rw [Nat.add_mul, Nat.one_mul] at this; omega
  rw [List.getElem?_take_of_lt hlt] at h1
  simp only [World.cell?, hg]
  simpa using h1
def RowRd {α : Type} (enc : α → List Value) (k : Nat) (w : World) (oa : Option Addr) (l : List α) : Prop :=
 ∀ i (h : i < l.length), ∃ b o, oa = some ⟨b, o, none⟩ ∧ b < w.heap.size ∧ ∀ j v, (enc l[i])[j]? = some v → w.cell? ⟨b, o + i * k + j, none⟩ = some v
theorem RowRd.below {α : Type} {enc : α → List Value} {k : Nat} {w w' : World} {oa : Option Addr} {l : List α} (h : RowRd enc k w oa l) (hb : Below w.heap.size w w') : RowRd enc k w' oa l := by
 intro i hi
 obtain ⟨b, o, e, hlt, hc⟩ := h i hi
 exact ⟨b, o, e, Nat.lt_of_lt_of_le hlt hb.size, fun j v hj => (hb.cell (p := ⟨b, o + i * k + j, none⟩) hlt).trans (hc j v hj)⟩
theorem RowRd.of_own {α : Type} {enc : α → List Value} {k : Nat} (hk : ∀ x, (enc x).length = k) {w : World} {B : Nat} {T : TypeId} {oa : Option Addr} {cap : Nat} {l : List α} (h : w.ownsRow B T k (.slice oa l.length cap) l.length (flatL enc l)) : RowRd enc k w oa l := by
 intro i hi
 obtain ⟨g, e, hb, hlt, _, hc⟩ := own_cell hk h rfl hi
 exact ⟨g, 0, e, hlt, fun j v hj => by rw [Nat.zero_add]; exact hc j v hj⟩
theorem RowRd.nil {α : Type} (enc : α → List Value) (k : Nat) (w : World) (oa : Option Addr) : RowRd enc k w oa ([] : List α) := fun i h => absurd h (by simp)
theorem flatL_at {α : Type} {enc : α → List Value} {k : Nat} (hk : ∀ x, (enc x).length = k) (h0 : 0 < k) {l : List α} {j : Nat} {u : Value} (h : (flatL enc l)[j]? = some u) :
  ∃ i r, ∃ hi : i < l.length, r < k ∧ j = i * k + r ∧ (enc l[i])[r]? = some u := by
 have hj : j < (flatL enc l).length := (List.getElem?_eq_some_iff.1 h).1
 rw [flatL_length hk] at hj
 have hi : j / k < l.length := (Nat.div_lt_iff_lt_mul h0).2 hj
 have hr := Nat.mod_lt j h0
 have e : j = j / k * k + j % k := by have := Nat.div_add_mod j k; rw [Nat.mul_comm] at this; exact this.symm
 refine ⟨j / k, j % k, hi, hr, e, ?_⟩
 rw [← flatL_get hk l (j / k) (j % k) hi hr, ← e]; exact h
section
variable {α : Type} {enc : α → List Value} {k : Nat} {w w' : World} {oa : Option Addr} {l : List α}
theorem RowRd.flat (hk : ∀ x, (enc x).length = k) (h0 : 0 < k) (h : RowRd enc k w oa l) : ∀ j u, (flatL enc l)[j]? = some u → ∃ b o, oa = some ⟨b, o, none⟩ ∧ w.cell? ⟨b, o + j, none⟩ = some u := by
 intro j u hj
 obtain ⟨i, r, hi, hr, rfl, hu⟩ := flatL_at hk h0 hj
 obtain ⟨b, o, e, _, hc⟩ := h i hi
 exact ⟨b, o, e, by rw [← Nat.add_assoc]; exact hc r u hu⟩
theorem RowRd.take (h : RowRd enc k w oa l) (n : Nat) : RowRd enc k w oa (l.take n) := by
 intro i hi
 obtain ⟨b, o, e, hl, hc⟩ := h i (by simp at hi; omega)
 exact ⟨b, o, e, hl, by rw [List.getElem_take]; exact hc⟩
theorem RowRd.drop {b o : Nat} (h : RowRd enc k w (some ⟨b, o, none⟩) l) (n : Nat) : RowRd enc k w (some ⟨b, o + n * k, none⟩) (l.drop n) := by
 intro i hi
 obtain ⟨b1, o1, e, hl, hc⟩ := h (n + i) (by simp at hi; omega)
 injection e with e; injection e with e1 e2
 subst e1; subst e2
 refine ⟨b, o + n * k, rfl, hl, fun j v hj => ?_⟩
 rw [List.getElem_drop] at hj
 have := hc j v hj
 rwa [Nat.add_mul, ← Nat.add_assoc] at this
theorem RowRd.holds {b o : Nat} (hk : ∀ x, (enc x).length = k) (h0 : 0 < k) (h : RowRd enc k w (some ⟨b, o, none⟩) l) : ∀ b', (some (⟨b, o, none⟩ : Addr)) = some b' → ∀ j u, (flatL enc l)[j]? = some u → w.cell? (b'.add j) = some u := by
 intro b' e j u hu
 injection e with e
 subst e
 obtain ⟨b1, o1, e1, hc⟩ := h.flat hk h0 j u hu
 injection e1 with e1; injection e1 with e2 e3
 subst e2; subst e3
 rw [show (⟨b, o, none⟩ : Addr).add j = ⟨b, o + j, none⟩ by unfold Addr.add; split <;> simp_all]
 exact hc
end
theorem own_openK {w : World} {base k : Nat} {e : TypeId} {v : Value} {n : Nat} {xs : List Value} (h : w.ownsRow base e k v n xs) (hn : 0 < n) :
  ∃ g cap, v = .slice (some ⟨g, 0, none⟩) n cap ∧ (∀ j u, xs[j]? = some u → w.cell? ((⟨g, 0, none⟩ : Addr).add j) = some u) ∧ base ≤ g ∧ g < w.heap.size := by
 rcases h.2 with ⟨_, h0⟩ | ⟨g, cap, cur, hv, hb, hg, hnc, hcm, hs, ht⟩
 ·omega
 ·refine ⟨g, cap, hv, fun j u hu => ?_, hb, lt_heap hg⟩
  rw [show (⟨g, 0, none⟩ : Addr).add j = ⟨g, j, none⟩ by unfold Addr.add; split <;> simp_all]
  have hj : j < xs.length := (List.getElem?_eq_some_iff.1 hu).1
  rw [h.1] at hj
  rw [← ht, List.getElem?_take_of_lt hj] at hu
  simp only [World.cell?, hg]
  simpa using hu
theorem own_built3 (w : World) (x y z : Value) (T : TypeId) : (w.alloc (.cells #[x, y, z] T)).ownsRow w.heap.size T 3 (.slice (some ⟨w.heap.size, 0, none⟩) 1 1) 1 [x, y, z] :=
 ⟨rfl, .inr ⟨w.heap.size, 1, #[x, y, z], rfl, Nat.le_refl _, heap_alloc_new _ _, Nat.le_refl _, by decide, rfl, rfl⟩⟩
structure RArg {α : Type} (enc : α → List Value) (k : Nat) (w : World) (oa : Option Addr) (cap : Nat) (l : List α) : Prop where
 row : RowRd enc k w oa l
 fit : l.length ≤ cap
 isnil : oa = none → cap = 0
 form : ∀ a, oa = some a → ∃ b o, a = ⟨b, o, none⟩
section
variable {α : Type} {enc : α → List Value} {k : Nat} {w w' : World} {oa : Option Addr} {cap : Nat} {l : List α}
theorem RArg.below (h : RArg enc k w oa cap l) (hb : Below w.heap.size w w') : RArg enc k w' oa cap l := ⟨h.row.below hb, h.fit, h.isnil, h.form⟩
theorem RArg.none : RArg enc k w none 0 [] := ⟨fun i h => absurd h (by simp), Nat.le_refl _, fun _ => rfl, fun a e => by cases e⟩
theorem RArg.of_own (hk : ∀ x, (enc x).length = k) {B : Nat} {T : TypeId} (h : w.ownsRow B T k (.slice oa l.length cap) l.length (flatL enc l)) : RArg enc k w oa cap l := by
 refine ⟨RowRd.of_own hk h, ?_, ?_, ?_⟩
 ·rcases h.2 with ⟨hv, h0⟩ | ⟨g, cap', cur, hv, hb, hg, hnc, _⟩
  ·omega
  ·injection hv with _ _ e3; omega
 ·rintro rfl
  rcases h.2 with ⟨hv, h0⟩ | ⟨g, cap', cur, hv, _⟩
  ·injection hv
  ·injection hv with e1; cases e1
 ·rintro a rfl
  rcases h.2 with ⟨hv, h0⟩ | ⟨g, cap', cur, hv, _⟩
  ·injection hv with e1; cases e1
  ·injection hv with e1; injection e1 with e1; exact ⟨g, 0, e1⟩
end
theorem heap_below {w w' : World} {b : Nat} {o : Obj} (h : w.heap[b]? = some o) (hb : Below w.heap.size w w') : w'.heap[b]? = some o := (hb.block b (lt_heap h)).trans h
theorem cells2 {w : World} {b : Nat} {x y : Value} {T : TypeId} (h : w.heap[b]? = some (.cells #[x, y] T (0, 0))) : w.cell? ⟨b, 0, none⟩ = some x ∧ w.cell? ⟨b, 1, none⟩ = some y :=
 ⟨by rw [(rd h).1]; rfl, by rw [(rd h).1]; rfl⟩
theorem cells3 {w : World} {b : Nat} {x y z : Value} {T : TypeId} (h : w.heap[b]? = some (.cells #[x, y, z] T (0, 0))) : w.cell? ⟨b, 0, none⟩ = some x ∧ w.cell? ⟨b, 1, none⟩ = some y ∧ w.cell? ⟨b, 2, none⟩ = some z :=
 ⟨by rw [(rd h).1]; rfl, by rw [(rd h).1]; rfl, by rw [(rd h).1]; rfl⟩
theorem StrRow.drop {w : World} {b o : Nat} {l : List (List UInt8)} (h : StrRow w (some ⟨b, o, none⟩) l) (k : Nat) : StrRow w (some ⟨b, o + k, none⟩) (l.drop k) := by
 intro i hi
 obtain ⟨b', o', e, hc⟩ := h (k + i) (by simp at hi; omega)
 injection e with e; injection e with e1 e2
 subst e1; subst e2
 exact ⟨b, o + k, rfl, by rw [Nat.add_assoc]; simpa using hc⟩
theorem step_append_rows {P : Program} {ops : Array Oper} {o : Oper} {a : Act} {w : World} {K : Act → World → Prop} {Q : Exit → Act → World → Prop} {E : Prop}
  (hg : o.guard = none) (s x : Operand) (t : TypeId) (hop : o.op = Op.call { callee := Callee.builtin Builtin.append, args := #[s, x], argTypes := #[t, t] })
  (base e : TypeId) (i : TypeInfo) (z : Value) (size bytes : Nat) (ht : P.underlying t = some (.slice e)) (hi : P.info? e = some i) (hz : i.zero = some z)
  (hsize : i.size = size) (hby : i.bytes = bytes) (hzs : z.cells.size = size) (hsz : 0 < size)
  (v : Value) (n : Nat) (xs : List Value) (hs : a.eval s = v) (hown : w.ownsRow base e size v n xs) (oa : Option Addr) (m c : Nat) (news : List Value) (hx : a.eval x = .slice oa m c) (hl : news.length = m * size)
  (hc : ∀ j u, news[j]? = some u → ∃ b o, oa = some ⟨b, o, none⟩ ∧ w.cell? ⟨b, o + j, none⟩ = some u) (h1 : ∀ u ∈ news, u.oneCell' = true)
  (h63 : n + m ≤ maxLen) (hbytes : (n + m) * bytes ≤ 140737488355328) (hbase : base ≤ w.heap.size)
  (hK : ∀ v' w', w'.ownsRow base e size v' (n + m) (xs ++ news) → w.grownBy w' v.ownBlock → K (a.put o.dst v') w') :
  if Region.wanted o (yielded ops a.tmps) = true then Oper.wp P o a w K Q else E := by
 have hw : Region.wanted o (yielded ops a.tmps) = true := by simp [Region.wanted, hg]
 rw [if_pos hw]
 obtain ⟨v', w', hrun, r1, r2⟩ := append_rows (P := P) base t o.type e i z size bytes ht hi hz hsize hby hzs hsz v n xs hown oa m c news hl hc h1 h63 hbytes hbase
 unfold Oper.wp
 simp [execOp, hop, resolve, invoke, builtin, hs, hx, hrun, Result.andThen]
 exact hK v' w' r1 r2
theorem own_keeps {w w' : World} {B e size n : Nat} {v : Value} {xs : List Value} (h : w.ownsRow B e size v n xs) (hb : Below w.heap.size w w') : w'.ownsRow B e size v n xs := by
 refine ⟨h.1, ?_⟩
 rcases h.2 with hn | ⟨g, cap, cur, rfl, hg, hgg, rest⟩
 ·exact .inl hn
 ·exact .inr ⟨g, cap, cur, rfl, hg, by rw [hb.block g (lt_heap hgg)]; exact hgg, rest⟩
theorem own_not_box {w : World} {base e size n X : Nat} {v : Value} {xs : List Value} (h : w.ownsRow base e size v n xs) {cs : Array Value} {T : TypeId} {fz : Nat × Nat} (hx : w.heap[X]? = some (.cells cs T fz)) (hT : T ≠ e) : some X ≠ v.ownBlock := by
 rcases h.2 with ⟨rfl, _⟩ | ⟨g, cap, cur, rfl, hg, hgg, rest⟩
 ·simp [Value.ownBlock]
 ·simp only [Value.ownBlock]
  intro e2
  injection e2 with e2
  subst e2
  rw [hgg] at hx
  injection hx with hx
  injection hx with h1 h2
  exact hT h2.symm
theorem l_load_at_w {P : Program} {w : World} {ops : Array Oper} {rest : List Oper} {o : Oper} {a : Act} {Q : Exit → Act → World → Prop} (hg : Region.wanted o (yielded ops a.tmps) = true) (t : TypeId) (x : Operand) (b n : Nat) (part : Array Value) (d : TypeDesc) (ho : o.op = Op.load t x)
  (hx : a.eval x = .pointer (some ⟨b, n, none⟩)) (hp : ∀ j v, part[j]? = some v → w.cell? ⟨b, n + j, none⟩ = some v) (hd : P.underlying t = some d) (hr : d.isRow = true) (hi : (P.info? t).map (·.size) = some part.size)
  (h : wpList P ops Q rest (a.put o.dst (.agg part)) w) : wpList P ops Q (o :: rest) a w := by
 refine wpList_step fun K hK => ?_
 rw [if_pos hg]
 refine wp_load_mid t x ho b n hx part.toList d ?_ hd hr (by simpa using hi) (by simpa using hK _ _ h)
 intro j v hv
 exact hp j v (by simpa using hv)
structure RowArg {α : Type} (enc : α → List Value) (k : Nat) (w : World) (v : Value) (l : List α) : Prop where
 ex : ∃ oa cap, v = .slice oa l.length cap ∧ RowRd enc k w oa l
theorem RowArg.below {α : Type} {enc : α → List Value} {k : Nat} {w w' : World} {v : Value} {l : List α} (h : RowArg enc k w v l) (hb : Below w.heap.size w w') : RowArg enc k w' v l := by
 obtain ⟨oa, cap, e, hr⟩ := h.ex
 exact ⟨oa, cap, e, hr.below hb⟩
structure TxtArg (w : World) (v : Value) (l : List Str) : Prop where
 ex : ∃ oa cap, v = .slice oa l.length cap ∧ StrRow w oa l
theorem TxtArg.below {w w' : World} {v : Value} {l : List Str} (h : TxtArg w v l) (hb : Below w.heap.size w w') : TxtArg w' v l := by
 obtain ⟨oa, cap, e, hr⟩ := h.ex
 exact ⟨oa, cap, e, hr.below hb⟩
def Mild {β : Type} (b : Nat) (J : β → World → Prop) : Prop := ∀ s A B, J s A → A.grownBy B (some b) → J s B
def Soft {β : Type} (B0 b : Nat) (J : β → World → Prop) : Prop :=
 ∀ s A B row, J s A → A.grownBy B row → (∀ r, row = some r → r = b ∨ (B0 ≤ r ∧ ∃ o : Obj, A.heap[r]? = some o ∧ o.isCells = false)) → J s B
def SeqBox {α : Type} (n : Nat) (P : Program) (g : Nat) (lb : Array Value) (enc : α → Value) (b : Nat) (Kp : World → World → Prop) (xs : List α) (w : World) : Prop :=
 ∀ (l : Nat) (J Jx : List α → World → Prop) (W : World), Kp w W → Mild b J →
  (∀ pre x post W1, xs = pre ++ x :: post → J pre W1 → YieldAt Fence.wide (n - 1) P l #[enc x] W1 fun e W' =>
   (e = .returned (.bool true) ∧ J (pre ++ [x]) W' ∧ Kp W1 W') ∨ (e = .returned (.bool false) ∧ Jx (pre ++ [x]) W')) →
  J [] W →
  CallsIn Fence.wide n P g (#[.func (.yield l) #[] #[]] ++ lb) W fun e W' => (∃ v, e = .returned v) ∧ (J xs W' ∨ ∃ pre, Jx pre W')
theorem keep_at {A B : World} {b k : Nat} {o : Obj} (h : A.grownBy B (some b)) (hk : A.heap[k]? = some o) (hne : k ≠ b) : B.heap[k]? = some o :=
 (h.block k (lt_heap hk) (fun e => hne (by injection e))).trans hk
theorem wp_rangeBox {α : Type} {n : Nat} {P : Program} {g : Operand} {ps : Array Tmp} {assign body : Code} {Q : Exit → Act → World → Prop} {a : Act} {w : World} {gf : Nat} {lb : Array Value} (hg : a.eval g = .func (.func gf) #[] lb)
  (eg : ∀ args w, (callFunc gf args).run P w = .ok (.enter gf args) w) {enc : α → Value} {b : Nat} {Kp : World → World → Prop} {xs : List α} (hseq : SeqBox (n - 1) P gf lb enc b Kp xs w) (hb : b < w.heap.size)
  (hKn : ∀ A o, w.heap.size ≤ A.heap.size → Kp A (A.alloc o)) (hKt : ∀ {A B C : World}, Kp A B → Kp B C → Kp A C) (hKb : ∀ (W : World) (l : Nat) (o : Obj), w.heap.size ≤ l → Kp W (W.putObj l o)) (hps : ps.size = 1)
  (I : List α → World → Prop) (Ix : Code → List α → World → Prop) (hI : Soft w.heap.size b I) (hIx : ∀ c, Soft w.heap.size b (Ix c)) (h0 : I [] w) (a₁ : α → Act)
  (hassign : ∀ (l : Nat) (x : α) (W : World) (K : Act → World → Prop), K (a₁ x) W →
   assign.wpIn (Fence.wide.inRound l) (n - 1 - 1) P (Exit.then K (fun _ _ _ => False)) { tmps := (ps.zip #[enc x]).foldl (fun t (p, v) => t.setIfInBounds p v) a.tmps, defers := [] } W)
  (hbody : ∀ (l : Nat) (pre : List α) (x : α) (post : List α) (W : World), xs = pre ++ x :: post → I pre W → body.wpIn (Fence.wide.inRound l) (n - 1 - 1) P (ownPostG w.heap.size Kp I Ix (pre ++ [x]) W) (a₁ x) W)
  (hdone : ∀ (D : Nat) (W : World), w.heap.size ≤ D → I xs W → W.heap[D]? = some (.deferred (some [])) → Q .normal { a with defers := { target := .collected D, args := #[] } :: a.defers } W)
  (hstop : ∀ (D : Nat) (c : Code) (pre : List α) (W : World), w.heap.size ≤ D → Ix c pre W → W.heap[D]? = some (.deferred (some [])) → c.wpIn Fence.wide n P Q { a with defers := { target := .collected D, args := #[] } :: a.defers } W) :
  (Code.rangeFunc g ps assign body).wpIn Fence.wide n P Q a w := by
 refine wpIn_rangeFunc (fun fn hfn => ?_)
 obtain ⟨D, hD⟩ : ∃ D, D = w.heap.size := ⟨_, rfl⟩
 let rec_ : LoopState → Option Code → Loop := fun st pe => { state := st, pending := pe, fn, tmps := a.tmps, params := ps, assign, body, defers := w.heap.size }
 let w1 := (w.alloc (.deferred (some []))).alloc (.loop (rec_ .ready none))
 have z1 : (w.alloc (.deferred (some []))).heap.size = D + 1 := by rw [hD]; simp
 have hL : w1.heap[D + 1]? = some (.loop (rec_ .ready none)) := by rw [← z1]; exact World.alloc_heap_new _ _
 have hdf : w1.heap[D]? = some (.deferred (some [])) := by rw [hD]; exact heap_alloc (World.alloc_heap_new w _) _
 have soft_new : ∀ A o, I [] A → I [] (A.alloc o) := fun A o h => hI [] A _ none h (World.grownBy_alloc A o none) (fun r e => by cases e)
 have hI1 : I [] w1 := soft_new _ _ (soft_new _ _ h0)
 have hK1 : Kp w w1 := hKt (hKn w _ (Nat.le_refl _)) (hKn _ _ (by simp))
 have hbD : b ≠ D := by omega
 have hbD1 : b ≠ D + 1 := by omega
 refine ⟨D + 1, [{ target := .collected D, args := #[] }], w1, { target := .fn (.func gf) lb, args := #[.func (.yield (D + 1)) #[] #[]] }, w1, gf, #[.func (.yield (D + 1)) #[] #[]] ++ lb, w1, ?_, ?_, ?_, ?_, ?_, ?_⟩
 ·rw [hD]; exact run_enterLoop_outer _ _ _ _ _
 ·simp only [resolve, hg]
  simp [go_sem]
 ·intro f' hf'; trivial
 ·simp [invoke, go_sem, eg]
 ·intro h; exact absurd h (by simp [Fence.wide])
 refine (hseq (D + 1) (fun pre W => I pre W ∧ W.heap[D + 1]? = some (.loop (rec_ .ready none)) ∧ W.heap[D]? = some (.deferred (some [])))
  (fun pre W => ∃ c, Ix c pre W ∧ W.heap[D + 1]? = some (.loop (rec_ .done (some c))) ∧ W.heap[D]? = some (.deferred (some []))) w1 hK1
  (fun s A B ⟨i1, i2, i3⟩ hgr => ⟨hI s A B _ i1 hgr (fun r e => .inl (by injection e with e; exact e.symm)), keep_at hgr i2 (Ne.symm hbD1), keep_at hgr i3 (Ne.symm hbD)⟩) ?_ ⟨hI1, hL, hdf⟩).mono ?_
 ·rintro pre x post W hx ⟨i1, i2, i3⟩
  have hlt : D + 1 < W.heap.size := lt_heap i2
  refine ⟨fn, _, assign, body, run_yield (P := P) (args := #[enc x]) i2 (by rw [hps]; rfl), roundIn_of_wpIn hfn (hassign _ x W _ ⟨_, run_beginRound i2 rfl, ?_⟩)⟩
  let w2 := W.putObj (D + 1) (.loop { rec_ .ready none with state := .busy })
  have j2 : w2.heap[D + 1]? = some (.loop { rec_ .ready none with state := .busy }) := World.putObj_heap_same hlt
  have j3 : w2.heap[D]? = some (.deferred (some [])) := (World.putObj_heap_other (by omega)).trans i3
  have soft_put : ∀ (J : List α → World → Prop) (s : List α) (A : World) (o o' : Obj), Soft w.heap.size b J → A.heap[D + 1]? = some o → o.isCells = false → J s A → J s (A.putObj (D + 1) o') := fun J s A o o' hJ h1 h2 h3 =>
   hJ s A _ (some (D + 1)) h3 (grownBy_putObj' A (D + 1) o') (fun r e => by cases e; exact .inr ⟨by omega, o, h1, h2⟩)
  refine wpIn_mono (hbody (D + 1) pre x post w2 hx (soft_put I pre W _ _ hI i2 rfl i1)) ?_
  have fin : ∀ (jump : Option Code) (V : World), KeepsFrom w.heap.size w2 V → (Instr.endRound (D + 1) jump).run P V = .ok (.bool jump.isNone) (V.putObj (D + 1) (.loop (rec_ (if jump.isNone then .ready else .done) jump))) ∧
    V.heap[D + 1]? = some (.loop { rec_ .ready none with state := .busy }) ∧ (V.putObj (D + 1) (.loop (rec_ (if jump.isNone then .ready else .done) jump))).heap[D + 1]? = some (.loop (rec_ (if jump.isNone then .ready else .done) jump)) ∧
    (V.putObj (D + 1) (.loop (rec_ (if jump.isNone then .ready else .done) jump))).heap[D]? = some (.deferred (some [])) := by
   intro jump V hk
   have k2 := hk.same _ _ (by omega) j2 rfl
   have k3 := hk.same _ _ (by omega) j3 rfl
   exact ⟨run_endRound jump k2, k2, World.putObj_heap_same (lt_heap k2), (World.putObj_heap_other (by omega)).trans k3⟩
  rintro e a3 V hp
  cases e with
  | normal =>
   obtain ⟨p1, p2, p3⟩ := hp
   obtain ⟨f1, f2, f3, f4⟩ := fin none V p1
   exact ⟨_, _, f1, .inl ⟨rfl, ⟨soft_put I _ V _ _ hI f2 rfl p3, f3, f4⟩, hKt (hKb W _ _ (by omega)) (hKt p2 (hKb V _ _ (by omega)))⟩⟩
  | ret =>
   obtain ⟨p1, p3⟩ := hp
   obtain ⟨f1, f2, f3, f4⟩ := fin (some .ret) V p1
   exact ⟨_, _, f1, .inr ⟨rfl, .ret, soft_put _ _ V _ _ (hIx _) f2 rfl p3, f3, f4⟩⟩
  | exit id =>
   obtain ⟨p1, p3⟩ := hp
   obtain ⟨f1, f2, f3, f4⟩ := fin (some (.exit id)) V p1
   exact ⟨_, _, f1, .inr ⟨rfl, .exit id, soft_put _ _ V _ _ (hIx _) f2 rfl p3, f3, f4⟩⟩
  | goto t =>
   obtain ⟨p1, p3⟩ := hp
   obtain ⟨f1, f2, f3, f4⟩ := fin (some (.goto t)) V p1
   exact ⟨_, _, f1, .inr ⟨rfl, .goto t, soft_put _ _ V _ _ (hIx _) f2 rfl p3, f3, f4⟩⟩
  | panic ch => exact hp.elim
  | outgrown => exact hp.elim
 ·have soft_put : ∀ (J : List α → World → Prop) (s : List α) (A : World) (o o' : Obj), Soft w.heap.size b J → A.heap[D + 1]? = some o → o.isCells = false → J s A → J s (A.putObj (D + 1) o') := fun J s A o o' hJ h1 h2 h3 =>
   hJ s A _ (some (D + 1)) h3 (grownBy_putObj' A (D + 1) o') (fun r e => by cases e; exact .inr ⟨by omega, o, h1, h2⟩)
  rintro e W2 ⟨⟨v, rfl⟩, ⟨i1, i2, i3⟩ | ⟨pre, c, i1, i2, i3⟩⟩
  ·exact ⟨none, _, run_endLoop (P := P) i2 (by simp [rec_]), hdone D _ (by omega) (soft_put I _ W2 _ _ hI i2 rfl i1) ((World.putObj_heap_other (by omega)).trans i3)⟩
  ·exact ⟨some c, _, run_endLoop (P := P) i2 (by simp [rec_]), hstop D c pre _ (by omega) (soft_put _ _ W2 _ _ (hIx c) i2 rfl i1) ((World.putObj_heap_other (by omega)).trans i3)⟩
end Go.Proofs.YtdjkedcpehhmnaaGreatDoor
