import Derived.StillTail
import Derived.OrdersHeld
import Derived.Deep.RegionHeld
import Derived.Test.YtcaamakodneplaaGreatGraphPack2
import Derived.Test.YtcaamakodneplaaGreatGraphPack3
import Derived.Test.YtcaamakodneplaaGreatGraphPack4
import Derived.Test.YtcaamakodneplaaGreatGraphPack5

/-
  A region that draws its order and ends in a forced tail: the head is driven by hand under a condition S on the world, the tail is walked as it stands, and need not keep S.
-/
namespace Go.Proofs.YtcaamakodneplaaGreat
open Go
set_option linter.unusedVariables false

section
variable {P : Program} {ops : Array Oper} {Q : Exit → Act → World → Prop} {md : Region.Mode} {S : World → Prop}

/-- The head: f more operations below n come up, S holds behind each; then L. -/
def headT (P : Program) (md : Region.Mode) (ops : Array Oper) (Q : Exit → Act → World → Prop) (S : World → Prop) (n : Nat) (L : Array Bool → Act → World → Prop) : Nat → Array Bool → Act → World → Prop
  | 0, b, a, w => L b a w
  | f + 1, b, a, w => Region.ready md ops b ≠ [] ∧ ∀ i ∈ Region.ready md ops b, i < n ∧ wpOp P ops Q i (fun a' w' => S w' ∧ headT P md ops Q S n L f (b.setIfInBounds i true) a' w') a w

theorem headT_any {n g : Nat} {L : Array Bool → Act → World → Prop} (hL : ∀ b a w, L b a w → wpAny P md ops Q g b a w) : ∀ (f : Nat) (b : Array Bool) (a : Act) (w : World), headT P md ops Q S n L f b a w → wpAny P md ops Q (f + g) b a w
  | 0, b, a, w, h => by rw [Nat.zero_add]; exact hL _ _ _ h
  | f + 1, b, a, w, h => by
    rw [show f + 1 + g = f + g + 1 by omega]
    exact ⟨fun e => absurd e h.1, fun i hi => wpOp_mono (fun a' w' q => headT_any hL f _ a' w' q.2) (h.2 i hi).2⟩

/-- What may come up stands below n as long as something below n has not come up. -/
theorem below_n {n i j : Nat} {b : Array Bool} (hs : Region.sinkB md ops n = true) (hc : Region.chainB md ops n = true) (hn : n < ops.size) (inv : HeadInv md ops n b) (hin : i < n) (hi : i ∈ Region.ready md ops b) (hj : j ∈ Region.ready md ops b) : j < n := by
  rcases Nat.lt_or_ge j n with h | h
  · exact h
  · exact absurd hj (tail_waits hs hc hn inv _ i rfl hin (mem_ready.1 hi).1 j h)

theorem headT_first {n i : Nat} {oi : Oper} {v : Value} {L : Array Bool → Act → World → Prop} (hi : ops[i]? = some oi) (hsel : ∀ (j : Nat) (o : Oper) cs b, ops[j]? = some o → o.op ≠ .select cs b)
    (hs : Region.sinkB md ops n = true) (hc : Region.chainB md ops n = true) (hn : n < ops.size) (hin : i < n)
    (hQ : ∀ c a w, Q (.panic c) (a.put oi.dst v) w → Q (.panic c) a w) (hdone : ∀ b a w, L b a w → ∀ j ∈ Region.ready md ops b, n ≤ j) (f : Nat) :
    ∀ (b : Array Bool) (a : Act) (w : World), HeadInv md ops n b →
      (∀ j oj, ops[j]? = some oj → j ≠ i → b.getD j true = false → (∀ e ∈ oj.after, Region.binds md e = true → e.on ≠ i) → oi.apart ops oj = true) →
      i ∈ Region.ready md ops b → YieldsIf P ops S oi v a → S w → headT P md ops Q S n L f (b.setIfInBounds i true) (a.put oi.dst v) w → headT P md ops Q S n L (f + 1) b a w := by
  induction f with
  | zero =>
    intro b a w inv _ hr hy hS H
    refine ⟨List.ne_nil_of_mem hr, fun j hj => ⟨below_n hs hc hn inv hin hr hj, ?_⟩⟩
    by_cases e : j = i
    · subst e; exact hy.wpOp hi hS ⟨hS, H⟩
    · have h1 := hdone _ _ _ H j (ready_mono hj e)
      have h2 := below_n hs hc hn inv hin hr hj
      omega
  | succ f ih =>
    intro b a w inv hfree hr hy hS H
    refine ⟨List.ne_nil_of_mem hr, fun j hj => ?_⟩
    have hjn := below_n hs hc hn inv hin hr hj
    refine ⟨hjn, ?_⟩
    by_cases e : j = i
    · subst e; exact hy.wpOp hi hS ⟨hS, H⟩
    · obtain ⟨hju, oj, hoj, hall⟩ := mem_ready.1 hj
      have hno : ∀ e ∈ oj.after, Region.binds md e = true → e.on ≠ i := by
        intro x hx hb q
        have := hall x hx hb
        rw [q, getD_both (mem_ready.1 hr).1] at this
        cases this
      have h2 := wpOp_putIf hoj (hfree j oj hoj e hju hno) (fun cs b => hsel i oi cs b hi) (fun cs b => hsel j oj cs b hoj) hQ hy (H.2 j (ready_mono hj e)).2
      refine wpOp_mono (fun a' w' q => ⟨q.2.1, ih _ a' w' (inv.set hj hjn) (fun k ok hk hki hun hx => hfree k ok hk hki ?_ hx) (ready_mono hr (Ne.symm e)) q.1 q.2.1 ?_⟩) h2
      · by_cases z : j = k
        · subst z; exact hju
        · rwa [getD_set_ne true z] at hun
      · rw [Array.setIfInBounds_comm _ _ e]; exact q.2.2

/-- The tail, as it stands. -/
def tailL (P : Program) (md : Region.Mode) (ops : Array Oper) (Q : Exit → Act → World → Prop) (n : Nat) (b : Array Bool) (a : Act) (w : World) : Prop :=
  Region.seqB md ops (ops.toList.drop n).length n b = true ∧ wpList P ops Q (ops.toList.drop n) a w
/-- The head with what is known of what has come up. -/
def drawT (P : Program) (md : Region.Mode) (ops : Array Oper) (Q : Exit → Act → World → Prop) (S : World → Prop) (n f : Nat) (b : Array Bool) (a : Act) (w : World) : Prop :=
  HeadInv md ops n b → headT P md ops Q S n (tailL P md ops Q n) f b a w

/-- What the region's text must be: no select, the tail waits for the head. -/
def tailOk (md : Region.Mode) (ops : Array Oper) (n : Nat) : Bool := Region.noSelect ops && (decide (n < ops.size) && (Region.sinkB md ops n && Region.chainB md ops n))
theorem tailOk_spec {n : Nat} (h : tailOk md ops n = true) : Region.noSelect ops = true ∧ n < ops.size ∧ Region.sinkB md ops n = true ∧ Region.chainB md ops n = true := by
  simpa [tailOk] using h

theorem drawT_take {n i : Nat} {oi : Oper} {v : Value} {f : Nat} {b : Array Bool} {a : Act} {w : World} (hi : ops[i]? = some oi) (hok : tailOk md ops n = true) (hin : decide (i < n) = true)
    (hf : Region.free md ops b i = true) (hr : (Region.ready md ops b).contains i = true) (hQ : ∀ c a w, Q (.panic c) (a.put oi.dst v) w → Q (.panic c) a w) (hy : YieldsIf P ops S oi v a) (hS : S w)
    (h : drawT P md ops Q S n f (b.setIfInBounds i true) (a.put oi.dst v) w) : drawT P md ops Q S n (f + 1) b a w := by
  obtain ⟨h1, h2, h3, h4⟩ := tailOk_spec hok
  have hin := of_decide_eq_true hin
  have hr' : i ∈ Region.ready md ops b := by simpa using hr
  intro inv
  exact headT_first hi (Region.noSelect_spec h1) h3 h4 h2 hin hQ (fun b a w hL => seqB_ready hL.1) f b a w inv (Region.free_spec hi hf) hr' hy hS (h (inv.set hr' hin))

/-- One that alone may come up. -/
theorem drawT_one {n i : Nat} {oi : Oper} {f : Nat} {b : Array Bool} {a : Act} {w : World} (hi : ops[i]? = some oi) (hin : decide (i < n) = true) (hr : Region.ready md ops b = [i])
    (h : ∀ K : Act → World → Prop, Shut (∀ a' w', S w' → (S w' → drawT P md ops Q S n f (b.setIfInBounds i true) a' w') → K a' w') → if Region.wanted oi (yielded ops a.tmps) = true then Oper.wp P oi a w K Q else K (a.put oi.dst undef) w) : drawT P md ops Q S n (f + 1) b a w := by
  have hin := of_decide_eq_true hin
  intro inv
  have hm : i ∈ Region.ready md ops b := by rw [hr]; simp
  refine ⟨by rw [hr]; simp, fun j hj => ?_⟩
  rw [hr] at hj
  obtain rfl : j = i := by simpa using hj
  refine ⟨hin, ?_⟩
  unfold wpOp
  simp only [hi]
  have h2 := h (fun a' w' => S w' ∧ headT P md ops Q S n (tailL P md ops Q n) f (b.setIfInBounds j true) a' w') (fun a' w' hS q => ⟨hS, q hS (inv.set hm hin)⟩)
  split
  · rename_i hw; rw [if_pos hw] at h2; exact .inl h2
  · rename_i hw; rw [if_neg hw] at h2; exact h2

theorem drawT_done {n : Nat} {b : Array Bool} {a : Act} {w : World} (hB : Region.seqB md ops (ops.toList.drop n).length n b = true) (h : wpList P ops Q (ops.toList.drop n) a w) : drawT P md ops Q S n 0 b a w := fun _ => ⟨hB, h⟩

theorem wp_region_drawT {id : Nat} {a : Act} {w : World} (n : Nat) (hm : P.follows .mixedOrders = true) (hok : tailOk .any ops n = true) (hS : S w.drew)
    (h : S w.drew → drawT P .any ops Q S n n (Array.replicate ops.size false) a w.drew) : (Code.region id ops true).wp P Q a w := by
  obtain ⟨_, h2, _, _⟩ := tailOk_spec hok
  have inv0 : HeadInv .any ops n (Array.replicate ops.size false) :=
    ⟨by simp, fun j oj _ hl => (by rw [getD_replicate_false] at hl; cases hl), fun t _ ht => getD_in (by simpa using ht) (getD_replicate_false _ _)⟩
  refine wp_region_any hm ?_
  have := headT_any (Q := Q) (g := (ops.toList.drop n).length) (fun b a w hL => wpAny_of_seq (md := .any) (ops.toList.drop n) n b a w (fun j => by simp) hL.1 hL.2) n _ _ _ (h hS inv0)
  rw [show n + (ops.toList.drop n).length = ops.size by simp; omega] at this
  exact this
end
end Go.Proofs.YtcaamakodneplaaGreat

/-
  What the reference's graph maker holds in memory: rows of structs that came in or were made, the graph behind its pointer.
-/
namespace Go.Proofs.YtcaamakodneplaaGreat
open Go Go.RowKit
set_option linter.unusedVariables false
set_option maxRecDepth 100000

theorem flatL_at {α : Type} {enc : α → List Value} {k : Nat} (hk : ∀ x, (enc x).length = k) (h0 : 0 < k) {l : List α} {j : Nat} {u : Value} (h : (flatL enc l)[j]? = some u) :
    ∃ i r, ∃ hi : i < l.length, r < k ∧ j = i * k + r ∧ (enc l[i])[r]? = some u := by
  have hj : j < (flatL enc l).length := (List.getElem?_eq_some_iff.1 h).1
  rw [flatL_length hk] at hj
  have hi : j / k < l.length := (Nat.div_lt_iff_lt_mul h0).2 hj
  have hr := Nat.mod_lt j h0
  have e : j = j / k * k + j % k := by have := Nat.div_add_mod j k; rw [Nat.mul_comm] at this; exact this.symm
  refine ⟨j / k, j % k, hi, hr, e, ?_⟩
  rw [← flatL_get hk l (j / k) (j % k) hi hr, ← e]; exact h
section
variable {α : Type} {enc : α → List Value} {k : Nat} {w w' : World} {oa : Option Addr} {l : List α}
theorem RowRd.flat (hk : ∀ x, (enc x).length = k) (h0 : 0 < k) (h : RowRd enc k w oa l) : ∀ j u, (flatL enc l)[j]? = some u → ∃ b o, oa = some ⟨b, o, none⟩ ∧ w.cell? ⟨b, o + j, none⟩ = some u := by
  intro j u hj
  obtain ⟨i, r, hi, hr, rfl, hu⟩ := flatL_at hk h0 hj
  obtain ⟨b, o, e, _, hc⟩ := h i hi
  exact ⟨b, o, e, by rw [← Nat.add_assoc]; exact hc r u hu⟩
theorem RowRd.take (h : RowRd enc k w oa l) (n : Nat) : RowRd enc k w oa (l.take n) := by
  intro i hi
  obtain ⟨b, o, e, hl, hc⟩ := h i (by simp at hi; omega)
  exact ⟨b, o, e, hl, by rw [List.getElem_take]; exact hc⟩
theorem RowRd.drop {b o : Nat} (h : RowRd enc k w (some ⟨b, o, none⟩) l) (n : Nat) : RowRd enc k w (some ⟨b, o + n * k, none⟩) (l.drop n) := by
  intro i hi
  obtain ⟨b1, o1, e, hl, hc⟩ := h (n + i) (by simp at hi; omega)
  injection e with e; injection e with e1 e2
  subst e1; subst e2
  refine ⟨b, o + n * k, rfl, hl, fun j v hj => ?_⟩
  rw [List.getElem_drop] at hj
  have := hc j v hj
  rwa [Nat.add_mul, ← Nat.add_assoc] at this
/-- As step_append_grows asks for it. -/
theorem RowRd.holds {b o : Nat} (hk : ∀ x, (enc x).length = k) (h0 : 0 < k) (h : RowRd enc k w (some ⟨b, o, none⟩) l) : ∀ b', (some (⟨b, o, none⟩ : Addr)) = some b' → ∀ j u, (flatL enc l)[j]? = some u → w.cell? (b'.add j) = some u := by
  intro b' e j u hu
  injection e with e
  subst e
  obtain ⟨b1, o1, e1, hc⟩ := h.flat hk h0 j u hu
  injection e1 with e1; injection e1 with e2 e3
  subst e2; subst e3
  rw [show (⟨b, o, none⟩ : Addr).add j = ⟨b, o + j, none⟩ by unfold Addr.add; split <;> simp_all]
  exact hc
end
theorem own_openK {w : World} {base k : Nat} {e : TypeId} {v : Value} {n : Nat} {xs : List Value} (h : w.ownsRow base e k v n xs) (hn : 0 < n) :
    ∃ g cap, v = .slice (some ⟨g, 0, none⟩) n cap ∧ (∀ j u, xs[j]? = some u → w.cell? ((⟨g, 0, none⟩ : Addr).add j) = some u) ∧ base ≤ g ∧ g < w.heap.size := by
  rcases h.2 with ⟨_, h0⟩ | ⟨g, cap, cur, hv, hb, hg, hnc, hcm, hs, ht⟩
  · omega
  · refine ⟨g, cap, hv, fun j u hu => ?_, hb, lt_heap hg⟩
    rw [show (⟨g, 0, none⟩ : Addr).add j = ⟨g, j, none⟩ by unfold Addr.add; split <;> simp_all]
    have hj : j < xs.length := (List.getElem?_eq_some_iff.1 hu).1
    rw [h.1] at hj
    rw [← ht, List.getElem?_take_of_lt hj] at hu
    simp only [World.cell?, hg]
    simpa using hu
theorem own_built3 (w : World) (x y z : Value) (T : TypeId) : (w.alloc (.cells #[x, y, z] T)).ownsRow w.heap.size T 3 (.slice (some ⟨w.heap.size, 0, none⟩) 1 1) 1 [x, y, z] :=
  ⟨rfl, .inr ⟨w.heap.size, 1, #[x, y, z], rfl, Nat.le_refl _, heap_alloc_new _ _, Nat.le_refl _, by decide, rfl, rfl⟩⟩

/-- Rows that came in, or were made: a slice that reads as l. -/
structure RArg {α : Type} (enc : α → List Value) (k : Nat) (w : World) (oa : Option Addr) (cap : Nat) (l : List α) : Prop where
  row : RowRd enc k w oa l
  fit : l.length ≤ cap
  isnil : oa = none → cap = 0
  form : ∀ a, oa = some a → ∃ b o, a = ⟨b, o, none⟩
section
variable {α : Type} {enc : α → List Value} {k : Nat} {w w' : World} {oa : Option Addr} {cap : Nat} {l : List α}
theorem RArg.below (h : RArg enc k w oa cap l) (hb : Below w.heap.size w w') : RArg enc k w' oa cap l := ⟨h.row.below hb, h.fit, h.isnil, h.form⟩
theorem RArg.none : RArg enc k w none 0 [] := ⟨fun i h => absurd h (by simp), Nat.le_refl _, fun _ => rfl, fun a e => by cases e⟩
theorem RArg.of_own (hk : ∀ x, (enc x).length = k) {B : Nat} {T : TypeId} (h : w.ownsRow B T k (.slice oa l.length cap) l.length (flatL enc l)) : RArg enc k w oa cap l := by
  refine ⟨RowRd.of_own hk h, ?_, ?_, ?_⟩
  · rcases h.2 with ⟨hv, h0⟩ | ⟨g, cap', cur, hv, hb, hg, hnc, _⟩
    · omega
    · injection hv with _ _ e3; omega
  · rintro rfl
    rcases h.2 with ⟨hv, h0⟩ | ⟨g, cap', cur, hv, _⟩
    · injection hv
    · injection hv with e1; cases e1
  · rintro a rfl
    rcases h.2 with ⟨hv, h0⟩ | ⟨g, cap', cur, hv, _⟩
    · injection hv with e1; cases e1
    · injection hv with e1; injection e1 with e1; exact ⟨g, 0, e1⟩
end

/-- Edges into their places. -/
def addR (es l : List EdgeS) : List EdgeS := l.foldl (fun es e => insL ltE e es) es
theorem addR_append (es a b : List EdgeS) : addR es (a ++ b) = addR (addR es a) b := by unfold addR; rw [List.foldl_append]
theorem addR_nil (es : List EdgeS) : addR es [] = es := rfl
theorem addR_one (es : List EdgeS) (e : EdgeS) : addR es [e] = insL ltE e es := rfl
theorem addR_rises {es : List EdgeS} (l : List EdgeS) (h : Rises ltE es) : Rises ltE (addR es l) := (foldl_insL stoE l es h).1
theorem addR_mem {es : List EdgeS} (l : List EdgeS) (h : Rises ltE es) (y : EdgeS) : y ∈ addR es l ↔ y ∈ es ∨ y ∈ l := by
  have := (foldl_insL stoE l es h).2 y
  unfold addR; rw [this]; exact Or.comm
theorem insL_has {e : EdgeS} {es : List EdgeS} (h : Rises ltE es) (he : e ∈ es) : insL ltE e es = es :=
  rises_ext stoE (rises_insL stoE e es h) h fun y => by rw [mem_insL stoE]; constructor; (rintro (rfl | q); exact he; exact q); exact .inr
/-- How many edges there may be. -/
theorem edges_few (ns : List Str) (es : List EdgeS) (h64 : ns.length ≤ 64) (hn : es.Nodup) (h : ∀ e ∈ es, e.src ∈ ns ∧ e.dst ∈ ns ∧ 1 ≤ e.rel ∧ e.rel ≤ 10) : es.length ≤ 40960 := by
  have key : ∀ (l m : List EdgeS), l.Nodup → (∀ x ∈ l, x ∈ m) → l.length ≤ m.length := by
    intro l
    induction l with
    | nil => intro m _ _; exact Nat.zero_le _
    | cons a r ih =>
      intro m hn hs
      have ha := hs a (by simp)
      rw [List.nodup_cons] at hn
      have h1 := ih (m.erase a) hn.2 (fun x hx => (List.mem_erase_of_ne (by rintro rfl; exact hn.1 hx)).2 (hs x (by simp [hx])))
      rw [List.length_erase_of_mem ha] at h1
      have := List.length_pos_of_mem ha
      simp; omega
  have := key es (ns.flatMap fun a => ns.flatMap fun b => [1, 2, 3, 4, 5, 6, 7, 8, 9, 10].map fun r : Int => (⟨a, b, r⟩ : EdgeS)) hn (by
    intro e he
    obtain ⟨h1, h2, h3, h4⟩ := h e he
    refine List.mem_flatMap.2 ⟨e.src, h1, List.mem_flatMap.2 ⟨e.dst, h2, List.mem_map.2 ⟨e.rel, ?_, rfl⟩⟩⟩
    simp; omega)
  refine Nat.le_trans this ?_
  refine Nat.le_trans (flatMap_len _ 640 _ fun a _ => ?_) ?_
  · refine Nat.le_trans (flatMap_len _ 10 _ fun b _ => by simp) ?_
    omega
  · omega

/-- The graph behind its pointer. -/
structure GR (w : World) (GB : Nat) (on : Option Addr) (cn : Nat) (ns : List NodeS) (es : List EdgeS) : Prop where
  box : ∃ oe ce, w.heap[GB]? = some (.cells #[.slice on ns.length cn, .slice oe es.length ce] 29 (0, 0)) ∧ RArg encE 3 w oe ce es
  rn : RowRd encN 3 w on ns
  rise : Rises ltE es
  few : ∀ e ∈ es, e.src ∈ ns.map (·.name) ∧ e.dst ∈ ns.map (·.name) ∧ 1 ≤ e.rel ∧ e.rel ≤ 10
  n64 : ns.length ≤ 64
section
variable {w w' : World} {GB : Nat} {on : Option Addr} {cn : Nat} {ns : List NodeS} {es : List EdgeS}
theorem GR.below (h : GR w GB on cn ns es) (hb : Below w.heap.size w w') : GR w' GB on cn ns es := by
  obtain ⟨oe, ce, h1, h2⟩ := h.box
  exact ⟨⟨oe, ce, (hb.block _ (lt_heap h1)).trans h1, h2.below hb⟩, h.rn.below hb, h.rise, h.few, h.n64⟩
theorem GR.le (h : GR w GB on cn ns es) : es.length ≤ 40960 :=
  edges_few (ns.map (·.name)) es (by rw [List.length_map]; exact h.n64) (rises_nodup stoE h.rise) h.few
theorem GR.lt (h : GR w GB on cn ns es) : GB < w.heap.size := by obtain ⟨oe, ce, h1, _⟩ := h.box; exact lt_heap h1
end
/-- A cell that holds no slice lies in no graph's box. -/
theorem cell_frg {w w' : World} {GB : Nat} {a1 a2 : Option Addr} {n1 n2 c1 c2 : Nat} {T : TypeId} {fz : Nat × Nat} (hm : w.heap[GB]? = some (.cells #[.slice a1 n1 c1, .slice a2 n2 c2] T fz)) (hf : Fr (fun k => k = GB) w w') {b o : Nat} {v : Value}
    (h : w.cell? ⟨b, o, none⟩ = some v) (hv : ∀ a n c, v ≠ .slice a n c) : w'.cell? ⟨b, o, none⟩ = some v := by
  have hlt := World.block_lt_of_cell? w _ h
  have hne : b ≠ GB := by
    rintro rfl
    simp [World.cell?, hm] at h
    have hmem := List.mem_of_getElem? h
    simp at hmem
    rcases hmem with rfl | rfl <;> exact hv _ _ _ rfl
  rw [← h]
  simp only [World.cell?]
  rw [hf.block b hlt hne]
/-- The block of a row whose elements begin with no slice is no graph's box. -/
theorem RowRd.frg {α : Type} {enc : α → List Value} {k : Nat} {w w' : World} {GB : Nat} {a1 a2 : Option Addr} {n1 n2 c1 c2 : Nat} {T : TypeId} {fz : Nat × Nat} (hm : w.heap[GB]? = some (.cells #[.slice a1 n1 c1, .slice a2 n2 c2] T fz)) (hf : Fr (fun k => k = GB) w w')
    (hv : ∀ x, ∀ v ∈ enc x, ∀ a n c, v ≠ .slice a n c) {oa : Option Addr} {l : List α} (h : RowRd enc k w oa l) : RowRd enc k w' oa l := by
  intro i hi
  obtain ⟨b, o, e, hlt, hc⟩ := h i hi
  exact ⟨b, o, e, Nat.lt_of_lt_of_le hlt hf.size, fun j v hj => cell_frg hm hf (hc j v hj) (hv _ _ (List.mem_of_getElem? hj))⟩
theorem StrRow.frg {w w' : World} {GB : Nat} {a1 a2 : Option Addr} {n1 n2 c1 c2 : Nat} {T : TypeId} {fz : Nat × Nat} (hm : w.heap[GB]? = some (.cells #[.slice a1 n1 c1, .slice a2 n2 c2] T fz)) (hf : Fr (fun k => k = GB) w w') {oa : Option Addr} {l : List Str} (h : StrRow w oa l) : StrRow w' oa l := by
  intro i hi
  obtain ⟨b, o, e, hc⟩ := h i hi
  exact ⟨b, o, e, cell_frg hm hf hc (by intro a n c q; cases q)⟩
theorem encR_plain (x : RelS) : ∀ v ∈ encR x, ∀ a n c, v ≠ .slice a n c := by intro v hv; simp [encR] at hv; rcases hv with rfl | rfl <;> (intro a n c q; cases q)
theorem encN_plain (x : NodeS) : ∀ v ∈ encN x, ∀ a n c, v ≠ .slice a n c := by intro v hv; simp [encN] at hv; rcases hv with rfl | rfl | rfl <;> (intro a n c q; cases q)
theorem encE_plain (x : EdgeS) : ∀ v ∈ encE x, ∀ a n c, v ≠ .slice a n c := by intro v hv; simp [encE] at hv; rcases hv with rfl | rfl | rfl <;> (intro a n c q; cases q)
theorem LdRd.frg {w w' : World} {GB : Nat} {a1 a2 : Option Addr} {n1 n2 c1 c2 : Nat} {T : TypeId} {fz : Nat × Nat} (hm : w.heap[GB]? = some (.cells #[.slice a1 n1 c1, .slice a2 n2 c2] T fz)) (hf : Fr (fun k => k = GB) w w') {cs : Array Value} {x : LdS} (h : LdRd w cs x) : LdRd w' cs x := by
  obtain ⟨v1, b1, ⟨oa1, d1, e1, r1⟩⟩ := h.rels
  obtain ⟨v2, b2, ⟨oa2, d2, e2, r2⟩⟩ := h.socks
  obtain ⟨v3, b3, ⟨oa3, d3, e3, r3⟩⟩ := h.wants
  obtain ⟨v4, b4, ⟨oa4, d4, e4, r4⟩⟩ := h.reqs
  exact { h with rels := ⟨v1, b1, ⟨oa1, d1, e1, RowRd.frg hm hf encR_plain r1⟩⟩, socks := ⟨v2, b2, ⟨oa2, d2, e2, r2.frg hm hf⟩⟩, wants := ⟨v3, b3, ⟨oa3, d3, e3, r3.frg hm hf⟩⟩, reqs := ⟨v4, b4, ⟨oa4, d4, e4, r4.frg hm hf⟩⟩ }
theorem TabRd.frg {w w' : World} {GB : Nat} {a1 a2 : Option Addr} {n1 n2 c1 c2 : Nat} {T : TypeId} {fz : Nat × Nat} (hm : w.heap[GB]? = some (.cells #[.slice a1 n1 c1, .slice a2 n2 c2] T fz)) (hf : Fr (fun k => k = GB) w w') {tv : List (Str × Value)} {t : List LdS} (h : TabRd w tv t) : TabRd w' tv t :=
  ⟨h.keys, fun i q1 q2 => by obtain ⟨cs, e, hr⟩ := h.vals i q1 q2; exact ⟨cs, e, hr.frg hm hf⟩⟩
end Go.Proofs.YtcaamakodneplaaGreat

/-
  The reference: Has of matinsref15, Wakes of matinsref10.
-/
namespace Go.Proofs.YtcaamakodneplaaGreat
open Go Go.RowKit
set_option linter.unusedVariables false
set_option linter.unusedSimpArgs false
set_option maxRecDepth 100000

set_option maxHeartbeats 1000000 in
theorem hasE_any (on oe : Option Addr) (nn cn ce : Nat) (es : List EdgeS) (src dst : Str) (rel : Int) (w : World) (he : RowRd encE 3 w oe es) (hl : es.length < 1073741824) (b : Bool) (hb : es.contains ⟨src, dst, rel⟩ = b) :
    Calls Tryz.prog 83 #[.agg #[.slice on nn cn, .slice oe es.length ce], .string ⟨src.toArray⟩, .string ⟨dst.toArray⟩, .int .i64 rel] w fun e w' => e = .returned (.bool b) ∧ Below w.heap.size w w' := by
  have HE := Lib.hid he; have HB := Lib.hid hb
  clear he hb
  go_enter Tryz.func83, Tryz.ntmps83
  go_wp2_with fail
  have hb1 := (Below.refl w.heap.size w).alloc (Nat.le_refl _) (.cells #[.slice on nn cn, .slice oe es.length ce] 29)
  have HB1 := Lib.hid hb1
  generalize w.alloc (.cells #[.slice on nn cn, .slice oe es.length ce] 29) = w1 at *
  clear hb1
  go_loopg [14] (es.length + 1) (fun f i wr => ∃ k : Nat, k ≤ es.length ∧ i = .int .i64 k ∧ es.length - k < f ∧ Hid ((es.take k).contains ⟨src, dst, rel⟩ = false) ∧ Hid (Below w.heap.size w wr))
  case atStart => exact ⟨0, by omega, rfl, by omega, Lib.hid (by simp), HB1⟩
  case round =>
    obtain ⟨k, hk, rfl, hfu, Hno, Hb⟩ := hrel
    by_cases hlt : k < es.length
    · obtain ⟨b1, o, rfl, hblt, hcc⟩ := (HE.out.below Hb.out) k hlt
      obtain ⟨x, hx⟩ : ∃ x, x = es[k] := ⟨_, rfl⟩
      rw [← hx] at hcc
      have HX := Lib.hid hx
      have d0 := hcc 0 _ rfl; have d1 := hcc 1 _ rfl; have d2 := hcc 2 _ rfl
      simp only [Nat.add_zero] at d0
      have i5 : (k : Int) < (es.length : Int) := by omega
      have hba := (Below.refl wr.heap.size wr).alloc (Nat.le_refl _) (.cells #[.string ⟨x.src.toArray⟩, .string ⟨x.dst.toArray⟩, .int .i64 x.rel] 58)
      have HB2 := Lib.hid (Hb.out.trans (hba.mono Hb.out.size))
      clear hcc hba hx
      cases hq : decide (x = ⟨src, dst, rel⟩) with
      | true =>
        have e1 := run_eql_E x ⟨src, dst, rel⟩ true hq
        have e2 := run_guard_E .eql
        have HR := Lib.hid (show b = true by
          rw [← HB.out, List.contains_iff_mem, ← of_decide_eq_true hq, HX.out]; exact List.getElem_mem hlt)
        clear hq
        go_wp2_with fail
        go_ret
        exact ⟨by rw [HR.out]; rfl, HB2.out⟩
      | false =>
        have e1 := run_eql_E x ⟨src, dst, rel⟩ false hq
        have e2 := run_guard_E .eql
        have HN := Lib.hid (show (es.take (k + 1)).contains ⟨src, dst, rel⟩ = false by
          rw [List.take_succ_eq_append_getElem hlt, ← HX.out, List.contains_eq_mem] 
          have h1 := Hno.out
          rw [List.contains_eq_mem] at h1
          have h2 := of_decide_eq_false hq
          simp at h1 ⊢
          exact ⟨h1, fun e => h2 e.symm⟩)
        clear hq
        go_wp2_with fail
        go_roundg (gk - 1)
        case measure => omega
        case rel => exact ⟨k + 1, by omega, by go_num, by omega, HN, HB2⟩
    · have hk2 : k = es.length := by omega
      subst hk2
      have HR := Lib.hid (show b = false by rw [← HB.out, ← Hno.out, List.take_of_length_le (Nat.le_refl _)])
      go_wp2_with fail
      go_ret
      exact ⟨by rw [HR.out]; rfl, Hb.out⟩

set_option maxHeartbeats 1000000 in
theorem wakes10_any (cs : Array Value) (nm un : Str) (k : Int) (w : World) (h0 : cs[0]? = some (.string ⟨nm.toArray⟩)) (h1 : cs[1]? = some (.int .i64 k)) (h24 : cs[24]? = some (.string ⟨un.toArray⟩)) (hn : nm.length < 1000000) (t : Str) (ht : wakesU k nm un = t) :
    Calls Tryz.prog 58 #[.agg cs] w fun e w' => e = .returned (.string ⟨t.toArray⟩) ∧ Below w.heap.size w w' := by
  have hB := (Below.refl w.heap.size w).alloc (Nat.le_refl _) (.cells cs 51)
  have hb := (rd (heap_alloc_new w (.cells cs 51))).1
  have k0 := (hb 0).trans h0; have k1 := (hb 1).trans h1; have k24 := (hb 24).trans h24
  have HC := Lib.hid (fun W t' h' => change1_any ⟨nm.toArray⟩ 1 (by omega) (by omega) W t' h' (by show nm.toArray.size < _; simpa using hn))
  have HB := Lib.hid hB
  clear hb hB
  unfold wakesU at ht
  by_cases hk : k = 2 ∨ k = 3
  · rw [if_pos hk] at ht
    by_cases hu : un = []
    · rw [if_neg (by simp [hu])] at ht
      have HC2 := Lib.hid (fun W => HC.out W t ht)
      subst hu
      clear HC ht
      rcases hk with rfl | rfl
      · go_enter Tryz.func58, Tryz.ntmps58
        go_wp2_with fail
        refine (HC2.out _).mono ?_
        rintro e w' ⟨rfl, hb1⟩
        have H2 := Lib.hid (HB.out.trans (hb1.mono HB.out.size))
        clear hb1
        go_wp2_with fail
        go_ret
        exact ⟨rfl, H2.out⟩
      · go_enter Tryz.func58, Tryz.ntmps58
        go_wp2_with fail
        refine (HC2.out _).mono ?_
        rintro e w' ⟨rfl, hb1⟩
        have H2 := Lib.hid (HB.out.trans (hb1.mono HB.out.size))
        clear hb1
        go_wp2_with fail
        go_ret
        exact ⟨rfl, H2.out⟩
    · rw [if_pos hu] at ht
      subst ht
      clear HC
      have q : List.isEmpty un = false := by simpa using hu
      rcases hk with rfl | rfl
      · go_enter Tryz.func58, Tryz.ntmps58
        go_wp2_with fail
        go_ret
        exact ⟨rfl, HB.out⟩
      · go_enter Tryz.func58, Tryz.ntmps58
        go_wp2_with fail
        go_ret
        exact ⟨rfl, HB.out⟩
  · rw [if_neg hk] at ht
    subst ht
    have k2 : (k != 2) = true := by rw [bne_iff_ne]; omega
    have k3 : (k != 3) = true := by rw [bne_iff_ne]; omega
    clear hk HC
    go_enter Tryz.func58, Tryz.ntmps58
    go_wp2_with fail
    go_ret
    exact ⟨rfl, HB.out⟩
end Go.Proofs.YtcaamakodneplaaGreat

/-
  The reference: edge of matinsref15.
-/
namespace Go.Proofs.YtcaamakodneplaaGreat
open Go Go.RowKit
set_option linter.unusedVariables false
set_option linter.unusedSimpArgs false
set_option maxRecDepth 100000

/-- What edge says that puts edges into the graph behind its pointer. -/
def EdgeTo (w : World) (GB : Nat) (on : Option Addr) (cn : Nat) (ns : List NodeS) (es : List EdgeS) (e : Ending) (w' : World) : Prop :=
  e = .returned (.tuple #[]) ∧ GR w' GB on cn ns es ∧ Fr (fun k => k = GB) w w'
theorem encE_one (x : EdgeS) : ∀ v ∈ encE x, v.oneCell' = true := by intro v hv; simp [encE] at hv; rcases hv with rfl | rfl | rfl <;> rfl
theorem nodeOf_mem (ns : List NodeS) (s : Str) : (nodeOf ns s).isSome = true ↔ s ∈ ns.map (·.name) := by
  unfold nodeOf
  rw [List.find?_isSome, List.mem_map]
  constructor
  · rintro ⟨x, h1, h2⟩; exact ⟨x, h1, eq_of_beq h2⟩
  · rintro ⟨x, h1, rfl⟩; exact ⟨x, h1, by simp⟩
/-- The row with the new edge in its place. -/
theorem edge_end {w w2 w3 : World} {GB : Nat} {on : Option Addr} {cn : Nat} {ns : List NodeS} {es : List EdgeS} {oe : Option Addr} {ne ce : Nat} {src dst : Str} {rel : Int} {v : Value} {n k B : Nat}
    (hG : GR w GB on cn ns es) (h0 : w.heap[GB]? = some (.cells #[.slice on ns.length cn, .slice oe ne ce] 29 (0, 0))) (hb : Below w.heap.size w w2) (hs : src ∈ ns.map (·.name)) (hd : dst ∈ ns.map (·.name)) (hr : 1 ≤ rel ∧ rel ≤ 10)
    (hi : insL ltE ⟨src, dst, rel⟩ es = es.take k ++ ⟨src, dst, rel⟩ :: es.drop k) (hn : n = k + (1 + (es.length - k))) (hk : k ≤ es.length) (hB : w.heap.size ≤ B)
    (ho : w2.ownsRow B 58 3 v n (flatL encE (es.take k) ++ (encE ⟨src, dst, rel⟩ ++ flatL encE (es.drop k)))) (hw3 : w3 = w2.setCell ⟨GB, 1, none⟩ v) :
    GR w3 GB on cn ns (insL ltE ⟨src, dst, rel⟩ es) ∧ Fr (fun k => k = GB) w w3 := by
  subst hw3
  have e1 : flatL encE (es.take k) ++ (encE ⟨src, dst, rel⟩ ++ flatL encE (es.drop k)) = flatL encE (insL ltE ⟨src, dst, rel⟩ es) := by
    rw [hi, flatL_append, show (⟨src, dst, rel⟩ :: es.drop k : List EdgeS) = [⟨src, dst, rel⟩] ++ es.drop k from rfl, flatL_append, flatL_one]
  have e2 : n = (insL ltE ⟨src, dst, rel⟩ es).length := by rw [hi]; simp; omega
  rw [e1] at ho
  subst e2
  obtain ⟨oa, cap, rfl⟩ := ownsRow_form ho
  have hlt := lt_heap h0
  have hbx : w2.heap[GB]? = some (.cells #[.slice on ns.length cn, .slice oe ne ce] 29 (0, 0)) := heap_below h0 hb
  have hf : Fr (fun k => k = GB) w2 (w2.setCell ⟨GB, 1, none⟩ (.slice oa (insL ltE ⟨src, dst, rel⟩ es).length cap)) := Fr.setCell (M := fun k => k = GB) (Fr.refl _ _) (p := ⟨GB, 1, none⟩) (fun _ => rfl) _
  have ho3 : (w2.setCell ⟨GB, 1, none⟩ (.slice oa (insL ltE ⟨src, dst, rel⟩ es).length cap)).ownsRow B 58 3 (.slice oa (insL ltE ⟨src, dst, rel⟩ es).length cap) (insL ltE ⟨src, dst, rel⟩ es).length (flatL encE (insL ltE ⟨src, dst, rel⟩ es)) := by
    refine ⟨ho.1, ?_⟩
    rcases ho.2 with hn | ⟨g, cp, cur, hv, hg, hgg, rest⟩
    · exact .inl hn
    · exact .inr ⟨g, cp, cur, hv, hg, hf.heap hgg (by omega), rest⟩
  refine ⟨⟨⟨oa, cap, ?_, RArg.of_own (fun _ => rfl) ho3⟩, (hG.rn.below hb).frg hbx hf encN_plain, rises_insL stoE _ _ hG.rise, fun e he => ?_, hG.n64⟩, (Fr.of_below hb _).trans hf⟩
  · have := heap_setCell hbx 1 (.slice oa (insL ltE ⟨src, dst, rel⟩ es).length cap)
    rw [this]; rfl
  · rcases (mem_insL stoE _ _ _).1 he with rfl | h
    · exact ⟨hs, hd, hr.1, hr.2⟩
    · exact hG.few e h

set_option maxHeartbeats 4000000 in
theorem edgeR_any (GB : Nat) (on : Option Addr) (cn : Nat) (ns : List NodeS) (es : List EdgeS) (src dst : Str) (rel : Int) (w : World) (hG : GR w GB on cn ns es) (hs : src ∈ ns.map (·.name)) (hr : 1 ≤ rel ∧ rel ≤ 10)
    (es' : List EdgeS) (hes : addR es (edgeR (ns.map (·.name)) src dst rel) = es') :
    Calls Tryz.prog 57 #[.pointer (some ⟨GB, 0, none⟩), .string ⟨src.toArray⟩, .string ⟨dst.toArray⟩, .int .i64 rel] w fun e w' => EdgeTo w GB on cn ns es' e w' := by
  obtain ⟨i0, hi0, hz0, hz1, hz2⟩ := info_parts infoEdge
  obtain ⟨oe, ce, hbx, hra⟩ := hG.box
  have HG := Lib.hid hG; have HBX := Lib.hid hbx; have HRA := Lib.hid hra; have HS := Lib.hid hs; have HRL := Lib.hid hr; have HES := Lib.hid hes
  have hle := hG.le
  have hn64 := hG.n64
  obtain ⟨nx, hnx⟩ := nodeRes_some (nodeOf ns dst)
  obtain ⟨ok, hok⟩ : ∃ b, (nodeOf ns dst).isSome = b := ⟨_, rfl⟩
  rw [hok] at hnx
  have HNX := Lib.hid hnx; have HOK := Lib.hid hok
  clear hG hbx hra hs hr hes hnx hok
  obtain ⟨c0, c1⟩ := cells2 HBX.out
  go_enter Tryz.func57, Tryz.ntmps57
  go_wp2_with fail
  refine (nodeR_any on cn ns _ rfl ⟨dst.toArray⟩ w HG.out.rn (by omega) _ rfl).mono ?_
  rintro e w1 ⟨rfl, hb1⟩
  rw [show nodeRes (nodeOf ns (⟨dst.toArray⟩ : ByteArray).data.toList) = _ from HNX.out]
  have HB1 := Lib.hid hb1
  have HB2 := Lib.hid (hb1.alloc hb1.size (.cells #[.string ⟨nx.name.toArray⟩, .int .i64 nx.kind, .int .i64 nx.state] 32))
  obtain ⟨a0, a1⟩ := cells2_alloc (heap_below HBX.out hb1) (.cells #[.string ⟨nx.name.toArray⟩, .int .i64 nx.kind, .int .i64 nx.state] 32)
  clear hb1 c0 c1
  cases ok with
  | false =>
    have HE2 := Lib.hid (show es' = es by
      rw [← HES.out]; unfold edgeR; rw [if_neg, addR_nil]
      intro h; have := (nodeOf_mem ns dst).2 h.1; rw [HOK.out] at this; cases this)
    go_wp2_with fail
    refine bodyPost_ret (results_none rfl _ _ _) rfl ?_
    exact ⟨rfl, by rw [HE2.out]; exact HG.out.below HB2.out, Fr.of_below HB2.out _⟩
  | true =>
    cases hsd : (src == dst) with
    | true =>
      have HE2 := Lib.hid (show es' = es by
        rw [← HES.out]; unfold edgeR; rw [if_neg, addR_nil]
        intro h; exact h.2 (eq_of_beq hsd))
      go_wp2_with fail
      refine bodyPost_ret (results_none rfl _ _ _) rfl ?_
      exact ⟨rfl, by rw [HE2.out]; exact HG.out.below HB2.out, Fr.of_below HB2.out _⟩
    | false =>
      have HE2 := Lib.hid (show es' = insL ltE ⟨src, dst, rel⟩ es by
        rw [← HES.out]; unfold edgeR; rw [if_pos, addR_one]
        exact ⟨(nodeOf_mem ns dst).1 HOK.out, by simpa using hsd⟩)
      go_wp2_with fail
      clear a0 a1 HB1
      generalize w1.alloc (.cells #[.string ⟨nx.name.toArray⟩, .int .i64 nx.kind, .int .i64 nx.state] 32) = w2 at *
      obtain ⟨hv, hhv⟩ : ∃ b, es.contains (⟨src, dst, rel⟩ : EdgeS) = b := ⟨_, rfl⟩
      refine (hasE_any on oe ns.length cn ce es src dst rel w2 (HRA.out.row.below HB2.out) (by omega) hv hhv).mono ?_
      rintro e w3 ⟨rfl, hb3⟩
      have HB3 := Lib.hid (HB2.out.trans (hb3.mono HB2.out.size))
      clear hb3 HB2
      cases hv with
      | true =>
        have HE3 := Lib.hid (show es' = es by rw [HE2.out, insL_has HG.out.rise (by simpa using hhv)])
        clear hhv
        go_wp2_with fail
        refine bodyPost_ret (results_none rfl _ _ _) rfl ?_
        exact ⟨rfl, by rw [HE3.out]; exact HG.out.below HB3.out, Fr.of_below HB3.out _⟩
      | false =>
        have HNO := Lib.hid (show (⟨src, dst, rel⟩ : EdgeS) ∉ es by intro h; rw [List.contains_iff_mem.2 h] at hhv; cases hhv)
        clear hhv
        go_wp2_with fail
        have HEB := Lib.hid (heap_alloc_new w3 (.cells #[.string ⟨src.toArray⟩, .string ⟨dst.toArray⟩, .int .i64 rel] 58))
        have HB4 := Lib.hid (HB3.out.alloc HB3.out.size (.cells #[.string ⟨src.toArray⟩, .string ⟨dst.toArray⟩, .int .i64 rel] 58))
        generalize w3.alloc (.cells #[.string ⟨src.toArray⟩, .string ⟨dst.toArray⟩, .int .i64 rel] 58) = w4 at *
        generalize w3.heap.size = EB at *
        clear HB3
        have HQ := Lib.hid (fun V (h : Below w4.heap.size w4 V) => show (V.cell? ⟨GB, 0, none⟩ = some (.slice on ns.length cn) ∧ V.cell? ⟨GB, 1, none⟩ = some (.slice oe es.length ce)) ∧ V.cell? ⟨EB, 0, none⟩ = some (.string ⟨src.toArray⟩) ∧ V.cell? ⟨EB, 1, none⟩ = some (.string ⟨dst.toArray⟩) ∧ V.cell? ⟨EB, 2, none⟩ = some (.int .i64 rel) from
          ⟨cells2 (heap_below (heap_below HBX.out HB4.out) h), cells3 (heap_below HEB.out h)⟩)
        have HRW := Lib.hid (fun V (h : Below w4.heap.size w4 V) => (HRA.out.row.below HB4.out).below h)
        clear HEB
        go_loopg [11] (es.length + 1) (fun f i wr => ∃ k : Nat, k ≤ es.length ∧ i = .int .i64 k ∧ es.length - k < f ∧ Hid (∀ j (hj : j < es.length), j < k → ltE es[j] ⟨src, dst, rel⟩ = true) ∧ Hid (Below w4.heap.size w4 wr))
        case atStart => exact ⟨0, by omega, rfl, by omega, Lib.hid (fun j _ h => absurd h (by omega)), Below.refl _ _⟩
        case round =>
          obtain ⟨k, hk, rfl, hfu, Hlt, Hb⟩ := hrel
          have HQ2 := Lib.hid (fun V (h : Below wr.heap.size wr V) => HQ.out V (Hb.out.trans (h.mono Hb.out.size)))
          by_cases hkl : k < es.length
          · obtain ⟨b, o, rfl, hblt, hcc⟩ := (HRW.out wr Hb.out) k hkl
            obtain ⟨x, hx⟩ : ∃ x, x = es[k] := ⟨_, rfl⟩
            rw [← hx] at hcc
            have HX := Lib.hid hx
            have HXC := Lib.hid (fun V (h : Below wr.heap.size wr V) => show V.cell? ⟨b, o + k * 3, none⟩ = some (.string ⟨x.src.toArray⟩) ∧ V.cell? ⟨b, o + k * 3 + 1, none⟩ = some (.string ⟨x.dst.toArray⟩) ∧ V.cell? ⟨b, o + k * 3 + 2, none⟩ = some (.int .i64 x.rel) from
              ⟨by rw [h.cell hblt]; exact hcc 0 _ rfl, by rw [h.cell hblt]; exact hcc 1 _ rfl, by rw [h.cell hblt]; exact hcc 2 _ rfl⟩)
            have i5 : (k : Int) < (es.length : Int) := by omega
            clear hcc hx
            cases hq : ltE x ⟨src, dst, rel⟩ with
            | true =>
              have HN := Lib.hid (show ∀ j (hj : j < es.length), j < k + 1 → ltE es[j] ⟨src, dst, rel⟩ = true from fun j hj hjk => by
                rcases Nat.lt_or_ge j k with p | p
                · exact Hlt.out j hj p
                · have : j = k := by omega
                  subst this; rw [← HX.out]; exact hq)
              go_wp2_with fail
              refine wp_region_held_drew (S := fun V => Below wr.heap.size wr V) (by kernel_rfl) (below_dn ⟨1, rfl⟩) (fun hHeld => ?_)
              try simp only [Act.put, List.setIfInBounds_toArray, List.set_cons_zero, List.set_cons_succ]
              refine wpAnyH_take (i := 0) (v := .int .i64 k) (List.getElem?_toArray.trans rfl) (by kernel_rfl) (by kernel_rfl) (by kernel_rfl) (fun _ _ _ h => h) (Or.inl ⟨by rfl, fun W hW => by obtain ⟨⟨q0, q1⟩, q2, q3, q4⟩ := HQ2.out W hW; obtain ⟨q5, q6, q7⟩ := HXC.out W hW; clear hW; go_simp⟩) (by assumption) ?_
              try simp only [Act.put, List.setIfInBounds_toArray, List.set_cons_zero, List.set_cons_succ]
              refine wpAnyH_take (i := 1) (v := .pointer (some ⟨GB, 0, none⟩)) (List.getElem?_toArray.trans rfl) (by kernel_rfl) (by kernel_rfl) (by kernel_rfl) (fun _ _ _ h => h) (Or.inl ⟨by rfl, fun W hW => by obtain ⟨⟨q0, q1⟩, q2, q3, q4⟩ := HQ2.out W hW; obtain ⟨q5, q6, q7⟩ := HXC.out W hW; clear hW; go_simp⟩) (by assumption) ?_
              try simp only [Act.put, List.setIfInBounds_toArray, List.set_cons_zero, List.set_cons_succ]
              refine wpAnyH_take (i := 2) (v := .pointer (some ⟨GB, 0, none⟩)) (List.getElem?_toArray.trans rfl) (by kernel_rfl) (by kernel_rfl) (by kernel_rfl) (fun _ _ _ h => h) (Or.inl ⟨by rfl, fun W hW => by obtain ⟨⟨q0, q1⟩, q2, q3, q4⟩ := HQ2.out W hW; obtain ⟨q5, q6, q7⟩ := HXC.out W hW; clear hW; go_simp⟩) (by assumption) ?_
              try simp only [Act.put, List.setIfInBounds_toArray, List.set_cons_zero, List.set_cons_succ]
              refine wpAnyH_take (i := 3) (v := .pointer (some ⟨GB, 1, none⟩)) (List.getElem?_toArray.trans rfl) (by kernel_rfl) (by kernel_rfl) (by kernel_rfl) (fun _ _ _ h => h) (Or.inl ⟨by rfl, fun W hW => by obtain ⟨⟨q0, q1⟩, q2, q3, q4⟩ := HQ2.out W hW; obtain ⟨q5, q6, q7⟩ := HXC.out W hW; clear hW; go_simp⟩) (by assumption) ?_
              try simp only [Act.put, List.setIfInBounds_toArray, List.set_cons_zero, List.set_cons_succ]
              refine wpAnyH_take (i := 4) (v := .slice (some ⟨b, o, none⟩) es.length ce) (List.getElem?_toArray.trans rfl) (by kernel_rfl) (by kernel_rfl) (by kernel_rfl) (fun _ _ _ h => h) (Or.inl ⟨by rfl, fun W hW => by obtain ⟨⟨q0, q1⟩, q2, q3, q4⟩ := HQ2.out W hW; obtain ⟨q5, q6, q7⟩ := HXC.out W hW; clear hW; go_simp⟩) (by assumption) ?_
              try simp only [Act.put, List.setIfInBounds_toArray, List.set_cons_zero, List.set_cons_succ]
              refine wpAnyH_take (i := 5) (v := .int .i64 es.length) (List.getElem?_toArray.trans rfl) (by kernel_rfl) (by kernel_rfl) (by kernel_rfl) (fun _ _ _ h => h) (Or.inl ⟨by rfl, fun W hW => by obtain ⟨⟨q0, q1⟩, q2, q3, q4⟩ := HQ2.out W hW; obtain ⟨q5, q6, q7⟩ := HXC.out W hW; clear hW; go_simp⟩) (by assumption) ?_
              try simp only [Act.put, List.setIfInBounds_toArray, List.set_cons_zero, List.set_cons_succ]
              refine wpAnyH_take (i := 6) (v := .bool true) (List.getElem?_toArray.trans rfl) (by kernel_rfl) (by kernel_rfl) (by kernel_rfl) (fun _ _ _ h => h) (Or.inl ⟨by rfl, fun W hW => by obtain ⟨⟨q0, q1⟩, q2, q3, q4⟩ := HQ2.out W hW; obtain ⟨q5, q6, q7⟩ := HXC.out W hW; clear hW; go_simp⟩) (by assumption) ?_
              try simp only [Act.put, List.setIfInBounds_toArray, List.set_cons_zero, List.set_cons_succ]
              refine wpAnyH_take (i := 7) (v := .bool true) (List.getElem?_toArray.trans rfl) (by kernel_rfl) (by kernel_rfl) (by kernel_rfl) (fun _ _ _ h => h) (Or.inl ⟨by rfl, fun W hW => by obtain ⟨⟨q0, q1⟩, q2, q3, q4⟩ := HQ2.out W hW; obtain ⟨q5, q6, q7⟩ := HXC.out W hW; clear hW; go_simp⟩) (by assumption) ?_
              try simp only [Act.put, List.setIfInBounds_toArray, List.set_cons_zero, List.set_cons_succ]
              refine wpAnyH_take (i := 8) (v := .pointer (some ⟨GB, 0, none⟩)) (List.getElem?_toArray.trans rfl) (by kernel_rfl) (by kernel_rfl) (by kernel_rfl) (fun _ _ _ h => h) (Or.inl ⟨by rfl, fun W hW => by obtain ⟨⟨q0, q1⟩, q2, q3, q4⟩ := HQ2.out W hW; obtain ⟨q5, q6, q7⟩ := HXC.out W hW; clear hW; go_simp⟩) (by assumption) ?_
              try simp only [Act.put, List.setIfInBounds_toArray, List.set_cons_zero, List.set_cons_succ]
              refine wpAnyH_take (i := 9) (v := .pointer (some ⟨GB, 0, none⟩)) (List.getElem?_toArray.trans rfl) (by kernel_rfl) (by kernel_rfl) (by kernel_rfl) (fun _ _ _ h => h) (Or.inl ⟨by rfl, fun W hW => by obtain ⟨⟨q0, q1⟩, q2, q3, q4⟩ := HQ2.out W hW; obtain ⟨q5, q6, q7⟩ := HXC.out W hW; clear hW; go_simp⟩) (by assumption) ?_
              try simp only [Act.put, List.setIfInBounds_toArray, List.set_cons_zero, List.set_cons_succ]
              refine wpAnyH_take (i := 10) (v := .pointer (some ⟨GB, 1, none⟩)) (List.getElem?_toArray.trans rfl) (by kernel_rfl) (by kernel_rfl) (by kernel_rfl) (fun _ _ _ h => h) (Or.inl ⟨by rfl, fun W hW => by obtain ⟨⟨q0, q1⟩, q2, q3, q4⟩ := HQ2.out W hW; obtain ⟨q5, q6, q7⟩ := HXC.out W hW; clear hW; go_simp⟩) (by assumption) ?_
              try simp only [Act.put, List.setIfInBounds_toArray, List.set_cons_zero, List.set_cons_succ]
              refine wpAnyH_take (i := 11) (v := .slice (some ⟨b, o, none⟩) es.length ce) (List.getElem?_toArray.trans rfl) (by kernel_rfl) (by kernel_rfl) (by kernel_rfl) (fun _ _ _ h => h) (Or.inl ⟨by rfl, fun W hW => by obtain ⟨⟨q0, q1⟩, q2, q3, q4⟩ := HQ2.out W hW; obtain ⟨q5, q6, q7⟩ := HXC.out W hW; clear hW; go_simp⟩) (by assumption) ?_
              try simp only [Act.put, List.setIfInBounds_toArray, List.set_cons_zero, List.set_cons_succ]
              refine wpAnyH_take (i := 12) (v := .int .i64 k) (List.getElem?_toArray.trans rfl) (by kernel_rfl) (by kernel_rfl) (by kernel_rfl) (fun _ _ _ h => h) (Or.inl ⟨by rfl, fun W hW => by obtain ⟨⟨q0, q1⟩, q2, q3, q4⟩ := HQ2.out W hW; obtain ⟨q5, q6, q7⟩ := HXC.out W hW; clear hW; go_simp⟩) (by assumption) ?_
              try simp only [Act.put, List.setIfInBounds_toArray, List.set_cons_zero, List.set_cons_succ]
              refine wpAnyH_take (i := 13) (v := .pointer (some ⟨b, o + k * 3, none⟩)) (List.getElem?_toArray.trans rfl) (by kernel_rfl) (by kernel_rfl) (by kernel_rfl) (fun _ _ _ h => h) (Or.inl ⟨by rfl, fun W hW => by obtain ⟨⟨q0, q1⟩, q2, q3, q4⟩ := HQ2.out W hW; obtain ⟨q5, q6, q7⟩ := HXC.out W hW; clear hW; go_simp⟩) (by assumption) ?_
              try simp only [Act.put, List.setIfInBounds_toArray, List.set_cons_zero, List.set_cons_succ]
              refine wpAnyH_take (i := 14) (v := .agg #[.string ⟨x.src.toArray⟩, .string ⟨x.dst.toArray⟩, .int .i64 x.rel]) (List.getElem?_toArray.trans rfl) (by kernel_rfl) (by kernel_rfl) (by kernel_rfl) (fun _ _ _ h => h) (Or.inl ⟨by rfl, fun W hW => by obtain ⟨⟨q0, q1⟩, q2, q3, q4⟩ := HQ2.out W hW; obtain ⟨q5, q6, q7⟩ := HXC.out W hW; clear hW; go_simp⟩) (by assumption) ?_
              try simp only [Act.put, List.setIfInBounds_toArray, List.set_cons_zero, List.set_cons_succ]
              refine wpAnyH_take (i := 15) (v := .agg #[.string ⟨src.toArray⟩, .string ⟨dst.toArray⟩, .int .i64 rel]) (List.getElem?_toArray.trans rfl) (by kernel_rfl) (by kernel_rfl) (by kernel_rfl) (fun _ _ _ h => h) (Or.inl ⟨by rfl, fun W hW => by obtain ⟨⟨q0, q1⟩, q2, q3, q4⟩ := HQ2.out W hW; obtain ⟨q5, q6, q7⟩ := HXC.out W hW; clear hW; go_simp⟩) (by assumption) ?_
              try simp only [Act.put, List.setIfInBounds_toArray, List.set_cons_zero, List.set_cons_succ]
              have hv1 := hHeld
              refine wpAnyH_ready (rs := [16]) (by kernel_rfl) (by simp) (AllReadyH.cons (List.getElem?_toArray.trans rfl) (fun K hK => ?_) (AllReadyH.nil))
              clear hHeld
              rw [if_pos (by rfl)]
              go_simp
              refine (less_any x ⟨src, dst, rel⟩ _ true hq).mono ?_
              rintro e wi ⟨rfl, hbi⟩
              have HVi := Lib.hid (hv1.trans (hbi.mono hv1.size))
              clear hbi
              refine hK.out _ _ HVi.out (fun hHeld => ?_)
              clear hK K
              try simp only [Act.put, List.setIfInBounds_toArray, List.set_cons_zero, List.set_cons_succ]
              refine wpAnyH_take (i := 17) (v := .bool true) (List.getElem?_toArray.trans rfl) (by kernel_rfl) (by kernel_rfl) (by kernel_rfl) (fun _ _ _ h => h) (Or.inl ⟨by rfl, fun W hW => by clear hW; go_simp⟩) (by assumption) ?_
              try simp only [Act.put, List.setIfInBounds_toArray, List.set_cons_zero, List.set_cons_succ]
              refine wpAnyH_done (by kernel_rfl) ?_ _
              clear hHeld
              go_wp2_with fail
              go_roundg (gk - 1)
              case measure => omega
              case rel => exact ⟨k + 1, by omega, by go_num, by omega, HN, Hb.out.trans (HVi.out.mono Hb.out.size)⟩
            | false =>
              have HI := Lib.hid (show insL ltE ⟨src, dst, rel⟩ es = es.take k ++ ⟨src, dst, rel⟩ :: es.drop k by
                rw [insL_at stoE ⟨src, dst, rel⟩ es k hk Hlt.out (fun _ => by rw [← HX.out]; exact hq), List.getElem?_eq_getElem hkl, if_neg]
                intro e; exact HNO.out (by injection e with e; rw [← e]; exact List.getElem_mem hkl))
              go_wp2_with fail
              refine wp_region_held_drew (S := fun V => Below wr.heap.size wr V) (by kernel_rfl) (below_dn ⟨1, rfl⟩) (fun hHeld => ?_)
              try simp only [Act.put, List.setIfInBounds_toArray, List.set_cons_zero, List.set_cons_succ]
              refine wpAnyH_take (i := 0) (v := .int .i64 k) (List.getElem?_toArray.trans rfl) (by kernel_rfl) (by kernel_rfl) (by kernel_rfl) (fun _ _ _ h => h) (Or.inl ⟨by rfl, fun W hW => by obtain ⟨⟨q0, q1⟩, q2, q3, q4⟩ := HQ2.out W hW; obtain ⟨q5, q6, q7⟩ := HXC.out W hW; clear hW; go_simp⟩) (by assumption) ?_
              try simp only [Act.put, List.setIfInBounds_toArray, List.set_cons_zero, List.set_cons_succ]
              refine wpAnyH_take (i := 1) (v := .pointer (some ⟨GB, 0, none⟩)) (List.getElem?_toArray.trans rfl) (by kernel_rfl) (by kernel_rfl) (by kernel_rfl) (fun _ _ _ h => h) (Or.inl ⟨by rfl, fun W hW => by obtain ⟨⟨q0, q1⟩, q2, q3, q4⟩ := HQ2.out W hW; obtain ⟨q5, q6, q7⟩ := HXC.out W hW; clear hW; go_simp⟩) (by assumption) ?_
              try simp only [Act.put, List.setIfInBounds_toArray, List.set_cons_zero, List.set_cons_succ]
              refine wpAnyH_take (i := 2) (v := .pointer (some ⟨GB, 0, none⟩)) (List.getElem?_toArray.trans rfl) (by kernel_rfl) (by kernel_rfl) (by kernel_rfl) (fun _ _ _ h => h) (Or.inl ⟨by rfl, fun W hW => by obtain ⟨⟨q0, q1⟩, q2, q3, q4⟩ := HQ2.out W hW; obtain ⟨q5, q6, q7⟩ := HXC.out W hW; clear hW; go_simp⟩) (by assumption) ?_
              try simp only [Act.put, List.setIfInBounds_toArray, List.set_cons_zero, List.set_cons_succ]
              refine wpAnyH_take (i := 3) (v := .pointer (some ⟨GB, 1, none⟩)) (List.getElem?_toArray.trans rfl) (by kernel_rfl) (by kernel_rfl) (by kernel_rfl) (fun _ _ _ h => h) (Or.inl ⟨by rfl, fun W hW => by obtain ⟨⟨q0, q1⟩, q2, q3, q4⟩ := HQ2.out W hW; obtain ⟨q5, q6, q7⟩ := HXC.out W hW; clear hW; go_simp⟩) (by assumption) ?_
              try simp only [Act.put, List.setIfInBounds_toArray, List.set_cons_zero, List.set_cons_succ]
              refine wpAnyH_take (i := 4) (v := .slice (some ⟨b, o, none⟩) es.length ce) (List.getElem?_toArray.trans rfl) (by kernel_rfl) (by kernel_rfl) (by kernel_rfl) (fun _ _ _ h => h) (Or.inl ⟨by rfl, fun W hW => by obtain ⟨⟨q0, q1⟩, q2, q3, q4⟩ := HQ2.out W hW; obtain ⟨q5, q6, q7⟩ := HXC.out W hW; clear hW; go_simp⟩) (by assumption) ?_
              try simp only [Act.put, List.setIfInBounds_toArray, List.set_cons_zero, List.set_cons_succ]
              refine wpAnyH_take (i := 5) (v := .int .i64 es.length) (List.getElem?_toArray.trans rfl) (by kernel_rfl) (by kernel_rfl) (by kernel_rfl) (fun _ _ _ h => h) (Or.inl ⟨by rfl, fun W hW => by obtain ⟨⟨q0, q1⟩, q2, q3, q4⟩ := HQ2.out W hW; obtain ⟨q5, q6, q7⟩ := HXC.out W hW; clear hW; go_simp⟩) (by assumption) ?_
              try simp only [Act.put, List.setIfInBounds_toArray, List.set_cons_zero, List.set_cons_succ]
              refine wpAnyH_take (i := 6) (v := .bool true) (List.getElem?_toArray.trans rfl) (by kernel_rfl) (by kernel_rfl) (by kernel_rfl) (fun _ _ _ h => h) (Or.inl ⟨by rfl, fun W hW => by obtain ⟨⟨q0, q1⟩, q2, q3, q4⟩ := HQ2.out W hW; obtain ⟨q5, q6, q7⟩ := HXC.out W hW; clear hW; go_simp⟩) (by assumption) ?_
              try simp only [Act.put, List.setIfInBounds_toArray, List.set_cons_zero, List.set_cons_succ]
              refine wpAnyH_take (i := 7) (v := .bool true) (List.getElem?_toArray.trans rfl) (by kernel_rfl) (by kernel_rfl) (by kernel_rfl) (fun _ _ _ h => h) (Or.inl ⟨by rfl, fun W hW => by obtain ⟨⟨q0, q1⟩, q2, q3, q4⟩ := HQ2.out W hW; obtain ⟨q5, q6, q7⟩ := HXC.out W hW; clear hW; go_simp⟩) (by assumption) ?_
              try simp only [Act.put, List.setIfInBounds_toArray, List.set_cons_zero, List.set_cons_succ]
              refine wpAnyH_take (i := 8) (v := .pointer (some ⟨GB, 0, none⟩)) (List.getElem?_toArray.trans rfl) (by kernel_rfl) (by kernel_rfl) (by kernel_rfl) (fun _ _ _ h => h) (Or.inl ⟨by rfl, fun W hW => by obtain ⟨⟨q0, q1⟩, q2, q3, q4⟩ := HQ2.out W hW; obtain ⟨q5, q6, q7⟩ := HXC.out W hW; clear hW; go_simp⟩) (by assumption) ?_
              try simp only [Act.put, List.setIfInBounds_toArray, List.set_cons_zero, List.set_cons_succ]
              refine wpAnyH_take (i := 9) (v := .pointer (some ⟨GB, 0, none⟩)) (List.getElem?_toArray.trans rfl) (by kernel_rfl) (by kernel_rfl) (by kernel_rfl) (fun _ _ _ h => h) (Or.inl ⟨by rfl, fun W hW => by obtain ⟨⟨q0, q1⟩, q2, q3, q4⟩ := HQ2.out W hW; obtain ⟨q5, q6, q7⟩ := HXC.out W hW; clear hW; go_simp⟩) (by assumption) ?_
              try simp only [Act.put, List.setIfInBounds_toArray, List.set_cons_zero, List.set_cons_succ]
              refine wpAnyH_take (i := 10) (v := .pointer (some ⟨GB, 1, none⟩)) (List.getElem?_toArray.trans rfl) (by kernel_rfl) (by kernel_rfl) (by kernel_rfl) (fun _ _ _ h => h) (Or.inl ⟨by rfl, fun W hW => by obtain ⟨⟨q0, q1⟩, q2, q3, q4⟩ := HQ2.out W hW; obtain ⟨q5, q6, q7⟩ := HXC.out W hW; clear hW; go_simp⟩) (by assumption) ?_
              try simp only [Act.put, List.setIfInBounds_toArray, List.set_cons_zero, List.set_cons_succ]
              refine wpAnyH_take (i := 11) (v := .slice (some ⟨b, o, none⟩) es.length ce) (List.getElem?_toArray.trans rfl) (by kernel_rfl) (by kernel_rfl) (by kernel_rfl) (fun _ _ _ h => h) (Or.inl ⟨by rfl, fun W hW => by obtain ⟨⟨q0, q1⟩, q2, q3, q4⟩ := HQ2.out W hW; obtain ⟨q5, q6, q7⟩ := HXC.out W hW; clear hW; go_simp⟩) (by assumption) ?_
              try simp only [Act.put, List.setIfInBounds_toArray, List.set_cons_zero, List.set_cons_succ]
              refine wpAnyH_take (i := 12) (v := .int .i64 k) (List.getElem?_toArray.trans rfl) (by kernel_rfl) (by kernel_rfl) (by kernel_rfl) (fun _ _ _ h => h) (Or.inl ⟨by rfl, fun W hW => by obtain ⟨⟨q0, q1⟩, q2, q3, q4⟩ := HQ2.out W hW; obtain ⟨q5, q6, q7⟩ := HXC.out W hW; clear hW; go_simp⟩) (by assumption) ?_
              try simp only [Act.put, List.setIfInBounds_toArray, List.set_cons_zero, List.set_cons_succ]
              refine wpAnyH_take (i := 13) (v := .pointer (some ⟨b, o + k * 3, none⟩)) (List.getElem?_toArray.trans rfl) (by kernel_rfl) (by kernel_rfl) (by kernel_rfl) (fun _ _ _ h => h) (Or.inl ⟨by rfl, fun W hW => by obtain ⟨⟨q0, q1⟩, q2, q3, q4⟩ := HQ2.out W hW; obtain ⟨q5, q6, q7⟩ := HXC.out W hW; clear hW; go_simp⟩) (by assumption) ?_
              try simp only [Act.put, List.setIfInBounds_toArray, List.set_cons_zero, List.set_cons_succ]
              refine wpAnyH_take (i := 14) (v := .agg #[.string ⟨x.src.toArray⟩, .string ⟨x.dst.toArray⟩, .int .i64 x.rel]) (List.getElem?_toArray.trans rfl) (by kernel_rfl) (by kernel_rfl) (by kernel_rfl) (fun _ _ _ h => h) (Or.inl ⟨by rfl, fun W hW => by obtain ⟨⟨q0, q1⟩, q2, q3, q4⟩ := HQ2.out W hW; obtain ⟨q5, q6, q7⟩ := HXC.out W hW; clear hW; go_simp⟩) (by assumption) ?_
              try simp only [Act.put, List.setIfInBounds_toArray, List.set_cons_zero, List.set_cons_succ]
              refine wpAnyH_take (i := 15) (v := .agg #[.string ⟨src.toArray⟩, .string ⟨dst.toArray⟩, .int .i64 rel]) (List.getElem?_toArray.trans rfl) (by kernel_rfl) (by kernel_rfl) (by kernel_rfl) (fun _ _ _ h => h) (Or.inl ⟨by rfl, fun W hW => by obtain ⟨⟨q0, q1⟩, q2, q3, q4⟩ := HQ2.out W hW; obtain ⟨q5, q6, q7⟩ := HXC.out W hW; clear hW; go_simp⟩) (by assumption) ?_
              try simp only [Act.put, List.setIfInBounds_toArray, List.set_cons_zero, List.set_cons_succ]
              have hv1 := hHeld
              refine wpAnyH_ready (rs := [16]) (by kernel_rfl) (by simp) (AllReadyH.cons (List.getElem?_toArray.trans rfl) (fun K hK => ?_) (AllReadyH.nil))
              clear hHeld
              rw [if_pos (by rfl)]
              go_simp
              refine (less_any x ⟨src, dst, rel⟩ _ false hq).mono ?_
              rintro e wi ⟨rfl, hbi⟩
              have HVi := Lib.hid (hv1.trans (hbi.mono hv1.size))
              clear hbi
              refine hK.out _ _ HVi.out (fun hHeld => ?_)
              clear hK K
              try simp only [Act.put, List.setIfInBounds_toArray, List.set_cons_zero, List.set_cons_succ]
              refine wpAnyH_take (i := 17) (v := .bool false) (List.getElem?_toArray.trans rfl) (by kernel_rfl) (by kernel_rfl) (by kernel_rfl) (fun _ _ _ h => h) (Or.inl ⟨by rfl, fun W hW => by clear hW; go_simp⟩) (by assumption) ?_
              try simp only [Act.put, List.setIfInBounds_toArray, List.set_cons_zero, List.set_cons_succ]
              refine wpAnyH_done (by kernel_rfl) ?_ _
              clear hHeld
              go_wp2_with fail
              clear hq HX HXC
              have HB6 := Lib.hid (HB4.out.trans ((Hb.out.trans (HVi.out.mono Hb.out.size)).mono HB4.out.size))
              have HQ6 := Lib.hid (fun V (h : Below wi.heap.size wi V) => HQ2.out V (HVi.out.trans (h.mono HVi.out.size)))
              clear HQ2 HVi
              have hkc : ¬ (ce = k) := by have := HRA.out.fit; omega
              have hcap := HRA.out.fit
              have HW0 := Lib.hid (show Below wi.heap.size wi wi.drew from below_dn ⟨1, rfl⟩)
              have i6 : (k : Int) ≤ (ce : Int) := by omega
              have i7 : (es.length : Int) ≤ (ce : Int) := by omega
              have i8 : (k : Int) ≤ (es.length : Int) := by omega
              refine wp_region_drawT (S := fun V => Below wi.heap.size wi V) 18 (by kernel_rfl) (by kernel_rfl) HW0.out (fun hHeld => ?_)
              try simp only [Act.put, List.setIfInBounds_toArray, List.set_cons_zero, List.set_cons_succ]
              refine drawT_take (i := 0) (v := .pointer (some ⟨GB, 0, none⟩)) (List.getElem?_toArray.trans rfl) (by kernel_rfl) (by kernel_rfl) (by kernel_rfl) (by kernel_rfl) (fun _ _ _ h => h) (Or.inl ⟨by rfl, fun W hW => by obtain ⟨⟨q0, q1⟩, q2, q3, q4⟩ := HQ6.out W hW; clear hW; go_simp⟩) (by assumption) ?_
              try simp only [Act.put, List.setIfInBounds_toArray, List.set_cons_zero, List.set_cons_succ]
              refine drawT_take (i := 1) (v := .pointer (some ⟨GB, 0, none⟩)) (List.getElem?_toArray.trans rfl) (by kernel_rfl) (by kernel_rfl) (by kernel_rfl) (by kernel_rfl) (fun _ _ _ h => h) (Or.inl ⟨by rfl, fun W hW => by obtain ⟨⟨q0, q1⟩, q2, q3, q4⟩ := HQ6.out W hW; clear hW; go_simp⟩) (by assumption) ?_
              try simp only [Act.put, List.setIfInBounds_toArray, List.set_cons_zero, List.set_cons_succ]
              refine drawT_take (i := 2) (v := .pointer (some ⟨GB, 0, none⟩)) (List.getElem?_toArray.trans rfl) (by kernel_rfl) (by kernel_rfl) (by kernel_rfl) (by kernel_rfl) (fun _ _ _ h => h) (Or.inl ⟨by rfl, fun W hW => by obtain ⟨⟨q0, q1⟩, q2, q3, q4⟩ := HQ6.out W hW; clear hW; go_simp⟩) (by assumption) ?_
              try simp only [Act.put, List.setIfInBounds_toArray, List.set_cons_zero, List.set_cons_succ]
              refine drawT_take (i := 3) (v := .pointer (some ⟨GB, 1, none⟩)) (List.getElem?_toArray.trans rfl) (by kernel_rfl) (by kernel_rfl) (by kernel_rfl) (by kernel_rfl) (fun _ _ _ h => h) (Or.inl ⟨by rfl, fun W hW => by obtain ⟨⟨q0, q1⟩, q2, q3, q4⟩ := HQ6.out W hW; clear hW; go_simp⟩) (by assumption) ?_
              try simp only [Act.put, List.setIfInBounds_toArray, List.set_cons_zero, List.set_cons_succ]
              refine drawT_take (i := 4) (v := .slice (some ⟨b, o, none⟩) es.length ce) (List.getElem?_toArray.trans rfl) (by kernel_rfl) (by kernel_rfl) (by kernel_rfl) (by kernel_rfl) (fun _ _ _ h => h) (Or.inl ⟨by rfl, fun W hW => by obtain ⟨⟨q0, q1⟩, q2, q3, q4⟩ := HQ6.out W hW; clear hW; go_simp⟩) (by assumption) ?_
              try simp only [Act.put, List.setIfInBounds_toArray, List.set_cons_zero, List.set_cons_succ]
              refine drawT_take (i := 5) (v := .int .i64 k) (List.getElem?_toArray.trans rfl) (by kernel_rfl) (by kernel_rfl) (by kernel_rfl) (by kernel_rfl) (fun _ _ _ h => h) (Or.inl ⟨by rfl, fun W hW => by obtain ⟨⟨q0, q1⟩, q2, q3, q4⟩ := HQ6.out W hW; clear hW; go_simp⟩) (by assumption) ?_
              try simp only [Act.put, List.setIfInBounds_toArray, List.set_cons_zero, List.set_cons_succ]
              refine drawT_take (i := 6) (v := .int .i64 k) (List.getElem?_toArray.trans rfl) (by kernel_rfl) (by kernel_rfl) (by kernel_rfl) (by kernel_rfl) (fun _ _ _ h => h) (Or.inl ⟨by rfl, fun W hW => by obtain ⟨⟨q0, q1⟩, q2, q3, q4⟩ := HQ6.out W hW; clear hW; go_simp⟩) (by assumption) ?_
              try simp only [Act.put, List.setIfInBounds_toArray, List.set_cons_zero, List.set_cons_succ]
              refine drawT_take (i := 7) (v := .slice (some ⟨b, o, none⟩) k k) (List.getElem?_toArray.trans rfl) (by kernel_rfl) (by kernel_rfl) (by kernel_rfl) (by kernel_rfl) (fun _ _ _ h => h) (Or.inl ⟨by rfl, fun W hW => by obtain ⟨⟨q0, q1⟩, q2, q3, q4⟩ := HQ6.out W hW; clear hW; go_simp⟩) (by assumption) ?_
              try simp only [Act.put, List.setIfInBounds_toArray, List.set_cons_zero, List.set_cons_succ]
              refine drawT_take (i := 8) (v := .agg #[.string ⟨src.toArray⟩, .string ⟨dst.toArray⟩, .int .i64 rel]) (List.getElem?_toArray.trans rfl) (by kernel_rfl) (by kernel_rfl) (by kernel_rfl) (by kernel_rfl) (fun _ _ _ h => h) (Or.inl ⟨by rfl, fun W hW => by obtain ⟨⟨q0, q1⟩, q2, q3, q4⟩ := HQ6.out W hW; clear hW; go_simp⟩) (by assumption) ?_
              try simp only [Act.put, List.setIfInBounds_toArray, List.set_cons_zero, List.set_cons_succ]
              refine drawT_take (i := 10) (v := .pointer (some ⟨GB, 0, none⟩)) (List.getElem?_toArray.trans rfl) (by kernel_rfl) (by kernel_rfl) (by kernel_rfl) (by kernel_rfl) (fun _ _ _ h => h) (Or.inl ⟨by rfl, fun W hW => by obtain ⟨⟨q0, q1⟩, q2, q3, q4⟩ := HQ6.out W hW; clear hW; go_simp⟩) (by assumption) ?_
              try simp only [Act.put, List.setIfInBounds_toArray, List.set_cons_zero, List.set_cons_succ]
              refine drawT_take (i := 11) (v := .pointer (some ⟨GB, 0, none⟩)) (List.getElem?_toArray.trans rfl) (by kernel_rfl) (by kernel_rfl) (by kernel_rfl) (by kernel_rfl) (fun _ _ _ h => h) (Or.inl ⟨by rfl, fun W hW => by obtain ⟨⟨q0, q1⟩, q2, q3, q4⟩ := HQ6.out W hW; clear hW; go_simp⟩) (by assumption) ?_
              try simp only [Act.put, List.setIfInBounds_toArray, List.set_cons_zero, List.set_cons_succ]
              refine drawT_take (i := 12) (v := .pointer (some ⟨GB, 1, none⟩)) (List.getElem?_toArray.trans rfl) (by kernel_rfl) (by kernel_rfl) (by kernel_rfl) (by kernel_rfl) (fun _ _ _ h => h) (Or.inl ⟨by rfl, fun W hW => by obtain ⟨⟨q0, q1⟩, q2, q3, q4⟩ := HQ6.out W hW; clear hW; go_simp⟩) (by assumption) ?_
              try simp only [Act.put, List.setIfInBounds_toArray, List.set_cons_zero, List.set_cons_succ]
              refine drawT_take (i := 13) (v := .slice (some ⟨b, o, none⟩) es.length ce) (List.getElem?_toArray.trans rfl) (by kernel_rfl) (by kernel_rfl) (by kernel_rfl) (by kernel_rfl) (fun _ _ _ h => h) (Or.inl ⟨by rfl, fun W hW => by obtain ⟨⟨q0, q1⟩, q2, q3, q4⟩ := HQ6.out W hW; clear hW; go_simp⟩) (by assumption) ?_
              try simp only [Act.put, List.setIfInBounds_toArray, List.set_cons_zero, List.set_cons_succ]
              refine drawT_take (i := 14) (v := .int .i64 k) (List.getElem?_toArray.trans rfl) (by kernel_rfl) (by kernel_rfl) (by kernel_rfl) (by kernel_rfl) (fun _ _ _ h => h) (Or.inl ⟨by rfl, fun W hW => by obtain ⟨⟨q0, q1⟩, q2, q3, q4⟩ := HQ6.out W hW; clear hW; go_simp⟩) (by assumption) ?_
              try simp only [Act.put, List.setIfInBounds_toArray, List.set_cons_zero, List.set_cons_succ]
              refine drawT_take (i := 15) (v := .slice (some ⟨b, o + k * 3, none⟩) (es.length - k) (ce - k)) (List.getElem?_toArray.trans rfl) (by kernel_rfl) (by kernel_rfl) (by kernel_rfl) (by kernel_rfl) (fun _ _ _ h => h) (Or.inl ⟨by rfl, fun W hW => by obtain ⟨⟨q0, q1⟩, q2, q3, q4⟩ := HQ6.out W hW; clear hW; go_simp⟩) (by assumption) ?_
              try simp only [Act.put, List.setIfInBounds_toArray, List.set_cons_zero, List.set_cons_succ]
              refine drawT_one (i := 9) (List.getElem?_toArray.trans rfl) (by kernel_rfl) (by kernel_rfl) (fun K hK => ?_)
              clear hHeld
              rw [if_pos (by rfl)]
              go_simp
              have HW1 := Lib.hid (show Below wi.heap.size wi (wi.drew.alloc (.cells #[.string ⟨src.toArray⟩, .string ⟨dst.toArray⟩, .int .i64 rel] 58)) from HW0.out.alloc HW0.out.size _)
              refine hK.out _ _ HW1.out (fun hHeld => ?_)
              clear hK K
              try simp only [Act.put, List.setIfInBounds_toArray, List.set_cons_zero, List.set_cons_succ]
              refine drawT_one (i := 16) (List.getElem?_toArray.trans rfl) (by kernel_rfl) (by kernel_rfl) (fun K hK => ?_)
              clear hHeld
              refine step_append_rows (by rfl) (.tmp 69) (.tmp 75) 27 (by rfl) wi.heap.size 58 i0 (.agg #[.string ⟨#[]⟩, .string ⟨#[]⟩, .int .i64 0]) 3 40 Tryz.underlying27 hi0 hz0 hz1 hz2 (by rfl) (by decide) (.slice (some ⟨wi.heap.size, 0, none⟩) 1 1) 1 (encE ⟨src, dst, rel⟩) (by rfl) (own_built3 wi.drew _ _ _ 58) (some ⟨b, o + k * 3, none⟩) (es.length - k) (ce - k) (flatL encE (es.drop k)) (by rfl)
                  (by rw [flatL_length (k := 3) (fun _ => rfl), List.length_drop] <;> first | omega | rfl) (RowRd.flat (enc := encE) (k := 3) (l := es.drop k) (fun _ => rfl) (by omega) (RowRd.drop (HRA.out.row.below (HB6.out.trans (HW1.out.mono HB6.out.size))) k)) (flatL_oneCell encE_one _) (by unfold maxLen; omega) (by omega) (by simp) ?_
              intro v1 w7 hown1 hgrow1
              obtain ⟨g1, cap1, rfl, hcell1, hbg1, hlg1⟩ := own_openK hown1 (by omega)
              have HW2 := Lib.hid (show Below wi.heap.size wi w7 from HW1.out.grown hgrow1 (by simp) (fun g hg => by simp [Value.ownBlock] at hg; omega))
              clear hown1 hgrow1
              refine hK.out _ _ HW2.out (fun hHeld => ?_)
              clear hK K
              try simp only [Act.put, List.setIfInBounds_toArray, List.set_cons_zero, List.set_cons_succ]
              refine drawT_one (i := 17) (List.getElem?_toArray.trans rfl) (by kernel_rfl) (by kernel_rfl) (fun K hK => ?_)
              clear hHeld
              refine step_append_grows (by rfl) (.tmp 67) (.tmp 76) 27 (by rfl) 58 i0 (.agg #[.string ⟨#[]⟩, .string ⟨#[]⟩, .int .i64 0]) 3 40 Tryz.underlying27 hi0 hz0 hz1 hz2 (by rfl) (by decide) (some ⟨b, o, none⟩) k k (flatL encE (es.take k)) (by rfl) (by simp) (by rw [flatL_length (k := 3) (fun _ => rfl), List.length_take] <;> first | omega | rfl)
                  (RowRd.holds (fun _ => rfl) (by omega) (RowRd.take (HRA.out.row.below (HB6.out.trans (HW2.out.mono HB6.out.size))) k)) ⟨g1, 0, none⟩ (1 + (es.length - k)) cap1 (encE ⟨src, dst, rel⟩ ++ flatL encE (es.drop k)) (by rfl) (by rw [List.length_append, flatL_length (k := 3) (fun _ => rfl), List.length_drop]; show 3 + _ = _; first | omega | rfl) hcell1 (by intro u hu; rcases List.mem_append.1 hu with q | q; exact encE_one _ u q; exact flatL_oneCell encE_one _ u q) (by omega) (by unfold maxLen; omega) (by omega) ?_
              intro v2 w8 hown2 hgrow2
              obtain ⟨oa2, cap2, rfl⟩ := ownsRow_form hown2
              have HW3 := Lib.hid (show Below wi.heap.size wi w8 from HW2.out.grown hgrow2 HW2.out.size (fun g hg => by cases hg))
              have HO2 := Lib.hid (And.intro hown2 HW2.out.size)
              clear hcell1 hown2 hgrow2
              refine hK.out _ _ HW3.out (fun hHeld => ?_)
              clear hK K
              try simp only [Act.put, List.setIfInBounds_toArray, List.set_cons_zero, List.set_cons_succ]
              refine drawT_done (by kernel_rfl) ?_
              clear hHeld
              have hgb := rd (heap_below HBX.out (HB6.out.trans (HW3.out.mono HB6.out.size)))
              have s1 := (HQ6.out w8 HW3.out).1.2; have s2 := hgb.2.1 1; have s3 := hgb.2.2.1
              clear hgb
              go_wp2_with fail
              refine bodyPost_ret (results_none rfl _ _ _) rfl ?_
              have hh := edge_end HG.out HBX.out (HB6.out.trans (HW3.out.mono HB6.out.size)) HS.out ((nodeOf_mem ns dst).1 HOK.out) HRL.out HI.out (by first | omega | rfl) hk (Nat.le_trans HB6.out.size HO2.out.2) HO2.out.1 rfl
              exact ⟨rfl, by rw [HE2.out]; exact hh.1, hh.2⟩
          · have hke : k = es.length := by omega
            subst hke
            have HI := Lib.hid (show insL ltE ⟨src, dst, rel⟩ es = es.take es.length ++ ⟨src, dst, rel⟩ :: es.drop es.length by
              rw [insL_at stoE ⟨src, dst, rel⟩ es es.length hk Hlt.out (fun q => absurd q hkl), List.getElem?_eq_none (Nat.le_refl _), if_neg (by simp)])
            have hcap := HRA.out.fit
            clear Hlt hkl
            cases oe with
            | none =>
              have hc0 := HRA.out.isnil rfl
              have hl0 : es = [] := List.eq_nil_of_length_eq_zero (by omega)
              subst hc0
              subst hl0
              simp only [List.length_nil] at *
              go_wp2_with fail
              refine wp_region_held_drew (S := fun V => Below wr.heap.size wr V) (by kernel_rfl) (below_dn ⟨1, rfl⟩) (fun hHeld => ?_)
              try simp only [Act.put, List.setIfInBounds_toArray, List.set_cons_zero, List.set_cons_succ]
              refine wpAnyH_take (i := 0) (v := .int .i64 0) (List.getElem?_toArray.trans rfl) (by kernel_rfl) (by kernel_rfl) (by kernel_rfl) (fun _ _ _ h => h) (Or.inl ⟨by rfl, fun W hW => by obtain ⟨⟨q0, q1⟩, q2, q3, q4⟩ := HQ2.out W hW; clear hW; go_simp⟩) (by assumption) ?_
              try simp only [Act.put, List.setIfInBounds_toArray, List.set_cons_zero, List.set_cons_succ]
              refine wpAnyH_take (i := 1) (v := .pointer (some ⟨GB, 0, none⟩)) (List.getElem?_toArray.trans rfl) (by kernel_rfl) (by kernel_rfl) (by kernel_rfl) (fun _ _ _ h => h) (Or.inl ⟨by rfl, fun W hW => by obtain ⟨⟨q0, q1⟩, q2, q3, q4⟩ := HQ2.out W hW; clear hW; go_simp⟩) (by assumption) ?_
              try simp only [Act.put, List.setIfInBounds_toArray, List.set_cons_zero, List.set_cons_succ]
              refine wpAnyH_take (i := 2) (v := .pointer (some ⟨GB, 0, none⟩)) (List.getElem?_toArray.trans rfl) (by kernel_rfl) (by kernel_rfl) (by kernel_rfl) (fun _ _ _ h => h) (Or.inl ⟨by rfl, fun W hW => by obtain ⟨⟨q0, q1⟩, q2, q3, q4⟩ := HQ2.out W hW; clear hW; go_simp⟩) (by assumption) ?_
              try simp only [Act.put, List.setIfInBounds_toArray, List.set_cons_zero, List.set_cons_succ]
              refine wpAnyH_take (i := 3) (v := .pointer (some ⟨GB, 1, none⟩)) (List.getElem?_toArray.trans rfl) (by kernel_rfl) (by kernel_rfl) (by kernel_rfl) (fun _ _ _ h => h) (Or.inl ⟨by rfl, fun W hW => by obtain ⟨⟨q0, q1⟩, q2, q3, q4⟩ := HQ2.out W hW; clear hW; go_simp⟩) (by assumption) ?_
              try simp only [Act.put, List.setIfInBounds_toArray, List.set_cons_zero, List.set_cons_succ]
              refine wpAnyH_take (i := 4) (v := .slice none 0 0) (List.getElem?_toArray.trans rfl) (by kernel_rfl) (by kernel_rfl) (by kernel_rfl) (fun _ _ _ h => h) (Or.inl ⟨by rfl, fun W hW => by obtain ⟨⟨q0, q1⟩, q2, q3, q4⟩ := HQ2.out W hW; clear hW; go_simp⟩) (by assumption) ?_
              try simp only [Act.put, List.setIfInBounds_toArray, List.set_cons_zero, List.set_cons_succ]
              refine wpAnyH_take (i := 5) (v := .int .i64 0) (List.getElem?_toArray.trans rfl) (by kernel_rfl) (by kernel_rfl) (by kernel_rfl) (fun _ _ _ h => h) (Or.inl ⟨by rfl, fun W hW => by obtain ⟨⟨q0, q1⟩, q2, q3, q4⟩ := HQ2.out W hW; clear hW; go_simp⟩) (by assumption) ?_
              try simp only [Act.put, List.setIfInBounds_toArray, List.set_cons_zero, List.set_cons_succ]
              refine wpAnyH_take (i := 6) (v := .bool false) (List.getElem?_toArray.trans rfl) (by kernel_rfl) (by kernel_rfl) (by kernel_rfl) (fun _ _ _ h => h) (Or.inl ⟨by rfl, fun W hW => by obtain ⟨⟨q0, q1⟩, q2, q3, q4⟩ := HQ2.out W hW; clear hW; go_simp⟩) (by assumption) ?_
              try simp only [Act.put, List.setIfInBounds_toArray, List.set_cons_zero, List.set_cons_succ]
              refine wpAnyH_take (i := 7) (v := .bool false) (List.getElem?_toArray.trans rfl) (by kernel_rfl) (by kernel_rfl) (by kernel_rfl) (fun _ _ _ h => h) (Or.inl ⟨by rfl, fun W hW => by obtain ⟨⟨q0, q1⟩, q2, q3, q4⟩ := HQ2.out W hW; clear hW; go_simp⟩) (by assumption) ?_
              try simp only [Act.put, List.setIfInBounds_toArray, List.set_cons_zero, List.set_cons_succ]
              refine wpAnyH_take (i := 8) (v := undef) (List.getElem?_toArray.trans rfl) (by kernel_rfl) (by kernel_rfl) (by kernel_rfl) (fun _ _ _ h => h) (Or.inr ⟨by rfl, rfl⟩) (by assumption) ?_
              try simp only [Act.put, List.setIfInBounds_toArray, List.set_cons_zero, List.set_cons_succ]
              refine wpAnyH_take (i := 9) (v := undef) (List.getElem?_toArray.trans rfl) (by kernel_rfl) (by kernel_rfl) (by kernel_rfl) (fun _ _ _ h => h) (Or.inr ⟨by rfl, rfl⟩) (by assumption) ?_
              try simp only [Act.put, List.setIfInBounds_toArray, List.set_cons_zero, List.set_cons_succ]
              refine wpAnyH_take (i := 10) (v := undef) (List.getElem?_toArray.trans rfl) (by kernel_rfl) (by kernel_rfl) (by kernel_rfl) (fun _ _ _ h => h) (Or.inr ⟨by rfl, rfl⟩) (by assumption) ?_
              try simp only [Act.put, List.setIfInBounds_toArray, List.set_cons_zero, List.set_cons_succ]
              refine wpAnyH_take (i := 11) (v := undef) (List.getElem?_toArray.trans rfl) (by kernel_rfl) (by kernel_rfl) (by kernel_rfl) (fun _ _ _ h => h) (Or.inr ⟨by rfl, rfl⟩) (by assumption) ?_
              try simp only [Act.put, List.setIfInBounds_toArray, List.set_cons_zero, List.set_cons_succ]
              refine wpAnyH_take (i := 12) (v := undef) (List.getElem?_toArray.trans rfl) (by kernel_rfl) (by kernel_rfl) (by kernel_rfl) (fun _ _ _ h => h) (Or.inr ⟨by rfl, rfl⟩) (by assumption) ?_
              try simp only [Act.put, List.setIfInBounds_toArray, List.set_cons_zero, List.set_cons_succ]
              refine wpAnyH_take (i := 13) (v := undef) (List.getElem?_toArray.trans rfl) (by kernel_rfl) (by kernel_rfl) (by kernel_rfl) (fun _ _ _ h => h) (Or.inr ⟨by rfl, rfl⟩) (by assumption) ?_
              try simp only [Act.put, List.setIfInBounds_toArray, List.set_cons_zero, List.set_cons_succ]
              refine wpAnyH_take (i := 14) (v := undef) (List.getElem?_toArray.trans rfl) (by kernel_rfl) (by kernel_rfl) (by kernel_rfl) (fun _ _ _ h => h) (Or.inr ⟨by rfl, rfl⟩) (by assumption) ?_
              try simp only [Act.put, List.setIfInBounds_toArray, List.set_cons_zero, List.set_cons_succ]
              refine wpAnyH_take (i := 15) (v := undef) (List.getElem?_toArray.trans rfl) (by kernel_rfl) (by kernel_rfl) (by kernel_rfl) (fun _ _ _ h => h) (Or.inr ⟨by rfl, rfl⟩) (by assumption) ?_
              try simp only [Act.put, List.setIfInBounds_toArray, List.set_cons_zero, List.set_cons_succ]
              refine wpAnyH_take (i := 16) (v := undef) (List.getElem?_toArray.trans rfl) (by kernel_rfl) (by kernel_rfl) (by kernel_rfl) (fun _ _ _ h => h) (Or.inr ⟨by rfl, rfl⟩) (by assumption) ?_
              try simp only [Act.put, List.setIfInBounds_toArray, List.set_cons_zero, List.set_cons_succ]
              refine wpAnyH_take (i := 17) (v := .bool false) (List.getElem?_toArray.trans rfl) (by kernel_rfl) (by kernel_rfl) (by kernel_rfl) (fun _ _ _ h => h) (Or.inl ⟨by rfl, fun W hW => by clear hW; go_simp⟩) (by assumption) ?_
              try simp only [Act.put, List.setIfInBounds_toArray, List.set_cons_zero, List.set_cons_succ]
              refine wpAnyH_done (by kernel_rfl) ?_ _
              clear hHeld
              go_wp2_with fail
              have HB6 := Lib.hid (HB4.out.trans ((Hb.out.trans ((show Below wr.heap.size wr wr.drew from below_dn ⟨1, rfl⟩).mono Hb.out.size)).mono HB4.out.size))
              have HQ6 := Lib.hid (fun V (h : Below wr.drew.heap.size wr.drew V) => HQ2.out V ((show Below wr.heap.size wr wr.drew from below_dn ⟨1, rfl⟩).trans h))
              clear HQ2
              generalize wr.drew = wi at *
              have HW0 := Lib.hid (show Below wi.heap.size wi wi.drew from below_dn ⟨1, rfl⟩)
              have i6 : (0 : Int) ≤ (0 : Int) := by omega
              have i7 : (0 : Int) ≤ (0 : Int) := by omega
              have i8 : (0 : Int) ≤ (0 : Int) := by omega
              refine wp_region_drawT (S := fun V => Below wi.heap.size wi V) 18 (by kernel_rfl) (by kernel_rfl) HW0.out (fun hHeld => ?_)
              try simp only [Act.put, List.setIfInBounds_toArray, List.set_cons_zero, List.set_cons_succ]
              refine drawT_take (i := 0) (v := .pointer (some ⟨GB, 0, none⟩)) (List.getElem?_toArray.trans rfl) (by kernel_rfl) (by kernel_rfl) (by kernel_rfl) (by kernel_rfl) (fun _ _ _ h => h) (Or.inl ⟨by rfl, fun W hW => by obtain ⟨⟨q0, q1⟩, q2, q3, q4⟩ := HQ6.out W hW; clear hW; go_simp⟩) (by assumption) ?_
              try simp only [Act.put, List.setIfInBounds_toArray, List.set_cons_zero, List.set_cons_succ]
              refine drawT_take (i := 1) (v := .pointer (some ⟨GB, 0, none⟩)) (List.getElem?_toArray.trans rfl) (by kernel_rfl) (by kernel_rfl) (by kernel_rfl) (by kernel_rfl) (fun _ _ _ h => h) (Or.inl ⟨by rfl, fun W hW => by obtain ⟨⟨q0, q1⟩, q2, q3, q4⟩ := HQ6.out W hW; clear hW; go_simp⟩) (by assumption) ?_
              try simp only [Act.put, List.setIfInBounds_toArray, List.set_cons_zero, List.set_cons_succ]
              refine drawT_take (i := 2) (v := .pointer (some ⟨GB, 0, none⟩)) (List.getElem?_toArray.trans rfl) (by kernel_rfl) (by kernel_rfl) (by kernel_rfl) (by kernel_rfl) (fun _ _ _ h => h) (Or.inl ⟨by rfl, fun W hW => by obtain ⟨⟨q0, q1⟩, q2, q3, q4⟩ := HQ6.out W hW; clear hW; go_simp⟩) (by assumption) ?_
              try simp only [Act.put, List.setIfInBounds_toArray, List.set_cons_zero, List.set_cons_succ]
              refine drawT_take (i := 3) (v := .pointer (some ⟨GB, 1, none⟩)) (List.getElem?_toArray.trans rfl) (by kernel_rfl) (by kernel_rfl) (by kernel_rfl) (by kernel_rfl) (fun _ _ _ h => h) (Or.inl ⟨by rfl, fun W hW => by obtain ⟨⟨q0, q1⟩, q2, q3, q4⟩ := HQ6.out W hW; clear hW; go_simp⟩) (by assumption) ?_
              try simp only [Act.put, List.setIfInBounds_toArray, List.set_cons_zero, List.set_cons_succ]
              refine drawT_take (i := 4) (v := .slice none 0 0) (List.getElem?_toArray.trans rfl) (by kernel_rfl) (by kernel_rfl) (by kernel_rfl) (by kernel_rfl) (fun _ _ _ h => h) (Or.inl ⟨by rfl, fun W hW => by obtain ⟨⟨q0, q1⟩, q2, q3, q4⟩ := HQ6.out W hW; clear hW; go_simp⟩) (by assumption) ?_
              try simp only [Act.put, List.setIfInBounds_toArray, List.set_cons_zero, List.set_cons_succ]
              refine drawT_take (i := 5) (v := .int .i64 0) (List.getElem?_toArray.trans rfl) (by kernel_rfl) (by kernel_rfl) (by kernel_rfl) (by kernel_rfl) (fun _ _ _ h => h) (Or.inl ⟨by rfl, fun W hW => by obtain ⟨⟨q0, q1⟩, q2, q3, q4⟩ := HQ6.out W hW; clear hW; go_simp⟩) (by assumption) ?_
              try simp only [Act.put, List.setIfInBounds_toArray, List.set_cons_zero, List.set_cons_succ]
              refine drawT_take (i := 6) (v := .int .i64 0) (List.getElem?_toArray.trans rfl) (by kernel_rfl) (by kernel_rfl) (by kernel_rfl) (by kernel_rfl) (fun _ _ _ h => h) (Or.inl ⟨by rfl, fun W hW => by obtain ⟨⟨q0, q1⟩, q2, q3, q4⟩ := HQ6.out W hW; clear hW; go_simp⟩) (by assumption) ?_
              try simp only [Act.put, List.setIfInBounds_toArray, List.set_cons_zero, List.set_cons_succ]
              refine drawT_take (i := 7) (v := .slice none 0 0) (List.getElem?_toArray.trans rfl) (by kernel_rfl) (by kernel_rfl) (by kernel_rfl) (by kernel_rfl) (fun _ _ _ h => h) (Or.inl ⟨by rfl, fun W hW => by obtain ⟨⟨q0, q1⟩, q2, q3, q4⟩ := HQ6.out W hW; clear hW; go_simp⟩) (by assumption) ?_
              try simp only [Act.put, List.setIfInBounds_toArray, List.set_cons_zero, List.set_cons_succ]
              refine drawT_take (i := 8) (v := .agg #[.string ⟨src.toArray⟩, .string ⟨dst.toArray⟩, .int .i64 rel]) (List.getElem?_toArray.trans rfl) (by kernel_rfl) (by kernel_rfl) (by kernel_rfl) (by kernel_rfl) (fun _ _ _ h => h) (Or.inl ⟨by rfl, fun W hW => by obtain ⟨⟨q0, q1⟩, q2, q3, q4⟩ := HQ6.out W hW; clear hW; go_simp⟩) (by assumption) ?_
              try simp only [Act.put, List.setIfInBounds_toArray, List.set_cons_zero, List.set_cons_succ]
              refine drawT_take (i := 10) (v := .pointer (some ⟨GB, 0, none⟩)) (List.getElem?_toArray.trans rfl) (by kernel_rfl) (by kernel_rfl) (by kernel_rfl) (by kernel_rfl) (fun _ _ _ h => h) (Or.inl ⟨by rfl, fun W hW => by obtain ⟨⟨q0, q1⟩, q2, q3, q4⟩ := HQ6.out W hW; clear hW; go_simp⟩) (by assumption) ?_
              try simp only [Act.put, List.setIfInBounds_toArray, List.set_cons_zero, List.set_cons_succ]
              refine drawT_take (i := 11) (v := .pointer (some ⟨GB, 0, none⟩)) (List.getElem?_toArray.trans rfl) (by kernel_rfl) (by kernel_rfl) (by kernel_rfl) (by kernel_rfl) (fun _ _ _ h => h) (Or.inl ⟨by rfl, fun W hW => by obtain ⟨⟨q0, q1⟩, q2, q3, q4⟩ := HQ6.out W hW; clear hW; go_simp⟩) (by assumption) ?_
              try simp only [Act.put, List.setIfInBounds_toArray, List.set_cons_zero, List.set_cons_succ]
              refine drawT_take (i := 12) (v := .pointer (some ⟨GB, 1, none⟩)) (List.getElem?_toArray.trans rfl) (by kernel_rfl) (by kernel_rfl) (by kernel_rfl) (by kernel_rfl) (fun _ _ _ h => h) (Or.inl ⟨by rfl, fun W hW => by obtain ⟨⟨q0, q1⟩, q2, q3, q4⟩ := HQ6.out W hW; clear hW; go_simp⟩) (by assumption) ?_
              try simp only [Act.put, List.setIfInBounds_toArray, List.set_cons_zero, List.set_cons_succ]
              refine drawT_take (i := 13) (v := .slice none 0 0) (List.getElem?_toArray.trans rfl) (by kernel_rfl) (by kernel_rfl) (by kernel_rfl) (by kernel_rfl) (fun _ _ _ h => h) (Or.inl ⟨by rfl, fun W hW => by obtain ⟨⟨q0, q1⟩, q2, q3, q4⟩ := HQ6.out W hW; clear hW; go_simp⟩) (by assumption) ?_
              try simp only [Act.put, List.setIfInBounds_toArray, List.set_cons_zero, List.set_cons_succ]
              refine drawT_take (i := 14) (v := .int .i64 0) (List.getElem?_toArray.trans rfl) (by kernel_rfl) (by kernel_rfl) (by kernel_rfl) (by kernel_rfl) (fun _ _ _ h => h) (Or.inl ⟨by rfl, fun W hW => by obtain ⟨⟨q0, q1⟩, q2, q3, q4⟩ := HQ6.out W hW; clear hW; go_simp⟩) (by assumption) ?_
              try simp only [Act.put, List.setIfInBounds_toArray, List.set_cons_zero, List.set_cons_succ]
              refine drawT_take (i := 15) (v := .slice none 0 0) (List.getElem?_toArray.trans rfl) (by kernel_rfl) (by kernel_rfl) (by kernel_rfl) (by kernel_rfl) (fun _ _ _ h => h) (Or.inl ⟨by rfl, fun W hW => by obtain ⟨⟨q0, q1⟩, q2, q3, q4⟩ := HQ6.out W hW; clear hW; go_simp⟩) (by assumption) ?_
              try simp only [Act.put, List.setIfInBounds_toArray, List.set_cons_zero, List.set_cons_succ]
              refine drawT_one (i := 9) (List.getElem?_toArray.trans rfl) (by kernel_rfl) (by kernel_rfl) (fun K hK => ?_)
              clear hHeld
              rw [if_pos (by rfl)]
              go_simp
              have HW1 := Lib.hid (show Below wi.heap.size wi (wi.drew.alloc (.cells #[.string ⟨src.toArray⟩, .string ⟨dst.toArray⟩, .int .i64 rel] 58)) from HW0.out.alloc HW0.out.size _)
              refine hK.out _ _ HW1.out (fun hHeld => ?_)
              clear hK K
              try simp only [Act.put, List.setIfInBounds_toArray, List.set_cons_zero, List.set_cons_succ]
              refine drawT_one (i := 16) (List.getElem?_toArray.trans rfl) (by kernel_rfl) (by kernel_rfl) (fun K hK => ?_)
              clear hHeld
              refine step_append_rows (by rfl) (.tmp 69) (.tmp 75) 27 (by rfl) wi.heap.size 58 i0 (.agg #[.string ⟨#[]⟩, .string ⟨#[]⟩, .int .i64 0]) 3 40 Tryz.underlying27 hi0 hz0 hz1 hz2 (by rfl) (by decide) (.slice (some ⟨wi.heap.size, 0, none⟩) 1 1) 1 (encE ⟨src, dst, rel⟩) (by rfl) (own_built3 wi.drew _ _ _ 58) none 0 0 (flatL encE (([] : List EdgeS).drop 0)) (by rfl)
                  (by rw [flatL_length (k := 3) (fun _ => rfl), List.length_drop] <;> first | omega | rfl) (RowRd.flat (enc := encE) (k := 3) (l := ([] : List EdgeS).drop 0) (fun _ => rfl) (by omega) (fun i h => absurd h (by simp))) (flatL_oneCell encE_one _) (by unfold maxLen; omega) (by omega) (by simp) ?_
              intro v1 w7 hown1 hgrow1
              obtain ⟨g1, cap1, rfl, hcell1, hbg1, hlg1⟩ := own_openK hown1 (by omega)
              have HW2 := Lib.hid (show Below wi.heap.size wi w7 from HW1.out.grown hgrow1 (by simp) (fun g hg => by simp [Value.ownBlock] at hg; omega))
              clear hown1 hgrow1
              refine hK.out _ _ HW2.out (fun hHeld => ?_)
              clear hK K
              try simp only [Act.put, List.setIfInBounds_toArray, List.set_cons_zero, List.set_cons_succ]
              refine drawT_one (i := 17) (List.getElem?_toArray.trans rfl) (by kernel_rfl) (by kernel_rfl) (fun K hK => ?_)
              clear hHeld
              refine step_append_grows (by rfl) (.tmp 67) (.tmp 76) 27 (by rfl) 58 i0 (.agg #[.string ⟨#[]⟩, .string ⟨#[]⟩, .int .i64 0]) 3 40 Tryz.underlying27 hi0 hz0 hz1 hz2 (by rfl) (by decide) none 0 0 (flatL encE (([] : List EdgeS).take 0)) (by rfl) (by intro _; exact ⟨by omega, by omega⟩) (by rw [flatL_length (k := 3) (fun _ => rfl), List.length_take] <;> first | omega | rfl)
                  (fun b e => by cases e) ⟨g1, 0, none⟩ (1 + 0) cap1 (encE ⟨src, dst, rel⟩ ++ flatL encE (([] : List EdgeS).drop 0)) (by rfl) (by rw [List.length_append, flatL_length (k := 3) (fun _ => rfl), List.length_drop]; show 3 + _ = _; first | omega | rfl) hcell1 (by intro u hu; rcases List.mem_append.1 hu with q | q; exact encE_one _ u q; exact flatL_oneCell encE_one _ u q) (by omega) (by unfold maxLen; omega) (by omega) ?_
              intro v2 w8 hown2 hgrow2
              obtain ⟨oa2, cap2, rfl⟩ := ownsRow_form hown2
              have HW3 := Lib.hid (show Below wi.heap.size wi w8 from HW2.out.grown hgrow2 HW2.out.size (fun g hg => by cases hg))
              have HO2 := Lib.hid (And.intro hown2 HW2.out.size)
              clear hcell1 hown2 hgrow2
              refine hK.out _ _ HW3.out (fun hHeld => ?_)
              clear hK K
              try simp only [Act.put, List.setIfInBounds_toArray, List.set_cons_zero, List.set_cons_succ]
              refine drawT_done (by kernel_rfl) ?_
              clear hHeld
              have hgb := rd (heap_below HBX.out (HB6.out.trans (HW3.out.mono HB6.out.size)))
              have s1 := (HQ6.out w8 HW3.out).1.2; have s2 := hgb.2.1 1; have s3 := hgb.2.2.1
              clear hgb
              go_wp2_with fail
              refine bodyPost_ret (results_none rfl _ _ _) rfl ?_
              have hh := edge_end HG.out HBX.out (HB6.out.trans (HW3.out.mono HB6.out.size)) HS.out ((nodeOf_mem ns dst).1 HOK.out) HRL.out HI.out (by first | omega | rfl) hk (Nat.le_trans HB6.out.size HO2.out.2) HO2.out.1 rfl
              exact ⟨rfl, by rw [HE2.out]; exact hh.1, hh.2⟩
            | some a =>
              obtain ⟨b, o, rfl⟩ := HRA.out.form a rfl
              go_wp2_with fail
              refine wp_region_held_drew (S := fun V => Below wr.heap.size wr V) (by kernel_rfl) (below_dn ⟨1, rfl⟩) (fun hHeld => ?_)
              try simp only [Act.put, List.setIfInBounds_toArray, List.set_cons_zero, List.set_cons_succ]
              refine wpAnyH_take (i := 0) (v := .int .i64 es.length) (List.getElem?_toArray.trans rfl) (by kernel_rfl) (by kernel_rfl) (by kernel_rfl) (fun _ _ _ h => h) (Or.inl ⟨by rfl, fun W hW => by obtain ⟨⟨q0, q1⟩, q2, q3, q4⟩ := HQ2.out W hW; clear hW; go_simp⟩) (by assumption) ?_
              try simp only [Act.put, List.setIfInBounds_toArray, List.set_cons_zero, List.set_cons_succ]
              refine wpAnyH_take (i := 1) (v := .pointer (some ⟨GB, 0, none⟩)) (List.getElem?_toArray.trans rfl) (by kernel_rfl) (by kernel_rfl) (by kernel_rfl) (fun _ _ _ h => h) (Or.inl ⟨by rfl, fun W hW => by obtain ⟨⟨q0, q1⟩, q2, q3, q4⟩ := HQ2.out W hW; clear hW; go_simp⟩) (by assumption) ?_
              try simp only [Act.put, List.setIfInBounds_toArray, List.set_cons_zero, List.set_cons_succ]
              refine wpAnyH_take (i := 2) (v := .pointer (some ⟨GB, 0, none⟩)) (List.getElem?_toArray.trans rfl) (by kernel_rfl) (by kernel_rfl) (by kernel_rfl) (fun _ _ _ h => h) (Or.inl ⟨by rfl, fun W hW => by obtain ⟨⟨q0, q1⟩, q2, q3, q4⟩ := HQ2.out W hW; clear hW; go_simp⟩) (by assumption) ?_
              try simp only [Act.put, List.setIfInBounds_toArray, List.set_cons_zero, List.set_cons_succ]
              refine wpAnyH_take (i := 3) (v := .pointer (some ⟨GB, 1, none⟩)) (List.getElem?_toArray.trans rfl) (by kernel_rfl) (by kernel_rfl) (by kernel_rfl) (fun _ _ _ h => h) (Or.inl ⟨by rfl, fun W hW => by obtain ⟨⟨q0, q1⟩, q2, q3, q4⟩ := HQ2.out W hW; clear hW; go_simp⟩) (by assumption) ?_
              try simp only [Act.put, List.setIfInBounds_toArray, List.set_cons_zero, List.set_cons_succ]
              refine wpAnyH_take (i := 4) (v := .slice (some ⟨b, o, none⟩) es.length ce) (List.getElem?_toArray.trans rfl) (by kernel_rfl) (by kernel_rfl) (by kernel_rfl) (fun _ _ _ h => h) (Or.inl ⟨by rfl, fun W hW => by obtain ⟨⟨q0, q1⟩, q2, q3, q4⟩ := HQ2.out W hW; clear hW; go_simp⟩) (by assumption) ?_
              try simp only [Act.put, List.setIfInBounds_toArray, List.set_cons_zero, List.set_cons_succ]
              refine wpAnyH_take (i := 5) (v := .int .i64 es.length) (List.getElem?_toArray.trans rfl) (by kernel_rfl) (by kernel_rfl) (by kernel_rfl) (fun _ _ _ h => h) (Or.inl ⟨by rfl, fun W hW => by obtain ⟨⟨q0, q1⟩, q2, q3, q4⟩ := HQ2.out W hW; clear hW; go_simp⟩) (by assumption) ?_
              try simp only [Act.put, List.setIfInBounds_toArray, List.set_cons_zero, List.set_cons_succ]
              refine wpAnyH_take (i := 6) (v := .bool false) (List.getElem?_toArray.trans rfl) (by kernel_rfl) (by kernel_rfl) (by kernel_rfl) (fun _ _ _ h => h) (Or.inl ⟨by rfl, fun W hW => by obtain ⟨⟨q0, q1⟩, q2, q3, q4⟩ := HQ2.out W hW; clear hW; go_simp⟩) (by assumption) ?_
              try simp only [Act.put, List.setIfInBounds_toArray, List.set_cons_zero, List.set_cons_succ]
              refine wpAnyH_take (i := 7) (v := .bool false) (List.getElem?_toArray.trans rfl) (by kernel_rfl) (by kernel_rfl) (by kernel_rfl) (fun _ _ _ h => h) (Or.inl ⟨by rfl, fun W hW => by obtain ⟨⟨q0, q1⟩, q2, q3, q4⟩ := HQ2.out W hW; clear hW; go_simp⟩) (by assumption) ?_
              try simp only [Act.put, List.setIfInBounds_toArray, List.set_cons_zero, List.set_cons_succ]
              refine wpAnyH_take (i := 8) (v := undef) (List.getElem?_toArray.trans rfl) (by kernel_rfl) (by kernel_rfl) (by kernel_rfl) (fun _ _ _ h => h) (Or.inr ⟨by rfl, rfl⟩) (by assumption) ?_
              try simp only [Act.put, List.setIfInBounds_toArray, List.set_cons_zero, List.set_cons_succ]
              refine wpAnyH_take (i := 9) (v := undef) (List.getElem?_toArray.trans rfl) (by kernel_rfl) (by kernel_rfl) (by kernel_rfl) (fun _ _ _ h => h) (Or.inr ⟨by rfl, rfl⟩) (by assumption) ?_
              try simp only [Act.put, List.setIfInBounds_toArray, List.set_cons_zero, List.set_cons_succ]
              refine wpAnyH_take (i := 10) (v := undef) (List.getElem?_toArray.trans rfl) (by kernel_rfl) (by kernel_rfl) (by kernel_rfl) (fun _ _ _ h => h) (Or.inr ⟨by rfl, rfl⟩) (by assumption) ?_
              try simp only [Act.put, List.setIfInBounds_toArray, List.set_cons_zero, List.set_cons_succ]
              refine wpAnyH_take (i := 11) (v := undef) (List.getElem?_toArray.trans rfl) (by kernel_rfl) (by kernel_rfl) (by kernel_rfl) (fun _ _ _ h => h) (Or.inr ⟨by rfl, rfl⟩) (by assumption) ?_
              try simp only [Act.put, List.setIfInBounds_toArray, List.set_cons_zero, List.set_cons_succ]
              refine wpAnyH_take (i := 12) (v := undef) (List.getElem?_toArray.trans rfl) (by kernel_rfl) (by kernel_rfl) (by kernel_rfl) (fun _ _ _ h => h) (Or.inr ⟨by rfl, rfl⟩) (by assumption) ?_
              try simp only [Act.put, List.setIfInBounds_toArray, List.set_cons_zero, List.set_cons_succ]
              refine wpAnyH_take (i := 13) (v := undef) (List.getElem?_toArray.trans rfl) (by kernel_rfl) (by kernel_rfl) (by kernel_rfl) (fun _ _ _ h => h) (Or.inr ⟨by rfl, rfl⟩) (by assumption) ?_
              try simp only [Act.put, List.setIfInBounds_toArray, List.set_cons_zero, List.set_cons_succ]
              refine wpAnyH_take (i := 14) (v := undef) (List.getElem?_toArray.trans rfl) (by kernel_rfl) (by kernel_rfl) (by kernel_rfl) (fun _ _ _ h => h) (Or.inr ⟨by rfl, rfl⟩) (by assumption) ?_
              try simp only [Act.put, List.setIfInBounds_toArray, List.set_cons_zero, List.set_cons_succ]
              refine wpAnyH_take (i := 15) (v := undef) (List.getElem?_toArray.trans rfl) (by kernel_rfl) (by kernel_rfl) (by kernel_rfl) (fun _ _ _ h => h) (Or.inr ⟨by rfl, rfl⟩) (by assumption) ?_
              try simp only [Act.put, List.setIfInBounds_toArray, List.set_cons_zero, List.set_cons_succ]
              refine wpAnyH_take (i := 16) (v := undef) (List.getElem?_toArray.trans rfl) (by kernel_rfl) (by kernel_rfl) (by kernel_rfl) (fun _ _ _ h => h) (Or.inr ⟨by rfl, rfl⟩) (by assumption) ?_
              try simp only [Act.put, List.setIfInBounds_toArray, List.set_cons_zero, List.set_cons_succ]
              refine wpAnyH_take (i := 17) (v := .bool false) (List.getElem?_toArray.trans rfl) (by kernel_rfl) (by kernel_rfl) (by kernel_rfl) (fun _ _ _ h => h) (Or.inl ⟨by rfl, fun W hW => by clear hW; go_simp⟩) (by assumption) ?_
              try simp only [Act.put, List.setIfInBounds_toArray, List.set_cons_zero, List.set_cons_succ]
              refine wpAnyH_done (by kernel_rfl) ?_ _
              clear hHeld
              go_wp2_with fail
              have HB6 := Lib.hid (HB4.out.trans ((Hb.out.trans ((show Below wr.heap.size wr wr.drew from below_dn ⟨1, rfl⟩).mono Hb.out.size)).mono HB4.out.size))
              have HQ6 := Lib.hid (fun V (h : Below wr.drew.heap.size wr.drew V) => HQ2.out V ((show Below wr.heap.size wr wr.drew from below_dn ⟨1, rfl⟩).trans h))
              clear HQ2
              generalize wr.drew = wi at *
              by_cases hkc : ce = es.length
              · subst hkc
                have HW0 := Lib.hid (show Below wi.heap.size wi wi.drew from below_dn ⟨1, rfl⟩)
                have i6 : (es.length : Int) ≤ (es.length : Int) := by omega
                have i7 : (es.length : Int) ≤ (es.length : Int) := by omega
                have i8 : (es.length : Int) ≤ (es.length : Int) := by omega
                refine wp_region_drawT (S := fun V => Below wi.heap.size wi V) 18 (by kernel_rfl) (by kernel_rfl) HW0.out (fun hHeld => ?_)
                try simp only [Act.put, List.setIfInBounds_toArray, List.set_cons_zero, List.set_cons_succ]
                refine drawT_take (i := 0) (v := .pointer (some ⟨GB, 0, none⟩)) (List.getElem?_toArray.trans rfl) (by kernel_rfl) (by kernel_rfl) (by kernel_rfl) (by kernel_rfl) (fun _ _ _ h => h) (Or.inl ⟨by rfl, fun W hW => by obtain ⟨⟨q0, q1⟩, q2, q3, q4⟩ := HQ6.out W hW; clear hW; go_simp⟩) (by assumption) ?_
                try simp only [Act.put, List.setIfInBounds_toArray, List.set_cons_zero, List.set_cons_succ]
                refine drawT_take (i := 1) (v := .pointer (some ⟨GB, 0, none⟩)) (List.getElem?_toArray.trans rfl) (by kernel_rfl) (by kernel_rfl) (by kernel_rfl) (by kernel_rfl) (fun _ _ _ h => h) (Or.inl ⟨by rfl, fun W hW => by obtain ⟨⟨q0, q1⟩, q2, q3, q4⟩ := HQ6.out W hW; clear hW; go_simp⟩) (by assumption) ?_
                try simp only [Act.put, List.setIfInBounds_toArray, List.set_cons_zero, List.set_cons_succ]
                refine drawT_take (i := 2) (v := .pointer (some ⟨GB, 0, none⟩)) (List.getElem?_toArray.trans rfl) (by kernel_rfl) (by kernel_rfl) (by kernel_rfl) (by kernel_rfl) (fun _ _ _ h => h) (Or.inl ⟨by rfl, fun W hW => by obtain ⟨⟨q0, q1⟩, q2, q3, q4⟩ := HQ6.out W hW; clear hW; go_simp⟩) (by assumption) ?_
                try simp only [Act.put, List.setIfInBounds_toArray, List.set_cons_zero, List.set_cons_succ]
                refine drawT_take (i := 3) (v := .pointer (some ⟨GB, 1, none⟩)) (List.getElem?_toArray.trans rfl) (by kernel_rfl) (by kernel_rfl) (by kernel_rfl) (by kernel_rfl) (fun _ _ _ h => h) (Or.inl ⟨by rfl, fun W hW => by obtain ⟨⟨q0, q1⟩, q2, q3, q4⟩ := HQ6.out W hW; clear hW; go_simp⟩) (by assumption) ?_
                try simp only [Act.put, List.setIfInBounds_toArray, List.set_cons_zero, List.set_cons_succ]
                refine drawT_take (i := 4) (v := .slice (some ⟨b, o, none⟩) es.length es.length) (List.getElem?_toArray.trans rfl) (by kernel_rfl) (by kernel_rfl) (by kernel_rfl) (by kernel_rfl) (fun _ _ _ h => h) (Or.inl ⟨by rfl, fun W hW => by obtain ⟨⟨q0, q1⟩, q2, q3, q4⟩ := HQ6.out W hW; clear hW; go_simp⟩) (by assumption) ?_
                try simp only [Act.put, List.setIfInBounds_toArray, List.set_cons_zero, List.set_cons_succ]
                refine drawT_take (i := 5) (v := .int .i64 es.length) (List.getElem?_toArray.trans rfl) (by kernel_rfl) (by kernel_rfl) (by kernel_rfl) (by kernel_rfl) (fun _ _ _ h => h) (Or.inl ⟨by rfl, fun W hW => by obtain ⟨⟨q0, q1⟩, q2, q3, q4⟩ := HQ6.out W hW; clear hW; go_simp⟩) (by assumption) ?_
                try simp only [Act.put, List.setIfInBounds_toArray, List.set_cons_zero, List.set_cons_succ]
                refine drawT_take (i := 6) (v := .int .i64 es.length) (List.getElem?_toArray.trans rfl) (by kernel_rfl) (by kernel_rfl) (by kernel_rfl) (by kernel_rfl) (fun _ _ _ h => h) (Or.inl ⟨by rfl, fun W hW => by obtain ⟨⟨q0, q1⟩, q2, q3, q4⟩ := HQ6.out W hW; clear hW; go_simp⟩) (by assumption) ?_
                try simp only [Act.put, List.setIfInBounds_toArray, List.set_cons_zero, List.set_cons_succ]
                refine drawT_take (i := 7) (v := .slice (some ⟨b, o, none⟩) es.length es.length) (List.getElem?_toArray.trans rfl) (by kernel_rfl) (by kernel_rfl) (by kernel_rfl) (by kernel_rfl) (fun _ _ _ h => h) (Or.inl ⟨by rfl, fun W hW => by obtain ⟨⟨q0, q1⟩, q2, q3, q4⟩ := HQ6.out W hW; clear hW; go_simp⟩) (by assumption) ?_
                try simp only [Act.put, List.setIfInBounds_toArray, List.set_cons_zero, List.set_cons_succ]
                refine drawT_take (i := 8) (v := .agg #[.string ⟨src.toArray⟩, .string ⟨dst.toArray⟩, .int .i64 rel]) (List.getElem?_toArray.trans rfl) (by kernel_rfl) (by kernel_rfl) (by kernel_rfl) (by kernel_rfl) (fun _ _ _ h => h) (Or.inl ⟨by rfl, fun W hW => by obtain ⟨⟨q0, q1⟩, q2, q3, q4⟩ := HQ6.out W hW; clear hW; go_simp⟩) (by assumption) ?_
                try simp only [Act.put, List.setIfInBounds_toArray, List.set_cons_zero, List.set_cons_succ]
                refine drawT_take (i := 10) (v := .pointer (some ⟨GB, 0, none⟩)) (List.getElem?_toArray.trans rfl) (by kernel_rfl) (by kernel_rfl) (by kernel_rfl) (by kernel_rfl) (fun _ _ _ h => h) (Or.inl ⟨by rfl, fun W hW => by obtain ⟨⟨q0, q1⟩, q2, q3, q4⟩ := HQ6.out W hW; clear hW; go_simp⟩) (by assumption) ?_
                try simp only [Act.put, List.setIfInBounds_toArray, List.set_cons_zero, List.set_cons_succ]
                refine drawT_take (i := 11) (v := .pointer (some ⟨GB, 0, none⟩)) (List.getElem?_toArray.trans rfl) (by kernel_rfl) (by kernel_rfl) (by kernel_rfl) (by kernel_rfl) (fun _ _ _ h => h) (Or.inl ⟨by rfl, fun W hW => by obtain ⟨⟨q0, q1⟩, q2, q3, q4⟩ := HQ6.out W hW; clear hW; go_simp⟩) (by assumption) ?_
                try simp only [Act.put, List.setIfInBounds_toArray, List.set_cons_zero, List.set_cons_succ]
                refine drawT_take (i := 12) (v := .pointer (some ⟨GB, 1, none⟩)) (List.getElem?_toArray.trans rfl) (by kernel_rfl) (by kernel_rfl) (by kernel_rfl) (by kernel_rfl) (fun _ _ _ h => h) (Or.inl ⟨by rfl, fun W hW => by obtain ⟨⟨q0, q1⟩, q2, q3, q4⟩ := HQ6.out W hW; clear hW; go_simp⟩) (by assumption) ?_
                try simp only [Act.put, List.setIfInBounds_toArray, List.set_cons_zero, List.set_cons_succ]
                refine drawT_take (i := 13) (v := .slice (some ⟨b, o, none⟩) es.length es.length) (List.getElem?_toArray.trans rfl) (by kernel_rfl) (by kernel_rfl) (by kernel_rfl) (by kernel_rfl) (fun _ _ _ h => h) (Or.inl ⟨by rfl, fun W hW => by obtain ⟨⟨q0, q1⟩, q2, q3, q4⟩ := HQ6.out W hW; clear hW; go_simp⟩) (by assumption) ?_
                try simp only [Act.put, List.setIfInBounds_toArray, List.set_cons_zero, List.set_cons_succ]
                refine drawT_take (i := 14) (v := .int .i64 es.length) (List.getElem?_toArray.trans rfl) (by kernel_rfl) (by kernel_rfl) (by kernel_rfl) (by kernel_rfl) (fun _ _ _ h => h) (Or.inl ⟨by rfl, fun W hW => by obtain ⟨⟨q0, q1⟩, q2, q3, q4⟩ := HQ6.out W hW; clear hW; go_simp⟩) (by assumption) ?_
                try simp only [Act.put, List.setIfInBounds_toArray, List.set_cons_zero, List.set_cons_succ]
                refine drawT_take (i := 15) (v := .slice (some ⟨b, o, none⟩) 0 0) (List.getElem?_toArray.trans rfl) (by kernel_rfl) (by kernel_rfl) (by kernel_rfl) (by kernel_rfl) (fun _ _ _ h => h) (Or.inl ⟨by rfl, fun W hW => by obtain ⟨⟨q0, q1⟩, q2, q3, q4⟩ := HQ6.out W hW; clear hW; go_simp⟩) (by assumption) ?_
                try simp only [Act.put, List.setIfInBounds_toArray, List.set_cons_zero, List.set_cons_succ]
                refine drawT_one (i := 9) (List.getElem?_toArray.trans rfl) (by kernel_rfl) (by kernel_rfl) (fun K hK => ?_)
                clear hHeld
                rw [if_pos (by rfl)]
                go_simp
                have HW1 := Lib.hid (show Below wi.heap.size wi (wi.drew.alloc (.cells #[.string ⟨src.toArray⟩, .string ⟨dst.toArray⟩, .int .i64 rel] 58)) from HW0.out.alloc HW0.out.size _)
                refine hK.out _ _ HW1.out (fun hHeld => ?_)
                clear hK K
                try simp only [Act.put, List.setIfInBounds_toArray, List.set_cons_zero, List.set_cons_succ]
                refine drawT_one (i := 16) (List.getElem?_toArray.trans rfl) (by kernel_rfl) (by kernel_rfl) (fun K hK => ?_)
                clear hHeld
                refine step_append_rows (by rfl) (.tmp 69) (.tmp 75) 27 (by rfl) wi.heap.size 58 i0 (.agg #[.string ⟨#[]⟩, .string ⟨#[]⟩, .int .i64 0]) 3 40 Tryz.underlying27 hi0 hz0 hz1 hz2 (by rfl) (by decide) (.slice (some ⟨wi.heap.size, 0, none⟩) 1 1) 1 (encE ⟨src, dst, rel⟩) (by rfl) (own_built3 wi.drew _ _ _ 58) (some ⟨b, o, none⟩) 0 0 (flatL encE (es.drop es.length)) (by rfl)
                    (by rw [flatL_length (k := 3) (fun _ => rfl), List.length_drop] <;> first | omega | rfl) (RowRd.flat (enc := encE) (k := 3) (l := es.drop es.length) (fun _ => rfl) (by omega) (by rw [List.drop_eq_nil_of_le (Nat.le_refl _)]; exact fun i h => absurd h (by simp))) (flatL_oneCell encE_one _) (by unfold maxLen; omega) (by omega) (by simp) ?_
                intro v1 w7 hown1 hgrow1
                obtain ⟨g1, cap1, rfl, hcell1, hbg1, hlg1⟩ := own_openK hown1 (by omega)
                have HW2 := Lib.hid (show Below wi.heap.size wi w7 from HW1.out.grown hgrow1 (by simp) (fun g hg => by simp [Value.ownBlock] at hg; omega))
                clear hown1 hgrow1
                refine hK.out _ _ HW2.out (fun hHeld => ?_)
                clear hK K
                try simp only [Act.put, List.setIfInBounds_toArray, List.set_cons_zero, List.set_cons_succ]
                refine drawT_one (i := 17) (List.getElem?_toArray.trans rfl) (by kernel_rfl) (by kernel_rfl) (fun K hK => ?_)
                clear hHeld
                refine step_append_grows (by rfl) (.tmp 67) (.tmp 76) 27 (by rfl) 58 i0 (.agg #[.string ⟨#[]⟩, .string ⟨#[]⟩, .int .i64 0]) 3 40 Tryz.underlying27 hi0 hz0 hz1 hz2 (by rfl) (by decide) (some ⟨b, o, none⟩) es.length es.length (flatL encE (es.take es.length)) (by rfl) (by simp) (by rw [flatL_length (k := 3) (fun _ => rfl), List.length_take] <;> first | omega | rfl)
                    (RowRd.holds (fun _ => rfl) (by omega) (RowRd.take (HRA.out.row.below (HB6.out.trans (HW2.out.mono HB6.out.size))) es.length)) ⟨g1, 0, none⟩ (1 + 0) cap1 (encE ⟨src, dst, rel⟩ ++ flatL encE (es.drop es.length)) (by rfl) (by rw [List.length_append, flatL_length (k := 3) (fun _ => rfl), List.length_drop]; show 3 + _ = _; first | omega | rfl) hcell1 (by intro u hu; rcases List.mem_append.1 hu with q | q; exact encE_one _ u q; exact flatL_oneCell encE_one _ u q) (by omega) (by unfold maxLen; omega) (by omega) ?_
                intro v2 w8 hown2 hgrow2
                obtain ⟨oa2, cap2, rfl⟩ := ownsRow_form hown2
                have HW3 := Lib.hid (show Below wi.heap.size wi w8 from HW2.out.grown hgrow2 HW2.out.size (fun g hg => by cases hg))
                have HO2 := Lib.hid (And.intro hown2 HW2.out.size)
                clear hcell1 hown2 hgrow2
                refine hK.out _ _ HW3.out (fun hHeld => ?_)
                clear hK K
                try simp only [Act.put, List.setIfInBounds_toArray, List.set_cons_zero, List.set_cons_succ]
                refine drawT_done (by kernel_rfl) ?_
                clear hHeld
                have hgb := rd (heap_below HBX.out (HB6.out.trans (HW3.out.mono HB6.out.size)))
                have s1 := (HQ6.out w8 HW3.out).1.2; have s2 := hgb.2.1 1; have s3 := hgb.2.2.1
                clear hgb
                go_wp2_with fail
                refine bodyPost_ret (results_none rfl _ _ _) rfl ?_
                have hh := edge_end HG.out HBX.out (HB6.out.trans (HW3.out.mono HB6.out.size)) HS.out ((nodeOf_mem ns dst).1 HOK.out) HRL.out HI.out (by first | omega | rfl) hk (Nat.le_trans HB6.out.size HO2.out.2) HO2.out.1 rfl
                exact ⟨rfl, by rw [HE2.out]; exact hh.1, hh.2⟩
              · have HW0 := Lib.hid (show Below wi.heap.size wi wi.drew from below_dn ⟨1, rfl⟩)
                have i6 : (es.length : Int) ≤ (ce : Int) := by omega
                have i7 : (es.length : Int) ≤ (ce : Int) := by omega
                have i8 : (es.length : Int) ≤ (es.length : Int) := by omega
                refine wp_region_drawT (S := fun V => Below wi.heap.size wi V) 18 (by kernel_rfl) (by kernel_rfl) HW0.out (fun hHeld => ?_)
                try simp only [Act.put, List.setIfInBounds_toArray, List.set_cons_zero, List.set_cons_succ]
                refine drawT_take (i := 0) (v := .pointer (some ⟨GB, 0, none⟩)) (List.getElem?_toArray.trans rfl) (by kernel_rfl) (by kernel_rfl) (by kernel_rfl) (by kernel_rfl) (fun _ _ _ h => h) (Or.inl ⟨by rfl, fun W hW => by obtain ⟨⟨q0, q1⟩, q2, q3, q4⟩ := HQ6.out W hW; clear hW; go_simp⟩) (by assumption) ?_
                try simp only [Act.put, List.setIfInBounds_toArray, List.set_cons_zero, List.set_cons_succ]
                refine drawT_take (i := 1) (v := .pointer (some ⟨GB, 0, none⟩)) (List.getElem?_toArray.trans rfl) (by kernel_rfl) (by kernel_rfl) (by kernel_rfl) (by kernel_rfl) (fun _ _ _ h => h) (Or.inl ⟨by rfl, fun W hW => by obtain ⟨⟨q0, q1⟩, q2, q3, q4⟩ := HQ6.out W hW; clear hW; go_simp⟩) (by assumption) ?_
                try simp only [Act.put, List.setIfInBounds_toArray, List.set_cons_zero, List.set_cons_succ]
                refine drawT_take (i := 2) (v := .pointer (some ⟨GB, 0, none⟩)) (List.getElem?_toArray.trans rfl) (by kernel_rfl) (by kernel_rfl) (by kernel_rfl) (by kernel_rfl) (fun _ _ _ h => h) (Or.inl ⟨by rfl, fun W hW => by obtain ⟨⟨q0, q1⟩, q2, q3, q4⟩ := HQ6.out W hW; clear hW; go_simp⟩) (by assumption) ?_
                try simp only [Act.put, List.setIfInBounds_toArray, List.set_cons_zero, List.set_cons_succ]
                refine drawT_take (i := 3) (v := .pointer (some ⟨GB, 1, none⟩)) (List.getElem?_toArray.trans rfl) (by kernel_rfl) (by kernel_rfl) (by kernel_rfl) (by kernel_rfl) (fun _ _ _ h => h) (Or.inl ⟨by rfl, fun W hW => by obtain ⟨⟨q0, q1⟩, q2, q3, q4⟩ := HQ6.out W hW; clear hW; go_simp⟩) (by assumption) ?_
                try simp only [Act.put, List.setIfInBounds_toArray, List.set_cons_zero, List.set_cons_succ]
                refine drawT_take (i := 4) (v := .slice (some ⟨b, o, none⟩) es.length ce) (List.getElem?_toArray.trans rfl) (by kernel_rfl) (by kernel_rfl) (by kernel_rfl) (by kernel_rfl) (fun _ _ _ h => h) (Or.inl ⟨by rfl, fun W hW => by obtain ⟨⟨q0, q1⟩, q2, q3, q4⟩ := HQ6.out W hW; clear hW; go_simp⟩) (by assumption) ?_
                try simp only [Act.put, List.setIfInBounds_toArray, List.set_cons_zero, List.set_cons_succ]
                refine drawT_take (i := 5) (v := .int .i64 es.length) (List.getElem?_toArray.trans rfl) (by kernel_rfl) (by kernel_rfl) (by kernel_rfl) (by kernel_rfl) (fun _ _ _ h => h) (Or.inl ⟨by rfl, fun W hW => by obtain ⟨⟨q0, q1⟩, q2, q3, q4⟩ := HQ6.out W hW; clear hW; go_simp⟩) (by assumption) ?_
                try simp only [Act.put, List.setIfInBounds_toArray, List.set_cons_zero, List.set_cons_succ]
                refine drawT_take (i := 6) (v := .int .i64 es.length) (List.getElem?_toArray.trans rfl) (by kernel_rfl) (by kernel_rfl) (by kernel_rfl) (by kernel_rfl) (fun _ _ _ h => h) (Or.inl ⟨by rfl, fun W hW => by obtain ⟨⟨q0, q1⟩, q2, q3, q4⟩ := HQ6.out W hW; clear hW; go_simp⟩) (by assumption) ?_
                try simp only [Act.put, List.setIfInBounds_toArray, List.set_cons_zero, List.set_cons_succ]
                refine drawT_take (i := 7) (v := .slice (some ⟨b, o, none⟩) es.length es.length) (List.getElem?_toArray.trans rfl) (by kernel_rfl) (by kernel_rfl) (by kernel_rfl) (by kernel_rfl) (fun _ _ _ h => h) (Or.inl ⟨by rfl, fun W hW => by obtain ⟨⟨q0, q1⟩, q2, q3, q4⟩ := HQ6.out W hW; clear hW; go_simp⟩) (by assumption) ?_
                try simp only [Act.put, List.setIfInBounds_toArray, List.set_cons_zero, List.set_cons_succ]
                refine drawT_take (i := 8) (v := .agg #[.string ⟨src.toArray⟩, .string ⟨dst.toArray⟩, .int .i64 rel]) (List.getElem?_toArray.trans rfl) (by kernel_rfl) (by kernel_rfl) (by kernel_rfl) (by kernel_rfl) (fun _ _ _ h => h) (Or.inl ⟨by rfl, fun W hW => by obtain ⟨⟨q0, q1⟩, q2, q3, q4⟩ := HQ6.out W hW; clear hW; go_simp⟩) (by assumption) ?_
                try simp only [Act.put, List.setIfInBounds_toArray, List.set_cons_zero, List.set_cons_succ]
                refine drawT_take (i := 10) (v := .pointer (some ⟨GB, 0, none⟩)) (List.getElem?_toArray.trans rfl) (by kernel_rfl) (by kernel_rfl) (by kernel_rfl) (by kernel_rfl) (fun _ _ _ h => h) (Or.inl ⟨by rfl, fun W hW => by obtain ⟨⟨q0, q1⟩, q2, q3, q4⟩ := HQ6.out W hW; clear hW; go_simp⟩) (by assumption) ?_
                try simp only [Act.put, List.setIfInBounds_toArray, List.set_cons_zero, List.set_cons_succ]
                refine drawT_take (i := 11) (v := .pointer (some ⟨GB, 0, none⟩)) (List.getElem?_toArray.trans rfl) (by kernel_rfl) (by kernel_rfl) (by kernel_rfl) (by kernel_rfl) (fun _ _ _ h => h) (Or.inl ⟨by rfl, fun W hW => by obtain ⟨⟨q0, q1⟩, q2, q3, q4⟩ := HQ6.out W hW; clear hW; go_simp⟩) (by assumption) ?_
                try simp only [Act.put, List.setIfInBounds_toArray, List.set_cons_zero, List.set_cons_succ]
                refine drawT_take (i := 12) (v := .pointer (some ⟨GB, 1, none⟩)) (List.getElem?_toArray.trans rfl) (by kernel_rfl) (by kernel_rfl) (by kernel_rfl) (by kernel_rfl) (fun _ _ _ h => h) (Or.inl ⟨by rfl, fun W hW => by obtain ⟨⟨q0, q1⟩, q2, q3, q4⟩ := HQ6.out W hW; clear hW; go_simp⟩) (by assumption) ?_
                try simp only [Act.put, List.setIfInBounds_toArray, List.set_cons_zero, List.set_cons_succ]
                refine drawT_take (i := 13) (v := .slice (some ⟨b, o, none⟩) es.length ce) (List.getElem?_toArray.trans rfl) (by kernel_rfl) (by kernel_rfl) (by kernel_rfl) (by kernel_rfl) (fun _ _ _ h => h) (Or.inl ⟨by rfl, fun W hW => by obtain ⟨⟨q0, q1⟩, q2, q3, q4⟩ := HQ6.out W hW; clear hW; go_simp⟩) (by assumption) ?_
                try simp only [Act.put, List.setIfInBounds_toArray, List.set_cons_zero, List.set_cons_succ]
                refine drawT_take (i := 14) (v := .int .i64 es.length) (List.getElem?_toArray.trans rfl) (by kernel_rfl) (by kernel_rfl) (by kernel_rfl) (by kernel_rfl) (fun _ _ _ h => h) (Or.inl ⟨by rfl, fun W hW => by obtain ⟨⟨q0, q1⟩, q2, q3, q4⟩ := HQ6.out W hW; clear hW; go_simp⟩) (by assumption) ?_
                try simp only [Act.put, List.setIfInBounds_toArray, List.set_cons_zero, List.set_cons_succ]
                refine drawT_take (i := 15) (v := .slice (some ⟨b, o + es.length * 3, none⟩) 0 (ce - es.length)) (List.getElem?_toArray.trans rfl) (by kernel_rfl) (by kernel_rfl) (by kernel_rfl) (by kernel_rfl) (fun _ _ _ h => h) (Or.inl ⟨by rfl, fun W hW => by obtain ⟨⟨q0, q1⟩, q2, q3, q4⟩ := HQ6.out W hW; clear hW; go_simp⟩) (by assumption) ?_
                try simp only [Act.put, List.setIfInBounds_toArray, List.set_cons_zero, List.set_cons_succ]
                refine drawT_one (i := 9) (List.getElem?_toArray.trans rfl) (by kernel_rfl) (by kernel_rfl) (fun K hK => ?_)
                clear hHeld
                rw [if_pos (by rfl)]
                go_simp
                have HW1 := Lib.hid (show Below wi.heap.size wi (wi.drew.alloc (.cells #[.string ⟨src.toArray⟩, .string ⟨dst.toArray⟩, .int .i64 rel] 58)) from HW0.out.alloc HW0.out.size _)
                refine hK.out _ _ HW1.out (fun hHeld => ?_)
                clear hK K
                try simp only [Act.put, List.setIfInBounds_toArray, List.set_cons_zero, List.set_cons_succ]
                refine drawT_one (i := 16) (List.getElem?_toArray.trans rfl) (by kernel_rfl) (by kernel_rfl) (fun K hK => ?_)
                clear hHeld
                refine step_append_rows (by rfl) (.tmp 69) (.tmp 75) 27 (by rfl) wi.heap.size 58 i0 (.agg #[.string ⟨#[]⟩, .string ⟨#[]⟩, .int .i64 0]) 3 40 Tryz.underlying27 hi0 hz0 hz1 hz2 (by rfl) (by decide) (.slice (some ⟨wi.heap.size, 0, none⟩) 1 1) 1 (encE ⟨src, dst, rel⟩) (by rfl) (own_built3 wi.drew _ _ _ 58) (some ⟨b, o + es.length * 3, none⟩) 0 (ce - es.length) (flatL encE (es.drop es.length)) (by rfl)
                    (by rw [flatL_length (k := 3) (fun _ => rfl), List.length_drop] <;> first | omega | rfl) (RowRd.flat (enc := encE) (k := 3) (l := es.drop es.length) (fun _ => rfl) (by omega) (by rw [List.drop_eq_nil_of_le (Nat.le_refl _)]; exact fun i h => absurd h (by simp))) (flatL_oneCell encE_one _) (by unfold maxLen; omega) (by omega) (by simp) ?_
                intro v1 w7 hown1 hgrow1
                obtain ⟨g1, cap1, rfl, hcell1, hbg1, hlg1⟩ := own_openK hown1 (by omega)
                have HW2 := Lib.hid (show Below wi.heap.size wi w7 from HW1.out.grown hgrow1 (by simp) (fun g hg => by simp [Value.ownBlock] at hg; omega))
                clear hown1 hgrow1
                refine hK.out _ _ HW2.out (fun hHeld => ?_)
                clear hK K
                try simp only [Act.put, List.setIfInBounds_toArray, List.set_cons_zero, List.set_cons_succ]
                refine drawT_one (i := 17) (List.getElem?_toArray.trans rfl) (by kernel_rfl) (by kernel_rfl) (fun K hK => ?_)
                clear hHeld
                refine step_append_grows (by rfl) (.tmp 67) (.tmp 76) 27 (by rfl) 58 i0 (.agg #[.string ⟨#[]⟩, .string ⟨#[]⟩, .int .i64 0]) 3 40 Tryz.underlying27 hi0 hz0 hz1 hz2 (by rfl) (by decide) (some ⟨b, o, none⟩) es.length es.length (flatL encE (es.take es.length)) (by rfl) (by simp) (by rw [flatL_length (k := 3) (fun _ => rfl), List.length_take] <;> first | omega | rfl)
                    (RowRd.holds (fun _ => rfl) (by omega) (RowRd.take (HRA.out.row.below (HB6.out.trans (HW2.out.mono HB6.out.size))) es.length)) ⟨g1, 0, none⟩ (1 + 0) cap1 (encE ⟨src, dst, rel⟩ ++ flatL encE (es.drop es.length)) (by rfl) (by rw [List.length_append, flatL_length (k := 3) (fun _ => rfl), List.length_drop]; show 3 + _ = _; first | omega | rfl) hcell1 (by intro u hu; rcases List.mem_append.1 hu with q | q; exact encE_one _ u q; exact flatL_oneCell encE_one _ u q) (by omega) (by unfold maxLen; omega) (by omega) ?_
                intro v2 w8 hown2 hgrow2
                obtain ⟨oa2, cap2, rfl⟩ := ownsRow_form hown2
                have HW3 := Lib.hid (show Below wi.heap.size wi w8 from HW2.out.grown hgrow2 HW2.out.size (fun g hg => by cases hg))
                have HO2 := Lib.hid (And.intro hown2 HW2.out.size)
                clear hcell1 hown2 hgrow2
                refine hK.out _ _ HW3.out (fun hHeld => ?_)
                clear hK K
                try simp only [Act.put, List.setIfInBounds_toArray, List.set_cons_zero, List.set_cons_succ]
                refine drawT_done (by kernel_rfl) ?_
                clear hHeld
                have hgb := rd (heap_below HBX.out (HB6.out.trans (HW3.out.mono HB6.out.size)))
                have s1 := (HQ6.out w8 HW3.out).1.2; have s2 := hgb.2.1 1; have s3 := hgb.2.2.1
                clear hgb
                go_wp2_with fail
                refine bodyPost_ret (results_none rfl _ _ _) rfl ?_
                have hh := edge_end HG.out HBX.out (HB6.out.trans (HW3.out.mono HB6.out.size)) HS.out ((nodeOf_mem ns dst).1 HOK.out) HRL.out HI.out (by first | omega | rfl) hk (Nat.le_trans HB6.out.size HO2.out.2) HO2.out.1 rfl
                exact ⟨rfl, by rw [HE2.out]; exact hh.1, hh.2⟩
end Go.Proofs.YtcaamakodneplaaGreat

/-
  Fields of a loaded unit that a map gave; what the reference's map of all units gives.
-/
namespace Go.Proofs.YtcaamakodneplaaGreat
open Go Go.RowKit
set_option linter.unusedVariables false
set_option linter.unusedSimpArgs false
set_option maxRecDepth 100000

theorem field_loaded4 (cs : Array Value) (W : World) : (Instr.field 53 (.agg cs) 4).run Tryz.prog W = .ok (.agg (unitOf cs)) W := by
  simp [Instr.field, go_sem]
  rfl
theorem field_loaded1 (cs : Array Value) (v : Value) (h : cs[1]? = some v) (W : World) : (Instr.field 53 (.agg cs) 1).run Tryz.prog W = .ok v W := by
  have e : (asAgg (Value.agg cs)).run Tryz.prog W = .ok cs W := rfl
  simp [Instr.field, go_sem, e, h]
theorem field_unit4 (cs : Array Value) (v : Value) (h : cs[4]? = some v) (W : World) : (Instr.field 51 (.agg cs) 4).run Tryz.prog W = .ok v W := by
  have e : (asAgg (Value.agg cs)).run Tryz.prog W = .ok cs W := rfl
  simp [Instr.field, go_sem, e, h]

/-- The map of all units. -/
structure AllIn (w : World) (M : Nat) (tv : List (Str × Value)) (t : List LdS) : Prop where
  map : MapOf strKey w M tv
  tab : TabRd w tv t
theorem AllIn.below {w w' : World} {M : Nat} {tv : List (Str × Value)} {t : List LdS} (h : AllIn w M tv t) (hb : Below w.heap.size w w') : AllIn w' M tv t := ⟨h.map.below hb h.map.lt, h.tab.below hb⟩
theorem AllIn.frg {w w' : World} {GB : Nat} {a1 a2 : Option Addr} {n1 n2 c1 c2 : Nat} {T : TypeId} {fz : Nat × Nat} (hm : w.heap[GB]? = some (.cells #[.slice a1 n1 c1, .slice a2 n2 c2] T fz)) (hf : Fr (fun k => k = GB) w w') {M : Nat} {tv : List (Str × Value)} {t : List LdS} (h : AllIn w M tv t) : AllIn w' M tv t := by
  refine ⟨h.map.fr hf (fun e => ?_), h.tab.frg hm hf⟩
  obtain ⟨es, c, h1, _⟩ := h.map
  rw [e, hm] at h1
  cases h1
/-- A unit that is asked for: its state and its relations, or none. -/
theorem AllIn.look {w : World} {M : Nat} {tv : List (Str × Value)} {t : List LdS} (h : AllIn w M tv t) (s : Str) :
    ∃ (cs : Array Value) (rl : List RelS) (st : Int) (ra : Option Addr) (rc : Nat), (∀ V, AllIn V M tv t → (Instr.lookup 66 (.map (some M)) (.string ⟨s.toArray⟩) false).run Tryz.prog V = .ok (.agg cs) V) ∧ cs[1]? = some (.int .i64 st) ∧ (unitOf cs)[4]? = some (.slice ra rl.length rc) ∧
      RowRd encR 2 w ra rl ∧ rl.length < 4194304 ∧ ∀ to, behindR t s to = rl.any fun r => st == 1 && r == ⟨8, to⟩ := by
  have K : KeyLaws Tryz.prog 9 strKey := strKeys Tryz.underlying9
  rcases h.tab.look s with ⟨h1, h2⟩ | ⟨x, cs, h1, h2, h3, h4⟩
  · refine ⟨loadedZero, [], 0, none, 0, fun V hV => look_none K Tryz.underlying66 hV.map s h2 (zero_loaded V) false, rfl, rfl, fun i hi => absurd hi (by simp), by simp, fun to => ?_⟩
    unfold behindR
    unfold lookS at h1
    rw [h1]; rfl
  · obtain ⟨v, e1, ⟨⟨ra, rc, rfl, hr⟩⟩⟩ := h3.rels
    refine ⟨cs, x.rels, x.state, ra, rc, fun V hV => look_some K Tryz.underlying66 hV.map h2 false, h3.state, (unitOf_get h3.size 4 (by omega)).trans e1, hr, h3.small.rels, fun to => ?_⟩
    unfold behindR
    unfold lookS at h1
    rw [h1]
end Go.Proofs.YtcaamakodneplaaGreat

/-
  The reference: target of matinsref15.
-/
namespace Go.Proofs.YtcaamakodneplaaGreat
open Go Go.RowKit
set_option linter.unusedVariables false
set_option linter.unusedSimpArgs false
set_option maxRecDepth 100000

theorem someS_rel (x : LdS) : someS x = x.wants ++ x.reqs ++ relTo x.rels := rfl
def behS (rl : List RelS) (st : Int) (to : Str) : Bool := rl.any fun r => st == 1 && r == ⟨8, to⟩
theorem behS_snoc (rl : List RelS) (st : Int) (to : Str) (j : Nat) (h : j < rl.length) : behS (rl.take (j + 1)) st to = (behS (rl.take j) st to || (st == 1 && decide (rl[j] = ⟨8, to⟩))) := by
  unfold behS
  rw [List.take_succ_eq_append_getElem h, List.any_append]
  simp
  rfl

set_option maxHeartbeats 4000000 in
theorem targetR_any (GB : Nat) (on : Option Addr) (cn : Nat) (ns : List NodeS) (es : List EdgeS) (M : Nat) (tv : List (Str × Value)) (t : List LdS) (cs : Array Value) (x : LdS) (w : World)
    (hG : GR w GB on cn ns es) (hA : AllIn w M tv t) (hL : LdRd w cs x) (hx : x.name ∈ ns.map (·.name)) (es' : List EdgeS) (hes : addR es (targetR (ns.map (·.name)) t x) = es') :
    Calls Tryz.prog 59 #[.pointer (some ⟨GB, 0, none⟩), .agg cs, .map (some M)] w fun e w' => EdgeTo w GB on cn ns es' e w' := by
  obtain ⟨i0, hi0, hz0, hz1, hz2⟩ := info_parts infoString
  have HG := Lib.hid hG; have HA := Lib.hid hA; have HL := Lib.hid hL; have HX := Lib.hid hx; have HES := Lib.hid hes
  clear hG hA hL hx hes
  have HB1 := Lib.hid ((Below.refl w.heap.size w).alloc (Nat.le_refl _) (.cells cs 53))
  have HBX := Lib.hid (heap_alloc_new w (.cells cs 53))
  obtain ⟨v1, a1, ⟨⟨oa1, cap1, rfl, -⟩⟩⟩ := HL.out.rels
  obtain ⟨v2, a2, ⟨⟨oa2, cap2, rfl, -⟩⟩⟩ := HL.out.wants
  obtain ⟨v3, a3, ⟨⟨oa3, cap3, rfl, -⟩⟩⟩ := HL.out.reqs
  have A1 := Lib.hid a1; have A2 := Lib.hid a2; have A3 := Lib.hid a3
  have hsm := HL.out.small
  have n1 := hsm.rels; have n2 := hsm.wants; have n3 := hsm.reqs
  clear hsm a1 a2 a3
  go_enter Tryz.func59, Tryz.ntmps59
  go_wp2_with fail
  have hz : (w.alloc (.cells cs 53)).heap.size = w.heap.size + 1 := Array.size_push _
  generalize w.alloc (.cells cs 53) = w1 at *
  have HZ := Lib.hid hz; clear hz
  obtain ⟨N, hN⟩ : ∃ N, N = w.heap.size := ⟨_, rfl⟩
  rw [← hN] at HBX HZ ⊢
  have HN := Lib.hid hN
  clear hN
  have HQ := Lib.hid (fun V (h : Below w1.heap.size w1 V) => show V.cell? ⟨N, 0, none⟩ = some (.string ⟨x.name.toArray⟩) ∧ V.cell? ⟨N, 9, none⟩ = some (.slice oa1 x.rels.length cap1) ∧ V.cell? ⟨N, 40, none⟩ = some (.slice oa2 x.wants.length cap2) ∧ V.cell? ⟨N, 41, none⟩ = some (.slice oa3 x.reqs.length cap3) from by
    have hc : ∀ j, V.cell? ⟨N, j, none⟩ = cs[j]? := fun j => by rw [h.cell (lt_heap HBX.out), (rd HBX.out).1 j]
    exact ⟨(hc 0).trans HL.out.name, (hc 9).trans A1.out, (hc 40).trans A2.out, (hc 41).trans A3.out⟩)
  have HL1 := Lib.hid (fun V (h : Below w1.heap.size w1 V) => (HL.out.below HB1.out).below h)
  have HRO := Lib.hid (fun V (h : Below w1.heap.size w1 V) => show RowRd encR 2 V oa1 x.rels ∧ StrRow V oa2 x.wants ∧ StrRow V oa3 x.reqs from by
    have hl := HL1.out V h
    obtain ⟨u1, b1, ⟨⟨p1, d1, e1, r1⟩⟩⟩ := hl.rels
    obtain ⟨u2, b2, ⟨⟨p2, d2, e2, r2⟩⟩⟩ := hl.wants
    obtain ⟨u3, b3, ⟨⟨p3, d3, e3, r3⟩⟩⟩ := hl.reqs
    rw [A1.out] at b1; rw [A2.out] at b2; rw [A3.out] at b3
    injection b1 with b1; injection b2 with b2; injection b3 with b3
    subst b1; subst b2; subst b3
    injection e1 with e1 f1 g1; injection e2 with e2 f2 g2; injection e3 with e3 f3 g3
    subst e1; subst e2; subst e3
    exact ⟨r1, r2, r3⟩)
  clear A1 A2 A3
  refine wp_region_drawT (S := fun V => Below w1.heap.size w1 V) 6 (by kernel_rfl) (by kernel_rfl) (below_dn ⟨1, rfl⟩) (fun hHeld => ?_)
  try simp only [Act.put, List.setIfInBounds_toArray, List.set_cons_zero, List.set_cons_succ]
  refine drawT_take (i := 0) (v := .pointer (some ⟨N, 40, none⟩)) (List.getElem?_toArray.trans rfl) (by kernel_rfl) (by kernel_rfl) (by kernel_rfl) (by kernel_rfl) (fun _ _ _ h => h) (Or.inl ⟨by rfl, fun W hW => by obtain ⟨q0, q9, q40, q41⟩ := HQ.out W hW; clear hW; go_simp⟩) (by assumption) ?_
  try simp only [Act.put, List.setIfInBounds_toArray, List.set_cons_zero, List.set_cons_succ]
  refine drawT_take (i := 1) (v := .slice oa2 x.wants.length cap2) (List.getElem?_toArray.trans rfl) (by kernel_rfl) (by kernel_rfl) (by kernel_rfl) (by kernel_rfl) (fun _ _ _ h => h) (Or.inl ⟨by rfl, fun W hW => by obtain ⟨q0, q9, q40, q41⟩ := HQ.out W hW; clear hW; go_simp⟩) (by assumption) ?_
  try simp only [Act.put, List.setIfInBounds_toArray, List.set_cons_zero, List.set_cons_succ]
  refine drawT_take (i := 3) (v := .pointer (some ⟨N, 41, none⟩)) (List.getElem?_toArray.trans rfl) (by kernel_rfl) (by kernel_rfl) (by kernel_rfl) (by kernel_rfl) (fun _ _ _ h => h) (Or.inl ⟨by rfl, fun W hW => by obtain ⟨q0, q9, q40, q41⟩ := HQ.out W hW; clear hW; go_simp⟩) (by assumption) ?_
  try simp only [Act.put, List.setIfInBounds_toArray, List.set_cons_zero, List.set_cons_succ]
  refine drawT_take (i := 4) (v := .slice oa3 x.reqs.length cap3) (List.getElem?_toArray.trans rfl) (by kernel_rfl) (by kernel_rfl) (by kernel_rfl) (by kernel_rfl) (fun _ _ _ h => h) (Or.inl ⟨by rfl, fun W hW => by obtain ⟨q0, q9, q40, q41⟩ := HQ.out W hW; clear hW; go_simp⟩) (by assumption) ?_
  try simp only [Act.put, List.setIfInBounds_toArray, List.set_cons_zero, List.set_cons_succ]
  have HW0 := Lib.hid hHeld
  refine drawT_one (i := 2) (List.getElem?_toArray.trans rfl) (by kernel_rfl) (by kernel_rfl) (fun K hK => ?_)
  clear hHeld
  refine step_append_rows (by rfl) (.const (.slice none 0 0)) (.tmp 15) 37 (by rfl) w1.heap.size 9 i0 (.string ⟨#[]⟩) 1 16 Tryz.underlying37 hi0 hz0 hz1 hz2 (by rfl) (by decide) (.slice none 0 0) 0 [] (by rfl) (World.ownsRow_nil _ _ _ _) oa2 x.wants.length cap2 (strVals x.wants) (by rfl)
      (by simp [strVals]) (HRO.out _ HW0.out).2.1.cells (strVals_one _) (by unfold maxLen; omega) (by omega) (by simp) ?_
  intro v1 w2 hown1 hgrow1
  have HW2 := Lib.hid (show Below w1.heap.size w1 w2 from HW0.out.grown hgrow1 HW0.out.size (fun g hg => by simp [Value.ownBlock] at hg))
  have HO1 := Lib.hid hown1
  clear hown1 hgrow1
  refine hK.out _ _ HW2.out (fun hHeld => ?_)
  clear hK K
  try simp only [Act.put, List.setIfInBounds_toArray, List.set_cons_zero, List.set_cons_succ]
  refine drawT_one (i := 5) (List.getElem?_toArray.trans rfl) (by kernel_rfl) (by kernel_rfl) (fun K hK => ?_)
  clear hHeld
  refine step_append_rows (by rfl) (.tmp 16) (.tmp 18) 37 (by rfl) w1.heap.size 9 i0 (.string ⟨#[]⟩) 1 16 Tryz.underlying37 hi0 hz0 hz1 hz2 (by rfl) (by decide) v1 (0 + x.wants.length) ([] ++ strVals x.wants) (by rfl) HO1.out oa3 x.reqs.length cap3 (strVals x.reqs) (by rfl)
      (by simp [strVals]) (HRO.out _ HW2.out).2.2.cells (strVals_one _) (by unfold maxLen; omega) (by omega) HW2.out.size ?_
  intro v2 w3 hown2 hgrow2
  have HW3 := Lib.hid (show Below w1.heap.size w1 w3 from HW2.out.grown hgrow2 HW2.out.size (fun g hg => (World.ownsRow.lt HO1.out g hg).1))
  have HO2 := Lib.hid (show w3.ownsRow w1.heap.size 9 1 v2 (x.wants ++ x.reqs).length (strVals (x.wants ++ x.reqs)) from by
    have e1 : (x.wants ++ x.reqs).length = 0 + x.wants.length + x.reqs.length := by simp
    have e2 : strVals (x.wants ++ x.reqs) = [] ++ strVals x.wants ++ strVals x.reqs := by simp [strVals]
    rw [e1, e2]; exact hown2)
  clear hown2 hgrow2 HO1
  refine hK.out _ _ HW3.out (fun hHeld => ?_)
  clear hK K
  try simp only [Act.put, List.setIfInBounds_toArray, List.set_cons_zero, List.set_cons_succ]
  refine drawT_done (by kernel_rfl) ?_
  clear hHeld
  obtain ⟨oa4, cap4, rfl⟩ := ownsRow_form HO2.out
  obtain ⟨q0, q9, q40, q41⟩ := HQ.out w3 HW3.out
  go_wp2_with fail
  clear q0 q9 q40 q41 HW0 HW2
  go_loopg [6, 24] (x.rels.length + 1) (fun f v i wr => ∃ k : Nat, k ≤ x.rels.length ∧ i = .int .i64 k ∧ x.rels.length - k < f ∧ Hid (wr.ownsRow w1.heap.size 9 1 v (x.wants ++ x.reqs ++ relTo (x.rels.take k)).length (strVals (x.wants ++ x.reqs ++ relTo (x.rels.take k)))) ∧ Hid (Below w1.heap.size w1 wr))
  case atStart => exact ⟨0, by omega, rfl, by omega, by simpa [relTo] using HO2, HW3⟩
  case round =>
    obtain ⟨k, hk, rfl, hfu, Hown, Hb⟩ := hrel
    clear HO2 HW3
    obtain ⟨oa', cap', rfl⟩ := ownsRow_form Hown.out
    by_cases hlt : k < x.rels.length
    · obtain ⟨b, o, rfl, hblt, hcc⟩ := (HRO.out wr Hb.out).1 k hlt
      have HNN := Lib.hid (relTo_snoc x.rels k hlt)
      have hlen := relTo_len x.rels k
      obtain ⟨y, hy⟩ : ∃ y, y = x.rels[k] := ⟨_, rfl⟩
      rw [← hy] at hcc HNN
      have d0 := hcc 0 _ rfl; have d1 := hcc 1 _ rfl
      simp only [Nat.add_zero] at d0
      have i5 : (k : Int) < (x.rels.length : Int) := by omega
      have hlb : (x.wants ++ x.reqs ++ relTo (x.rels.take k)).length < 16777216 := by simp only [List.length_append]; omega
      clear hcc hy hlen
      obtain ⟨acc, hacc⟩ : ∃ z, z = x.wants ++ x.reqs ++ relTo (x.rels.take k) := ⟨_, rfl⟩
      have HN2 := Lib.hid (show x.wants ++ x.reqs ++ relTo (x.rels.take (k + 1)) = acc ++ (if (y.kind == 1 || y.kind == 2) = true then [y.name] else []) by rw [HNN.out, hacc, List.append_assoc, List.append_assoc, List.append_assoc])
      rw [← hacc] at Hown hlb ⊢
      clear hacc HNN
      have hsz := Hb.out.size
      cases h1 : (y.kind == 1) with
      | true =>
        have HNN := Lib.hid (show x.wants ++ x.reqs ++ relTo (x.rels.take (k + 1)) = acc ++ [y.name] by rw [HN2.out, h1]; simp)
        have Hown2 := Lib.hid ((Hown.out.alloc (.cells #[.int .i64 y.kind, .string ⟨y.name.toArray⟩] 56)).alloc (.cells #[.string ⟨y.name.toArray⟩] 9))
        go_wp2_with (at_builtin; refine wpList_append_own _ rfl _ _ 37 rfl w1.heap.size 9 i0 (.string ⟨#[]⟩) 1 16 Tryz.underlying37 hi0 hz0 hz1 hz2 rfl (by decide) _ _ _ rfl Hown2.out ⟨wr.heap.size + 1, 0, none⟩ 1 1 [.string ⟨y.name.toArray⟩] rfl rfl ?c1 ?c2 ?c3 ?c4 ?c5 ?_)
        try (case c1 => rw [show wr.heap.size + 1 = (wr.alloc (.cells #[.int .i64 y.kind, .string ⟨y.name.toArray⟩] 56)).heap.size by simp]; exact cell_one_new _ _ _)
        case c2 => simp [Value.oneCell']
        case c3 => unfold maxLen; omega
        case c4 => omega
        case c5 => first | omega | (simp; omega)
        intro v' w4 hown' hgrow hnil
        have HB4 := Lib.hid ((((Hb.out.alloc hsz _).alloc (by simp; omega) _).grown hgrow (by simp; omega) (fun g hg => (World.ownsRow.lt Hown.out g hg).1)))
        have HO4 := Lib.hid (show w4.ownsRow w1.heap.size 9 1 v' (x.wants ++ x.reqs ++ relTo (x.rels.take (k + 1))).length (strVals (x.wants ++ x.reqs ++ relTo (x.rels.take (k + 1)))) by rw [HNN.out, strVals_snoc, List.length_append]; exact hown')
        clear hgrow hnil hown'
        obtain ⟨ao, cap2, rfl⟩ := ownsRow_form HO4.out
        go_wp2_with fail
        go_roundg (gk - 1)
        case measure => omega
        case rel => exact ⟨k + 1, by omega, by go_num, by omega, HO4, HB4⟩
      | false =>
        cases h2 : (y.kind == 2) with
        | true =>
          have HNN := Lib.hid (show x.wants ++ x.reqs ++ relTo (x.rels.take (k + 1)) = acc ++ [y.name] by rw [HN2.out, h1, h2]; simp)
          have Hown2 := Lib.hid ((Hown.out.alloc (.cells #[.int .i64 y.kind, .string ⟨y.name.toArray⟩] 56)).alloc (.cells #[.string ⟨y.name.toArray⟩] 9))
          go_wp2_with (at_builtin; refine wpList_append_own _ rfl _ _ 37 rfl w1.heap.size 9 i0 (.string ⟨#[]⟩) 1 16 Tryz.underlying37 hi0 hz0 hz1 hz2 rfl (by decide) _ _ _ rfl Hown2.out ⟨wr.heap.size + 1, 0, none⟩ 1 1 [.string ⟨y.name.toArray⟩] rfl rfl ?c1 ?c2 ?c3 ?c4 ?c5 ?_)
          try (case c1 => rw [show wr.heap.size + 1 = (wr.alloc (.cells #[.int .i64 y.kind, .string ⟨y.name.toArray⟩] 56)).heap.size by simp]; exact cell_one_new _ _ _)
          case c2 => simp [Value.oneCell']
          case c3 => unfold maxLen; omega
          case c4 => omega
          case c5 => first | omega | (simp; omega)
          intro v' w4 hown' hgrow hnil
          have HB4 := Lib.hid ((((Hb.out.alloc hsz _).alloc (by simp; omega) _).grown hgrow (by simp; omega) (fun g hg => (World.ownsRow.lt Hown.out g hg).1)))
          have HO4 := Lib.hid (show w4.ownsRow w1.heap.size 9 1 v' (x.wants ++ x.reqs ++ relTo (x.rels.take (k + 1))).length (strVals (x.wants ++ x.reqs ++ relTo (x.rels.take (k + 1)))) by rw [HNN.out, strVals_snoc, List.length_append]; exact hown')
          clear hgrow hnil hown'
          obtain ⟨ao, cap2, rfl⟩ := ownsRow_form HO4.out
          go_wp2_with fail
          go_roundg (gk - 1)
          case measure => omega
          case rel => exact ⟨k + 1, by omega, by go_num, by omega, HO4, HB4⟩
        | false =>
          have HNN := Lib.hid (show x.wants ++ x.reqs ++ relTo (x.rels.take (k + 1)) = acc by rw [HN2.out, h1, h2]; simp)
          have Hown2 := Lib.hid (Hown.out.alloc (.cells #[.int .i64 y.kind, .string ⟨y.name.toArray⟩] 56))
          have Hb2 := Lib.hid (Hb.out.alloc hsz (.cells #[.int .i64 y.kind, .string ⟨y.name.toArray⟩] 56))
          go_wp2_with fail
          go_roundg (gk - 1)
          case measure => omega
          case rel => exact ⟨k + 1, by omega, by go_num, by omega, by rw [HNN.out]; exact Hown2, Hb2⟩
    · have hk2 : k = x.rels.length := by omega
      subst hk2
      have HSO := Lib.hid (show x.wants ++ x.reqs ++ relTo (x.rels.take x.rels.length) = someS x by rw [List.take_of_length_le (Nat.le_refl _)]; rfl)
      have hlen : (someS x).length < 16777216 := by
        have := relTo_len x.rels x.rels.length
        rw [← HSO.out]; simp only [List.length_append]; omega
      rw [HSO.out] at Hown ⊢
      have HTG := Lib.hid (show targetR (ns.map (·.name)) t x = (someS x).flatMap fun s => if behindR t s x.name then [] else edgeR (ns.map (·.name)) x.name s 8 from rfl)
      generalize someS x = sm at *
      go_wp2_with fail
      have HBW := Lib.hid (HB1.out.trans (Hb.out.mono HB1.out.size))
      have HG5 := Lib.hid (HG.out.below HBW.out)
      obtain ⟨oe5, ce5, hgb, -⟩ := HG5.out.box
      have HGB := Lib.hid hgb
      have HNG := Lib.hid (show N ≠ GB by have := HG.out.lt; have := HN.out; omega)
      have HNL := Lib.hid (show N < wr.heap.size by have := HZ.out; have := Hb.out.size; omega)
      have HV := Lib.hid (fun V (h : Fr (fun k => k = GB) wr V) => show StrRow V oa' sm ∧ AllIn V M tv t ∧ V.cell? ⟨N, 0, none⟩ = some (.string ⟨x.name.toArray⟩) from
        ⟨StrRow.frg HGB.out h (StrRow.of_own Hown.out), AllIn.frg HGB.out h (HA.out.below HBW.out), by
          have h1 := (HQ.out wr Hb.out).1
          simp only [World.cell?] at h1 ⊢
          rw [h.block N HNL.out HNG.out]; exact h1⟩)
      have HF0 := Lib.hid (Fr.of_below HBW.out (fun k => k = GB))
      clear hgb HGB HNG HNL Hown HBW HQ HL1 HRO HSO Hb
      obtain ⟨w5, rfl⟩ : ∃ W, W = wr := ⟨_, rfl⟩
      go_loopg [44] (sm.length + 1) (fun f i wq => ∃ k : Nat, k ≤ sm.length ∧ i = .int .i64 k ∧ sm.length - k < f ∧ Hid (GR wq GB on cn ns (addR es ((sm.take k).flatMap fun s => if behindR t s x.name then [] else edgeR (ns.map (·.name)) x.name s 8))) ∧ Hid (Fr (fun k => k = GB) w5 wq))
      case atStart => exact ⟨0, by omega, rfl, by omega, HG5, Fr.refl _ _⟩
      case round =>
        obtain ⟨k, hk, rfl, hfv, HGk, Hf⟩ := hrel
        clear HG5
        by_cases hlt : k < sm.length
        · obtain ⟨hrow, hall, hq0⟩ := HV.out wr Hf.out
          obtain ⟨b, o, rfl, hcc⟩ := hrow k hlt
          obtain ⟨s, hs⟩ : ∃ s, s = sm[k] := ⟨_, rfl⟩
          rw [← hs] at hcc
          have hsn : addR es ((sm.take (k + 1)).flatMap fun s => if behindR t s x.name then [] else edgeR (ns.map (·.name)) x.name s 8) = addR (addR es ((sm.take k).flatMap fun s => if behindR t s x.name then [] else edgeR (ns.map (·.name)) x.name s 8)) (if behindR t s x.name then [] else edgeR (ns.map (·.name)) x.name s 8) := by
            rw [List.take_succ_eq_append_getElem hlt, List.flatMap_append, addR_append, ← hs]; simp
          have HSN := Lib.hid hsn
          generalize addR es ((sm.take k).flatMap fun s => if behindR t s x.name then [] else edgeR (ns.map (·.name)) x.name s 8) = ek at *
          obtain ⟨cy, rl, st, ra, rc, hlk, hst, hrl, hrr, hrn, hbh⟩ := hall.look s
          have HBH := Lib.hid (show behindR t s x.name = behS rl st x.name from hbh x.name)
          have HRR := Lib.hid hrr; have HST := Lib.hid hst
          have HALL := Lib.hid hall; have HQ0 := Lib.hid hq0
          have HLK := Lib.hid hlk
          have hlk := HLK.out wr hall
          have f1 := field_loaded4 cy
          have f2 := field_unit4 (unitOf cy) _ hrl
          have i5 : (k : Int) < (sm.length : Int) := by omega
          clear hs hsn hrow hall hq0 hst hrl hrr hbh
          obtain ⟨g1, rfl⟩ : ∃ g, g = gk := ⟨_, rfl⟩
          go_wp2_with fail
          obtain ⟨w6, rfl⟩ : ∃ W, W = wr := ⟨_, rfl⟩
          clear hlk f1 f2 hcc
          go_loopg [11, 54] (rl.length + 1) (fun f v i wv => ∃ j : Nat, j ≤ rl.length ∧ v = .bool (behS (rl.take j) st x.name) ∧ i = .int .i64 j ∧ rl.length - j < f ∧ Hid (Below w6.heap.size w6 wv))
          case atStart => exact ⟨0, by omega, rfl, rfl, by omega, Below.refl _ _⟩
          case round =>
            obtain ⟨j, hj, rfl, rfl, hfw, Hv⟩ := hrel
            by_cases hjl : j < rl.length
            · obtain ⟨b2, o2, rfl, hblt2, hrc⟩ := (HRR.out.below Hv.out) j hjl
              obtain ⟨r, hr⟩ : ∃ r, r = rl[j] := ⟨_, rfl⟩
              have HSB := Lib.hid (behS_snoc rl st x.name j hjl)
              rw [← hr] at hrc HSB
              have d0 := hrc 0 _ rfl; have d1 := hrc 1 _ rfl
              simp only [Nat.add_zero] at d0
              have j5 : (j : Int) < (rl.length : Int) := by omega
              have hba := (Below.refl wr.heap.size wr).alloc (Nat.le_refl _) (.cells #[.int .i64 r.kind, .string ⟨r.name.toArray⟩] 56)
              have HVA := Lib.hid (Hv.out.trans (hba.mono Hv.out.size))
              clear hrc hr hba
              generalize behS (rl.take j) st x.name = bh at *
              cases bh with
              | true =>
                go_wp2_with fail
                go_roundg (gk - 1)
                case measure => omega
                case rel => exact ⟨j + 1, by omega, by rw [HSB.out]; rfl, by go_num, by omega, HVA⟩
              | false =>
                have hlk2 := HLK.out _ (HALL.out.below HVA.out)
                have hst2 := field_loaded1 cy _ HST.out
                cases hs1 : (st == 1) with
                | false =>
                  go_wp2_with fail
                  go_roundg (gk - 1)
                  case measure => omega
                  case rel => exact ⟨j + 1, by omega, by rw [HSB.out, hs1]; rfl, by go_num, by omega, HVA⟩
                | true =>
                  have q0 : (wr.alloc (.cells #[.int .i64 r.kind, .string ⟨r.name.toArray⟩] 56)).cell? ⟨N, 0, none⟩ = some (.string ⟨x.name.toArray⟩) := cell_later HVA.out HQ0.out
                  obtain ⟨c, hc⟩ : ∃ c, decide (r = (⟨8, x.name⟩ : RelS)) = c := ⟨_, rfl⟩
                  have e1 := run_eql_R r ⟨8, x.name⟩ c hc
                  have e2 := run_guard_R .eql
                  go_wp2_with fail
                  go_roundg (gk - 1)
                  case measure => omega
                  case rel => exact ⟨j + 1, by omega, by rw [HSB.out, hs1, hc]; rfl, by go_num, by omega, HVA⟩
            · have hj2 : j = rl.length := by omega
              subst hj2
              have hbe : behS (rl.take rl.length) st x.name = behindR t s x.name := by rw [HBH.out, List.take_of_length_le (Nat.le_refl _)]
              rw [hbe]
              have HBE := Lib.hid hbe
              clear hbe
              have HGv := Lib.hid (HGk.out.below Hv.out)
              have HFv := Lib.hid (Hf.out.trans (Fr.of_below Hv.out _))
              have q0 := cell_later Hv.out HQ0.out
              cases hb : behindR t s x.name with
              | true =>
                rw [hb] at HSN
                go_wp2_with fail
                go_roundg (g1 - 1)
                case measure => omega
                case rel => exact ⟨k + 1, by omega, by go_num, by omega, by rw [HSN.out]; exact HGv, HFv⟩
              | false =>
                rw [hb] at HSN
                go_wp2_with fail
                refine (edgeR_any GB on cn ns ek x.name s 8 wr HGv.out HX.out (by omega) _ HSN.out.symm).mono ?_
                rintro e w7 ⟨rfl, hg7, hf7⟩
                have HG7 := Lib.hid hg7
                have HF7 := Lib.hid (HFv.out.trans hf7)
                clear hg7 hf7 q0
                go_wp2_with fail
                go_roundg (g1 - 1)
                case measure => omega
                case rel => exact ⟨k + 1, by omega, by go_num, by omega, HG7, HF7⟩
        · have hk2 : k = sm.length := by omega
          subst hk2
          have HE2 := Lib.hid (show addR es ((sm.take sm.length).flatMap fun s => if behindR t s x.name then [] else edgeR (ns.map (·.name)) x.name s 8) = es' by
            rw [List.take_of_length_le (Nat.le_refl _), ← HES.out, HTG.out])
          go_wp2_with fail
          refine bodyPost_ret (results_none rfl _ _ _) rfl ?_
          exact ⟨rfl, by rw [← HE2.out]; exact HGk.out, HF0.out.trans Hf.out⟩
end Go.Proofs.YtcaamakodneplaaGreat

/-
  The reference: own of matinsref15.
-/
namespace Go.Proofs.YtcaamakodneplaaGreat
open Go Go.RowKit
set_option linter.unusedVariables false
set_option linter.unusedSimpArgs false
set_option maxRecDepth 100000

theorem kindS_short {s : Str} (h : kindS s ≠ 0) : s.length ≤ 60 := by
  unfold kindS at h
  split at h
  · rename_i q; exact q.1
  · exact absurd rfl h
def relsR (ns : List Str) (x : LdS) (l : List RelS) : List EdgeS := l.flatMap fun r => if 1 ≤ r.kind ∧ r.kind ≤ 9 then edgeR ns x.name r.name r.kind else []
def txtsR (ns : List Str) (x : LdS) (k : Int) (l : List Str) : List EdgeS := l.flatMap fun s => edgeR ns x.name s k
def socksR (ns : List Str) (x : LdS) (l : List Str) : List EdgeS := l.flatMap fun s => edgeR ns x.name s 2 ++ edgeR ns x.name s 8
theorem own_k1 {ns : List Str} {all : List LdS} {x : LdS} (h : kindS x.name = 1) : ownR ns all x = relsR ns x x.rels ++ (txtsR ns x 2 x.wants ++ (txtsR ns x 1 x.reqs ++ (socksR ns x x.socks ++ (if x.dflt then edgeR ns x.name sFirst 1 ++ (edgeR ns x.name sFirst 8 ++ (edgeR ns x.name sLast 6 ++ (edgeR ns x.name sLast 7 ++ []))) else [])))) := by
  unfold ownR relsR txtsR socksR; rw [h]; cases x.dflt <;> simp
theorem own_k23 {ns : List Str} {all : List LdS} {x : LdS} (h : kindS x.name = 2 ∨ kindS x.name = 3) : ownR ns all x = relsR ns x x.rels ++ (txtsR ns x 2 x.wants ++ (txtsR ns x 1 x.reqs ++ (edgeR ns x.name (wakesR x) 10 ++ (edgeR ns x.name (wakesR x) 7 ++ (if x.dflt then edgeR ns x.name sFirst 8 ++ (edgeR ns x.name sLast 6 ++ (edgeR ns x.name sLast 7 ++ [])) else []))))) := by
  unfold ownR relsR txtsR; rcases h with h | h <;> (rw [h]; cases x.dflt <;> simp)
theorem own_k4 {ns : List Str} {all : List LdS} {x : LdS} (h : kindS x.name = 4) : ownR ns all x = relsR ns x x.rels ++ (txtsR ns x 2 x.wants ++ (txtsR ns x 1 x.reqs ++ (if x.dflt then targetR ns all x ++ [] else []))) := by
  unfold ownR relsR txtsR; rw [h]; cases x.dflt <;> simp
theorem rels_snoc (ns : List Str) (x : LdS) (es : List EdgeS) (l : List RelS) (k : Nat) (h : k < l.length) : addR es (relsR ns x (l.take (k + 1))) = addR (addR es (relsR ns x (l.take k))) (if 1 ≤ l[k].kind ∧ l[k].kind ≤ 9 then edgeR ns x.name l[k].name l[k].kind else []) := by
  unfold relsR; rw [List.take_succ_eq_append_getElem h, List.flatMap_append, addR_append]; simp
theorem txts_snoc (ns : List Str) (x : LdS) (c : Int) (es : List EdgeS) (l : List Str) (k : Nat) (h : k < l.length) : addR es (txtsR ns x c (l.take (k + 1))) = addR (addR es (txtsR ns x c (l.take k))) (edgeR ns x.name l[k] c) := by
  unfold txtsR; rw [List.take_succ_eq_append_getElem h, List.flatMap_append, addR_append]; simp
theorem socks_snoc (ns : List Str) (x : LdS) (es : List EdgeS) (l : List Str) (k : Nat) (h : k < l.length) : addR es (socksR ns x (l.take (k + 1))) = addR (addR (addR es (socksR ns x (l.take k))) (edgeR ns x.name l[k] 2)) (edgeR ns x.name l[k] 8) := by
  unfold socksR; rw [List.take_succ_eq_append_getElem h, List.flatMap_append]; simp [addR_append]

set_option maxHeartbeats 8000000 in
theorem ownR_any (GB : Nat) (on : Option Addr) (cn : Nat) (ns : List NodeS) (es : List EdgeS) (M : Nat) (tv : List (Str × Value)) (t : List LdS) (cs : Array Value) (x : LdS) (w : World)
    (hG : GR w GB on cn ns es) (hA : AllIn w M tv t) (hL : LdRd w cs x) (hx : x.name ∈ ns.map (·.name)) (hun : x.uname = x.name ∧ x.ukind = (kindS x.name : Int)) (hk0 : kindS x.name ≠ 0) (es' : List EdgeS) (hes : addR es (ownR (ns.map (·.name)) t x) = es') :
    Calls Tryz.prog 34 #[.pointer (some ⟨GB, 0, none⟩), .agg cs, .map (some M)] w fun e w' => EdgeTo w GB on cn ns es' e w' := by
  have HG := Lib.hid hG; have HA := Lib.hid hA; have HL := Lib.hid hL; have HX := Lib.hid hx; have HES := Lib.hid hes; have HUN := Lib.hid hun; have HK0 := Lib.hid hk0
  clear hG hA hL hx hes hun hk0
  have HB1 := Lib.hid ((Below.refl w.heap.size w).alloc (Nat.le_refl _) (.cells cs 53))
  have HBX := Lib.hid (heap_alloc_new w (.cells cs 53))
  have HZZ := Lib.hid (And.intro HL.out.size HL.out.one)
  go_enter Tryz.func34, Tryz.ntmps34
  go_wp2_with fail
  have hz : (w.alloc (.cells cs 53)).heap.size = w.heap.size + 1 := Array.size_push _
  generalize w.alloc (.cells cs 53) = w1 at *
  have HZ := Lib.hid hz; clear hz
  obtain ⟨N, hN⟩ : ∃ N, N = w.heap.size := ⟨_, rfl⟩
  rw [← hN] at HBX HZ ⊢
  have HN := Lib.hid hN
  clear hN
  have HQ := Lib.hid (fun V (h : Below w1.heap.size w1 V) => show ∀ j v, cs[j]? = some v → V.cell? ⟨N, j, none⟩ = some v from fun j v hj => by rw [h.cell (lt_heap HBX.out), (rd HBX.out).1 j]; exact hj)
  refine wp_region_drawT (S := fun V => Below w1.heap.size w1 V) 6 (by kernel_rfl) (by kernel_rfl) (below_dn ⟨1, rfl⟩) (fun hHeld => ?_)
  try simp only [Act.put, List.setIfInBounds_toArray, List.set_cons_zero, List.set_cons_succ]
  refine drawT_take (i := 0) (v := .pointer (some ⟨N, 0, none⟩)) (List.getElem?_toArray.trans rfl) (by kernel_rfl) (by kernel_rfl) (by kernel_rfl) (by kernel_rfl) (fun _ _ _ h => h) (Or.inl ⟨by rfl, fun W hW => by have q0 := HQ.out W hW 0 _ HL.out.name; clear hW; go_simp⟩) (by assumption) ?_
  try simp only [Act.put, List.setIfInBounds_toArray, List.set_cons_zero, List.set_cons_succ]
  refine drawT_take (i := 1) (v := .string ⟨x.name.toArray⟩) (List.getElem?_toArray.trans rfl) (by kernel_rfl) (by kernel_rfl) (by kernel_rfl) (by kernel_rfl) (fun _ _ _ h => h) (Or.inl ⟨by rfl, fun W hW => by have q0 := HQ.out W hW 0 _ HL.out.name; clear hW; go_simp⟩) (by assumption) ?_
  try simp only [Act.put, List.setIfInBounds_toArray, List.set_cons_zero, List.set_cons_succ]
  refine drawT_take (i := 2) (v := .pointer (some ⟨N, 5, none⟩)) (List.getElem?_toArray.trans rfl) (by kernel_rfl) (by kernel_rfl) (by kernel_rfl) (by kernel_rfl) (fun _ _ _ h => h) (Or.inl ⟨by rfl, fun W hW => by have q0 := HQ.out W hW 0 _ HL.out.name; clear hW; go_simp⟩) (by assumption) ?_
  try simp only [Act.put, List.setIfInBounds_toArray, List.set_cons_zero, List.set_cons_succ]
  refine drawT_take (i := 3) (v := .agg (unitOf cs)) (List.getElem?_toArray.trans rfl) (by kernel_rfl) (by kernel_rfl) (by kernel_rfl) (by kernel_rfl) (fun _ _ _ h => h) (Or.inl ⟨by rfl, fun V hV => exec_load_mid 51 _ N 5 (unitOf cs) _ rfl rfl (fun i v hv => HQ.out V hV _ _ (unitOf_some HZZ.out.1 hv)) rfl rfl (by rw [unitOf_size HZZ.out.1]; rfl)⟩) (by assumption) ?_
  try simp only [Act.put, List.setIfInBounds_toArray, List.set_cons_zero, List.set_cons_succ]
  have HW0 := Lib.hid hHeld
  refine drawT_one (i := 4) (List.getElem?_toArray.trans rfl) (by kernel_rfl) (by kernel_rfl) (fun K hK => ?_)
  clear hHeld
  rw [if_pos (by rfl)]
  refine oper_alloc_at w1.heap.size (by rfl) 51 unitZero rfl (run_alloc_unit _) ?_
  intro w3 h3 hb3 hlt3
  have HW3 := Lib.hid (show Below w1.heap.size w1 w3 from HW0.out.trans hb3)
  refine hK.out _ _ HW3.out (fun hHeld => ?_)
  clear hK K
  try simp only [Act.put, List.setIfInBounds_toArray, List.set_cons_zero, List.set_cons_succ]
  refine drawT_take (i := 5) (v := .string ⟨x.name.toArray⟩) (List.getElem?_toArray.trans rfl) (by kernel_rfl) (by kernel_rfl) (by kernel_rfl) (by kernel_rfl) (fun _ _ _ h => h) (Or.inl ⟨by rfl, fun W hW => by clear hW; go_simp⟩) (by assumption) ?_
  try simp only [Act.put, List.setIfInBounds_toArray, List.set_cons_zero, List.set_cons_succ]
  refine drawT_done (by kernel_rfl) ?_
  clear hHeld
  refine l_store rfl 51 _ _ w1.heap.size (unitOf cs) unitZero 51 rfl rfl rfl h3 (by rw [unitOf_size HZZ.out.1]; rfl) (by rw [unitOf_size HZZ.out.1]; rfl) (unitOf_one HZZ.out.2) ?_
  intro w5 h5 hf5
  have HW5 := Lib.hid (show Below w1.heap.size w1 w5 from HW3.out.trans (hf5.below _ HW3.out.size (fun k hk e => by omega)))
  have HU5 := Lib.hid h5
  have q4 : w5.cell? ⟨w1.heap.size, 4, none⟩ = cs[9]? := by rw [(rd h5).1 4]; exact unitOf_get HZZ.out.1 4 (by omega)
  obtain ⟨v1, a1, ⟨⟨oa1, cap1, rfl, -⟩⟩⟩ := HL.out.rels
  rw [a1] at q4
  have A1 := Lib.hid a1
  clear h3 hb3 hlt3 h5 hf5 a1
  go_wp2_with fail
  try clear q4
  clear HW3 HW0 HQ
  obtain ⟨v2, a2, ⟨⟨oa2, cap2, rfl, -⟩⟩⟩ := HL.out.wants
  obtain ⟨v3, a3, ⟨⟨oa3, cap3, rfl, -⟩⟩⟩ := HL.out.reqs
  obtain ⟨v4, a4, ⟨⟨oa4, cap4, rfl, -⟩⟩⟩ := HL.out.socks
  have A2 := Lib.hid a2; have A3 := Lib.hid a3; have A4 := Lib.hid a4
  clear a2 a3 a4
  have HBW := Lib.hid (HB1.out.trans (HW5.out.mono HB1.out.size))
  have HG5 := Lib.hid (HG.out.below HBW.out)
  obtain ⟨oe5, ce5, hgb, -⟩ := HG5.out.box
  have HGB := Lib.hid hgb
  have HN5 := Lib.hid (show w5.heap[N]? = some (.cells cs 53 (0, 0)) from heap_below HBX.out HW5.out)
  have HNE := Lib.hid (show N ≠ GB ∧ w1.heap.size ≠ GB by have := HG.out.lt; have := HN.out; have := HZ.out; omega)
  generalize w1.heap.size = U at *
  have HV := Lib.hid (fun V (h : Fr (fun k => k = GB) w5 V) => show V.heap[N]? = some (.cells cs 53 (0, 0)) ∧ V.heap[U]? = some (.cells (unitOf cs) 51 (0, 0)) ∧ LdRd V cs x ∧ AllIn V M tv t from
    ⟨h.heap HN5.out HNE.out.1, h.heap HU5.out HNE.out.2, LdRd.frg HGB.out h (HL.out.below HBW.out), AllIn.frg HGB.out h (HA.out.below HBW.out)⟩)
  have HF0 := Lib.hid (Fr.of_below HBW.out (fun k => k = GB))
  have HC := Lib.hid (fun V (h : Fr (fun k => k = GB) w5 V) => show V.cell? ⟨N, 40, none⟩ = some (.slice oa2 x.wants.length cap2) ∧ V.cell? ⟨N, 41, none⟩ = some (.slice oa3 x.reqs.length cap3) ∧ V.cell? ⟨U, 20, none⟩ = some (.slice oa4 x.socks.length cap4) ∧ V.cell? ⟨U, 3, none⟩ = some (.bool x.dflt) from by
    obtain ⟨h1, h2, h3, _⟩ := HV.out V h
    have hn := (rd h1).1; have hu := (rd h2).1
    refine ⟨(hn 40).trans A2.out, (hn 41).trans A3.out, ?_, ?_⟩
    · rw [hu 20, unitOf_get HZZ.out.1 20 (by omega)]; exact A4.out
    · rw [hu 3, unitOf_get HZZ.out.1 3 (by omega)]; exact h3.dflt)
  have HRO := Lib.hid (fun V (h : Fr (fun k => k = GB) w5 V) => show RowRd encR 2 V oa1 x.rels ∧ StrRow V oa2 x.wants ∧ StrRow V oa3 x.reqs ∧ StrRow V oa4 x.socks from by
    have hl := (HV.out V h).2.2.1
    obtain ⟨u1, b1, ⟨⟨p1, d1, e1, r1⟩⟩⟩ := hl.rels
    obtain ⟨u2, b2, ⟨⟨p2, d2, e2, r2⟩⟩⟩ := hl.wants
    obtain ⟨u3, b3, ⟨⟨p3, d3, e3, r3⟩⟩⟩ := hl.reqs
    obtain ⟨u4, b4, ⟨⟨p4, d4, e4, r4⟩⟩⟩ := hl.socks
    rw [A1.out] at b1; rw [A2.out] at b2; rw [A3.out] at b3; rw [A4.out] at b4
    injection b1 with b1; injection b2 with b2; injection b3 with b3; injection b4 with b4
    subst b1; subst b2; subst b3; subst b4
    injection e1 with e1 f1 g1; injection e2 with e2 f2 g2; injection e3 with e3 f3 g3; injection e4 with e4 f4 g4
    subst e1; subst e2; subst e3; subst e4
    exact ⟨r1, r2, r3, r4⟩)
  have hsm := HL.out.small
  have n1 := hsm.rels; have n2 := hsm.wants; have n3 := hsm.reqs; have n4 := hsm.socks
  clear hsm HBW hgb HGB HN5 HNE HU5 HW5 A1 A2 A3 A4 HB1 HBX HZ HN HA HG HL
  go_loopg [25] (x.rels.length + 1) (fun f i wq => ∃ k : Nat, k ≤ x.rels.length ∧ i = .int .i64 k ∧ x.rels.length - k < f ∧ Hid (GR wq GB on cn ns (addR es (relsR (ns.map (·.name)) x (x.rels.take k)))) ∧ Hid (Fr (fun k => k = GB) w5 wq))
  case atStart => exact ⟨0, by omega, rfl, by omega, HG5, Fr.refl _ _⟩
  case round =>
    obtain ⟨k, hk, rfl, hfu, HGk, Hf⟩ := hrel
    clear HG5
    by_cases hlt : k < x.rels.length
    · obtain ⟨b, o, rfl, hblt, hcc⟩ := (HRO.out wr Hf.out).1 k hlt
      obtain ⟨r, hr⟩ : ∃ r, r = x.rels[k] := ⟨_, rfl⟩
      have HSN := Lib.hid (rels_snoc (ns.map (·.name)) x es x.rels k hlt)
      rw [← hr] at hcc HSN
      have d0 := hcc 0 _ rfl; have d1 := hcc 1 _ rfl
      simp only [Nat.add_zero] at d0
      have i5 : (k : Int) < (x.rels.length : Int) := by omega
      have hba := (Below.refl wr.heap.size wr).alloc (Nat.le_refl _) (.cells #[.int .i64 r.kind, .string ⟨r.name.toArray⟩] 56)
      have HGwa := Lib.hid (HGk.out.below hba)
      have HFwa := Lib.hid (Hf.out.trans (Fr.of_below hba (fun k => k = GB)))
      clear hcc hr hba HGk
      generalize addR es (relsR (ns.map (·.name)) x (x.rels.take k)) = ek at *
      by_cases h1 : 1 ≤ r.kind
      · by_cases h2 : r.kind ≤ 9
        · rw [if_pos ⟨h1, h2⟩] at HSN
          go_wp2_with fail
          generalize wr.alloc (.cells #[.int .i64 r.kind, .string ⟨r.name.toArray⟩] 56) = wa at *
          refine (edgeR_any GB on cn ns ek x.name r.name r.kind wa HGwa.out HX.out ⟨h1, by omega⟩ _ rfl).mono ?_
          rintro e wb ⟨rfl, hg, hf⟩
          have HGb := Lib.hid hg
          have HFb := Lib.hid (HFwa.out.trans hf)
          clear hg hf
          go_wp2_with fail
          go_roundg (gk - 1)
          case measure => omega
          case rel => exact ⟨k + 1, by omega, by go_num, by omega, by rw [HSN.out]; exact HGb, HFb⟩
        · rw [if_neg (fun h => h2 h.2)] at HSN
          go_wp2_with fail
          go_roundg (gk - 1)
          case measure => omega
          case rel => exact ⟨k + 1, by omega, by go_num, by omega, by rw [HSN.out]; exact HGwa, HFwa⟩
      · rw [if_neg (fun h => h1 h.1)] at HSN
        go_wp2_with fail
        go_roundg (gk - 1)
        case measure => omega
        case rel => exact ⟨k + 1, by omega, by go_num, by omega, by rw [HSN.out]; exact HGwa, HFwa⟩
    · have hk2 : k = x.rels.length := by omega
      subst hk2
      rw [List.take_of_length_le (Nat.le_refl _)] at HGk
      obtain ⟨e1, he1⟩ : ∃ z, z = addR es (relsR (ns.map (·.name)) x x.rels) := ⟨_, rfl⟩
      rw [← he1] at HGk
      have HEe1 := Lib.hid he1
      clear he1
      obtain ⟨q40, q41, q20, q3⟩ := HC.out wr Hf.out
      go_wp2_with fail
      obtain ⟨wx1, rfl⟩ : ∃ W, W = wr := ⟨_, rfl⟩
      clear q40 q41 q20 q3 hfu hlt hk
      go_loopg [48] (x.wants.length + 1) (fun f i wq => ∃ k : Nat, k ≤ x.wants.length ∧ i = .int .i64 k ∧ x.wants.length - k < f ∧ Hid (GR wq GB on cn ns (addR e1 (txtsR (ns.map (·.name)) x 2 (x.wants.take k)))) ∧ Hid (Fr (fun k => k = GB) w5 wq))
      case atStart => exact ⟨0, by omega, rfl, by omega, HGk, Hf⟩
      case round =>
        clear HGk Hf
        obtain ⟨k, hk, rfl, hfu, HGk, Hf⟩ := hrel
        by_cases hlt : k < x.wants.length
        · obtain ⟨b, o, rfl, hcc⟩ := (HRO.out wr Hf.out).2.1 k hlt
          obtain ⟨s, hs⟩ : ∃ s, s = x.wants[k] := ⟨_, rfl⟩
          have HSN := Lib.hid (txts_snoc (ns.map (·.name)) x 2 e1 x.wants k hlt)
          rw [← hs] at hcc HSN
          have i5 : (k : Int) < (x.wants.length : Int) := by omega
          clear hs
          generalize addR e1 (txtsR (ns.map (·.name)) x 2 (x.wants.take k)) = ek at *
          go_wp2_with fail
          have HGwr := HGk; have HFwr := Hf
          refine (edgeR_any GB on cn ns ek x.name s 2 wr HGwr.out HX.out (by omega) _ rfl).mono ?_
          rintro e wb0 ⟨rfl, hg, hf⟩
          have HGwb0 := Lib.hid hg
          have HFwb0 := Lib.hid (HFwr.out.trans hf)
          clear hg hf
          go_wp2_with fail
          go_roundg (gk - 1)
          case measure => omega
          case rel => exact ⟨k + 1, by omega, by go_num, by omega, by rw [HSN.out]; exact HGwb0, HFwb0⟩
        · have hk2 : k = x.wants.length := by omega
          subst hk2
          rw [List.take_of_length_le (Nat.le_refl _)] at HGk
          obtain ⟨e2, he2⟩ : ∃ z, z = addR e1 (txtsR (ns.map (·.name)) x 2 x.wants) := ⟨_, rfl⟩
          rw [← he2] at HGk
          have HEe2 := Lib.hid he2
          clear he2
          obtain ⟨q40, q41, q20, q3⟩ := HC.out wr Hf.out
          go_wp2_with fail
          obtain ⟨wx2, rfl⟩ : ∃ W, W = wr := ⟨_, rfl⟩
          clear q40 q41 q20 q3 hfu hlt hk
          go_loopg [60] (x.reqs.length + 1) (fun f i wq => ∃ k : Nat, k ≤ x.reqs.length ∧ i = .int .i64 k ∧ x.reqs.length - k < f ∧ Hid (GR wq GB on cn ns (addR e2 (txtsR (ns.map (·.name)) x 1 (x.reqs.take k)))) ∧ Hid (Fr (fun k => k = GB) w5 wq))
          case atStart => exact ⟨0, by omega, rfl, by omega, HGk, Hf⟩
          case round =>
            clear HGk Hf
            obtain ⟨k, hk, rfl, hfu, HGk, Hf⟩ := hrel
            by_cases hlt : k < x.reqs.length
            · obtain ⟨b, o, rfl, hcc⟩ := (HRO.out wr Hf.out).2.2.1 k hlt
              obtain ⟨s, hs⟩ : ∃ s, s = x.reqs[k] := ⟨_, rfl⟩
              have HSN := Lib.hid (txts_snoc (ns.map (·.name)) x 1 e2 x.reqs k hlt)
              rw [← hs] at hcc HSN
              have i5 : (k : Int) < (x.reqs.length : Int) := by omega
              clear hs
              generalize addR e2 (txtsR (ns.map (·.name)) x 1 (x.reqs.take k)) = ek at *
              go_wp2_with fail
              have HGwr := HGk; have HFwr := Hf
              refine (edgeR_any GB on cn ns ek x.name s 1 wr HGwr.out HX.out (by omega) _ rfl).mono ?_
              rintro e wb0 ⟨rfl, hg, hf⟩
              have HGwb0 := Lib.hid hg
              have HFwb0 := Lib.hid (HFwr.out.trans hf)
              clear hg hf
              go_wp2_with fail
              go_roundg (gk - 1)
              case measure => omega
              case rel => exact ⟨k + 1, by omega, by go_num, by omega, by rw [HSN.out]; exact HGwb0, HFwb0⟩
            · have hk2 : k = x.reqs.length := by omega
              subst hk2
              rw [List.take_of_length_le (Nat.le_refl _)] at HGk
              obtain ⟨e3, he3⟩ : ∃ z, z = addR e2 (txtsR (ns.map (·.name)) x 1 x.reqs) := ⟨_, rfl⟩
              rw [← he3] at HGk
              have HEe3 := Lib.hid he3
              clear he3
              obtain ⟨q40, q41, q20, q3⟩ := HC.out wr Hf.out
              go_wp2_with fail
              obtain ⟨wx3, rfl⟩ : ∃ W, W = wr := ⟨_, rfl⟩
              clear q40 q41 q20 q3 hfu hlt hk
              have HGx := HGk; have HFx := Hf
              clear HGk Hf
              refine (of_any ⟨x.name.toArray⟩ wx3 (ofS x.name) rfl).mono ?_
              rintro e wy ⟨rfl, hbo⟩
              simp only [ofS_kind]
              have HGwy := Lib.hid (HGx.out.below hbo)
              have HFwy := Lib.hid (HFx.out.trans (Fr.of_below hbo _))
              clear hbo HGx HFx
              have hkf := kind_four x.name
              rcases hkf with hkf | hkf | hkf | hkf | hkf
              · exact absurd hkf HK0.out
              · have HR := Lib.hid (show es' = addR e3 (socksR (ns.map (·.name)) x x.socks ++ (if x.dflt then edgeR (ns.map (·.name)) x.name sFirst 1 ++ (edgeR (ns.map (·.name)) x.name sFirst 8 ++ (edgeR (ns.map (·.name)) x.name sLast 6 ++ (edgeR (ns.map (·.name)) x.name sLast 7 ++ []))) else [])) by
                  rw [← HES.out, own_k1 hkf, addR_append, ← HEe1.out, addR_append, ← HEe2.out, addR_append, ← HEe3.out])
                rw [hkf]
                have hfc := field_cut (.int .i64 1) (.string ⟨(ofS x.name).pre.toArray⟩) (.string ⟨(ofS x.name).inst.toArray⟩) (.bool (ofS x.name).at_) rfl
                obtain ⟨q40, q41, q20, q3⟩ := HC.out wy HFwy.out
                go_wp2_with fail
                clear q40 q41 q20 q3
                have HGk := HGwy; have Hf := HFwy
                go_loopg [94] (x.socks.length + 1) (fun f i wq => ∃ k : Nat, k ≤ x.socks.length ∧ i = .int .i64 k ∧ x.socks.length - k < f ∧ Hid (GR wq GB on cn ns (addR e3 (socksR (ns.map (·.name)) x (x.socks.take k)))) ∧ Hid (Fr (fun k => k = GB) w5 wq))
                case atStart => exact ⟨0, by omega, rfl, by omega, HGk, Hf⟩
                case round =>
                  clear HGk Hf
                  obtain ⟨k, hk, rfl, hfu, HGk, Hf⟩ := hrel
                  by_cases hlt : k < x.socks.length
                  · obtain ⟨b, o, rfl, hcc⟩ := (HRO.out wr Hf.out).2.2.2 k hlt
                    obtain ⟨s, hs⟩ : ∃ s, s = x.socks[k] := ⟨_, rfl⟩
                    have HSN := Lib.hid (socks_snoc (ns.map (·.name)) x e3 x.socks k hlt)
                    rw [← hs] at hcc HSN
                    have i5 : (k : Int) < (x.socks.length : Int) := by omega
                    clear hs
                    generalize addR e3 (socksR (ns.map (·.name)) x (x.socks.take k)) = ek at *
                    go_wp2_with fail
                    have HGwr := HGk; have HFwr := Hf
                    refine (edgeR_any GB on cn ns ek x.name s 2 wr HGwr.out HX.out (by omega) _ rfl).mono ?_
                    rintro e wb0 ⟨rfl, hg, hf⟩
                    have HGwb0 := Lib.hid hg
                    have HFwb0 := Lib.hid (HFwr.out.trans hf)
                    clear hg hf
                    go_wp2_with fail
                    refine (edgeR_any GB on cn ns (addR ek (edgeR (ns.map (·.name)) x.name s 2)) x.name s 8 wb0 HGwb0.out HX.out (by omega) _ rfl).mono ?_
                    rintro e wb1 ⟨rfl, hg, hf⟩
                    have HGwb1 := Lib.hid hg
                    have HFwb1 := Lib.hid (HFwb0.out.trans hf)
                    clear hg hf
                    go_wp2_with fail
                    go_roundg (gk - 1)
                    case measure => omega
                    case rel => exact ⟨k + 1, by omega, by go_num, by omega, by rw [HSN.out]; exact HGwb1, HFwb1⟩
                  · have hk2 : k = x.socks.length := by omega
                    subst hk2
                    rw [List.take_of_length_le (Nat.le_refl _)] at HGk
                    rw [addR_append] at HR
                    obtain ⟨e4, he4⟩ : ∃ z, z = addR e3 (socksR (ns.map (·.name)) x x.socks) := ⟨_, rfl⟩
                    rw [← he4] at HGk HR
                    clear he4
                    obtain ⟨q40, q41, q20, q3⟩ := HC.out wr Hf.out
                    have HGwr := HGk; have HFwr := Hf
                    cases hd : x.dflt with
                    | false =>
                      rw [hd] at HR q3
                      simp only [Bool.false_eq_true, if_false] at HR
                      go_wp2_with fail
                      refine bodyPost_ret (results_none rfl _ _ _) rfl ?_
                      exact ⟨rfl, by rw [HR.out, addR_nil]; exact HGwr.out, HF0.out.trans HFwr.out⟩
                    | true =>
                      rw [hd] at HR q3
                      simp only [if_true] at HR
                      go_wp2_with fail
                      refine (edgeR_any GB on cn ns e4 x.name sFirst 1 wr HGwr.out HX.out (by omega) _ rfl).mono ?_
                      rintro e wc2 ⟨rfl, hg, hf⟩
                      have HGwc2 := Lib.hid hg
                      have HFwc2 := Lib.hid (HFwr.out.trans hf)
                      clear hg hf
                      obtain ⟨er2, her2⟩ : ∃ z, z = addR e4 (edgeR (ns.map (·.name)) x.name sFirst 1) := ⟨_, rfl⟩
                      rw [← her2] at HGwc2
                      rw [addR_append, ← her2] at HR
                      clear her2
                      go_wp2_with fail
                      refine (edgeR_any GB on cn ns er2 x.name sFirst 8 wc2 HGwc2.out HX.out (by omega) _ rfl).mono ?_
                      rintro e wc3 ⟨rfl, hg, hf⟩
                      have HGwc3 := Lib.hid hg
                      have HFwc3 := Lib.hid (HFwc2.out.trans hf)
                      clear hg hf
                      obtain ⟨er3, her3⟩ : ∃ z, z = addR er2 (edgeR (ns.map (·.name)) x.name sFirst 8) := ⟨_, rfl⟩
                      rw [← her3] at HGwc3
                      rw [addR_append, ← her3] at HR
                      clear her3
                      go_wp2_with fail
                      refine (edgeR_any GB on cn ns er3 x.name sLast 6 wc3 HGwc3.out HX.out (by omega) _ rfl).mono ?_
                      rintro e wc4 ⟨rfl, hg, hf⟩
                      have HGwc4 := Lib.hid hg
                      have HFwc4 := Lib.hid (HFwc3.out.trans hf)
                      clear hg hf
                      obtain ⟨er4, her4⟩ : ∃ z, z = addR er3 (edgeR (ns.map (·.name)) x.name sLast 6) := ⟨_, rfl⟩
                      rw [← her4] at HGwc4
                      rw [addR_append, ← her4] at HR
                      clear her4
                      go_wp2_with fail
                      refine (edgeR_any GB on cn ns er4 x.name sLast 7 wc4 HGwc4.out HX.out (by omega) _ rfl).mono ?_
                      rintro e wc5 ⟨rfl, hg, hf⟩
                      have HGwc5 := Lib.hid hg
                      have HFwc5 := Lib.hid (HFwc4.out.trans hf)
                      clear hg hf
                      obtain ⟨er5, her5⟩ : ∃ z, z = addR er4 (edgeR (ns.map (·.name)) x.name sLast 7) := ⟨_, rfl⟩
                      rw [← her5] at HGwc5
                      rw [addR_append, ← her5] at HR
                      clear her5
                      go_wp2_with fail
                      refine bodyPost_ret (results_none rfl _ _ _) rfl ?_
                      exact ⟨rfl, by rw [HR.out, addR_nil]; exact HGwc5.out, HF0.out.trans HFwc5.out⟩
              · have HR := Lib.hid (show es' = addR e3 (edgeR (ns.map (·.name)) x.name (wakesR x) 10 ++ (edgeR (ns.map (·.name)) x.name (wakesR x) 7 ++ (if x.dflt then edgeR (ns.map (·.name)) x.name sFirst 8 ++ (edgeR (ns.map (·.name)) x.name sLast 6 ++ (edgeR (ns.map (·.name)) x.name sLast 7 ++ [])) else []))) by
                  rw [← HES.out, own_k23 (.inl hkf), addR_append, ← HEe1.out, addR_append, ← HEe2.out, addR_append, ← HEe3.out])
                rw [hkf]
                have hfc := field_cut (.int .i64 2) (.string ⟨(ofS x.name).pre.toArray⟩) (.string ⟨(ofS x.name).inst.toArray⟩) (.bool (ofS x.name).at_) rfl
                go_wp2_with (refine l_load rfl 51 _ U (unitOf cs) 51 _ rfl rfl (HV.out _ HFwy.out).2.1 rfl rfl (by rw [unitOf_size HZZ.out.1]; rfl) ?_)
                refine (wakes10_any (unitOf cs) x.uname x.unit x.ukind wy ((unitOf_get HZZ.out.1 0 (by omega)).trans (HV.out _ HFwy.out).2.2.1.uname) ((unitOf_get HZZ.out.1 1 (by omega)).trans (HV.out _ HFwy.out).2.2.1.ukind) ((unitOf_get HZZ.out.1 24 (by omega)).trans (HV.out _ HFwy.out).2.2.1.unit) (by have := kindS_short HK0.out; rw [HUN.out.1]; omega) (wakesR x) rfl).mono ?_
                rintro e wz ⟨rfl, hbo⟩
                have HGwz := Lib.hid (HGwy.out.below hbo)
                have HFwz := Lib.hid (HFwy.out.trans (Fr.of_below hbo _))
                clear hbo
                go_wp2_with fail
                refine (edgeR_any GB on cn ns e3 x.name (wakesR x) 10 wz HGwz.out HX.out (by omega) _ rfl).mono ?_
                rintro e wc0 ⟨rfl, hg, hf⟩
                have HGwc0 := Lib.hid hg
                have HFwc0 := Lib.hid (HFwz.out.trans hf)
                clear hg hf
                obtain ⟨er0, her0⟩ : ∃ z, z = addR e3 (edgeR (ns.map (·.name)) x.name (wakesR x) 10) := ⟨_, rfl⟩
                rw [← her0] at HGwc0
                rw [addR_append, ← her0] at HR
                clear her0
                go_wp2_with (refine l_load rfl 51 _ U (unitOf cs) 51 _ rfl rfl (HV.out _ HFwc0.out).2.1 rfl rfl (by rw [unitOf_size HZZ.out.1]; rfl) ?_)
                refine (wakes10_any (unitOf cs) x.uname x.unit x.ukind wc0 ((unitOf_get HZZ.out.1 0 (by omega)).trans (HV.out _ HFwc0.out).2.2.1.uname) ((unitOf_get HZZ.out.1 1 (by omega)).trans (HV.out _ HFwc0.out).2.2.1.ukind) ((unitOf_get HZZ.out.1 24 (by omega)).trans (HV.out _ HFwc0.out).2.2.1.unit) (by have := kindS_short HK0.out; rw [HUN.out.1]; omega) (wakesR x) rfl).mono ?_
                rintro e wd0 ⟨rfl, hbo⟩
                have HGwd0 := Lib.hid (HGwc0.out.below hbo)
                have HFwd0 := Lib.hid (HFwc0.out.trans (Fr.of_below hbo _))
                clear hbo
                go_wp2_with fail
                refine (edgeR_any GB on cn ns er0 x.name (wakesR x) 7 wd0 HGwd0.out HX.out (by omega) _ rfl).mono ?_
                rintro e wc1 ⟨rfl, hg, hf⟩
                have HGwc1 := Lib.hid hg
                have HFwc1 := Lib.hid (HFwd0.out.trans hf)
                clear hg hf
                obtain ⟨er1, her1⟩ : ∃ z, z = addR er0 (edgeR (ns.map (·.name)) x.name (wakesR x) 7) := ⟨_, rfl⟩
                rw [← her1] at HGwc1
                rw [addR_append, ← her1] at HR
                clear her1
                obtain ⟨q40, q41, q20, q3⟩ := HC.out wc1 HFwc1.out
                cases hd : x.dflt with
                | false =>
                  rw [hd] at HR q3
                  simp only [Bool.false_eq_true, if_false] at HR
                  go_wp2_with fail
                  refine bodyPost_ret (results_none rfl _ _ _) rfl ?_
                  exact ⟨rfl, by rw [HR.out, addR_nil]; exact HGwc1.out, HF0.out.trans HFwc1.out⟩
                | true =>
                  rw [hd] at HR q3
                  simp only [if_true] at HR
                  go_wp2_with fail
                  refine (edgeR_any GB on cn ns er1 x.name sFirst 8 wc1 HGwc1.out HX.out (by omega) _ rfl).mono ?_
                  rintro e wc2 ⟨rfl, hg, hf⟩
                  have HGwc2 := Lib.hid hg
                  have HFwc2 := Lib.hid (HFwc1.out.trans hf)
                  clear hg hf
                  obtain ⟨er2, her2⟩ : ∃ z, z = addR er1 (edgeR (ns.map (·.name)) x.name sFirst 8) := ⟨_, rfl⟩
                  rw [← her2] at HGwc2
                  rw [addR_append, ← her2] at HR
                  clear her2
                  go_wp2_with fail
                  refine (edgeR_any GB on cn ns er2 x.name sLast 6 wc2 HGwc2.out HX.out (by omega) _ rfl).mono ?_
                  rintro e wc3 ⟨rfl, hg, hf⟩
                  have HGwc3 := Lib.hid hg
                  have HFwc3 := Lib.hid (HFwc2.out.trans hf)
                  clear hg hf
                  obtain ⟨er3, her3⟩ : ∃ z, z = addR er2 (edgeR (ns.map (·.name)) x.name sLast 6) := ⟨_, rfl⟩
                  rw [← her3] at HGwc3
                  rw [addR_append, ← her3] at HR
                  clear her3
                  go_wp2_with fail
                  refine (edgeR_any GB on cn ns er3 x.name sLast 7 wc3 HGwc3.out HX.out (by omega) _ rfl).mono ?_
                  rintro e wc4 ⟨rfl, hg, hf⟩
                  have HGwc4 := Lib.hid hg
                  have HFwc4 := Lib.hid (HFwc3.out.trans hf)
                  clear hg hf
                  obtain ⟨er4, her4⟩ : ∃ z, z = addR er3 (edgeR (ns.map (·.name)) x.name sLast 7) := ⟨_, rfl⟩
                  rw [← her4] at HGwc4
                  rw [addR_append, ← her4] at HR
                  clear her4
                  go_wp2_with fail
                  refine bodyPost_ret (results_none rfl _ _ _) rfl ?_
                  exact ⟨rfl, by rw [HR.out, addR_nil]; exact HGwc4.out, HF0.out.trans HFwc4.out⟩
              · have HR := Lib.hid (show es' = addR e3 (edgeR (ns.map (·.name)) x.name (wakesR x) 10 ++ (edgeR (ns.map (·.name)) x.name (wakesR x) 7 ++ (if x.dflt then edgeR (ns.map (·.name)) x.name sFirst 8 ++ (edgeR (ns.map (·.name)) x.name sLast 6 ++ (edgeR (ns.map (·.name)) x.name sLast 7 ++ [])) else []))) by
                  rw [← HES.out, own_k23 (.inr hkf), addR_append, ← HEe1.out, addR_append, ← HEe2.out, addR_append, ← HEe3.out])
                rw [hkf]
                have hfc := field_cut (.int .i64 3) (.string ⟨(ofS x.name).pre.toArray⟩) (.string ⟨(ofS x.name).inst.toArray⟩) (.bool (ofS x.name).at_) rfl
                go_wp2_with (refine l_load rfl 51 _ U (unitOf cs) 51 _ rfl rfl (HV.out _ HFwy.out).2.1 rfl rfl (by rw [unitOf_size HZZ.out.1]; rfl) ?_)
                refine (wakes10_any (unitOf cs) x.uname x.unit x.ukind wy ((unitOf_get HZZ.out.1 0 (by omega)).trans (HV.out _ HFwy.out).2.2.1.uname) ((unitOf_get HZZ.out.1 1 (by omega)).trans (HV.out _ HFwy.out).2.2.1.ukind) ((unitOf_get HZZ.out.1 24 (by omega)).trans (HV.out _ HFwy.out).2.2.1.unit) (by have := kindS_short HK0.out; rw [HUN.out.1]; omega) (wakesR x) rfl).mono ?_
                rintro e wz ⟨rfl, hbo⟩
                have HGwz := Lib.hid (HGwy.out.below hbo)
                have HFwz := Lib.hid (HFwy.out.trans (Fr.of_below hbo _))
                clear hbo
                go_wp2_with fail
                refine (edgeR_any GB on cn ns e3 x.name (wakesR x) 10 wz HGwz.out HX.out (by omega) _ rfl).mono ?_
                rintro e wc0 ⟨rfl, hg, hf⟩
                have HGwc0 := Lib.hid hg
                have HFwc0 := Lib.hid (HFwz.out.trans hf)
                clear hg hf
                obtain ⟨er0, her0⟩ : ∃ z, z = addR e3 (edgeR (ns.map (·.name)) x.name (wakesR x) 10) := ⟨_, rfl⟩
                rw [← her0] at HGwc0
                rw [addR_append, ← her0] at HR
                clear her0
                go_wp2_with (refine l_load rfl 51 _ U (unitOf cs) 51 _ rfl rfl (HV.out _ HFwc0.out).2.1 rfl rfl (by rw [unitOf_size HZZ.out.1]; rfl) ?_)
                refine (wakes10_any (unitOf cs) x.uname x.unit x.ukind wc0 ((unitOf_get HZZ.out.1 0 (by omega)).trans (HV.out _ HFwc0.out).2.2.1.uname) ((unitOf_get HZZ.out.1 1 (by omega)).trans (HV.out _ HFwc0.out).2.2.1.ukind) ((unitOf_get HZZ.out.1 24 (by omega)).trans (HV.out _ HFwc0.out).2.2.1.unit) (by have := kindS_short HK0.out; rw [HUN.out.1]; omega) (wakesR x) rfl).mono ?_
                rintro e wd0 ⟨rfl, hbo⟩
                have HGwd0 := Lib.hid (HGwc0.out.below hbo)
                have HFwd0 := Lib.hid (HFwc0.out.trans (Fr.of_below hbo _))
                clear hbo
                go_wp2_with fail
                refine (edgeR_any GB on cn ns er0 x.name (wakesR x) 7 wd0 HGwd0.out HX.out (by omega) _ rfl).mono ?_
                rintro e wc1 ⟨rfl, hg, hf⟩
                have HGwc1 := Lib.hid hg
                have HFwc1 := Lib.hid (HFwd0.out.trans hf)
                clear hg hf
                obtain ⟨er1, her1⟩ : ∃ z, z = addR er0 (edgeR (ns.map (·.name)) x.name (wakesR x) 7) := ⟨_, rfl⟩
                rw [← her1] at HGwc1
                rw [addR_append, ← her1] at HR
                clear her1
                obtain ⟨q40, q41, q20, q3⟩ := HC.out wc1 HFwc1.out
                cases hd : x.dflt with
                | false =>
                  rw [hd] at HR q3
                  simp only [Bool.false_eq_true, if_false] at HR
                  go_wp2_with fail
                  refine bodyPost_ret (results_none rfl _ _ _) rfl ?_
                  exact ⟨rfl, by rw [HR.out, addR_nil]; exact HGwc1.out, HF0.out.trans HFwc1.out⟩
                | true =>
                  rw [hd] at HR q3
                  simp only [if_true] at HR
                  go_wp2_with fail
                  refine (edgeR_any GB on cn ns er1 x.name sFirst 8 wc1 HGwc1.out HX.out (by omega) _ rfl).mono ?_
                  rintro e wc2 ⟨rfl, hg, hf⟩
                  have HGwc2 := Lib.hid hg
                  have HFwc2 := Lib.hid (HFwc1.out.trans hf)
                  clear hg hf
                  obtain ⟨er2, her2⟩ : ∃ z, z = addR er1 (edgeR (ns.map (·.name)) x.name sFirst 8) := ⟨_, rfl⟩
                  rw [← her2] at HGwc2
                  rw [addR_append, ← her2] at HR
                  clear her2
                  go_wp2_with fail
                  refine (edgeR_any GB on cn ns er2 x.name sLast 6 wc2 HGwc2.out HX.out (by omega) _ rfl).mono ?_
                  rintro e wc3 ⟨rfl, hg, hf⟩
                  have HGwc3 := Lib.hid hg
                  have HFwc3 := Lib.hid (HFwc2.out.trans hf)
                  clear hg hf
                  obtain ⟨er3, her3⟩ : ∃ z, z = addR er2 (edgeR (ns.map (·.name)) x.name sLast 6) := ⟨_, rfl⟩
                  rw [← her3] at HGwc3
                  rw [addR_append, ← her3] at HR
                  clear her3
                  go_wp2_with fail
                  refine (edgeR_any GB on cn ns er3 x.name sLast 7 wc3 HGwc3.out HX.out (by omega) _ rfl).mono ?_
                  rintro e wc4 ⟨rfl, hg, hf⟩
                  have HGwc4 := Lib.hid hg
                  have HFwc4 := Lib.hid (HFwc3.out.trans hf)
                  clear hg hf
                  obtain ⟨er4, her4⟩ : ∃ z, z = addR er3 (edgeR (ns.map (·.name)) x.name sLast 7) := ⟨_, rfl⟩
                  rw [← her4] at HGwc4
                  rw [addR_append, ← her4] at HR
                  clear her4
                  go_wp2_with fail
                  refine bodyPost_ret (results_none rfl _ _ _) rfl ?_
                  exact ⟨rfl, by rw [HR.out, addR_nil]; exact HGwc4.out, HF0.out.trans HFwc4.out⟩
              · have HR := Lib.hid (show es' = addR e3 (if x.dflt then targetR (ns.map (·.name)) t x ++ [] else []) by
                  rw [← HES.out, own_k4 hkf, addR_append, ← HEe1.out, addR_append, ← HEe2.out, addR_append, ← HEe3.out])
                rw [hkf]
                have hfc := field_cut (.int .i64 4) (.string ⟨(ofS x.name).pre.toArray⟩) (.string ⟨(ofS x.name).inst.toArray⟩) (.bool (ofS x.name).at_) rfl
                obtain ⟨q40, q41, q20, q3⟩ := HC.out wy HFwy.out
                cases hd : x.dflt with
                | false =>
                  rw [hd] at HR q3
                  simp only [Bool.false_eq_true, if_false] at HR
                  go_wp2_with fail
                  refine bodyPost_ret (results_none rfl _ _ _) rfl ?_
                  exact ⟨rfl, by rw [HR.out, addR_nil]; exact HGwy.out, HF0.out.trans HFwy.out⟩
                | true =>
                  rw [hd] at HR q3
                  simp only [if_true] at HR
                  go_wp2_with (refine l_load rfl 53 _ N cs 53 _ rfl rfl (HV.out _ HFwy.out).1 rfl rfl (by rw [HZZ.out.1]; rfl) ?_)
                  refine (targetR_any GB on cn ns e3 M tv t cs x wy HGwy.out (HV.out _ HFwy.out).2.2.2 (HV.out _ HFwy.out).2.2.1 HX.out _ rfl).mono ?_
                  rintro e wc0 ⟨rfl, hg, hf⟩
                  rw [addR_append] at HR
                  have HGwc0 := Lib.hid hg
                  have HFwc0 := Lib.hid (HFwy.out.trans hf)
                  clear hg hf q40 q41 q20 q3
                  go_wp2_with fail
                  refine bodyPost_ret (results_none rfl _ _ _) rfl ?_
                  exact ⟨rfl, by rw [HR.out, addR_nil]; exact HGwc0.out, HF0.out.trans HFwc0.out⟩
end Go.Proofs.YtcaamakodneplaaGreat

/-
  The reference: Same of matinsref15.
-/
namespace Go.Proofs.YtcaamakodneplaaGreat
open Go Go.RowKit
set_option linter.unusedVariables false
set_option linter.unusedSimpArgs false
set_option maxRecDepth 100000

set_option maxHeartbeats 2000000 in
theorem sameG_any (on1 on2 oe1 oe2 : Option Addr) (cn1 cn2 ce1 ce2 : Nat) (ns : List NodeS) (es : List EdgeS) (w : World) (h1 : RowRd encN 3 w on1 ns) (h2 : RowRd encN 3 w on2 ns) (h3 : RowRd encE 3 w oe1 es) (h4 : RowRd encE 3 w oe2 es) (hln : ns.length ≤ 1048576) (hle : es.length ≤ 1048576) :
    Calls Tryz.prog 11 #[.agg #[.slice on1 ns.length cn1, .slice oe1 es.length ce1], .agg #[.slice on2 ns.length cn2, .slice oe2 es.length ce2]] w fun e w' => e = .returned (.bool true) ∧ Below w.heap.size w w' := by
  have H1 := Lib.hid h1; have H2 := Lib.hid h2; have H3 := Lib.hid h3; have H4 := Lib.hid h4
  clear h1 h2 h3 h4
  have hnn : ((ns.length : Int) != (ns.length : Int)) = false := by simp
  have hee : ((es.length : Int) != (es.length : Int)) = false := by simp
  go_enter Tryz.func11, Tryz.ntmps11
  have hb1 := (Below.refl w.heap.size w).alloc (Nat.le_refl _) (.cells #[.slice on1 ns.length cn1, .slice oe1 es.length ce1] 29)
  have hg1 := heap_alloc_new w (.cells #[.slice on1 ns.length cn1, .slice oe1 es.length ce1] 29)
  obtain ⟨A, hA⟩ : ∃ A, A = w.heap.size := ⟨_, rfl⟩
  have hz : (w.alloc (.cells #[.slice on1 ns.length cn1, .slice oe1 es.length ce1] 29)).heap.size = A + 1 := by rw [hA]; simp
  have hg2 := heap_alloc_new (w.alloc (.cells #[.slice on1 ns.length cn1, .slice oe1 es.length ce1] 29)) (.cells #[.slice on2 ns.length cn2, .slice oe2 es.length ce2] 29)
  have hb2 := hb1.alloc hb1.size (.cells #[.slice on2 ns.length cn2, .slice oe2 es.length ce2] 29)
  have hb3 := (Below.refl (w.alloc (.cells #[.slice on1 ns.length cn1, .slice oe1 es.length ce1] 29)).heap.size (w.alloc (.cells #[.slice on1 ns.length cn1, .slice oe1 es.length ce1] 29))).alloc (Nat.le_refl _) (.cells #[.slice on2 ns.length cn2, .slice oe2 es.length ce2] 29)
  have hg1 := heap_below hg1 hb3
  rw [hz] at hg2
  have e0 := cells2 hg1; have e1 := cells2 hg2
  rw [← hA] at e0 hg1
  obtain ⟨p0, p1⟩ := e0
  obtain ⟨p2, p3⟩ := e1
  go_wp2_with fail
  rw [← hA]
  have HB := Lib.hid hb2; have HG1 := Lib.hid hg1; have HG2 := Lib.hid hg2
  generalize (w.alloc (.cells #[.slice on1 ns.length cn1, .slice oe1 es.length ce1] 29)).alloc (.cells #[.slice on2 ns.length cn2, .slice oe2 es.length ce2] 29) = w2 at *
  clear hb1 hb2 hb3 hg1 hg2 hz p0 p1 p2 p3 hnn hee hA
  have HQ := Lib.hid (fun V (h : Below w2.heap.size w2 V) => show ((V.cell? ⟨A, 0, none⟩ = some (.slice on1 ns.length cn1) ∧ V.cell? ⟨A, 1, none⟩ = some (.slice oe1 es.length ce1)) ∧ V.cell? ⟨A + 1, 0, none⟩ = some (.slice on2 ns.length cn2) ∧ V.cell? ⟨A + 1, 1, none⟩ = some (.slice oe2 es.length ce2)) from ⟨cells2 (heap_below HG1.out h), cells2 (heap_below HG2.out h)⟩)
  have HN := Lib.hid (fun V (h : Below w2.heap.size w2 V) => show RowRd encN 3 V on1 ns ∧ RowRd encN 3 V on2 ns from ⟨(H1.out.below HB.out).below h, (H2.out.below HB.out).below h⟩)
  have HE := Lib.hid (fun V (h : Below w2.heap.size w2 V) => show RowRd encE 3 V oe1 es ∧ RowRd encE 3 V oe2 es from ⟨(H3.out.below HB.out).below h, (H4.out.below HB.out).below h⟩)
  clear H1 H2 H3 H4 HG1 HG2
  go_loopg [26] (ns.length + 1) (fun f i wr => ∃ k : Nat, k ≤ ns.length ∧ i = .int .i64 k ∧ ns.length - k < f ∧ Hid (Below w2.heap.size w2 wr))
  case atStart => exact ⟨0, by omega, rfl, by omega, Below.refl _ _⟩
  case round =>
    obtain ⟨k, hk, rfl, hfu, Hb⟩ := hrel
    by_cases hlt : k < ns.length
    · obtain ⟨b1, p1, rfl, hl1, hc1⟩ := (HN.out wr Hb.out).1 k hlt
      obtain ⟨b2, p2, rfl, hl2, hc2⟩ := (HN.out wr Hb.out).2 k hlt
      obtain ⟨x, hx⟩ : ∃ x, x = ns[k] := ⟨_, rfl⟩
      rw [← hx] at hc1 hc2
      have HXY := Lib.hid (fun V (h : Below wr.heap.size wr V) => show V.cell? ⟨b1, p1 + k * 3, none⟩ = some (.string ⟨x.name.toArray⟩) ∧ V.cell? ⟨b1, p1 + k * 3 + 1, none⟩ = some (.int .i64 x.kind) ∧ V.cell? ⟨b1, p1 + k * 3 + 2, none⟩ = some (.int .i64 x.state) ∧ V.cell? ⟨b2, p2 + k * 3, none⟩ = some (.string ⟨x.name.toArray⟩) ∧ V.cell? ⟨b2, p2 + k * 3 + 1, none⟩ = some (.int .i64 x.kind) ∧ V.cell? ⟨b2, p2 + k * 3 + 2, none⟩ = some (.int .i64 x.state) from
        ⟨by rw [h.cell hl1]; exact hc1 0 _ rfl, by rw [h.cell hl1]; exact hc1 1 _ rfl, by rw [h.cell hl1]; exact hc1 2 _ rfl, by rw [h.cell hl2]; exact hc2 0 _ rfl, by rw [h.cell hl2]; exact hc2 1 _ rfl, by rw [h.cell hl2]; exact hc2 2 _ rfl⟩)
      have i5 : (k : Int) < (ns.length : Int) := by omega
      have r1 := run_neq_N x x true (by simp)
      have r2 := run_guard_N .neq
      clear hc1 hc2 hx
      go_wp2_with fail
      refine wp_region_held_drew (S := fun V => Below wr.heap.size wr V) (by kernel_rfl) (below_dn ⟨1, rfl⟩) (fun hHeld => ?_)
      try simp only [Act.put, List.setIfInBounds_toArray, List.set_cons_zero, List.set_cons_succ]
      refine wpAnyH_take (i := 0) (v := .pointer (some ⟨A, 0, none⟩)) (List.getElem?_toArray.trans rfl) (by kernel_rfl) (by kernel_rfl) (by kernel_rfl) (fun _ _ _ h => h) (Or.inl ⟨by rfl, fun W hW => by obtain ⟨⟨q0, q1⟩, q2, q3⟩ := HQ.out W (Hb.out.trans (hW.mono Hb.out.size)); obtain ⟨x0, x1, x2, y0, y1, y2⟩ := HXY.out W hW; clear hW; go_simp⟩) (by assumption) ?_
      try simp only [Act.put, List.setIfInBounds_toArray, List.set_cons_zero, List.set_cons_succ]
      refine wpAnyH_take (i := 1) (v := .slice (some ⟨b1, p1, none⟩) ns.length cn1) (List.getElem?_toArray.trans rfl) (by kernel_rfl) (by kernel_rfl) (by kernel_rfl) (fun _ _ _ h => h) (Or.inl ⟨by rfl, fun W hW => by obtain ⟨⟨q0, q1⟩, q2, q3⟩ := HQ.out W (Hb.out.trans (hW.mono Hb.out.size)); obtain ⟨x0, x1, x2, y0, y1, y2⟩ := HXY.out W hW; clear hW; go_simp⟩) (by assumption) ?_
      try simp only [Act.put, List.setIfInBounds_toArray, List.set_cons_zero, List.set_cons_succ]
      refine wpAnyH_take (i := 2) (v := .int .i64 k) (List.getElem?_toArray.trans rfl) (by kernel_rfl) (by kernel_rfl) (by kernel_rfl) (fun _ _ _ h => h) (Or.inl ⟨by rfl, fun W hW => by obtain ⟨⟨q0, q1⟩, q2, q3⟩ := HQ.out W (Hb.out.trans (hW.mono Hb.out.size)); obtain ⟨x0, x1, x2, y0, y1, y2⟩ := HXY.out W hW; clear hW; go_simp⟩) (by assumption) ?_
      try simp only [Act.put, List.setIfInBounds_toArray, List.set_cons_zero, List.set_cons_succ]
      refine wpAnyH_take (i := 3) (v := .pointer (some ⟨b1, p1 + k * 3, none⟩)) (List.getElem?_toArray.trans rfl) (by kernel_rfl) (by kernel_rfl) (by kernel_rfl) (fun _ _ _ h => h) (Or.inl ⟨by rfl, fun W hW => by obtain ⟨⟨q0, q1⟩, q2, q3⟩ := HQ.out W (Hb.out.trans (hW.mono Hb.out.size)); obtain ⟨x0, x1, x2, y0, y1, y2⟩ := HXY.out W hW; clear hW; go_simp⟩) (by assumption) ?_
      try simp only [Act.put, List.setIfInBounds_toArray, List.set_cons_zero, List.set_cons_succ]
      refine wpAnyH_take (i := 4) (v := .agg #[.string ⟨x.name.toArray⟩, .int .i64 x.kind, .int .i64 x.state]) (List.getElem?_toArray.trans rfl) (by kernel_rfl) (by kernel_rfl) (by kernel_rfl) (fun _ _ _ h => h) (Or.inl ⟨by rfl, fun W hW => by obtain ⟨⟨q0, q1⟩, q2, q3⟩ := HQ.out W (Hb.out.trans (hW.mono Hb.out.size)); obtain ⟨x0, x1, x2, y0, y1, y2⟩ := HXY.out W hW; clear hW; go_simp⟩) (by assumption) ?_
      try simp only [Act.put, List.setIfInBounds_toArray, List.set_cons_zero, List.set_cons_succ]
      refine wpAnyH_take (i := 5) (v := .pointer (some ⟨A + 1, 0, none⟩)) (List.getElem?_toArray.trans rfl) (by kernel_rfl) (by kernel_rfl) (by kernel_rfl) (fun _ _ _ h => h) (Or.inl ⟨by rfl, fun W hW => by obtain ⟨⟨q0, q1⟩, q2, q3⟩ := HQ.out W (Hb.out.trans (hW.mono Hb.out.size)); obtain ⟨x0, x1, x2, y0, y1, y2⟩ := HXY.out W hW; clear hW; go_simp⟩) (by assumption) ?_
      try simp only [Act.put, List.setIfInBounds_toArray, List.set_cons_zero, List.set_cons_succ]
      refine wpAnyH_take (i := 6) (v := .slice (some ⟨b2, p2, none⟩) ns.length cn2) (List.getElem?_toArray.trans rfl) (by kernel_rfl) (by kernel_rfl) (by kernel_rfl) (fun _ _ _ h => h) (Or.inl ⟨by rfl, fun W hW => by obtain ⟨⟨q0, q1⟩, q2, q3⟩ := HQ.out W (Hb.out.trans (hW.mono Hb.out.size)); obtain ⟨x0, x1, x2, y0, y1, y2⟩ := HXY.out W hW; clear hW; go_simp⟩) (by assumption) ?_
      try simp only [Act.put, List.setIfInBounds_toArray, List.set_cons_zero, List.set_cons_succ]
      refine wpAnyH_take (i := 7) (v := .int .i64 k) (List.getElem?_toArray.trans rfl) (by kernel_rfl) (by kernel_rfl) (by kernel_rfl) (fun _ _ _ h => h) (Or.inl ⟨by rfl, fun W hW => by obtain ⟨⟨q0, q1⟩, q2, q3⟩ := HQ.out W (Hb.out.trans (hW.mono Hb.out.size)); obtain ⟨x0, x1, x2, y0, y1, y2⟩ := HXY.out W hW; clear hW; go_simp⟩) (by assumption) ?_
      try simp only [Act.put, List.setIfInBounds_toArray, List.set_cons_zero, List.set_cons_succ]
      refine wpAnyH_take (i := 8) (v := .pointer (some ⟨b2, p2 + k * 3, none⟩)) (List.getElem?_toArray.trans rfl) (by kernel_rfl) (by kernel_rfl) (by kernel_rfl) (fun _ _ _ h => h) (Or.inl ⟨by rfl, fun W hW => by obtain ⟨⟨q0, q1⟩, q2, q3⟩ := HQ.out W (Hb.out.trans (hW.mono Hb.out.size)); obtain ⟨x0, x1, x2, y0, y1, y2⟩ := HXY.out W hW; clear hW; go_simp⟩) (by assumption) ?_
      try simp only [Act.put, List.setIfInBounds_toArray, List.set_cons_zero, List.set_cons_succ]
      refine wpAnyH_take (i := 9) (v := .agg #[.string ⟨x.name.toArray⟩, .int .i64 x.kind, .int .i64 x.state]) (List.getElem?_toArray.trans rfl) (by kernel_rfl) (by kernel_rfl) (by kernel_rfl) (fun _ _ _ h => h) (Or.inl ⟨by rfl, fun W hW => by obtain ⟨⟨q0, q1⟩, q2, q3⟩ := HQ.out W (Hb.out.trans (hW.mono Hb.out.size)); obtain ⟨x0, x1, x2, y0, y1, y2⟩ := HXY.out W hW; clear hW; go_simp⟩) (by assumption) ?_
      try simp only [Act.put, List.setIfInBounds_toArray, List.set_cons_zero, List.set_cons_succ]
      refine wpAnyH_take (i := 10) (v := .bool false) (List.getElem?_toArray.trans rfl) (by kernel_rfl) (by kernel_rfl) (by kernel_rfl) (fun _ _ _ h => h) (Or.inl ⟨by rfl, fun W hW => by obtain ⟨⟨q0, q1⟩, q2, q3⟩ := HQ.out W (Hb.out.trans (hW.mono Hb.out.size)); obtain ⟨x0, x1, x2, y0, y1, y2⟩ := HXY.out W hW; clear hW; go_simp⟩) (by assumption) ?_
      try simp only [Act.put, List.setIfInBounds_toArray, List.set_cons_zero, List.set_cons_succ]
      have hdn := hHeld
      refine wpAnyH_done (by kernel_rfl) ?_ _
      clear hHeld
      go_wp2_with fail
      go_roundg (gk - 1)
      case measure => omega
      case rel => exact ⟨k + 1, by omega, by go_num, by omega, Hb.out.trans (hdn.mono Hb.out.size)⟩
    · have hk2 : k = ns.length := by omega
      subst hk2
      obtain ⟨⟨q0, q1⟩, q2, q3⟩ := HQ.out wr Hb.out
      go_wp2_with fail
      clear q0 q1 q2 q3
      have Hb0 := Hb
      clear Hb
      go_loopg [44] (es.length + 1) (fun f i wr => ∃ k : Nat, k ≤ es.length ∧ i = .int .i64 k ∧ es.length - k < f ∧ Hid (Below w2.heap.size w2 wr))
      case atStart => exact ⟨0, by omega, rfl, by omega, Hb0⟩
      case round =>
        obtain ⟨k, hk, rfl, hfu, Hb⟩ := hrel
        by_cases hlt : k < es.length
        · obtain ⟨b1, p1, rfl, hl1, hc1⟩ := (HE.out wr Hb.out).1 k hlt
          obtain ⟨b2, p2, rfl, hl2, hc2⟩ := (HE.out wr Hb.out).2 k hlt
          obtain ⟨x, hx⟩ : ∃ x, x = es[k] := ⟨_, rfl⟩
          rw [← hx] at hc1 hc2
          have HXY := Lib.hid (fun V (h : Below wr.heap.size wr V) => show V.cell? ⟨b1, p1 + k * 3, none⟩ = some (.string ⟨x.src.toArray⟩) ∧ V.cell? ⟨b1, p1 + k * 3 + 1, none⟩ = some (.string ⟨x.dst.toArray⟩) ∧ V.cell? ⟨b1, p1 + k * 3 + 2, none⟩ = some (.int .i64 x.rel) ∧ V.cell? ⟨b2, p2 + k * 3, none⟩ = some (.string ⟨x.src.toArray⟩) ∧ V.cell? ⟨b2, p2 + k * 3 + 1, none⟩ = some (.string ⟨x.dst.toArray⟩) ∧ V.cell? ⟨b2, p2 + k * 3 + 2, none⟩ = some (.int .i64 x.rel) from
            ⟨by rw [h.cell hl1]; exact hc1 0 _ rfl, by rw [h.cell hl1]; exact hc1 1 _ rfl, by rw [h.cell hl1]; exact hc1 2 _ rfl, by rw [h.cell hl2]; exact hc2 0 _ rfl, by rw [h.cell hl2]; exact hc2 1 _ rfl, by rw [h.cell hl2]; exact hc2 2 _ rfl⟩)
          have i5 : (k : Int) < (es.length : Int) := by omega
          have r1 := run_neq_E x x true (by simp)
          have r2 := run_guard_E .neq
          clear hc1 hc2 hx
          go_wp2_with fail
          refine wp_region_held_drew (S := fun V => Below wr.heap.size wr V) (by kernel_rfl) (below_dn ⟨1, rfl⟩) (fun hHeld => ?_)
          try simp only [Act.put, List.setIfInBounds_toArray, List.set_cons_zero, List.set_cons_succ]
          refine wpAnyH_take (i := 0) (v := .pointer (some ⟨A, 1, none⟩)) (List.getElem?_toArray.trans rfl) (by kernel_rfl) (by kernel_rfl) (by kernel_rfl) (fun _ _ _ h => h) (Or.inl ⟨by rfl, fun W hW => by obtain ⟨⟨q0, q1⟩, q2, q3⟩ := HQ.out W (Hb.out.trans (hW.mono Hb.out.size)); obtain ⟨x0, x1, x2, y0, y1, y2⟩ := HXY.out W hW; clear hW; go_simp⟩) (by assumption) ?_
          try simp only [Act.put, List.setIfInBounds_toArray, List.set_cons_zero, List.set_cons_succ]
          refine wpAnyH_take (i := 1) (v := .slice (some ⟨b1, p1, none⟩) es.length ce1) (List.getElem?_toArray.trans rfl) (by kernel_rfl) (by kernel_rfl) (by kernel_rfl) (fun _ _ _ h => h) (Or.inl ⟨by rfl, fun W hW => by obtain ⟨⟨q0, q1⟩, q2, q3⟩ := HQ.out W (Hb.out.trans (hW.mono Hb.out.size)); obtain ⟨x0, x1, x2, y0, y1, y2⟩ := HXY.out W hW; clear hW; go_simp⟩) (by assumption) ?_
          try simp only [Act.put, List.setIfInBounds_toArray, List.set_cons_zero, List.set_cons_succ]
          refine wpAnyH_take (i := 2) (v := .int .i64 k) (List.getElem?_toArray.trans rfl) (by kernel_rfl) (by kernel_rfl) (by kernel_rfl) (fun _ _ _ h => h) (Or.inl ⟨by rfl, fun W hW => by obtain ⟨⟨q0, q1⟩, q2, q3⟩ := HQ.out W (Hb.out.trans (hW.mono Hb.out.size)); obtain ⟨x0, x1, x2, y0, y1, y2⟩ := HXY.out W hW; clear hW; go_simp⟩) (by assumption) ?_
          try simp only [Act.put, List.setIfInBounds_toArray, List.set_cons_zero, List.set_cons_succ]
          refine wpAnyH_take (i := 3) (v := .pointer (some ⟨b1, p1 + k * 3, none⟩)) (List.getElem?_toArray.trans rfl) (by kernel_rfl) (by kernel_rfl) (by kernel_rfl) (fun _ _ _ h => h) (Or.inl ⟨by rfl, fun W hW => by obtain ⟨⟨q0, q1⟩, q2, q3⟩ := HQ.out W (Hb.out.trans (hW.mono Hb.out.size)); obtain ⟨x0, x1, x2, y0, y1, y2⟩ := HXY.out W hW; clear hW; go_simp⟩) (by assumption) ?_
          try simp only [Act.put, List.setIfInBounds_toArray, List.set_cons_zero, List.set_cons_succ]
          refine wpAnyH_take (i := 4) (v := .agg #[.string ⟨x.src.toArray⟩, .string ⟨x.dst.toArray⟩, .int .i64 x.rel]) (List.getElem?_toArray.trans rfl) (by kernel_rfl) (by kernel_rfl) (by kernel_rfl) (fun _ _ _ h => h) (Or.inl ⟨by rfl, fun W hW => by obtain ⟨⟨q0, q1⟩, q2, q3⟩ := HQ.out W (Hb.out.trans (hW.mono Hb.out.size)); obtain ⟨x0, x1, x2, y0, y1, y2⟩ := HXY.out W hW; clear hW; go_simp⟩) (by assumption) ?_
          try simp only [Act.put, List.setIfInBounds_toArray, List.set_cons_zero, List.set_cons_succ]
          refine wpAnyH_take (i := 5) (v := .pointer (some ⟨A + 1, 1, none⟩)) (List.getElem?_toArray.trans rfl) (by kernel_rfl) (by kernel_rfl) (by kernel_rfl) (fun _ _ _ h => h) (Or.inl ⟨by rfl, fun W hW => by obtain ⟨⟨q0, q1⟩, q2, q3⟩ := HQ.out W (Hb.out.trans (hW.mono Hb.out.size)); obtain ⟨x0, x1, x2, y0, y1, y2⟩ := HXY.out W hW; clear hW; go_simp⟩) (by assumption) ?_
          try simp only [Act.put, List.setIfInBounds_toArray, List.set_cons_zero, List.set_cons_succ]
          refine wpAnyH_take (i := 6) (v := .slice (some ⟨b2, p2, none⟩) es.length ce2) (List.getElem?_toArray.trans rfl) (by kernel_rfl) (by kernel_rfl) (by kernel_rfl) (fun _ _ _ h => h) (Or.inl ⟨by rfl, fun W hW => by obtain ⟨⟨q0, q1⟩, q2, q3⟩ := HQ.out W (Hb.out.trans (hW.mono Hb.out.size)); obtain ⟨x0, x1, x2, y0, y1, y2⟩ := HXY.out W hW; clear hW; go_simp⟩) (by assumption) ?_
          try simp only [Act.put, List.setIfInBounds_toArray, List.set_cons_zero, List.set_cons_succ]
          refine wpAnyH_take (i := 7) (v := .int .i64 k) (List.getElem?_toArray.trans rfl) (by kernel_rfl) (by kernel_rfl) (by kernel_rfl) (fun _ _ _ h => h) (Or.inl ⟨by rfl, fun W hW => by obtain ⟨⟨q0, q1⟩, q2, q3⟩ := HQ.out W (Hb.out.trans (hW.mono Hb.out.size)); obtain ⟨x0, x1, x2, y0, y1, y2⟩ := HXY.out W hW; clear hW; go_simp⟩) (by assumption) ?_
          try simp only [Act.put, List.setIfInBounds_toArray, List.set_cons_zero, List.set_cons_succ]
          refine wpAnyH_take (i := 8) (v := .pointer (some ⟨b2, p2 + k * 3, none⟩)) (List.getElem?_toArray.trans rfl) (by kernel_rfl) (by kernel_rfl) (by kernel_rfl) (fun _ _ _ h => h) (Or.inl ⟨by rfl, fun W hW => by obtain ⟨⟨q0, q1⟩, q2, q3⟩ := HQ.out W (Hb.out.trans (hW.mono Hb.out.size)); obtain ⟨x0, x1, x2, y0, y1, y2⟩ := HXY.out W hW; clear hW; go_simp⟩) (by assumption) ?_
          try simp only [Act.put, List.setIfInBounds_toArray, List.set_cons_zero, List.set_cons_succ]
          refine wpAnyH_take (i := 9) (v := .agg #[.string ⟨x.src.toArray⟩, .string ⟨x.dst.toArray⟩, .int .i64 x.rel]) (List.getElem?_toArray.trans rfl) (by kernel_rfl) (by kernel_rfl) (by kernel_rfl) (fun _ _ _ h => h) (Or.inl ⟨by rfl, fun W hW => by obtain ⟨⟨q0, q1⟩, q2, q3⟩ := HQ.out W (Hb.out.trans (hW.mono Hb.out.size)); obtain ⟨x0, x1, x2, y0, y1, y2⟩ := HXY.out W hW; clear hW; go_simp⟩) (by assumption) ?_
          try simp only [Act.put, List.setIfInBounds_toArray, List.set_cons_zero, List.set_cons_succ]
          refine wpAnyH_take (i := 10) (v := .bool false) (List.getElem?_toArray.trans rfl) (by kernel_rfl) (by kernel_rfl) (by kernel_rfl) (fun _ _ _ h => h) (Or.inl ⟨by rfl, fun W hW => by obtain ⟨⟨q0, q1⟩, q2, q3⟩ := HQ.out W (Hb.out.trans (hW.mono Hb.out.size)); obtain ⟨x0, x1, x2, y0, y1, y2⟩ := HXY.out W hW; clear hW; go_simp⟩) (by assumption) ?_
          try simp only [Act.put, List.setIfInBounds_toArray, List.set_cons_zero, List.set_cons_succ]
          have hdn := hHeld
          refine wpAnyH_done (by kernel_rfl) ?_ _
          clear hHeld
          go_wp2_with fail
          go_roundg (gk - 1)
          case measure => omega
          case rel => exact ⟨k + 1, by omega, by go_num, by omega, Hb.out.trans (hdn.mono Hb.out.size)⟩
        · have hk2 : k = es.length := by omega
          subst hk2
          go_wp2_with fail
          go_ret
          exact ⟨rfl, HB.out.trans (Hb.out.mono HB.out.size)⟩
end Go.Proofs.YtcaamakodneplaaGreat
