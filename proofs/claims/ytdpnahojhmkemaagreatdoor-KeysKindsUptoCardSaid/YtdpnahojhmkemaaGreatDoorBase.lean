/-
  Small laws on worlds that hang on no program: frames, rows of cells, owned rows.
-/
import Derived.WalkKit
import Derived.WalkSpells
import Derived.WalkLawsBesides
import Derived.Lib.FrozenHead2
import Derived.Lib.IndexBytes
import Derived.Lib.Hide
namespace Go.Proofs.YtdpnahojhmkemaaGreatDoor
open Go Go.RowKit
set_option linter.unusedVariables false

/-- From w to w' nothing has turned but blocks of M, and new blocks. -/
structure Fr (M : Nat → Prop) (w w' : World) : Prop where
  os : w'.os = w.os
  tape : w'.tape = w.tape
  output : w'.output = w.output
  size : w.heap.size ≤ w'.heap.size
  block : ∀ k, k < w.heap.size → ¬ M k → w'.heap[k]? = w.heap[k]?

theorem Fr.refl (M : Nat → Prop) (w : World) : Fr M w w := ⟨rfl, rfl, rfl, Nat.le_refl _, fun _ _ _ => rfl⟩
theorem Fr.drewN {M : Nat → Prop} {a w : World} (h : Fr M a w) (n : Nat) : Fr M a (w.drewN n) := ⟨h.os, h.tape, h.output, h.size, h.block⟩
theorem Fr.drew {M : Nat → Prop} {a w : World} (h : Fr M a w) : Fr M a w.drew := ⟨h.os, h.tape, h.output, h.size, h.block⟩
theorem Fr.trans {M : Nat → Prop} {a b c : World} (h : Fr M a b) (k : Fr M b c) : Fr M a c :=
  ⟨k.os.trans h.os, k.tape.trans h.tape, k.output.trans h.output, Nat.le_trans h.size k.size,
    fun i hi hm => (k.block i (Nat.lt_of_lt_of_le hi h.size) hm).trans (h.block i hi hm)⟩
/-- What the second step may turn, it may turn of the new blocks. -/
theorem Fr.then' {M M' : Nat → Prop} {a b c : World} (h : Fr M a b) (k : Fr M' b c) (hM : ∀ i, i < a.heap.size → M' i → M i) : Fr M a c :=
  ⟨k.os.trans h.os, k.tape.trans h.tape, k.output.trans h.output, Nat.le_trans h.size k.size,
    fun i hi hm => (k.block i (Nat.lt_of_lt_of_le hi h.size) (fun x => hm (hM i hi x))).trans (h.block i hi hm)⟩
theorem Fr.mono {M M' : Nat → Prop} {a b : World} (h : Fr M a b) (hM : ∀ i, i < a.heap.size → M i → M' i) : Fr M' a b :=
  ⟨h.os, h.tape, h.output, h.size, fun i hi hm => h.block i hi (fun x => hm (hM i hi x))⟩
theorem Fr.setCell {M : Nat → Prop} {a w : World} (h : Fr M a w) {p : Addr} (hp : p.block < a.heap.size → M p.block) (u : Value) : Fr M a (w.setCell p u) :=
  ⟨h.os, h.tape, h.output, by simpa using h.size, fun k hk hm => by
    by_cases e : k = p.block
    · subst e; exact absurd (hp hk) hm
    · rw [Below.heap_setCell _ _ _ _ e]; exact h.block k hk hm⟩
theorem Fr.alloc {M : Nat → Prop} {a w : World} (h : Fr M a w) (o : Obj) : Fr M a (w.alloc o) :=
  ⟨h.os, h.tape, h.output, by have := h.size; simp; omega, fun k hk hm => by
    rw [Below.heap_alloc _ _ _ (Nat.lt_of_lt_of_le hk h.size)]
    exact h.block k hk hm⟩
theorem Fr.grown {M : Nat → Prop} {a w w' : World} {row : Option Nat} (h : Fr M a w) (hg : w.grownBy w' row) (hr : ∀ k, row = some k → k < a.heap.size → M k) : Fr M a w' :=
  ⟨hg.os.trans h.os, hg.tape.trans h.tape, hg.output.trans h.output, Nat.le_trans h.size hg.size, fun k hk hm =>
    (hg.block k (Nat.lt_of_lt_of_le hk h.size) (fun e => hm (hr k e.symm hk))).trans (h.block k hk hm)⟩
theorem Fr.below {w w' : World} {M : Nat → Prop} (h : Fr M w w') (B : Nat) (hB : B ≤ w.heap.size) (hM : ∀ k, k < B → ¬ M k) : Below B w w' :=
  ⟨h.os, h.tape, h.output, h.size, fun k hk => h.block k (by omega) (hM k hk)⟩
theorem Fr.of_below {w w' : World} (h : Below w.heap.size w w') (M : Nat → Prop) : Fr M w w' :=
  ⟨h.os, h.tape, h.output, h.size, fun k hk _ => h.block k hk⟩
theorem Fr.freeze {M : Nat → Prop} {a w : World} (h : Fr M a w) {p : Addr} (hp : p.block < a.heap.size → M p.block) (n : Nat) : Fr M a (w.freeze p n) := by
  unfold World.freeze
  split
  · exact h
  · refine ⟨h.os, h.tape, h.output, by simpa using h.size, fun k hk hm => ?_⟩
    rw [← h.block k hk hm]
    by_cases e : p.block = k
    · subst e; exact absurd (hp hk) hm
    · simp only [Array.getElem?_modify]
      rw [if_neg e]

theorem lt_heap {w : World} {b : Nat} {o : Obj} (h : w.heap[b]? = some o) : b < w.heap.size := by
  rcases Nat.lt_or_ge b w.heap.size with h' | h'
  · exact h'
  · simp [Array.getElem?_eq_none h'] at h

/-- What a block gives a walk: its cells, that none is frozen, its shape. -/
theorem rd {w : World} {b : Nat} {cs : Array Value} {T : TypeId} (h : w.heap[b]? = some (.cells cs T (0, 0))) :
    (∀ j, w.cell? ⟨b, j, none⟩ = cs[j]?) ∧ (∀ j, w.frozen? ⟨b, j, none⟩ = false) ∧ w.shape? b = some (T, cs.size) ∧ b < w.heap.size :=
  ⟨fun j => by simp [World.cell?, h], fun j => by simp [World.frozen?, h], by simp [World.shape?, h], lt_heap h⟩

theorem heap_setCell {w : World} {b : Nat} {cs : Array Value} {T : TypeId} {fz : Nat × Nat} (h : w.heap[b]? = some (.cells cs T fz)) (j : Nat) (v : Value) :
    (w.setCell ⟨b, j, none⟩ v).heap[b]? = some (.cells (cs.setIfInBounds j v) T fz) := by
  simp [World.setCell, Array.getElem?_modify, h]
theorem heap_other {w : World} {b : Nat} {o : Obj} (h : w.heap[b]? = some o) {a : Addr} (hb : b ≠ a.block) (v : Value) : (w.setCell a v).heap[b]? = some o := by
  rw [Below.heap_setCell _ _ _ _ hb]; exact h
theorem heap_alloc {w : World} {b : Nat} {o : Obj} (h : w.heap[b]? = some o) (x : Obj) : (w.alloc x).heap[b]? = some o := by
  rw [Below.heap_alloc _ _ _ (lt_heap h)]; exact h
theorem Fr.heap {M : Nat → Prop} {w w' : World} {b : Nat} {o : Obj} (hf : Fr M w w') (h : w.heap[b]? = some o) (hM : ¬ M b) : w'.heap[b]? = some o := by
  rw [hf.block b (lt_heap h) hM]; exact h

/-- A growing buffer of bytes: nil, or a row with at least one byte, from block B on; a stretch at its head may be frozen. -/
def Buf (B : Nat) (e : TypeId) (l : List UInt8) (v : Value) (w : World) : Prop :=
  (v = .slice none 0 0 ∧ l = []) ∨ (l ≠ [] ∧ w.ownsRowF B e 1 v l.length (Lib.byteCells l))

theorem Buf.own {B : Nat} {e : TypeId} {l : List UInt8} {v : Value} {w : World} (h : Buf B e l v w) : w.ownsRowF B e 1 v l.length (Lib.byteCells l) := by
  rcases h with ⟨rfl, rfl⟩ | ⟨_, h⟩
  · exact World.ownsRowF_nil _ _ _ _
  · exact h
theorem Buf.kept {B : Nat} {e : TypeId} {l : List UInt8} {v : Value} {w w' : World} {M : Nat → Prop} (h : Buf B e l v w) (hf : Fr M w w') (hM : ∀ k, v.ownBlock = some k → ¬ M k) : Buf B e l v w' := by
  rcases h with ⟨rfl, rfl⟩ | ⟨h0, h⟩
  · exact .inl ⟨rfl, rfl⟩
  · refine .inr ⟨h0, h.1, ?_⟩
    rcases h.2 with hn | ⟨g, cap, cur, fz, rfl, hb, hgg, rest⟩
    · exact .inl hn
    · exact .inr ⟨g, cap, cur, fz, rfl, hb, hf.heap hgg (hM g rfl), rest⟩
theorem Buf.lt {B : Nat} {e : TypeId} {l : List UInt8} {v : Value} {w : World} (h : Buf B e l v w) : ∀ k, v.ownBlock = some k → B ≤ k ∧ k < w.heap.size := h.own.lt
theorem Buf.mono {B B' : Nat} {e : TypeId} {l : List UInt8} {v : Value} {w : World} (h : Buf B e l v w) (hB : ∀ k, v.ownBlock = some k → B' ≤ k) : Buf B' e l v w := by
  rcases h with ⟨rfl, rfl⟩ | ⟨h0, h⟩
  · exact .inl ⟨rfl, rfl⟩
  · refine .inr ⟨h0, h.1, ?_⟩
    rcases h.2 with hn | ⟨g, cap, cur, fz, rfl, hb, hgg, rest⟩
    · exact .inl hn
    · exact .inr ⟨g, cap, cur, fz, rfl, hB g rfl, hgg, rest⟩
theorem Buf.form {B : Nat} {e : TypeId} {l : List UInt8} {v : Value} {w : World} (h : Buf B e l v w) : ∃ oa cap, v = .slice oa l.length cap := by
  rcases h.own.2 with ⟨rfl, h0⟩ | ⟨g, cap, cur, fz, rfl, _⟩
  · exact ⟨none, 0, by rw [h0]⟩
  · exact ⟨_, _, rfl⟩

/-- Block k is a row of elements of type e. -/
def RowOf (e : TypeId) (w : World) (k : Nat) : Prop := ∃ cs fz, w.heap[k]? = some (.cells cs e fz)
/-- From w to w' nothing has turned but block R, and rows of e from block B on. -/
def FrB (R B : Nat) (e : TypeId) (w w' : World) : Prop := Fr (fun k => k = R ∨ (B ≤ k ∧ RowOf e w k)) w w'

theorem FrB.refl (R B : Nat) (e : TypeId) (w : World) : FrB R B e w w := Fr.refl _ _
theorem FrB.trans {R B : Nat} {e : TypeId} {a b c : World} (h : FrB R B e a b) (k : FrB R B e b c) : FrB R B e a c := by
  refine Fr.then' h k ?_
  intro i hi hm
  rcases hm with rfl | ⟨h1, cs, fz, h2⟩
  · exact .inl rfl
  · by_cases hr : i = R
    · exact .inl hr
    · by_cases hx : B ≤ i ∧ RowOf e a i
      · exact .inr hx
      · refine .inr ⟨h1, cs, fz, ?_⟩
        rw [← h.block i hi (fun y => y.elim hr hx)]
        exact h2
theorem FrB.drewN {R B : Nat} {e : TypeId} {a w : World} (h : FrB R B e a w) (n : Nat) : FrB R B e a (w.drewN n) := Fr.drewN h n
theorem FrB.drew {R B : Nat} {e : TypeId} {a w : World} (h : FrB R B e a w) : FrB R B e a w.drew := Fr.drew h
theorem FrB.setCell {R B : Nat} {e : TypeId} {a w : World} (h : FrB R B e a w) (j : Nat) (u : Value) : FrB R B e a (w.setCell ⟨R, j, none⟩ u) :=
  Fr.setCell h (p := ⟨R, j, none⟩) (fun _ => .inl rfl) u
theorem FrB.alloc {R B : Nat} {e : TypeId} {a w : World} (h : FrB R B e a w) (o : Obj) : FrB R B e a (w.alloc o) := Fr.alloc h o
theorem FrB.grown {R B : Nat} {e : TypeId} {a w w' : World} {row : Option Nat} (h : FrB R B e a w) (hg : w.grownBy w' row) (hr : ∀ k, row = some k → B ≤ k ∧ RowOf e w k) : FrB R B e a w' :=
  FrB.trans h ((Fr.refl _ _).grown hg (fun k hk _ => .inr (hr k hk)))
theorem FrB.heap {R B : Nat} {e : TypeId} {w w' : World} {b : Nat} {cs : Array Value} {T : TypeId} {fz : Nat × Nat} (hf : FrB R B e w w') (h : w.heap[b]? = some (.cells cs T fz)) (hR : b ≠ R) (hT : T ≠ e) : w'.heap[b]? = some (.cells cs T fz) := by
  refine Fr.heap hf h ?_
  rintro (rfl | ⟨_, cs', fz', h'⟩)
  · exact hR rfl
  · rw [h] at h'; simp at h'; exact hT h'.2.1
theorem FrB.below {R B : Nat} {e : TypeId} {w w' : World} (h : FrB R B e w w') (B' : Nat) (hB : B' ≤ B) (hR : B' ≤ R) (hs : B' ≤ w.heap.size) : Below B' w w' :=
  Fr.below h B' hs (fun k hk x => by rcases x with rfl | ⟨h1, _⟩ <;> omega)

theorem ownsRowF_row {w : World} {B : Nat} {e : TypeId} {v : Value} {n : Nat} {xs : List Value} (h : w.ownsRowF B e 1 v n xs) : ∀ g, v.ownBlock = some g → B ≤ g ∧ RowOf e w g := by
  intro g hg
  rcases h.2 with ⟨rfl, _⟩ | ⟨g', cap, cur, fz, rfl, hb, hh, _⟩
  · simp [Value.ownBlock] at hg
  · simp [Value.ownBlock] at hg
    subst hg
    exact ⟨hb, cur, fz, hh⟩
theorem Buf.row {B : Nat} {e : TypeId} {l : List UInt8} {v : Value} {w : World} (h : Buf B e l v w) : ∀ g, v.ownBlock = some g → B ≤ g ∧ RowOf e w g := ownsRowF_row h.own
theorem Buf.ne {B : Nat} {e : TypeId} {l : List UInt8} {v : Value} {w : World} (h : Buf B e l v w) {R : Nat} {cs : Array Value} {T : TypeId} {fz : Nat × Nat} (hR : w.heap[R]? = some (.cells cs T fz)) (hT : T ≠ e) : v.ownBlock ≠ some R := by
  intro hv
  obtain ⟨_, cs', fz', h'⟩ := h.row R hv
  rw [hR] at h'; simp at h'; exact hT h'.2.1
theorem byteCells_int (c : UInt8) : Lib.byteCells [c] = [.int .u8 c.toNat] := rfl
theorem Buf.drewN {B : Nat} {e : TypeId} {l : List UInt8} {v : Value} {w : World} (h : Buf B e l v w) (n : Nat) : Buf B e l v (w.drewN n) := h
theorem Buf.setCell {B : Nat} {e : TypeId} {l : List UInt8} {v : Value} {w : World} (h : Buf B e l v w) {a : Addr} (ha : v.ownBlock ≠ some a.block) (u : Value) : Buf B e l v (w.setCell a u) :=
  h.kept (M := (· = a.block)) (Fr.setCell (M := (· = a.block)) (Fr.refl _ _) (fun _ => rfl) u) (fun k hk e => ha (e ▸ hk))
theorem Buf.alloc {B : Nat} {e : TypeId} {l : List UInt8} {v : Value} {w : World} (h : Buf B e l v w) (o : Obj) : Buf B e l v (w.alloc o) :=
  h.kept (M := fun _ => False) (Fr.alloc (Fr.refl _ _) o) (fun _ _ e => e)

theorem ret_bool {a b : Bool} (h : a = b) : Ending.returned (.bool a) = .returned (.bool b) := by rw [h]
theorem ret_int {k : IntKind} {a b : Int} (h : a = b) : Ending.returned (.int k a) = .returned (.int k b) := by rw [h]
theorem ret_str {a b : List UInt8} (h : a = b) : Ending.returned (.string ⟨a.toArray⟩) = .returned (.string ⟨b.toArray⟩) := by rw [h]
theorem ret_val {a b : Value} (h : a = b) : Ending.returned a = .returned b := by rw [h]
theorem dn0 (w : World) : ∃ n, w = w.drewN n := ⟨0, rfl⟩
theorem dn (w : World) (n : Nat) : ∃ m, w.drewN n = w.drewN m := ⟨n, rfl⟩
theorem dn2 (w : World) (a b : Nat) : (w.drewN a).drewN b = w.drewN (a + b) := by
  simp only [World.drewN]; congr 1; omega
theorem dn_trans {a b : World} {n : Nat} (h : ∃ m, b = a.drewN m) : ∃ m, b.drewN n = a.drewN m := by
  obtain ⟨m, rfl⟩ := h; exact ⟨m + n, dn2 _ _ _⟩
theorem FrB.of_dn {R B : Nat} {e : TypeId} {a b : World} (h : ∃ m, b = a.drewN m) : FrB R B e a b := by
  obtain ⟨m, rfl⟩ := h; exact (FrB.refl _ _ _ _).drewN m
theorem Fr.of_dn {M : Nat → Prop} {a b : World} (h : ∃ m, b = a.drewN m) : Fr M a b := by
  obtain ⟨m, rfl⟩ := h; exact (Fr.refl _ _).drewN m

theorem ownsRow_fr {w w' : World} {base : Nat} {e : TypeId} {size : Nat} {v : Value} {n : Nat} {xs : List Value} {M : Nat → Prop} (h : w.ownsRow base e size v n xs) (hf : Fr M w w') (hM : ∀ g, v.ownBlock = some g → RowOf e w g → ¬ M g) : w'.ownsRow base e size v n xs := by
  refine ⟨h.1, ?_⟩
  rcases h.2 with hn | ⟨g, cap, cur, rfl, hb, hgg, rest⟩
  · exact .inl hn
  · exact .inr ⟨g, cap, cur, rfl, hb, hf.heap hgg (hM g rfl ⟨cur, (0, 0), hgg⟩), rest⟩
theorem ownsRow_frB {w w' : World} {base R B : Nat} {e e' : TypeId} {size : Nat} {v : Value} {n : Nat} {xs : List Value} (h : w.ownsRow base e size v n xs) (hf : FrB R B e' w w') (he : e ≠ e') {cs : Array Value} {T : TypeId} {fz : Nat × Nat} (hR : w.heap[R]? = some (.cells cs T fz)) (hT : T ≠ e) :
    w'.ownsRow base e size v n xs := by
  refine ownsRow_fr h hf ?_
  rintro g hg ⟨cs', fz', h'⟩ (rfl | ⟨_, cs2, fz2, h2⟩)
  · rw [hR] at h'; simp at h'; exact hT h'.2.1
  · rw [h2] at h'; simp at h'; exact he h'.2.1.symm
theorem ownsRow_form {w : World} {base : Nat} {e : TypeId} {size : Nat} {v : Value} {n : Nat} {xs : List Value} (h : w.ownsRow base e size v n xs) : ∃ oa cap, v = .slice oa n cap := by
  rcases h.2 with ⟨rfl, h0⟩ | ⟨g, cap, cur, rfl, _⟩
  · exact ⟨none, 0, by rw [h0]⟩
  · exact ⟨_, _, rfl⟩
/-- Strings as cells. -/
def strVals (l : List (List UInt8)) : List Value := l.map fun x => .string ⟨x.toArray⟩
theorem strVals_length (l : List (List UInt8)) : (strVals l).length = l.length := by simp [strVals]
theorem strVals_snoc (l : List (List UInt8)) (x : List UInt8) : strVals (l ++ [x]) = strVals l ++ [.string ⟨x.toArray⟩] := by simp [strVals]

theorem bne_of {x y : Int} {b : Bool} (h : (x == y) = b) : (x != y) = !b := by simp [bne, h]
theorem str_ne {s : ByteArray} (h : s.size ≠ 0) : s.toList.isEmpty = false ∧ ¬ s.toList = [] ∧ 0 < s.size ∧ (0 : Int) < (s.size : Int) := by
  have h1 : ¬ s.toList = [] := by
    rw [ByteArray.toList_eq]
    intro e
    apply h
    obtain ⟨⟨d⟩⟩ := s
    simp at e
    subst e; rfl
  exact ⟨by simpa using h1, h1, by omega, by omega⟩
theorem str_nil {s : ByteArray} (h : s.size = 0) : s = ⟨#[]⟩ := by
  obtain ⟨⟨d⟩⟩ := s
  cases d with
  | nil => rfl
  | cons a l => simp [ByteArray.size] at h
theorem beq_u8 (a b : UInt8) : (a == b) = ((a.toNat : Int) == (b.toNat : Int)) := by
  rw [Bool.eq_iff_iff]; simp [← UInt8.toNat_inj]; omega

theorem drop_cons (s : ByteArray) (k : Nat) (h : k < s.size) : s.data.toList.drop k = s[k] :: s.data.toList.drop (k + 1) := by
  rw [List.drop_eq_getElem_cons (by simpa using h)]; rfl

/-- Of a slice of strings that begins at oa the strings. -/
def StrRow (w : World) (oa : Option Addr) (l : List (List UInt8)) : Prop :=
  ∀ i (h : i < l.length), ∃ b o, oa = some ⟨b, o, none⟩ ∧ w.cell? ⟨b, o + i, none⟩ = some (.string ⟨l[i].toArray⟩)
theorem StrRow.below {w w' : World} {oa : Option Addr} {l : List (List UInt8)} (h : StrRow w oa l) (hb : Below w.heap.size w w') : StrRow w' oa l := by
  intro i hi
  obtain ⟨b, o, e, hc⟩ := h i hi
  exact ⟨b, o, e, cell_later hb hc⟩
theorem StrRow.nil (w : World) (oa : Option Addr) : StrRow w oa [] := fun _ h => absurd h (by simp)
theorem StrRow.of_own {w : World} {base : Nat} {e : TypeId} {oa : Option Addr} {n cap : Nat} {l : List (List UInt8)} (h : w.ownsRow base e 1 (.slice oa n cap) n (strVals l)) : StrRow w oa l := by
  intro i hi
  have hl := h.1
  rw [strVals_length] at hl
  rcases h.2 with ⟨_, h0⟩ | ⟨g, cap', cur, hv, _, hg, _, _, _, ht⟩
  · omega
  · injection hv with h1 h2 h3
    subst h1
    refine ⟨g, 0, rfl, ?_⟩
    have hc := h.cells (g := g) rfl i (.string ⟨l[i].toArray⟩) (by simp [strVals, hi])
    have hadd : (⟨g, 0, none⟩ : Addr).add i = ⟨g, 0 + i, none⟩ := by unfold Addr.add; split <;> simp_all
    rw [hadd] at hc; exact hc
theorem StrRow.take {w : World} {oa : Option Addr} {l : List (List UInt8)} (h : StrRow w oa l) (k : Nat) : StrRow w oa (l.take k) := by
  intro i hi
  simp at hi
  obtain ⟨b, o, e, hc⟩ := h i (by omega)
  exact ⟨b, o, e, by simpa using hc⟩
theorem below_dn {B : Nat} {a b : World} (h : ∃ n, b = a.drewN n) : Below B a b := by
  obtain ⟨n, rfl⟩ := h; exact ⟨rfl, rfl, rfl, Nat.le_refl _, fun _ _ => rfl⟩
theorem Below.more {a b c : World} (h : Below a.heap.size a b) (k : Below b.heap.size b c) : Below a.heap.size a c := h.trans (k.mono h.size)

theorem run_append_none0 {P : Program} {w : World} (base : Nat) (t ty e : TypeId) (i : TypeInfo) (size : Nat) (ht : P.underlying t = some (.slice e)) (hi : P.info? e = some i)
    (v : Value) (n : Nat) (xs : List Value) (hown : w.ownsRow base e size v n xs) (c : Nat) :
    (Builtin.append_ #[t, t] ty #[v, .slice none 0 c]).run P w = .ok v w := by
  rcases hown.2 with ⟨rfl, rfl⟩ | ⟨g, cap, cur, rfl, _, _, hnc, _⟩
  · simp [Builtin.append_, run_underlying ht, sizeOf, typeInfo, hi, Builtin.lenOf, Builtin.firstCells]
  · simp [Builtin.append_, run_underlying ht, sizeOf, typeInfo, hi, Builtin.lenOf, Builtin.firstCells, hnc, storeCells]

/-- append of a whole slice, nil or not, to one that is owned. -/
theorem append_rows {P : Program} {w : World} (base : Nat) (t ty e : TypeId) (i : TypeInfo) (z : Value) (size bytes : Nat) (ht : P.underlying t = some (.slice e)) (hi : P.info? e = some i) (hz : i.zero = some z)
    (hsize : i.size = size) (hby : i.bytes = bytes) (hzs : z.cells.size = size) (hsz : 0 < size)
    (v : Value) (n : Nat) (xs : List Value) (hown : w.ownsRow base e size v n xs) (oa : Option Addr) (m c : Nat) (news : List Value) (hl : news.length = m * size)
    (hc : ∀ j u, news[j]? = some u → ∃ b o, oa = some ⟨b, o, none⟩ ∧ w.cell? ⟨b, o + j, none⟩ = some u) (h1 : ∀ u ∈ news, u.oneCell' = true)
    (h63 : n + m ≤ maxLen) (hbytes : (n + m) * bytes ≤ 140737488355328) (hbase : base ≤ w.heap.size) :
    ∃ v' w', (Builtin.append_ #[t, t] ty #[v, .slice oa m c]).run P w = .ok v' w' ∧ w'.ownsRow base e size v' (n + m) (xs ++ news) ∧ w.grownBy w' v.ownBlock := by
  cases oa with
  | none =>
    have hn : news = [] := by
      cases news with
      | nil => rfl
      | cons u r => obtain ⟨b, o, e, _⟩ := hc 0 u rfl; cases e
    subst hn
    have hm : m = 0 := by
      rcases Nat.eq_zero_or_pos m with h | h
      · exact h
      · have := Nat.mul_pos h hsz
        simp at hl; omega
    subst hm
    exact ⟨v, w, run_append_none0 base t ty e i size ht hi v n xs hown c, by simpa using hown, ⟨rfl, rfl, rfl, Nat.le_refl _, fun _ _ _ => rfl⟩⟩
  | some a =>
    by_cases h0 : news = []
    · subst h0
      obtain ⟨v', w', h2, h3, h4, _⟩ := run_append_own (P := P) w base t ty e i z size bytes ht hi hz hsize hby hzs hsz v n xs hown a m c [] hl (by simp) (by simp) h63 hbytes hbase
      exact ⟨v', w', h2, h3, h4⟩
    · obtain ⟨u, r, rfl⟩ : ∃ u r, news = u :: r := by
        cases news with
        | nil => exact absurd rfl h0
        | cons u r => exact ⟨u, r, rfl⟩
      obtain ⟨b, o, e1, _⟩ := hc 0 u rfl
      injection e1 with e1
      subst e1
      obtain ⟨v', w', h2, h3, h4, _⟩ := run_append_own (P := P) w base t ty e i z size bytes ht hi hz hsize hby hzs hsz v n xs hown ⟨b, o, none⟩ m c (u :: r) hl (by
        intro j x hx
        obtain ⟨b', o', e2, h5⟩ := hc j x hx
        injection e2 with e2; injection e2 with e3 e4; subst e3; subst e4
        have hadd : (⟨b, o, none⟩ : Addr).add j = ⟨b, o + j, none⟩ := by unfold Addr.add; split <;> simp_all
        rw [hadd]; exact h5) h1 h63 hbytes hbase
      exact ⟨v', w', h2, h3, h4⟩
theorem strVals_one (l : List (List UInt8)) : ∀ u ∈ strVals l, u.oneCell' = true := by
  intro u hu
  obtain ⟨x, _, rfl⟩ := List.mem_map.1 hu
  rfl
theorem StrRow.cells {w : World} {oa : Option Addr} {l : List (List UInt8)} (h : StrRow w oa l) : ∀ j u, (strVals l)[j]? = some u → ∃ b o, oa = some ⟨b, o, none⟩ ∧ w.cell? ⟨b, o + j, none⟩ = some u := by
  intro j u hu
  have hj : j < l.length := by
    rcases Nat.lt_or_ge j l.length with h' | h'
    · exact h'
    · rw [List.getElem?_eq_none (by simpa [strVals] using h')] at hu; cases hu
  obtain ⟨b, o, e, hc⟩ := h j hj
  refine ⟨b, o, e, ?_⟩
  rw [hc]
  simp [strVals, hj] at hu
  rw [hu]

/-- An append, its guard met, whose run is known. -/
theorem wpList_append_run {P : Program} {w : World} {ops : Array Oper} {rest : List Oper} {o : Oper} {a : Act} {Q : Exit → Act → World → Prop} (hw : Region.wanted o (yielded ops a.tmps) = true) (s x : Operand) (t : TypeId)
    (ho : o.op = .call { callee := .builtin .append, args := #[s, x], argTypes := #[t, t] }) {v xv v' : Value} {w' : World} (hr : (Builtin.append_ #[t, t] o.type #[v, xv]).run P w = .ok v' w') (hs : a.eval s = v) (hx : a.eval x = xv)
    (h : wpList P ops Q rest (a.put o.dst v') w') : wpList P ops Q (o :: rest) a w := by
  refine wpList_step fun K hK => ?_
  rw [if_pos hw]
  unfold Oper.wp execOp
  simp only [ho, resolve, invoke, builtin, Sem.run_bind, Sem.run_pure, Result.andThen_ok, List.map_toArray, List.map_cons, List.map_nil, hs, hx, hr]
  exact hK _ _ h

/-- The last cell of an owned row, written anew. -/
theorem own_set_last {w : World} {base : Nat} {e : TypeId} {g n cap : Nat} {xs : List Value} {x : Value} (h : w.ownsRow base e 1 (.slice (some ⟨g, 0, none⟩) (n + 1) cap) (n + 1) (xs ++ [x])) (y : Value) :
    (w.setCell ⟨g, n, none⟩ y).ownsRow base e 1 (.slice (some ⟨g, 0, none⟩) (n + 1) cap) (n + 1) (xs ++ [y]) ∧ w.cell? ⟨g, n, none⟩ = some x ∧ w.frozen? ⟨g, n, none⟩ = false ∧ base ≤ g ∧ g < w.heap.size := by
  have hl : xs.length = n := by have := h.1; simp at this; exact this
  rcases h.2 with ⟨h0, _⟩ | ⟨g', cap', cur, hv, hb, hg, hnc, hcm, hcs, ht⟩
  · cases h0
  · injection hv with e1 e2 e3
    injection e1 with e1
    injection e1 with e1 _ _
    subst e1; subst e3
    have hsz : n < cur.size := by simp at hcs; omega
    have hx : cur[n]? = some x := by
      have h1 := congrArg (fun l => l[n]?) ht
      simp only [Nat.mul_one, List.getElem?_take] at h1
      rw [if_pos (by omega)] at h1
      simpa [← hl] using h1
    refine ⟨⟨by simp [hl], .inr ⟨g, cap, cur.setIfInBounds n y, rfl, hb, heap_setCell hg n y, hnc, hcm, by simpa using hcs, ?_⟩⟩, ?_, ?_, hb, lt_heap hg⟩
    · rw [Array.toList_setIfInBounds, Nat.mul_one, List.take_set]
      rw [Nat.mul_one] at ht
      rw [ht, ← hl]
      simp
    · simp [World.cell?, hg, hx]
    · simp [World.frozen?, hg]
theorem own_block {w : World} {base : Nat} {e : TypeId} {n cap : Nat} {oa : Option Addr} {xs : List Value} (h : w.ownsRow base e 1 (.slice oa (n + 1) cap) (n + 1) xs) : ∃ g, oa = some ⟨g, 0, none⟩ := by
  rcases h.2 with ⟨_, h0⟩ | ⟨g', cap', cur, hv, _⟩
  · omega
  · injection hv with e1; exact ⟨g', e1⟩
end Go.Proofs.YtdpnahojhmkemaaGreatDoor
