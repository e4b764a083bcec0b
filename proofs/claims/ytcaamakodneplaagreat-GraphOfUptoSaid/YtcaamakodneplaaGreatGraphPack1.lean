import Derived.WalkKit
import Derived.WalkSpells
import Derived.WalkLawsBesides
import Derived.Lib.FrozenHead2
import Derived.Lib.IndexBytes
import Derived.Lib.Hide
import Derived.Test.YtcaamakodneplaaGreatRows
import Derived.ProofKit
import Derived.OpenShut
import Derived.JoinedCond
import Derived.SliceStrings
import Derived.Test.YtcaamakodneplaaGreatProg
import Derived.Shelf.LaysM
import Derived.SevenTiedAt
import Derived.Deep.DeepHandedRow
import Derived.Lay
import Derived.LaidMore
import Derived.Stop.Joined
import Derived.Deep.Slices
import Derived.Deep.Fields
import Derived.ChangeSame
import Derived.Lib.SmallJoins
import Derived.Deep.QuietTactic
import Derived.BigQuiet
import Derived.BigRegion
import Derived.Shelf.Abstract
import GoSem.Op.String
import Derived.StillTailTactics
import Derived.Test.YtcaamakodneplaaGreatShelf
import Derived.Shelf.SlSortCmp.WholeK
import Derived.Shelf.SlSortCmp.NoneTotal
import Derived.Lib.SlicesCompact
import Derived.Lib.QuietBelow
import Derived.IntWalk
import Derived.Deep.LoopGhost
import Derived.Deep.MidRow

/-
  Small laws on worlds that hang on no program: frames, rows of cells, owned rows.
-/
namespace Go.Proofs.YtcaamakodneplaaGreat
open Go Go.RowKit
set_option linter.unusedVariables false

/-- From w to w' nothing has turned but blocks of M, and new blocks. -/
structure Fr (M : Nat → Prop) (w w' : World) : Prop where
  os : w'.os = w.os
  tape : w'.tape = w.tape
  output : w'.output = w.output
  size : w.heap.size ≤ w'.heap.size
  block : ∀ k, k < w.heap.size → ¬ M k → w'.heap[k]? = w.heap[k]?

theorem Fr.refl (M : Nat → Prop) (w : World) : Fr M w w := ⟨rfl, rfl, rfl, Nat.le_refl _, fun _ _ _ => rfl⟩
theorem Fr.drewN {M : Nat → Prop} {a w : World} (h : Fr M a w) (n : Nat) : Fr M a (w.drewN n) := ⟨h.os, h.tape, h.output, h.size, h.block⟩
theorem Fr.drew {M : Nat → Prop} {a w : World} (h : Fr M a w) : Fr M a w.drew := ⟨h.os, h.tape, h.output, h.size, h.block⟩
theorem Fr.trans {M : Nat → Prop} {a b c : World} (h : Fr M a b) (k : Fr M b c) : Fr M a c :=
  ⟨k.os.trans h.os, k.tape.trans h.tape, k.output.trans h.output, Nat.le_trans h.size k.size,
    fun i hi hm => (k.block i (Nat.lt_of_lt_of_le hi h.size) hm).trans (h.block i hi hm)⟩
/-- What the second step may turn, it may turn of the new blocks. -/
theorem Fr.then' {M M' : Nat → Prop} {a b c : World} (h : Fr M a b) (k : Fr M' b c) (hM : ∀ i, i < a.heap.size → M' i → M i) : Fr M a c :=
  ⟨k.os.trans h.os, k.tape.trans h.tape, k.output.trans h.output, Nat.le_trans h.size k.size,
    fun i hi hm => (k.block i (Nat.lt_of_lt_of_le hi h.size) (fun x => hm (hM i hi x))).trans (h.block i hi hm)⟩
theorem Fr.mono {M M' : Nat → Prop} {a b : World} (h : Fr M a b) (hM : ∀ i, i < a.heap.size → M i → M' i) : Fr M' a b :=
  ⟨h.os, h.tape, h.output, h.size, fun i hi hm => h.block i hi (fun x => hm (hM i hi x))⟩
theorem Fr.setCell {M : Nat → Prop} {a w : World} (h : Fr M a w) {p : Addr} (hp : p.block < a.heap.size → M p.block) (u : Value) : Fr M a (w.setCell p u) :=
  ⟨h.os, h.tape, h.output, by simpa using h.size, fun k hk hm => by
    by_cases e : k = p.block
    · subst e; exact absurd (hp hk) hm
    · rw [Below.heap_setCell _ _ _ _ e]; exact h.block k hk hm⟩
theorem Fr.alloc {M : Nat → Prop} {a w : World} (h : Fr M a w) (o : Obj) : Fr M a (w.alloc o) :=
  ⟨h.os, h.tape, h.output, by have := h.size; simp; omega, fun k hk hm => by
    rw [Below.heap_alloc _ _ _ (Nat.lt_of_lt_of_le hk h.size)]
    exact h.block k hk hm⟩
theorem Fr.grown {M : Nat → Prop} {a w w' : World} {row : Option Nat} (h : Fr M a w) (hg : w.grownBy w' row) (hr : ∀ k, row = some k → k < a.heap.size → M k) : Fr M a w' :=
  ⟨hg.os.trans h.os, hg.tape.trans h.tape, hg.output.trans h.output, Nat.le_trans h.size hg.size, fun k hk hm =>
    (hg.block k (Nat.lt_of_lt_of_le hk h.size) (fun e => hm (hr k e.symm hk))).trans (h.block k hk hm)⟩
theorem Fr.below {w w' : World} {M : Nat → Prop} (h : Fr M w w') (B : Nat) (hB : B ≤ w.heap.size) (hM : ∀ k, k < B → ¬ M k) : Below B w w' :=
  ⟨h.os, h.tape, h.output, h.size, fun k hk => h.block k (by omega) (hM k hk)⟩
theorem Fr.of_below {w w' : World} (h : Below w.heap.size w w') (M : Nat → Prop) : Fr M w w' :=
  ⟨h.os, h.tape, h.output, h.size, fun k hk _ => h.block k hk⟩
theorem Fr.freeze {M : Nat → Prop} {a w : World} (h : Fr M a w) {p : Addr} (hp : p.block < a.heap.size → M p.block) (n : Nat) : Fr M a (w.freeze p n) := by
  unfold World.freeze
  split
  · exact h
  · refine ⟨h.os, h.tape, h.output, by simpa using h.size, fun k hk hm => ?_⟩
    rw [← h.block k hk hm]
    by_cases e : p.block = k
    · subst e; exact absurd (hp hk) hm
    · simp only [Array.getElem?_modify]
      rw [if_neg e]

theorem lt_heap {w : World} {b : Nat} {o : Obj} (h : w.heap[b]? = some o) : b < w.heap.size := by
  rcases Nat.lt_or_ge b w.heap.size with h' | h'
  · exact h'
  · simp [Array.getElem?_eq_none h'] at h

/-- What a block gives a walk: its cells, that none is frozen, its shape. -/
theorem rd {w : World} {b : Nat} {cs : Array Value} {T : TypeId} (h : w.heap[b]? = some (.cells cs T (0, 0))) :
    (∀ j, w.cell? ⟨b, j, none⟩ = cs[j]?) ∧ (∀ j, w.frozen? ⟨b, j, none⟩ = false) ∧ w.shape? b = some (T, cs.size) ∧ b < w.heap.size :=
  ⟨fun j => by simp [World.cell?, h], fun j => by simp [World.frozen?, h], by simp [World.shape?, h], lt_heap h⟩

theorem heap_setCell {w : World} {b : Nat} {cs : Array Value} {T : TypeId} {fz : Nat × Nat} (h : w.heap[b]? = some (.cells cs T fz)) (j : Nat) (v : Value) :
    (w.setCell ⟨b, j, none⟩ v).heap[b]? = some (.cells (cs.setIfInBounds j v) T fz) := by
  simp [World.setCell, Array.getElem?_modify, h]
theorem heap_other {w : World} {b : Nat} {o : Obj} (h : w.heap[b]? = some o) {a : Addr} (hb : b ≠ a.block) (v : Value) : (w.setCell a v).heap[b]? = some o := by
  rw [Below.heap_setCell _ _ _ _ hb]; exact h
theorem heap_alloc {w : World} {b : Nat} {o : Obj} (h : w.heap[b]? = some o) (x : Obj) : (w.alloc x).heap[b]? = some o := by
  rw [Below.heap_alloc _ _ _ (lt_heap h)]; exact h
theorem Fr.heap {M : Nat → Prop} {w w' : World} {b : Nat} {o : Obj} (hf : Fr M w w') (h : w.heap[b]? = some o) (hM : ¬ M b) : w'.heap[b]? = some o := by
  rw [hf.block b (lt_heap h) hM]; exact h

/-- A growing buffer of bytes: nil, or a row with at least one byte, from block B on; a stretch at its head may be frozen. -/
def Buf (B : Nat) (e : TypeId) (l : List UInt8) (v : Value) (w : World) : Prop :=
  (v = .slice none 0 0 ∧ l = []) ∨ (l ≠ [] ∧ w.ownsRowF B e 1 v l.length (Lib.byteCells l))

theorem Buf.own {B : Nat} {e : TypeId} {l : List UInt8} {v : Value} {w : World} (h : Buf B e l v w) : w.ownsRowF B e 1 v l.length (Lib.byteCells l) := by
  rcases h with ⟨rfl, rfl⟩ | ⟨_, h⟩
  · exact World.ownsRowF_nil _ _ _ _
  · exact h
theorem Buf.kept {B : Nat} {e : TypeId} {l : List UInt8} {v : Value} {w w' : World} {M : Nat → Prop} (h : Buf B e l v w) (hf : Fr M w w') (hM : ∀ k, v.ownBlock = some k → ¬ M k) : Buf B e l v w' := by
  rcases h with ⟨rfl, rfl⟩ | ⟨h0, h⟩
  · exact .inl ⟨rfl, rfl⟩
  · refine .inr ⟨h0, h.1, ?_⟩
    rcases h.2 with hn | ⟨g, cap, cur, fz, rfl, hb, hgg, rest⟩
    · exact .inl hn
    · exact .inr ⟨g, cap, cur, fz, rfl, hb, hf.heap hgg (hM g rfl), rest⟩
theorem Buf.lt {B : Nat} {e : TypeId} {l : List UInt8} {v : Value} {w : World} (h : Buf B e l v w) : ∀ k, v.ownBlock = some k → B ≤ k ∧ k < w.heap.size := h.own.lt
theorem Buf.mono {B B' : Nat} {e : TypeId} {l : List UInt8} {v : Value} {w : World} (h : Buf B e l v w) (hB : ∀ k, v.ownBlock = some k → B' ≤ k) : Buf B' e l v w := by
  rcases h with ⟨rfl, rfl⟩ | ⟨h0, h⟩
  · exact .inl ⟨rfl, rfl⟩
  · refine .inr ⟨h0, h.1, ?_⟩
    rcases h.2 with hn | ⟨g, cap, cur, fz, rfl, hb, hgg, rest⟩
    · exact .inl hn
    · exact .inr ⟨g, cap, cur, fz, rfl, hB g rfl, hgg, rest⟩
theorem Buf.form {B : Nat} {e : TypeId} {l : List UInt8} {v : Value} {w : World} (h : Buf B e l v w) : ∃ oa cap, v = .slice oa l.length cap := by
  rcases h.own.2 with ⟨rfl, h0⟩ | ⟨g, cap, cur, fz, rfl, _⟩
  · exact ⟨none, 0, by rw [h0]⟩
  · exact ⟨_, _, rfl⟩

/-- Block k is a row of elements of type e. -/
def RowOf (e : TypeId) (w : World) (k : Nat) : Prop := ∃ cs fz, w.heap[k]? = some (.cells cs e fz)
/-- From w to w' nothing has turned but block R, and rows of e from block B on. -/
def FrB (R B : Nat) (e : TypeId) (w w' : World) : Prop := Fr (fun k => k = R ∨ (B ≤ k ∧ RowOf e w k)) w w'

theorem FrB.refl (R B : Nat) (e : TypeId) (w : World) : FrB R B e w w := Fr.refl _ _
theorem FrB.trans {R B : Nat} {e : TypeId} {a b c : World} (h : FrB R B e a b) (k : FrB R B e b c) : FrB R B e a c := by
  refine Fr.then' h k ?_
  intro i hi hm
  rcases hm with rfl | ⟨h1, cs, fz, h2⟩
  · exact .inl rfl
  · by_cases hr : i = R
    · exact .inl hr
    · by_cases hx : B ≤ i ∧ RowOf e a i
      · exact .inr hx
      · refine .inr ⟨h1, cs, fz, ?_⟩
        rw [← h.block i hi (fun y => y.elim hr hx)]
        exact h2
theorem FrB.drewN {R B : Nat} {e : TypeId} {a w : World} (h : FrB R B e a w) (n : Nat) : FrB R B e a (w.drewN n) := Fr.drewN h n
theorem FrB.drew {R B : Nat} {e : TypeId} {a w : World} (h : FrB R B e a w) : FrB R B e a w.drew := Fr.drew h
theorem FrB.setCell {R B : Nat} {e : TypeId} {a w : World} (h : FrB R B e a w) (j : Nat) (u : Value) : FrB R B e a (w.setCell ⟨R, j, none⟩ u) :=
  Fr.setCell h (p := ⟨R, j, none⟩) (fun _ => .inl rfl) u
theorem FrB.alloc {R B : Nat} {e : TypeId} {a w : World} (h : FrB R B e a w) (o : Obj) : FrB R B e a (w.alloc o) := Fr.alloc h o
theorem FrB.grown {R B : Nat} {e : TypeId} {a w w' : World} {row : Option Nat} (h : FrB R B e a w) (hg : w.grownBy w' row) (hr : ∀ k, row = some k → B ≤ k ∧ RowOf e w k) : FrB R B e a w' :=
  FrB.trans h ((Fr.refl _ _).grown hg (fun k hk _ => .inr (hr k hk)))
theorem FrB.heap {R B : Nat} {e : TypeId} {w w' : World} {b : Nat} {cs : Array Value} {T : TypeId} {fz : Nat × Nat} (hf : FrB R B e w w') (h : w.heap[b]? = some (.cells cs T fz)) (hR : b ≠ R) (hT : T ≠ e) : w'.heap[b]? = some (.cells cs T fz) := by
  refine Fr.heap hf h ?_
  rintro (rfl | ⟨_, cs', fz', h'⟩)
  · exact hR rfl
  · rw [h] at h'; simp at h'; exact hT h'.2.1
theorem FrB.below {R B : Nat} {e : TypeId} {w w' : World} (h : FrB R B e w w') (B' : Nat) (hB : B' ≤ B) (hR : B' ≤ R) (hs : B' ≤ w.heap.size) : Below B' w w' :=
  Fr.below h B' hs (fun k hk x => by rcases x with rfl | ⟨h1, _⟩ <;> omega)

theorem ownsRowF_row {w : World} {B : Nat} {e : TypeId} {v : Value} {n : Nat} {xs : List Value} (h : w.ownsRowF B e 1 v n xs) : ∀ g, v.ownBlock = some g → B ≤ g ∧ RowOf e w g := by
  intro g hg
  rcases h.2 with ⟨rfl, _⟩ | ⟨g', cap, cur, fz, rfl, hb, hh, _⟩
  · simp [Value.ownBlock] at hg
  · simp [Value.ownBlock] at hg
    subst hg
    exact ⟨hb, cur, fz, hh⟩
theorem Buf.row {B : Nat} {e : TypeId} {l : List UInt8} {v : Value} {w : World} (h : Buf B e l v w) : ∀ g, v.ownBlock = some g → B ≤ g ∧ RowOf e w g := ownsRowF_row h.own
theorem Buf.ne {B : Nat} {e : TypeId} {l : List UInt8} {v : Value} {w : World} (h : Buf B e l v w) {R : Nat} {cs : Array Value} {T : TypeId} {fz : Nat × Nat} (hR : w.heap[R]? = some (.cells cs T fz)) (hT : T ≠ e) : v.ownBlock ≠ some R := by
  intro hv
  obtain ⟨_, cs', fz', h'⟩ := h.row R hv
  rw [hR] at h'; simp at h'; exact hT h'.2.1
theorem byteCells_int (c : UInt8) : Lib.byteCells [c] = [.int .u8 c.toNat] := rfl
theorem Buf.drewN {B : Nat} {e : TypeId} {l : List UInt8} {v : Value} {w : World} (h : Buf B e l v w) (n : Nat) : Buf B e l v (w.drewN n) := h
theorem Buf.setCell {B : Nat} {e : TypeId} {l : List UInt8} {v : Value} {w : World} (h : Buf B e l v w) {a : Addr} (ha : v.ownBlock ≠ some a.block) (u : Value) : Buf B e l v (w.setCell a u) :=
  h.kept (M := (· = a.block)) (Fr.setCell (M := (· = a.block)) (Fr.refl _ _) (fun _ => rfl) u) (fun k hk e => ha (e ▸ hk))
theorem Buf.alloc {B : Nat} {e : TypeId} {l : List UInt8} {v : Value} {w : World} (h : Buf B e l v w) (o : Obj) : Buf B e l v (w.alloc o) :=
  h.kept (M := fun _ => False) (Fr.alloc (Fr.refl _ _) o) (fun _ _ e => e)

theorem ret_bool {a b : Bool} (h : a = b) : Ending.returned (.bool a) = .returned (.bool b) := by rw [h]
theorem ret_int {k : IntKind} {a b : Int} (h : a = b) : Ending.returned (.int k a) = .returned (.int k b) := by rw [h]
theorem ret_str {a b : List UInt8} (h : a = b) : Ending.returned (.string ⟨a.toArray⟩) = .returned (.string ⟨b.toArray⟩) := by rw [h]
theorem ret_val {a b : Value} (h : a = b) : Ending.returned a = .returned b := by rw [h]
theorem dn0 (w : World) : ∃ n, w = w.drewN n := ⟨0, rfl⟩
theorem dn (w : World) (n : Nat) : ∃ m, w.drewN n = w.drewN m := ⟨n, rfl⟩
theorem dn2 (w : World) (a b : Nat) : (w.drewN a).drewN b = w.drewN (a + b) := by
  simp only [World.drewN]; congr 1; omega
theorem dn_trans {a b : World} {n : Nat} (h : ∃ m, b = a.drewN m) : ∃ m, b.drewN n = a.drewN m := by
  obtain ⟨m, rfl⟩ := h; exact ⟨m + n, dn2 _ _ _⟩
theorem FrB.of_dn {R B : Nat} {e : TypeId} {a b : World} (h : ∃ m, b = a.drewN m) : FrB R B e a b := by
  obtain ⟨m, rfl⟩ := h; exact (FrB.refl _ _ _ _).drewN m
theorem Fr.of_dn {M : Nat → Prop} {a b : World} (h : ∃ m, b = a.drewN m) : Fr M a b := by
  obtain ⟨m, rfl⟩ := h; exact (Fr.refl _ _).drewN m

theorem ownsRow_fr {w w' : World} {base : Nat} {e : TypeId} {size : Nat} {v : Value} {n : Nat} {xs : List Value} {M : Nat → Prop} (h : w.ownsRow base e size v n xs) (hf : Fr M w w') (hM : ∀ g, v.ownBlock = some g → RowOf e w g → ¬ M g) : w'.ownsRow base e size v n xs := by
  refine ⟨h.1, ?_⟩
  rcases h.2 with hn | ⟨g, cap, cur, rfl, hb, hgg, rest⟩
  · exact .inl hn
  · exact .inr ⟨g, cap, cur, rfl, hb, hf.heap hgg (hM g rfl ⟨cur, (0, 0), hgg⟩), rest⟩
theorem ownsRow_frB {w w' : World} {base R B : Nat} {e e' : TypeId} {size : Nat} {v : Value} {n : Nat} {xs : List Value} (h : w.ownsRow base e size v n xs) (hf : FrB R B e' w w') (he : e ≠ e') {cs : Array Value} {T : TypeId} {fz : Nat × Nat} (hR : w.heap[R]? = some (.cells cs T fz)) (hT : T ≠ e) :
    w'.ownsRow base e size v n xs := by
  refine ownsRow_fr h hf ?_
  rintro g hg ⟨cs', fz', h'⟩ (rfl | ⟨_, cs2, fz2, h2⟩)
  · rw [hR] at h'; simp at h'; exact hT h'.2.1
  · rw [h2] at h'; simp at h'; exact he h'.2.1.symm
theorem ownsRow_form {w : World} {base : Nat} {e : TypeId} {size : Nat} {v : Value} {n : Nat} {xs : List Value} (h : w.ownsRow base e size v n xs) : ∃ oa cap, v = .slice oa n cap := by
  rcases h.2 with ⟨rfl, h0⟩ | ⟨g, cap, cur, rfl, _⟩
  · exact ⟨none, 0, by rw [h0]⟩
  · exact ⟨_, _, rfl⟩
/-- Strings as cells. -/
def strVals (l : List (List UInt8)) : List Value := l.map fun x => .string ⟨x.toArray⟩
theorem strVals_length (l : List (List UInt8)) : (strVals l).length = l.length := by simp [strVals]
theorem strVals_snoc (l : List (List UInt8)) (x : List UInt8) : strVals (l ++ [x]) = strVals l ++ [.string ⟨x.toArray⟩] := by simp [strVals]

theorem bne_of {x y : Int} {b : Bool} (h : (x == y) = b) : (x != y) = !b := by simp [bne, h]
theorem str_ne {s : ByteArray} (h : s.size ≠ 0) : s.toList.isEmpty = false ∧ ¬ s.toList = [] ∧ 0 < s.size ∧ (0 : Int) < (s.size : Int) := by
  have h1 : ¬ s.toList = [] := by
    rw [ByteArray.toList_eq]
    intro e
    apply h
    obtain ⟨⟨d⟩⟩ := s
    simp at e
    subst e; rfl
  exact ⟨by simpa using h1, h1, by omega, by omega⟩
theorem str_nil {s : ByteArray} (h : s.size = 0) : s = ⟨#[]⟩ := by
  obtain ⟨⟨d⟩⟩ := s
  cases d with
  | nil => rfl
  | cons a l => simp [ByteArray.size] at h
theorem beq_u8 (a b : UInt8) : (a == b) = ((a.toNat : Int) == (b.toNat : Int)) := by
  rw [Bool.eq_iff_iff]; simp [← UInt8.toNat_inj]; omega

theorem drop_cons (s : ByteArray) (k : Nat) (h : k < s.size) : s.data.toList.drop k = s[k] :: s.data.toList.drop (k + 1) := by
  rw [List.drop_eq_getElem_cons (by simpa using h)]; rfl

/-- Of a slice of strings that begins at oa the strings. -/
def StrRow (w : World) (oa : Option Addr) (l : List (List UInt8)) : Prop :=
  ∀ i (h : i < l.length), ∃ b o, oa = some ⟨b, o, none⟩ ∧ w.cell? ⟨b, o + i, none⟩ = some (.string ⟨l[i].toArray⟩)
theorem StrRow.below {w w' : World} {oa : Option Addr} {l : List (List UInt8)} (h : StrRow w oa l) (hb : Below w.heap.size w w') : StrRow w' oa l := by
  intro i hi
  obtain ⟨b, o, e, hc⟩ := h i hi
  exact ⟨b, o, e, cell_later hb hc⟩
theorem StrRow.nil (w : World) (oa : Option Addr) : StrRow w oa [] := fun _ h => absurd h (by simp)
theorem StrRow.of_own {w : World} {base : Nat} {e : TypeId} {oa : Option Addr} {n cap : Nat} {l : List (List UInt8)} (h : w.ownsRow base e 1 (.slice oa n cap) n (strVals l)) : StrRow w oa l := by
  intro i hi
  have hl := h.1
  rw [strVals_length] at hl
  rcases h.2 with ⟨_, h0⟩ | ⟨g, cap', cur, hv, _, hg, _, _, _, ht⟩
  · omega
  · injection hv with h1 h2 h3
    subst h1
    refine ⟨g, 0, rfl, ?_⟩
    have hc := h.cells (g := g) rfl i (.string ⟨l[i].toArray⟩) (by simp [strVals, hi])
    have hadd : (⟨g, 0, none⟩ : Addr).add i = ⟨g, 0 + i, none⟩ := by unfold Addr.add; split <;> simp_all
    rw [hadd] at hc; exact hc
theorem StrRow.take {w : World} {oa : Option Addr} {l : List (List UInt8)} (h : StrRow w oa l) (k : Nat) : StrRow w oa (l.take k) := by
  intro i hi
  simp at hi
  obtain ⟨b, o, e, hc⟩ := h i (by omega)
  exact ⟨b, o, e, by simpa using hc⟩
theorem below_dn {B : Nat} {a b : World} (h : ∃ n, b = a.drewN n) : Below B a b := by
  obtain ⟨n, rfl⟩ := h; exact ⟨rfl, rfl, rfl, Nat.le_refl _, fun _ _ => rfl⟩
theorem Below.more {a b c : World} (h : Below a.heap.size a b) (k : Below b.heap.size b c) : Below a.heap.size a c := h.trans (k.mono h.size)

theorem run_append_none0 {P : Program} {w : World} (base : Nat) (t ty e : TypeId) (i : TypeInfo) (size : Nat) (ht : P.underlying t = some (.slice e)) (hi : P.info? e = some i)
    (v : Value) (n : Nat) (xs : List Value) (hown : w.ownsRow base e size v n xs) (c : Nat) :
    (Builtin.append_ #[t, t] ty #[v, .slice none 0 c]).run P w = .ok v w := by
  rcases hown.2 with ⟨rfl, rfl⟩ | ⟨g, cap, cur, rfl, _, _, hnc, _⟩
  · simp [Builtin.append_, run_underlying ht, sizeOf, typeInfo, hi, Builtin.lenOf, Builtin.firstCells]
  · simp [Builtin.append_, run_underlying ht, sizeOf, typeInfo, hi, Builtin.lenOf, Builtin.firstCells, hnc, storeCells]

/-- append of a whole slice, nil or not, to one that is owned. -/
theorem append_rows {P : Program} {w : World} (base : Nat) (t ty e : TypeId) (i : TypeInfo) (z : Value) (size bytes : Nat) (ht : P.underlying t = some (.slice e)) (hi : P.info? e = some i) (hz : i.zero = some z)
    (hsize : i.size = size) (hby : i.bytes = bytes) (hzs : z.cells.size = size) (hsz : 0 < size)
    (v : Value) (n : Nat) (xs : List Value) (hown : w.ownsRow base e size v n xs) (oa : Option Addr) (m c : Nat) (news : List Value) (hl : news.length = m * size)
    (hc : ∀ j u, news[j]? = some u → ∃ b o, oa = some ⟨b, o, none⟩ ∧ w.cell? ⟨b, o + j, none⟩ = some u) (h1 : ∀ u ∈ news, u.oneCell' = true)
    (h63 : n + m ≤ maxLen) (hbytes : (n + m) * bytes ≤ 140737488355328) (hbase : base ≤ w.heap.size) :
    ∃ v' w', (Builtin.append_ #[t, t] ty #[v, .slice oa m c]).run P w = .ok v' w' ∧ w'.ownsRow base e size v' (n + m) (xs ++ news) ∧ w.grownBy w' v.ownBlock := by
  cases oa with
  | none =>
    have hn : news = [] := by
      cases news with
      | nil => rfl
      | cons u r => obtain ⟨b, o, e, _⟩ := hc 0 u rfl; cases e
    subst hn
    have hm : m = 0 := by
      rcases Nat.eq_zero_or_pos m with h | h
      · exact h
      · have := Nat.mul_pos h hsz
        simp at hl; omega
    subst hm
    exact ⟨v, w, run_append_none0 base t ty e i size ht hi v n xs hown c, by simpa using hown, ⟨rfl, rfl, rfl, Nat.le_refl _, fun _ _ _ => rfl⟩⟩
  | some a =>
    by_cases h0 : news = []
    · subst h0
      obtain ⟨v', w', h2, h3, h4, _⟩ := run_append_own (P := P) w base t ty e i z size bytes ht hi hz hsize hby hzs hsz v n xs hown a m c [] hl (by simp) (by simp) h63 hbytes hbase
      exact ⟨v', w', h2, h3, h4⟩
    · obtain ⟨u, r, rfl⟩ : ∃ u r, news = u :: r := by
        cases news with
        | nil => exact absurd rfl h0
        | cons u r => exact ⟨u, r, rfl⟩
      obtain ⟨b, o, e1, _⟩ := hc 0 u rfl
      injection e1 with e1
      subst e1
      obtain ⟨v', w', h2, h3, h4, _⟩ := run_append_own (P := P) w base t ty e i z size bytes ht hi hz hsize hby hzs hsz v n xs hown ⟨b, o, none⟩ m c (u :: r) hl (by
        intro j x hx
        obtain ⟨b', o', e2, h5⟩ := hc j x hx
        injection e2 with e2; injection e2 with e3 e4; subst e3; subst e4
        have hadd : (⟨b, o, none⟩ : Addr).add j = ⟨b, o + j, none⟩ := by unfold Addr.add; split <;> simp_all
        rw [hadd]; exact h5) h1 h63 hbytes hbase
      exact ⟨v', w', h2, h3, h4⟩
theorem strVals_one (l : List (List UInt8)) : ∀ u ∈ strVals l, u.oneCell' = true := by
  intro u hu
  obtain ⟨x, _, rfl⟩ := List.mem_map.1 hu
  rfl
theorem StrRow.cells {w : World} {oa : Option Addr} {l : List (List UInt8)} (h : StrRow w oa l) : ∀ j u, (strVals l)[j]? = some u → ∃ b o, oa = some ⟨b, o, none⟩ ∧ w.cell? ⟨b, o + j, none⟩ = some u := by
  intro j u hu
  have hj : j < l.length := by
    rcases Nat.lt_or_ge j l.length with h' | h'
    · exact h'
    · rw [List.getElem?_eq_none (by simpa [strVals] using h')] at hu; cases hu
  obtain ⟨b, o, e, hc⟩ := h j hj
  refine ⟨b, o, e, ?_⟩
  rw [hc]
  simp [strVals, hj] at hu
  rw [hu]

/-- An append, its guard met, whose run is known. -/
theorem wpList_append_run {P : Program} {w : World} {ops : Array Oper} {rest : List Oper} {o : Oper} {a : Act} {Q : Exit → Act → World → Prop} (hw : Region.wanted o (yielded ops a.tmps) = true) (s x : Operand) (t : TypeId)
    (ho : o.op = .call { callee := .builtin .append, args := #[s, x], argTypes := #[t, t] }) {v xv v' : Value} {w' : World} (hr : (Builtin.append_ #[t, t] o.type #[v, xv]).run P w = .ok v' w') (hs : a.eval s = v) (hx : a.eval x = xv)
    (h : wpList P ops Q rest (a.put o.dst v') w') : wpList P ops Q (o :: rest) a w := by
  refine wpList_step fun K hK => ?_
  rw [if_pos hw]
  unfold Oper.wp execOp
  simp only [ho, resolve, invoke, builtin, Sem.run_bind, Sem.run_pure, Result.andThen_ok, List.map_toArray, List.map_cons, List.map_nil, hs, hx, hr]
  exact hK _ _ h

/-- The last cell of an owned row, written anew. -/
theorem own_set_last {w : World} {base : Nat} {e : TypeId} {g n cap : Nat} {xs : List Value} {x : Value} (h : w.ownsRow base e 1 (.slice (some ⟨g, 0, none⟩) (n + 1) cap) (n + 1) (xs ++ [x])) (y : Value) :
    (w.setCell ⟨g, n, none⟩ y).ownsRow base e 1 (.slice (some ⟨g, 0, none⟩) (n + 1) cap) (n + 1) (xs ++ [y]) ∧ w.cell? ⟨g, n, none⟩ = some x ∧ w.frozen? ⟨g, n, none⟩ = false ∧ base ≤ g ∧ g < w.heap.size := by
  have hl : xs.length = n := by have := h.1; simp at this; exact this
  rcases h.2 with ⟨h0, _⟩ | ⟨g', cap', cur, hv, hb, hg, hnc, hcm, hcs, ht⟩
  · cases h0
  · injection hv with e1 e2 e3
    injection e1 with e1
    injection e1 with e1 _ _
    subst e1; subst e3
    have hsz : n < cur.size := by simp at hcs; omega
    have hx : cur[n]? = some x := by
      have h1 := congrArg (fun l => l[n]?) ht
      simp only [Nat.mul_one, List.getElem?_take] at h1
      rw [if_pos (by omega)] at h1
      simpa [← hl] using h1
    refine ⟨⟨by simp [hl], .inr ⟨g, cap, cur.setIfInBounds n y, rfl, hb, heap_setCell hg n y, hnc, hcm, by simpa using hcs, ?_⟩⟩, ?_, ?_, hb, lt_heap hg⟩
    · rw [Array.toList_setIfInBounds, Nat.mul_one, List.take_set]
      rw [Nat.mul_one] at ht
      rw [ht, ← hl]
      simp
    · simp [World.cell?, hg, hx]
    · simp [World.frozen?, hg]
theorem own_block {w : World} {base : Nat} {e : TypeId} {n cap : Nat} {oa : Option Addr} {xs : List Value} (h : w.ownsRow base e 1 (.slice oa (n + 1) cap) (n + 1) xs) : ∃ g, oa = some ⟨g, 0, none⟩ := by
  rcases h.2 with ⟨_, h0⟩ | ⟨g', cap', cur, hv, _⟩
  · omega
  · injection hv with e1; exact ⟨g', e1⟩
end Go.Proofs.YtcaamakodneplaaGreat

/-
  From a walk to a row: what every law's proof ends with. The arguments are read, the law is called, they read as they did.
-/
namespace Go.Proofs.YtcaamakodneplaaGreat
open Go Go.RowKit Go.ChangeShapes Go.WideShapes Go.ChangeAt
set_option linter.unusedVariables false
set_option maxRecDepth 100000

theorem own : ownKnob Tryz.prog.godebug = none := by kernel_rfl
theorem laidOut : laidOutB Tryz.prog = true := by kernel_rfl

theorem trodAll_below {H : Type} {enc : TypeId × Value → H} {W W' : World} (hb : Below W.heap.size W W') : ∀ {ts : List TypeId} {vs : List Value} {ds : List (DataW H)} {p : List MemPlace},
    (∀ t ∈ ts, Tryz.prog.readableRec t = true ∧ t < Tryz.prog.types.size) → DataW.TrodAll enc Tryz.prog W 0 (fun _ => true) true ts vs ds p → (∀ x ∈ p, x.block < W.heap.size) →
    DataW.TrodAll enc Tryz.prog W' 0 (fun b => decide (b < W.heap.size)) true ts vs ds p
  | [], vs, ds, p, _, h, _ => by
    obtain ⟨rfl, rfl, rfl⟩ := trodAll_nil h
    exact trodAll_mk0
  | t :: ts, vs, ds, p, ht, h, hp => by
    obtain ⟨v, vs', d, ds', p1, q1, rfl, rfl, rfl, h1, h2⟩ := trodAll_cons h
    exact trodAll_cons_mk (Below.trod laidOut (ht t (by simp)).1 (ht t (by simp)).2 h1 hb (fun x hx => hp x (by simp [hx])))
      (trodAll_below hb (fun t h => ht t (by simp [h])) h2 (fun x hx => hp x (by simp [hx])))

/-- The end of every law: it answered true, and below the heap's end the world is as it was. -/
theorem law_post {H : Type} {enc : TypeId × Value → H} {f : Func} {s : ChangeSpec} {W W' : World} {args : Array Value} {ds gs : List (DataW H)} {before : List MemPlace}
    (hW : DataW.Whole enc Tryz.prog f.params.toList s.vars false W args.toList ds gs before) (hb : Below W.heap.size W W') (hv : s.vars = []) (hrt : f.resultTypes = #[4])
    (hts : ∀ t ∈ f.params.toList, Tryz.prog.readableRec t = true ∧ t < Tryz.prog.types.size)
    (hres : (s.fn H (ds ++ gs)).results = [.lit (.bool true)]) (hargs : (s.fn H (ds ++ gs)).args = ds) (hvs : (s.fn H (ds ++ gs)).vars = []) :
    ∃ v, Ending.returned (.bool true) = .returned v ∧ s.post enc Tryz.prog f false true false false W args v W' := by
  have hlt := hW.lt
  have hW' := hW
  obtain ⟨p, q, hA, hV, rfl, _, _⟩ := hW
  rw [hv] at hV
  obtain ⟨rfl, rfl⟩ := trodVars_none hV
  refine ⟨_, rfl, ds, [], p ++ [], [], p, [], hW', ?_, ?_, ?_, ?_, fun h => by cases h⟩
  · rw [hrt, hres]
    exact trodAll_cons_mk (shut_bool Tryz.underlying4 true) trodAll_mk0
  · rw [hargs]
    exact trodAll_below hb hts hA (fun x hx => hlt x (by simp [hx]))
  · rw [hv, hvs]; rfl
  · exact hb.frame _

theorem bulk_one {H : Type} (d : DataW H) : 1 ≤ Rows.uptoBulk d := by
  cases d with
  | lit l => cases l <;> simp [Rows.uptoBulk]
  | nil => simp [Rows.uptoBulk]
  | ptr d => simp [Rows.uptoBulk]
  | slice elems spare => simp [Rows.uptoBulk]
  | agg parts => simp [Rows.uptoBulk]
  | iface t d => simp [Rows.uptoBulk]
  | map entries => simp [Rows.uptoBulk]
  | held h => simp [Rows.uptoBulk]
theorem bulk_part {H : Type} {d : DataW H} {l : List (DataW H)} (h : d ∈ l) : Rows.uptoBulk d ≤ Rows.uptoBulkAll l := by
  induction l with
  | nil => cases h
  | cons x r ih =>
    simp only [Rows.uptoBulkAll]
    cases List.mem_cons.1 h with
    | inl e => subst e; omega
    | inr e => have := ih e; omega
theorem bulk_len {H : Type} (l : List (DataW H)) : l.length ≤ Rows.uptoBulkAll l := by
  induction l with
  | nil => simp [Rows.uptoBulkAll]
  | cons x r ih => have := bulk_one x; simp only [Rows.uptoBulkAll, List.length_cons]; omega

/-- A slice of strings, opened. -/
theorem open_strs {H : Type} {enc : TypeId × Value → H} {W : World} {base : Nat} {v : Value} {d : DataW H} {ps : List MemPlace} (hval : Value.okWide Tryz.prog W .any base 37 v)
    (h : DataW.Trod enc Tryz.prog W 0 (fun _ => true) true 37 v d ps) :
    ∃ oa cap l, v = .slice oa (List.length l) cap ∧ StrRow W oa l ∧ l.length ≤ maxLen ∧ (∀ x ∈ l, List.length x < Rows.uptoBulk d) ∧ l.length < Rows.uptoBulk d := by
  obtain ⟨a0, len, cap, rfl⟩ := okWide_slice Tryz.underlying37 hval
  obtain ⟨fuel, hf⟩ := h
  rcases open_strings Tryz.underlying37 Tryz.underlying9 (by kernel_rfl) hf with ⟨hcs, hx⟩ | ⟨a, len', cap', ss, hcs, _, hl, hm, hz, hx, hcell, hws⟩
  · simp [Value.cells] at hcs
    obtain ⟨rfl, rfl, rfl⟩ := hcs
    simp only [Prod.mk.injEq] at hx
    obtain ⟨rfl, rfl⟩ := hx
    exact ⟨none, 0, [], rfl, StrRow.nil _ _, by simp [maxLen], by simp, by simp [Rows.uptoBulk]⟩
  · simp [Value.cells] at hcs
    obtain ⟨rfl, rfl, rfl⟩ := hcs
    simp only [Prod.mk.injEq] at hx
    obtain ⟨rfl, rfl⟩ := hx
    simp only [if_true] at hz
    refine ⟨some a, cap, (ss.take len).map (·.data.toList), ?_, ?_, ?_, ?_, ?_⟩
    · simp; omega
    · intro i hi
      simp at hi
      have hc := hcell i (by omega)
      obtain ⟨b, o, sp⟩ := a
      by_cases h0 : i = 0
      · subst h0
        have e : (⟨b, o, sp⟩ : Addr).add 0 = ⟨b, o, sp⟩ := rfl
        rw [e] at hc
        have hsp : sp = none := by
          cases sp with
          | none => rfl
          | some x => simp [World.cell?] at hc; split at hc <;> simp at hc
        subst hsp
        exact ⟨b, o, rfl, by simpa [List.getD_eq_getElem?_getD, (by omega : 0 < ss.length)] using hc⟩
      · have hc0 := hcell 0 (by omega)
        have e : (⟨b, o, sp⟩ : Addr).add 0 = ⟨b, o, sp⟩ := rfl
        rw [e] at hc0
        have hsp : sp = none := by
          cases sp with
          | none => rfl
          | some x => simp [World.cell?] at hc0; split at hc0 <;> simp at hc0
        subst hsp
        have e2 : (⟨b, o, none⟩ : Addr).add i = ⟨b, o + i, none⟩ := by unfold Addr.add; rw [if_neg h0]
        rw [e2] at hc
        exact ⟨b, o, rfl, by simpa [List.getD_eq_getElem?_getD, (by omega : i < ss.length)] using hc⟩
    · simp; omega
    · intro x hx
      obtain ⟨y, hy, rfl⟩ := List.mem_map.1 hx
      have h1 : (strs (H := H) (ss.take len)) = (ss.take len).map fun s => .lit (.string s.data.toList) := rfl
      have h2 := bulk_part (H := H) (d := .lit (.string y.data.toList)) (l := strs (ss.take len)) (by rw [h1]; exact List.mem_map_of_mem hy)
      simp only [Rows.uptoBulk] at h2 ⊢
      omega
    · have h1 : (strs (H := H) (ss.take len)).length = ((ss.take len).map (·.data.toList)).length := by simp [strs]
      have h2 := bulk_len (strs (H := H) (ss.take len))
      simp only [Rows.uptoBulk]
      omega
end Go.Proofs.YtcaamakodneplaaGreat

/-
  The library's variable internal/bytealg.MaxLen holds some number.
-/
namespace Go.Proofs.YtcaamakodneplaaGreat
open Go Go.RowKit
set_option linter.unusedVariables false

/-- The library's variable that its search looks into holds some number. -/
def MaxAt (w : World) : Prop := ∃ m, w.cell? ⟨0, 0, none⟩ = some (.int .i64 m)
theorem MaxAt.below {w w' : World} (h : MaxAt w) (hb : Below w.heap.size w w') : MaxAt w' := by
  obtain ⟨m, hm⟩ := h
  exact ⟨m, (hb.cell (p := ⟨0, 0, none⟩) (World.block_lt_of_cell? w _ hm)).trans hm⟩
theorem MaxAt.fr {w w' : World} {M : Nat → Prop} (h : MaxAt w) (hf : Fr M w w') (hM : ¬ M 0) : MaxAt w' := by
  obtain ⟨m, hm⟩ := h
  refine ⟨m, ?_⟩
  rw [← hm]
  unfold World.cell?
  rw [hf.block _ (World.block_lt_of_cell? w _ hm) hM]

/-- The library's variable that its search looks into holds some number, in every row's first world. -/
theorem maxAt_of {W : World} (h : W.ShapedOpen Tryz.prog) : MaxAt W :=
  Go.Proofs.cell_of_shapedOpen_int (zero := #[.int .i64 0]) (t := 3) h (of_decide_eq_true (by kernel_rfl)) (by kernel_rfl) rfl (by kernel_rfl) (by kernel_rfl) Tryz.underlying3
end Go.Proofs.YtcaamakodneplaaGreat

/-
  From a walk to a row that lists variables: a witness, a slice of lines opened.
-/
namespace Go.Proofs.YtcaamakodneplaaGreat
open Go Go.RowKit Go.ChangeShapes Go.WideShapes Go.ChangeAt
set_option linter.unusedVariables false
set_option maxRecDepth 100000

/-- There is an input that fits: a world that is written out, and its shape. -/
theorem witness_card {H : Type} {enc : TypeId × Value → H} {C : Checked} {os : Os} {f : FuncId} {fn : Func} {s : OpenSpec} {conds : List PathCond} {apart : Bool} {laid : List (String × DataW Unit)} (w0 : World) (args : Array Value) (hos : w0.os = os)
    (hsh : (w0.forCall (fun _ _ => 0) ⟨#[], args, []⟩).Shaped C.prog)
    (hok : Input.okWideB C.prog (w0.forCall (fun _ _ => 0) ⟨#[], args, []⟩) f ⟨#[], args, []⟩ = true)
    (hrow : s.preRow enc C.prog fn conds apart laid (w0.forCall (fun _ _ => 0) ⟨#[], args, []⟩).memory args) :
    ∃ (w : World) (tape : Tape) (i : Input), w.os = os ∧ (w.forCall tape i).Shaped C.prog ∧ i.vars = [] ∧ Input.okWide C.prog (w.forCall tape i) .any w.heap.size f i ∧
      s.preRow enc C.prog fn conds apart laid (w.forCall tape i).memory i.args ∧ ({} : Assume).holds C.prog (lone (Frame.enter C.prog f i.args .normal) [] (w.forCall tape i)) :=
  ⟨w0, fun _ _ => 0, ⟨#[], args, []⟩, hos, hsh, (Input.okWide_of_okWideB (base := 0) hok).1, (Input.okWide_of_okWideB hok).2, hrow, by
    simp only [Assume.holds]
    exact ⟨by simp, by simp, by simp, by simp, by simp⟩⟩

/-- No parameter wants a stand-in; the program's own looks are off: what a card asks. -/
theorem plain_of {name : String} {k : FuncId} {F : Func} (hn : Tryz.prog.funcNamed name = some k) (hk : Tryz.prog.funcs[k]? = some F) (hl : false = Tryz.pinned.checked.prog.looks []) (ts : List TypeId) (hp : F.params.toList = ts) (hall : (ts.all fun u => !Tryz.prog.wantsStandIn u) = true)
    (f : FuncId) (fn : Func) (hf : Tryz.pinned.checked.prog.funcNamed name = some f) (hfn : Tryz.pinned.checked.prog.funcs[f]? = some fn) :
    false = Tryz.pinned.checked.prog.looks [] ∧ ∀ (j : Nat) t, fn.params[j]? = some t → Tryz.pinned.checked.prog.wantsStandIn t = false := by
  obtain rfl : k = f := Option.some.inj (hn.symm.trans hf)
  obtain rfl : F = fn := Option.some.inj (hk.symm.trans hfn)
  refine ⟨hl, fun j t ht => ?_⟩
  have hm : t ∈ ts := by rw [← hp]; simpa using Array.mem_of_getElem? ht
  exact (show Tryz.prog.wantsStandIn t = false by simpa using List.all_eq_true.1 hall t hm)

end Go.Proofs.YtcaamakodneplaaGreat

/-
  Rows of structs that came in as an argument, opened.
-/
namespace Go.Proofs.YtcaamakodneplaaGreat
open Go Go.RowKit Go.ChangeShapes Go.WideShapes Go.Deep
set_option linter.unusedVariables false
set_option maxRecDepth 100000

theorem list_of {α : Type} (P : Nat → α → Prop) : ∀ (n : Nat), (∀ i, i < n → ∃ x, P i x) → ∃ l : List α, l.length = n ∧ ∀ i (h : i < l.length), P i l[i]
  | 0, _ => ⟨[], rfl, fun i h => absurd h (by simp)⟩
  | n + 1, h => by
    obtain ⟨l, hl, hP⟩ := list_of P n (fun i hi => h i (by omega))
    obtain ⟨x, hx⟩ := h n (by omega)
    refine ⟨l ++ [x], by simp [hl], fun i hi => ?_⟩
    by_cases e : i < l.length
    · rw [List.getElem_append_left e]; exact hP i e
    · simp at hi
      have : i = l.length := by omega
      subst this
      rw [List.getElem_concat_length rfl, hl]
      exact hx
theorem add_none {b o : Nat} {sp : Option Nat} {w : World} {v : Value} (h : w.cell? ((⟨b, o, sp⟩ : Addr).add 0) = some v) : sp = none := by
  have e : (⟨b, o, sp⟩ : Addr).add 0 = ⟨b, o, sp⟩ := rfl
  rw [e] at h
  cases sp with
  | none => rfl
  | some x => simp [World.cell?] at h; split at h <;> simp at h
theorem add_off (b o k : Nat) : (⟨b, o, none⟩ : Addr).add k = ⟨b, o + k, none⟩ := by unfold Addr.add; split <;> simp_all

theorem open_rows {H α : Type} {enc : TypeId × Value → H} {W : World} {t e : TypeId} {k : Nat} (R : α → List Value → Prop) (bulk : α → Nat) (ht : Tryz.prog.underlying t = some (.slice e)) (hk : Tryz.prog.cellsOf e = k) (h0 : 0 < k)
    (hel : ∀ (cs : List Value) (D : DataW H) (Pl : List MemPlace) (n : Nat), cs.length = k → DataW.trod enc Tryz.prog W 0 (fun _ => true) true n e cs = some (D, Pl) → ∃ x, R x cs ∧ bulk x ≤ Rows.uptoBulk D)
    {fuel : Nat} {c : Value} {y : DataW H × List MemPlace} (h : DataW.trod enc Tryz.prog W 0 (fun _ => true) true fuel t [c] = some y) :
    ∃ oa cap l, c = .slice oa (List.length l) cap ∧ l.length ≤ cap ∧ (∀ i (hi : i < l.length), ∃ b o cs, oa = some ⟨b, o, none⟩ ∧ b < W.heap.size ∧ List.length cs = k ∧ (∀ j v, cs[j]? = some v → W.cell? ⟨b, o + i * k + j, none⟩ = some v) ∧ R l[i] cs) ∧
      (∀ x ∈ l, bulk x < Rows.uptoBulk y.1) ∧ l.length < Rows.uptoBulk y.1 := by
  rcases open_slice ht h with ⟨hcs, rfl⟩ | ⟨a, len, cap, m, n, D, Pl, hcs, _, hl, hm, hmm, rfl, hi⟩
  · simp at hcs
    subst hcs
    exact ⟨none, 0, [], rfl, Nat.zero_le _, fun i hi => absurd hi (by simp), by simp, by simp [Rows.uptoBulk]⟩
  · simp at hcs
    subst hcs
    simp only [if_true] at hmm
    subst hmm
    rw [hk] at hi
    obtain ⟨b, o, sp⟩ := a
    obtain ⟨l, hll, hP⟩ := list_of (fun i (x : α) => (∃ cs, sp = none ∧ b < W.heap.size ∧ List.length cs = k ∧ (∀ j v, cs[j]? = some v → W.cell? ⟨b, o + i * k + j, none⟩ = some v) ∧ R x cs) ∧ bulk x ≤ Rows.uptoBulk (D i)) len (by
      intro i him
      obtain ⟨cs', hc, ht'⟩ := hi i (by omega)
      obtain ⟨_, hcl, hat⟩ := World.cells?_some hc
      have hsp : sp = none := by
        obtain ⟨cs0, hc0, ht0⟩ := hi 0 (by omega)
        obtain ⟨_, hcl0, hat0⟩ := World.cells?_some hc0
        have h1 := hat0 0 h0
        have : cs0[0]? = some (cs0[0]'(by omega)) := List.getElem?_eq_getElem (by omega)
        rw [this, Nat.zero_mul] at h1
        exact add_none (w := W) h1
      subst hsp
      obtain ⟨x, hR, hb⟩ := hel cs' (D i) (Pl i) n hcl ht'
      have hcell : ∀ j v, cs'[j]? = some v → W.cell? ⟨b, o + i * k + j, none⟩ = some v := by
        intro j v hj
        have hjl : j < k := by have := (List.getElem?_eq_some_iff.1 hj).1; omega
        have h1 := hat j hjl
        rw [add_off, add_off] at h1
        rw [h1, hj]
      refine ⟨x, ⟨cs', rfl, ?_, hcl, hcell, hR⟩, hb⟩
      exact World.block_lt_of_cell? W _ (hcell 0 _ (List.getElem?_eq_getElem (by omega))))
    subst hll
    have hbk : ∀ i (hi : i < l.length), Rows.uptoBulk (D i) ≤ Rows.uptoBulkAll ((List.range l.length).map D) := fun i hi => bulk_part (List.mem_map.2 ⟨i, List.mem_range.2 hi, rfl⟩)
    refine ⟨some ⟨b, o, sp⟩, m, l, rfl, hl, ?_, ?_, ?_⟩
    · intro i him
      obtain ⟨⟨cs, rfl, h1, h2, h3, h4⟩, _⟩ := hP i him
      exact ⟨b, o, cs, rfl, h1, h2, h3, h4⟩
    · intro x hx
      obtain ⟨i, hi2, rfl⟩ := List.getElem_of_mem hx
      have h1 := (hP i hi2).2
      have h2 := hbk i hi2
      simp only [Rows.uptoBulk]
      omega
    · have := bulk_len ((List.range l.length).map D)
      simp only [List.length_map, List.length_range] at this
      simp only [Rows.uptoBulk]
      omega
end Go.Proofs.YtcaamakodneplaaGreat

/-
  Plain functions on lists of bytes: what package words (Split, Join) computes. No program in sight.
-/
namespace Go.Proofs.YtcaamakodneplaaGreat
abbrev Str := List UInt8

/-- 0 to 9, a to f. -/
def hexOf (c : UInt8) : Option Nat :=
  if 48 ≤ c ∧ c ≤ 57 then some (c.toNat - 48) else if 97 ≤ c ∧ c ≤ 102 then some (c.toNat - 87) else none

def twoOf : Str → Option UInt8
  | a :: b :: _ => match hexOf a, hexOf b with
    | some x, some y => some (UInt8.ofNat (16 * x + y))
    | _, _ => none
  | _ => none

def isBad (c : UInt8) : Bool := (c < 32 && c != 9) || c == 127
def isBlank (c : UInt8) : Bool := c == 32 || c == 9
def isQuote (c : UInt8) : Bool := c == 39 || c == 34

/-- What stands behind a backslash: the byte, how many bytes it takes (without the backslash). -/
def escOf : Str → Option (UInt8 × Nat)
  | c :: r =>
    if c == 92 || c == 34 || c == 39 then some (c, 1)
    else if c == 110 then some (10, 1)
    else if c == 116 then some (9, 1)
    else if c == 115 then some (32, 1)
    else if c == 120 then
      match twoOf r with
      | some d => if d = 0 then none else some (d, 3)
      | none => none
    else none
  | [] => none

/-- The byte that comes, and how many it takes; or what is wrong with it. -/
def oneS : Str → Except Nat (UInt8 × Nat)
  | [] => .error 0
  | c :: r =>
    if isBad c then .error 1
    else if c = 92 then
      match escOf r with
      | some (d, n) => .ok (d, n + 1)
      | none => .error 13
    else .ok (c, 1)

/-- Inside of quotes: what is taken, how many bytes (the closing quote too). The first argument: fuel. -/
def quotedS (q : UInt8) : Nat → Str → Str → Except Nat (Str × Str)
  | 0, _, _ => .error 0
  | _ + 1, [], _ => .error 13
  | f + 1, c :: r, bs =>
    if c = q then .ok (bs, r)
    else match oneS (c :: r) with
      | .error e => .error e
      | .ok (d, n) => quotedS q f ((c :: r).drop n) (bs ++ [d])

def nextS : Nat → Str → Str → Except Nat (Str × Str)
  | 0, _, _ => .error 0
  | _ + 1, [], bs => .ok (bs, [])
  | f + 1, c :: r, bs =>
    if isBlank c then .ok (bs, c :: r)
    else if isQuote c then
      match quotedS c (r.length + 1) r bs with
      | .error e => .error e
      | .ok (bs', r') => nextS f r' bs'
    else match oneS (c :: r) with
      | .error e => .error e
      | .ok (d, n) => nextS f ((c :: r).drop n) (bs ++ [d])

def beginsS (l : Str) : Nat :=
  match l with
  | [] => 2
  | c :: r => if isQuote c then 2 else match oneS (c :: r) with
    | .error e => e
    | .ok _ => 2

def splitS : Nat → Str → List Str → Except Nat (List Str)
  | 0, _, _ => .error 0
  | f + 1, l, out =>
    match l.dropWhile isBlank with
    | [] => .ok out
    | c :: r =>
      if out.length = 32 then .error (beginsS (c :: r))
      else match nextS (r.length + 2) (c :: r) [] with
        | .error e => .error e
        | .ok (w, r') => splitS f r' (out ++ [w])

/-- words.Split. -/
def split (l : Str) : Except Nat (List Str) := splitS (l.length + 1) l []

def plainB (w : Str) : Bool :=
  match w with
  | [] => false
  | c :: _ => c != 45 && w.all fun c => 32 < c && c < 127 && c != 39 && c != 34 && c != 92

def hexDigit (n : Nat) : UInt8 := if n < 10 then UInt8.ofNat (48 + n) else UInt8.ofNat (87 + n)
def hexByte (c : UInt8) : Str := [hexDigit (c.toNat / 16), hexDigit (c.toNat % 16)]

def quoteByte (c : UInt8) : Str :=
  if c == 34 || c == 92 then [92, c] else if 32 ≤ c && c < 127 then [c] else 92 :: 120 :: hexByte c

def quoteS (w : Str) : Str := 34 :: (w.flatMap quoteByte ++ [34])

def wordS (w : Str) : Str := if plainB w then w else quoteS w

/-- strings.Join by a blank. -/
def joinBy (sep : Str) : List Str → Str
  | [] => []
  | [a] => a
  | a :: b :: r => a ++ sep ++ joinBy sep (b :: r)

/-- words.Join. -/
def join (l : List Str) : Str :=
  if 32 < l.length then [] else if l.any (fun w => w.contains 0) then [] else joinBy [32] (l.map wordS)


/-- A fact on bytes, byte by byte. -/
theorem u8_forall {p : UInt8 → Bool} (h : (List.range 256).all (fun n => p (UInt8.ofNat n)) = true) : ∀ c, p c = true := by
  intro c
  have h' := List.all_eq_true.1 h c.toNat (List.mem_range.2 (UInt8.toNat_lt c))
  rwa [UInt8.ofNat_toNat] at h'

end Go.Proofs.YtcaamakodneplaaGreat

/-
  Package chars: the contract of All.
-/
namespace Go.Proofs.YtcaamakodneplaaGreat
open Go Go.RowKit
set_option linter.unusedVariables false

theorem u8_cast (c : UInt8) : ((c.toNat : Int).toNat.toUInt8) = c := by simp

theorem isBlank_iff (c : UInt8) : isBlank c = decide ((c.toNat : Int) = 32 ∨ (c.toNat : Int) = 9) := by
  rw [Bool.eq_iff_iff]; simp [isBlank, ← UInt8.toNat_inj]; omega
theorem isBad_iff (c : UInt8) : isBad c = decide (((c.toNat : Int) < 32 ∧ (c.toNat : Int) ≠ 9) ∨ (c.toNat : Int) = 127) := by
  rw [Bool.eq_iff_iff]; simp [isBad, ← UInt8.toNat_inj, UInt8.lt_iff_toNat_lt]; omega

theorem bytes_ext {a b : ByteArray} (h : a.data.toList = b.data.toList) : a = b := by
  obtain ⟨⟨a⟩⟩ := a
  obtain ⟨⟨b⟩⟩ := b
  simp at h
  rw [h]
theorem take_snoc (l : List UInt8) (k : Nat) (h : k < l.length) : l.take (k + 1) = l.take k ++ [l[k]] := by
  rw [List.take_succ_eq_append_getElem h]

set_option maxHeartbeats 1000000 in
theorem all_any (s : ByteArray) (f : FuncId) (fr cap : Array Value) (p : UInt8 → Bool) (w : World) (h63 : s.size ≤ 9223372036854775807)
    (HE : ∀ args w, (callFunc f args).run Tryz.prog w = .ok (.enter f args) w)
    (H : ∀ c : UInt8, Calls Tryz.prog f (fr.push (.int .u8 c.toNat) ++ cap) w fun e w' => e = .returned (.bool (p c)) ∧ w = w') :
    Calls Tryz.prog 88 #[.string s, .func (.func f) fr cap] w fun e w' => e = .returned (.bool (s.data.toList.all p)) ∧ w = w' := by
  have HH := Lib.hid H; clear H
  go_enter Tryz.func88, Tryz.ntmps88
  go_wp2
  go_loop [5, 8] (fun _ i => ∃ k : Nat, k ≤ s.size ∧ i = .int .i64 k ∧ Hid ((s.data.toList.take k).all p = true)) (fun _ i => s.size - (intOf i).toNat)
  case atStart => exact ⟨0, Nat.zero_le _, rfl, by simp [Hid]⟩
  case round =>
    obtain ⟨k, hk, rfl, hall⟩ := hrel
    by_cases hlt : k < s.size
    · have hsn := take_snoc s.data.toList k (by simpa using hlt)
      have hgk : s.data.toList[k]'(by simpa using hlt) = s[k] := rfl
      rw [hgk] at hsn
      cases hp : p s[k] with
      | true =>
        have HT := Lib.hid (show (s.data.toList.take (k + 1)).all p = true by rw [hsn, List.all_append, hall.out]; simp [hp])
        have HP := Lib.hid hp
        clear hsn hgk hp
        go_wp2_with (refine (HH.out s[k]).mono ?_; rintro e w' ⟨rfl, rfl⟩; rw [HP.out])
        go_round
        case rel => exact ⟨k + 1, by omega, by go_num, HT⟩
        case measure => simp [intOf]; omega
      | false =>
        have HT := Lib.hid (show s.data.toList.all p = false by
          rw [List.all_eq_false]
          exact ⟨s[k], by rw [← hgk]; exact List.getElem_mem _, by simp [hp]⟩)
        have HP := Lib.hid hp
        clear hsn hgk hp
        go_wp2_with (refine (HH.out s[k]).mono ?_; rintro e w' ⟨rfl, rfl⟩; rw [HP.out])
        go_ret
        exact ⟨ret_bool HT.out.symm, rfl⟩
    · go_wp2
      go_ret
      have : k = s.size := by omega
      subst this
      have := hall.out
      rw [List.take_of_length_le (by simp)] at this
      refine ⟨ret_bool ?_, rfl⟩
      exact this.symm.trans (Array.all_toList )
end Go.Proofs.YtcaamakodneplaaGreat

/-
  Plain functions on lists of bytes: what package lines (Parse, May, Print) computes. No program in sight.
-/
namespace Go.Proofs.YtcaamakodneplaaGreat

def isLetter (c : UInt8) : Bool := (97 ≤ c && c ≤ 122) || (65 ≤ c && c ≤ 90)
def isDigit (c : UInt8) : Bool := 48 ≤ c && c ≤ 57
/-- Without blanks at its ends. -/
def trimS (l : Str) : Str := (l.reverse.dropWhile isBlank).reverse.dropWhile isBlank
def isRemark (l : Str) : Bool := match trimS l with
  | c :: _ => c == 35 || c == 59
  | [] => false
def isVoid (l : Str) : Bool := (trimS l).isEmpty
def goodS (l : Str) : Bool := l.all fun c => !isBad c
def sectB (l : Str) : Bool := !l.isEmpty && decide (l.length ≤ 20) && l.all isLetter
def keyB (l : Str) : Bool := !l.isEmpty && decide (l.length ≤ 40) && l.all fun c => isLetter c || isDigit c

/-- The rows of a text: what stands between bytes 10. -/
def rowsS : Str → List Str
  | [] => [[]]
  | c :: r => if c == 10 then [] :: rowsS r else match rowsS r with
    | [] => [[c]]
    | x :: xs => (c :: x) :: xs

/-- Does it end in a backslash? -/
def goesOn (s : Str) : Bool := s.getLast? == some 92

/-- A line with those that it goes on with; what is left; how many were read. -/
def joinS : Str → List Str → Nat → Str × List Str × Nat
  | s, [], n => if goesOn s then (s.dropLast ++ [32], [], n) else (s, [], n)
  | s, x :: r, n => if goesOn s then (if isRemark x then joinS s r (n + 1) else joinS (s.dropLast ++ [32] ++ x) r (n + 1)) else (s, x :: r, n)

/-- All whole lines, with their numbers. The first argument: fuel. -/
def wholesS : Nat → List Str → Nat → List (Str × Nat)
  | 0, _, _ => []
  | _ + 1, [], _ => []
  | f + 1, x :: r, n =>
    if isRemark x || isVoid x then wholesS f r (n + 1)
    else ((joinS x r (n + 1)).1, n + 1) :: wholesS f (joinS x r (n + 1)).2.1 (joinS x r (n + 1)).2.2

inductive Says where
  | err (c : Nat)
  | nothing
  | sect (name : Str)
  | pair (k v : Str)

/-- What stands ahead of the first = and behind it. -/
def cutEq : Str → Option (Str × Str)
  | [] => none
  | c :: r => if c == 61 then some ([], r) else match cutEq r with
    | some (a, b) => some (c :: a, b)
    | none => none

/-- What one whole line says; sec: the section. -/
def saysS (sec s : Str) : Says :=
  if goodS s then
    if s.length ≤ 400 then
      match trimS s with
      | [] => .nothing
      | c :: t =>
        if c == 91 then
          (if t.getLast? == some 93 && sectB t.dropLast then .sect t.dropLast else .err 10)
        else match cutEq (c :: t) with
          | none => .err 9
          | some (k, v) => if keyB (trimS k) then (if sec.isEmpty then .err 10 else .pair (trimS k) (trimS v)) else .err 9
    else .err 2
  else .err 1

structure Ln where
  sec : Str
  key : Str
  val : Str
  at_ : Int
deriving DecidableEq

/-- Whole lines taken in: the lines that they are, or what is wrong first, and where. -/
def readS : List (Str × Nat) → Str → List Ln → Except (Nat × Nat) (List Ln)
  | [], _, out => .ok out
  | (s, n) :: r, sec, out => match saysS sec s with
    | .err c => .error (c, n)
    | .nothing => readS r sec out
    | .sect name => readS r name out
    | .pair k v => readS r sec (out ++ [⟨sec, k, v, (n : Int)⟩])

def parseR (rows : List Str) : Except (Nat × Nat) (List Ln) := readS (wholesS (rows.length + 1) rows 0) [] []
def parseS (t : Str) : Except (Nat × Nat) (List Ln) := if t.length ≤ 20000 then parseR (rowsS t) else .error (2, 0)

/-- May a line be written? -/
def mayLn (l : Ln) : Bool := sectB l.sec && keyB l.key && goodS l.val && (trimS l.val == l.val) && !goesOn l.val && decide (l.key.length + 1 + l.val.length ≤ 400)

def headS (sec : Str) : Str := 91 :: sec ++ [93, 10]
def pairS (l : Ln) : Str := l.key ++ 61 :: l.val ++ [10]
/-- Lines as they are written, behind one of the section sec (none: at the beginning). -/
def textS : Option Str → List Ln → Str
  | _, [] => []
  | none, l :: r => headS l.sec ++ pairS l ++ textS (some l.sec) r
  | some s, l :: r => (if l.sec = s then [] else 10 :: headS l.sec) ++ pairS l ++ textS (some l.sec) r
def writeS (l : List Ln) : Str := textS none l
def mayS (l : List Ln) : Bool := l.all mayLn && decide ((writeS l).length ≤ 20000)
def printS (l : List Ln) : Str := if mayS l then writeS l else []
/-- Alike, but for numbers. -/
def sameLn (a b : Ln) : Prop := a.sec = b.sec ∧ a.key = b.key ∧ a.val = b.val
end Go.Proofs.YtcaamakodneplaaGreat

/-
  Package chars: Letter, Digit, All at a function value, Any.
-/
namespace Go.Proofs.YtcaamakodneplaaGreat
open Go Go.RowKit
set_option linter.unusedVariables false
set_option maxRecDepth 100000

theorem isLetter_iff (c : UInt8) : isLetter c = decide ((97 ≤ (c.toNat : Int) ∧ (c.toNat : Int) ≤ 122) ∨ (65 ≤ (c.toNat : Int) ∧ (c.toNat : Int) ≤ 90)) := by
  rw [Bool.eq_iff_iff]; simp [isLetter, UInt8.le_iff_toNat_le]; omega
theorem isDigit_iff (c : UInt8) : isDigit c = decide (48 ≤ (c.toNat : Int) ∧ (c.toNat : Int) ≤ 57) := by
  rw [Bool.eq_iff_iff]; simp [isDigit, UInt8.le_iff_toNat_le]; omega

set_option maxHeartbeats 400000 in
theorem letter_any (c : UInt8) (w : World) :
    Calls Tryz.prog 90 #[.int .u8 c.toNat] w fun e w' => e = .returned (.bool (isLetter c)) ∧ w = w' := by
  go_enter Tryz.func90, Tryz.ntmps90
  go_wp2
  all_goals
    go_ret
    refine ⟨ret_bool ?_, rfl⟩
    rw [isLetter_iff, Bool.eq_iff_iff]
    simp
    omega
set_option maxHeartbeats 400000 in
theorem digit_any (c : UInt8) (w : World) :
    Calls Tryz.prog 91 #[.int .u8 c.toNat] w fun e w' => e = .returned (.bool (isDigit c)) ∧ w = w' := by
  go_enter Tryz.func91, Tryz.ntmps91
  go_wp2
  all_goals
    go_ret
    refine ⟨ret_bool ?_, rfl⟩
    rw [isDigit_iff, Bool.eq_iff_iff]
    simp
    omega
theorem enters_letter (args : Array Value) (w : World) : (callFunc 90 args).run Tryz.prog w = .ok (.enter 90 args) w := enters_of Tryz.func90 (by kernel_rfl) rfl args w
theorem enters_digit (args : Array Value) (w : World) : (callFunc 91 args).run Tryz.prog w = .ok (.enter 91 args) w := enters_of Tryz.func91 (by kernel_rfl) rfl args w
theorem enters_any1 (args : Array Value) (w : World) : (callFunc 121 args).run Tryz.prog w = .ok (.enter 121 args) w := enters_of Tryz.func121 (by kernel_rfl) rfl args w


theorem all_b (s : ByteArray) (f : FuncId) (fr cap : Array Value) (p : UInt8 → Bool) (b : Bool) (w : World) (h63 : s.size ≤ 9223372036854775807)
    (HE : ∀ args w, (callFunc f args).run Tryz.prog w = .ok (.enter f args) w)
    (H : ∀ c : UInt8, Calls Tryz.prog f (fr.push (.int .u8 c.toNat) ++ cap) w fun e w' => e = .returned (.bool (p c)) ∧ w = w') (hb : s.data.toList.all p = b) :
    Calls Tryz.prog 88 #[.string s, .func (.func f) fr cap] w fun e w' => e = .returned (.bool b) ∧ w = w' := by
  refine (all_any s f fr cap p w h63 HE H).mono ?_
  rintro e w' ⟨rfl, rfl⟩
  exact ⟨by rw [hb], rfl⟩

/-- One of some function values on bytes, that lies in a cell. -/
def Asks (w : World) (v : Value) (p : UInt8 → Bool) : Prop :=
  ∃ f fr cap, v = .func (.func f) fr cap ∧ (∀ args w, (callFunc f args).run Tryz.prog w = .ok (.enter f args) w) ∧
    ∀ c : UInt8, Calls Tryz.prog f (fr.push (.int .u8 c.toNat) ++ cap) w fun e w' => e = .returned (.bool (p c)) ∧ w = w'

set_option maxHeartbeats 1000000 in
/-- The closure that Any gives, at a variable that holds a slice of such. -/
theorem any1_any (c : UInt8) (bl bs : Nat) (cap : Nat) (ps : List (UInt8 → Bool)) (w : World) (hl : w.cell? ⟨bl, 0, none⟩ = some (.slice (some ⟨bs, 0, none⟩) ps.length cap)) (hn : ps.length ≤ 1000)
    (hc : ∀ i (h : i < ps.length), ∃ v, w.cell? ⟨bs, i, none⟩ = some v ∧ Asks w v ps[i]) :
    Calls Tryz.prog 121 #[.int .u8 c.toNat, .pointer (some ⟨bl, 0, none⟩)] w fun e w' => e = .returned (.bool (ps.any fun p => p c)) ∧ w = w' := by
  have HC := Lib.hid hc; clear hc
  go_enter Tryz.func121, Tryz.ntmps121
  go_wp2
  go_loop [5, 8] (fun _ i => ∃ k : Nat, k ≤ ps.length ∧ i = .int .i64 k ∧ Hid ((ps.take k).any (fun p => p c) = false)) (fun _ i => ps.length - (intOf i).toNat)
  case atStart => exact ⟨0, Nat.zero_le _, rfl, rfl⟩
  case round =>
    obtain ⟨k, hk, rfl, hall⟩ := hrel
    by_cases hlt : k < ps.length
    · obtain ⟨v, hv, f, fr, cp, rfl, hE, hA⟩ := HC.out k hlt
      have HA := Lib.hid (hA c); clear hA
      cases hp : ps[k] c with
      | true =>
        have HT := Lib.hid (show ps.any (fun p => p c) = true by rw [List.any_eq_true]; exact ⟨ps[k], List.getElem_mem _, hp⟩)
        have HP := Lib.hid hp; clear hp
        go_wp2_with (refine HA.out.mono ?_; rintro e w' ⟨rfl, rfl⟩; rw [HP.out])
        go_ret
        exact ⟨ret_bool HT.out.symm, rfl⟩
      | false =>
        have HT := Lib.hid (show (ps.take (k + 1)).any (fun p => p c) = false by rw [List.take_succ_eq_append_getElem hlt, List.any_append, hall.out]; simp [hp])
        have HP := Lib.hid hp; clear hp
        go_wp2_with (refine HA.out.mono ?_; rintro e w' ⟨rfl, rfl⟩; rw [HP.out])
        go_round
        case rel => exact ⟨k + 1, by omega, by go_num, HT⟩
        case measure => simp [intOf]; omega
    · go_wp2
      go_ret
      have : k = ps.length := by omega
      subst this
      have := hall.out
      rw [List.take_length] at this
      exact ⟨ret_bool this.symm, rfl⟩

set_option maxHeartbeats 400000 in
theorem any_any (oa : Option Addr) (n cap : Nat) (w : World) :
    Calls Tryz.prog 89 #[.slice oa n cap] w fun e w' => e = .returned (.func (.func 121) #[] #[.pointer (some ⟨w.heap.size, 0, none⟩)]) ∧ w' = w.alloc (.cells #[.slice oa n cap] 147) := by
  go_enter Tryz.func89, Tryz.ntmps89
  go_wp2
  go_ret
  exact ⟨rfl, rfl⟩

end Go.Proofs.YtcaamakodneplaaGreat

/-
  Plain functions and laws: what package name (cut, plain, Suffix, Kind, Change) computes. No program in sight.
-/
namespace Go.Proofs.YtcaamakodneplaaGreat
set_option linter.unusedVariables false

/-- What stands ahead of the last point, and behind it. -/
def lastPt : Str → Option (Str × Str)
  | [] => none
  | c :: r => match lastPt r with
    | some (a, b) => some (c :: a, b)
    | none => if c == 46 then some ([], r) else none
def cutPt (s : Str) : Str × Str := (lastPt s).getD ([], [])
/-- What stands ahead of the first @ and behind it. -/
def cutAt : Str → Str × Str × Bool
  | [] => ([], [], false)
  | c :: r => if c == 64 then ([], r, true) else (c :: (cutAt r).1, (cutAt r).2.1, (cutAt r).2.2)
def nameC (c : UInt8) : Bool := isLetter c || (isDigit c || ([58, 45, 95, 46, 92] : Str).contains c)
def nameB (s : Str) : Bool := s.all nameC
abbrev sService : Str := [115, 101, 114, 118, 105, 99, 101]
abbrev sSocket : Str := [115, 111, 99, 107, 101, 116]
abbrev sTimer : Str := [116, 105, 109, 101, 114]
abbrev sTarget : Str := [116, 97, 114, 103, 101, 116]
def sufS (k : Nat) : Str := if k = 1 then sService else if k = 2 then sSocket else if k = 3 then sTimer else if k = 4 then sTarget else []
/-- The kind whose suffix that is, from k on; 0. -/
def kindOf (suf : Str) : Nat := if suf = sService then 1 else if suf = sSocket then 2 else if suf = sTimer then 3 else if suf = sTarget then 4 else 0
def kindS (s : Str) : Nat :=
  if s.length ≤ 60 ∧ (cutAt (cutPt s).1).1 ≠ [] ∧ nameB (cutAt (cutPt s).1).1 = true ∧ nameB (cutAt (cutPt s).1).2.1 = true then kindOf (cutPt s).2 else 0
/-- A name with another kind's suffix. -/
def changeS (s : Str) (k : Nat) : Str :=
  if kindS s ≠ 0 ∧ kindS ((cutPt s).1 ++ 46 :: sufS k) ≠ 0 then (cutPt s).1 ++ 46 :: sufS k else []

theorem lastPt_no {s : Str} (h : s.contains 46 = false) : lastPt s = none := by
  induction s with
  | nil => rfl
  | cons c r ih =>
    rw [List.contains_cons, Bool.or_eq_false_iff] at h
    have hc : (c == 46) = false := by
      rw [beq_eq_false_iff_ne]; intro e; subst e; simp at h
    simp [lastPt, ih h.2, hc]
theorem lastPt_app (a : Str) {b : Str} (h : b.contains 46 = false) : lastPt (a ++ 46 :: b) = some (a, b) := by
  induction a with
  | nil => simp [lastPt, lastPt_no h]
  | cons c r ih => simp [lastPt, ih]
theorem lastPt_cases (s : Str) : (lastPt s = none ∧ s.contains 46 = false) ∨ ∃ a b, lastPt s = some (a, b) ∧ s = a ++ 46 :: b ∧ b.contains 46 = false := by
  induction s with
  | nil => exact .inl ⟨rfl, rfl⟩
  | cons c r ih =>
    rcases ih with ⟨h1, h2⟩ | ⟨a, b, h1, h2, h3⟩
    · cases hc : (c == 46) with
      | true =>
        have := eq_of_beq hc
        subst this
        exact .inr ⟨[], r, by simp [lastPt, h1], rfl, h2⟩
      | false =>
        refine .inl ⟨by simp [lastPt, h1, hc], ?_⟩
        rw [List.contains_cons, h2, Bool.or_false, beq_eq_false_iff_ne]
        rw [beq_eq_false_iff_ne] at hc
        exact fun e => hc e.symm
    · exact .inr ⟨c :: a, b, by simp [lastPt, h1], by rw [h2]; rfl, h3⟩
theorem kindOf_le (s : Str) : kindOf s ≤ 4 := by
  unfold kindOf; repeat' split <;> first | omega | skip
theorem kindS_le (s : Str) : kindS s ≤ 4 := by
  unfold kindS; split
  · exact kindOf_le _
  · omega
theorem cutPt_len (s : Str) : (cutPt s).1.length ≤ s.length ∧ (cutPt s).2.length ≤ s.length := by
  unfold cutPt
  rcases lastPt_cases s with ⟨h, _⟩ | ⟨a, b, h, h2, _⟩
  · rw [h]; simp
  · rw [h, h2]; simp; omega
theorem cutAt_len : ∀ (s : Str), (cutAt s).1.length ≤ s.length ∧ (cutAt s).2.1.length ≤ s.length
  | [] => by simp [cutAt]
  | c :: r => by
    have := cutAt_len r
    unfold cutAt
    split <;> simp <;> omega
end Go.Proofs.YtcaamakodneplaaGreat

/-
  Plain laws: rows that rise, each element once. No program in sight.
-/
namespace Go.Proofs.YtcaamakodneplaaGreat
set_option linter.unusedVariables false

/-- A whole strict order. -/
structure STO {α : Type} (lt : α → α → Bool) : Prop where
  irrefl : ∀ a, lt a a = false
  trans : ∀ a b c, lt a b = true → lt b c = true → lt a c = true
  tri : ∀ a b, lt a b = false → lt b a = false → a = b

theorem STO.asymm {α : Type} {lt : α → α → Bool} (h : STO lt) {a b : α} (hab : lt a b = true) : lt b a = false := by
  cases hba : lt b a with
  | false => rfl
  | true => have := h.trans a b a hab hba; rw [h.irrefl] at this; cases this

/-- An element into its place, once. -/
def insL {α : Type} (lt : α → α → Bool) (e : α) : List α → List α
  | [] => [e]
  | x :: r => if lt x e then x :: insL lt e r else if lt e x then e :: x :: r else x :: r
def sortL {α : Type} (lt : α → α → Bool) (l : List α) : List α := l.foldl (fun acc e => insL lt e acc) []
def Rises {α : Type} (lt : α → α → Bool) (l : List α) : Prop := l.Pairwise fun a b => lt a b = true

theorem mem_insL {α : Type} {lt : α → α → Bool} (h : STO lt) (e y : α) (l : List α) : y ∈ insL lt e l ↔ y = e ∨ y ∈ l := by
  induction l with
  | nil => simp [insL]
  | cons x r ih =>
    unfold insL
    cases h1 : lt x e with
    | true => simp [ih]; constructor <;> rintro (h | h | h) <;> simp [h]
    | false =>
      cases h2 : lt e x with
      | true => simp
      | false =>
        have := h.tri _ _ h1 h2
        subst this
        simp
theorem rises_insL {α : Type} {lt : α → α → Bool} (h : STO lt) (e : α) (l : List α) (hl : Rises lt l) : Rises lt (insL lt e l) := by
  induction l with
  | nil => simp [insL, Rises]
  | cons x r ih =>
    obtain ⟨hx, hr⟩ := List.pairwise_cons.1 hl
    unfold insL
    cases h1 : lt x e with
    | true =>
      simp only [if_true]
      refine List.pairwise_cons.2 ⟨fun y hy => ?_, ih hr⟩
      rcases (mem_insL h e y r).1 hy with rfl | hy
      · exact h1
      · exact hx y hy
    | false =>
      cases h2 : lt e x with
      | true =>
        simp only [Bool.false_eq_true, if_false, if_true]
        refine List.pairwise_cons.2 ⟨fun y hy => ?_, hl⟩
        rcases List.mem_cons.1 hy with rfl | hy
        · exact h2
        · exact h.trans _ _ _ h2 (hx y hy)
      | false => simpa using hl
theorem foldl_insL {α : Type} {lt : α → α → Bool} (h : STO lt) (l acc : List α) (ha : Rises lt acc) :
    Rises lt (l.foldl (fun acc e => insL lt e acc) acc) ∧ ∀ y, y ∈ l.foldl (fun acc e => insL lt e acc) acc ↔ y ∈ l ∨ y ∈ acc := by
  induction l generalizing acc with
  | nil => exact ⟨ha, fun y => by simp⟩
  | cons x r ih =>
    obtain ⟨h1, h2⟩ := ih (insL lt x acc) (rises_insL h x acc ha)
    refine ⟨h1, fun y => ?_⟩
    rw [List.foldl_cons, h2, mem_insL h, List.mem_cons]
    constructor
    · rintro (a | a | a) <;> simp [a]
    · rintro ((a | a) | a) <;> simp [a]
theorem rises_sortL {α : Type} {lt : α → α → Bool} (h : STO lt) (l : List α) : Rises lt (sortL lt l) := (foldl_insL h l [] List.Pairwise.nil).1
theorem mem_sortL {α : Type} {lt : α → α → Bool} (h : STO lt) (l : List α) (y : α) : y ∈ sortL lt l ↔ y ∈ l := by
  rw [sortL, (foldl_insL h l [] List.Pairwise.nil).2]; simp
theorem rises_ext {α : Type} {lt : α → α → Bool} (h : STO lt) : ∀ {a b : List α}, Rises lt a → Rises lt b → (∀ y, y ∈ a ↔ y ∈ b) → a = b
  | [], [], _, _, _ => rfl
  | [], y :: b, _, _, hm => by have := (hm y).2 (by simp); simp at this
  | x :: a, [], _, _, hm => by have := (hm x).1 (by simp); simp at this
  | x :: a, y :: b, ha, hb, hm => by
    obtain ⟨hx, ha'⟩ := List.pairwise_cons.1 ha
    obtain ⟨hy, hb'⟩ := List.pairwise_cons.1 hb
    have e : x = y := by
      rcases List.mem_cons.1 ((hm x).1 (by simp)) with e | h1
      · exact e
      rcases List.mem_cons.1 ((hm y).2 (by simp)) with e | h2
      · exact e.symm
      have := h.asymm (hx y h2)
      rw [hy x h1] at this; cases this
    subst e
    congr 1
    refine rises_ext h ha' hb' fun z => ?_
    have hz := hm z
    simp only [List.mem_cons] at hz
    constructor
    · intro h1
      rcases hz.1 (.inr h1) with rfl | h2
      · have := hx _ h1; rw [h.irrefl] at this; cases this
      · exact h2
    · intro h1
      rcases hz.2 (.inr h1) with rfl | h2
      · have := hy _ h1; rw [h.irrefl] at this; cases this
      · exact h2
theorem sortL_congr {α : Type} {lt : α → α → Bool} (h : STO lt) {a b : List α} (hm : ∀ y, y ∈ a ↔ y ∈ b) : sortL lt a = sortL lt b :=
  rises_ext h (rises_sortL h a) (rises_sortL h b) fun y => by rw [mem_sortL h, mem_sortL h, hm]
theorem sortL_of_rises {α : Type} {lt : α → α → Bool} (h : STO lt) {a : List α} (ha : Rises lt a) : sortL lt a = a :=
  rises_ext h (rises_sortL h a) ha fun y => mem_sortL h a y
theorem sortL_eq {α : Type} {lt : α → α → Bool} (h : STO lt) {a b : List α} (ha : Rises lt a) (hm : ∀ y, y ∈ a ↔ y ∈ b) : a = sortL lt b :=
  rises_ext h ha (rises_sortL h b) fun y => by rw [mem_sortL h, hm]
theorem rises_nodup {α : Type} {lt : α → α → Bool} (h : STO lt) {a : List α} (ha : Rises lt a) : a.Nodup :=
  ha.imp fun {x y} hxy e => by subst e; rw [h.irrefl] at hxy; cases hxy
/-- What a sort that is asked for 'not less' gives, of a row without repeats. -/
theorem mergeSort_sortL {α : Type} {lt : α → α → Bool} (h : STO lt) (l : List α) (hn : l.Nodup) : l.mergeSort (fun x y => !lt y x) = sortL lt l := by
  have hp := List.mergeSort_perm l (fun x y => !lt y x)
  refine sortL_eq h ?_ (fun y => hp.mem_iff)
  have hs : (l.mergeSort (fun x y => !lt y x)).Pairwise fun x y => (!lt y x) = true := List.pairwise_mergeSort (le := fun x y => !lt y x)
    (fun a b c hab hbc => by
      simp only [Bool.not_eq_true'] at *
      cases hca : lt c a with
      | false => rfl
      | true =>
        cases hcb : lt c b with
        | true => rw [hcb] at hbc; cases hbc
        | false =>
          cases hbc' : lt b c with
          | true => have := h.trans _ _ _ hbc' hca; rw [this] at hab; cases hab
          | false => have := h.tri _ _ hcb hbc'; subst this; rw [hca] at hab; cases hab)
    (fun a b => by
      cases hba : lt b a with
      | false => simp
      | true => simp [h.asymm hba]) l
  have hnd : (l.mergeSort (fun x y => !lt y x)).Nodup := hp.nodup_iff.2 hn
  refine (hs.and hnd).imp fun {x y} ⟨h1, h2⟩ => ?_
  cases hxy : lt x y with
  | true => rfl
  | false => exact absurd (h.tri _ _ hxy (by simpa using h1)) h2

/-- Texts by their bytes. -/
abbrev ltS (a b : Str) : Bool := Go.Op.bytesLess a b
theorem ltS_irrefl : ∀ a : Str, ltS a a = false
  | [] => rfl
  | a :: x => by simp [ltS, Go.Op.bytesLess]; exact ltS_irrefl x
theorem ltS_cons (a b : UInt8) (x y : Str) : ltS (a :: x) (b :: y) = (decide (a < b) || (a == b && ltS x y)) := rfl
theorem ltS_trans : ∀ a b c : Str, ltS a b = true → ltS b c = true → ltS a c = true
  | _, _, [], _, h => by cases ‹Str› <;> simp [ltS, Go.Op.bytesLess] at h
  | _, [], _ :: _, h, _ => by cases ‹Str› <;> simp [ltS, Go.Op.bytesLess] at h
  | [], _ :: _, _ :: _, _, _ => rfl
  | a :: x, b :: y, c :: z, h1, h2 => by
    rw [ltS_cons] at *
    simp only [Bool.or_eq_true, decide_eq_true_eq, Bool.and_eq_true, beq_iff_eq] at *
    rcases h1 with h1 | ⟨rfl, h1⟩
    · rcases h2 with h2 | ⟨rfl, h2⟩
      · exact .inl (UInt8.lt_trans h1 h2)
      · exact .inl h1
    · rcases h2 with h2 | ⟨rfl, h2⟩
      · exact .inl h2
      · exact .inr ⟨rfl, ltS_trans x y z h1 h2⟩
theorem ltS_tri : ∀ a b : Str, ltS a b = false → ltS b a = false → a = b
  | [], [], _, _ => rfl
  | [], _ :: _, h, _ => by simp [ltS, Go.Op.bytesLess] at h
  | _ :: _, [], _, h => by simp [ltS, Go.Op.bytesLess] at h
  | a :: x, b :: y, h1, h2 => by
    rw [ltS_cons] at *
    simp only [Bool.or_eq_false_iff, decide_eq_false_iff_not, Bool.and_eq_false_iff, beq_eq_false_iff_ne] at *
    have e : a = b := by
      rw [← UInt8.toNat_inj]
      have := h1.1; have := h2.1
      rw [UInt8.lt_iff_toNat_lt] at *
      omega
    subst e
    rw [ltS_tri x y (h1.2.resolve_left fun h => h rfl) (h2.2.resolve_left fun h => h rfl)]
theorem stoS : STO ltS := ⟨ltS_irrefl, ltS_trans, ltS_tri⟩
/-- An order by what each element is called. -/
theorem STO.lex {α β : Type} {f : α → β} {lt : β → β → Bool} [DecidableEq β] {lt2 : α → α → Bool} (h : STO lt)
    (hi : ∀ a, lt2 a a = false) (ht : ∀ a b c, f a = f b → f b = f c → lt2 a b = true → lt2 b c = true → lt2 a c = true) (h3 : ∀ a b, f a = f b → lt2 a b = false → lt2 b a = false → a = b) :
    STO fun a b => if f a = f b then lt2 a b else lt (f a) (f b) where
  irrefl a := by simp [hi]
  trans a b c h1 h2 := by
    by_cases e1 : f a = f b
    · rw [if_pos e1] at h1
      by_cases e2 : f b = f c
      · rw [if_pos e2] at h2; rw [if_pos (e1.trans e2)]; exact ht a b c e1 e2 h1 h2
      · rw [if_neg e2] at h2; rw [if_neg (fun e => e2 (e1 ▸ e)), e1]; exact h2
    · rw [if_neg e1] at h1
      by_cases e2 : f b = f c
      · rw [if_neg (fun e => e1 (e.trans e2.symm)), ← e2]; exact h1
      · rw [if_neg e2] at h2
        have := h.trans _ _ _ h1 h2
        rw [if_neg (fun e => by rw [e, h.irrefl] at this; cases this)]; exact this
  tri a b h1 h2 := by
    by_cases e1 : f a = f b
    · rw [if_pos e1] at h1; rw [if_pos e1.symm] at h2; exact h3 a b e1 h1 h2
    · rw [if_neg e1] at h1; rw [if_neg (fun e => e1 e.symm)] at h2; exact absurd (h.tri _ _ h1 h2) e1
end Go.Proofs.YtcaamakodneplaaGreat

/-
  Plain functions: what package graph computes. No program in sight.
-/
namespace Go.Proofs.YtcaamakodneplaaGreat
set_option linter.unusedVariables false

structure EdgeS where
  src : Str
  dst : Str
  rel : Int
deriving DecidableEq
structure NodeS where
  name : Str
  kind : Int
  state : Int
deriving DecidableEq
structure RelS where
  kind : Int
  name : Str
deriving DecidableEq
/-- Of a loaded unit what a graph hangs on. -/
structure LdS where
  name : Str
  state : Int
  uname : Str
  ukind : Int
  dflt : Bool
  rels : List RelS
  socks : List Str
  unit : Str
  wants : List Str
  reqs : List Str
deriving DecidableEq

def ltE (a b : EdgeS) : Bool := if a.src = b.src then (if a.dst = b.dst then decide (a.rel < b.rel) else ltS a.dst b.dst) else ltS a.src b.src
def ltN (a b : NodeS) : Bool := ltS a.name b.name
theorem stoE : STO ltE := by
  refine stoS.lex (f := EdgeS.src) (lt2 := fun a b => if a.dst = b.dst then decide (a.rel < b.rel) else ltS a.dst b.dst) ?_ ?_ ?_
  · intro a; simp
  · intro a b c h1 h2 h3 h4
    by_cases e1 : a.dst = b.dst
    · rw [if_pos e1] at h3
      by_cases e2 : b.dst = c.dst
      · rw [if_pos e2] at h4; rw [if_pos (e1.trans e2)]; simp at *; omega
      · rw [if_neg e2] at h4; rw [if_neg (fun e => e2 (e1 ▸ e)), e1]; exact h4
    · rw [if_neg e1] at h3
      by_cases e2 : b.dst = c.dst
      · rw [if_neg (fun e => e1 (e.trans e2.symm)), ← e2]; exact h3
      · rw [if_neg e2] at h4
        have := ltS_trans _ _ _ h3 h4
        rw [if_neg (fun e => by rw [e, ltS_irrefl] at this; cases this)]; exact this
  · intro a b h1 h2 h3
    by_cases e1 : a.dst = b.dst
    · rw [if_pos e1] at h2; rw [if_pos e1.symm] at h3
      obtain ⟨a1, a2, a3⟩ := a
      obtain ⟨b1, b2, b3⟩ := b
      simp at *
      exact ⟨h1, e1, by omega⟩
    · rw [if_neg e1] at h2; rw [if_neg (fun e => e1 e.symm)] at h3
      exact absurd (ltS_tri _ _ h2 h3) e1
theorem ltE_eq (a b : EdgeS) : ltE a b = if a.src = b.src then (if a.dst = b.dst then decide (a.rel < b.rel) else ltS a.dst b.dst) else ltS a.src b.src := rfl

/-- A text's order as a number. -/
def cmpS (a b : Str) : Int := if ltS a b then -1 else if ltS b a then 1 else 0
def cmpI (a b : Int) : Int := if a < b then -1 else if b < a then 1 else 0
def cmpE (a b : EdgeS) : Int := if cmpS a.src b.src ≠ 0 then cmpS a.src b.src else if cmpS a.dst b.dst ≠ 0 then cmpS a.dst b.dst else cmpI a.rel b.rel
def cmpN (a b : NodeS) : Int := cmpS a.name b.name
theorem cmpS_lt (a b : Str) : decide (cmpS a b < 0) = ltS a b := by
  unfold cmpS
  cases h : ltS a b with
  | true => simp
  | false => cases h2 : ltS b a <;> simp
theorem cmpS_zero (a b : Str) : cmpS a b = 0 ↔ a = b := by
  unfold cmpS
  cases h : ltS a b with
  | true => simp; rintro rfl; rw [ltS_irrefl] at h; cases h
  | false =>
    cases h2 : ltS b a with
    | true => simp; rintro rfl; rw [ltS_irrefl] at h2; cases h2
    | false => simp; exact ltS_tri _ _ h h2
theorem cmpE_lt (a b : EdgeS) : decide (cmpE a b < 0) = ltE a b := by
  unfold cmpE ltE
  by_cases h1 : a.src = b.src
  · rw [if_neg (by simpa using (cmpS_zero _ _).2 h1), if_pos h1]
    by_cases h2 : a.dst = b.dst
    · rw [if_neg (by simpa using (cmpS_zero _ _).2 h2), if_pos h2]
      unfold cmpI
      by_cases h3 : a.rel < b.rel
      · simp [h3]
      · by_cases h4 : b.rel < a.rel <;> simp [h3, h4]
    · rw [if_pos (fun e => h2 ((cmpS_zero _ _).1 e)), if_neg h2, cmpS_lt]
  · rw [if_pos (fun e => h1 ((cmpS_zero _ _).1 e)), if_neg h1, cmpS_lt]
theorem cmpN_lt (a b : NodeS) : decide (cmpN a b < 0) = ltN a b := cmpS_lt _ _

/-- Does each stand behind the one ahead? -/
def risesB {α : Type} (lt : α → α → Bool) : List α → Bool
  | a :: b :: r => lt a b && risesB lt (b :: r)
  | _ => true
def mayNodeS (n : NodeS) : Bool := kindS n.name != 0 && (n.kind == (kindS n.name : Int) && (decide (1 ≤ n.state) && decide (n.state ≤ 4)))
def nodeOf (ns : List NodeS) (s : Str) : Option NodeS := ns.find? fun n => n.name == s
def mayEdgeS (ns : List NodeS) (e : EdgeS) : Bool :=
  match nodeOf ns e.src with
  | some a => (nodeOf ns e.dst).isSome && (e.src != e.dst && (a.state == 1 && (decide (1 ≤ e.rel) && decide (e.rel ≤ 10))))
  | none => false
def mayG (ns : List NodeS) (es : List EdgeS) : Bool :=
  decide (ns.length ≤ 64) && (risesB ltN ns && (risesB ltE es && (ns.all mayNodeS && es.all (mayEdgeS ns))))
def outS (es : List EdgeS) (s : Str) (rel : Int) : List Str := sortL ltS ((es.filter fun e => e.src == s && e.rel == rel).map (·.dst))
def inS (es : List EdgeS) (s : Str) (rel : Int) : List Str := sortL ltS ((es.filter fun e => e.dst == s && e.rel == rel).map (·.src))

/-- Of a unit whom it begins. -/
def wakesU (k : Int) (name unit : Str) : Str := if k = 2 ∨ k = 3 then (if unit ≠ [] then unit else changeS name 1) else []
def wakesS (x : LdS) : Str := wakesU (kindS x.name) x.name x.unit

/-- The first of each name that may be. -/
def firstsR : List LdS → List LdS → List LdS
  | [], acc => acc
  | x :: r, acc => if acc.any (fun y => y.name == x.name) || kindS x.name == 0 then firstsR r acc else firstsR r (acc ++ [x])
def adjS (x : LdS) : LdS := { x with state := if x.state < 1 ∨ 4 < x.state then 4 else x.state }
def firstsS (l : List LdS) : List LdS := (firstsR l []).map adjS
def nodeS (x : LdS) : NodeS := ⟨x.name, kindS x.name, x.state⟩
def namesS (l : List LdS) : List Str := (sortL ltS ((firstsS l).map (·.name))).take 64
/-- The table that is kept: by rising names, 64 at most. -/
def tableS (l : List LdS) : List LdS := (namesS l).filterMap fun n => (firstsS l).find? fun x => x.name == n
def lookS (t : List LdS) (s : Str) : Option LdS := t.find? fun x => x.name == s
def putS (t : List LdS) (src dst : Str) (rels : List Int) : List EdgeS :=
  if (lookS t dst).isSome ∧ src ≠ dst then rels.map fun r => ⟨src, dst, r⟩ else []
def hasS (t : List LdS) (whose : Str) (rel : Int) (to : Str) : Bool :=
  match lookS t whose with
  | some x => x.state == 1 && x.rels.contains ⟨rel, to⟩
  | none => false
def saidS (t : List LdS) (x : LdS) : List EdgeS :=
  (x.rels.flatMap fun r => if 1 ≤ r.kind ∧ r.kind ≤ 9 then putS t x.name r.name [r.kind] else []) ++
  ((x.wants.flatMap fun s => putS t x.name s [2]) ++
  ((x.reqs.flatMap fun s => putS t x.name s [1]) ++
  ((if wakesS x ≠ [] then putS t x.name (wakesS x) [10, 7] else []) ++
  (if kindS x.name = 1 then x.socks.flatMap fun s => putS t x.name s [2, 8] else []))))
def someS (x : LdS) : List Str := x.wants ++ x.reqs ++ ((x.rels.filter fun r => r.kind == 1 || r.kind == 2).map (·.name))
def gathersS (t : List LdS) (x : LdS) : List EdgeS :=
  (someS x).flatMap fun s => if hasS t s 8 x.name then [] else putS t x.name s [8]
abbrev sFirst : Str := [115, 121, 115, 105, 110, 105, 116, 46, 116, 97, 114, 103, 101, 116]
abbrev sLast : Str := [115, 104, 117, 116, 100, 111, 119, 110, 46, 116, 97, 114, 103, 101, 116]
def standardS (t : List LdS) (x : LdS) : List EdgeS :=
  if kindS x.name = 4 then gathersS t x
  else (if kindS x.name = 1 then putS t x.name sFirst [1] else []) ++ (putS t x.name sFirst [8] ++ putS t x.name sLast [6, 7])
def ownS (t : List LdS) (x : LdS) : List EdgeS :=
  if x.state = 1 then saidS t x ++ (if x.dflt then standardS t x else []) else []
def rawS (t : List LdS) : List EdgeS := t.flatMap (ownS t)
def nodesS (l : List LdS) : List NodeS := (tableS l).map nodeS
def edgesS (l : List LdS) : List EdgeS := sortL ltE (rawS (tableS l))

end Go.Proofs.YtcaamakodneplaaGreat

/-
  A region that draws its order: reads and quiet calls in whatever order, then a tail in one order. No program in sight.
-/
namespace Go.Proofs.YtcaamakodneplaaGreat
open Go Go.RowKit
set_option linter.unusedVariables false

theorem region_tail {P : Program} {id : Nat} {Q : Exit → Act → World → Prop} {a : Act} {w : World} {l : List Oper} (n : Nat) (hm : P.follows .mixedOrders = true) (hB : Region.lexTailB .any l.toArray n = true)
    (h : ∀ w2 : World, w2 = w.drewN 1 → wpStill P l.toArray w2 (fun a' => wpList P l.toArray Q (l.drop n) a' w2) (l.take n) a) : (Code.region id l.toArray true).wp P Q a w :=
  wp_region_still_tail n hm hB (h _ rfl)
theorem region_still {P : Program} {id : Nat} {Q : Exit → Act → World → Prop} {a : Act} {w : World} {l : List Oper} (hm : P.follows .mixedOrders = true) (hB : Region.lexB .any l.toArray = true)
    (h : ∀ w2 : World, w2 = w.drewN 1 → wpStill P l.toArray w2 (fun a' => Q .normal a' w2) l a) : (Code.region id l.toArray true).wp P Q a w :=
  wp_region_still_lit hm hB (h _ rfl)
theorem Calls.still_of {P : Program} {f : FuncId} {args : Array Value} {w : World} {v : Value} (h : Calls P f args w fun e w' => e = .returned v ∧ w = w') : Calls P f args w fun e w' => e = .returned v ∧ w' = w :=
  h.mono fun _ _ ⟨a, b⟩ => ⟨a, b.symm⟩
end Go.Proofs.YtcaamakodneplaaGreat

/-
  Package graph: byName, byEdge (and cmp.Compare at texts, cmp.Or).
-/
namespace Go.Proofs.YtcaamakodneplaaGreat
open Go Go.RowKit Go.Sort
set_option linter.unusedVariables false
set_option maxRecDepth 100000

theorem nan_str (a : ByteArray) (w : World) : Calls Tryz.prog 81 #[.string a] w fun e w' => e = .returned (.bool false) ∧ w = w' := by
  go_enter Tryz.func81, Tryz.ntmps81
  go_wp2
  go_ret
  exact ⟨ret_bool (by simp), rfl⟩
theorem cmpStr_any (a b : ByteArray) (w : World) (r : Int) (hr : cmpS a.data.toList b.data.toList = r) :
    Calls Tryz.prog 55 #[.string a, .string b] w fun e w' => e = .returned (.int .i64 r) ∧ w = w' := by
  unfold cmpS ltS at hr
  rw [← ByteArray.toList_eq, ← ByteArray.toList_eq] at hr
  cases h1 : Op.bytesLess a.toList b.toList with
  | true =>
    rw [h1] at hr
    subst hr
    go_enter Tryz.func55, Tryz.ntmps55
    go_wp2_with (refine (nan_str _ _).mono ?_; rintro e w' ⟨rfl, rfl⟩)
    go_ret
    exact ⟨rfl, rfl⟩
  | false =>
    rw [h1] at hr
    cases h2 : Op.bytesLess b.toList a.toList with
    | true =>
      rw [h2] at hr
      subst hr
      have h3 : (a.toList == b.toList) = false := by
        rw [beq_eq_false_iff_ne]; intro e; rw [e] at h2; rw [show Op.bytesLess b.toList b.toList = false from ltS_irrefl _] at h2; cases h2
      clear h2
      go_enter Tryz.func55, Tryz.ntmps55
      go_wp2_with (refine (nan_str _ _).mono ?_; rintro e w' ⟨rfl, rfl⟩)
      go_ret
      exact ⟨rfl, rfl⟩
    | false =>
      rw [h2] at hr
      subst hr
      have h3 : (a.toList == b.toList) = true := by
        rw [ltS_tri _ _ h1 h2]; simp
      clear h2
      go_enter Tryz.func55, Tryz.ntmps55
      go_wp2_with (refine (nan_str _ _).mono ?_; rintro e w' ⟨rfl, rfl⟩)
      go_ret
      exact ⟨rfl, rfl⟩

def orI : List Int → Int
  | [] => 0
  | x :: r => if x = 0 then orI r else x
theorem orI_zeros : ∀ (l m : List Int), (∀ x ∈ l, x = 0) → orI (l ++ m) = orI m
  | [], _, _ => rfl
  | x :: r, m, h => by
    rw [List.cons_append, orI, if_pos (h x (by simp)), orI_zeros r m (fun y hy => h y (by simp [hy]))]
set_option maxHeartbeats 400000 in
theorem or_any (b : Nat) (l : List Int) (w : World) (h3 : l.length = 3) (hc : ∀ i (h : i < l.length), w.cell? ⟨b, i, none⟩ = some (.int .i64 l[i])) (r : Int) (hr : orI l = r) :
    Calls Tryz.prog 54 #[.slice (some ⟨b, 0, none⟩) 3 3] w fun e w' => e = .returned (.int .i64 r) ∧ w = w' := by
  have HC := Lib.hid hc; clear hc
  have HR := Lib.hid hr; clear hr
  have H3 := Lib.hid h3; clear h3
  go_enter Tryz.func54, Tryz.ntmps54
  go_wp2
  go_loop [8] (fun i => ∃ k : Nat, k ≤ 3 ∧ i = .int .i64 k ∧ Hid (∀ x ∈ l.take k, x = 0)) (fun i => 3 - (intOf i).toNat)
  case atStart => exact ⟨0, by omega, rfl, Lib.hid (by simp)⟩
  case round =>
    obtain ⟨k, hk, rfl, hz⟩ := hrel
    by_cases hlt : k < 3
    · have hkl : k < l.length := by rw [H3.out]; exact hlt
      have hcell := HC.out k hkl
      obtain ⟨x, hx⟩ : ∃ x, x = l[k] := ⟨_, rfl⟩
      rw [← hx] at hcell
      have hsn : l.take (k + 1) = l.take k ++ [x] := by rw [hx, List.take_succ_eq_append_getElem hkl]
      have hdr : l = l.take k ++ x :: l.drop (k + 1) := by
        rw [hx, ← List.drop_eq_getElem_cons hkl, List.take_append_drop]
      cases hx0 : (x != 0) with
      | true =>
        have HO := Lib.hid (show orI l = x by
          rw [hdr, orI_zeros _ _ hz.out, orI, if_neg (by simpa using hx0)])
        clear hdr hsn hx hkl
        go_wp2
        go_ret
        exact ⟨ret_int (by rw [← HR.out, HO.out]), rfl⟩
      | false =>
        have hx1 : x = 0 := by simpa using hx0
        have HN := Lib.hid (show ∀ y ∈ l.take (k + 1), y = 0 by
          rw [hsn]
          intro y hy
          rcases List.mem_append.1 hy with hy | hy
          · exact hz.out y hy
          · simp at hy; rw [hy, hx1])
        clear hdr hsn hx hkl hx1
        go_wp2
        go_round
        case rel => exact ⟨k + 1, by omega, by go_num, HN⟩
        case measure => simp [intOf]; omega
    · have HO := Lib.hid (show orI l = 0 by
        have := hz.out
        rw [List.take_of_length_le (by rw [H3.out]; omega)] at this
        rw [← List.append_nil l, orI_zeros l [] this]
        rfl)
      go_wp2
      go_ret
      exact ⟨ret_int (by rw [← HR.out, HO.out]), rfl⟩

/-- A node's cells, an edge's. -/
def encN (n : NodeS) : List Value := [.string ⟨n.name.toArray⟩, .int .i64 n.kind, .int .i64 n.state]
def encE (e : EdgeS) : List Value := [.string ⟨e.src.toArray⟩, .string ⟨e.dst.toArray⟩, .int .i64 e.rel]

theorem byName_any (x y : NodeS) (W : World) : Calls Tryz.prog 38 #[.agg (encN x).toArray, .agg (encN y).toArray] W fun e w' => e = .returned (.int .i64 (cmpN x y)) ∧ ∃ q os', w' = grow (W.drewN q) os' := by
  have hcon := fun W' => cmpStr_any ⟨x.name.toArray⟩ ⟨y.name.toArray⟩ W' (cmpN x y) (by unfold cmpN; rfl)
  generalize cmpN x y = r at hcon ⊢
  unfold encN
  have H := Lib.hid hcon; clear hcon
  go_enter Tryz.func38, Tryz.ntmps38
  go_wp2_with (refine (H.out _).mono ?_; rintro e w' ⟨rfl, rfl⟩)
  go_ret
  exact ⟨rfl, 0, _, by rw [alloc_eq_grow, alloc_eq_grow, grow_grow]; rfl⟩

theorem cmpE_or (x y : EdgeS) : orI [cmpS x.src y.src, cmpS x.dst y.dst, cmpI x.rel y.rel] = cmpE x y := by
  unfold cmpE orI orI orI orI
  by_cases h1 : cmpS x.src y.src = 0
  · by_cases h2 : cmpS x.dst y.dst = 0
    · by_cases h3 : cmpI x.rel y.rel = 0 <;> simp [h1, h2, h3]
    · simp [h1, h2]
  · simp [h1]
theorem cmpI_lib (x y : Int) : Lib.compareInt x y = cmpI x y := rfl

set_option maxHeartbeats 1000000 in
theorem byEdge_any (x y : EdgeS) (W : World) : Calls Tryz.prog 32 #[.agg (encE x).toArray, .agg (encE y).toArray] W fun e w' => e = .returned (.int .i64 (cmpE x y)) ∧ ∃ q os', w' = grow (W.drewN q) os' := by
  have hs := cmpE_or x y
  have H1 := Lib.hid (fun W' => cmpStr_any ⟨x.src.toArray⟩ ⟨y.src.toArray⟩ W' (cmpS x.src y.src) rfl)
  have H2 := Lib.hid (fun W' => cmpStr_any ⟨x.dst.toArray⟩ ⟨y.dst.toArray⟩ W' (cmpS x.dst y.dst) rfl)
  have H3 := Lib.hid (fun W' => Tryz.cmp_Compare_int x.rel y.rel W')
  generalize cmpS x.src y.src = a at hs H1
  generalize cmpS x.dst y.dst = b at hs H2
  rw [cmpI_lib] at H3
  generalize cmpI x.rel y.rel = c at hs H3
  generalize cmpE x y = r at hs ⊢
  have HS := Lib.hid hs; clear hs
  unfold encE
  go_enter Tryz.func32, Tryz.ntmps32
  go_wp2_with fail
  refine region_tail 15 (by kernel_rfl) (by kernel_rfl) (fun w2 hw2 => ?_)
  simp only [List.take_succ_cons, List.take_zero, List.drop_succ_cons, List.drop_zero]
  have hx : w2.heap[W.heap.size]? = some (.cells #[.string ⟨x.src.toArray⟩, .string ⟨x.dst.toArray⟩, .int .i64 x.rel] 58 (0, 0)) := by
    rw [hw2]; exact heap_alloc (heap_alloc_new W _) _
  have hy : w2.heap[W.heap.size + 1]? = some (.cells #[.string ⟨y.src.toArray⟩, .string ⟨y.dst.toArray⟩, .int .i64 y.rel] 58 (0, 0)) := by
    rw [hw2, show W.heap.size + 1 = (W.alloc (.cells #[.string ⟨x.src.toArray⟩, .string ⟨x.dst.toArray⟩, .int .i64 x.rel] 58)).heap.size by simp]
    exact heap_alloc_new _ _
  have hg : ∃ q os, w2 = grow (W.drewN q) os := ⟨1, _, by rw [hw2, alloc_eq_grow, alloc_eq_grow, grow_grow]; rfl⟩
  have c0 := (rd hx).1 0
  have c1 := (rd hx).1 1
  have c2 := (rd hx).1 2
  have d0 := (rd hy).1 0
  have d1 := (rd hy).1 1
  have d2 := (rd hy).1 2
  simp only [List.getElem?_toArray, List.getElem?_cons_zero, List.getElem?_cons_succ] at c0 c1 c2 d0 d1 d2
  clear hx hy
  replace hw2 := Lib.hid hw2
  repeat (first
    | still_step
    | (refine wpStill_step (fun K hK => ?_); go_simp; (first | (with_reducible refine ⟨_, Calls.still_of (H1.out _), hK _ ?_⟩) | (with_reducible refine ⟨_, Calls.still_of (H2.out _), hK _ ?_⟩) | (with_reducible refine ⟨_, H3.out _, hK _ ?_⟩)); clear hK K))
  refine wpStill_nil ?_
  clear c0 c1 c2 d0 d1 d2
  have H4 := Lib.hid (or_any w2.heap.size [a, b, c] (w2.alloc (.cells #[.int .i64 a, .int .i64 b, .int .i64 c] 3)) rfl (by
    intro i hi
    rw [(rd (heap_alloc_new w2 _)).1]
    match i, hi with
    | 0, _ => rfl
    | 1, _ => rfl
    | 2, _ => rfl
    | n + 3, hi => exact absurd hi (by simp)) r HS.out)
  go_wp2_with ((with_reducible refine H4.out.mono ?_); rintro e w' ⟨rfl, rfl⟩)
  go_ret
  obtain ⟨q, os, rfl⟩ := hg
  exact ⟨rfl, q, _, by rw [alloc_eq_grow, grow_grow]⟩
end Go.Proofs.YtcaamakodneplaaGreat

/-
  slices.SortFunc at structs, in terms of rows that the call owns. No program in sight.
-/
namespace Go.Proofs.YtcaamakodneplaaGreat
open Go Go.RowKit Go.Sort Go.Shelf
set_option linter.unusedVariables false

def flatL {α : Type} (enc : α → List Value) (l : List α) : List Value := l.flatMap enc
theorem flatL_length {α : Type} {enc : α → List Value} {k : Nat} (hk : ∀ x, (enc x).length = k) : ∀ l : List α, (flatL enc l).length = l.length * k
  | [] => by simp [flatL]
  | x :: r => by
    have := flatL_length hk r
    unfold flatL at *
    rw [List.flatMap_cons, List.length_append, hk, this, List.length_cons, Nat.add_mul]; omega
theorem flatL_get {α : Type} {enc : α → List Value} {k : Nat} (hk : ∀ x, (enc x).length = k) : ∀ (l : List α) (i j : Nat) (hi : i < l.length), j < k → (flatL enc l)[i * k + j]? = (enc l[i])[j]?
  | [], i, j, hi, _ => absurd hi (by simp)
  | x :: r, 0, j, _, hj => by
    unfold flatL
    rw [List.flatMap_cons, Nat.zero_mul, Nat.zero_add, List.getElem?_append_left (by rw [hk]; exact hj)]
    rfl
  | x :: r, i + 1, j, hi, hj => by
    have := flatL_get hk r i j (by simpa using hi) hj
    unfold flatL at *
    rw [List.flatMap_cons, List.getElem?_append_right (by rw [hk, Nat.add_mul]; omega), hk]
    rw [show (i + 1) * k + j - k = i * k + j by rw [Nat.add_mul]; omega, this]
    rfl
theorem flatL_append {α : Type} (enc : α → List Value) (a b : List α) : flatL enc (a ++ b) = flatL enc a ++ flatL enc b := by simp [flatL]
theorem flatL_one {α : Type} (enc : α → List Value) (a : α) : flatL enc [a] = enc a := by simp [flatL]
theorem flatL_oneCell {α : Type} {enc : α → List Value} (h1 : ∀ x, ∀ v ∈ enc x, v.oneCell' = true) (l : List α) : ∀ v ∈ flatL enc l, v.oneCell' = true := by
  intro v hv
  obtain ⟨x, _, hx⟩ := List.mem_flatMap.1 hv
  exact h1 x v hx
/-- Element i's cells in a row that is owned. -/
theorem own_cell {α : Type} {enc : α → List Value} {k : Nat} (hk : ∀ x, (enc x).length = k) {w : World} {B : Nat} {T : TypeId} {oa : Option Addr} {n cap : Nat} {l : List α} (h : w.ownsRow B T k (.slice oa n cap) n (flatL enc l)) (hn : n = l.length)
    {i : Nat} (hi : i < l.length) : ∃ g, oa = some ⟨g, 0, none⟩ ∧ B ≤ g ∧ g < w.heap.size ∧ n ≤ cap ∧ ∀ j v, (enc l[i])[j]? = some v → w.cell? ⟨g, i * k + j, none⟩ = some v := by
  subst hn
  rcases h.2 with ⟨_, h0⟩ | ⟨g, cap', cur, hv, hb, hg, hnc, hcm, hsz, ht⟩
  · omega
  · injection hv with e1 e2 e3
    subst e1
    subst e3
    refine ⟨g, rfl, hb, lt_heap hg, hnc, fun j v hj => ?_⟩
    have hjk : j < k := by
      rcases Nat.lt_or_ge j k with q | q
      · exact q
      · rw [List.getElem?_eq_none (by rw [hk]; exact q)] at hj; cases hj
    have h1 := flatL_get hk l i j hi hjk
    rw [hj, ← ht] at h1
    have hlt : i * k + j < l.length * k := by
      have := Nat.mul_le_mul_right k (show i + 1 ≤ l.length from hi); rw [Nat.add_mul, Nat.one_mul] at this; omega
    rw [List.getElem?_take_of_lt hlt] at h1
    simp only [World.cell?, hg]
    simpa using h1

theorem flatK_toList {α : Type} [Inhabited α] {enc : α → List Value} {k : Nat} (hk : ∀ x, (enc x).length = k) (l : List α) : (flatK enc k l.toArray).toList = flatL enc l := by
  apply List.ext_getElem?
  intro t
  by_cases ht : t < l.length * k
  · have k0 : 0 < k := by rcases Nat.eq_zero_or_pos k with h | h
                          · subst h; simp at ht
                          · exact h
    have hq : t / k < l.length := by rw [Nat.div_lt_iff_lt_mul k0]; exact ht
    have h1 := get_flatK enc k l.toArray t (by simpa using ht)
    have h2 := flatL_get hk l (t / k) (t % k) hq (Nat.mod_lt _ k0)
    rw [show t / k * k + t % k = t from Nat.div_add_mod' t k] at h2
    rw [h2]
    have hs : t < (flatK enc k l.toArray).size := by simpa using ht
    rw [getElem!_pos _ t hs] at h1
    rw [Array.getElem?_toList, Array.getElem?_eq_getElem hs, h1]
    have hr : t % k < (enc l[t / k]).length := by rw [hk]; exact Nat.mod_lt _ k0
    have hl : l.toArray[t / k]! = l[t / k] := by
      rw [getElem!_pos _ _ (by simpa using hq)]; simp
    rw [hl, getElem!_pos (enc l[t / k]) (t % k) hr, List.getElem?_eq_getElem hr]
  · rw [List.getElem?_eq_none (by simp; omega), List.getElem?_eq_none (by rw [flatL_length hk]; omega)]

theorem putCells_take (F cur : Array Value) (h : F.size ≤ cur.size) : (putCells id 0 F cur).toList.take F.size = F.toList := by
  apply List.ext_getElem?
  intro t
  by_cases ht : t < F.size
  · rw [List.getElem?_take_of_lt ht]
    simp only [Array.getElem?_toList, putCells, Array.getElem?_mapIdx]
    rw [Array.getElem?_eq_getElem (show t < cur.size by omega), Array.getElem?_eq_getElem ht]
    simp [ht]
  · rw [List.getElem?_eq_none (by simp; omega), List.getElem?_eq_none (by simp; omega)]

/-- What a sort leaves: a permutation that rises, in the same row. -/
def SortedRow {α : Type} (enc : α → List Value) (k B : Nat) (T : TypeId) (lt : α → α → Bool) (v : Value) (l : List α) (w w' : World) : Prop :=
  ∃ l' : List α, l'.Perm l ∧ l'.Pairwise (fun a b => lt b a = false) ∧ w'.ownsRow B T k v l'.length (flatL enc l') ∧ Fr (fun b => v.ownBlock = some b) w w'

theorem sortFunc_own {α : Type} [Inhabited α] {P : Program} {ρ : Ren} (L : SlLaysF0.n6 P ρ) (k : Nat) (aE : ∀ w, (isAgg (ρ.t 24)).run P w = .ok true w) (zE : ∀ w, (Go.sizeOf (ρ.t 24)).run P w = .ok k w) (enc : α → List Value) (hk : ∀ x, (enc x).length = k)
    (h1 : ∀ x, ∀ v ∈ enc x, v.oneCell' = true) (cf : α → α → Int) (lt : α → α → Bool) (hcf : ∀ x y, decide (cf x y < 0) = lt x y) (hO : SWO lt) (g : Nat) (eg : ∀ args w, (callFunc g args).run P w = .ok (.enter g args) w)
    (hcmp : ∀ x y W, Calls P g #[.agg (enc x).toArray, .agg (enc y).toArray] W fun e w' => e = .returned (.int .i64 (cf x y)) ∧ ∃ q os', w' = grow (W.drewN q) os')
    (B : Nat) (T : TypeId) (v : Value) (l : List α) (w : World) (hown : w.ownsRow B T k v l.length (flatL enc l)) (hsz : l.length < 4611686018427387904) :
    Calls P (ρ.f 6) #[v, .func (.func g) #[] #[]] w fun e w' => e = .returned (.tuple #[]) ∧ SortedRow enc k B T lt v l w w' := by
  have hlt : ltOf cf = lt := by funext x y; exact hcf x y
  have hown' := hown
  rcases hown.2 with ⟨rfl, h0⟩ | ⟨b, cap, cur, rfl, hb, hg, hnc, hcm, hs, ht⟩
  · have : l = [] := List.length_eq_zero_iff.1 h0
    subst this
    refine (AnyF.slices_SortFunc_none L none 0 (.func (.func g) #[] #[]) w).mono ?_
    rintro e w' ⟨he, rfl⟩
    exact ⟨he, [], .refl _, .nil, hown', Fr.refl _ _⟩
  · have hH : HoldsK enc k w b 0 l.toArray := by
      intro j hj
      rw [size_flatK] at hj
      have hj' : j < l.length * k := by simpa using hj
      have hjs : j < (flatK enc k l.toArray).size := by simpa using hj'
      refine ⟨?_, by simp [World.frozen?, hg]⟩
      rw [getElem!_pos (flatK enc k l.toArray) j hjs]
      have h2 : (flatK enc k l.toArray).toList[j]? = some ((flatK enc k l.toArray)[j]) := by rw [Array.getElem?_toList, Array.getElem?_eq_getElem hjs]
      rw [flatK_toList hk, ← ht, List.getElem?_take_of_lt hj'] at h2
      simp only [World.cell?, hg, Nat.zero_add, id]
      simpa using h2
    have hcon := AnyQ.slices_SortFunc L k aE zE enc hk h1 cf (by rw [hlt]; exact hO) g #[] b 0 cap l.toArray w eg (fun m os dk hdk x y => hcmp x y _) hH (lt_heap hg) (by simpa using hsz)
    rw [hlt] at hcon
    refine hcon.mono ?_
    rintro e w' ⟨he, d', n, os, hp, hsr, rfl⟩
    have hps : d'.size = l.length := by simpa using hp.1
    refine ⟨he, d'.toList, ?_, ?_, ?_, ?_⟩
    · have := hp.2.2
      rw [← hp.1] at this
      have h5 : List.take l.length d'.toList = d'.toList := List.take_of_length_le (by simp [hps])
      simp only [hps, Array.toList_extract, List.extract_eq_take_drop, List.drop_zero, Nat.sub_zero] at this
      rw [h5, List.take_of_length_le (by simp)] at this
      simpa using this
    · rw [List.pairwise_iff_getElem]
      intro i j hi hj hij
      have hj' : j < d'.size := by simpa using hj
      have hi' : i < d'.size := by simpa using hi
      have := hsr i j (Nat.zero_le _) hij (by simp; omega)
      rw [getElem!_pos d' i hi', getElem!_pos d' j hj'] at this
      simpa using this
    · refine ⟨by rw [flatL_length hk], .inr ⟨b, cap, putCells id 0 (flatK enc k d') cur, by simp [hps], hb, ?_, by simp [hps]; exact hnc, hcm, by simp [putCells, hs], ?_⟩⟩
      · unfold sortWorldK putRowK putRow grow mapBlock
        show (((Sort.ahead w n).heap.modify b _) ++ os)[b]? = _
        rw [Array.getElem?_append_left (by simp [Sort.ahead]; exact lt_heap hg)]
        show ((w.heap.modify b _))[b]? = _
        rw [Array.getElem?_modify, if_pos rfl, hg]
        rfl
      · have hfs : (flatK enc k d').size = d'.toList.length * k := by simp
        rw [← hfs, putCells_take _ _ (by
          rw [hfs, hs]; simp [hps]
          exact Nat.mul_le_mul_right k hnc)]
        have := flatK_toList hk d'.toList
        simpa using this
    · refine ⟨rfl, rfl, rfl, ?_, fun j hj hm => ?_⟩
      · exact size_sortWorldK_c enc k w b 0 n d' os
      · unfold sortWorldK putRowK putRow grow mapBlock
        show (((Sort.ahead w n).heap.modify b _) ++ os)[j]? = _
        rw [Array.getElem?_append_left (by simp [Sort.ahead]; exact hj)]
        show ((w.heap.modify b _))[j]? = _
        rw [Array.getElem?_modify, if_neg (fun e => hm (by simp [Value.ownBlock, e]))]
end Go.Proofs.YtcaamakodneplaaGreat

/-
  slices.Sort and slices.Compact of texts: the row that rises, each text once. No program in sight.
-/
namespace Go.Proofs.YtcaamakodneplaaGreat
open Go Go.Sort
set_option linter.unusedVariables false

theorem ltS_iff : ∀ a b : Str, ltS a b = true ↔ a < b
  | _, [] => by
    constructor
    · intro h; cases ‹Str› <;> simp [ltS, Go.Op.bytesLess] at h
    · intro h; exact absurd h (List.not_lt_nil _)
  | [], b :: y => by
    constructor
    · intro _; exact List.nil_lt_cons _ _
    · intro _; rfl
  | a :: x, b :: y => by
    rw [ltS_cons, List.cons_lt_cons_iff]
    simp only [Bool.or_eq_true, decide_eq_true_eq, Bool.and_eq_true, beq_iff_eq]
    rw [ltS_iff x y]
theorem le_eq (x y : Str) : decide (x ≤ y) = !ltS y x := by
  rw [Bool.eq_iff_iff]
  simp only [decide_eq_true_eq, Bool.not_eq_true']
  rw [← Bool.not_eq_true, ltS_iff]
  exact List.not_lt.symm

theorem compactUpTo_sorted {α : Type} [Inhabited α] [DecidableEq α] {lt : α → α → Bool} (h : STO lt) (l : List α) (hs : l.Pairwise fun a b => lt b a = false) :
    ∀ m, m ≤ l.length → Rises lt (Lib.compactUpTo l.toArray m) ∧ ∀ x, x ∈ Lib.compactUpTo l.toArray m ↔ x ∈ l.take m := by
  intro m
  induction m with
  | zero => intro _; exact ⟨by simp [Lib.compactUpTo, Rises], fun x => by simp [Lib.compactUpTo]⟩
  | succ m ih =>
    intro hm
    obtain ⟨h1, h2⟩ := ih (by omega)
    have hget : ∀ j (hj : j < l.length), l.toArray[j]! = l[j] := fun j hj => by
      rw [getElem!_pos l.toArray j (by simpa using hj)]; simp
    have hle : ∀ i j (hi : i < l.length) (hj : j < l.length), i ≤ j → lt l[j] l[i] = false := by
      intro i j hi hj hij
      rcases Nat.lt_or_ge i j with q | q
      · exact List.pairwise_iff_getElem.1 hs i j hi hj q
      · have : i = j := by omega
        subst this; exact h.irrefl _
    rw [Lib.compactUpTo_succ, List.take_succ_eq_append_getElem (by omega : m < l.length)]
    by_cases hk : Lib.keeps l.toArray m = true
    · rw [if_pos hk, hget m (by omega)]
      refine ⟨?_, fun x => by rw [List.mem_append, List.mem_append, h2]⟩
      unfold Rises
      rw [List.pairwise_append]
      refine ⟨h1, by simp, fun x hx y hy => ?_⟩
      simp at hy
      subst hy
      obtain ⟨i, hi, e⟩ := List.getElem_of_mem ((h2 x).1 hx)
      rw [List.getElem_take] at e
      simp at hi
      have hne : lt l[m] x = false := by rw [← e]; exact hle i m (by omega) (by omega) (by omega)
      cases hxm : lt x l[m] with
      | true => rfl
      | false =>
        exfalso
        have e2 : x = l[m] := h.tri _ _ hxm hne
        simp only [Lib.keeps, decide_eq_true_eq] at hk
        rcases hk with h0 | hk
        · omega
        · apply hk
          rw [hget m (by omega), hget (m - 1) (by omega)]
          refine h.tri _ _ (hle (m - 1) m (by omega) (by omega) (by omega)) ?_
          have := hle i (m - 1) (by omega) (by omega) (by omega)
          rw [e, e2] at this
          exact this
    · rw [if_neg hk, List.append_nil]
      refine ⟨h1, fun x => ?_⟩
      rw [h2, List.mem_append]
      constructor
      · exact .inl
      · rintro (hx | hx)
        · exact hx
        · simp at hx
          have h0 : m ≠ 0 := by rintro rfl; exact hk (by simp [Lib.keeps])
          have : l.toArray[m]! = l.toArray[m - 1]! := by
            by_cases e : l.toArray[m]! = l.toArray[m - 1]!
            · exact e
            · exact absurd (Lib.keeps_pos e) hk
          rw [hget m (by omega), hget (m - 1) (by omega)] at this
          rw [hx, this, List.mem_iff_getElem]
          exact ⟨m - 1, by simp; omega, by rw [List.getElem_take]⟩
theorem compact_sort (l : List Str) : Lib.compact (l.mergeSort fun x y => decide (x ≤ y)) = sortL ltS l := by
  have hle : (fun x y : Str => decide (x ≤ y)) = fun x y => !ltS y x := by funext x y; exact le_eq x y
  rw [hle]
  have hs : (l.mergeSort (fun x y => !ltS y x)).Pairwise fun x y => (!ltS y x) = true := List.pairwise_mergeSort (le := fun x y => !ltS y x)
    (fun a b c hab hbc => by
      simp only [Bool.not_eq_true'] at *
      cases hca : ltS c a with
      | false => rfl
      | true =>
        cases hcb : ltS c b with
        | true => rw [hcb] at hbc; cases hbc
        | false =>
          cases hbc' : ltS b c with
          | true => have := ltS_trans _ _ _ hbc' hca; rw [this] at hab; cases hab
          | false => have := ltS_tri _ _ hcb hbc'; subst this; rw [hca] at hab; cases hab)
    (fun a b => by
      cases hba : ltS b a with
      | false => simp
      | true => simp [stoS.asymm hba]) l
  have hp := List.mergeSort_perm l (fun x y => !ltS y x)
  obtain ⟨h1, h2⟩ := compactUpTo_sorted stoS _ (hs.imp fun h => by simpa using h) (l.mergeSort (fun x y => !ltS y x)).length (Nat.le_refl _)
  refine sortL_eq stoS h1 fun y => ?_
  rw [show Lib.compactUpTo (l.mergeSort fun x y => !ltS y x).toArray (l.mergeSort fun x y => !ltS y x).length = Lib.compact (l.mergeSort fun x y => !ltS y x) from rfl] at *
  rw [h2, List.take_of_length_le (Nat.le_refl _), hp.mem_iff]
end Go.Proofs.YtcaamakodneplaaGreat

/-
  Package graph: sorts at nodes, at edges, at texts (once).
-/
namespace Go.Proofs.YtcaamakodneplaaGreat
open Go Go.RowKit Go.Sort
set_option linter.unusedVariables false
set_option maxRecDepth 100000

instance : Inhabited NodeS := ⟨⟨[], 0, 0⟩⟩
instance : Inhabited EdgeS := ⟨⟨[], [], 0⟩⟩
theorem swo_of {α β : Type} {lt : β → β → Bool} (h : STO lt) (f : α → β) : SWO fun a b => lt (f a) (f b) where
  irrefl x := h.irrefl _
  trans x y z := h.trans _ _ _
  ntrans x y z h1 h2 := by
    cases hc : lt (f x) (f z) with
    | false => rfl
    | true =>
      cases hyx : lt (f y) (f x) with
      | true => have := h.trans _ _ _ hyx hc; rw [this] at h2; cases h2
      | false => have := h.tri _ _ h1 hyx; rw [this] at hc; rw [hc] at h2; cases h2
theorem enters_byName : ∀ args w, (callFunc 38 args).run Tryz.prog w = .ok (.enter 38 args) w := enters_of Tryz.func38 (by kernel_rfl) rfl
theorem enters_byEdge : ∀ args w, (callFunc 32 args).run Tryz.prog w = .ok (.enter 32 args) w := enters_of Tryz.func32 (by kernel_rfl) rfl

theorem sortNodes_any (B : Nat) (v : Value) (l : List NodeS) (w : World) (hown : w.ownsRow B 32 3 v l.length (flatL encN l)) (hsz : l.length < 4611686018427387904) :
    Calls Tryz.prog 49 #[v, .func (.func 38) #[] #[]] w fun e w' => e = .returned (.tuple #[]) ∧ SortedRow encN 3 B 32 ltN v l w w' :=
  sortFunc_own Tryz.sortNode 3 Tryz.isAgg32 Tryz.sizeOf32 encN (fun _ => rfl) (fun x v hv => by simp [encN] at hv; rcases hv with rfl | rfl | rfl <;> rfl) cmpN ltN cmpN_lt (swo_of stoS NodeS.name) 38 enters_byName byName_any B 32 v l w hown hsz
theorem sortEdges_any (B : Nat) (v : Value) (l : List EdgeS) (w : World) (hown : w.ownsRow B 58 3 v l.length (flatL encE l)) (hsz : l.length < 4611686018427387904) :
    Calls Tryz.prog 31 #[v, .func (.func 32) #[] #[]] w fun e w' => e = .returned (.tuple #[]) ∧ SortedRow encE 3 B 58 ltE v l w w' :=
  sortFunc_own Tryz.sortEdge 3 Tryz.isAgg58 Tryz.sizeOf58 encE (fun _ => rfl) (fun x v hv => by simp [encE] at hv; rcases hv with rfl | rfl | rfl <;> rfl) cmpE ltE cmpE_lt (swo_of stoE id) 32 enters_byEdge byEdge_any B 58 v l w hown hsz

/-- What a row of texts becomes, rewritten in place. -/
theorem own_putRow {w : World} {B : Nat} {T : TypeId} {b cap : Nat} {l : List Str} (h : w.ownsRow B T 1 (.slice (some ⟨b, 0, none⟩) l.length cap) l.length (strVals l)) (l' : List Str) (hl : l'.length = l.length) (n : Nat) (os : Array Obj) (m : Nat) (hm : m ≤ l'.length) :
    (grow (putRow encStr (Sort.ahead w n) b 0 l'.toArray) os).ownsRow B T 1 (.slice (some ⟨b, 0, none⟩) m cap) m (strVals (l'.take m)) ∧ Fr (fun k => k = b) w (grow (putRow encStr (Sort.ahead w n) b 0 l'.toArray) os) := by
  rcases h.2 with ⟨hv, _⟩ | ⟨g, cap', cur, hv, hb, hg, hnc, hcm, hs, ht⟩
  · cases hv
  · injection hv with e1 e2 e3
    injection e1 with e1
    injection e1 with e1
    subst e1; subst e3
    have e4 : (grow (putRow encStr (Sort.ahead w n) b 0 l'.toArray) os).heap = (w.heap.modify b (onCells (putCells encStr 0 l'.toArray))) ++ os := rfl
    refine ⟨⟨by simp [strVals, hm], .inr ⟨b, cap, putCells encStr 0 l'.toArray cur, rfl, hb, ?_, by omega, hcm, by simp [putCells, hs], ?_⟩⟩, rfl, rfl, rfl, ?_, fun j hj hm => ?_⟩
    · rw [e4, Array.getElem?_append_left (by simp; exact lt_heap hg), Array.getElem?_modify, if_pos rfl, hg]
      rfl
    · apply List.ext_getElem?
      intro t
      by_cases htm : t < m
      · rw [List.getElem?_take_of_lt (by omega)]
        have h1 : t < cur.size := by omega
        have h2 : t < l'.length := by omega
        simp [putCells, h1, strVals, htm, h2, encStr]
      · rw [List.getElem?_eq_none (by simp; omega), List.getElem?_eq_none (by simp [strVals]; omega)]
    · rw [e4]; simp
    · rw [e4, Array.getElem?_append_left (by simp; exact hj), Array.getElem?_modify, if_neg (fun e => hm e.symm)]

theorem own_holds {w : World} {B : Nat} {T : TypeId} {b cap n : Nat} {l : List Str} (h : w.ownsRow B T 1 (.slice (some ⟨b, 0, none⟩) n cap) n (strVals l)) : Holds encStr w b 0 l.toArray := by
  rcases h.2 with ⟨hv, _⟩ | ⟨g, cap', cur, hv, hb, hg, hnc, hcm, hs, ht⟩
  · cases hv
  · injection hv with e1 e2 e3
    injection e1 with e1
    injection e1 with e1
    subst e1; subst e3
    intro j hj
    have hj' : j < l.length := by simpa using hj
    have hln : l.length = n := by simpa [strVals] using h.1
    refine ⟨?_, by simp [World.frozen?, hg]⟩
    have h1 : (strVals l)[j]? = some (.string ⟨l[j].toArray⟩) := by simp [strVals, hj']
    rw [← ht, List.getElem?_take_of_lt (by omega)] at h1
    simp only [World.cell?, hg, Nat.zero_add]
    rw [getElem!_pos l.toArray j hj]
    simpa [encStr] using h1

set_option maxHeartbeats 400000 in
/-- once: the row that rises, each text once. -/
theorem once_any (B : Nat) (v : Value) (l : List Str) (w : World) (hown : w.ownsRow B 9 1 v l.length (strVals l)) (hsz : l.length < 4611686018427387904) :
    Calls Tryz.prog 42 #[v] w fun e w' => ∃ v' l', l' = sortL ltS l ∧ e = .returned v' ∧ w'.ownsRow B 9 1 v' l'.length (strVals l') ∧ Fr (fun k => v.ownBlock = some k) w w' := by
  rcases hown.2 with ⟨rfl, h0⟩ | ⟨b, cap, cur, rfl, hb, hg, hnc, hcm, hs, ht⟩
  · have : l = [] := List.length_eq_zero_iff.1 h0
    subst this
    go_enter Tryz.func42, Tryz.ntmps42
    go_wp2_with (first
      | (go_at_call 60; refine (Tryz.slices_Sort_string_none none 0 _).mono ?_; rintro e w' ⟨rfl, rfl⟩)
      | (go_at_call 61; refine (Tryz.slices_Compact_string_empty none 0 _).mono ?_; rintro e w' ⟨rfl, rfl⟩))
    go_ret
    exact ⟨_, [], rfl, rfl, World.ownsRow_nil _ _ _ _, Fr.refl _ _⟩
  · have hH := own_holds hown
    have HL := Tryz.slices_Sort_string b 0 cap l w hH (lt_heap hg) hsz
    have hml : (l.mergeSort fun x y => decide (x ≤ y)).length = l.length := List.length_mergeSort _
    have hcs := compact_sort l
    generalize l.mergeSort (fun x y => decide (x ≤ y)) = ms at HL hml hcs
    have HP := fun n os => own_putRow hown ms hml n os ms.length (Nat.le_refl _)
    have HC := fun n os => Tryz.slices_Compact_string b 0 cap ms (grow (putRow encStr (Sort.ahead w n) b 0 ms.toArray) os) (by
      have := (HP n os).1
      rw [List.take_of_length_le (Nat.le_refl _)] at this
      exact own_holds this) (by rw [hml]; omega) (by rw [hml]; exact hnc)
    rw [hml] at HC
    have H1 := Lib.hid HL; have H2 := Lib.hid HC; have H3 := Lib.hid HP; have H4 := Lib.hid hcs; have H5 := Lib.hid hml
    clear HL HC HP hcs hml hH hs ht hg hown
    go_enter Tryz.func42, Tryz.ntmps42
    go_wp2_with fail
    refine H1.out.mono ?_
    rintro e w' ⟨rfl, n, os, hw⟩
    have hC := H2.out n os
    have hP := H3.out n os
    rw [← hw] at hC hP
    have H6 := Lib.hid hP; have H7 := Lib.hid hC
    clear hP hC hw
    go_wp2_with fail
    refine H7.out.mono ?_
    rintro e w2 ⟨rfl, q, hw2⟩
    have H8 := Lib.hid hw2; clear hw2
    go_wp2_with fail
    go_ret
    obtain ⟨o1, f1⟩ := H6.out
    rw [List.take_of_length_le (Nat.le_refl _)] at o1
    have hcl : (Lib.compact ms).length ≤ ms.length := by
      unfold Lib.compact Lib.compactUpTo
      simp only [List.length_map]
      exact Nat.le_trans (List.length_filter_le _ _) (by simp)
    obtain ⟨o2, f2⟩ := own_putRow o1 (Lib.compact ms ++ List.replicate (l.length - (Lib.compact ms).length) []) (by have := H5.out; simp; omega) q #[] (Lib.compact ms).length (by simp)
    rw [List.take_left] at o2
    have e2 : w2 = grow (putRow encStr (Sort.ahead w' q) b 0 (Lib.compact ms ++ List.replicate (l.length - (Lib.compact ms).length) []).toArray) #[] := by
      rw [H8.out, grow_empty]
    rw [← e2] at o2 f2
    refine ⟨_, _, H4.out, rfl, o2, ?_⟩
    refine Fr.trans (f1.mono ?_) (f2.mono ?_) <;> (intro i _ hi; simp [Value.ownBlock, hi])
end Go.Proofs.YtcaamakodneplaaGreat

/-
  Package graph: rises (at nodes, at edges).
-/
namespace Go.Proofs.YtcaamakodneplaaGreat
open Go Go.RowKit Go.Sort
set_option linter.unusedVariables false
set_option maxRecDepth 100000

theorem below_grow (B : Nat) (w : World) (q : Nat) (os : Array Obj) (hB : B ≤ w.heap.size) : RowKit.Below B w (grow (w.drewN q) os) :=
  ⟨rfl, rfl, rfl, by simp [grow], fun i hi => by
    show ((w.drewN q).heap ++ os)[i]? = _
    rw [Array.getElem?_append_left (by show i < w.heap.size; omega)]
    rfl⟩
/-- Of a slice of structs that begins at oa the structs. -/
def RowRd {α : Type} (enc : α → List Value) (k : Nat) (w : World) (oa : Option Addr) (l : List α) : Prop :=
  ∀ i (h : i < l.length), ∃ b o, oa = some ⟨b, o, none⟩ ∧ b < w.heap.size ∧ ∀ j v, (enc l[i])[j]? = some v → w.cell? ⟨b, o + i * k + j, none⟩ = some v
theorem RowRd.below {α : Type} {enc : α → List Value} {k : Nat} {w w' : World} {oa : Option Addr} {l : List α} (h : RowRd enc k w oa l) (hb : Below w.heap.size w w') : RowRd enc k w' oa l := by
  intro i hi
  obtain ⟨b, o, e, hlt, hc⟩ := h i hi
  exact ⟨b, o, e, Nat.lt_of_lt_of_le hlt hb.size, fun j v hj => (hb.cell (p := ⟨b, o + i * k + j, none⟩) hlt).trans (hc j v hj)⟩
theorem RowRd.of_own {α : Type} {enc : α → List Value} {k : Nat} (hk : ∀ x, (enc x).length = k) {w : World} {B : Nat} {T : TypeId} {oa : Option Addr} {cap : Nat} {l : List α} (h : w.ownsRow B T k (.slice oa l.length cap) l.length (flatL enc l)) : RowRd enc k w oa l := by
  intro i hi
  obtain ⟨g, e, hb, hlt, _, hc⟩ := own_cell hk h rfl hi
  exact ⟨g, 0, e, hlt, fun j v hj => by rw [Nat.zero_add]; exact hc j v hj⟩
theorem RowRd.nil {α : Type} (enc : α → List Value) (k : Nat) (w : World) : RowRd enc k w none ([] : List α) := fun i h => absurd h (by simp)

theorem risesB_iff {α : Type} (lt : α → α → Bool) : ∀ l : List α, risesB lt l = true ↔ ∀ i (h : i + 1 < l.length), lt l[i] l[i + 1] = true
  | [] => by simp [risesB]
  | [a] => by simp [risesB]
  | a :: b :: r => by
    unfold risesB
    rw [Bool.and_eq_true, risesB_iff lt (b :: r)]
    constructor
    · rintro ⟨h1, h2⟩ i hi
      cases i with
      | zero => exact h1
      | succ i => exact h2 i (by simpa using hi)
    · intro h
      exact ⟨h 0 (by simp), fun i hi => h (i + 1) (by simpa using hi)⟩
theorem risesB_rises {α : Type} {lt : α → α → Bool} (h : ∀ a b c, lt a b = true → lt b c = true → lt a c = true) : ∀ l : List α, risesB lt l = true ↔ Rises lt l
  | [] => by simp [risesB, Rises]
  | [a] => by simp [risesB, Rises]
  | a :: b :: r => by
    unfold risesB
    rw [Bool.and_eq_true, risesB_rises h (b :: r)]
    unfold Rises
    rw [List.pairwise_cons (a := a)]
    constructor
    · rintro ⟨h1, h2⟩
      refine ⟨fun y hy => ?_, h2⟩
      rcases List.mem_cons.1 hy with rfl | hy
      · exact h1
      · exact h _ _ _ h1 ((List.pairwise_cons.1 h2).1 y hy)
    · rintro ⟨h1, h2⟩
      exact ⟨h1 b (by simp), h2⟩
theorem cmp_geq {a : Int} {b : Bool} (h : decide (a < 0) = b) : decide (a ≥ 0) = !b := by
  rw [← h]; by_cases q : a < 0 <;> simp [q] <;> omega

set_option maxHeartbeats 1000000 in
theorem risesN_any (oa : Option Addr) (cap : Nat) (l : List NodeS) (w : World) (hr : RowRd encN 3 w oa l) (hl : l.length < 4611686018427387904) (r : Bool) (hb : risesB ltN l = r) :
    Calls Tryz.prog 37 #[.slice oa l.length cap, .func (.func 38) #[] #[]] w fun e w' => e = .returned (.bool r) ∧ Below w.heap.size w w' := by
  have HR := Lib.hid hr; clear hr
  have HB := Lib.hid hb; clear hb
  have HN : ∀ x y W, Calls Tryz.prog 38 #[.agg #[.string ⟨x.name.toArray⟩, .int .i64 x.kind, .int .i64 x.state], .agg #[.string ⟨y.name.toArray⟩, .int .i64 y.kind, .int .i64 y.state]] W fun e w' => e = .returned (.int .i64 (cmpN x y)) ∧ Below W.heap.size W w' := fun x y W =>
    (byName_any x y W).mono fun _ _ ⟨a, q, os, b⟩ => ⟨a, b ▸ below_grow _ W q os (Nat.le_refl _)⟩
  replace HN := Lib.hid HN
  go_enter Tryz.func37, Tryz.ntmps37
  go_wp2
  go_loopg [5] (l.length + 1) (fun f i wr => ∃ k : Nat, 1 ≤ k ∧ (k ≤ l.length ∨ k = 1) ∧ l.length + 1 - k < f ∧ i = .int .i64 k ∧ Hid (∀ j (h : j + 1 < l.length), j + 1 < k → ltN l[j] l[j + 1] = true) ∧ Hid (Below w.heap.size w wr))
  case atStart => exact ⟨1, by omega, .inr rfl, by omega, rfl, Lib.hid (fun j h h2 => by omega), Lib.hid (Below.refl _ _)⟩
  case round =>
    obtain ⟨k, h1k, hkl, hf, rfl, hz, hbw⟩ := hrel
    by_cases hlt : k < l.length
    · have hr' := HR.out.below hbw.out
      obtain ⟨b, o, rfl, hblt, hc1⟩ := hr' (k - 1) (by omega)
      obtain ⟨b2, o2, e2, hblt2, hc2⟩ := hr' k hlt
      injection e2 with e2
      injection e2 with e3 e4 e5
      subst e3; subst e4
      obtain ⟨x, hx⟩ : ∃ x, x = l[k - 1] := ⟨_, rfl⟩
      obtain ⟨y, hy⟩ : ∃ y, y = l[k] := ⟨_, rfl⟩
      rw [← hx] at hc1; rw [← hy] at hc2
      have a0 := cell_regrown (hc1 0 _ rfl); have a1 := cell_regrown (hc1 1 _ rfl); have a2 := cell_regrown (hc1 2 _ rfl)
      have b0 := cell_regrown (hc2 0 _ rfl); have b1 := cell_regrown (hc2 1 _ rfl); have b2 := cell_regrown (hc2 2 _ rfl)
      simp only [Nat.add_zero] at a0 b0
      have hcl := cmpN_lt x y
      have cN : ∀ d os, Calls Tryz.prog 38 #[.agg #[.string ⟨x.name.toArray⟩, .int .i64 x.kind, .int .i64 x.state], .agg #[.string ⟨y.name.toArray⟩, .int .i64 y.kind, .int .i64 y.state]] (grow (redrawn wr d) os) fun e w'' => e = .returned (.int .i64 (cmpN x y)) ∧ ∃ p : Regrown, w'' = grow (redrawn wr p.d) p.os := fun d os => Calls.regrown_of (HN.out x y _)
      have hlast : l.length = k + 1 → (ltN x y = true → r = true) := fun e h => by
        rw [← HB.out, risesB_iff]
        intro j hj
        by_cases q : j + 1 < k
        · exact hz.out j hj q
        · have : j = k - 1 := by omega
          subst this
          have e2 : k - 1 + 1 = k := by omega
          simp only [e2]
          rw [← hx, ← hy]; exact h
      have hno : ltN x y = false → r = false := fun h => by
        cases hrr : r with
        | false => rfl
        | true =>
          have h3 := (risesB_iff ltN l).1 (HB.out.trans hrr) (k - 1) (by omega)
          have e2 : k - 1 + 1 = k := by omega
          simp only [e2] at h3
          rw [← hx, ← hy, h] at h3; cases h3
      have hyes : ltN x y = true → ∀ j (h : j + 1 < l.length), j + 1 < k + 1 → ltN l[j] l[j + 1] = true := fun h j hj hjk => by
        by_cases q : j + 1 < k
        · exact hz.out j hj q
        · have : j = k - 1 := by omega
          subst this
          have e2 : k - 1 + 1 = k := by omega
          simp only [e2]
          rw [← hx, ← hy]; exact h
      have Hno := Lib.hid hno; have Hyes := Lib.hid hyes
      clear hno hyes hlast hx hy hc1 hc2 hr'
      have i1 : IntKind.i64.wrap ((k : Int) - 1) = (k : Int) - 1 := IntWalk.i64_in _ (by omega)
      have i2 : 0 ≤ (k : Int) - 1 := by omega
      have i3 : ((k : Int) - 1).toNat = k - 1 := by omega
      have i4 : (k : Int) - 1 < (l.length : Int) := by omega
      have i5 : (k : Int) < (l.length : Int) := by omega
      cases hxy : ltN x y with
      | true =>
        rw [hxy] at hcl
        have hge := cmp_geq hcl
        have Hy := Lib.hid (Hyes.out hxy)
        clear hcl hxy Hyes Hno
        generalize cmpN x y = c at *
        go_wp2_with fail
        refine wp_region_quiet_below (by kernel_rfl) (by kernel_rfl) ?_
        repeat (go_big_quiet_step (first | exact cN _ _))
        refine wpQuiet_nil ?_
        intro _ hw'
        obtain ⟨⟨dq, osq⟩, hw''⟩ := hw'
        subst hw''
        have Hb2 := Lib.hid (Below.more hbw.out (below_regrown wr dq osq))
        clear a0 a1 a2 b0 b1 b2 cN
        generalize grow (redrawn wr dq) osq = w2 at *
        go_wp2_with fail
        go_roundg (gk - 1)
        case measure => omega
        case rel => exact ⟨k + 1, by omega, .inl (by omega), by omega, by go_num, Hy, Hb2⟩
      | false =>
        rw [hxy] at hcl
        have hge := cmp_geq hcl
        have Hn := Lib.hid (Hno.out hxy)
        clear hcl hxy Hyes Hno
        generalize cmpN x y = c at *
        go_wp2_with fail
        refine wp_region_quiet_below (by kernel_rfl) (by kernel_rfl) ?_
        repeat (go_big_quiet_step (first | exact cN _ _))
        refine wpQuiet_nil ?_
        intro _ hw'
        obtain ⟨⟨dq, osq⟩, hw''⟩ := hw'
        subst hw''
        have Hb2 := Lib.hid (Below.more hbw.out (below_regrown wr dq osq))
        clear a0 a1 a2 b0 b1 b2 cN
        generalize grow (redrawn wr dq) osq = w2 at *
        go_wp2_with fail
        go_ret
        exact ⟨ret_bool Hn.out.symm, Hb2.out⟩
    · have Hr := Lib.hid (show r = true by
        rw [← HB.out, risesB_iff]
        intro j hj
        exact hz.out j hj (by omega))
      go_wp2_with fail
      go_ret
      exact ⟨ret_bool Hr.out.symm, hbw.out⟩

set_option maxHeartbeats 1000000 in
theorem risesE_any (oa : Option Addr) (cap : Nat) (l : List EdgeS) (w : World) (hr : RowRd encE 3 w oa l) (hl : l.length < 4611686018427387904) (r : Bool) (hb : risesB ltE l = r) :
    Calls Tryz.prog 39 #[.slice oa l.length cap, .func (.func 32) #[] #[]] w fun e w' => e = .returned (.bool r) ∧ Below w.heap.size w w' := by
  have HR := Lib.hid hr; clear hr
  have HB := Lib.hid hb; clear hb
  have HN : ∀ x y W, Calls Tryz.prog 32 #[.agg #[.string ⟨x.src.toArray⟩, .string ⟨x.dst.toArray⟩, .int .i64 x.rel], .agg #[.string ⟨y.src.toArray⟩, .string ⟨y.dst.toArray⟩, .int .i64 y.rel]] W fun e w' => e = .returned (.int .i64 (cmpE x y)) ∧ Below W.heap.size W w' := fun x y W =>
    (byEdge_any x y W).mono fun _ _ ⟨a, q, os, b⟩ => ⟨a, b ▸ below_grow _ W q os (Nat.le_refl _)⟩
  replace HN := Lib.hid HN
  go_enter Tryz.func39, Tryz.ntmps39
  go_wp2
  go_loopg [5] (l.length + 1) (fun f i wr => ∃ k : Nat, 1 ≤ k ∧ (k ≤ l.length ∨ k = 1) ∧ l.length + 1 - k < f ∧ i = .int .i64 k ∧ Hid (∀ j (h : j + 1 < l.length), j + 1 < k → ltE l[j] l[j + 1] = true) ∧ Hid (Below w.heap.size w wr))
  case atStart => exact ⟨1, by omega, .inr rfl, by omega, rfl, Lib.hid (fun j h h2 => by omega), Lib.hid (Below.refl _ _)⟩
  case round =>
    obtain ⟨k, h1k, hkl, hf, rfl, hz, hbw⟩ := hrel
    by_cases hlt : k < l.length
    · have hr' := HR.out.below hbw.out
      obtain ⟨b, o, rfl, hblt, hc1⟩ := hr' (k - 1) (by omega)
      obtain ⟨b2, o2, e2, hblt2, hc2⟩ := hr' k hlt
      injection e2 with e2
      injection e2 with e3 e4 e5
      subst e3; subst e4
      obtain ⟨x, hx⟩ : ∃ x, x = l[k - 1] := ⟨_, rfl⟩
      obtain ⟨y, hy⟩ : ∃ y, y = l[k] := ⟨_, rfl⟩
      rw [← hx] at hc1; rw [← hy] at hc2
      have a0 := cell_regrown (hc1 0 _ rfl); have a1 := cell_regrown (hc1 1 _ rfl); have a2 := cell_regrown (hc1 2 _ rfl)
      have b0 := cell_regrown (hc2 0 _ rfl); have b1 := cell_regrown (hc2 1 _ rfl); have b2 := cell_regrown (hc2 2 _ rfl)
      simp only [Nat.add_zero] at a0 b0
      have hcl := cmpE_lt x y
      have cN : ∀ d os, Calls Tryz.prog 32 #[.agg #[.string ⟨x.src.toArray⟩, .string ⟨x.dst.toArray⟩, .int .i64 x.rel], .agg #[.string ⟨y.src.toArray⟩, .string ⟨y.dst.toArray⟩, .int .i64 y.rel]] (grow (redrawn wr d) os) fun e w'' => e = .returned (.int .i64 (cmpE x y)) ∧ ∃ p : Regrown, w'' = grow (redrawn wr p.d) p.os := fun d os => Calls.regrown_of (HN.out x y _)
      have hlast : l.length = k + 1 → (ltE x y = true → r = true) := fun e h => by
        rw [← HB.out, risesB_iff]
        intro j hj
        by_cases q : j + 1 < k
        · exact hz.out j hj q
        · have : j = k - 1 := by omega
          subst this
          have e2 : k - 1 + 1 = k := by omega
          simp only [e2]
          rw [← hx, ← hy]; exact h
      have hno : ltE x y = false → r = false := fun h => by
        cases hrr : r with
        | false => rfl
        | true =>
          have h3 := (risesB_iff ltE l).1 (HB.out.trans hrr) (k - 1) (by omega)
          have e2 : k - 1 + 1 = k := by omega
          simp only [e2] at h3
          rw [← hx, ← hy, h] at h3; cases h3
      have hyes : ltE x y = true → ∀ j (h : j + 1 < l.length), j + 1 < k + 1 → ltE l[j] l[j + 1] = true := fun h j hj hjk => by
        by_cases q : j + 1 < k
        · exact hz.out j hj q
        · have : j = k - 1 := by omega
          subst this
          have e2 : k - 1 + 1 = k := by omega
          simp only [e2]
          rw [← hx, ← hy]; exact h
      have Hno := Lib.hid hno; have Hyes := Lib.hid hyes
      clear hno hyes hlast hx hy hc1 hc2 hr'
      have i1 : IntKind.i64.wrap ((k : Int) - 1) = (k : Int) - 1 := IntWalk.i64_in _ (by omega)
      have i2 : 0 ≤ (k : Int) - 1 := by omega
      have i3 : ((k : Int) - 1).toNat = k - 1 := by omega
      have i4 : (k : Int) - 1 < (l.length : Int) := by omega
      have i5 : (k : Int) < (l.length : Int) := by omega
      cases hxy : ltE x y with
      | true =>
        rw [hxy] at hcl
        have hge := cmp_geq hcl
        have Hy := Lib.hid (Hyes.out hxy)
        clear hcl hxy Hyes Hno
        generalize cmpE x y = c at *
        go_wp2_with fail
        refine wp_region_quiet_below (by kernel_rfl) (by kernel_rfl) ?_
        repeat (go_big_quiet_step (first | exact cN _ _))
        refine wpQuiet_nil ?_
        intro _ hw'
        obtain ⟨⟨dq, osq⟩, hw''⟩ := hw'
        subst hw''
        have Hb2 := Lib.hid (Below.more hbw.out (below_regrown wr dq osq))
        clear a0 a1 a2 b0 b1 b2 cN
        generalize grow (redrawn wr dq) osq = w2 at *
        go_wp2_with fail
        go_roundg (gk - 1)
        case measure => omega
        case rel => exact ⟨k + 1, by omega, .inl (by omega), by omega, by go_num, Hy, Hb2⟩
      | false =>
        rw [hxy] at hcl
        have hge := cmp_geq hcl
        have Hn := Lib.hid (Hno.out hxy)
        clear hcl hxy Hyes Hno
        generalize cmpE x y = c at *
        go_wp2_with fail
        refine wp_region_quiet_below (by kernel_rfl) (by kernel_rfl) ?_
        repeat (go_big_quiet_step (first | exact cN _ _))
        refine wpQuiet_nil ?_
        intro _ hw'
        obtain ⟨⟨dq, osq⟩, hw''⟩ := hw'
        subst hw''
        have Hb2 := Lib.hid (Below.more hbw.out (below_regrown wr dq osq))
        clear a0 a1 a2 b0 b1 b2 cN
        generalize grow (redrawn wr dq) osq = w2 at *
        go_wp2_with fail
        go_ret
        exact ⟨ret_bool Hn.out.symm, Hb2.out⟩
    · have Hr := Lib.hid (show r = true by
        rw [← HB.out, risesB_iff]
        intro j hj
        exact hz.out j hj (by omega))
      go_wp2_with fail
      go_ret
      exact ⟨ret_bool Hr.out.symm, hbw.out⟩
end Go.Proofs.YtcaamakodneplaaGreat

/-
  A graph that came in as an argument, opened.
-/
namespace Go.Proofs.YtcaamakodneplaaGreat
open Go Go.RowKit Go.ChangeShapes Go.WideShapes Go.Deep Go.Joins
set_option linter.unusedVariables false
set_option maxRecDepth 100000

section
variable {H : Type} {enc : TypeId × Value → H} {P : Program} {W : World} {base : Nat} {spare : Nat → Bool} {held : Bool}
theorem open_flat3 {t : TypeId} {f0 f1 f2 : Field} (hs : P.underlying t = some (.struct #[f0, f1, f2])) (hone : oneCellFields P #[f0, f1, f2] = true) {n : Nat} {cs : List Value} {x : DataW H × List MemPlace} (hl : cs.length = 3)
    (h : DataW.trod enc P W base spare held n t cs = some x) :
    ∃ c0 c1 c2 y0 y1 y2 m, cs = [c0, c1, c2] ∧ x.1 = .agg [y0.1, y1.1, y2.1] ∧ DataW.trod enc P W base spare held m f0.type [c0] = some y0 ∧ DataW.trod enc P W base spare held m f1.type [c1] = some y1 ∧ DataW.trod enc P W base spare held m f2.type [c2] = some y2 := by
  obtain ⟨c0, c1, c2, rfl⟩ : ∃ a b c, cs = [a, b, c] := by
    match cs, hl with
    | [a, b, c], _ => exact ⟨a, b, c, rfl⟩
  obtain ⟨y0, y1, y2, m, hx, _, h0, h1, h2⟩ := trod_struct3 hs h
  obtain ⟨o0, k0⟩ := hone_of hone 0 f0 rfl
  obtain ⟨o1, k1⟩ := hone_of hone 1 f1 rfl
  obtain ⟨o2, k2⟩ := hone_of hone 2 f2 rfl
  exact ⟨c0, c1, c2, y0, y1, y2, m, rfl, by rw [hx], by simpa [o0, k0] using h0, by simpa [o1, k1] using h1, by simpa [o2, k2] using h2⟩
theorem open_flat2 {t : TypeId} {f0 f1 : Field} (hs : P.underlying t = some (.struct #[f0, f1])) (hone : oneCellFields P #[f0, f1] = true) {n : Nat} {cs : List Value} {x : DataW H × List MemPlace} (hl : cs.length = 2)
    (h : DataW.trod enc P W base spare held n t cs = some x) :
    ∃ c0 c1 y0 y1 m, cs = [c0, c1] ∧ x.1 = .agg [y0.1, y1.1] ∧ DataW.trod enc P W base spare held m f0.type [c0] = some y0 ∧ DataW.trod enc P W base spare held m f1.type [c1] = some y1 := by
  obtain ⟨c0, c1, rfl⟩ : ∃ a b, cs = [a, b] := by
    match cs, hl with
    | [a, b], _ => exact ⟨a, b, rfl⟩
  obtain ⟨y0, y1, m, hx, _, h0, h1⟩ := trod_struct2 hs h
  obtain ⟨o0, k0⟩ := hone_of hone 0 f0 rfl
  obtain ⟨o1, k1⟩ := hone_of hone 1 f1 rfl
  exact ⟨c0, c1, y0, y1, m, rfl, by rw [hx], by simpa [o0, k0] using h0, by simpa [o1, k1] using h1⟩
end

section
variable {H : Type} {enc : TypeId × Value → H} {W : World}
theorem open_txts {fuel : Nat} {c : Value} {y : DataW H × List MemPlace} (h : DataW.trod enc Tryz.prog W 0 (fun _ => true) true fuel 37 [c] = some y) :
    ∃ oa cap l, c = .slice oa (List.length l) cap ∧ StrRow W oa l ∧ (∀ x ∈ l, List.length x < Rows.uptoBulk y.1) ∧ l.length < Rows.uptoBulk y.1 := by
  obtain ⟨oa, cap, l, h1, _, h3, h4, h5⟩ := open_rows (fun (x : Str) cs => cs = [.string ⟨x.toArray⟩]) (fun x => x.length) Tryz.underlying37 (k := 1) (by kernel_rfl) (by omega) (fun cs D Pl n hl ht => by
    obtain ⟨c0, rfl⟩ : ∃ a, cs = [a] := by
      match cs, hl with
      | [a], _ => exact ⟨a, rfl⟩
    obtain ⟨s, e, x, _⟩ := DataW.trod_string Tryz.underlying9 ht
    simp only [Prod.mk.injEq] at x
    obtain ⟨rfl, -⟩ := x
    exact ⟨s.data.toList, e, by simp [Rows.uptoBulk]⟩) h
  refine ⟨oa, cap, l, h1, fun i hi => ?_, h4, h5⟩
  obtain ⟨b, o, cs, e, hlt, hl, hc, rfl⟩ := h3 i hi
  refine ⟨b, o, e, ?_⟩
  have := hc 0 _ rfl
  simpa using this
theorem open_nodes {fuel : Nat} {c : Value} {y : DataW H × List MemPlace} (h : DataW.trod enc Tryz.prog W 0 (fun _ => true) true fuel 26 [c] = some y) :
    ∃ oa cap l, c = .slice oa (List.length l) cap ∧ RowRd encN 3 W oa l ∧ (∀ x ∈ l, x.name.length < Rows.uptoBulk y.1) ∧ l.length < Rows.uptoBulk y.1 := by
  obtain ⟨oa, cap, l, h1, _, h3, h4, h5⟩ := open_rows (fun (x : NodeS) cs => cs = encN x) (fun x => x.name.length) Tryz.underlying26 (k := 3) (by kernel_rfl) (by omega) (fun cs D Pl n hl ht => by
    obtain ⟨c0, c1, c2, y0, y1, y2, m, rfl, hD, h0, h1, h2⟩ := open_flat3 Tryz.underlying32 (by kernel_rfl) hl ht
    obtain ⟨s, e0, x0, _⟩ := DataW.trod_string Tryz.underlying9 h0
    obtain ⟨a, e1, x1, _⟩ := DataW.trod_int Tryz.underlying3 h1
    obtain ⟨b, e2, x2, _⟩ := DataW.trod_int Tryz.underlying3 h2
    simp only at hD
    subst hD
    injection e0 with e0; injection e1 with e1; injection e2 with e2
    subst e0; subst e1; subst e2
    exact ⟨⟨s.data.toList, a, b⟩, rfl, by simp [Rows.uptoBulk, Rows.uptoBulkAll, x0]; omega⟩) h
  refine ⟨oa, cap, l, h1, fun i hi => ?_, h4, h5⟩
  obtain ⟨b, o, cs, e, hlt, hl, hc, rfl⟩ := h3 i hi
  exact ⟨b, o, e, hlt, hc⟩
theorem open_edges {fuel : Nat} {c : Value} {y : DataW H × List MemPlace} (h : DataW.trod enc Tryz.prog W 0 (fun _ => true) true fuel 27 [c] = some y) :
    ∃ oa cap l, c = .slice oa (List.length l) cap ∧ RowRd encE 3 W oa l ∧ l.length < Rows.uptoBulk y.1 := by
  obtain ⟨oa, cap, l, h1, _, h3, h4, h5⟩ := open_rows (fun (x : EdgeS) cs => cs = encE x) (fun x => 0) Tryz.underlying27 (k := 3) (by kernel_rfl) (by omega) (fun cs D Pl n hl ht => by
    obtain ⟨c0, c1, c2, y0, y1, y2, m, rfl, hD, h0, h1, h2⟩ := open_flat3 Tryz.underlying58 (by kernel_rfl) hl ht
    obtain ⟨s, e0, x0, _⟩ := DataW.trod_string Tryz.underlying9 h0
    obtain ⟨a, e1, x1, _⟩ := DataW.trod_string Tryz.underlying9 h1
    obtain ⟨b, e2, x2, _⟩ := DataW.trod_int Tryz.underlying3 h2
    injection e0 with e0; injection e1 with e1; injection e2 with e2
    subst e0; subst e1; subst e2
    exact ⟨⟨s.data.toList, a.data.toList, b⟩, rfl, Nat.zero_le _⟩) h
  refine ⟨oa, cap, l, h1, fun i hi => ?_, h5⟩
  obtain ⟨b, o, cs, e, hlt, hl, hc, rfl⟩ := h3 i hi
  exact ⟨b, o, e, hlt, hc⟩
/-- A graph, opened. -/
theorem open_graph {v : Value} {d : DataW H} {ps : List MemPlace} {r : Reach} {b0 : Nat} (hval : Value.okWide Tryz.prog W r b0 29 v) (h : DataW.Trod enc Tryz.prog W 0 (fun _ => true) true 29 v d ps) :
    ∃ on cn ns oe ce es, v = .agg #[.slice on (List.length ns) cn, .slice oe (List.length es) ce] ∧ RowRd encN 3 W on ns ∧ RowRd encE 3 W oe es ∧ (∀ x ∈ ns, x.name.length < Rows.uptoBulk d) ∧ ns.length < Rows.uptoBulk d ∧ es.length < Rows.uptoBulk d := by
  obtain ⟨c0, c1, y0, y1, n, rfl, rfl, _, h0, h1⟩ := open_agg2 Tryz.underlying29 (by kernel_rfl) (by kernel_rfl) hval h
  obtain ⟨on, cn, ns, rfl, hn, hs, hz⟩ := open_nodes h0
  obtain ⟨oe, ce, es, rfl, he, hz2⟩ := open_edges h1
  refine ⟨on, cn, ns, oe, ce, es, rfl, hn, he, fun x hx => ?_, ?_, ?_⟩
  · have := hs x hx
    simp only [Rows.uptoBulk, Rows.uptoBulkAll]; omega
  · simp only [Rows.uptoBulk, Rows.uptoBulkAll]; omega
  · simp only [Rows.uptoBulk, Rows.uptoBulkAll]; omega
end
end Go.Proofs.YtcaamakodneplaaGreat

/-
  Package matinslaw15: what shown looks at, in plain.
-/
namespace Go.Proofs.YtcaamakodneplaaGreat
open Go
set_option linter.unusedVariables false
set_option maxRecDepth 100000

abbrev sA : Str := [97, 46, 115, 101, 114, 118, 105, 99, 101]
abbrev sB : Str := [98, 46, 116, 97, 114, 103, 101, 116]
/-- The three units of some. -/
def someL : List LdS := [⟨sB, 2, [], 0, false, [], [], [], [], []⟩, ⟨sA, 1, sA, 1, true, [⟨6, sB⟩], [], [], [], []⟩, ⟨sFirst, 2, [], 0, false, [], [], [], [], []⟩]
theorem some_nodes : nodesS someL = [⟨sA, 1, 1⟩, ⟨sB, 4, 2⟩, ⟨sFirst, 4, 2⟩] := by decide +kernel
theorem some_edges : edgesS someL = [⟨sA, sB, 6⟩, ⟨sA, sFirst, 1⟩, ⟨sA, sFirst, 8⟩] := by decide +kernel
theorem some_out : outS (edgesS someL) sA 1 = [sFirst] := by rw [some_edges]; decide +kernel
theorem some_in : inS (edgesS someL) sB 6 = [sA] := by rw [some_edges]; decide +kernel
theorem some_may : mayG (nodesS someL) (edgesS someL) = true := by rw [some_edges, some_nodes]; decide +kernel
theorem some_node : nodeOf (nodesS someL) sA = some ⟨sA, 1, 1⟩ := by rw [some_nodes]; decide +kernel
end Go.Proofs.YtcaamakodneplaaGreat

/-
  Package name: cut, plain, Suffix.
-/
namespace Go.Proofs.YtcaamakodneplaaGreat
open Go Go.RowKit
set_option linter.unusedVariables false
set_option maxRecDepth 100000

theorem lastIdx_pt (s : ByteArray) : (Lib.lastIndexByte s 46 = -1 ∧ lastPt s.data.toList = none) ∨ ∃ a b, Lib.lastIndexByte s 46 = (a.length : Int) ∧ lastPt s.data.toList = some (a, b) ∧ s.data.toList = a ++ 46 :: b := by
  have hl : s.data.toList.length = s.size := by simp
  have hget : ∀ j (h : j < s.size), s.data[j]! = s.data.toList[j]'(by rw [hl]; exact h) := fun j h => by
    rw [getElem!_pos s.data j (by exact h)]; simp
  unfold Lib.lastIndexByte
  rcases Lib.lastIdx_spec s 46 s.size with ⟨h1, h2⟩ | ⟨i, hi, h1, h3, h4⟩
  · refine .inl ⟨h1, lastPt_no ?_⟩
    rw [← Bool.not_eq_true, List.contains_iff_mem]
    intro hm
    obtain ⟨j, hj, e⟩ := List.getElem_of_mem hm
    rw [hl] at hj
    have := h2 j hj
    rw [hget j hj, e] at this
    exact this rfl
  · have hi' : i < s.data.toList.length := by rw [hl]; exact hi
    have e46 : s.data.toList[i] = 46 := by
      rw [hget i hi] at h3
      rw [← UInt8.toNat_inj]
      have : ((46 : UInt8).toNat : Int) = 46 := rfl
      omega
    have hs : s.data.toList = s.data.toList.take i ++ 46 :: s.data.toList.drop (i + 1) := by
      conv => lhs; rw [← List.take_append_drop i s.data.toList, List.drop_eq_getElem_cons hi', e46]
    have hno : (s.data.toList.drop (i + 1)).contains 46 = false := by
      rw [← Bool.not_eq_true, List.contains_iff_mem]
      intro hm
      obtain ⟨j, hj, e⟩ := List.getElem_of_mem hm
      rw [List.getElem_drop] at e
      simp at hj
      have := h4 (i + 1 + j) (by omega) (by omega)
      rw [hget _ (by omega), e] at this
      exact this rfl
    refine .inr ⟨s.data.toList.take i, s.data.toList.drop (i + 1), ?_, ?_, hs⟩
    · rw [h1, List.length_take, Nat.min_eq_left (by omega)]
    · rw [hs, lastPt_app _ hno]
      conv => rhs; rw [← hs]

theorem ext_str' (s : ByteArray) (a b : Nat) (l : Str) (h : (s.extract a b).data.toList = l) : s.extract a b = ⟨l.toArray⟩ := by
  apply bytes_ext; rw [h]

set_option maxHeartbeats 1000000 in
theorem cut_any (s : ByteArray) (w : World) (hs : s.size < 4611686018427387904) (a b : Str) (hc : cutPt s.data.toList = (a, b)) :
    Calls Tryz.prog 64 #[.string s] w fun e w' => e = .returned (.tuple #[.string ⟨a.toArray⟩, .string ⟨b.toArray⟩]) ∧ ∃ n, w' = w.drewN n := by
  unfold cutPt at hc
  have HC := Lib.hid (Tryz.strings_LastIndex_one s ⟨#[46]⟩ rfl hs w)
  rcases lastIdx_pt s with ⟨h1, h2⟩ | ⟨x, y, h1, h2, h3⟩
  · rw [h2] at hc
    have : a = [] ∧ b = [] := by simp at hc; exact ⟨hc.1, hc.2⟩
    obtain ⟨rfl, rfl⟩ := this
    have H1 := Lib.hid h1; clear h1 h2 hc
    go_enter Tryz.func64, Tryz.ntmps64
    go_wp2_with fail
    refine HC.out.mono ?_
    rintro e w' ⟨rfl, rfl⟩
    have e1 : Lib.lastIndexByte s (((⟨#[46]⟩ : ByteArray)[0]'(by decide)).toNat : Int) = -1 := H1.out
    rw [e1]
    clear e1
    go_wp2_with fail
    go_ret2
    exact ⟨rfl, 0, rfl⟩
  · rw [h2] at hc
    have : x = a ∧ y = b := by simp at hc; exact hc
    obtain ⟨rfl, rfl⟩ := this
    have hxl : x.length + 1 ≤ s.size := by
      have : s.data.toList.length = s.size := by simp
      rw [← this, h3]; simp
    have H1 := Lib.hid h1
    have HA := Lib.hid (show s.extract 0 x.length = ⟨x.toArray⟩ from ext_str' s 0 x.length _ (by rw [Lib.extract_data, h3]; simp))
    have HB := Lib.hid (show s.extract (x.length + 1) s.size = ⟨y.toArray⟩ from ext_str' s _ _ _ (by rw [Lib.extract_to_end, h3]; simp))
    clear h1 h2 h3 hc
    have hx1 : x.length ≤ s.size := by omega
    have hx2 : ((x.length : Int) + 1) ≤ (s.size : Int) := by omega
    have k1 : IntKind.i64.wrap ((x.length : Int) + 1) = (x.length : Int) + 1 := IntWalk.i64_in _ (by omega)
    have k2 : 0 ≤ (x.length : Int) + 1 := by omega
    have k3 : ((x.length : Int) + 1).toNat = x.length + 1 := by omega
    go_enter Tryz.func64, Tryz.ntmps64
    go_wp2_with fail
    refine HC.out.mono ?_
    rintro e w' ⟨rfl, rfl⟩
    have e1 : Lib.lastIndexByte s (((⟨#[46]⟩ : ByteArray)[0]'(by decide)).toNat : Int) = (x.length : Int) := H1.out
    rw [e1]
    clear e1
    go_wp2_with fail
    go_quiet (fail)
    go_wp2_with fail
    go_ret2
    refine ⟨?_, _, rfl⟩
    rw [← HA.out, ← HB.out]
    rfl

theorem cutAt_lib (s : Str) : Lib.cut s [64] = cutAt s := by
  have key : ∀ (s : Str), (Lib.index s [64] = -1 ∧ cutAt s = (s, [], false)) ∨ ∃ a b, Lib.index s [64] = (a.length : Int) ∧ s = a ++ 64 :: b ∧ cutAt s = (a, b, true) := by
    intro s
    induction s with
    | nil => exact .inl ⟨rfl, rfl⟩
    | cons c r ih =>
      cases hc : (c == 64) with
      | true =>
        have := eq_of_beq hc
        subst this
        refine .inr ⟨[], r, ?_, rfl, by simp [cutAt]⟩
        unfold Lib.index
        rw [show List.isPrefixOf [64] (64 :: r) = true by simp [List.isPrefixOf]]
        rfl
      | false =>
        have hp : List.isPrefixOf [64] (c :: r) = false := by
          simp only [List.isPrefixOf, Bool.and_true]
          rw [beq_eq_false_iff_ne] at hc ⊢
          exact fun e => hc e.symm
        rcases ih with ⟨h1, h2⟩ | ⟨a, b, h1, h2, h3⟩
        · refine .inl ⟨?_, by simp [cutAt, hc, h2]⟩
          unfold Lib.index
          rw [hp, h1]; rfl
        · refine .inr ⟨c :: a, b, ?_, by rw [h2]; rfl, by simp [cutAt, hc, h3]⟩
          unfold Lib.index
          rw [hp, h1]
          have : ((a.length : Int) == -1) = false := by rw [beq_eq_false_iff_ne]; omega
          simp [this]
  unfold Lib.cut
  rcases key s with ⟨h1, h2⟩ | ⟨a, b, h1, h2, h3⟩
  · rw [h1, h2]; simp
  · rw [h1, h3, if_pos (by omega), h2]
    simp

theorem cutAt_any (s : ByteArray) (w : World) (hs : s.size < 4294967281) (hm : MaxAt w) (a b : Str) (f : Bool) (hc : cutAt s.data.toList = (a, b, f)) :
    Calls Tryz.prog 66 #[.string s, .string ⟨#[64]⟩] w fun e w' => e = .returned (.tuple #[.string ⟨a.toArray⟩, .string ⟨b.toArray⟩, .bool f]) ∧ ∃ n, w' = w.drewN n := by
  obtain ⟨m, hm⟩ := hm
  refine (Tryz.strings_Cut s ⟨#[64]⟩ m w hs hm).mono ?_
  rintro e w' ⟨rfl, hw⟩
  refine ⟨?_, hw⟩
  show Ending.returned (.tuple #[.string ⟨(Lib.cut s.data.toList [64]).1.toArray⟩, .string ⟨(Lib.cut s.data.toList [64]).2.1.toArray⟩, .bool (Lib.cut s.data.toList [64]).2.2]) = _
  rw [cutAt_lib, hc]

/-- The string of a kind's suffix. -/
def sufI (n : Int) : Str := if n = 1 then sService else if n = 2 then sSocket else if n = 3 then sTimer else if n = 4 then sTarget else []
theorem sufI_nat (k : Nat) : sufI (k : Int) = sufS k := by
  unfold sufI sufS
  by_cases h1 : k = 1
  · subst h1; rfl
  by_cases h2 : k = 2
  · subst h2; rfl
  by_cases h3 : k = 3
  · subst h3; rfl
  by_cases h4 : k = 4
  · subst h4; rfl
  rw [if_neg (by omega), if_neg (by omega), if_neg (by omega), if_neg (by omega), if_neg h1, if_neg h2, if_neg h3, if_neg h4]

set_option maxHeartbeats 400000 in
theorem suffix_any (n : Int) (w : World) (t : Str) (ht : sufI n = t) :
    Calls Tryz.prog 65 #[.int .i64 n] w fun e w' => e = .returned (.string ⟨t.toArray⟩) ∧ w = w' := by
  subst ht
  by_cases h1 : n = 1
  · subst h1
    go_enter Tryz.func65, Tryz.ntmps65
    go_wp2
    go_ret
    exact ⟨rfl, rfl⟩
  by_cases h2 : n = 2
  · subst h2
    clear h1
    go_enter Tryz.func65, Tryz.ntmps65
    go_wp2
    go_ret
    exact ⟨rfl, rfl⟩
  by_cases h3 : n = 3
  · subst h3
    clear h1 h2
    go_enter Tryz.func65, Tryz.ntmps65
    go_wp2
    go_ret
    exact ⟨rfl, rfl⟩
  by_cases h4 : n = 4
  · subst h4
    clear h1 h2 h3
    go_enter Tryz.func65, Tryz.ntmps65
    go_wp2
    go_ret
    exact ⟨rfl, rfl⟩
  have e : sufI n = [] := by unfold sufI; rw [if_neg h1, if_neg h2, if_neg h3, if_neg h4]
  rw [e]
  have q1 : (n == 1) = false := by rw [beq_eq_false_iff_ne]; exact h1
  have q2 : (n == 2) = false := by rw [beq_eq_false_iff_ne]; exact h2
  have q3 : (n == 3) = false := by rw [beq_eq_false_iff_ne]; exact h3
  have q4 : (n == 4) = false := by rw [beq_eq_false_iff_ne]; exact h4
  clear e h1 h2 h3 h4
  go_enter Tryz.func65, Tryz.ntmps65
  go_wp2
  go_ret
  exact ⟨rfl, rfl⟩

/-- The closure that In gives, at a variable that holds a text. -/
theorem in1_any (c : UInt8) (b : Nat) (t : ByteArray) (w : World) (hl : w.cell? ⟨b, 0, none⟩ = some (.string t)) (r : Bool) (hr : t.data.toList.contains c = r) :
    Calls Tryz.prog 122 #[.int .u8 c.toNat, .pointer (some ⟨b, 0, none⟩)] w fun e w' => e = .returned (.bool r) ∧ w = w' := by
  have hix : decide (0 ≤ Lib.indexByte t.data.toList c) = r := by
    rw [← hr]
    have key : ∀ l : Str, (0 ≤ Lib.indexByte l c ∧ l.contains c = true) ∨ (Lib.indexByte l c = -1 ∧ l.contains c = false) := by
      intro l
      induction l with
      | nil => exact .inr ⟨rfl, rfl⟩
      | cons x l ih =>
        by_cases hx : x = c
        · subst hx
          exact .inl ⟨by simp [Lib.indexByte], by simp⟩
        · rcases ih with ⟨h1, h2⟩ | ⟨h1, h2⟩
          · left
            refine ⟨?_, by rw [List.contains_cons, h2, Bool.or_true]⟩
            have : ¬ Lib.indexByte l c = -1 := by omega
            simp [Lib.indexByte, hx, this]
            omega
          · right
            refine ⟨by simp [Lib.indexByte, hx, h1], ?_⟩
            rw [List.contains_cons, h2, Bool.or_false, beq_eq_false_iff_ne]
            exact fun e => hx e.symm
    rcases key t.data.toList with ⟨h1, h2⟩ | ⟨h1, h2⟩
    · rw [h2]; simpa using h1
    · rw [h2, h1]; rfl
  have HI := Lib.hid hix; clear hix hr
  have HC := Lib.hid (Tryz.strings_IndexByte t c.toNat w)
  go_enter Tryz.func122, Tryz.ntmps122
  go_wp2_with fail
  refine HC.out.mono ?_
  rintro e w' ⟨rfl, rfl⟩
  rw [u8_cast]
  go_wp2_with fail
  go_ret
  exact ⟨ret_bool HI.out, rfl⟩
set_option maxHeartbeats 400000 in
theorem in_any (s : ByteArray) (w : World) :
    Calls Tryz.prog 92 #[.string s] w fun e w' => e = .returned (.func (.func 122) #[] #[.pointer (some ⟨w.heap.size, 0, none⟩)]) ∧ w' = w.alloc (.cells #[.string s] 9) := by
  go_enter Tryz.func92, Tryz.ntmps92
  go_wp2
  go_ret
  exact ⟨rfl, rfl⟩
theorem enters_in1 (args : Array Value) (w : World) : (callFunc 122 args).run Tryz.prog w = .ok (.enter 122 args) w := enters_of Tryz.func122 (by kernel_rfl) rfl args w
end Go.Proofs.YtcaamakodneplaaGreat

/-
  Package name: plain, Kind, May, Change.
-/
namespace Go.Proofs.YtcaamakodneplaaGreat
open Go Go.RowKit
set_option linter.unusedVariables false
set_option maxRecDepth 100000

theorem nameB_any (s : Str) : s.all (fun c => ([isLetter, isDigit, fun c => ([58, 45, 95, 46, 92] : Str).contains c] : List (UInt8 → Bool)).any fun p => p c) = nameB s := by
  unfold nameB
  congr 1
  funext c
  simp [nameC]

set_option maxHeartbeats 1000000 in
theorem plain_any (s : ByteArray) (w : World) (h63 : s.size ≤ 9223372036854775807) (b : Bool) (hb : nameB s.data.toList = b) :
    Calls Tryz.prog 67 #[.string s] w fun e w' => e = .returned (.bool b) ∧ Below w.heap.size w w' := by
  rw [← nameB_any] at hb
  let w1 := w.alloc (.cells #[.string ⟨#[58, 45, 95, 46, 92]⟩] 9)
  let w2 := w1.alloc (.cells #[.func (.func 90) #[] #[], .func (.func 91) #[] #[], .func (.func 122) #[] #[.pointer (some ⟨w.heap.size, 0, none⟩)]] 86)
  have hB : Below w.heap.size w (w2.alloc (.cells #[.slice (some ⟨w.heap.size + 1, 0, none⟩) 3 3] 147)) :=
    (((Below.refl _ _).alloc (Nat.le_refl _) _).alloc (by simp) _).alloc (by simp; omega) _
  have HA : ∀ w' : World, w' = (w2.alloc (.cells #[.slice (some ⟨w.heap.size + 1, 0, none⟩) 3 3] 147)) →
      Calls Tryz.prog 88 #[.string s, .func (.func 121) #[] #[.pointer (some ⟨w.heap.size + 1 + 1, 0, none⟩)]] w' fun e w'' => e = .returned (.bool b) ∧ w' = w'' := by
    intro w' hw'
    have z1 : w1.heap.size = w.heap.size + 1 := by simp [w1]
    have z2 : w2.heap.size = w.heap.size + 1 + 1 := by simp [w2, z1]
    have h0 : w'.heap[w.heap.size]? = some (.cells #[.string ⟨#[58, 45, 95, 46, 92]⟩] 9 (0, 0)) := by
      rw [hw']; exact heap_alloc (heap_alloc (heap_alloc_new w _) _) _
    have h2 : w'.heap[w.heap.size + 1]? = some (.cells #[.func (.func 90) #[] #[], .func (.func 91) #[] #[], .func (.func 122) #[] #[.pointer (some ⟨w.heap.size, 0, none⟩)]] 86 (0, 0)) := by
      rw [hw', ← z1]; exact heap_alloc (heap_alloc_new w1 _) _
    have h1 : w'.cell? ⟨w.heap.size + 1 + 1, 0, none⟩ = some (.slice (some ⟨w.heap.size + 1, 0, none⟩) 3 3) := by
      have h0 : w'.heap[w.heap.size + 1 + 1]? = some (.cells #[.slice (some ⟨w.heap.size + 1, 0, none⟩) 3 3] 147 (0, 0)) := by
        rw [hw', ← z2]
        exact heap_alloc_new w2 _
      rw [(rd h0).1]; rfl
    obtain ⟨hc, _⟩ := rd h2
    have hs : w'.cell? ⟨w.heap.size, 0, none⟩ = some (.string ⟨#[58, 45, 95, 46, 92]⟩) := by rw [(rd h0).1]; rfl
    refine all_b s 121 #[] _ (fun c => ([isLetter, isDigit, fun c => ([58, 45, 95, 46, 92] : Str).contains c] : List (UInt8 → Bool)).any fun p => p c) b w' h63 enters_any1 (fun c => ?_) hb
    refine (any1_any c (w.heap.size + 1 + 1) (w.heap.size + 1) 3 [isLetter, isDigit, fun c => ([58, 45, 95, 46, 92] : Str).contains c] w' h1 (by simp) ?_).mono ?_
    · intro i hi
      match i, hi with
      | 0, _ => exact ⟨_, hc 0, _, _, _, rfl, enters_letter, fun c => letter_any c w'⟩
      | 1, _ => exact ⟨_, hc 1, _, _, _, rfl, enters_digit, fun c => digit_any c w'⟩
      | 2, _ => exact ⟨_, hc 2, _, _, _, rfl, enters_in1, fun c => in1_any c w.heap.size _ w' hs _ rfl⟩
      | n + 3, hi => exact absurd hi (by simp)
    · rintro e w'' ⟨rfl, rfl⟩
      exact ⟨rfl, rfl⟩
  have HH := Lib.hid HA; clear HA hb
  have HB := Lib.hid hB; clear hB
  go_enter Tryz.func67, Tryz.ntmps67
  go_wp2_with (first
    | (go_at_call 92; refine (in_any _ _).mono ?_; rintro e w' ⟨rfl, rfl⟩)
    | (go_at_call 89; refine (any_any _ _ _ _).mono ?_; rintro e w' ⟨rfl, rfl⟩)
    | (go_at_call 88; refine ((HH.out _ (by simp [w1, w2])).mono ?_); rintro e w' ⟨rfl, rfl⟩))
  go_ret
  exact ⟨rfl, HB.out⟩

theorem kindOf_suf (k : Nat) (h1 : 1 ≤ k) (h4 : k ≤ 4) : kindOf (sufS k) = k := by
  match k, h1, h4 with
  | 1, _, _ => decide
  | 2, _, _ => decide
  | 3, _, _ => decide
  | 4, _, _ => decide
theorem kindOf_none {t : Str} (h : ∀ j, 1 ≤ j → j < 5 → sufS j ≠ t) : kindOf t = 0 := by
  unfold kindOf
  rw [if_neg (fun e => h 1 (by omega) (by omega) e.symm), if_neg (fun e => h 2 (by omega) (by omega) e.symm), if_neg (fun e => h 3 (by omega) (by omega) e.symm), if_neg (fun e => h 4 (by omega) (by omega) e.symm)]

set_option maxHeartbeats 2000000 in
theorem kind_any (s : ByteArray) (w : World) (hs : s.size < 4294967281) (hm : MaxAt w) (n : Nat) (hn : kindS s.data.toList = n) :
    Calls Tryz.prog 48 #[.string s] w fun e w' => e = .returned (.int .i64 n) ∧ Below w.heap.size w w' := by
  obtain ⟨a, b, hab⟩ : ∃ a b, cutPt s.data.toList = (a, b) := ⟨_, _, rfl⟩
  obtain ⟨p, i, f, hpi⟩ : ∃ p i f, cutAt a = (p, i, f) := ⟨_, _, _, rfl⟩
  have hl : s.data.toList.length = s.size := by simp
  have hal : a.length ≤ s.size := by have := (cutPt_len s.data.toList).1; rw [hab, hl] at this; exact this
  have hpl : p.length ≤ s.size := by have := (cutAt_len a).1; rw [hpi] at this; exact Nat.le_trans this hal
  have hil : i.length ≤ s.size := by have := (cutAt_len a).2; rw [hpi] at this; exact Nat.le_trans this hal
  unfold kindS at hn
  rw [hab] at hn
  simp only [hpi, hl] at hn
  obtain ⟨A, hA⟩ : ∃ A : ByteArray, A = ⟨a.toArray⟩ := ⟨_, rfl⟩
  obtain ⟨B, hB⟩ : ∃ B : ByteArray, B = ⟨b.toArray⟩ := ⟨_, rfl⟩
  obtain ⟨P, hP⟩ : ∃ P : ByteArray, P = ⟨p.toArray⟩ := ⟨_, rfl⟩
  obtain ⟨I, hI⟩ : ∃ I : ByteArray, I = ⟨i.toArray⟩ := ⟨_, rfl⟩
  have HC1 := Lib.hid (cut_any s w (by omega) a b hab)
  have HC2 := Lib.hid (fun w' (h : Below w.heap.size w w') => cutAt_any A w' (by subst hA; show a.toArray.size < _; simp; omega) (hm.below h) p i f (by subst hA; exact hpi))
  have HP := Lib.hid (fun w' (c : Bool) (h : nameB p = c) => plain_any P w' (by subst hP; show p.toArray.size ≤ _; simp; omega) c (by subst hP; exact h))
  have HI := Lib.hid (fun w' (c : Bool) (h : nameB i = c) => plain_any I w' (by subst hI; show i.toArray.size ≤ _; simp; omega) c (by subst hI; exact h))
  rw [← hA, ← hB] at HC1
  rw [← hP, ← hI] at HC2
  have hPe : P.size = p.length := by subst hP; show p.toArray.size = _; simp
  by_cases h60 : 60 < s.size
  · rw [if_neg (by omega)] at hn
    subst hn
    clear hab hpi hA hB hP hI HP HI hPe hal hpl hil hl
    go_enter Tryz.func48, Tryz.ntmps48
    go_wp2_with (first
      | (go_at_call 64; refine HC1.out.mono ?_; rintro e w' ⟨rfl, n, rfl⟩)
      | (go_at_call 66; refine (HC2.out _ (below_dn ⟨_, rfl⟩)).mono ?_; rintro e w' ⟨rfl, n, rfl⟩)
      | fail)
    go_ret
    exact ⟨rfl, below_dn ⟨_, rfl⟩⟩
  by_cases h0 : p = []
  · rw [if_neg (by intro e; exact e.2.1 h0)] at hn
    subst hn h0
    have hPn : P = ⟨#[]⟩ := hP
    subst hPn
    clear hab hpi hA hB hP hI HP HI hPe hal hpl hil hl
    go_enter Tryz.func48, Tryz.ntmps48
    go_wp2_with (first
      | (go_at_call 64; refine HC1.out.mono ?_; rintro e w' ⟨rfl, n, rfl⟩)
      | (go_at_call 66; refine (HC2.out _ (below_dn ⟨_, rfl⟩)).mono ?_; rintro e w' ⟨rfl, n, rfl⟩)
      | fail)
    go_ret
    exact ⟨rfl, below_dn ⟨_, rfl⟩⟩
  obtain ⟨n1, n2, n3, n4⟩ := str_ne (s := P) (by rw [hPe]; exact fun e => h0 (List.length_eq_zero_iff.mp e))
  cases hp : nameB p with
  | false =>
    rw [if_neg (by rw [hp]; rintro ⟨_, _, e, _⟩; cases e)] at hn
    subst hn
    have HP' := Lib.hid (fun w' => HP.out w' false hp)
    clear hab hpi hA hB hP hI HP HI hPe hal hpl hil hl hp h0
    go_enter Tryz.func48, Tryz.ntmps48
    go_wp2_with (first
      | (go_at_call 64; refine HC1.out.mono ?_; rintro e w' ⟨rfl, n, rfl⟩)
      | (go_at_call 66; refine (HC2.out _ (below_dn ⟨_, rfl⟩)).mono ?_; rintro e w' ⟨rfl, n, rfl⟩)
      | (go_at_call 67; refine (HP'.out _).mono ?_; rintro e w' ⟨rfl, hb1⟩))
    go_ret
    exact ⟨rfl, Below.more (below_dn ⟨_, rfl⟩) hb1⟩
  | true =>
  have HP' := Lib.hid (fun w' => HP.out w' true hp)
  cases hi : nameB i with
  | false =>
    rw [if_neg (by rw [hi]; rintro ⟨_, _, _, e⟩; cases e)] at hn
    subst hn
    have HI' := Lib.hid (fun w' => HI.out w' false hi)
    clear hab hpi hA hB hP hI HP HI hPe hal hpl hil hl hp h0 hi
    go_enter Tryz.func48, Tryz.ntmps48
    go_wp2_with (first
      | (go_at_call 64; refine HC1.out.mono ?_; rintro e w' ⟨rfl, n, rfl⟩)
      | (go_at_call 66; refine (HC2.out _ (below_dn ⟨_, rfl⟩)).mono ?_; rintro e w' ⟨rfl, n, rfl⟩)
      | fail)
    with_reducible refine (HP'.out _).mono ?_
    rintro e w' ⟨rfl, hb1⟩
    go_wp2_with fail
    with_reducible refine (HI'.out _).mono ?_
    rintro e w'' ⟨rfl, hb2⟩
    go_wp2_with fail
    go_ret
    exact ⟨rfl, Below.more (Below.more (below_dn ⟨_, rfl⟩) hb1) hb2⟩
  | true =>
    rw [if_pos ⟨by omega, h0, hp, hi⟩] at hn
    subst hn
    have HI' := Lib.hid (fun w' => HI.out w' true hi)
    have HS := Lib.hid (fun (w' : World) (k : Nat) => suffix_any (k : Int) w' (sufS k) (sufI_nat k))
    obtain ⟨SF, hSF⟩ : ∃ SF : Nat → ByteArray, ∀ k, SF k = ⟨(sufS k).toArray⟩ := ⟨_, fun _ => rfl⟩
    have HB' := Lib.hid (fun k => show (SF k = B) ↔ sufS k = b by rw [hSF, hB]; simp)
    have HSF := Lib.hid hSF
    clear hSF hab hpi hA hB hP hI HP HI hPe hal hpl hil hl hp h0 hi
    go_enter Tryz.func48, Tryz.ntmps48
    go_wp2_with (first
      | (go_at_call 64; refine HC1.out.mono ?_; rintro e w' ⟨rfl, n, rfl⟩)
      | (go_at_call 66; refine (HC2.out _ (below_dn ⟨_, rfl⟩)).mono ?_; rintro e w' ⟨rfl, n, rfl⟩)
      | fail)
    with_reducible refine (HP'.out _).mono ?_
    rintro e w' ⟨rfl, hb1⟩
    go_wp2_with fail
    with_reducible refine (HI'.out _).mono ?_
    rintro e w'' ⟨rfl, hb2⟩
    go_wp2_with fail
    have hbb := Below.more (Below.more (below_dn (a := w) ⟨_, rfl⟩) hb1) hb2
    clear hb1 hb2
    go_loop [8] (fun i => ∃ k : Nat, 1 ≤ k ∧ k ≤ 5 ∧ i = .int .i64 k ∧ Hid (∀ j, 1 ≤ j → j < k → sufS j ≠ b)) (fun i => 5 - (intOf i).toNat)
    case atStart => exact ⟨1, by omega, by omega, rfl, Lib.hid (fun j h1 h2 => by omega)⟩
    case round =>
      obtain ⟨k, hk1, hk5, rfl, hj⟩ := hrel
      by_cases hlt : k ≤ 4
      · by_cases hsk : sufS k = b
        · have e1 : SF k = B := (HB'.out k).mpr hsk
          have HK := Lib.hid (show kindOf b = k by rw [← hsk]; exact kindOf_suf k hk1 hlt)
          have HS1 := Lib.hid (HS.out w'' k)
          rw [← HSF.out, e1] at HS1
          clear hsk
          go_wp2_with (refine HS1.out.mono ?_; rintro e w3 ⟨rfl, rfl⟩)
          go_ret
          exact ⟨ret_int (by rw [HK.out]), hbb⟩
        · have e2 : ((SF k).toList == B.toList) = false := by rw [beq_eq_false_iff_ne]; exact fun e => hsk ((HB'.out k).mp (by rw [ByteArray.toList_eq, ByteArray.toList_eq] at e; exact bytes_ext e))
          have HS1 := Lib.hid (HS.out w'' k)
          have HJ := Lib.hid (show ∀ j, 1 ≤ j → j < k + 1 → sufS j ≠ b from fun j h1 h2 => by
            by_cases hjk : j = k
            · subst hjk; exact hsk
            · exact hj.out j h1 (by omega))
          rw [← HSF.out] at HS1
          clear hsk
          go_wp2_with (refine HS1.out.mono ?_; rintro e w3 ⟨rfl, rfl⟩)
          refine ⟨⟨k + 1, by omega, by omega, by go_num, HJ⟩, ?_⟩
          simp [intOf]; omega
      · have HK := Lib.hid (show kindOf b = 0 from kindOf_none fun j h1 h2 => hj.out j h1 (by omega))
        go_wp2_with fail
        go_ret
        exact ⟨ret_int (by rw [HK.out]; rfl), hbb⟩
end Go.Proofs.YtcaamakodneplaaGreat

/-
  Package name: May, Change.
-/
namespace Go.Proofs.YtcaamakodneplaaGreat
open Go Go.RowKit
set_option linter.unusedVariables false
set_option maxRecDepth 100000

theorem may_any (s : ByteArray) (w : World) (hs : s.size < 4294967281) (hm : MaxAt w) (b : Bool) (hb : decide (kindS s.data.toList ≠ 0) = b) :
    Calls Tryz.prog 47 #[.string s] w fun e w' => e = .returned (.bool b) ∧ Below w.heap.size w w' := by
  have HC := Lib.hid (kind_any s w hs hm _ rfl)
  have hb' : ((kindS s.data.toList : Int) != 0) = b := by
    rw [← hb]
    by_cases h : kindS s.data.toList = 0
    · rw [h]; rfl
    · have : ((kindS s.data.toList : Int) == 0) = false := by rw [beq_eq_false_iff_ne]; omega
      simp [bne, this, h]
  generalize kindS s.data.toList = n at HC hb'
  clear hb
  go_enter Tryz.func47, Tryz.ntmps47
  go_wp2_with (refine HC.out.mono ?_; rintro e w' ⟨rfl, hb1⟩)
  go_ret
  exact ⟨rfl, hb1⟩

theorem sufS_len (k : Nat) : (sufS k).length ≤ 7 := by
  unfold sufS; repeat' split <;> first | decide | skip

set_option maxHeartbeats 1000000 in
theorem change_any (s : ByteArray) (k : Nat) (w : World) (hs : s.size < 4294967200) (hm : MaxAt w) (t : Str) (ht : changeS s.data.toList k = t) :
    Calls Tryz.prog 45 #[.string s, .int .i64 k] w fun e w' => e = .returned (.string ⟨t.toArray⟩) ∧ Below w.heap.size w w' := by
  obtain ⟨a, b, hab⟩ : ∃ a b, cutPt s.data.toList = (a, b) := ⟨_, _, rfl⟩
  have hl : s.data.toList.length = s.size := by simp
  have hal : a.length ≤ s.size := by have := (cutPt_len s.data.toList).1; rw [hab, hl] at this; exact this
  unfold changeS at ht
  rw [hab] at ht
  simp only at ht
  have HC1 := Lib.hid (cut_any s w (by omega) a b hab)
  have HS := Lib.hid (fun (w' : World) => suffix_any (k : Int) w' (sufS k) (sufI_nat k))
  obtain ⟨A, hA⟩ : ∃ A : ByteArray, A = ⟨a.toArray⟩ := ⟨_, rfl⟩
  obtain ⟨B, hB⟩ : ∃ B : ByteArray, B = ⟨b.toArray⟩ := ⟨_, rfl⟩
  obtain ⟨F, hF⟩ : ∃ F : ByteArray, F = ⟨(sufS k).toArray⟩ := ⟨_, rfl⟩
  obtain ⟨T, hT⟩ : ∃ T : ByteArray, T = (A ++ ⟨#[46]⟩) ++ F := ⟨_, rfl⟩
  have hTs : T.data.toList = a ++ 46 :: sufS k := by subst hT hA hF; simp [ByteArray.data_append]
  have hTz : T.size < 4294967281 := by
    have := sufS_len k
    have h2 : T.data.toList.length = T.size := by simp
    rw [← h2, hTs, List.length_append, List.length_cons]; omega
  have z1 : A.size < 4294967200 := by subst hA; show a.toArray.size < _; simp; omega
  have z2 : F.size ≤ 7 := by subst hF; show (sufS k).toArray.size ≤ _; simp; exact sufS_len k
  have z3 : (A ++ (⟨#[46]⟩ : ByteArray)).size = A.size + 1 := by rw [ByteArray.size_append]; rfl
  have HM1 := Lib.hid (fun w' (h : Below w.heap.size w w') c hc => may_any s w' (by omega) (hm.below h) c hc)
  have HM2 := Lib.hid (fun w' (h : Below w.heap.size w w') c hc => may_any T w' hTz (hm.below h) c hc)
  rw [← hA, ← hB] at HC1
  rw [← hF] at HS
  rw [← hTs] at ht
  by_cases h1 : kindS s.data.toList ≠ 0
  · have HM1' := Lib.hid (fun w' (h : Below w.heap.size w w') => HM1.out w' h true (by simpa using h1))
    by_cases h2 : kindS T.data.toList ≠ 0
    · rw [if_pos ⟨h1, h2⟩] at ht
      have HM2' := Lib.hid (fun w' (h : Below w.heap.size w w') => HM2.out w' h true (by simpa using h2))
      have hTt := Lib.hid (show T = ⟨t.toArray⟩ from bytes_ext (by rw [← ht, hTs]))
      clear HM1 HM2 h1 h2 ht hTs hTz hF hA hB hab hal hl
      subst hT
      go_enter Tryz.func45, Tryz.ntmps45
      go_wp2_with (first
        | (go_at_call 64; refine HC1.out.mono ?_; rintro e w' ⟨rfl, n, rfl⟩)
        | (go_at_call 65; refine (HS.out _).mono ?_; rintro e w' ⟨rfl, rfl⟩)
        | fail)
      refine (HM1'.out _ (below_dn ⟨_, rfl⟩)).mono ?_
      rintro e w' ⟨rfl, hb1⟩
      have hbb := Below.more (below_dn (a := w) ⟨_, rfl⟩) hb1
      clear hb1
      go_wp2_with fail
      refine (HM2'.out _ hbb).mono ?_
      rintro e w'' ⟨rfl, hb1⟩
      have hbc := Below.more hbb hb1
      clear hb1
      go_wp2_with fail
      go_ret
      exact ⟨ret_val (congrArg Value.string hTt.out), hbc⟩
    · rw [if_neg (by intro e; exact h2 e.2)] at ht
      subst ht
      have HM2' := Lib.hid (fun w' (h : Below w.heap.size w w') => HM2.out w' h false (by simpa using h2))
      clear HM1 HM2 h1 h2 hTs hTz hF hA hB hab hal hl
      subst hT
      go_enter Tryz.func45, Tryz.ntmps45
      go_wp2_with (first
        | (go_at_call 64; refine HC1.out.mono ?_; rintro e w' ⟨rfl, n, rfl⟩)
        | (go_at_call 65; refine (HS.out _).mono ?_; rintro e w' ⟨rfl, rfl⟩)
        | fail)
      refine (HM1'.out _ (below_dn ⟨_, rfl⟩)).mono ?_
      rintro e w' ⟨rfl, hb1⟩
      have hbb := Below.more (below_dn (a := w) ⟨_, rfl⟩) hb1
      clear hb1
      go_wp2_with fail
      refine (HM2'.out _ hbb).mono ?_
      rintro e w'' ⟨rfl, hb1⟩
      have hbc := Below.more hbb hb1
      clear hb1
      go_wp2_with fail
      go_ret
      exact ⟨rfl, hbc⟩
  · rw [if_neg (by intro e; exact h1 e.1)] at ht
    subst ht
    have HM1' := Lib.hid (fun w' (h : Below w.heap.size w w') => HM1.out w' h false (by simpa using h1))
    clear HM1 HM2 h1 hTs hTz hF hA hB hab hal hl
    go_enter Tryz.func45, Tryz.ntmps45
    go_wp2_with (first
      | (go_at_call 64; refine HC1.out.mono ?_; rintro e w' ⟨rfl, n, rfl⟩)
      | (go_at_call 65; refine (HS.out _).mono ?_; rintro e w' ⟨rfl, rfl⟩)
      | fail)
    refine (HM1'.out _ (below_dn ⟨_, rfl⟩)).mono ?_
    rintro e w' ⟨rfl, hb1⟩
    have hbb := Below.more (below_dn (a := w) ⟨_, rfl⟩) hb1
    clear hb1
    go_wp2_with fail
    go_ret
    exact ⟨rfl, hbb⟩
end Go.Proofs.YtcaamakodneplaaGreat

/-
  Operations on great structs, where the walk stands still: build, alloc, load and store of a whole one.
-/
namespace Go.Proofs.YtcaamakodneplaaGreat
open Go Go.RowKit
set_option linter.unusedVariables false
set_option maxRecDepth 100000

theorem oper_build {P : Program} {K : Act → World → Prop} {Q : Exit → Act → World → Prop} {a : Act} {w : World} {o : Oper} (t : TypeId) (parts : Array (Nat × Operand)) (vs : Array (Nat × Value)) (cells : Array Value) (ho : o.op = Op.build t parts)
    (hv : (parts.map fun x => (x.1, a.eval x.2)) = vs)
    (hb : (Instr.build t vs).run P w = .ok (.agg cells) w) (h : K (a.put o.dst (.agg cells)) w) : Oper.wp P o a w K Q := by
  unfold Oper.wp
  have : Sem.run P (execOp a.eval o) w = .ok (Next.value (.agg cells)) w := by
    unfold execOp
    simp only [ho]
    have hv' : (Array.map (fun x : Nat × Operand => match x with | (i, x) => (i, a.eval x)) parts) = vs := by rw [← hv]
    rw [hv']
    simp only [Sem.run_bind, hb]
    rfl
  rw [this, Oper.upon_value]
  exact h

theorem set_mid (l cs : List Value) (v : Value) (off : Nat) (h : off < cs.length) : (cs.set off v).take (off + 1) ++ l ++ (cs.set off v).drop (off + 1 + l.length) = cs.take off ++ (v :: l) ++ cs.drop (off + (v :: l).length) := by
  have e : cs = cs.take off ++ cs[off] :: cs.drop (off + 1) := by
    conv => lhs; rw [← List.take_append_drop off cs, List.drop_eq_getElem_cons h]
  have hA : (cs.take off).length = off := by rw [List.length_take]; omega
  generalize cs.take off = A at e hA
  generalize cs[off] = c at e
  generalize cs.drop (off + 1) = B at e
  subst e hA
  simp [List.take_append, List.drop_append]
  rw [List.take_of_length_le (by omega), List.drop_eq_nil_of_le (by omega)]
  simp only [List.nil_append]
  rw [show A.length + 1 + l.length - A.length = l.length + 1 by omega, @List.drop_eq_nil_of_le _ A (A.length + (l.length + 1)) (by omega)]
  simp

theorem heap_setCells {b : Nat} {T : TypeId} {fz : Nat × Nat} : ∀ (l : List Value) (off : Nat) {w : World} {cs : Array Value}, w.heap[b]? = some (.cells cs T fz) → off + l.length ≤ cs.size →
    (w.setCells b off l).heap[b]? = some (.cells (cs.toList.take off ++ l ++ cs.toList.drop (off + l.length)).toArray T fz)
  | [], off, w, cs, h, _ => by
    rw [World.setCells, h]
    simp
  | v :: l, off, w, cs, h, hl => by
    rw [World.setCells]
    rw [heap_setCells l (off + 1) (heap_setCell h off v) (by simp at hl ⊢; omega)]
    have ho : off < cs.toList.length := by simp at hl ⊢; omega
    rw [Array.toList_setIfInBounds, set_mid l cs.toList v off ho]

theorem Fr.setCells {M : Nat → Prop} {a : World} {b : Nat} (hb : b < a.heap.size → M b) : ∀ (l : List Value) (off : Nat) {w : World}, Fr M a w → Fr M a (w.setCells b off l)
  | [], _, _, h => h
  | v :: l, off, w, h => by
    rw [World.setCells]
    exact Fr.setCells hb l (off + 1) (h.setCell hb v)

/-- A whole struct is stored over another one: the world behind it by what it says. -/
theorem oper_store_all {P : Program} {K : Act → World → Prop} {Q : Exit → Act → World → Prop} {a : Act} {w : World} {o : Oper} (t : TypeId) (x y : Operand) (b : Nat) (cells old : Array Value) (T : TypeId) (ho : o.op = Op.store t x y)
    (hx : a.eval x = .pointer (some ⟨b, 0, none⟩)) (hy : a.eval y = .agg cells) (hw : w.heap[b]? = some (.cells old T (0, 0))) (hs : old.size = cells.size) (hi : (P.info? t).map (·.size) = some cells.size)
    (h1 : (cells.all fun x => x.oneCell') = true) (h : ∀ w3 : World, w3.heap[b]? = some (.cells cells T (0, 0)) → Fr (· = b) w w3 → K (a.put o.dst undef) w3) : Oper.wp P o a w K Q := by
  refine wp_store_mid t x y ho b 0 cells hx hy ?_ hi h1 (h _ ?_ ?_)
  · intro j hj
    obtain ⟨h1, h2, _, _⟩ := rd hw
    refine ⟨?_, h2 _⟩
    rw [h1]
    simp [hs, hj]
  · have := heap_setCells cells.toList 0 hw (by simp [hs])
    rw [this, List.drop_eq_nil_of_le (by simp [hs])]
    simp
  · exact Fr.setCells (M := fun x => x = b) (fun _ => rfl) _ _ (Fr.refl _ _)

theorem oper_load_all {P : Program} {K : Act → World → Prop} {Q : Exit → Act → World → Prop} {a : Act} {w : World} {o : Oper} (t : TypeId) (x : Operand) (b : Nat) (cells : Array Value) (T : TypeId) (d : TypeDesc) (ho : o.op = Op.load t x)
    (hx : a.eval x = .pointer (some ⟨b, 0, none⟩)) (hw : w.heap[b]? = some (.cells cells T (0, 0))) (hd : P.underlying t = some d) (hr : d.isRow = true) (hi : (P.info? t).map (·.size) = some cells.size)
    (h : K (a.put o.dst (.agg cells)) w) : Oper.wp P o a w K Q := by
  refine wp_load_mid t x ho b 0 hx cells.toList d ?_ hd hr (by simpa using hi) (by simpa using h)
  intro j v hv
  rw [(rd hw).1, Nat.zero_add]
  simpa using hv

/-- What a walk needs where it stores a whole struct over another one, or loads it. -/
theorem store_all {P : Program} {w : World} {b : Nat} {old : Array Value} {T : TypeId} (cells : Array Value) (hw : w.heap[b]? = some (.cells old T (0, 0))) (hs : old.size = cells.size) (h1 : ∀ v, v ∈ cells.toList → v.oneCell' = true) :
    ∃ w3, (storeCells ⟨b, 0, none⟩ cells.toList).run P w = .ok () w3 ∧ w3.heap[b]? = some (.cells cells T (0, 0)) ∧ Fr (· = b) w w3 := by
  obtain ⟨r1, r2, _, _⟩ := rd hw
  refine ⟨_, run_storeCells_cells b 0 cells.toList 0 w ?_ ?_ h1, ?_, ?_⟩
  · intro j hj
    rw [r1]
    simp at hj ⊢
    omega
  · intro j hj
    exact r2 _
  · have := heap_setCells cells.toList (0 + 0) hw (by simp [hs])
    rw [this, List.drop_eq_nil_of_le (by simp [hs])]
    simp
  · exact Fr.setCells (M := fun x => x = b) (fun _ => rfl) _ _ (Fr.refl _ _)
theorem load_all {P : Program} {w : World} {b : Nat} {cells : Array Value} {T : TypeId} (n : Nat) (hn : cells.size = n) (hw : w.heap[b]? = some (.cells cells T (0, 0))) :
    (loadCells ⟨b, 0, none⟩ n).run P w = .ok cells w := by
  subst hn
  have := run_loadCells_list (P := P) w ⟨b, 0, none⟩ cells.toList (by
    intro j v hv
    rw [Addr.add_mid, (rd hw).1, Nat.zero_add]
    simpa using hv)
  simpa using this
theorem loadAt_all {P : Program} {w : World} {b : Nat} {cells : Array Value} {T : TypeId} (t : TypeId) (d : TypeDesc) (hd : P.underlying t = some d) (hr : d.isRow = true) (hi : (P.info? t).map (·.size) = some cells.size) (hw : w.heap[b]? = some (.cells cells T (0, 0))) :
    (Instr.loadAt t (.pointer (some ⟨b, 0, none⟩))).run P w = .ok (.agg cells) w := by
  have := run_loadAt_mid (P := P) w b 0 t cells.toList d (by
    intro j v hv
    rw [(rd hw).1, Nat.zero_add]
    simpa using hv) hd hr (by simpa using hi)
  simpa using this

theorem wpList_of_oper {P : Program} {w : World} {ops : Array Oper} {rest : List Oper} {o : Oper} {a : Act} {Q : Exit → Act → World → Prop} (hg : o.guard = none)
    (h : ∀ K : Act → World → Prop, (∀ a' w', wpList P ops Q rest a' w' → K a' w') → Oper.wp P o a w K Q) : wpList P ops Q (o :: rest) a w := by
  refine wpList_step fun K hK => ?_
  rw [if_pos (by unfold Region.wanted; rw [hg])]
  exact h K hK

theorem l_build {P : Program} {w : World} {ops : Array Oper} {rest : List Oper} {o : Oper} {a : Act} {Q : Exit → Act → World → Prop} (hg : o.guard = none) (t : TypeId) (parts : Array (Nat × Operand)) (vs : Array (Nat × Value)) (cells : Array Value) (ho : o.op = Op.build t parts)
    (hv : (parts.map fun x => (x.1, a.eval x.2)) = vs) (hb : (Instr.build t vs).run P w = .ok (.agg cells) w) (h : wpList P ops Q rest (a.put o.dst (.agg cells)) w) : wpList P ops Q (o :: rest) a w :=
  wpList_of_oper hg fun K hK => oper_build t parts vs cells ho hv hb (hK _ _ h)

theorem l_store {P : Program} {w : World} {ops : Array Oper} {rest : List Oper} {o : Oper} {a : Act} {Q : Exit → Act → World → Prop} (hg : o.guard = none) (t : TypeId) (x y : Operand) (b : Nat) (cells old : Array Value) (T : TypeId) (ho : o.op = Op.store t x y)
    (hx : a.eval x = .pointer (some ⟨b, 0, none⟩)) (hy : a.eval y = .agg cells) (hw : w.heap[b]? = some (.cells old T (0, 0))) (hs : old.size = cells.size) (hi : (P.info? t).map (·.size) = some cells.size)
    (h1 : (cells.all fun x => x.oneCell') = true) (h : ∀ w3 : World, w3.heap[b]? = some (.cells cells T (0, 0)) → Fr (· = b) w w3 → wpList P ops Q rest (a.put o.dst undef) w3) : wpList P ops Q (o :: rest) a w :=
  wpList_of_oper hg fun K hK => oper_store_all t x y b cells old T ho hx hy hw hs hi h1 fun w3 a1 a2 => hK _ _ (h w3 a1 a2)

theorem l_load {P : Program} {w : World} {ops : Array Oper} {rest : List Oper} {o : Oper} {a : Act} {Q : Exit → Act → World → Prop} (hg : o.guard = none) (t : TypeId) (x : Operand) (b : Nat) (cells : Array Value) (T : TypeId) (d : TypeDesc) (ho : o.op = Op.load t x)
    (hx : a.eval x = .pointer (some ⟨b, 0, none⟩)) (hw : w.heap[b]? = some (.cells cells T (0, 0))) (hd : P.underlying t = some d) (hr : d.isRow = true) (hi : (P.info? t).map (·.size) = some cells.size)
    (h : wpList P ops Q rest (a.put o.dst (.agg cells)) w) : wpList P ops Q (o :: rest) a w :=
  wpList_of_oper hg fun K hK => oper_load_all t x b cells T d ho hx hw hd hr hi (hK _ _ h)

theorem l_alloc {P : Program} {w : World} {ops : Array Oper} {rest : List Oper} {o : Oper} {a : Act} {Q : Exit → Act → World → Prop} (hg : o.guard = none) (t : TypeId) (Z : Array Value) (ho : o.op = Op.alloc t)
    (hr : (Instr.alloc t true (.tuple #[])).run P w = .ok (.pointer (some ⟨w.heap.size, 0, none⟩)) (w.alloc (.cells Z t)))
    (h : ∀ w3 : World, w3.heap[w.heap.size]? = some (.cells Z t (0, 0)) → Below w.heap.size w w3 → wpList P ops Q rest (a.put o.dst (.pointer (some ⟨w.heap.size, 0, none⟩))) w3) : wpList P ops Q (o :: rest) a w := by
  refine wpList_of_oper hg fun K hK => ?_
  unfold Oper.wp
  have : Sem.run P (execOp a.eval o) w = .ok (Next.value (.pointer (some ⟨w.heap.size, 0, none⟩))) (w.alloc (.cells Z t)) := by
    unfold execOp
    simp only [ho, Sem.run_bind, hr]
    rfl
  rw [this, Oper.upon_value]
  exact hK _ _ (h _ (heap_alloc_new _ _) ((Below.refl _ _).alloc (Nat.le_refl _) _))

/-- A field of a great struct is written anew. -/
theorem l_store_int {P : Program} {w : World} {ops : Array Oper} {rest : List Oper} {o : Oper} {a : Act} {Q : Exit → Act → World → Prop} (hg : o.guard = none) (t : TypeId) (x y : Operand) (b j : Nat) (k : IntKind) (n : Int) (old : Array Value) (T : TypeId) (ho : o.op = Op.store t x y)
    (hx : a.eval x = .pointer (some ⟨b, j, none⟩)) (hy : a.eval y = .int k n) (hw : w.heap[b]? = some (.cells old T (0, 0))) (hs : j < old.size) (i : TypeInfo) (hi : P.info? t = some i) (h1 : i.size = 1)
    (h : ∀ w3 : World, w3.heap[b]? = some (.cells (old.setIfInBounds j (.int k n)) T (0, 0)) → Fr (· = b) w w3 → wpList P ops Q rest (a.put o.dst undef) w3) : wpList P ops Q (o :: rest) a w := by
  refine wpList_of_oper hg fun K hK => ?_
  unfold Oper.wp
  have : Sem.run P (execOp a.eval o) w = .ok Next.skip (w.setCell ⟨b, j, none⟩ (.int k n)) := by
    unfold execOp
    simp only [ho, hx, hy]
    have hr : Sem.run P (Instr.storeAt t (.pointer (some ⟨b, j, none⟩)) (.int k n)) w = .ok () (w.setCell ⟨b, j, none⟩ (.int k n)) := by
      obtain ⟨r1, r2, _⟩ := rd hw
      unfold Instr.storeAt
      have hc := run_storeCells_cells (P := P) b j [.int k n] 0 w (by intro q hq; rw [r1]; simp at hq; subst hq; simp [hs]) (by intro q hq; exact r2 _) (by simp [Value.oneCell'])
      unfold Instr.sureAddr storeVar
      have h2 : (Value.int k n).cells = #[.int k n] := rfl
      simp only [Sem.run_bind, Sem.run_pure, Result.andThen_ok, run_sizeOf w hi, show P.cellsOf t = 1 by (simp [Program.cellsOf, hi, h1]), h2]
      simpa [World.setCells] using hc
    simp only [Sem.run_bind, hr]
    rfl
  rw [this, Oper.upon_skip]
  exact hK _ _ (h _ (heap_setCell hw j _) (Fr.setCell (M := fun x => x = b) (Fr.refl _ _) (fun _ => rfl) _))

theorem loadVar_all {P : Program} {w : World} {b : Nat} {cells : Array Value} {T : TypeId} (t : TypeId) (d : TypeDesc) (hd : P.underlying t = some d) (hr : d.isRow = true) (hi : (P.info? t).map (·.size) = some cells.size) (hw : w.heap[b]? = some (.cells cells T (0, 0))) :
    (loadVar t ⟨b, 0, none⟩).run P w = .ok (.agg cells) w := by
  have := run_loadVar_mid (P := P) w b 0 t cells.toList d (by
    intro j v hv
    rw [(rd hw).1, Nat.zero_add]
    simpa using hv) hd hr (by simpa using hi)
  simpa using this

/-- A single result that lies in a variable of its own. -/
theorem res_cell {P : Program} {w : World} {fn : Func} {tmps : Array Value} (a : Nat) (t : TypeId) (b : Nat) (v : Value) (hf : fn.results = #[.cell a t]) (ha : tmps.getD a undef = .pointer (some ⟨b, 0, none⟩)) (hl : (loadVar t ⟨b, 0, none⟩).run P w = .ok v w) :
    Sem.run P (results fn tmps) w = .ok v w := by
  unfold results
  have hA : (asAddr (.pointer (some ⟨b, 0, none⟩))).run P w = .ok ⟨b, 0, none⟩ w := rfl
  rw [hf]
  simp only [List.mapM_toArray, List.mapM_cons, List.mapM_nil, ha, Sem.run_bind, hA, hl, Sem.run_pure, Result.andThen_ok, map_eq_pure_bind]
  rfl

theorem post_cell {P : Program} {w : World} {fn : Func} {R : Ending → World → Prop} {x : Act} (a : Nat) (t : TypeId) (b : Nat) (v : Value) (hf : fn.results = #[.cell a t]) (hd : x.defers = []) (ha : x.tmps.getD a undef = .pointer (some ⟨b, 0, none⟩)) (hl : (loadVar t ⟨b, 0, none⟩).run P w = .ok v w) (h : R (.returned v) w) :
    bodyPost P fn R .ret x w :=
  ⟨hd, v, res_cell a t b v hf ha hl, h⟩
end Go.Proofs.YtcaamakodneplaaGreat

/-
  Package unit: New at a service, Wakes.
-/
namespace Go.Proofs.YtcaamakodneplaaGreat
open Go Go.RowKit
set_option linter.unusedVariables false
set_option maxRecDepth 100000

def newCells (s : ByteArray) : Array Value := #[.string s, .int .i64 1, .string ⟨#[]⟩, .bool true, .slice none 0 0, .int .i64 10, .int .i64 5, .int .i64 1, .slice none 0 0, .slice none 0 0, .slice none 0 0, .slice none 0 0, .slice none 0 0, .bool false, .int .i64 1, .int .i64 0, .int .i64 90, .int .i64 90, .slice none 0 0, .slice none 0 0, .slice none 0 0, .slice none 0 0, .int .i64 0, .string ⟨#[]⟩, .string ⟨#[]⟩, .slice none 0 0, .slice none 0 0, .slice none 0 0, .slice none 0 0, .bool false, .slice none 0 0, .slice none 0 0, .slice none 0 0, .slice none 0 0, .string ⟨#[]⟩]
def newCells0 (s : ByteArray) : Array Value := #[.string s, .int .i64 1, .string ⟨#[]⟩, .bool true, .slice none 0 0, .int .i64 10, .int .i64 5, .int .i64 0, .slice none 0 0, .slice none 0 0, .slice none 0 0, .slice none 0 0, .slice none 0 0, .bool false, .int .i64 0, .int .i64 0, .int .i64 0, .int .i64 0, .slice none 0 0, .slice none 0 0, .slice none 0 0, .slice none 0 0, .int .i64 0, .string ⟨#[]⟩, .string ⟨#[]⟩, .slice none 0 0, .slice none 0 0, .slice none 0 0, .slice none 0 0, .bool false, .slice none 0 0, .slice none 0 0, .slice none 0 0, .slice none 0 0, .string ⟨#[]⟩]
def unitZero : Array Value := #[.string ⟨#[]⟩, .int .i64 0, .string ⟨#[]⟩, .bool false, .slice none 0 0, .int .i64 0, .int .i64 0, .int .i64 0, .slice none 0 0, .slice none 0 0, .slice none 0 0, .slice none 0 0, .slice none 0 0, .bool false, .int .i64 0, .int .i64 0, .int .i64 0, .int .i64 0, .slice none 0 0, .slice none 0 0, .slice none 0 0, .slice none 0 0, .int .i64 0, .string ⟨#[]⟩, .string ⟨#[]⟩, .slice none 0 0, .slice none 0 0, .slice none 0 0, .slice none 0 0, .bool false, .slice none 0 0, .slice none 0 0, .slice none 0 0, .slice none 0 0, .string ⟨#[]⟩]
theorem build_unit (s : ByteArray) (w : World) : (Instr.build 51 #[(0, .string s), (1, .int .i64 1), (3, .bool true), (5, .int .i64 10), (6, .int .i64 5)]).run Tryz.prog w = .ok (.agg (newCells0 s)) w :=
  run_build w _ _ _ rfl
theorem run_alloc_unit (w : World) : (Instr.alloc 51 true (.tuple #[])).run Tryz.prog w = .ok (.pointer (some ⟨w.heap.size, 0, none⟩)) (w.alloc (.cells unitZero 51)) := rfl
set_option maxHeartbeats 4000000 in
theorem new_any (s : ByteArray) (w : World) (hs : s.size < 4294967281) (hm : MaxAt w) (hk : kindS s.data.toList = 1) :
    Calls Tryz.prog 46 #[.string s] w fun e w' => e = .returned (.agg (newCells s)) ∧ Below w.heap.size w w' := by
  have HK := Lib.hid (fun w' (h : Below w.heap.size w w') => show Calls Tryz.prog 48 #[.string s] w' fun e w'' => e = .returned (.int .i64 1) ∧ Below w'.heap.size w' w'' from kind_any s w' hs (hm.below h) 1 hk)
  have HB := Lib.hid (build_unit s)
  clear hk
  have z0 : ((newCells0 s).all fun x => x.oneCell') = true := by rw [← Array.all_toList]; rfl
  have z1 : ((newCells s).all fun x => x.oneCell') = true := by rw [← Array.all_toList]; rfl
  have Z0 := Lib.hid z0
  have Z1 := Lib.hid z1
  clear z0 z1
  go_enter Tryz.func46, Tryz.ntmps46
  go_wp2_with (refine l_alloc rfl _ unitZero rfl (run_alloc_unit _) ?_; intro w1 h1 hb1)
  refine (HK.out _ hb1).mono ?_
  rintro e w2 ⟨rfl, hb2⟩
  have hb12 := Lib.hid (Below.more hb1 hb2)
  have h1' := Lib.hid ((hb2.block _ (lt_heap h1)).trans h1)
  have hl1 : w.heap.size < w2.heap.size := lt_heap h1'.out
  have hz2 : ∀ w3 w4 : World, w3.heap[w2.heap.size]? = some (.cells unitZero 51 (0, 0)) → Below w2.heap.size w2 w3 → Fr (fun x => x = w2.heap.size) w3 w4 → w4.heap[w.heap.size]? = some (.cells unitZero 51 (0, 0)) ∧ Below w.heap.size w w4 := by
    intro w3 w4 h3 hb3 hf4
    have hne : w.heap.size ≠ w2.heap.size := by omega
    have e3 := (hb3.block _ hl1).trans h1'.out
    have e4 : w4.heap[w.heap.size]? = _ := (hf4.block _ (lt_heap e3) hne).trans e3
    refine ⟨e4, ?_⟩
    refine hb12.out.trans ?_
    exact (hb3.mono (by omega)).trans (hf4.below _ (Nat.le_of_lt (Nat.lt_of_lt_of_le hl1 hb3.size)) (fun k hk e => by omega))
  replace hz2 := Lib.hid hz2
  have HZ := Lib.hid (show (newCells0 s).size = 35 from rfl)
  clear hb1 hb2 h1
  go_wp2_with (first
    | (refine l_build rfl _ _ #[(0, .string s), (1, .int .i64 1), (3, .bool true), (5, .int .i64 10), (6, .int .i64 5)] _ rfl (by simp [Act.eval]) (HB.out _) ?_)
    | (refine l_alloc rfl _ unitZero rfl (run_alloc_unit _) ?_; intro w3 h3 hb3)
    | (refine l_store rfl 51 _ _ w2.heap.size (newCells0 s) unitZero 51 rfl rfl rfl h3 rfl rfl Z0.out ?_; intro w4 h4 hf4; have hc1 : w4.cell? ⟨w2.heap.size, 1, none⟩ = some (.int .i64 1) := (rd h4).1 1)
    | (refine l_store_int rfl 3 _ _ w2.heap.size _ .i64 _ _ _ rfl rfl rfl h4 (by simp [HZ.out]) _ rfl rfl ?_; intro w5 h5 hf5; replace h4 := h5; replace hf4 := hf4.trans hf5)
    | (refine l_load rfl 51 _ w2.heap.size _ 51 _ rfl rfl h4 rfl rfl rfl ?_)
    | (refine l_store rfl 51 _ _ w.heap.size _ unitZero 51 rfl rfl rfl (hz2.out _ _ h3 hb3 hf4).1 rfl rfl Z1.out ?_; intro w9 h9 hf9)
    | (refine l_load rfl 51 _ w.heap.size _ 51 _ rfl rfl h9 rfl rfl rfl ?_))
  · have hb := hz2.out _ _ h3 hb3 hf4
    refine post_cell 2 51 w.heap.size _ rfl rfl rfl (loadVar_all 51 _ rfl rfl rfl h9) ⟨rfl, ?_⟩
    exact hb.2.trans (hf9.below _ hb.2.size (fun k hk e => by omega))
end Go.Proofs.YtcaamakodneplaaGreat

/-
  Package matinslaw15: some.
-/
namespace Go.Proofs.YtcaamakodneplaaGreat
open Go Go.RowKit
set_option linter.unusedVariables false
set_option maxRecDepth 100000

theorem l_buildSlice {P : Program} {w w2 : World} {ops : Array Oper} {rest : List Oper} {o : Oper} {a : Act} {Q : Exit → Act → World → Prop} (hg : o.guard = none) (t : TypeId) (n : Nat) (parts : Array (Nat × Operand)) (vs : Array (Nat × Value)) (v : Value) (ho : o.op = Op.buildSlice t n parts)
    (hv : (parts.map fun x => (x.1, a.eval x.2)) = vs) (hb : (Instr.buildSlice t n vs).run P w = .ok v w2) (h : wpList P ops Q rest (a.put o.dst v) w2) : wpList P ops Q (o :: rest) a w := by
  refine wpList_of_oper hg fun K hK => ?_
  unfold Oper.wp
  have : Sem.run P (execOp a.eval o) w = .ok (Next.value v) w2 := by
    unfold execOp
    simp only [ho]
    have hv' : (Array.map (fun x : Nat × Operand => match x with | (i, x) => (i, a.eval x)) parts) = vs := by rw [← hv]
    rw [hv']
    simp only [Sem.run_bind, hb]
    rfl
  rw [this, Oper.upon_value]
  exact hK _ _ h
/-- A loaded unit with no more than its name and state. -/
def ldOf (n : Str) (st : Int) : Array Value := #[.string ⟨n.toArray⟩, .int .i64 st, .string ⟨#[]⟩, .int .i64 0, .int .i64 0, .string ⟨#[]⟩, .int .i64 0, .string ⟨#[]⟩, .bool false, .slice none 0 0, .int .i64 0, .int .i64 0, .int .i64 0, .slice none 0 0, .slice none 0 0, .slice none 0 0, .slice none 0 0, .slice none 0 0, .bool false, .int .i64 0, .int .i64 0, .int .i64 0, .int .i64 0, .slice none 0 0, .slice none 0 0, .slice none 0 0, .slice none 0 0, .int .i64 0, .string ⟨#[]⟩, .string ⟨#[]⟩, .slice none 0 0, .slice none 0 0, .slice none 0 0, .slice none 0 0, .bool false, .slice none 0 0, .slice none 0 0, .slice none 0 0, .slice none 0 0, .string ⟨#[]⟩, .slice none 0 0, .slice none 0 0]
/-- The unit of a service with one relation. -/
def unA (n : Str) (g : Nat) : Array Value := #[.string ⟨n.toArray⟩, .int .i64 1, .string ⟨#[]⟩, .bool true, .slice (some ⟨g, 0, none⟩) 1 1, .int .i64 10, .int .i64 5, .int .i64 1, .slice none 0 0, .slice none 0 0, .slice none 0 0, .slice none 0 0, .slice none 0 0, .bool false, .int .i64 1, .int .i64 0, .int .i64 90, .int .i64 90, .slice none 0 0, .slice none 0 0, .slice none 0 0, .slice none 0 0, .int .i64 0, .string ⟨#[]⟩, .string ⟨#[]⟩, .slice none 0 0, .slice none 0 0, .slice none 0 0, .slice none 0 0, .bool false, .slice none 0 0, .slice none 0 0, .slice none 0 0, .slice none 0 0, .string ⟨#[]⟩]
def ldA (n : Str) (g : Nat) : Array Value := #[.string ⟨n.toArray⟩, .int .i64 1, .string ⟨#[]⟩, .int .i64 0, .int .i64 0, .string ⟨n.toArray⟩, .int .i64 1, .string ⟨#[]⟩, .bool true, .slice (some ⟨g, 0, none⟩) 1 1, .int .i64 10, .int .i64 5, .int .i64 1, .slice none 0 0, .slice none 0 0, .slice none 0 0, .slice none 0 0, .slice none 0 0, .bool false, .int .i64 1, .int .i64 0, .int .i64 90, .int .i64 90, .slice none 0 0, .slice none 0 0, .slice none 0 0, .slice none 0 0, .int .i64 0, .string ⟨#[]⟩, .string ⟨#[]⟩, .slice none 0 0, .slice none 0 0, .slice none 0 0, .slice none 0 0, .bool false, .slice none 0 0, .slice none 0 0, .slice none 0 0, .slice none 0 0, .string ⟨#[]⟩, .slice none 0 0, .slice none 0 0]
theorem build_ld2 (n : Str) (st : Int) (w : World) : (Instr.build 53 #[(0, .string ⟨n.toArray⟩), (1, .int .i64 st)]).run Tryz.prog w = .ok (.agg (ldOf n st)) w := run_build w _ _ _ rfl
theorem build_ldA (n : Str) (g : Nat) (w : World) : (Instr.build 53 #[(0, .string ⟨n.toArray⟩), (1, .int .i64 1), (4, .agg (unA n g))]).run Tryz.prog w = .ok (.agg (ldA n g)) w := run_build w _ _ _ (by kernel_rfl)
def ld3 (a b c : Str) (s1 s3 : Int) (g : Nat) : Array Value := ((ldOf a s1).toList ++ ((ldA b g).toList ++ (ldOf c s3).toList)).toArray
theorem slice_ld3 (a b c : Str) (s1 s3 : Int) (g : Nat) (w : World) : (Instr.buildSlice 22 3 #[(0, .agg (ldOf a s1)), (1, .agg (ldA b g)), (2, .agg (ldOf c s3))]).run Tryz.prog w = .ok (.slice (some ⟨w.heap.size, 0, none⟩) 3 3) (w.alloc (.cells (ld3 a b c s1 s3 g) 53)) := by kernel_rfl
end Go.Proofs.YtcaamakodneplaaGreat

/-
  Package matinslaw15: some, walked.
-/
namespace Go.Proofs.YtcaamakodneplaaGreat
open Go Go.RowKit
set_option linter.unusedVariables false
set_option maxRecDepth 100000

theorem unA_set (g : Nat) : (newCells ⟨sA.toArray⟩).setIfInBounds 4 (.slice (some ⟨g, 0, none⟩) 1 1) = unA sA g := by kernel_rfl

/-- What lies where some is done. -/
def SomeOut (w : World) (e : Ending) (w' : World) : Prop := ∃ G g, e = .returned (.slice (some ⟨G, 0, none⟩) 3 3) ∧ w'.heap[G]? = some (.cells (ld3 sB sA sFirst 2 2 g) 53 (0, 0)) ∧ w'.heap[g]? = some (.cells #[.int .i64 6, .string ⟨sB.toArray⟩] 56 (0, 0)) ∧ Below w.heap.size w w'

set_option maxHeartbeats 1000000 in
theorem some_any (w : World) (hm : MaxAt w) : Calls Tryz.prog 27 #[] w fun e w' => SomeOut w e w' := by
  have HK := Lib.hid (new_any ⟨sA.toArray⟩ w (by decide +kernel) hm (by decide +kernel))
  have HZ := Lib.hid (show (newCells ⟨sA.toArray⟩).size = 35 from rfl)
  have HO := Lib.hid (show ((newCells ⟨sA.toArray⟩).all fun v => v.oneCell') = true from by rw [← Array.all_toList]; rfl)
  have HU := Lib.hid unA_set
  have HA := Lib.hid (fun g W => build_ldA sA g W)
  have HL1 := Lib.hid (fun W => build_ld2 sB 2 W)
  have HL3 := Lib.hid (fun W => build_ld2 sFirst 2 W)
  have HS := Lib.hid (fun g W => slice_ld3 sB sA sFirst 2 2 g W)
  unfold SomeOut
  generalize ldOf sB 2 = L1 at *
  generalize ldOf sFirst 2 = L3 at *
  generalize ldA sA = LA at *
  generalize ld3 sB sA sFirst 2 2 = D3 at *
  generalize unA sA = UA at *
  clear hm
  go_enter Tryz.func27, Tryz.ntmps27
  go_wp2_with fail
  refine HK.out.mono ?_
  rintro e w1 ⟨rfl, hb1⟩
  have HB1 := Lib.hid hb1; clear hb1 HK
  generalize hNC : newCells ⟨sA.toArray⟩ = NC at *
  go_wp2_with (first
    | (refine l_alloc rfl _ unitZero rfl (run_alloc_unit _) ?_; intro w2 h2 hb2)
    | (refine l_store rfl 51 (.tmp 1) (.tmp 2) w1.heap.size NC unitZero 51 rfl rfl rfl h2 (by rw [HZ.out]; rfl) (by rw [HZ.out]; rfl) HO.out ?_; intro w3 h3 hf3; have k4 : ∃ q, w3.cell? ⟨w1.heap.size, 4, none⟩ = some q := ⟨_, ((rd h3).1 4).trans (Array.getElem?_eq_getElem (by rw [HZ.out]; omega))⟩; obtain ⟨q4, k4⟩ := k4; have f4 : w3.frozen? ⟨w1.heap.size, 4, none⟩ = false := (rd h3).2.1 4; have hult := lt_heap h3
       have hld : ∀ c, ((w3.setCell ⟨w1.heap.size, 4, none⟩ (.slice (some ⟨w3.heap.size, 0, none⟩) 1 1)).alloc c).heap[w1.heap.size]? = some (.cells (UA w3.heap.size) 51 (0, 0)) := fun c => by rw [← HU.out]; exact heap_alloc (heap_setCell h3 4 _) c
       replace hld := Lib.hid hld
       have hzu := Lib.hid (show (UA w3.heap.size).size = 35 by rw [← HU.out]; simp [HZ.out])
       have HAg := Lib.hid (HA.out w3.heap.size)
       have HSg := Lib.hid (HS.out w3.heap.size)
       generalize UA w3.heap.size = U1 at *
       generalize LA w3.heap.size = L2 at *)
    | (refine l_build rfl 53 _ #[(0, .string ⟨sB.toArray⟩), (1, .int .i64 2)] L1 rfl ?_ (HL1.out _) ?_; focus (simp [Act.eval, Act.put]; done))
    | (refine l_load rfl 51 (.tmp 1) w1.heap.size U1 51 _ rfl rfl (hld.out _) rfl rfl (by rw [hzu.out]; rfl) ?_)
    | (refine l_build rfl 53 _ #[(0, .string ⟨sA.toArray⟩), (1, .int .i64 1), (4, .agg U1)] L2 rfl ?_ (HAg.out _) ?_; focus (simp [Act.eval, Act.put]; done))
    | (refine l_build rfl 53 _ #[(0, .string ⟨sFirst.toArray⟩), (1, .int .i64 2)] L3 rfl ?_ (HL3.out _) ?_; focus (simp [Act.eval, Act.put]; done))
    | (refine l_buildSlice rfl 22 3 _ #[(0, .agg L1), (1, .agg L2), (2, .agg L3)] _ rfl ?_ (HSg.out _) ?_; focus (simp [Act.eval, Act.put]; done)))
  go_ret
  have hw1 : w.heap.size ≤ w1.heap.size := HB1.out.size
  have hw2 : w1.heap.size ≤ w2.heap.size := hb2.size
  refine ⟨_, w3.heap.size, rfl, ?_, ?_, ?_⟩
  · have := heap_alloc_new ((w3.setCell ⟨w1.heap.size, 4, none⟩ (.slice (some ⟨w3.heap.size, 0, none⟩) 1 1)).alloc (.cells #[.int .i64 6, .string ⟨sB.toArray⟩] 56)) (.cells (D3 w3.heap.size) 53)
    simpa using this
  · have := heap_alloc_new (w3.setCell ⟨w1.heap.size, 4, none⟩ (.slice (some ⟨w3.heap.size, 0, none⟩) 1 1)) (.cells #[.int .i64 6, .string ⟨sB.toArray⟩] 56)
    have := heap_alloc this (.cells (D3 w3.heap.size) 53)
    simpa using this
  · have h12 : Below w.heap.size w w2 := HB1.out.trans (hb2.mono hw1)
    have h13 : Below w.heap.size w w3 := h12.trans (hf3.below _ (by omega) (fun k hk e => by omega))
    have hs3 := h13.size
    exact ((h13.setCell (p := ⟨w1.heap.size, 4, none⟩) hw1 _).alloc (by simpa using hs3) _).alloc (by simp; omega) _
end Go.Proofs.YtcaamakodneplaaGreat

/-
  Package graph: Node, Out, In.
-/
namespace Go.Proofs.YtcaamakodneplaaGreat
open Go Go.RowKit Go.Sort
set_option linter.unusedVariables false
set_option maxRecDepth 100000

def idxN (ns : List NodeS) (s : Str) : Int := Lib.idxBy (fun _ y => y.name == s) ns default
theorem idxN_spec (ns : List NodeS) (s : Str) : (idxN ns s = -1 ∧ nodeOf ns s = none) ∨ ∃ (i : Nat) (h : i < ns.length), idxN ns s = i ∧ nodeOf ns s = some ns[i] := by
  unfold idxN Lib.idxBy nodeOf
  have : ∀ (l : List NodeS) (j : Nat), (Lib.idxByFrom (fun _ y : NodeS => y.name == s) default l j = -1 ∧ l.find? (fun n => n.name == s) = none) ∨
      ∃ (i : Nat) (h : i < l.length), Lib.idxByFrom (fun _ y : NodeS => y.name == s) default l j = ((j + i : Nat) : Int) ∧ l.find? (fun n => n.name == s) = some l[i] := by
    intro l
    induction l with
    | nil => intro j; exact .inl ⟨rfl, rfl⟩
    | cons a r ih =>
      intro j
      cases ha : (a.name == s) with
      | true => exact .inr ⟨0, by simp, by simp [Lib.idxByFrom, ha], by simp [ha]⟩
      | false =>
        rcases ih (j + 1) with ⟨h1, h2⟩ | ⟨i, hi, h1, h2⟩
        · exact .inl ⟨by simp [Lib.idxByFrom, ha, h1], by simp [ha, h2]⟩
        · refine .inr ⟨i + 1, by simp; exact hi, ?_, by simp [ha, h2]⟩
          simp [Lib.idxByFrom, ha, h1]; omega
  have := this ns 0
  simpa using this

theorem isNode_any (x : NodeS) (s : ByteArray) (b : Nat) (W : World) (hc : W.cell? ⟨b, 0, none⟩ = some (.string s)) :
    Calls Tryz.prog 36 #[.agg (encN x).toArray, .pointer (some ⟨b, 0, none⟩)] W fun e w' => e = .returned (.bool (x.name == s.data.toList)) ∧ Below W.heap.size W w' := by
  have hq : (x.name == s.toList) = (x.name == s.data.toList) := by rw [ByteArray.toList_eq]
  generalize (x.name == s.data.toList) = r at hq ⊢
  have hb : b < W.heap.size := World.block_lt_of_cell? W _ hc
  have hne : b ≠ W.heap.size := by omega
  unfold encN
  go_enter Tryz.func36, Tryz.ntmps36
  go_wp2
  go_ret
  exact ⟨rfl, (Below.refl _ _).alloc (Nat.le_refl _) _⟩

theorem enters_isNode : ∀ args w, (callFunc 36 args).run Tryz.prog w = .ok (.enter 36 args) w := enters_of Tryz.func36 (by kernel_rfl) rfl

theorem index_none (oa : Option Addr) (cap : Nat) (f : Value) (w : World) :
    Calls Tryz.prog 35 #[.slice oa 0 cap, f] w fun e w' => e = .returned (.int .i64 (-1)) ∧ w = w' := by
  go_enter Tryz.func35, Tryz.ntmps35
  go_wp2
  refine wp_loop_rounds 1 ?_
  rw [rounds_succ]
  go_wp2
  go_ret
  exact ⟨rfl, rfl⟩

theorem index_any (oa : Option Addr) (cap : Nat) (ns : List NodeS) (s : ByteArray) (b : Nat) (w : World) (hr : RowRd encN 3 w oa ns) (hl : ns.length < 4611686018427387904) (hc : w.cell? ⟨b, 0, none⟩ = some (.string s)) :
    Calls Tryz.prog 35 #[.slice oa ns.length cap, .func (.func 36) #[] #[.pointer (some ⟨b, 0, none⟩)]] w fun e w' => e = .returned (.int .i64 (idxN ns s.data.toList)) ∧ Below w.heap.size w w' := by
  by_cases h0 : ns = []
  · subst h0
    exact (index_none oa cap _ w).mono fun e w' ⟨a, b⟩ => ⟨a, b ▸ Below.refl _ _⟩
  · have hpos : 0 < ns.length := List.length_pos_iff.2 h0
    obtain ⟨b2, o, rfl, hlt, _⟩ := hr 0 hpos
    have hb : b < w.heap.size := World.block_lt_of_cell? w _ hc
    have := AnyQ.slices_IndexFunc Tryz.findNode 3 Tryz.isAgg32 Tryz.sizeOf32 encN (fun _ => rfl) (fun y => y.name == s.data.toList) 36 #[.pointer (some ⟨b, 0, none⟩)] enters_isNode b2 o ns.length cap ns w
      (fun W x hW => (isNode_any x s b W (by rw [hW.cell (p := ⟨b, 0, none⟩) hb]; exact hc)).mono fun e w' ⟨a, q⟩ => ⟨a, Below.more hW q⟩) (Nat.le_refl _) (by omega) hlt (by
        intro j hj i v hv
        obtain ⟨b3, o3, e3, _, hcc⟩ := hr j hj
        injection e3 with e3
        injection e3 with e4 e5 e6
        subst e4; subst e5
        rw [getElem!_pos ns j hj] at hv
        exact hcc i v hv)
    rw [List.take_length] at this
    exact this

/-- What Node answers. -/
def nodeRes : Option NodeS → Value
  | some n => .tuple #[.agg #[.string ⟨n.name.toArray⟩, .int .i64 n.kind, .int .i64 n.state], .bool true]
  | none => .tuple #[.agg #[.string ⟨#[]⟩, .int .i64 0, .int .i64 0], .bool false]

set_option maxHeartbeats 1000000 in
theorem node_any (oa : Option Addr) (cap : Nat) (ns : List NodeS) (ev : Value) (hev : ev.cells = #[ev]) (s : ByteArray) (w : World) (hr : RowRd encN 3 w oa ns) (hl : ns.length < 4611686018427387904) (q : Option NodeS) (hq : nodeOf ns s.data.toList = q) :
    Calls Tryz.prog 14 #[.agg #[.slice oa ns.length cap, ev], .string s] w fun e w' => e = .returned (nodeRes q) ∧ Below w.heap.size w w' := by
  let w1 := w.alloc (.cells #[.slice oa ns.length cap, ev] 29)
  let w2 := w1.alloc (.cells #[.string s] 9)
  let w3 := w2.alloc (.cells #[.string ⟨#[]⟩, .int .i64 0, .int .i64 0] 32)
  have hB3 : Below w.heap.size w w3 := (((Below.refl _ _).alloc (Nat.le_refl _) _).alloc (by simp) _).alloc (by simp; omega) _
  have z1 : w1.heap.size = w.heap.size + 1 := by simp [w1]
  have z2 : w2.heap.size = w.heap.size + 1 + 1 := by simp [w2, z1]
  have g1 : w3.heap[w.heap.size]? = some (.cells #[.slice oa ns.length cap, ev] 29 (0, 0)) := heap_alloc (heap_alloc (heap_alloc_new w _) _) _
  have g2 : w3.heap[w.heap.size + 1]? = some (.cells #[.string s] 9 (0, 0)) := by rw [← z1]; exact heap_alloc (heap_alloc_new w1 _) _
  have g3 : w3.heap[w.heap.size + 1 + 1]? = some (.cells #[.string ⟨#[]⟩, .int .i64 0, .int .i64 0] 32 (0, 0)) := by rw [← z2]; exact heap_alloc_new w2 _
  have HI := Lib.hid (index_any oa cap ns s (w.heap.size + 1) w3 (hr.below hB3) hl (by rw [(rd g2).1]; rfl))
  have HQ := Lib.hid hq
  rcases idxN_spec ns s.data.toList with ⟨h1, h2⟩ | ⟨i, hi, h1, h2⟩
  · rw [h2] at hq
    subst hq
    rw [h1] at HI
    have HB := Lib.hid hB3
    have G1 := Lib.hid g1; have G3 := Lib.hid g3
    clear h1 h2 HQ hr hB3 z1 z2 g1 g2 g3
    go_enter Tryz.func14, Tryz.ntmps14
    go_wp2_with fail
    refine HI.out.mono ?_
    rintro e w4 ⟨rfl, hb4⟩
    have k3 := (hb4.block _ (lt_heap G3.out)).trans G3.out
    obtain ⟨c3, f3, s3, l3⟩ := rd k3
    have c30 := c3 0; have c31 := c3 1; have c32 := c3 2
    have f30 := f3 0; have f31 := f3 1; have f32 := f3 2
    simp only [List.getElem?_toArray, List.getElem?_cons_zero, List.getElem?_cons_succ] at c30 c31 c32
    have HB4 := Lib.hid (Below.more HB.out hb4)
    have hsz : w.heap.size ≤ w.heap.size + 1 + 1 := by omega
    have K3 := Lib.hid k3
    clear c3 f3 s3 k3 hb4
    go_wp2_with fail
    refine bodyPost_ret (v := nodeRes none) ?_ rfl ⟨rfl, ?_⟩
    · simp [results, Tryz.results14, go_sem, nodeRes, c30, c31, c32]
    · exact ((HB4.out.setCell (by simp; omega) _).setCell (by simp; omega) _).setCell (by simp; omega) _
  · rw [h2] at hq
    subst hq
    rw [h1] at HI
    obtain ⟨x, hx⟩ : ∃ x, x = ns[i] := ⟨_, rfl⟩
    obtain ⟨b, o, rfl, hblt, hcc⟩ := hr i hi
    rw [← hx] at hcc ⊢
    have d0 := hcc 0 _ rfl; have d1 := hcc 1 _ rfl; have d2 := hcc 2 _ rfl
    have HB := Lib.hid hB3
    have G1 := Lib.hid g1; have G3 := Lib.hid g3
    have D0 := Lib.hid d0; have D1 := Lib.hid d1; have D2 := Lib.hid d2
    have i5 : (i : Int) < (ns.length : Int) := by omega
    clear h1 h2 HQ hr hB3 z1 z2 g1 g2 g3 hx hcc d0 d1 d2
    go_enter Tryz.func14, Tryz.ntmps14
    go_wp2_with fail
    refine HI.out.mono ?_
    rintro e w4 ⟨rfl, hb4⟩
    have k1 := (hb4.block _ (lt_heap G1.out)).trans G1.out
    have k3 := (hb4.block _ (lt_heap G3.out)).trans G3.out
    have HB4 := Lib.hid (Below.more HB.out hb4)
    have e0 := (HB4.out.cell (p := ⟨b, o + i * 3, none⟩) hblt).trans D0.out
    have e1 := (HB4.out.cell (p := ⟨b, o + i * 3 + 1, none⟩) hblt).trans D1.out
    have e2 := (HB4.out.cell (p := ⟨b, o + i * 3 + 2, none⟩) hblt).trans D2.out
    obtain ⟨c1, f1, s1, l1⟩ := rd k1
    obtain ⟨c3, f3, s3, l3⟩ := rd k3
    have c10 := c1 0
    have c30 := c3 0; have c31 := c3 1; have c32 := c3 2
    have f30 := f3 0; have f31 := f3 1; have f32 := f3 2
    simp only [List.getElem?_toArray, List.getElem?_cons_zero, List.getElem?_cons_succ] at c10 c30 c31 c32
    clear c1 c3 f1 f3 s1 s3 k3 k1 hb4
    go_wp2_with fail
    refine bodyPost_ret (v := nodeRes (some x)) ?_ rfl ⟨rfl, ?_⟩
    · simp [results, Tryz.results14, go_sem, nodeRes, c30, c31, c32]
    · exact ((HB4.out.setCell (by simp; omega) _).setCell (by simp; omega) _).setCell (by simp; omega) _

theorem infoString : (Tryz.prog.info? 9).map (fun i => (i.zero, i.size, i.bytes)) = some (some (.string ⟨#[]⟩), 1, 16) := by kernel_rfl

def outTo (es : List EdgeS) (s : Str) (rel : Int) : List Str := (es.filter fun e => e.src == s && e.rel == rel).map (·.dst)
theorem outTo_snoc (es : List EdgeS) (s : Str) (rel : Int) (k : Nat) (h : k < es.length) : outTo (es.take (k + 1)) s rel = outTo (es.take k) s rel ++ (if (es[k].src == s && es[k].rel == rel) = true then [es[k].dst] else []) := by
  unfold outTo
  rw [List.take_succ_eq_append_getElem h, List.filter_append, List.map_append]
  cases hq : (es[k].src == s && es[k].rel == rel) <;> simp [hq]
theorem outTo_len (es : List EdgeS) (s : Str) (rel : Int) : (outTo es s rel).length ≤ es.length := by
  unfold outTo; rw [List.length_map]; exact List.length_filter_le _ _

/-- What a function that hands back texts of its own says. -/
def OutTout (w : World) (l : List Str) (e : Ending) (w' : World) : Prop := ∃ v, e = .returned v ∧ w'.ownsRow w.heap.size 9 1 v l.length (strVals l) ∧ Below w.heap.size w w'

set_option maxHeartbeats 2000000 in
theorem gout_any (oe : Option Addr) (cap : Nat) (es : List EdgeS) (nv : Value) (s : ByteArray) (rel : Int) (w : World) (hr : RowRd encE 3 w oe es) (hl : es.length < 1073741824) :
    Calls Tryz.prog 19 #[.agg #[nv, .slice oe es.length cap], .string s, .int .i64 rel] w fun e w' => OutTout w (outS es s.data.toList rel) e w' := by
  obtain ⟨i0, hi0, hz0, hz1, hz2⟩ := info_parts infoString
  have HR := Lib.hid hr; clear hr
  have HO := Lib.hid (show sortL ltS (outTo es s.data.toList rel) = outS es s.data.toList rel from rfl)
  go_enter Tryz.func19, Tryz.ntmps19
  go_wp2_with fail
  have HB0 := Lib.hid ((Below.refl w.heap.size w).alloc (Nat.le_refl _) (.cells #[nv, .slice oe es.length cap] 29))
  generalize w.alloc (.cells #[nv, .slice oe es.length cap] 29) = w1 at *
  go_loopg [7, 13] (es.length + 1) (fun f v i wr => ∃ k : Nat, k ≤ es.length ∧ i = .int .i64 k ∧ es.length - k < f ∧ Hid (wr.ownsRow w.heap.size 9 1 v (outTo (es.take k) s.data.toList rel).length (strVals (outTo (es.take k) s.data.toList rel))) ∧ Hid (Below w.heap.size w wr))
  case atStart => exact ⟨0, by omega, rfl, by omega, World.ownsRow_nil _ _ _ _, HB0⟩
  case round =>
    obtain ⟨k, hk, rfl, hfu, Hown, Hb⟩ := hrel
    obtain ⟨oa', cap', rfl⟩ := ownsRow_form Hown.out
    by_cases hlt : k < es.length
    · obtain ⟨b, o, rfl, hblt, hcc⟩ := (HR.out.below Hb.out) k hlt
      have HS := Lib.hid (outTo_snoc es s.data.toList rel k hlt)
      have hlen := outTo_len (es.take k) s.data.toList rel
      rw [List.length_take, Nat.min_eq_left (by omega)] at hlen
      obtain ⟨x, hx⟩ : ∃ x, x = es[k] := ⟨_, rfl⟩
      rw [← hx] at hcc HS
      have d0 := hcc 0 _ rfl; have d1 := hcc 1 _ rfl; have d2 := hcc 2 _ rfl
      simp only [Nat.add_zero] at d0
      clear hcc hx
      generalize outTo (es.take k) s.data.toList rel = acc at *
      have hsz := Hb.out.size
      have i5 : (k : Int) < (es.length : Int) := by omega
      cases hq1 : (x.src == s.data.toList) with
      | false =>
        have q1 : (x.src == s.toList) = false := by rw [ByteArray.toList_eq]; exact hq1
        have Hown2 := Lib.hid (Hown.out.alloc (.cells #[.string ⟨x.src.toArray⟩, .string ⟨x.dst.toArray⟩, .int .i64 x.rel] 58))
        have Hb2 := Lib.hid (Hb.out.alloc hsz (.cells #[.string ⟨x.src.toArray⟩, .string ⟨x.dst.toArray⟩, .int .i64 x.rel] 58))
        have HS2 := Lib.hid (show outTo (es.take (k + 1)) s.data.toList rel = acc by rw [HS.out, hq1]; simp)
        clear hq1
        go_wp2_with fail
        go_roundg (gk - 1)
        case measure => omega
        case rel => exact ⟨k + 1, by omega, by go_num, by omega, by rw [HS2.out]; exact Hown2, Hb2⟩
      | true =>
        have q1 : (x.src == s.toList) = true := by rw [ByteArray.toList_eq]; exact hq1
        cases hq2 : (x.rel == rel) with
        | false =>
          have Hown2 := Lib.hid (Hown.out.alloc (.cells #[.string ⟨x.src.toArray⟩, .string ⟨x.dst.toArray⟩, .int .i64 x.rel] 58))
          have Hb2 := Lib.hid (Hb.out.alloc hsz (.cells #[.string ⟨x.src.toArray⟩, .string ⟨x.dst.toArray⟩, .int .i64 x.rel] 58))
          have HS2 := Lib.hid (show outTo (es.take (k + 1)) s.data.toList rel = acc by rw [HS.out, hq2]; simp)
          clear hq1
          go_wp2_with fail
          go_roundg (gk - 1)
          case measure => omega
          case rel => exact ⟨k + 1, by omega, by go_num, by omega, by rw [HS2.out]; exact Hown2, Hb2⟩
        | true =>
          have HS2 := Lib.hid (show outTo (es.take (k + 1)) s.data.toList rel = acc ++ [x.dst] by rw [HS.out, hq1, hq2]; simp)
          have Hown2 := Lib.hid ((Hown.out.alloc (.cells #[.string ⟨x.src.toArray⟩, .string ⟨x.dst.toArray⟩, .int .i64 x.rel] 58)).alloc (.cells #[.string ⟨x.dst.toArray⟩] 9))
          clear hq1 HS
          go_wp2_with (at_builtin; refine wpList_append_own _ rfl _ _ 37 rfl w.heap.size 9 i0 (.string ⟨#[]⟩) 1 16 Tryz.underlying37 hi0 hz0 hz1 hz2 rfl (by decide) _ _ _ rfl Hown2.out ⟨wr.heap.size + 1, 0, none⟩ 1 1 [.string ⟨x.dst.toArray⟩] rfl rfl ?c1 ?c2 ?c3 ?c4 ?c5 ?_)
          case c1 => rw [show wr.heap.size + 1 = (wr.alloc (.cells #[.string ⟨x.src.toArray⟩, .string ⟨x.dst.toArray⟩, .int .i64 x.rel] 58)).heap.size by simp]; exact cell_one_new _ _ _
          case c2 => simp [Value.oneCell']
          case c3 => unfold maxLen; omega
          case c4 => omega
          case c5 => simp; omega
          intro v' w4 hown' hgrow hnil
          have HB4 := Lib.hid ((((Hb.out.alloc hsz _).alloc (by simp; omega) _).grown hgrow (by simp; omega) (fun g hg => (Hown.out.lt g hg).1)))
          have HO4 := Lib.hid (show w4.ownsRow w.heap.size 9 1 v' (outTo (es.take (k + 1)) s.data.toList rel).length (strVals (outTo (es.take (k + 1)) s.data.toList rel)) by rw [HS2.out, strVals_snoc, List.length_append]; exact hown')
          clear hgrow hnil hown'
          obtain ⟨ao, cap2, rfl⟩ := ownsRow_form HO4.out
          go_wp2_with fail
          go_roundg (gk - 1)
          case measure => omega
          case rel => exact ⟨k + 1, by omega, by go_num, by omega, HO4, HB4⟩
    · have hke : k = es.length := by omega
      subst hke
      have hlen := outTo_len es s.data.toList rel
      have hte : outTo (es.take es.length) s.data.toList rel = outTo es s.data.toList rel := by rw [List.take_length]
      rw [← hte] at hlen HO
      clear hte
      generalize outTo (es.take es.length) s.data.toList rel = acc at *
      have HN := Lib.hid (once_any w.heap.size _ acc wr Hown.out (by omega))
      go_wp2_with fail
      refine HN.out.mono ?_
      rintro e w' ⟨v', l', rfl, rfl, ho, hf⟩
      have HB' := Lib.hid (show Below w.heap.size w w' from Hb.out.trans (hf.below _ Hb.out.size (fun g hg e => by have := (Hown.out.lt g e).1; omega)))
      have HO' := Lib.hid ho; clear ho hf
      obtain ⟨ao, cap2, rfl⟩ := ownsRow_form HO'.out
      go_wp2_with fail
      go_ret
      refine ⟨_, rfl, ?_, HB'.out⟩
      rw [← HO.out]; exact HO'.out

def inTo (es : List EdgeS) (s : Str) (rel : Int) : List Str := (es.filter fun e => e.dst == s && e.rel == rel).map (·.src)
theorem inTo_snoc (es : List EdgeS) (s : Str) (rel : Int) (k : Nat) (h : k < es.length) : inTo (es.take (k + 1)) s rel = inTo (es.take k) s rel ++ (if (es[k].dst == s && es[k].rel == rel) = true then [es[k].src] else []) := by
  unfold inTo
  rw [List.take_succ_eq_append_getElem h, List.filter_append, List.map_append]
  cases hq : (es[k].dst == s && es[k].rel == rel) <;> simp [hq]
theorem inTo_len (es : List EdgeS) (s : Str) (rel : Int) : (inTo es s rel).length ≤ es.length := by
  unfold inTo; rw [List.length_map]; exact List.length_filter_le _ _

/-- What a function that hands back texts of its own says. -/
def OutTin (w : World) (l : List Str) (e : Ending) (w' : World) : Prop := ∃ v, e = .returned v ∧ w'.ownsRow w.heap.size 9 1 v l.length (strVals l) ∧ Below w.heap.size w w'

set_option maxHeartbeats 2000000 in
theorem gin_any (oe : Option Addr) (cap : Nat) (es : List EdgeS) (nv : Value) (s : ByteArray) (rel : Int) (w : World) (hr : RowRd encE 3 w oe es) (hl : es.length < 1073741824) :
    Calls Tryz.prog 21 #[.agg #[nv, .slice oe es.length cap], .string s, .int .i64 rel] w fun e w' => OutTin w (inS es s.data.toList rel) e w' := by
  obtain ⟨i0, hi0, hz0, hz1, hz2⟩ := info_parts infoString
  have HR := Lib.hid hr; clear hr
  have HO := Lib.hid (show sortL ltS (inTo es s.data.toList rel) = inS es s.data.toList rel from rfl)
  go_enter Tryz.func21, Tryz.ntmps21
  go_wp2_with fail
  have HB0 := Lib.hid ((Below.refl w.heap.size w).alloc (Nat.le_refl _) (.cells #[nv, .slice oe es.length cap] 29))
  generalize w.alloc (.cells #[nv, .slice oe es.length cap] 29) = w1 at *
  go_loopg [7, 13] (es.length + 1) (fun f v i wr => ∃ k : Nat, k ≤ es.length ∧ i = .int .i64 k ∧ es.length - k < f ∧ Hid (wr.ownsRow w.heap.size 9 1 v (inTo (es.take k) s.data.toList rel).length (strVals (inTo (es.take k) s.data.toList rel))) ∧ Hid (Below w.heap.size w wr))
  case atStart => exact ⟨0, by omega, rfl, by omega, World.ownsRow_nil _ _ _ _, HB0⟩
  case round =>
    obtain ⟨k, hk, rfl, hfu, Hown, Hb⟩ := hrel
    obtain ⟨oa', cap', rfl⟩ := ownsRow_form Hown.out
    by_cases hlt : k < es.length
    · obtain ⟨b, o, rfl, hblt, hcc⟩ := (HR.out.below Hb.out) k hlt
      have HS := Lib.hid (inTo_snoc es s.data.toList rel k hlt)
      have hlen := inTo_len (es.take k) s.data.toList rel
      rw [List.length_take, Nat.min_eq_left (by omega)] at hlen
      obtain ⟨x, hx⟩ : ∃ x, x = es[k] := ⟨_, rfl⟩
      rw [← hx] at hcc HS
      have d0 := hcc 0 _ rfl; have d1 := hcc 1 _ rfl; have d2 := hcc 2 _ rfl
      simp only [Nat.add_zero] at d0
      clear hcc hx
      generalize inTo (es.take k) s.data.toList rel = acc at *
      have hsz := Hb.out.size
      have i5 : (k : Int) < (es.length : Int) := by omega
      cases hq1 : (x.dst == s.data.toList) with
      | false =>
        have q1 : (x.dst == s.toList) = false := by rw [ByteArray.toList_eq]; exact hq1
        have Hown2 := Lib.hid (Hown.out.alloc (.cells #[.string ⟨x.src.toArray⟩, .string ⟨x.dst.toArray⟩, .int .i64 x.rel] 58))
        have Hb2 := Lib.hid (Hb.out.alloc hsz (.cells #[.string ⟨x.src.toArray⟩, .string ⟨x.dst.toArray⟩, .int .i64 x.rel] 58))
        have HS2 := Lib.hid (show inTo (es.take (k + 1)) s.data.toList rel = acc by rw [HS.out, hq1]; simp)
        clear hq1
        go_wp2_with fail
        go_roundg (gk - 1)
        case measure => omega
        case rel => exact ⟨k + 1, by omega, by go_num, by omega, by rw [HS2.out]; exact Hown2, Hb2⟩
      | true =>
        have q1 : (x.dst == s.toList) = true := by rw [ByteArray.toList_eq]; exact hq1
        cases hq2 : (x.rel == rel) with
        | false =>
          have Hown2 := Lib.hid (Hown.out.alloc (.cells #[.string ⟨x.src.toArray⟩, .string ⟨x.dst.toArray⟩, .int .i64 x.rel] 58))
          have Hb2 := Lib.hid (Hb.out.alloc hsz (.cells #[.string ⟨x.src.toArray⟩, .string ⟨x.dst.toArray⟩, .int .i64 x.rel] 58))
          have HS2 := Lib.hid (show inTo (es.take (k + 1)) s.data.toList rel = acc by rw [HS.out, hq2]; simp)
          clear hq1
          go_wp2_with fail
          go_roundg (gk - 1)
          case measure => omega
          case rel => exact ⟨k + 1, by omega, by go_num, by omega, by rw [HS2.out]; exact Hown2, Hb2⟩
        | true =>
          have HS2 := Lib.hid (show inTo (es.take (k + 1)) s.data.toList rel = acc ++ [x.src] by rw [HS.out, hq1, hq2]; simp)
          have Hown2 := Lib.hid ((Hown.out.alloc (.cells #[.string ⟨x.src.toArray⟩, .string ⟨x.dst.toArray⟩, .int .i64 x.rel] 58)).alloc (.cells #[.string ⟨x.src.toArray⟩] 9))
          clear hq1 HS
          go_wp2_with (at_builtin; refine wpList_append_own _ rfl _ _ 37 rfl w.heap.size 9 i0 (.string ⟨#[]⟩) 1 16 Tryz.underlying37 hi0 hz0 hz1 hz2 rfl (by decide) _ _ _ rfl Hown2.out ⟨wr.heap.size + 1, 0, none⟩ 1 1 [.string ⟨x.src.toArray⟩] rfl rfl ?c1 ?c2 ?c3 ?c4 ?c5 ?_)
          case c1 => rw [show wr.heap.size + 1 = (wr.alloc (.cells #[.string ⟨x.src.toArray⟩, .string ⟨x.dst.toArray⟩, .int .i64 x.rel] 58)).heap.size by simp]; exact cell_one_new _ _ _
          case c2 => simp [Value.oneCell']
          case c3 => unfold maxLen; omega
          case c4 => omega
          case c5 => simp; omega
          intro v' w4 hown' hgrow hnil
          have HB4 := Lib.hid ((((Hb.out.alloc hsz _).alloc (by simp; omega) _).grown hgrow (by simp; omega) (fun g hg => (Hown.out.lt g hg).1)))
          have HO4 := Lib.hid (show w4.ownsRow w.heap.size 9 1 v' (inTo (es.take (k + 1)) s.data.toList rel).length (strVals (inTo (es.take (k + 1)) s.data.toList rel)) by rw [HS2.out, strVals_snoc, List.length_append]; exact hown')
          clear hgrow hnil hown'
          obtain ⟨ao, cap2, rfl⟩ := ownsRow_form HO4.out
          go_wp2_with fail
          go_roundg (gk - 1)
          case measure => omega
          case rel => exact ⟨k + 1, by omega, by go_num, by omega, HO4, HB4⟩
    · have hke : k = es.length := by omega
      subst hke
      have hlen := inTo_len es s.data.toList rel
      have hte : inTo (es.take es.length) s.data.toList rel = inTo es s.data.toList rel := by rw [List.take_length]
      rw [← hte] at hlen HO
      clear hte
      generalize inTo (es.take es.length) s.data.toList rel = acc at *
      have HN := Lib.hid (once_any w.heap.size _ acc wr Hown.out (by omega))
      go_wp2_with fail
      refine HN.out.mono ?_
      rintro e w' ⟨v', l', rfl, rfl, ho, hf⟩
      have HB' := Lib.hid (show Below w.heap.size w w' from Hb.out.trans (hf.below _ Hb.out.size (fun g hg e => by have := (Hown.out.lt g e).1; omega)))
      have HO' := Lib.hid ho; clear ho hf
      obtain ⟨ao, cap2, rfl⟩ := ownsRow_form HO'.out
      go_wp2_with fail
      go_ret
      refine ⟨_, rfl, ?_, HB'.out⟩
      rw [← HO.out]; exact HO'.out
end Go.Proofs.YtcaamakodneplaaGreat
