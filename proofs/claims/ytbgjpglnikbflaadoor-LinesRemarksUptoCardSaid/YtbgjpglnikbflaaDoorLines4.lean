/-
  Package lines: the reader's line.
-/
import Derived.Test.YtbgjpglnikbflaaDoorLines3
import Derived.Deep.AppendLies
import Derived.Deep.RegionLaw
namespace Go.Proofs.YtbgjpglnikbflaaDoor
open Go Go.RowKit
set_option linter.unusedVariables false
set_option maxRecDepth 100000

/-- The library's variable that its search looks into holds some number. -/
def MaxAt (w : World) : Prop := ∃ m, w.cell? ⟨0, 0, none⟩ = some (.int .i64 m)
theorem MaxAt.below {w w' : World} (h : MaxAt w) (hb : Below w.heap.size w w') : MaxAt w' := by
  obtain ⟨m, hm⟩ := h
  exact ⟨m, (hb.cell (p := ⟨0, 0, none⟩) (World.block_lt_of_cell? w _ hm)).trans hm⟩
theorem MaxAt.fr {w w' : World} {M : Nat → Prop} (h : MaxAt w) (hf : Fr M w w') (hM : ¬ M 0) : MaxAt w' := by
  obtain ⟨m, hm⟩ := h
  refine ⟨m, ?_⟩
  rw [← hm]
  unfold World.cell?
  rw [hf.block _ (World.block_lt_of_cell? w _ hm) hM]

theorem cutEnd_no (s : ByteArray) (w : World) (h63 : s.size ≤ 9223372036854775807) (hg : (s.data.toList.getLast? == some 93) = false) :
    Calls Tryd.prog 40 #[.string s, .string ⟨#[93]⟩] w fun e w' => e = .returned (.tuple #[.string s, .bool false]) ∧ w = w' := by
  refine (Tryd.strings_CutSuffix s ⟨#[93]⟩ w h63).mono ?_
  rintro e w' ⟨rfl, rfl⟩
  have h1 : Lib.hasSuffix s.data.toList [93] = false := by rw [hasSuffix_one]; exact hg
  refine ⟨?_, rfl⟩
  show Ending.returned (.tuple #[.string ⟨(Lib.trimSuffix s.data.toList [93]).toArray⟩, .bool (Lib.hasSuffix s.data.toList [93])]) = _
  unfold Lib.trimSuffix
  rw [h1, if_neg (by decide)]
theorem cutEnd_yes (s : ByteArray) (w : World) (h63 : s.size ≤ 9223372036854775807) (hg : (s.data.toList.getLast? == some 93) = true) (t : Str) (ht : s.data.toList.dropLast = t) :
    Calls Tryd.prog 40 #[.string s, .string ⟨#[93]⟩] w fun e w' => e = .returned (.tuple #[.string ⟨t.toArray⟩, .bool true]) ∧ w = w' := by
  subst ht
  refine (Tryd.strings_CutSuffix s ⟨#[93]⟩ w h63).mono ?_
  rintro e w' ⟨rfl, rfl⟩
  have h1 : Lib.hasSuffix s.data.toList [93] = true := by rw [hasSuffix_one]; exact hg
  refine ⟨?_, rfl⟩
  show Ending.returned (.tuple #[.string ⟨(Lib.trimSuffix s.data.toList [93]).toArray⟩, .bool (Lib.hasSuffix s.data.toList [93])]) = _
  rw [trimSuffix_one (by simpa using hg), h1]
theorem cutOpen (x : ByteArray) (c : UInt8) (t : Str) (w : World) (hx : x.data.toList = c :: t) (b : Bool) (hb : (c == 91) = b) (r : Str) (hr : (if b = true then t else c :: t) = r) :
    Calls Tryd.prog 39 #[.string x, .string ⟨#[91]⟩] w fun e w' => e = .returned (.tuple #[.string ⟨r.toArray⟩, .bool b]) ∧ w = w' := by
  subst hr
  refine (Tryd.strings_CutPrefix x ⟨#[91]⟩ w).mono ?_
  rintro e w' ⟨rfl, rfl⟩
  refine ⟨?_, rfl⟩
  show Ending.returned (.tuple #[.string ⟨(Lib.trimPrefix x.data.toList [91]).toArray⟩, .bool (Lib.hasPrefix x.data.toList [91])]) = _
  rw [hx]
  have h1 : Lib.hasPrefix (c :: t) [91] = b := by
    rw [← hb]
    unfold Lib.hasPrefix
    simp only [List.isPrefixOf, Bool.and_true]
    exact Bool.eq_iff_iff.2 ⟨fun h => by simpa using (eq_of_beq h).symm, fun h => by simpa using (eq_of_beq h).symm⟩
  unfold Lib.trimPrefix
  rw [h1]
  cases b <;> rfl

/-- Where the first = stands. -/
def eqAt (s : Str) : Int := match cutEq s with
  | some (k, _) => (k.length : Int)
  | none => -1
theorem index_eq : ∀ (s : Str), Lib.index s [61] = eqAt s
  | [] => rfl
  | c :: r => by
    have ih := index_eq r
    unfold eqAt at *
    unfold Lib.index cutEq
    cases hc : (c == 61) with
    | true =>
      have : List.isPrefixOf [61] (c :: r) = true := by
        have := eq_of_beq hc; subst this; simp [List.isPrefixOf]
      rw [this]; rfl
    | false =>
      have : List.isPrefixOf [61] (c :: r) = false := by
        simp only [List.isPrefixOf, Bool.and_true]
        rw [beq_eq_false_iff_ne] at hc ⊢
        exact fun e => hc e.symm
      rw [this, ih]
      cases hr : cutEq r with
      | none => rfl
      | some x =>
        obtain ⟨a, b⟩ := x
        simp
theorem cut_eq (s : Str) : Lib.cut s [61] = match cutEq s with
    | some (k, v) => (k, v, true)
    | none => (s, [], false) := by
  unfold Lib.cut
  rw [index_eq]
  unfold eqAt
  cases h : cutEq s with
  | none => simp
  | some x =>
    obtain ⟨k, v⟩ := x
    have he := cutEq_len h
    simp only
    rw [if_pos (by omega), he]
    simp

theorem cut_no (x : ByteArray) (w : World) (hs : x.size < 4294967281) (hm : MaxAt w) (h : cutEq x.data.toList = none) :
    Calls Tryd.prog 42 #[.string x, .string ⟨#[61]⟩] w fun e w' => e = .returned (.tuple #[.string x, .string ⟨#[]⟩, .bool false]) ∧ ∃ n, w' = w.drewN n := by
  obtain ⟨m, hm⟩ := hm
  refine (Tryd.strings_Cut x ⟨#[61]⟩ m w hs hm).mono ?_
  rintro e w' ⟨rfl, hw⟩
  refine ⟨?_, hw⟩
  show Ending.returned (.tuple #[.string ⟨(Lib.cut x.data.toList [61]).1.toArray⟩, .string ⟨(Lib.cut x.data.toList [61]).2.1.toArray⟩, .bool (Lib.cut x.data.toList [61]).2.2]) = _
  rw [cut_eq, h]
theorem cut_yes (x : ByteArray) (k v : Str) (w : World) (hs : x.size < 4294967281) (hm : MaxAt w) (h : cutEq x.data.toList = some (k, v)) :
    Calls Tryd.prog 42 #[.string x, .string ⟨#[61]⟩] w fun e w' => e = .returned (.tuple #[.string ⟨k.toArray⟩, .string ⟨v.toArray⟩, .bool true]) ∧ ∃ n, w' = w.drewN n := by
  obtain ⟨m, hm⟩ := hm
  refine (Tryd.strings_Cut x ⟨#[61]⟩ m w hs hm).mono ?_
  rintro e w' ⟨rfl, hw⟩
  refine ⟨?_, hw⟩
  show Ending.returned (.tuple #[.string ⟨(Lib.cut x.data.toList [61]).1.toArray⟩, .string ⟨(Lib.cut x.data.toList [61]).2.1.toArray⟩, .bool (Lib.cut x.data.toList [61]).2.2]) = _
  rw [cut_eq, h]

/-- Lines as cells. -/
def lnCells (l : Ln) : List Value := [.string ⟨l.sec.toArray⟩, .string ⟨l.key.toArray⟩, .string ⟨l.val.toArray⟩, .int .i64 l.at_]
def lnVals : List Ln → List Value
  | [] => []
  | l :: r => lnCells l ++ lnVals r
theorem lnVals_snoc (l : List Ln) (x : Ln) : lnVals (l ++ [x]) = lnVals l ++ lnCells x := by
  induction l with
  | nil => simp [lnVals]
  | cons a r ih => simp only [List.cons_append, lnVals, ih, List.append_assoc]
theorem lnVals_length (l : List Ln) : (lnVals l).length = l.length * 4 := by
  induction l with
  | nil => rfl
  | cons a r ih => simp [lnVals, lnCells, ih]; omega

/-- The slice of what was said: its own row, in a block behind the reader. -/
def Said (R : Nat) (out : List Ln) (ov : Value) (w : World) : Prop := w.ownsRow (R + 1) 34 4 ov out.length (lnVals out)
theorem Said.fr {R : Nat} {out : List Ln} {ov : Value} {w w' : World} {M : Nat → Prop} (h : Said R out ov w) (hf : Fr M w w') (hM : ∀ k, M k → k ≤ R) : Said R out ov w' := by
  refine ownsRow_fr h hf ?_
  intro g hg _ hm
  have := (h.lt g hg).1
  have := hM g hm
  omega
theorem Said.below {R : Nat} {out : List Ln} {ov : Value} {w w' : World} (h : Said R out ov w) (hf : Below w.heap.size w w') : Said R out ov w' :=
  h.fr (Fr.of_below hf (fun _ => False)) (fun _ e => e.elim)

/-- What taking a line in leaves. -/
def OutLn (R : Nat) (rows : List Str) (n : Nat) (sec : Str) (ov : Value) (out : List Ln) (at_ : Nat) (says : Says) (w : World) (e : Ending) (w' : World) : Prop :=
  match says with
  | .err c => e = .returned (.int .i64 c) ∧ Below w.heap.size w w'
  | .nothing => e = .returned (.int .i64 0) ∧ Below w.heap.size w w'
  | .sect name => e = .returned (.int .i64 0) ∧ LRd R rows n name ov w' ∧ Said R out ov w' ∧ Fr (· = R) w w'
  | .pair k v => e = .returned (.int .i64 0) ∧ ∃ ov', LRd R rows n sec ov' w' ∧ Said R (out ++ [⟨sec, k, v, (at_ : Int)⟩]) ov' w' ∧ Fr (fun b => R ≤ b) w w'
end Go.Proofs.YtbgjpglnikbflaaDoor
