/-
  Package chars: the contracts of its small functions.
-/
import Derived.Test.YtlcimhchkbaieaaShelf
import Derived.Test.YtlcimhchkbaieaaWordsS
import Derived.Test.YtlcimhchkbaieaaBuilder
namespace Go.Proofs.Ytlcimhchkbaieaa
open Go Go.RowKit
set_option linter.unusedVariables false

theorem u8_cast (c : UInt8) : ((c.toNat : Int).toNat.toUInt8) = c := by simp

theorem idx2 (a b c : UInt8) : (0 ≤ Lib.indexByte [a, b] c) ↔ (c = a ∨ c = b) := by
  simp only [Lib.indexByte]
  by_cases h1 : a = c
  · simp [h1]
  · by_cases h2 : b = c
    · subst h2; simp [h1]
    · simp [h1, h2]
      exact ⟨fun e => h1 e.symm, fun e => h2 e.symm⟩

theorem isBlank_iff (c : UInt8) : isBlank c = decide ((c.toNat : Int) = 32 ∨ (c.toNat : Int) = 9) := by
  rw [Bool.eq_iff_iff]; simp [isBlank, ← UInt8.toNat_inj]; omega
theorem isBad_iff (c : UInt8) : isBad c = decide (((c.toNat : Int) < 32 ∧ (c.toNat : Int) ≠ 9) ∨ (c.toNat : Int) = 127) := by
  rw [Bool.eq_iff_iff]; simp [isBad, ← UInt8.toNat_inj, UInt8.lt_iff_toNat_lt]; omega

set_option maxHeartbeats 400000 in
theorem blank_any (c : UInt8) (w : World) :
    Calls Try.prog 26 #[.int .u8 c.toNat] w fun e w' => e = .returned (.bool (isBlank c)) ∧ w = w' := by
  go_enter Try.func26, Try.ntmps26
  go_wp2_with (go_at_call 20; refine (Try.strings_IndexByte _ _ _).mono ?_; rintro e w' ⟨rfl, rfl⟩)
  go_ret
  refine ⟨ret_bool ?_, rfl⟩
  rw [isBlank_iff, decide_eq_decide, idx2, ← UInt8.toNat_inj, ← UInt8.toNat_inj]
  simp
  omega

set_option maxHeartbeats 400000 in
theorem bad_any (c : UInt8) (w : World) :
    Calls Try.prog 41 #[.int .u8 c.toNat] w fun e w' => e = .returned (.bool (isBad c)) ∧ w = w' := by
  go_enter Try.func41, Try.ntmps41
  go_wp2
  all_goals
    go_ret
    refine ⟨ret_bool ?_, rfl⟩
    rw [isBad_iff, Bool.eq_iff_iff]
    simp
    omega

abbrev hexes : List UInt8 := [48, 49, 50, 51, 52, 53, 54, 55, 56, 57, 97, 98, 99, 100, 101, 102]
theorem hexIdx (c : UInt8) : Lib.indexByte hexes c = match hexOf c with | some n => (n : Int) | none => -1 := by
  have := u8_forall (p := fun c => decide (Lib.indexByte hexes c = match hexOf c with | some n => (n : Int) | none => -1)) (by decide +kernel) c
  exact of_decide_eq_true this
theorem hexOf_lt {c : UInt8} {n : Nat} (h : hexOf c = some n) : n < 16 := by
  have := u8_forall (p := fun c => match hexOf c with | some n => decide (n < 16) | none => true) (by decide +kernel) c
  rw [h] at this
  exact of_decide_eq_true this

theorem or16 (x y : Nat) (hx : x < 16) (hy : y < 16) : bits BinOp.or IntKind.i64 ((x : Int) * 16) y % 256 = ((UInt8.ofNat (16 * x + y)).toNat : Int) := by
  have h : (List.range 16).all (fun x => (List.range 16).all fun y => decide (bits BinOp.or IntKind.i64 ((x : Int) * 16) y % 256 = ((UInt8.ofNat (16 * x + y)).toNat : Int))) = true := by decide +kernel
  have h1 := List.all_eq_true.1 h x (List.mem_range.2 hx)
  have h2 := List.all_eq_true.1 h1 y (List.mem_range.2 hy)
  exact of_decide_eq_true h2

/-- What Two comes to. -/
def twoV (l : List UInt8) : Value := match twoOf l with
  | some d => .tuple #[.int .u8 d.toNat, .bool true]
  | none => .tuple #[.int .u8 0, .bool false]

set_option maxHeartbeats 400000 in
theorem two_short (s : ByteArray) (w : World) (h : s.size < 2) :
    Calls Try.prog 46 #[.string s] w fun e w' => e = .returned (.tuple #[.int .u8 0, .bool false]) ∧ w = w' := by
  go_enter Try.func46, Try.ntmps46
  go_wp2
  go_ret2
  exact ⟨rfl, rfl⟩

set_option maxHeartbeats 400000 in
theorem two_long (s : ByteArray) (w : World) (h : 2 ≤ s.size) (h63 : s.size ≤ 9223372036854775807) :
    Calls Try.prog 46 #[.string s] w fun e w' => e = .returned (twoV [s[0], s[1]]) ∧ ∃ n, w' = w.drewN n := by
  have h0 : 0 < s.size := by omega
  have h1 : (1 : Int) < (s.size : Int) := by omega
  have e0 := hexIdx s[0]
  have e1 := hexIdx s[1]
  have l0 := @hexOf_lt s[0]
  have l1 := @hexOf_lt s[1]
  unfold twoV
  simp only [twoOf]
  cases hx : hexOf s[0] with
  | none =>
    rw [hx] at e0
    simp only at e0
    clear l0 l1 e1 hx
    go_enter Try.func46, Try.ntmps46
    go_wp2_with fail
    go_quiet ((go_at_call 20; exact Calls.quiet_of_same (Try.strings_IndexByte _ _ _)))
    go_wp2
    go_ret2
    exact ⟨rfl, _, rfl⟩
  | some x =>
    rw [hx] at e0
    simp only at e0
    have hx16 := l0 hx
    cases hy : hexOf s[1] with
    | none =>
      rw [hy] at e1
      simp only at e1
      clear l0 l1 hx hy
      go_enter Try.func46, Try.ntmps46
      go_wp2_with fail
      go_quiet ((go_at_call 20; exact Calls.quiet_of_same (Try.strings_IndexByte _ _ _)))
      go_wp2
      go_ret2
      exact ⟨rfl, _, rfl⟩
    | some y =>
      rw [hy] at e1
      simp only at e1
      have hy16 := l1 hy
      clear l0 l1 hx hy
      go_enter Try.func46, Try.ntmps46
      go_wp2_with fail
      go_quiet ((go_at_call 20; exact Calls.quiet_of_same (Try.strings_IndexByte _ _ _)))
      go_wp2
      go_ret2
      refine ⟨ret_val (by rw [← or16 x y hx16 hy16]; rfl), _, rfl⟩

theorem two_any (s : ByteArray) (w : World) (h63 : s.size ≤ 9223372036854775807) :
    Calls Try.prog 46 #[.string s] w fun e w' => e = .returned (twoV s.data.toList) ∧ ∃ n, w' = w.drewN n := by
  by_cases h : s.size < 2
  · refine (two_short s w h).mono ?_
    rintro e w' ⟨rfl, rfl⟩
    refine ⟨?_, 0, rfl⟩
    obtain ⟨⟨d⟩⟩ := s
    match d, h with
    | [], _ => rfl
    | [a], _ => rfl
  · refine (two_long s w (by omega) h63).mono ?_
    rintro e w' ⟨rfl, hw⟩
    refine ⟨?_, hw⟩
    obtain ⟨⟨d⟩⟩ := s
    match d, h with
    | a :: b :: r, _ => rfl
    | [], h => exact absurd (show 0 < 2 by decide) h
    | [a], h => exact absurd (show 1 < 2 by decide) h

theorem bytes_ext {a b : ByteArray} (h : a.data.toList = b.data.toList) : a = b := by
  obtain ⟨⟨a⟩⟩ := a
  obtain ⟨⟨b⟩⟩ := b
  simp at h
  rw [h]
theorem byteDigits (c : UInt8) : ((⟨#[92, 120]⟩ : ByteArray) ++ (⟨hexes.toArray⟩ : ByteArray).extract (c.toNat / 16) (c.toNat / 16 + 1) ++ (⟨hexes.toArray⟩ : ByteArray).extract (c.toNat % 16) (c.toNat % 16 + 1)) = ⟨(92 :: 120 :: hexByte c).toArray⟩ := by
  apply bytes_ext
  have := u8_forall (p := fun c => decide (((⟨#[92, 120]⟩ : ByteArray) ++ (⟨hexes.toArray⟩ : ByteArray).extract (c.toNat / 16) (c.toNat / 16 + 1) ++ (⟨hexes.toArray⟩ : ByteArray).extract (c.toNat % 16) (c.toNat % 16 + 1)).data.toList = (92 :: 120 :: hexByte c))) (by decide +kernel) c
  exact of_decide_eq_true this

theorem two_at (s : ByteArray) (w : World) (h63 : s.size ≤ 9223372036854775807) (l : List UInt8) (hl : s.data.toList = l) :
    Calls Try.prog 46 #[.string s] w fun e w' => e = .returned (.tuple #[.int .u8 ((twoOf l).getD 0).toNat, .bool (twoOf l).isSome]) ∧ ∃ n, w' = w.drewN n := by
  refine (two_any s w h63).mono ?_
  rintro e w' ⟨rfl, hw⟩
  refine ⟨?_, hw⟩
  rw [hl]; unfold twoV
  cases twoOf l <;> rfl

set_option maxHeartbeats 1000000 in
theorem byte_any (c : UInt8) (w : World) :
    Calls Try.prog 38 #[.int .u8 c.toNat] w fun e w' => e = .returned (.string ⟨(92 :: 120 :: hexByte c).toArray⟩) ∧ ∃ n, w' = w.drewN n := by
  have hc := UInt8.toNat_lt c
  have h1 : ((c.toNat : Int) / 16 + 1) % 256 = (c.toNat : Int) / 16 + 1 := by omega
  have h2 : 0 ≤ (c.toNat : Int) / 16 := by omega
  have h3 : (c.toNat : Int) / 16 + 1 ≤ 16 := by omega
  have h4 : 0 ≤ (c.toNat : Int) / 16 + 1 := by omega
  have h5 : (c.toNat : Int) / 16 ≤ (c.toNat : Int) / 16 + 1 := by omega
  go_enter Try.func38, Try.ntmps38
  go_wp2
  go_quiet (fail)
  go_wp2
  go_ret
  refine ⟨ret_val (congrArg Value.string (byteDigits c)), _, rfl⟩

theorem take_snoc (l : List UInt8) (k : Nat) (h : k < l.length) : l.take (k + 1) = l.take k ++ [l[k]] := by
  rw [List.take_succ_eq_append_getElem h]

set_option maxHeartbeats 1000000 in
theorem all_any (s : ByteArray) (f : FuncId) (fr cap : Array Value) (p : UInt8 → Bool) (w : World) (h63 : s.size ≤ 9223372036854775807)
    (HE : ∀ args w, (callFunc f args).run Try.prog w = .ok (.enter f args) w)
    (H : ∀ c : UInt8, Calls Try.prog f (fr.push (.int .u8 c.toNat) ++ cap) w fun e w' => e = .returned (.bool (p c)) ∧ w = w') :
    Calls Try.prog 34 #[.string s, .func (.func f) fr cap] w fun e w' => e = .returned (.bool (s.data.toList.all p)) ∧ w = w' := by
  have HH := Lib.hid H; clear H
  go_enter Try.func34, Try.ntmps34
  go_wp2
  go_loop [5, 8] (fun _ i => ∃ k : Nat, k ≤ s.size ∧ i = .int .i64 k ∧ Hid ((s.data.toList.take k).all p = true)) (fun _ i => s.size - (intOf i).toNat)
  case atStart => exact ⟨0, Nat.zero_le _, rfl, by simp [Hid]⟩
  case round =>
    obtain ⟨k, hk, rfl, hall⟩ := hrel
    by_cases hlt : k < s.size
    · have hsn := take_snoc s.data.toList k (by simpa using hlt)
      have hgk : s.data.toList[k]'(by simpa using hlt) = s[k] := rfl
      rw [hgk] at hsn
      cases hp : p s[k] with
      | true =>
        have HT := Lib.hid (show (s.data.toList.take (k + 1)).all p = true by rw [hsn, List.all_append, hall.out]; simp [hp])
        have HP := Lib.hid hp
        clear hsn hgk hp
        go_wp2_with (refine (HH.out s[k]).mono ?_; rintro e w' ⟨rfl, rfl⟩; rw [HP.out])
        go_round
        case rel => exact ⟨k + 1, by omega, by go_num, HT⟩
        case measure => simp [intOf]; omega
      | false =>
        have HT := Lib.hid (show s.data.toList.all p = false by
          rw [List.all_eq_false]
          exact ⟨s[k], by rw [← hgk]; exact List.getElem_mem _, by simp [hp]⟩)
        have HP := Lib.hid hp
        clear hsn hgk hp
        go_wp2_with (refine (HH.out s[k]).mono ?_; rintro e w' ⟨rfl, rfl⟩; rw [HP.out])
        go_ret
        exact ⟨ret_bool HT.out.symm, rfl⟩
    · go_wp2
      go_ret
      have : k = s.size := by omega
      subst this
      have := hall.out
      rw [List.take_of_length_le (by simp)] at this
      refine ⟨ret_bool ?_, rfl⟩
      exact this.symm.trans (Array.all_toList )
end Go.Proofs.Ytlcimhchkbaieaa
