/-
  Package lines: the reader's join.
-/
import Derived.Test.YtbgjpglnikbflaaDoorLines2
import Derived.Deep.LoopGhost
import Derived.Deep.RegionHeld3
import Derived.Lib.SmallJoins
namespace Go.Proofs.YtbgjpglnikbflaaDoor
open Go Go.RowKit
set_option linter.unusedVariables false
set_option maxRecDepth 100000

theorem hasSuffix_one (l : Str) (c : UInt8) : Lib.hasSuffix l [c] = (l.getLast? == some c) := by
  unfold Lib.hasSuffix
  rw [Bool.eq_iff_iff, List.isSuffixOf_iff_suffix, beq_iff_eq]
  constructor
  · rintro ⟨t, rfl⟩; simp
  · intro h; obtain ⟨t, rfl⟩ := List.getLast?_eq_some_iff.1 h; exact ⟨t, rfl⟩
theorem trimSuffix_one {l : Str} {c : UInt8} (h : l.getLast? = some c) : Lib.trimSuffix l [c] = l.dropLast := by
  unfold Lib.trimSuffix
  rw [hasSuffix_one, h]
  simp [List.dropLast_eq_take]

theorem cutBack_no (s : ByteArray) (w : World) (h63 : s.size ≤ 9223372036854775807) (hg : goesOn s.data.toList = false) :
    Calls Tryd.prog 40 #[.string s, .string ⟨#[92]⟩] w fun e w' => e = .returned (.tuple #[.string s, .bool false]) ∧ w = w' := by
  refine (Tryd.strings_CutSuffix s ⟨#[92]⟩ w h63).mono ?_
  rintro e w' ⟨rfl, rfl⟩
  have h1 : Lib.hasSuffix s.data.toList [92] = false := by rw [hasSuffix_one]; exact hg
  refine ⟨?_, rfl⟩
  show Ending.returned (.tuple #[.string ⟨(Lib.trimSuffix s.data.toList [92]).toArray⟩, .bool (Lib.hasSuffix s.data.toList [92])]) = _
  unfold Lib.trimSuffix
  rw [h1, if_neg (by decide)]
theorem cutBack_yes (s : ByteArray) (w : World) (h63 : s.size ≤ 9223372036854775807) (hg : goesOn s.data.toList = true) :
    Calls Tryd.prog 40 #[.string s, .string ⟨#[92]⟩] w fun e w' => e = .returned (.tuple #[.string ⟨s.data.toList.dropLast.toArray⟩, .bool true]) ∧ w = w' := by
  refine (Tryd.strings_CutSuffix s ⟨#[92]⟩ w h63).mono ?_
  rintro e w' ⟨rfl, rfl⟩
  have h1 : Lib.hasSuffix s.data.toList [92] = true := by rw [hasSuffix_one]; exact hg
  refine ⟨?_, rfl⟩
  show Ending.returned (.tuple #[.string ⟨(Lib.trimSuffix s.data.toList [92]).toArray⟩, .bool (Lib.hasSuffix s.data.toList [92])]) = _
  rw [trimSuffix_one (by simpa [goesOn] using hg), h1]

/-- What a reader with rows left gives a walk. -/
theorem LRd.rd {R : Nat} {rows : List Str} {n : Nat} {sec : Str} {ov : Value} {w : World} (h : LRd R rows n sec ov w) :
    ∃ oa cap, w.cell? ⟨R, 0, none⟩ = some (.slice oa rows.length cap) ∧ w.cell? ⟨R, 1, none⟩ = some (.int .i64 n) ∧ w.cell? ⟨R, 2, none⟩ = some (.string ⟨sec.toArray⟩) ∧ w.cell? ⟨R, 3, none⟩ = some ov ∧
      w.frozen? ⟨R, 2, none⟩ = false ∧ w.frozen? ⟨R, 3, none⟩ = false ∧ ∀ x r, rows = x :: r → ∃ b o, oa = some ⟨b, o, none⟩ ∧ w.cell? ⟨b, o, none⟩ = some (.string ⟨x.toArray⟩) := by
  obtain ⟨v, h1, ⟨oa, cap, rfl, h2, h3, h4, h5⟩, h6⟩ := h
  obtain ⟨hc, hf, -, -⟩ := YtbgjpglnikbflaaDoor.rd h1
  refine ⟨oa, cap, by rw [hc]; rfl, by rw [hc]; rfl, by rw [hc]; rfl, by rw [hc]; rfl, hf 2, hf 3, ?_⟩
  rintro x r rfl
  obtain ⟨b, o, e, hb⟩ := h4 0 (by simp)
  exact ⟨b, o, e, by simpa using hb⟩

def OutJn (R : Nat) (sec : Str) (ov : Value) (res : Str × List Str × Nat) (w : World) (e : Ending) (w' : World) : Prop :=
  e = .returned (.string ⟨res.1.toArray⟩) ∧ LRd R res.2.1 res.2.2 sec ov w' ∧ Fr (· = R) w w'

theorem joinS_step {s x : Str} {r : List Str} {n : Nat} (hg : goesOn s = true) (hx : isRemark x = true) : joinS s (x :: r) n = joinS s r (n + 1) := by
  conv => lhs; unfold joinS
  rw [if_pos hg, if_pos hx]
theorem joinS_take {s x : Str} {r : List Str} {n : Nat} (hg : goesOn s = true) (hx : isRemark x = false) : joinS s (x :: r) n = joinS (s.dropLast ++ [32] ++ x) r (n + 1) := by
  conv => lhs; unfold joinS
  rw [if_pos hg, if_neg (by simp [hx])]
theorem joinS_end {s : Str} {n : Nat} (hg : goesOn s = true) : joinS s [] n = (s.dropLast ++ [32], [], n) := by
  unfold joinS; rw [if_pos hg]
theorem str_app (a b : Str) : (⟨a.toArray⟩ : ByteArray) ++ (⟨b.toArray⟩ : ByteArray) = ⟨(a ++ b).toArray⟩ := by
  apply bytes_ext
  rw [Joins.data_append]

set_option maxHeartbeats 2000000 in
theorem join_rd_any (R : Nat) (x : Str) (rows : List Str) (n : Nat) (sec : Str) (ov : Value) (w : World) (h : LRd R (x :: rows) n sec ov w) (hn : n + rows.length ≤ 900000) (hbu : bulkR (x :: rows) ≤ 1000000)
    (res : Str × List Str × Nat) (hres : joinS x rows (n + 1) = res) :
    Calls Tryd.prog 25 #[.pointer (some ⟨R, 0, none⟩)] w fun e w' => OutJn R sec ov res w e w' := by
  have Hres := Lib.hid hres; clear hres
  simp only [bulkR] at hbu
  go_enter Tryd.func25, Tryd.ntmps25
  go_wp2_with (go_at_call 23; refine (take_any R x rows n sec ov w h (by omega)).mono ?_)
  rintro e w1 ⟨rfl, hL1, hf1⟩
  have HF1 := Lib.hid hf1; clear hf1 h
  go_wp2_with fail
  go_loopg [3, 4, 5] (rows.length + 1) (fun f v _ _ wr => ∃ (t : Str) (rs : List Str) (m : Nat), v = .string ⟨t.toArray⟩ ∧ LRd R rs m sec ov wr ∧ t.length + bulkR rs ≤ 1000000 ∧ m + rs.length ≤ 900001 ∧ rs.length < f ∧ Hid (joinS t rs m = res) ∧ Hid (Fr (· = R) w wr))
  case atStart => exact ⟨x, rows, n + 1, rfl, hL1, by omega, by omega, by omega, Hres.out, HF1.out⟩
  case round =>
    obtain ⟨t, rs, m, rfl, hL, hbt, hm, hfu, Hq, HF⟩ := hrel
    have hts : (⟨t.toArray⟩ : ByteArray).size ≤ 9223372036854775807 := by show t.length ≤ _; omega
    cases hg : goesOn t with
    | false =>
      have HR := Lib.hid ((joinS_stay hg).symm.trans Hq.out)
      have HG := Lib.hid hg; clear hg
      go_wp2_with (go_at_call 40; refine (cutBack_no _ _ hts HG.out).mono ?_; rintro e w' ⟨rfl, rfl⟩)
      go_ret
      exact ⟨by rw [← HR.out]; rfl, by rw [← HR.out]; exact hL, HF.out⟩
    | true =>
      have hne := goesOn_ne hg
      have hlp := List.length_pos_iff.2 hne
      have hdl : t.dropLast.length + 1 = t.length := by simp; omega
      have HG := Lib.hid hg; clear hg hne
      go_wp2_with (go_at_call 40; refine (cutBack_yes _ _ hts HG.out).mono ?_; rintro e w' ⟨rfl, rfl⟩)
      obtain ⟨wo, rfl⟩ : ∃ wo : World, wo = wr := ⟨_, rfl⟩
      obtain ⟨go, rfl⟩ : ∃ go : Nat, go = gk := ⟨_, rfl⟩
      go_loopg [30] (rs.length + 1) (fun f _ wr => ∃ (rs2 : List Str) (m2 : Nat), LRd R rs2 m2 sec ov wr ∧ t.length + bulkR rs2 ≤ 1000000 ∧ m2 + rs2.length ≤ 900001 ∧ rs2.length < f ∧ rs2.length ≤ rs.length ∧ Hid (joinS t rs2 m2 = res) ∧ Hid (Fr (· = R) w wr))
      case atStart => exact ⟨rs, m, hL, hbt, hm, by omega, by omega, Hq.out, HF.out⟩
      case round =>
        obtain ⟨rs2, m2, hL2, hb2, hm2, hfu2, hle2, Hq2, HF2⟩ := hrel
        obtain ⟨oa, cap, c0, -, -, -, -, -, hhead⟩ := hL2.rd
        rcases rs2 with _ | ⟨y, r⟩
        · clear hhead
          have HR := Lib.hid ((joinS_end HG.out).symm.trans Hq2.out)
          have HE := Lib.hid (str_app t.dropLast [32])
          simp only [List.length_nil] at c0
          go_wp2_with fail
          go_ret
          exact ⟨by rw [← HR.out, ← HE.out]; rfl, by rw [← HR.out]; exact hL2, HF2.out⟩
        · obtain ⟨b, o, rfl, hy⟩ := hhead y r rfl
          clear hhead
          simp only [List.length_cons] at hm2 hfu2 hle2 c0
          simp only [bulkR] at hb2
          have hys : (⟨y.toArray⟩ : ByteArray).size ≤ 9223372036854775807 := by show y.length ≤ _; omega
          cases hry : isRemark y with
          | true =>
            have HR := Lib.hid ((joinS_step HG.out hry).symm.trans Hq2.out)
            have HRy := Lib.hid hry; clear hry
            go_wp2_with (go_at_call 21; refine (remark_any _ _ hys _ HRy.out).mono ?_)
            rintro e w3 ⟨rfl, hb3⟩
            have hL3 := hL2.below hb3
            have HF3 := Lib.hid (HF2.out.trans (Fr.of_below hb3 _))
            clear hb3
            go_wp2_with (go_at_call 23; refine (take_any R y r m2 sec ov _ hL3 (by omega)).mono ?_)
            rintro e w4 ⟨rfl, hL4, hf4⟩
            have HF4 := Lib.hid (HF3.out.trans hf4)
            clear hf4
            go_wp2_with fail
            go_roundg (gk - 1)
            case measure => omega
            case rel => exact ⟨r, m2 + 1, hL4, by omega, by omega, by omega, by omega, HR, HF4⟩
          | false =>
            have HR := Lib.hid ((joinS_take HG.out hry).symm.trans Hq2.out)
            have HRy := Lib.hid hry; clear hry
            have HE := Lib.hid (show ((⟨t.dropLast.toArray⟩ : ByteArray) ++ ⟨#[32]⟩) ++ ⟨y.toArray⟩ = ⟨(t.dropLast ++ [32] ++ y).toArray⟩ by rw [← str_app, ← str_app])
            go_wp2_with (go_at_call 21; refine (remark_any _ _ hys _ HRy.out).mono ?_)
            rintro e w3 ⟨rfl, hb3⟩
            have hL3 := hL2.below hb3
            obtain ⟨oa3, cap3, c03, -⟩ := hL3.rd
            have HF3 := Lib.hid (HF2.out.trans (Fr.of_below hb3 _))
            clear hb3
            simp only [List.length_cons] at c03
            go_wp2_with (go_at_call 23; refine (take_any R y r m2 sec ov _ hL3 (by omega)).mono ?_)
            rintro e w4 ⟨rfl, hL4, hf4⟩
            have HF4 := Lib.hid (HF3.out.trans hf4)
            clear hf4
            go_wp2_with fail
            go_roundg (go - 1)
            case measure => omega
            case rel => exact ⟨t.dropLast ++ [32] ++ y, r, m2 + 1, by rw [← HE.out], hL4, by simp; omega, by omega, by omega, HR, HF4⟩
end Go.Proofs.YtbgjpglnikbflaaDoor
