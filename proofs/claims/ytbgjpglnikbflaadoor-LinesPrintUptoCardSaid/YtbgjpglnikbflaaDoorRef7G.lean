/-
  The reference's MayLines, Print.
-/
import Derived.Test.YtbgjpglnikbflaaDoorRef7F
namespace Go.Proofs.YtbgjpglnikbflaaDoor
open Go Go.RowKit
set_option linter.unusedVariables false
set_option maxRecDepth 100000

def sumL : List Ln → Nat
  | [] => 0
  | x :: r => x.key.length + x.val.length + 2 + sumL r
theorem sumL_snoc (l : List Ln) (x : Ln) : sumL (l ++ [x]) = sumL l + (x.key.length + x.val.length + 2) := by
  induction l with
  | nil => simp [sumL]
  | cons a r ih => simp only [List.cons_append, sumL, ih]; omega
theorem sumL_text : ∀ (l : List Ln) (p : Option Str), sumL l ≤ (textS p l).length
  | [], p => by simp [sumL]
  | x :: r, none => by have := sumL_text r (some x.sec); simp [sumL, textS, pairS]; omega
  | x :: r, some s => by have := sumL_text r (some x.sec); simp [sumL, textS, pairS]; omega

set_option maxHeartbeats 2000000 in
theorem mayLinesR_any (oa : Option Addr) (cap : Nat) (l : List Ln) (w : World) (h : LnRow w oa l) (hl : l.length ≤ 100000000) (hx : ∀ x ∈ l, LnSmall x) (hw : (writeS l).length ≤ 1000000000) (b : Bool) (hb : mayS l = b) :
    Calls Tryd.prog 15 #[.slice oa l.length cap] w fun e w' => e = .returned (.bool b) ∧ Below w.heap.size w w' := by
  have HX := Lib.hid hx; clear hx
  have HR := Lib.hid h; clear h
  have Hb := Lib.hid hb; clear hb
  go_enter Tryd.func15, Tryd.ntmps15
  go_wp2_with fail
  go_loopg [3, 8] (l.length + 1) (fun f nv i wr => ∃ (k nn : Nat), k ≤ l.length ∧ i = .int .i64 k ∧ nv = .int .i64 nn ∧ l.length - k < f ∧ nn ≤ 20000 ∧ Hid (nn = sumL (l.take k)) ∧ Hid ((l.take k).all mayLn = true) ∧ Hid (Below w.heap.size w wr))
  case atStart => exact ⟨0, 0, by omega, rfl, rfl, by omega, by omega, rfl, rfl, Below.refl _ _⟩
  case round =>
    obtain ⟨k, nn, hk, rfl, rfl, hfu, hnn, Hn, Ha, HB⟩ := hrel
    have hsz := HB.out.size
    by_cases hlt : k < l.length
    · obtain ⟨bb, o, rfl, c0, c1, c2, c3⟩ := (HR.out.below HB.out (Nat.le_refl _)) k hlt
      have hxk := HX.out l[k] (List.getElem_mem _)
      obtain ⟨sx, hsx⟩ : ∃ sx : ByteArray, sx = ⟨l[k].sec.toArray⟩ := ⟨_, rfl⟩
      obtain ⟨kx, hkx⟩ : ∃ kx : ByteArray, kx = ⟨l[k].key.toArray⟩ := ⟨_, rfl⟩
      obtain ⟨vx, hvx⟩ : ∃ vx : ByteArray, vx = ⟨l[k].val.toArray⟩ := ⟨_, rfl⟩
      have zs : sx.size ≤ 1000000000 := by rw [hsx]; exact hxk.sec
      have zk : kx.size ≤ 1000000000 := by rw [hkx]; exact hxk.key
      have zv : vx.size ≤ 1000000000 := by rw [hvx]; exact hxk.val
      obtain ⟨m, hm⟩ : ∃ m, mayLn l[k] = m := ⟨_, rfl⟩
      have HC := fun w => Lib.hid (mayLineR_any sx kx vx l[k].at_ w zs zk zv m (by rw [hsx, hkx, hvx]; exact hm))
      have hsum : sumL (l.take (k + 1)) = nn + (kx.size + vx.size + 2) := by
        rw [List.take_succ_eq_append_getElem hlt, sumL_snoc, ← Hn.out, hkx, hvx]; rfl
      have hle : sumL (l.take (k + 1)) ≤ (writeS l).length := Nat.le_trans (sumL_text _ none) (text_take_len l (k + 1))
      rw [hsum] at hle
      rw [← hsx] at c0
      rw [← hkx] at c1
      rw [← hvx] at c2
      have HSum := Lib.hid hsum; clear hsum
      clear hsx hkx hvx hxk
      generalize l[k].at_ = xat at *
      have HB3 := Lib.hid (HB.out.trans ((show Below wr.heap.size wr (wr.alloc (.cells #[.string sx, .string kx, .string vx, .int .i64 xat] 34)) from (Below.refl _ _).alloc (Nat.le_refl _) _).mono hsz))
      have hP3 := heap_alloc_new wr (.cells #[.string sx, .string kx, .string vx, .int .i64 xat] 34)
      cases m with
      | false =>
        have HR2 := Lib.hid (show b = false by
          rw [← Hb.out]; unfold mayS
          have : l.all mayLn = false := by rw [List.all_eq_false]; exact ⟨l[k], List.getElem_mem _, by simp [hm]⟩
          rw [this]; rfl)
        clear hm hP3
        go_wp2_with fail
        refine (HC _).out.mono ?_
        rintro e w3 ⟨rfl, hb3⟩
        have HB4 := Lib.hid (HB3.out.trans (hb3.mono HB3.out.size)); clear hb3
        go_wp2_with fail
        go_ret
        exact ⟨by rw [HR2.out]; rfl, HB4.out⟩
      | true =>
        have HA := Lib.hid (show (l.take (k + 1)).all mayLn = true by
          rw [List.take_succ_eq_append_getElem hlt, List.all_append, Ha.out]; simp [hm])
        clear hm
        go_wp2_with fail
        generalize hw3 : wr.alloc (.cells #[.string sx, .string kx, .string vx, .int .i64 xat] 34) = w3 at *
        clear hw3
        generalize hPn : wr.heap.size = P at *
        clear hPn
        refine (HC _).out.mono ?_
        rintro e w4 ⟨rfl, hb4⟩
        have hP4 := (Fr.of_below hb4 (fun _ => False)).heap hP3 (fun e => e)
        have HB4 := Lib.hid (HB3.out.trans (hb4.mono HB3.out.size)); clear hb4 hP3
        have d1 : w4.cell? ⟨P, 1, none⟩ = some (.string kx) := by rw [(rd hP4).1]; rfl
        have d2 : w4.cell? ⟨P, 2, none⟩ = some (.string vx) := by rw [(rd hP4).1]; rfl
        clear hP4 c0 c1 c2 c3
        by_cases hbig : nn + (kx.size + vx.size + 2) ≤ 20000
        · have hb1 : ¬ (20000 : Int) < (nn : Int) + ((kx.size : Int) + (vx.size : Int) + 2) := by omega
          go_wp2_with fail
          go_roundg (l.length - k)
          case measure => omega
          case rel => exact ⟨k + 1, nn + (kx.size + vx.size + 2), by omega, by go_num, by go_num, by omega, hbig, HSum.out.symm, HA, HB4⟩
        · have hb1 : (20000 : Int) < (nn : Int) + ((kx.size : Int) + (vx.size : Int) + 2) := by omega
          have HR2 := Lib.hid (show b = false by
            rw [← Hb.out]; unfold mayS
            rw [Bool.and_eq_false_iff]; right
            rw [decide_eq_false_iff_not]; omega)
          go_wp2_with fail
          go_ret
          exact ⟨by rw [HR2.out]; rfl, HB4.out⟩
    · have : k = l.length := by omega
      subst this
      have ha := Ha.out
      rw [List.take_length] at ha
      have HR2 := Lib.hid (show b = decide ((writeS l).length ≤ 20000) by
        rw [← Hb.out]; unfold mayS; rw [ha]; rfl)
      have HT := Lib.hid (writeR_any oa cap l wr (HR.out.below HB.out (Nat.le_refl _)) hl HX.out (fun x hx e => by
        have := (may_all ha x hx).sec
        rw [e] at this; cases this) hw)
      clear ha
      go_wp2_with fail
      refine HT.out.mono ?_
      rintro e w3 ⟨rfl, hb3⟩
      have HB3 := Lib.hid (HB.out.trans (hb3.mono HB.out.size)); clear hb3
      generalize writeS l = s at *
      go_wp2_with fail
      go_ret
      refine ⟨ret_bool ?_, HB3.out⟩
      rw [HR2.out, decide_eq_decide]
      show ((s.length : Int) ≤ 20000) ↔ _
      omega

set_option maxHeartbeats 1000000 in
theorem printR_any (oa : Option Addr) (cap : Nat) (l : List Ln) (w : World) (h : LnRow w oa l) (hl : l.length ≤ 100000000) (hx : ∀ x ∈ l, LnSmall x) (hw : (writeS l).length ≤ 1000000000) (s : Str) (hs : printS l = s) :
    Calls Tryd.prog 17 #[.slice oa l.length cap] w fun e w' => e = .returned (.string ⟨s.toArray⟩) ∧ Below w.heap.size w w' := by
  unfold printS at hs
  cases hm : mayS l with
  | false =>
    rw [hm] at hs
    have HS := Lib.hid (show s = [] from hs.symm); clear hs
    have HC := Lib.hid (mayLinesR_any oa cap l w h hl hx hw false hm)
    clear hm hx h
    go_enter Tryd.func17, Tryd.ntmps17
    go_wp2_with fail
    refine HC.out.mono ?_
    rintro e w2 ⟨rfl, hb2⟩
    go_wp2_with fail
    go_ret
    exact ⟨by rw [HS.out]; rfl, hb2⟩
  | true =>
    rw [hm] at hs
    have HS := Lib.hid (show s = writeS l from hs.symm); clear hs
    have HC := Lib.hid (mayLinesR_any oa cap l w h hl hx hw true hm)
    have HR := Lib.hid h
    have HX := Lib.hid hx
    have HM := Lib.hid (mayS_parts hm).1
    clear hm hx h
    go_enter Tryd.func17, Tryd.ntmps17
    go_wp2_with fail
    refine HC.out.mono ?_
    rintro e w2 ⟨rfl, hb2⟩
    have HT := Lib.hid (writeR_any oa cap l w2 (HR.out.below hb2 (Nat.le_refl _)) hl HX.out (fun x hx e => by
      have := (HM.out x hx).sec
      rw [e] at this; cases this) hw)
    go_wp2_with fail
    refine HT.out.mono ?_
    rintro e w3 ⟨rfl, hb3⟩
    have HB3 := Lib.hid (hb2.trans (hb3.mono hb2.size)); clear hb3 hb2
    go_wp2_with fail
    go_ret
    exact ⟨by rw [HS.out]; rfl, HB3.out⟩
end Go.Proofs.YtbgjpglnikbflaaDoor
