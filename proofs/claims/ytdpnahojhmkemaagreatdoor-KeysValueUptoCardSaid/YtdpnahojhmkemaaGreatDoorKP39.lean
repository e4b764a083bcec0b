import Derived.Test.YtdpnahojhmkemaaGreatDoorKP38
namespace Go.Proofs.YtdpnahojhmkemaaGreatDoor
open Go Go.RowKit
set_option linter.unusedVariables false
set_option linter.unusedSimpArgs false
set_option maxRecDepth 100000
theorem cells7 {w : World} {b : Nat} {x0 x1 x2 x3 x4 x5 x6 : Value} {T : TypeId} (h : w.heap[b]? = some (.cells #[x0, x1, x2, x3, x4, x5, x6] T (0, 0))) :
  w.cell? ⟨b, 0, none⟩ = some x0 ∧ w.cell? ⟨b, 1, none⟩ = some x1 ∧ w.cell? ⟨b, 2, none⟩ = some x2 ∧ w.cell? ⟨b, 3, none⟩ = some x3 ∧ w.cell? ⟨b, 4, none⟩ = some x4 ∧ w.cell? ⟨b, 5, none⟩ = some x5 ∧ w.cell? ⟨b, 6, none⟩ = some x6 := by
 obtain ⟨c, _, _, _⟩ := rd h
 exact ⟨by rw [c]; rfl, by rw [c]; rfl, by rw [c]; rfl, by rw [c]; rfl, by rw [c]; rfl, by rw [c]; rfl, by rw [c]; rfl⟩
set_option maxHeartbeats 8000000 in
theorem mayCalR_any (cs : Array Value) (days : List Int) (fs : List (List PartS)) (w : World) (h : CalRd w cs days fs) (hd : days.length ≤ 1000000) (hf : ∀ i, (fs.getD i []).length ≤ 1000000000) (r : Bool) (hr : mayCalS days fs = r) :
  Calls Tryz.prog 59 #[.agg cs] w fun e w' => e = .returned (.bool r) ∧ Below w.heap.size w w' := by
 obtain ⟨c0, c1, c2, c3, c4, c5, c6, rfl⟩ : ∃ c0 c1 c2 c3 c4 c5 c6, cs = #[c0, c1, c2, c3, c4, c5, c6] := by
  obtain ⟨l⟩ := cs
  have := h.size
  match l, this with
  | [a0, a1, a2, a3, a4, a5, a6], _ => exact ⟨a0, a1, a2, a3, a4, a5, a6, rfl⟩
 obtain ⟨da, dc, hd0, hdr⟩ := h.days
 obtain rfl : c0 = .slice da days.length dc := by simpa using hd0
 have HH := Lib.hid h; have HDR := Lib.hid hdr; have HF := Lib.hid hf; have HRR := Lib.hid hr
 have HC := Lib.hid (show (w.alloc (.cells #[.slice da days.length dc, c1, c2, c3, c4, c5, c6] 67)).heap[w.heap.size]? = some (.cells #[.slice da days.length dc, c1, c2, c3, c4, c5, c6] 67 (0, 0)) from heap_alloc_new w _)
 have HB := Lib.hid ((Below.refl w.heap.size w).alloc (Nat.le_refl _) (.cells #[.slice da days.length dc, c1, c2, c3, c4, c5, c6] 67))
 clear h hdr hf hr hd0
 go_enter Tryz.func59, Tryz.ntmps59
 go_wp2_with fail
 obtain ⟨C, hCw⟩ : ∃ C, C = w.heap.size := ⟨_, rfl⟩
 have HCw := Lib.hid hCw
 have HDR1 := Lib.hid (HDR.out.below HB.out); have HH1 := Lib.hid (HH.out.below HB.out)
 rw [← hCw] at HC ⊢
 clear HDR HH hCw
 generalize w.alloc (.cells #[.slice da days.length dc, c1, c2, c3, c4, c5, c6] 67) = w1 at *
 go_loopg [3, 13] (days.length + 1) (fun f last i wr => ∃ (k : Nat) (z : Int), k ≤ days.length ∧ last = .int .i64 z ∧ i = .int .i64 k ∧ days.length - k < f ∧ wr = w1 ∧ Hid (mayDays z (days.drop k) = mayDays 0 days))
 case atStart => exact ⟨0, 0, by omega, rfl, rfl, by omega, rfl, rfl⟩
 case round =>
  obtain ⟨k, z, hk, rfl, rfl, hfu, rfl, HMD⟩ := hrel
  by_cases hlt : k < days.length
  ·have hz : (k : Int) < (days.length : Int) := by omega
   obtain ⟨b, o, rfl, -, hcc⟩ := HDR1.out k hlt
   have d0 := hcc 0 _ rfl
   simp only [Nat.add_zero, Nat.mul_one] at d0
   obtain ⟨d, hdd⟩ : ∃ d, d = days[k] := ⟨_, rfl⟩
   rw [← hdd] at d0
   have hdp : days.drop k = d :: days.drop (k + 1) := by rw [hdd]; exact List.drop_eq_getElem_cons hlt
   have hM := HMD.out
   rw [hdp, mayDays] at hM
   clear hcc hdd hdp HMD
   by_cases h1 : d ≤ z
   ·rw [if_pos (.inl h1)] at hM
    have HR := Lib.hid (show false = r by rw [← HRR.out]; unfold mayCalS; rw [← hM]; rfl)
    clear hM
    go_wp2_with fail
    go_ret
    exact ⟨by rw [← HR.out]; rfl, HB.out⟩
   ·by_cases h2 : 7 < d
    ·rw [if_pos (.inr h2)] at hM
     have h2b : d > 7 := h2
     have HR := Lib.hid (show false = r by rw [← HRR.out]; unfold mayCalS; rw [← hM]; rfl)
     clear hM
     go_wp2_with fail
     go_ret
     exact ⟨by rw [← HR.out]; rfl, HB.out⟩
    ·rw [if_neg (by omega)] at hM
     have HM2 := Lib.hid hM
     clear hM
     go_wp2_with fail
     go_roundg (days.length - k)
     case measure => omega
     case rel => exact ⟨k + 1, d, by omega, rfl, by go_num, by omega, rfl, HM2⟩
  ·have hz : ¬ ((k : Int) < (days.length : Int)) := by omega
   have hM : mayDays 0 days = true := by rw [← HMD.out, List.drop_eq_nil_of_le (by omega)]; rfl
   have HRF := Lib.hid (show mayFrom fs 0 6 = r by rw [← HRR.out]; unfold mayCalS; rw [hM]; rfl)
   clear hM HMD HDR1 hfu hk hlt HRR
   obtain ⟨w2, rfl⟩ : ∃ w2, w2 = wr := ⟨wr, rfl⟩
   go_wp2_with fail
   go_loopg [6] 7 (fun f i wr => ∃ k : Nat, k ≤ 6 ∧ i = .int .i64 k ∧ 6 - k < f ∧ Hid (Below w2.heap.size w2 wr) ∧ Hid (mayFrom fs k (6 - k) = r))
   case atStart => exact ⟨0, by omega, rfl, by omega, Below.refl _ _, HRF⟩
   case round =>
    obtain ⟨k, hk, rfl, hfu, HBW, HMF⟩ := hrel
    clear HRF
    by_cases hlt : k < 6
    ·have hz6 : (k : Int) < 6 := by omega
     have hC3 := heap_below HC.out HBW.out
     obtain ⟨q0, q1, q2, q3, q4, q5, q6⟩ := cells7 hC3
     have HFD := Lib.hid (field_any _ days fs wr (HH1.out.below HBW.out) k hlt)
     have hmf : mayFrom fs k (6 - k) = (mayField (fs.getD k []) k && mayFrom fs (k + 1) (6 - (k + 1))) := by rw [show 6 - k = (6 - (k + 1)) + 1 by omega]; rfl
     have HM := Lib.hid (show (mayField (fs.getD k []) k && mayFrom fs (k + 1) (6 - (k + 1))) = r from by rw [← hmf]; exact HMF.out)
     have hll := HF.out k
     obtain ⟨l, hl⟩ : ∃ l, l = fs.getD k [] := ⟨_, rfl⟩
     rw [← hl] at HFD HM hll
     clear hC3 hmf hl HMF
     go_wp2_with fail
     refine HFD.out.mono ?_
     rintro e w3 ⟨oa, cap, rfl, hrow, hb3⟩
     have HB3 := Lib.hid (HBW.out.trans (hb3.mono HBW.out.size)); have HRW := Lib.hid hrow
     clear hrow hb3 HFD q0 q1 q2 q3 q4 q5 q6 HBW
     obtain ⟨n, hn⟩ : ∃ n, n = l.length := ⟨_, rfl⟩
     rw [← hn]
     rw [← hn] at hll
     by_cases h1 : n < 1
     ·have hz1 : (n : Int) < 1 := by omega
      have HR := Lib.hid (show false = r by rw [← HM.out]; unfold mayField; rw [decide_eq_false (by omega)]; rfl)
      clear HM hn
      go_wp2_with fail
      go_ret
      exact ⟨by rw [← HR.out]; rfl, HB.out.trans (HB3.out.mono HB.out.size)⟩
     ·have hz1 : ¬ ((n : Int) < 1) := by omega
      by_cases h2 : 4 < n
      ·have hz2 : (n : Int) > 4 := by omega
       have hz3 : (4 : Int) < (n : Int) := by omega
       have HR := Lib.hid (show false = r by rw [← HM.out]; unfold mayField; rw [decide_eq_false (show ¬ l.length ≤ 4 by omega)]; simp)
       clear HM hn
       go_wp2_with fail
       go_ret
       exact ⟨by rw [← HR.out]; rfl, HB.out.trans (HB3.out.mono HB.out.size)⟩
      ·have hz2 : ¬ ((n : Int) > 4) := by omega
       have hz3 : ¬ ((4 : Int) < (n : Int)) := by omega
       have HM2 := Lib.hid (show ((l.all fun p => mayPtS p k) && mayFrom fs (k + 1) (6 - (k + 1))) = r by
        rw [← HM.out]; unfold mayField; rw [decide_eq_true (show 1 ≤ l.length by omega), decide_eq_true (show l.length ≤ 4 by omega)]; simp)
       have HNL := Lib.hid hn
       obtain ⟨g1, rfl⟩ : ∃ g, g = gk := ⟨gk, rfl⟩
       clear HM hn
       go_wp2_with fail
       go_loopg [43] (n + 1) (fun f i wx => ∃ j : Nat, j ≤ n ∧ i = .int .i64 j ∧ n - j < f ∧ Hid (Below w3.heap.size w3 wx) ∧ Hid ((l.drop j).all (fun p => mayPtS p k) = l.all fun p => mayPtS p k))
       case atStart => exact ⟨0, by omega, rfl, by omega, Below.refl _ _, rfl⟩
       case round =>
        obtain ⟨j, hj, rfl, hfj, HBX, HA⟩ := hrel
        by_cases hjn : j < n
        ·have hzj : (j : Int) < (n : Int) := by omega
         have hjl : j < l.length := by rw [← HNL.out]; exact hjn
         obtain ⟨b, o, rfl, -, hcc⟩ := (HRW.out.below HBX.out) j hjl
         have d0 := hcc 0 _ rfl; have d1 := hcc 1 _ rfl; have d2 := hcc 2 _ rfl
         simp only [Nat.add_zero] at d0
         obtain ⟨y, hy⟩ : ∃ y, y = l[j] := ⟨_, rfl⟩
         rw [← hy] at d0 d1 d2
         have HA2 := Lib.hid (show (mayPtS y k && (l.drop (j + 1)).all (fun p => mayPtS p k)) = l.all fun p => mayPtS p k by
          rw [← HA.out, List.drop_eq_getElem_cons hjl, ← hy]; rfl)
         have HMP := Lib.hid (fun V => mayPartR_any y k hlt V (mayPtS y k) rfl)
         have hbA : Below wr.heap.size wr (wr.alloc (.cells (encPt y).toArray 115)) := (Below.refl _ _).alloc (Nat.le_refl _) _
         have HBA := Lib.hid (HBX.out.trans (hbA.mono HBX.out.size))
         unfold encPt at HMP HBA
         obtain ⟨pf, pt, ps⟩ := y
         obtain ⟨m, hm⟩ : ∃ m, m = mayPtS ⟨pf, pt, ps⟩ k := ⟨_, rfl⟩
         rw [← hm] at HMP HA2
         clear hcc hjl hy hbA hm HA
         cases m with
         | false =>
          have HR := Lib.hid (show false = r by rw [← HM2.out, ← HA2.out]; rfl)
          go_wp2_with fail
          refine (HMP.out _).mono ?_
          rintro e w4 ⟨rfl, hb4⟩
          have HB4 := Lib.hid (HBA.out.trans (hb4.mono HBA.out.size))
          clear hb4 HMP
          go_wp2_with fail
          go_ret
          exact ⟨by rw [← HR.out]; rfl, HB.out.trans ((HB3.out.trans (HB4.out.mono HB3.out.size)).mono HB.out.size)⟩
         | true =>
          have HA3 := Lib.hid (show (l.drop (j + 1)).all (fun p => mayPtS p k) = l.all fun p => mayPtS p k by rw [← HA2.out]; rfl)
          clear HA2
          go_wp2_with fail
          refine (HMP.out _).mono ?_
          rintro e w4 ⟨rfl, hb4⟩
          have HB4 := Lib.hid (HBA.out.trans (hb4.mono HBA.out.size))
          clear hb4 HMP
          go_wp2_with fail
          go_roundg (n - j)
          case measure => omega
          case rel => exact ⟨j + 1, by omega, by go_num, by omega, HB4, HA3⟩
        ·have hzj : ¬ (j : Int) < (n : Int) := by omega
         have HM3 := Lib.hid (show mayFrom fs (k + 1) (6 - (k + 1)) = r by
          rw [← HM2.out, ← HA.out, List.drop_eq_nil_of_le (by have := HNL.out; omega)]; rfl)
         have HBZ := Lib.hid (HB3.out.trans (HBX.out.mono HB3.out.size))
         go_wp2_with fail
         go_roundg (6 - k)
         case measure => omega
         case rel => exact ⟨k + 1, by omega, by go_num, by omega, HBZ, HM3⟩
    ·have hz6 : ¬ ((k : Int) < 6) := by omega
     have HR := Lib.hid (show true = r by rw [← HMF.out, show 6 - k = 0 by omega]; rfl)
     go_wp2_with fail
     go_ret
     exact ⟨by rw [← HR.out]; rfl, HB.out.trans (HBW.out.mono HB.out.size)⟩
end Go.Proofs.YtdpnahojhmkemaaGreatDoor
