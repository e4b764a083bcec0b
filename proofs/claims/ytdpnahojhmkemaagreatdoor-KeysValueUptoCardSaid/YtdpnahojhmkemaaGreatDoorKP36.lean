import Derived.Test.YtdpnahojhmkemaaGreatDoorKP32
import Derived.Test.YtdpnahojhmkemaaGreatDoorKP35
namespace Go.Proofs.YtdpnahojhmkemaaGreatDoor
open Go Go.RowKit
set_option linter.unusedVariables false
set_option linter.unusedSimpArgs false
set_option maxRecDepth 100000
theorem nameD_len (d : Nat) : (nameD d).length ≤ 3 := by
 unfold nameD
 rw [List.getD_eq_getElem?_getD]
 cases h : weekS[d - 1]? with
 | none => simp
 | some x =>
  have hm := List.mem_of_getElem? h
  have : ∀ y ∈ weekS, y.length ≤ 3 := by decide
  exact this x hm
theorem dayRange_le (x : Str) (f k : Nat) (h : dayRange x = some (f, k)) : f ≤ k ∧ k < 7 := by
 unfold dayRange at h
 generalize (if (Lib.cut x [46, 46]).2.2 = true then (Lib.cut x [46, 46]).2.1 else (Lib.cut x [46, 46]).1) = b at h
 generalize (Lib.cut x [46, 46]).1 = a at h
 have ha := dayIx_cases a
 have hb := dayIx_cases b
 generalize dayIx a = u at *
 generalize dayIx b = v at *
 by_cases hc : u < 0 ∨ v < u
 ·rw [if_pos hc] at h; cases h
 ·rw [if_neg hc] at h
  simp only [Option.some.injEq, Prod.mk.injEq] at h
  obtain ⟨h1, h2⟩ := h
  rcases hb with hb | ⟨n, hb, hn⟩ <;> omega
theorem cat_list (a b : Str) (h : a.length + b.length < 4611686018427387904) : Op.stringOp .add ⟨a.toArray⟩ ⟨b.toArray⟩ = pure (.string ⟨(a ++ b).toArray⟩) := by
 rw [cat_ok ⟨a.toArray⟩ ⟨b.toArray⟩ (by show a.toArray.size + b.toArray.size < _; simp; omega)]
 congr 2
theorem hitD_step (x : Str) (d : Nat) (p : Nat × Nat) (h : d ≤ 7) : hitD x (8 - d) d p = hitD x (8 - (d + 1)) (d + 1) (hitE x d (8 - d) d (if x = nameD d then (d, d) else p)) := by
 obtain ⟨n, hn⟩ : ∃ n, 8 - d = n + 1 := ⟨7 - d, by omega⟩
 have h2 : 8 - (d + 1) = n := by omega
 rw [h2]
 conv => lhs; rw [hn]
 rfl
theorem workL_zero : ∀ (l : List Str) (m r : List Bool), workL l m = some r → m.getD 0 false = false → r.getD 0 false = false
 | [], m, r, h, h0 => by simp [workL] at h; subst h; exact h0
 | w :: t, m, r, h, h0 => by
  rw [workL] at h
  cases hd : dayRange w with
  | none => rw [hd] at h; simp at h
  | some p =>
   rw [hd] at h
   refine workL_zero t _ r h ?_
   generalize p.2 + 1 - p.1 = n
   generalize p.1 = d
   clear h
   induction n generalizing m d with
   | zero => exact h0
   | succ n ih => rw [markN]; exact ih _ (by rw [List.getD_eq_getElem?_getD] at h0 ⊢; rw [List.getElem?_set_ne (by omega)]; exact h0) _
set_option maxHeartbeats 8000000 in
theorem daysRef_any (s : ByteArray) (w : World) (hs : s.size ≤ 100000000) : Calls Tryz.prog 57 #[.string s] w fun e w' => WorkOut w s.data.toList e w' := by
 obtain ⟨i0, hi0, hz0, hz1, hz2⟩ := info_parts infoInt
 obtain ⟨l, hl⟩ : ∃ l, splitC 44 s.data.toList = l := ⟨_, rfl⟩
 have hsl : s.data.toList.length = s.size := by simp
 let w0 := w.alloc (.cells #[.bool false, .bool false, .bool false, .bool false, .bool false, .bool false, .bool false, .bool false] 113)
 have hB0 : Below w.heap.size w w0 := (Below.refl _ _).alloc (Nat.le_refl _) _
 have hz00 : w0.heap.size = w.heap.size + 1 := by simp [w0]
 have h0 : w0.heap[w.heap.size]? = some (.cells (markV noDays) 113 (0, 0)) := heap_alloc_new w _
 have HSP := Lib.hid (splitRef3_any s 44 w0 (by omega) l hl)
 have HMEM := Lib.hid (fun x (hx : x ∈ l) => show x.length ≤ 100000000 from by rw [← hl] at hx; have := splitC_mem 44 _ x hx; omega)
 have hln : l.length ≤ 100000001 := by rw [← hl]; have := splitC_len 44 s.data.toList; omega
 have HPS := Lib.hid (show workS s.data.toList = (workL l noDays).map daysOf by unfold workS; rw [hl])
 have HB0 := Lib.hid hB0; have HZ0 := Lib.hid hz00; have HH0 := Lib.hid h0
 unfold WorkOut
 clear hl hsl hB0 hz00 h0
 go_enter Tryz.func57, Tryz.ntmps57
 go_wp2_with fail
 refine HSP.out.mono ?_
 rintro e w1 ⟨hb1, v, rfl, hown⟩
 obtain ⟨oa, cap, rfl⟩ := ownsRow_form hown
 obtain ⟨H, hH⟩ : ∃ H, H = w.heap.size := ⟨_, rfl⟩
 have hz0' := HZ0.out
 have HST := Lib.hid (fun V (h : Fr (fun k => k = H) w1 V) => (StrRow.of_own hown).fr3 h (fun b o e => by
  have := hown.lt b (by rw [e]; rfl)
  omega))
 have HB1 := Lib.hid (HB0.out.trans (hb1.mono HB0.out.size))
 have HH1 := Lib.hid (heap_below HH0.out hb1)
 have HZ1 := Lib.hid (show H + 1 ≤ w1.heap.size by have := hb1.size; omega)
 rw [← hH] at HH1 HB1 ⊢
 have HHW := Lib.hid hH
 clear hown hb1 HSP HB0 HZ0 HH0 hz0' hH
 clear w0
 go_wp2_with fail
 go_loopg [16] (l.length + 1) (fun f i wr => ∃ (k : Nat) (m : List Bool), k ≤ l.length ∧ i = .int .i64 k ∧ l.length - k < f ∧ m.length = 8 ∧ Hid (workL (l.take k) noDays = some m) ∧ Hid (wr.heap[H]? = some (.cells (markV m) 113 (0, 0))) ∧ Hid (Fr (fun k => k = H) w1 wr))
 case atStart => exact ⟨0, noDays, by omega, rfl, by omega, rfl, rfl, HH1, Fr.refl _ _⟩
 case round =>
  obtain ⟨k, m, hk, rfl, hfu, hm8, HWL, HH, HF⟩ := hrel
  obtain ⟨w2, rfl⟩ : ∃ w2, w2 = wr := ⟨wr, rfl⟩
  by_cases hlt : k < l.length
  ·have hz : (k : Int) < (l.length : Int) := by omega
   obtain ⟨b4, o4, rfl, d0⟩ := HST.out w2 HF.out k hlt
   obtain ⟨x, hx⟩ : ∃ x, x = l[k] := ⟨_, rfl⟩
   rw [← hx] at d0
   have hxl : x.length ≤ 100000000 := by rw [hx]; exact HMEM.out _ (List.getElem_mem hlt)
   have HSN := Lib.hid (show workL (l.take (k + 1)) noDays = match dayRange x with | none => none | some (f, k) => some (markN m f (k + 1 - f)) from by
    rw [List.take_succ_eq_append_getElem hlt, workL_snoc, HWL.out, ← hx]
    rfl)
   have hsplit : l = l.take (k + 1) ++ l.drop (k + 1) := (List.take_append_drop _ _).symm
   have HNO := Lib.hid (fun (h : dayRange x = none) => show workS s.data.toList = none from by
    rw [HPS.out, hsplit, workL_none _ _ _ (by rw [HSN.out, h])]; rfl)
   have HRP := Lib.hid (show hitD x 7 1 (0, 0) = pairD x from range_pair x)
   obtain ⟨gx, rfl⟩ : ∃ g, g = gk := ⟨gk, rfl⟩
   clear hx hxl hsplit HWL
   go_wp2_with fail
   go_loopg [7, 8, 9] 8 (fun f a b c wx => ∃ (d : Nat) (p : Nat × Nat), 1 ≤ d ∧ d ≤ 8 ∧ c = .int .i64 d ∧ a = .int .i64 p.1 ∧ b = .int .i64 p.2 ∧ 8 - d < f ∧ wx = w2 ∧ Hid (hitD x (8 - d) d p = pairD x))
   case atStart => exact ⟨1, (0, 0), by omega, by omega, rfl, rfl, rfl, by omega, rfl, HRP⟩
   case round =>
    obtain ⟨d, p, hd1, hd8, rfl, rfl, rfl, hfd, rfl, HD⟩ := hrel
    obtain ⟨w2, rfl⟩ : ∃ w2, w2 = wr := ⟨wr, rfl⟩
    by_cases hd7 : d ≤ 7
    ·have hdz : (d : Int) ≤ 7 := by omega
     have HND := Lib.hid (fun V => dayName_any d hd1 hd7 V)
     obtain ⟨y, hy⟩ : ∃ y, y = nameD d := ⟨_, rfl⟩
     have hyl : y.length ≤ 3 := by rw [hy]; exact nameD_len d
     have HD2 := Lib.hid (show hitD x (8 - (d + 1)) (d + 1) (hitE x d (8 - d) d (if x = nameD d then (d, d) else p)) = pairD x from by
      rw [← HD.out, hitD_step x d p hd7])
     obtain ⟨gd, rfl⟩ : ∃ g, g = gk := ⟨gk, rfl⟩
     rw [← hy] at HND HD2
     have HY := Lib.hid hy
     clear hy
     cases hq : (x == y) with
     | true =>
      have HD3 := Lib.hid (show hitD x (8 - (d + 1)) (d + 1) (hitE x d (8 - d) d (d, d)) = pairD x from by
       have h := HD2.out
       rw [if_pos (eq_of_beq hq)] at h; exact h)
      clear HD2 HD
      go_wp2_with (go_at_call 93; refine (HND.out _).mono ?_; rintro e V ⟨rfl, hV⟩; have hV2 := hV.symm; subst hV2)
      go_loopg [7, 8, 10] 9 (fun f a b c wx => ∃ (e : Nat) (z : Nat × Nat), d ≤ e ∧ e ≤ 8 ∧ c = .int .i64 e ∧ a = .int .i64 z.1 ∧ b = .int .i64 z.2 ∧ 8 - e < f ∧ wx = w2 ∧ Hid (hitE x d (8 - e) e z = hitE x d (8 - d) d (d, d)))
      case atStart => exact ⟨d, (d, d), by omega, by omega, rfl, rfl, rfl, by omega, rfl, rfl⟩
      case round =>
       obtain ⟨e, z, he1, he8, rfl, rfl, rfl, hfe, rfl, HE⟩ := hrel
       by_cases he7 : e ≤ 7
       ·have hez : (e : Int) ≤ 7 := by omega
        have HNE := Lib.hid (fun V => dayName_any e (by omega) he7 V)
        obtain ⟨u, hu⟩ : ∃ u, u = nameD e := ⟨_, rfl⟩
        have hul : u.length ≤ 3 := by rw [hu]; exact nameD_len e
        have hcat1 : Op.stringOp .add ⟨y.toArray⟩ ⟨#[46, 46]⟩ = pure (.string ⟨(y ++ [46, 46]).toArray⟩) := cat_list y [46, 46] (by simp; omega)
        have hcat2 : Op.stringOp .add ⟨(y ++ [46, 46]).toArray⟩ ⟨u.toArray⟩ = pure (.string ⟨(y ++ [46, 46] ++ u).toArray⟩) := cat_list _ _ (by simp; omega)
        have HE2 := Lib.hid (show hitE x d (8 - (e + 1)) (e + 1) (if x = y ++ [46, 46] ++ u then (d, e) else z) = hitE x d (8 - d) d (d, d) from by
         rw [← HE.out, HY.out, hu, show 8 - e = (8 - (e + 1)) + 1 by omega]; rfl)
        rw [← hu] at HNE
        obtain ⟨c1, hc1⟩ : ∃ c, c = y ++ [46, 46] := ⟨_, rfl⟩
        rw [← hc1] at hcat1 hcat2 HE2
        obtain ⟨c2, hc2⟩ : ∃ c, c = c1 ++ u := ⟨_, rfl⟩
        rw [← hc2] at hcat2 HE2
        clear HE hu hul hc1 hc2
        cases hqe : (x == c2) with
        | true =>
         have HE3 := Lib.hid (show hitE x d (8 - (e + 1)) (e + 1) (d, e) = hitE x d (8 - d) d (d, d) from by
          have h := HE2.out
          rw [if_pos (eq_of_beq hqe)] at h; exact h)
         clear HE2
         go_wp2_with ((go_at_call 93; first | (with_reducible refine (HND.out _).mono ?_) | (with_reducible refine (HNE.out _).mono ?_)); rintro e V ⟨rfl, hV⟩; have hV2 := hV.symm; subst hV2)
         go_roundg (8 - e)
         case measure => omega
         case rel => exact ⟨e + 1, (d, e), by omega, by omega, by go_num, rfl, rfl, by omega, rfl, HE3⟩
        | false =>
         have HE3 := Lib.hid (show hitE x d (8 - (e + 1)) (e + 1) z = hitE x d (8 - d) d (d, d) from by
          have h := HE2.out
          rw [if_neg (by rw [beq_eq_false_iff_ne] at hqe; exact hqe)] at h; exact h)
         clear HE2
         go_wp2_with ((go_at_call 93; first | (with_reducible refine (HND.out _).mono ?_) | (with_reducible refine (HNE.out _).mono ?_)); rintro e V ⟨rfl, hV⟩; have hV2 := hV.symm; subst hV2)
         go_roundg (8 - e)
         case measure => omega
         case rel => exact ⟨e + 1, z, by omega, by omega, by go_num, rfl, rfl, by omega, rfl, HE3⟩
       ·have hez : ¬ (e : Int) ≤ 7 := by omega
        have HE3 := Lib.hid (show hitD x (8 - (d + 1)) (d + 1) z = pairD x from by
         have h := HE.out
         rw [show 8 - e = 0 by omega] at h
         rw [← HD3.out, ← h]; rfl)
        go_wp2_with fail
        go_roundg (8 - d)
        case measure => omega
        case rel => exact ⟨d + 1, z, by omega, by omega, by go_num, rfl, rfl, by omega, rfl, HE3⟩
     | false =>
      have HD3 := Lib.hid (show hitD x (8 - (d + 1)) (d + 1) (hitE x d (8 - d) d p) = pairD x from by
       have h := HD2.out
       rw [if_neg (by rw [beq_eq_false_iff_ne] at hq; exact hq)] at h; exact h)
      clear HD2 HD
      go_wp2_with (go_at_call 93; refine (HND.out _).mono ?_; rintro e V ⟨rfl, hV⟩; have hV2 := hV.symm; subst hV2)
      go_loopg [7, 8, 10] 9 (fun f a b c wx => ∃ (e : Nat) (z : Nat × Nat), d ≤ e ∧ e ≤ 8 ∧ c = .int .i64 e ∧ a = .int .i64 z.1 ∧ b = .int .i64 z.2 ∧ 8 - e < f ∧ wx = w2 ∧ Hid (hitE x d (8 - e) e z = hitE x d (8 - d) d p))
      case atStart => exact ⟨d, p, by omega, by omega, rfl, rfl, rfl, by omega, rfl, rfl⟩
      case round =>
       obtain ⟨e, z, he1, he8, rfl, rfl, rfl, hfe, rfl, HE⟩ := hrel
       by_cases he7 : e ≤ 7
       ·have hez : (e : Int) ≤ 7 := by omega
        have HNE := Lib.hid (fun V => dayName_any e (by omega) he7 V)
        obtain ⟨u, hu⟩ : ∃ u, u = nameD e := ⟨_, rfl⟩
        have hul : u.length ≤ 3 := by rw [hu]; exact nameD_len e
        have hcat1 : Op.stringOp .add ⟨y.toArray⟩ ⟨#[46, 46]⟩ = pure (.string ⟨(y ++ [46, 46]).toArray⟩) := cat_list y [46, 46] (by simp; omega)
        have hcat2 : Op.stringOp .add ⟨(y ++ [46, 46]).toArray⟩ ⟨u.toArray⟩ = pure (.string ⟨(y ++ [46, 46] ++ u).toArray⟩) := cat_list _ _ (by simp; omega)
        have HE2 := Lib.hid (show hitE x d (8 - (e + 1)) (e + 1) (if x = y ++ [46, 46] ++ u then (d, e) else z) = hitE x d (8 - d) d p from by
         rw [← HE.out, HY.out, hu, show 8 - e = (8 - (e + 1)) + 1 by omega]; rfl)
        rw [← hu] at HNE
        obtain ⟨c1, hc1⟩ : ∃ c, c = y ++ [46, 46] := ⟨_, rfl⟩
        rw [← hc1] at hcat1 hcat2 HE2
        obtain ⟨c2, hc2⟩ : ∃ c, c = c1 ++ u := ⟨_, rfl⟩
        rw [← hc2] at hcat2 HE2
        clear HE hu hul hc1 hc2
        cases hqe : (x == c2) with
        | true =>
         have HE3 := Lib.hid (show hitE x d (8 - (e + 1)) (e + 1) (d, e) = hitE x d (8 - d) d p from by
          have h := HE2.out
          rw [if_pos (eq_of_beq hqe)] at h; exact h)
         clear HE2
         go_wp2_with ((go_at_call 93; first | (with_reducible refine (HND.out _).mono ?_) | (with_reducible refine (HNE.out _).mono ?_)); rintro e V ⟨rfl, hV⟩; have hV2 := hV.symm; subst hV2)
         go_roundg (8 - e)
         case measure => omega
         case rel => exact ⟨e + 1, (d, e), by omega, by omega, by go_num, rfl, rfl, by omega, rfl, HE3⟩
        | false =>
         have HE3 := Lib.hid (show hitE x d (8 - (e + 1)) (e + 1) z = hitE x d (8 - d) d p from by
          have h := HE2.out
          rw [if_neg (by rw [beq_eq_false_iff_ne] at hqe; exact hqe)] at h; exact h)
         clear HE2
         go_wp2_with ((go_at_call 93; first | (with_reducible refine (HND.out _).mono ?_) | (with_reducible refine (HNE.out _).mono ?_)); rintro e V ⟨rfl, hV⟩; have hV2 := hV.symm; subst hV2)
         go_roundg (8 - e)
         case measure => omega
         case rel => exact ⟨e + 1, z, by omega, by omega, by go_num, rfl, rfl, by omega, rfl, HE3⟩
       ·have hez : ¬ (e : Int) ≤ 7 := by omega
        have HE3 := Lib.hid (show hitD x (8 - (d + 1)) (d + 1) z = pairD x from by
         have h := HE.out
         rw [show 8 - e = 0 by omega] at h
         rw [← HD3.out, ← h]; rfl)
        go_wp2_with fail
        go_roundg (8 - d)
        case measure => omega
        case rel => exact ⟨d + 1, z, by omega, by omega, by go_num, rfl, rfl, by omega, rfl, HE3⟩
    ·have hdz : ¬ (d : Int) ≤ 7 := by omega
     have hpp : p = pairD x := by
      have h := HD.out
      rw [show 8 - d = 0 by omega] at h
      exact h
     subst hpp
     clear HD HRP
     cases hdr : dayRange x with
     | none =>
      have HN := Lib.hid (HNO.out hdr)
      have hp : pairD x = (0, 0) := by unfold pairD; rw [hdr]
      rw [hp]
      clear hp hdr HNO HSN
      go_wp2_with fail
      go_ret2
      refine ⟨_, by rw [HN.out]; rfl, ?_, ?_⟩
      ·rw [HN.out]; exact World.ownsRow_nil _ _ _ _
      ·rw [← HHW.out]
       exact HB1.out.trans (HF.out.below H (by have := HZ1.out; omega) (fun j hj e => by omega))
     | some fk =>
      obtain ⟨g, q⟩ := fk
      obtain ⟨hgq, hq7⟩ := dayRange_le x g q hdr
      have hp : pairD x = (g + 1, q + 1) := by unfold pairD; rw [hdr]
      have HSN2 := Lib.hid (show workL (l.take (k + 1)) noDays = some (markN m g (q + 1 - g)) from by rw [HSN.out, hdr])
      rw [hp]
      clear hp hdr HNO HSN
      have hg0 : ((g + 1 : Nat) : Int) ≠ 0 := by omega
      have hg1 : (((g + 1 : Nat) : Int) == 0) = false := by simpa using hg0
      obtain ⟨G, hG⟩ : ∃ G, G = g + 1 := ⟨_, rfl⟩
      obtain ⟨Q, hQ⟩ : ∃ Q, Q = q + 1 := ⟨_, rfl⟩
      simp only at *
      rw [← hG] at hg1 ⊢
      rw [← hQ]
      clear hg0
      go_wp2_with fail
      go_loopg [7] (q + 2) (fun f a wx => ∃ (E : Nat) (m' : List Bool), E ≤ q + 2 ∧ g + 1 ≤ E ∧ a = .int .i64 (E : Int) ∧ q + 2 - E < f ∧ m'.length = 8 ∧ Hid (markN m' (E - 1) (q + 2 - E) = markN m g (q + 1 - g)) ∧ Hid (wx.heap[H]? = some (.cells (markV m') 113 (0, 0))) ∧ Hid (Fr (fun k => k = H) w1 wx))
      case atStart => exact ⟨G, m, by omega, by omega, by rw [hG]; first | rfl | go_num, by omega, hm8, (show markN m (G - 1) (q + 2 - G) = markN m g (q + 1 - g) from by rw [hG, show g + 1 - 1 = g by omega, show q + 2 - (g + 1) = q + 1 - g by omega]), HH, HF⟩
      case round =>
       obtain ⟨E, m', he1, he2, rfl, hfe, hm8', HE, HH', HF'⟩ := hrel
       by_cases hle : E ≤ Q
       ·have hz7 : (E : Int) ≤ (Q : Int) := by omega
        have he8 : (E : Int) < 8 := by omega
        have he9 : E < 8 := by omega
        obtain ⟨c0, c1, -, -⟩ := rd HH'.out
        have dc := c0 E
        have dd : (markV m')[E]? = some (.bool (m'[E]'(by omega))) := by
         unfold markV
         rw [List.getElem?_toArray, List.getElem?_map, List.getElem?_eq_getElem (by omega)]; rfl
        rw [dd] at dc
        have df := c1 E
        have HT3 := Lib.hid (show (wr.setCell ⟨H, E, none⟩ (.bool true)).heap[H]? = some (.cells (markV (m'.set E true)) 113 (0, 0)) by
         rw [← markV_set]; exact heap_setCell HH'.out E (.bool true))
        have HE2 := Lib.hid (show markN (m'.set E true) (E + 1 - 1) (q + 2 - (E + 1)) = markN m g (q + 1 - g) by
         rw [← HE.out, show q + 2 - E = (q + 2 - (E + 1)) + 1 by omega, markN, show E - 1 + 1 = E by omega, show E + 1 - 1 = E by omega])
        clear c0 c1 dd
        go_wp2_with fail
        go_roundg (q + 2 - E)
        case measure => omega
        case rel => exact ⟨E + 1, m'.set E true, by omega, by omega, by go_num, by omega, by simpa using hm8', HE2, HT3, HF'.out.setCell (p := ⟨H, E, none⟩) (fun _ => rfl) _⟩
       ·have hz7 : ¬ (E : Int) ≤ (Q : Int) := by omega
        have HMM := Lib.hid (show workL (l.take (k + 1)) noDays = some m' from by
         have h := HE.out
         rw [show q + 2 - E = 0 by omega] at h
         rw [HSN2.out, ← h]; rfl)
        go_wp2_with fail
        go_roundg (l.length - k)
        case measure => omega
        case rel => exact ⟨k + 1, m', by omega, by go_num, by omega, hm8', HMM, HH', HF'⟩
  ·have hz : ¬ (k : Int) < (l.length : Int) := by omega
   have HWM := Lib.hid (show workL l noDays = some m from by rw [← HWL.out, List.take_of_length_le (by omega)])
   have HR := Lib.hid (show workS s.data.toList = some (daysTo m 8) from by rw [HPS.out, HWM.out]; rfl)
   have hm0 : daysTo m 1 = [] := by
    rw [daysTo_succ, if_neg (by rw [workL_zero _ _ _ HWM.out rfl]; simp)]; rfl
   have HM0 := Lib.hid hm0
   clear hm0 HWL
   go_wp2_with fail
   go_loopg [11, 12] 9 (fun f v d wx => ∃ k : Nat, 1 ≤ k ∧ k ≤ 8 ∧ d = .int .i64 k ∧ 8 - k < f ∧ Hid (wx.ownsRow w2.heap.size 3 1 v (daysTo m k).length ((daysTo m k).map fun n => .int .i64 n)) ∧ Hid (Below w2.heap.size w2 wx))
   case atStart => exact ⟨1, by omega, by omega, rfl, by omega, by rw [HM0.out]; exact World.ownsRow_nil _ _ _ _, Below.refl _ _⟩
   case round =>
    obtain ⟨k2, hk1, hk8, rfl, hfu2, HO, HB⟩ := hrel
    obtain ⟨oa2, cap2, rfl⟩ := ownsRow_form HO.out
    by_cases hlt2 : k2 < 8
    ·have hk2z : (k2 : Int) ≤ 7 := by omega
     have hz3 : (k2 : Int) < 8 := by omega
     have HS := Lib.hid (daysTo_succ m k2)
     have hql : (daysTo m k2).length ≤ 8 := Nat.le_trans (daysTo_len m k2) (by omega)
     obtain ⟨c0, c1, -, -⟩ := rd (heap_below HH.out HB.out)
     have dc := c0 k2
     have dd : (markV m)[k2]? = some (.bool (m.getD k2 false)) := by
      unfold markV
      rw [List.getElem?_toArray, List.getElem?_map, List.getD_eq_getElem?_getD, List.getElem?_eq_getElem (by omega)]; rfl
     rw [dd] at dc
     obtain ⟨q, hq⟩ : ∃ q, m.getD k2 false = q := ⟨_, rfl⟩
     rw [hq] at HS dc
     clear c0 c1 dd hq
     cases q with
     | false =>
      have HS2 := Lib.hid (show daysTo m (k2 + 1) = daysTo m k2 by rw [HS.out, if_neg (by simp)])
      clear HS
      go_wp2_with fail
      go_roundg (8 - k2)
      case measure => omega
      case rel => exact ⟨k2 + 1, by omega, by omega, by go_num, by omega, by rw [HS2.out]; exact HO, HB⟩
     | true =>
      have HS2 := Lib.hid (show daysTo m (k2 + 1) = daysTo m k2 ++ [(k2 : Int)] by rw [HS.out, if_pos rfl])
      have hB1 : Below wr.heap.size wr (wr.alloc (.cells #[.int .i64 k2] 3)) := (Below.refl _ _).alloc (Nat.le_refl _) _
      obtain ⟨v', w4, hrun, hown4, hgrow, -⟩ := run_append_own (P := Tryz.prog) (wr.alloc (.cells #[.int .i64 k2] 3)) w2.heap.size 64 64 3 i0 (.int .i64 0) 1 8 Tryz.underlying64 hi0 hz0 hz1 hz2 rfl (by decide) _ _ _ (HO.out.alloc _) ⟨wr.heap.size, 0, none⟩ 1 1 [.int .i64 k2] rfl (cell_one_new _ _ _) (by simp [Value.oneCell']) (by unfold maxLen; omega) (by omega) (by have := HB.out.size; simp; omega)
      have HRUN := Lib.hid hrun
      have HB4 := Lib.hid ((HB.out.trans (hB1.mono HB.out.size)).grown hgrow (by have := HB.out.size; simp; omega) (fun g hg => (HO.out.lt g hg).1))
      have HO4 := Lib.hid (show w4.ownsRow w2.heap.size 3 1 v' (daysTo m (k2 + 1)).length ((daysTo m (k2 + 1)).map fun n => .int .i64 n) by
       rw [HS2.out, List.length_append, List.map_append]; exact hown4)
      obtain ⟨oa3, cap3, rfl⟩ := ownsRow_form HO4.out
      clear HS hrun hown4 hgrow hB1
      go_wp2_with (at_builtin; refine wpList_append_run rfl _ _ 64 rfl HRUN.out rfl rfl ?_)
      go_roundg (8 - k2)
      case measure => omega
      case rel => exact ⟨k2 + 1, by omega, by omega, by go_num, by omega, HO4, HB4⟩
    ·have hk2z : ¬ (k2 : Int) ≤ 7 := by omega
     obtain rfl : k2 = 8 := by omega
     go_wp2_with fail
     go_ret2
     refine ⟨_, by rw [HR.out]; rfl, ?_, ?_⟩
     ·rw [HR.out]
      have h := HO.out
      refine ⟨h.1, ?_⟩
      rcases h.2 with hn | ⟨g, cp, cur, hv, hb, rest⟩
      ·exact .inl hn
      ·exact .inr ⟨g, cp, cur, hv, by have h1 := HF.out.size; have h2 := HZ1.out; have h3 := HHW.out; omega, rest⟩
     ·rw [← HHW.out]
      exact (HB1.out.trans (HF.out.below H (by have := HZ1.out; omega) (fun j hj e => by omega))).trans (HB.out.mono (by have h1 := HF.out.size; have h2 := HZ1.out; omega))
end Go.Proofs.YtdpnahojhmkemaaGreatDoor
