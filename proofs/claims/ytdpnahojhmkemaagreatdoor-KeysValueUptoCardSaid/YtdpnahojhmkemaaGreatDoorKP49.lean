import Derived.Test.YtdpnahojhmkemaaGreatDoorKP45
import Derived.Test.YtdpnahojhmkemaaGreatDoorKP46
import Derived.Test.YtdpnahojhmkemaaGreatDoorKP48
namespace Go.Proofs.YtdpnahojhmkemaaGreatDoor
open Go Go.RowKit
set_option linter.unusedVariables false
set_option linter.unusedSimpArgs false
set_option maxRecDepth 100000
theorem forms_in0 : (allKeys.all fun k => decide (1 ≤ k.form) && decide (k.form ≤ 11)) = true := by kernel_rfl
theorem forms_in (k : KeyS) (hk : k ∈ allKeys) : 1 ≤ k.form ∧ k.form ≤ 11 := by
 have := List.all_eq_true.1 forms_in0 k hk
 simpa using this
theorem valS_two (v : Str) (k : KeyS) (hk : k ∈ allKeys) : (if valS v k = 0 then (0 : Int) else 12) = valS v k := by
 obtain ⟨h1, h2⟩ := forms_in k hk
 have hn : ¬ (k.form < 1 ∨ 11 < k.form) := by omega
 unfold valS valE
 simp only [if_neg hn]
 by_cases h3 : v = [] ∧ (k.list = true ∨ k.form = 1)
 ·simp only [if_pos h3]; rfl
 ·simp only [if_neg h3]
  by_cases h4 : v = [] ∨ rightS k.form k.words v = false
  ·simp only [if_pos h4]; rfl
  ·simp only [if_neg h4]; rfl
theorem lnS_ref (kind : Int) (x : Ln) : lnS kind x = if someK x.sec kind = false then 10 else match findKey x.sec x.key with | none => 11 | some k => valS x.val k := by
 unfold lnS lineE
 split
 ·rfl
 ·cases h : findKey x.sec x.key with
  | none => rfl
  | some k => exact valS_two x.val k (find_mem _ _ k h)
theorem any_snoc (p : KeyS → Bool) (l : List KeyS) (k : Nat) (h : k < l.length) : (l.take (k + 1)).any p = ((l.take k).any p || p l[k]) := by
 rw [List.take_succ_eq_append_getElem h, List.any_append]
 simp
theorem cells4K {w : World} {b : Nat} {x0 x1 x2 x3 : Value} {T : TypeId} (h : w.heap[b]? = some (.cells #[x0, x1, x2, x3] T (0, 0))) :
  w.cell? ⟨b, 0, none⟩ = some x0 ∧ w.cell? ⟨b, 1, none⟩ = some x1 ∧ w.cell? ⟨b, 2, none⟩ = some x2 ∧ w.cell? ⟨b, 3, none⟩ = some x3 := by
 obtain ⟨c, _, _, _⟩ := rd h
 exact ⟨by rw [c]; rfl, by rw [c]; rfl, by rw [c]; rfl, by rw [c]; rfl⟩
set_option maxHeartbeats 8000000 in
theorem wrongR_any (kind : Int) (x : Ln) (w : World) (hl : x.val.length ≤ 1000000000) :
  Calls Tryz.prog 39 #[.int .i64 kind, .agg (encLn x).toArray] w fun e w' => e = .returned (.int .i64 (lnS kind x)) ∧ Below w.heap.size w w' := by
 have HLN := Lib.hid (lnS_ref kind x)
 obtain ⟨r, hr⟩ : ∃ r, lnS kind x = r := ⟨_, rfl⟩
 rw [hr] at HLN ⊢
 obtain ⟨xs, xk, xv, xa⟩ := x
 unfold encLn
 simp only at hl HLN ⊢
 have HB0 := Lib.hid ((Below.refl w.heap.size w).alloc (Nat.le_refl _) (.cells #[.string ⟨xs.toArray⟩, .string ⟨xk.toArray⟩, .string ⟨xv.toArray⟩, .int .i64 xa] 44))
 have HN0 := Lib.hid (show (w.alloc (.cells #[.string ⟨xs.toArray⟩, .string ⟨xk.toArray⟩, .string ⟨xv.toArray⟩, .int .i64 xa] 44)).heap[w.heap.size]? = some (.cells #[.string ⟨xs.toArray⟩, .string ⟨xk.toArray⟩, .string ⟨xv.toArray⟩, .int .i64 xa] 44 (0, 0)) from heap_alloc_new w _)
 have HA := Lib.hid (keysR_any (w.alloc (.cells #[.string ⟨xs.toArray⟩, .string ⟨xk.toArray⟩, .string ⟨xv.toArray⟩, .int .i64 xa] 44)))
 have HFD := Lib.hid (fun W => findR_any xs xk W)
 unfold AllOut at HA
 unfold FindOut at HFD
 clear hr
 go_enter Tryz.func39, Tryz.ntmps39
 go_wp2_with fail
 refine HA.out.mono ?_
 rintro e w2 ⟨ov, cv, vs, rfl, hrv, hkv, hb2⟩
 have HB2 := Lib.hid (HB0.out.trans (hb2.mono HB0.out.size))
 have HN2 := Lib.hid (heap_below HN0.out hb2)
 have HRV := Lib.hid hrv; have HKV := Lib.hid hkv
 have hlv : vs.length = 42 := by rw [hkv.1]; exact allKeys_len
 obtain ⟨bv, fv, rfl, -, -⟩ := hrv 0 (by omega)
 obtain ⟨N, hN⟩ : ∃ N, N = w.heap.size := ⟨_, rfl⟩
 rw [← hN] at HN2 ⊢
 have HNW := Lib.hid hN
 have HLV := Lib.hid hlv
 clear hb2 hrv hkv HA HN0 HB0 hN hlv
 obtain ⟨n0, n1, n2, n3⟩ := cells4K HN2.out
 go_wp2_with fail
 go_loopg [5, 12] 43 (fun f b i wr => ∃ (j : Nat) (g : Bool), j ≤ 42 ∧ i = .int .i64 j ∧ b = .bool g ∧ 42 - j < f ∧ Hid (g = (allKeys.take j).any fun k => k.sec == xs && inKind k.kinds kind) ∧ Hid (Below w2.heap.size w2 wr))
 case atStart => exact ⟨0, false, by omega, rfl, rfl, by omega, (show false = (allKeys.take 0).any _ by simp), Below.refl _ _⟩
 case round =>
  obtain ⟨j, g, hj, rfl, rfl, hfu, HG, HBW⟩ := hrel
  clear n0 n1 n2 n3
  obtain ⟨n0, n1, n2, n3⟩ := cells4K (heap_below HN2.out HBW.out)
  by_cases hlt : j < 42
  ·have hjz : (j : Int) < 42 := by omega
   have hjv : j < vs.length := by rw [HLV.out]; exact hlt
   have hja : j < allKeys.length := by rw [allKeys_len]; exact hlt
   obtain ⟨y, hy⟩ : ∃ y, y = vs[j] := ⟨_, rfl⟩
   have hyk := HKV.out.2 j hjv hja
   rw [← hy] at hyk
   obtain ⟨g0, g1, g2, g3, g4, g5⟩ := row_cells (HRV.out.below HBW.out) j hjv bv fv rfl y hy
   have HG2 := Lib.hid (show (g || (y.sec == xs && inKind y.kinds kind)) = (allKeys.take (j + 1)).any fun k => k.sec == xs && inKind k.kinds kind from by
    rw [any_snoc _ allKeys j hja, ← HG.out, hyk.sec, hyk.kinds])
   obtain ⟨ks, kn, kf, kl, kk, wa, wn, wc⟩ := y
   simp only at g0 g1 g2 g3 g4 g5 HG2
   have HBA := Lib.hid (HBW.out.trans (((Below.refl wr.heap.size wr).alloc (Nat.le_refl _) (.cells #[.string ⟨ks.toArray⟩, .string ⟨kn.toArray⟩, .int .i64 kf, .bool kl, .int .i64 kk, .slice wa wn wc] 28)).mono HBW.out.size))
   have hNlt : N < wr.heap.size := lt_heap (heap_below HN2.out HBW.out)
   have hNne : N ≠ wr.heap.size := by omega
   have nn := cells4K (heap_alloc (heap_below HN2.out HBW.out) (.cells #[.string ⟨ks.toArray⟩, .string ⟨kn.toArray⟩, .int .i64 kf, .bool kl, .int .i64 kk, .slice wa wn wc] 28))
   obtain ⟨m0, m1, m2, m3⟩ := nn
   clear hyk hy hjv hja HG hNlt
   cases g with
   | true =>
    have HG3 := Lib.hid (show true = (allKeys.take (j + 1)).any fun k => k.sec == xs && inKind k.kinds kind from by rw [← HG2.out]; simp)
    go_wp2_with fail
    go_roundg (42 - j)
    case measure => omega
    case rel => exact ⟨j + 1, true, by omega, by go_num, rfl, by omega, HG3, HBA⟩
   | false =>
    cases hs : (ks == xs) with
    | false =>
     have HG3 := Lib.hid (show false = (allKeys.take (j + 1)).any fun k => k.sec == xs && inKind k.kinds kind from by rw [← HG2.out, hs]; rfl)
     go_wp2_with fail
     go_roundg (42 - j)
     case measure => omega
     case rel => exact ⟨j + 1, false, by omega, by go_num, rfl, by omega, HG3, HBA⟩
    | true =>
     have HG4 := Lib.hid (show inKind kk kind = (allKeys.take (j + 1)).any fun k => k.sec == xs && inKind k.kinds kind from by rw [← HG2.out, hs]; rfl)
     by_cases hk1 : 1 ≤ kind
     ·have hk1' : ¬ kind < 1 := by omega
      have hk1b : kind ≥ 1 := hk1
      by_cases hk2 : kind ≤ 4
      ·have hk2' : ¬ kind > 4 := by omega
       obtain ⟨z, hz, hbz⟩ := and_small3 (kk / 2 ^ kind.toNat) 1 (by decide)
       have hbz' : bits BinOp.and IntKind.i64 (kk / 2 ^ kind.toNat) 1 = (z : Int) := hbz
       clear hbz
       rcases (show z = 0 ∨ z = 1 by omega) with rfl | rfl
       ·have hin : inKind kk kind = false := by unfold inKind; rw [hbz']; simp
        have HG3 := Lib.hid (show false = (allKeys.take (j + 1)).any fun k => k.sec == xs && inKind k.kinds kind from by rw [← HG4.out, hin])
        clear hin
        go_wp2_with fail
        go_roundg (42 - j)
        case measure => omega
        case rel => exact ⟨j + 1, false, by omega, by go_num, rfl, by omega, HG3, HBA⟩
       ·have hin : inKind kk kind = true := by unfold inKind; rw [hbz', decide_eq_true hk1, decide_eq_true hk2]; rfl
        have HG3 := Lib.hid (show true = (allKeys.take (j + 1)).any fun k => k.sec == xs && inKind k.kinds kind from by rw [← HG4.out, hin])
        clear hin
        go_wp2_with fail
        go_roundg (42 - j)
        case measure => omega
        case rel => exact ⟨j + 1, true, by omega, by go_num, rfl, by omega, HG3, HBA⟩
      ·have hk2' : kind > 4 := by omega
       have hin : inKind kk kind = false := by unfold inKind; rw [decide_eq_false hk2]; simp
       have HG3 := Lib.hid (show false = (allKeys.take (j + 1)).any fun k => k.sec == xs && inKind k.kinds kind from by rw [← HG4.out, hin])
       clear hin
       go_wp2_with fail
       go_roundg (42 - j)
       case measure => omega
       case rel => exact ⟨j + 1, false, by omega, by go_num, rfl, by omega, HG3, HBA⟩
     ·have hk1' : kind < 1 := by omega
      have hk1b : ¬ kind ≥ 1 := hk1
      have hin : inKind kk kind = false := by unfold inKind; rw [decide_eq_false hk1]; rfl
      have HG3 := Lib.hid (show false = (allKeys.take (j + 1)).any fun k => k.sec == xs && inKind k.kinds kind from by rw [← HG4.out, hin])
      clear hin
      go_wp2_with fail
      go_roundg (42 - j)
      case measure => omega
      case rel => exact ⟨j + 1, false, by omega, by go_num, rfl, by omega, HG3, HBA⟩
  ·have hjz : ¬ (j : Int) < 42 := by omega
   have HSM := Lib.hid (show someK xs kind = g from by
    rw [HG.out, List.take_of_length_le (by rw [allKeys_len]; omega)]; rfl)
   have HBZ := Lib.hid (HB2.out.trans (HBW.out.mono HB2.out.size))
   have HNZ := Lib.hid (heap_below HN2.out HBW.out)
   clear HG HBW HB2 HN2 HRV HKV HLV
   cases g with
   | false =>
    have HR := Lib.hid (show 10 = r by rw [HLN.out, HSM.out]; rfl)
    go_wp2_with fail
    go_ret
    exact ⟨by rw [← HR.out]; rfl, HBZ.out⟩
   | true =>
    have HR1 := Lib.hid (show (match findKey xs xk with | none => 11 | some k => valS xv k) = r by rw [HLN.out, HSM.out]; rfl)
    clear HSM HLN
    go_wp2_with fail
    refine (HFD.out _).mono ?_
    rintro e w5 ⟨kv, rfl, hkr, hb5⟩
    have HB5 := Lib.hid (HBZ.out.trans (hb5.mono HBZ.out.size))
    have HN5 := Lib.hid (heap_below HNZ.out hb5)
    have hbA : Below w5.heap.size w5 (w5.alloc (.cells (encK kv).toArray 28)) := (Below.refl _ _).alloc (Nat.le_refl _) _
    have HBA := Lib.hid (HB5.out.trans (hbA.mono HB5.out.size))
    have HNA := Lib.hid (heap_below HN5.out hbA)
    have HKA := Lib.hid (hkr.below hbA)
    have HKN := Lib.hid (heap_alloc_new w5 (.cells (encK kv).toArray 28))
    clear hb5 hbA hkr HFD HBZ HNZ n0 n1 n2 n3
    obtain ⟨n0, n1, n2, n3⟩ := cells4K HNA.out
    obtain ⟨q0, q1, q2, q3⟩ := cells4K HN5.out
    have hNlt : N < w5.heap.size := lt_heap HN5.out
    have hNne : N ≠ w5.heap.size := by omega
    clear hNlt
    cases hf : findKey xs xk with
    | none =>
     have HR := Lib.hid (show 11 = r by rw [← HR1.out, hf])
     simp only [hf, Option.isSome_none]
     obtain ⟨ks, kn, kf, kl, kk, wa, wn, wc⟩ := kv
     unfold encK at *
     clear hf HR1
     go_wp2_with fail
     go_ret
     exact ⟨by rw [← HR.out]; rfl, HBA.out⟩
    | some q =>
     have hql := words_few q (find_mem _ _ q hf)
     have HV := Lib.hid (show valS xv q = r by rw [← HR1.out, hf])
     simp only [hf, Option.isSome_some]
     rw [hf] at HKA
     have hvr := valueRef_any q kv xv (w5.alloc (.cells (encK kv).toArray 28)) HKA.out (by omega) hl r HV.out
     have HVR := Lib.hid hvr
     obtain ⟨ks, kn, kf, kl, kk, wa, wn, wc⟩ := kv
     unfold encK at *
     clear hf HR1 hvr hql HV
     go_wp2_with fail
     refine HVR.out.mono ?_
     rintro e w6 ⟨rfl, hb6⟩
     have HB6 := Lib.hid (HBA.out.trans (hb6.mono HBA.out.size))
     clear hb6 HVR
     go_wp2_with fail
     go_ret
     exact ⟨rfl, HB6.out⟩
set_option maxHeartbeats 4000000 in
theorem checkR_gen (ln : Ln → Int) (kind : Int) (l : List Ln) (oa : Option Addr) (cap : Nat) (w : World) (hl : l.length ≤ 4294967296) (hM : MaxAt w) (hr : RowRd encLn 4 w oa l)
  (hv : ∀ i (h : i < l.length) W, MaxAt W → Calls Tryz.prog 39 #[.int .i64 kind, .agg (encLn l[i]).toArray] W fun e w' => e = .returned (.int .i64 (ln l[i])) ∧ Below W.heap.size W w') (c a : Int) (hc : checkS ln l = (c, a)) :
  Calls Tryz.prog 18 #[.int .i64 kind, .slice oa l.length cap] w fun e w' => e = .returned (.agg #[.int .i64 c, .int .i64 a]) ∧ Below w.heap.size w w' := by
 have HM := Lib.hid hM; have HR := Lib.hid hr; have HV := Lib.hid hv; have HC := Lib.hid hc
 have HL := Lib.hid hl
 clear hM hr hv hc
 go_enter Tryz.func18, Tryz.ntmps18
 have h0 := Lib.hid (heap_alloc_new w (.cells #[.int .i64 0, .int .i64 0] 37))
 have HB0 := Lib.hid ((Below.refl w.heap.size w).alloc (Nat.le_refl _) (.cells #[.int .i64 0, .int .i64 0] 37))
 go_wp2
 go_loopg [10] l.length (fun f s10 wr => ∃ k : Nat, k + f = l.length ∧ s10 = .int .i64 k ∧ Hid (Below w.heap.size w wr) ∧ Hid (checkS ln (l.drop k) = (c, a)) ∧ Hid (wr.heap[w.heap.size]? = some (.cells #[.int .i64 0, .int .i64 0] 37 (0, 0))))
 case atStart => exact ⟨0, by omega, rfl, HB0, HC, h0⟩
 case round =>
  obtain ⟨k, hk, rfl, HB, HD, HH⟩ := hrel
  clear HC HB0 h0
  obtain ⟨cc, fc, sc, lc⟩ := rd HH.out
  clear sc
  have cc0 := cc 0; have cc1 := cc 1; have fc0 := fc 0; have fc1 := fc 1
  simp only [List.getElem?_toArray, List.getElem?_cons_zero, List.getElem?_cons_succ] at cc0 cc1
  clear cc fc
  by_cases hlt : k < l.length
  ·have hz : (k : Int) < (l.length : Int) := by omega
   have hk1 : ((k : Int) + 1) ≤ 4294967296 := by have := HL.out; omega
   have hd : l.drop k = l[k] :: l.drop (k + 1) := List.drop_eq_getElem_cons hlt
   obtain ⟨x, hx⟩ : ∃ x, x = l[k] := ⟨_, rfl⟩
   rw [← hx] at hd
   obtain ⟨b, o, rfl, hblt, hcc⟩ := (HR.out.below HB.out) k hlt
   rw [← hx] at hcc
   have d0 := hcc 0 _ rfl; have d1 := hcc 1 _ rfl; have d2 := hcc 2 _ rfl; have d3 := hcc 3 _ rfl
   simp only [Nat.add_zero] at d0
   have hB1 : Below w.heap.size w (wr.alloc (.cells (encLn x).toArray 44)) := HB.out.trans ((Below.refl _ _).alloc (Nat.le_refl _) _ |>.mono HB.out.size)
   have hcall := HV.out k hlt _ (HM.out.below hB1)
   rw [← hx] at hcall
   have hH1 := heap_alloc HH.out (.cells (encLn x).toArray 44)
   have HCL := Lib.hid hcall; have HB1 := Lib.hid hB1; have HH1 := Lib.hid hH1
   have hD := HD.out
   rw [hd] at hD
   unfold checkS at hD
   clear hcall hB1 hH1 hcc hd hx
   obtain ⟨e, he⟩ : ∃ e, e = ln x := ⟨_, rfl⟩
   rw [← he] at HCL hD
   by_cases h0 : e = 0
   ·rw [if_pos h0] at hD
    have HD2 := Lib.hid hD
    subst h0
    clear hD he
    unfold encLn at *
    go_wp2_with fail
    refine HCL.out.mono ?_
    rintro e w2 ⟨rfl, hb2⟩
    have HB2 := Lib.hid (HB1.out.trans (hb2.mono HB1.out.size))
    have HH2 := Lib.hid (heap_below HH1.out hb2)
    clear hb2 HCL HB1 HH1 HH HB HD
    go_wp2_with fail
    go_roundg (l.length - (k + 1))
    case measure => omega
    case rel => exact ⟨k + 1, by omega, by go_num, HB2, HD2, HH2⟩
   ·rw [if_neg h0] at hD
    have HD2 := Lib.hid (show e = c ∧ x.at_ = a by simpa using hD)
    clear hD he
    unfold encLn at *
    go_wp2_with fail
    refine HCL.out.mono ?_
    rintro e2 w2 ⟨rfl, hb2⟩
    have HB2 := Lib.hid (HB1.out.trans (hb2.mono HB1.out.size))
    have HH2 := Lib.hid (heap_below HH1.out hb2)
    have hq : (wr.alloc (.cells #[.string ⟨x.sec.toArray⟩, .string ⟨x.key.toArray⟩, .string ⟨x.val.toArray⟩, .int .i64 x.at_] 44)).cell? ⟨wr.heap.size, 3, none⟩ = some (.int .i64 x.at_) := by rw [(rd (heap_alloc_new wr _)).1]; rfl
    have e3 : w2.cell? ⟨wr.heap.size, 3, none⟩ = some (.int .i64 x.at_) := (hb2.cell (p := ⟨wr.heap.size, 3, none⟩) (by simp)).trans hq
    obtain ⟨cc, fc, sc, lc2⟩ := rd HH2.out
    have gc0 := cc 0; have gc1 := cc 1; have hc0 := fc 0; have hc1 := fc 1
    simp only [List.getElem?_toArray, List.getElem?_cons_zero, List.getElem?_cons_succ] at gc0 gc1
    clear cc fc hb2 HCL HB1 HH1 HH HB HD hq cc0 cc1 fc0 fc1 d0 d1 d2 d3
    have hne : wr.heap.size ≠ w.heap.size := by omega
    clear sc lc2 hblt HR HV hk1 hlt hk
    clear lc
    generalize wr.heap.size = L at *
    go_wp2_with fail
    obtain ⟨rfl, rfl⟩ := HD2.out
    refine post_cell 4 37 w.heap.size _ rfl rfl rfl (loadVar_all 37 _ rfl rfl rfl (heap_setCell (heap_setCell HH2.out 0 _) 1 _)) ⟨rfl, ?_⟩
    exact (HB2.out.setCell (Nat.le_refl _) _).setCell (Nat.le_refl _) _
  ·have hz : ¬ ((k : Int) < (l.length : Int)) := by omega
   have hd : l.drop k = [] := List.drop_eq_nil_of_le (by omega)
   have HE := Lib.hid (show c = 0 ∧ a = 0 by have := HD.out; rw [hd] at this; simp [checkS] at this; exact ⟨this.1.symm, this.2.symm⟩)
   clear hd
   go_wp2_with fail
   obtain ⟨rfl, rfl⟩ := HE.out
   refine post_cell 4 37 w.heap.size _ rfl rfl rfl (loadVar_all 37 _ rfl rfl rfl (heap_setCell (heap_setCell HH.out 0 _) 1 _)) ⟨rfl, ?_⟩
   exact (HB.out.setCell (Nat.le_refl _) _).setCell (Nat.le_refl _) _
theorem checkR_any (kind : Int) (l : List Ln) (oa : Option Addr) (cap : Nat) (w : World) (hl : l.length ≤ 4294967296) (hM : MaxAt w) (hr : RowRd encLn 4 w oa l)
  (hf : ∀ x ∈ l, x.val.length ≤ 1000000000) (c a : Int) (hc : checkS (lnS kind) l = (c, a)) :
  Calls Tryz.prog 18 #[.int .i64 kind, .slice oa l.length cap] w fun e w' => e = .returned (.agg #[.int .i64 c, .int .i64 a]) ∧ Below w.heap.size w w' :=
 checkR_gen (lnS kind) kind l oa cap w hl hM hr (fun i h W hW => wrongR_any kind l[i] W (hf _ (List.getElem_mem h))) c a hc
end Go.Proofs.YtdpnahojhmkemaaGreatDoor
