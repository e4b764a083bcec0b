import Derived.Test.YtdjkedcpehhmnaaGreatDoorUS4
import Derived.Test.YtdjkedcpehhmnaaGreatDoorUS6
import Derived.Test.YtdjkedcpehhmnaaGreatDoorUS31
import Derived.Test.YtdjkedcpehhmnaaGreatDoorUS33
import Derived.Test.YtdjkedcpehhmnaaGreatDoorUS41
namespace Go.Proofs.YtdjkedcpehhmnaaGreatDoor
open Go Go.RowKit
set_option linter.unusedVariables false
set_option linter.unusedSimpArgs false
set_option maxRecDepth 100000
structure CmdSee (w : World) (x : CmdV) (c : CmdS) : Prop where
 dash : x.dash = c.1
 wn : x.wn = c.2.length
 row : StrRow w x.wa c.2
 few : c.2.length ≤ maxLen
structure CsRow (w : World) (oa : Option Addr) (xs : List CmdV) (l : List CmdS) : Prop where
 len : xs.length = l.length
 row : RowRd encX 2 w oa xs
 see : ∀ i (h1 : i < xs.length) (h2 : i < l.length), CmdSee w xs[i] l[i]
set_option maxHeartbeats 2000000 in
theorem sameExecs_any (oa ob : Option Addr) (ca cb : Nat) (xs ys : List CmdV) (l m : List CmdS) (w : World) (hl : CsRow w oa xs l) (hm : CsRow w ob ys m) (hll : l.length ≤ 9223372036854775807) (hml : m.length ≤ 9223372036854775807) (r : Bool) (hr : decide (l = m) = r) :
  Calls Tryz.prog 25 #[.slice oa l.length ca, .slice ob m.length cb] w fun e w' => e = .returned (.bool r) ∧ ∃ n, w' = w.drewN n := by
 have HRS := h_ hr
 clear hr
 by_cases hlen : l.length = m.length
 ·have hne : ((l.length : Int) != (m.length : Int)) = false := by simp [hlen]
  have Hlen := h_ hlen; clear hlen
  have HL := h_ hl; clear hl
  have HM := h_ hm; clear hm
  go_enter Tryz.func25, Tryz.ntmps25
  go_wp2_with fail
  go_loopg [13] (l.length + 1) (fun f i wr => ∃ k : Nat, k ≤ l.length ∧ i = .int .i64 k ∧ l.length - k < f ∧ Hid (l.take k = m.take k) ∧ ∃ n, wr = w.drewN n)
  case atStart => exact ⟨0, by omega, rfl, by omega, rfl, 0, rfl⟩
  case round =>
   obtain ⟨k, hk, rfl, hfu, Hq, n, rfl⟩ := hrel
   by_cases hlt : k < l.length
   ·have hlt2 : k < m.length := by have := Hlen.out; omega
    have i5 : (k : Int) < (l.length : Int) := by omega
    have i6 : (k : Int) < (m.length : Int) := by omega
    have hx1 : k < xs.length := by rw [HL.out.len]; exact hlt
    have hy1 : k < ys.length := by rw [HM.out.len]; exact hlt2
    obtain ⟨b1, o1, rfl, -, hc1⟩ := HL.out.row k hx1
    obtain ⟨b2, o2, rfl, -, hc2⟩ := HM.out.row k hy1
    have sx := HL.out.see k hx1 hlt
    have sy := HM.out.see k hy1 hlt2
    obtain ⟨x, hx⟩ : ∃ x, x = l[k] := ⟨_, rfl⟩
    obtain ⟨y, hy⟩ : ∃ y, y = m[k] := ⟨_, rfl⟩
    rw [← hx] at sx
    rw [← hy] at sy
    generalize xs[k] = xv at hc1 sx
    generalize ys[k] = yv at hc2 sy
    obtain ⟨xd, xa, xn, xc⟩ := xv
    obtain ⟨yd, ya, yn, yc⟩ := yv
    obtain ⟨rfl, rfl, sx3, sx4⟩ := sx
    obtain ⟨rfl, rfl, sy3, sy4⟩ := sy
    obtain ⟨xd, xw⟩ := x
    obtain ⟨yd, yw⟩ := y
    have d0 := hc1 0 _ rfl; have d1 := hc1 1 _ rfl; have e0 := hc2 0 _ rfl; have e1 := hc2 1 _ rfl
    simp only [Nat.add_zero] at d0 e0
    simp only at sx3 sx4 sy3 sy4 d0 d1 e0 e1
    have HS := h_ (same_any xa ya xc yc xw yw (w.drewN n).drew sx3 sy3 sx4 sy4)
    obtain ⟨sb, hsb⟩ : ∃ sb, sameB xw yw = sb := ⟨_, rfl⟩
    rw [hsb] at HS
    clear hc1 hc2 sx3 sx4 sy3 sy4
    by_cases hd : xd = yd
    ·have hq : (xd == yd) = true := by rw [hd]; simp
     cases sb with
     | true =>
      have HT := h_ (show l.take (k + 1) = m.take (k + 1) by
       rw [List.take_succ_eq_append_getElem hlt, List.take_succ_eq_append_getElem hlt2, Hq.out, ← hx, ← hy, hd, show xw = yw from eq_of_beq hsb])
      clear hd hx hy hsb
      go_wp2_with fail
      refine wp_region_drawT (S := fun V => V.cell? ⟨b1, o1 + k * 2, none⟩ = some (.bool xd) ∧ V.cell? ⟨b1, o1 + k * 2 + 1, none⟩ = some (.slice xa xw.length xc) ∧ V.cell? ⟨b2, o2 + k * 2, none⟩ = some (.bool yd) ∧ V.cell? ⟨b2, o2 + k * 2 + 1, none⟩ = some (.slice ya yw.length yc)) 22 (by kernel_rfl) (by kernel_rfl) (show _ ∧ _ ∧ _ ∧ _ from ⟨d0, d1, e0, e1⟩) (fun hHeld => ?_)
      try simp only [Act.put, sA_, sB_, sC_]
      refine dT_ (i := 0) (v := .slice (some ⟨b1, o1, none⟩) l.length ca) (gT_ rfl) (fun W hW => by obtain ⟨z0, z1, z2, z3⟩ := hW; clear d0 d1 e0 e1; go_simp) ?_
      try simp only [Act.put, sA_, sB_, sC_]
      refine dT_ (i := 1) (v := .int .i64 k) (gT_ rfl) (fun W hW => by obtain ⟨z0, z1, z2, z3⟩ := hW; clear d0 d1 e0 e1; go_simp) ?_
      try simp only [Act.put, sA_, sB_, sC_]
      refine dT_ (i := 2) (v := .pointer (some ⟨b1, o1 + k * 2, none⟩)) (gT_ rfl) (fun W hW => by obtain ⟨z0, z1, z2, z3⟩ := hW; clear d0 d1 e0 e1; go_simp) ?_
      try simp only [Act.put, sA_, sB_, sC_]
      refine dT_ (i := 3) (v := .pointer (some ⟨b1, o1 + k * 2, none⟩)) (gT_ rfl) (fun W hW => by obtain ⟨z0, z1, z2, z3⟩ := hW; clear d0 d1 e0 e1; go_simp) ?_
      try simp only [Act.put, sA_, sB_, sC_]
      refine dT_ (i := 4) (v := .bool xd) (gT_ rfl) (fun W hW => by obtain ⟨z0, z1, z2, z3⟩ := hW; clear d0 d1 e0 e1; go_simp) ?_
      try simp only [Act.put, sA_, sB_, sC_]
      refine dT_ (i := 5) (v := .slice (some ⟨b2, o2, none⟩) m.length cb) (gT_ rfl) (fun W hW => by obtain ⟨z0, z1, z2, z3⟩ := hW; clear d0 d1 e0 e1; go_simp) ?_
      try simp only [Act.put, sA_, sB_, sC_]
      refine dT_ (i := 6) (v := .int .i64 k) (gT_ rfl) (fun W hW => by obtain ⟨z0, z1, z2, z3⟩ := hW; clear d0 d1 e0 e1; go_simp) ?_
      try simp only [Act.put, sA_, sB_, sC_]
      refine dT_ (i := 7) (v := .pointer (some ⟨b2, o2 + k * 2, none⟩)) (gT_ rfl) (fun W hW => by obtain ⟨z0, z1, z2, z3⟩ := hW; clear d0 d1 e0 e1; go_simp) ?_
      try simp only [Act.put, sA_, sB_, sC_]
      refine dT_ (i := 8) (v := .pointer (some ⟨b2, o2 + k * 2, none⟩)) (gT_ rfl) (fun W hW => by obtain ⟨z0, z1, z2, z3⟩ := hW; clear d0 d1 e0 e1; go_simp) ?_
      try simp only [Act.put, sA_, sB_, sC_]
      refine dT_ (i := 9) (v := .bool yd) (gT_ rfl) (fun W hW => by obtain ⟨z0, z1, z2, z3⟩ := hW; clear d0 d1 e0 e1; go_simp) ?_
      try simp only [Act.put, sA_, sB_, sC_]
      refine dT_ (i := 10) (v := .bool false) (gT_ rfl) (fun W hW => by obtain ⟨z0, z1, z2, z3⟩ := hW; clear d0 d1 e0 e1; go_simp) ?_
      try simp only [Act.put, sA_, sB_, sC_]
      refine dT_ (i := 11) (v := .bool false) (gT_ rfl) (fun W hW => by obtain ⟨z0, z1, z2, z3⟩ := hW; clear d0 d1 e0 e1; go_simp) ?_
      try simp only [Act.put, sA_, sB_, sC_]
      refine dT_ (i := 12) (v := .slice (some ⟨b1, o1, none⟩) l.length ca) (gT_ rfl) (fun W hW => by obtain ⟨z0, z1, z2, z3⟩ := hW; clear d0 d1 e0 e1; go_simp) ?_
      try simp only [Act.put, sA_, sB_, sC_]
      refine dT_ (i := 13) (v := .int .i64 k) (gT_ rfl) (fun W hW => by obtain ⟨z0, z1, z2, z3⟩ := hW; clear d0 d1 e0 e1; go_simp) ?_
      try simp only [Act.put, sA_, sB_, sC_]
      refine dT_ (i := 14) (v := .pointer (some ⟨b1, o1 + k * 2, none⟩)) (gT_ rfl) (fun W hW => by obtain ⟨z0, z1, z2, z3⟩ := hW; clear d0 d1 e0 e1; go_simp) ?_
      try simp only [Act.put, sA_, sB_, sC_]
      refine dT_ (i := 15) (v := .pointer (some ⟨b1, o1 + k * 2 + 1, none⟩)) (gT_ rfl) (fun W hW => by obtain ⟨z0, z1, z2, z3⟩ := hW; clear d0 d1 e0 e1; go_simp) ?_
      try simp only [Act.put, sA_, sB_, sC_]
      refine dT_ (i := 16) (v := .slice xa xw.length xc) (gT_ rfl) (fun W hW => by obtain ⟨z0, z1, z2, z3⟩ := hW; clear d0 d1 e0 e1; go_simp) ?_
      try simp only [Act.put, sA_, sB_, sC_]
      refine dT_ (i := 17) (v := .slice (some ⟨b2, o2, none⟩) m.length cb) (gT_ rfl) (fun W hW => by obtain ⟨z0, z1, z2, z3⟩ := hW; clear d0 d1 e0 e1; go_simp) ?_
      try simp only [Act.put, sA_, sB_, sC_]
      refine dT_ (i := 18) (v := .int .i64 k) (gT_ rfl) (fun W hW => by obtain ⟨z0, z1, z2, z3⟩ := hW; clear d0 d1 e0 e1; go_simp) ?_
      try simp only [Act.put, sA_, sB_, sC_]
      refine dT_ (i := 19) (v := .pointer (some ⟨b2, o2 + k * 2, none⟩)) (gT_ rfl) (fun W hW => by obtain ⟨z0, z1, z2, z3⟩ := hW; clear d0 d1 e0 e1; go_simp) ?_
      try simp only [Act.put, sA_, sB_, sC_]
      refine dT_ (i := 20) (v := .pointer (some ⟨b2, o2 + k * 2 + 1, none⟩)) (gT_ rfl) (fun W hW => by obtain ⟨z0, z1, z2, z3⟩ := hW; clear d0 d1 e0 e1; go_simp) ?_
      try simp only [Act.put, sA_, sB_, sC_]
      refine dT_ (i := 21) (v := .slice ya yw.length yc) (gT_ rfl) (fun W hW => by obtain ⟨z0, z1, z2, z3⟩ := hW; clear d0 d1 e0 e1; go_simp) ?_
      try simp only [Act.put, sA_, sB_, sC_]
      refine drawT_done (by kernel_rfl) ?_
      clear hHeld
      go_wp2_with fail
      refine (HS.out).mono ?_
      rintro e w6 ⟨rfl, q, rfl⟩
      go_wp2_with fail
      go_roundg (l.length - k)
      case measure => omega
      case rel => exact ⟨k + 1, by omega, by go_num, by omega, HT, (by first | exact dn0 _ | exact dn_trans (dn _ _) | exact dn _ _ | exact ⟨_, by rw [show (w.drewN n).drew = (w.drewN n).drewN 1 from rfl, dn2, dn2]⟩ | exact ⟨_, by rw [show (w.drewN n).drew = (w.drewN n).drewN 1 from rfl, dn2]⟩)⟩
     | false =>
      have HR := h_ (show r = false by
       rw [← HRS.out]; apply decide_eq_false; intro e; subst e
       have e2 := hx.trans hy.symm
       injection e2 with _ e3
       subst e3
       simp [sameB] at hsb)
      clear hd hx hy hsb
      go_wp2_with fail
      refine wp_region_drawT (S := fun V => V.cell? ⟨b1, o1 + k * 2, none⟩ = some (.bool xd) ∧ V.cell? ⟨b1, o1 + k * 2 + 1, none⟩ = some (.slice xa xw.length xc) ∧ V.cell? ⟨b2, o2 + k * 2, none⟩ = some (.bool yd) ∧ V.cell? ⟨b2, o2 + k * 2 + 1, none⟩ = some (.slice ya yw.length yc)) 22 (by kernel_rfl) (by kernel_rfl) (show _ ∧ _ ∧ _ ∧ _ from ⟨d0, d1, e0, e1⟩) (fun hHeld => ?_)
      try simp only [Act.put, sA_, sB_, sC_]
      refine dT_ (i := 0) (v := .slice (some ⟨b1, o1, none⟩) l.length ca) (gT_ rfl) (fun W hW => by obtain ⟨z0, z1, z2, z3⟩ := hW; clear d0 d1 e0 e1; go_simp) ?_
      try simp only [Act.put, sA_, sB_, sC_]
      refine dT_ (i := 1) (v := .int .i64 k) (gT_ rfl) (fun W hW => by obtain ⟨z0, z1, z2, z3⟩ := hW; clear d0 d1 e0 e1; go_simp) ?_
      try simp only [Act.put, sA_, sB_, sC_]
      refine dT_ (i := 2) (v := .pointer (some ⟨b1, o1 + k * 2, none⟩)) (gT_ rfl) (fun W hW => by obtain ⟨z0, z1, z2, z3⟩ := hW; clear d0 d1 e0 e1; go_simp) ?_
      try simp only [Act.put, sA_, sB_, sC_]
      refine dT_ (i := 3) (v := .pointer (some ⟨b1, o1 + k * 2, none⟩)) (gT_ rfl) (fun W hW => by obtain ⟨z0, z1, z2, z3⟩ := hW; clear d0 d1 e0 e1; go_simp) ?_
      try simp only [Act.put, sA_, sB_, sC_]
      refine dT_ (i := 4) (v := .bool xd) (gT_ rfl) (fun W hW => by obtain ⟨z0, z1, z2, z3⟩ := hW; clear d0 d1 e0 e1; go_simp) ?_
      try simp only [Act.put, sA_, sB_, sC_]
      refine dT_ (i := 5) (v := .slice (some ⟨b2, o2, none⟩) m.length cb) (gT_ rfl) (fun W hW => by obtain ⟨z0, z1, z2, z3⟩ := hW; clear d0 d1 e0 e1; go_simp) ?_
      try simp only [Act.put, sA_, sB_, sC_]
      refine dT_ (i := 6) (v := .int .i64 k) (gT_ rfl) (fun W hW => by obtain ⟨z0, z1, z2, z3⟩ := hW; clear d0 d1 e0 e1; go_simp) ?_
      try simp only [Act.put, sA_, sB_, sC_]
      refine dT_ (i := 7) (v := .pointer (some ⟨b2, o2 + k * 2, none⟩)) (gT_ rfl) (fun W hW => by obtain ⟨z0, z1, z2, z3⟩ := hW; clear d0 d1 e0 e1; go_simp) ?_
      try simp only [Act.put, sA_, sB_, sC_]
      refine dT_ (i := 8) (v := .pointer (some ⟨b2, o2 + k * 2, none⟩)) (gT_ rfl) (fun W hW => by obtain ⟨z0, z1, z2, z3⟩ := hW; clear d0 d1 e0 e1; go_simp) ?_
      try simp only [Act.put, sA_, sB_, sC_]
      refine dT_ (i := 9) (v := .bool yd) (gT_ rfl) (fun W hW => by obtain ⟨z0, z1, z2, z3⟩ := hW; clear d0 d1 e0 e1; go_simp) ?_
      try simp only [Act.put, sA_, sB_, sC_]
      refine dT_ (i := 10) (v := .bool false) (gT_ rfl) (fun W hW => by obtain ⟨z0, z1, z2, z3⟩ := hW; clear d0 d1 e0 e1; go_simp) ?_
      try simp only [Act.put, sA_, sB_, sC_]
      refine dT_ (i := 11) (v := .bool false) (gT_ rfl) (fun W hW => by obtain ⟨z0, z1, z2, z3⟩ := hW; clear d0 d1 e0 e1; go_simp) ?_
      try simp only [Act.put, sA_, sB_, sC_]
      refine dT_ (i := 12) (v := .slice (some ⟨b1, o1, none⟩) l.length ca) (gT_ rfl) (fun W hW => by obtain ⟨z0, z1, z2, z3⟩ := hW; clear d0 d1 e0 e1; go_simp) ?_
      try simp only [Act.put, sA_, sB_, sC_]
      refine dT_ (i := 13) (v := .int .i64 k) (gT_ rfl) (fun W hW => by obtain ⟨z0, z1, z2, z3⟩ := hW; clear d0 d1 e0 e1; go_simp) ?_
      try simp only [Act.put, sA_, sB_, sC_]
      refine dT_ (i := 14) (v := .pointer (some ⟨b1, o1 + k * 2, none⟩)) (gT_ rfl) (fun W hW => by obtain ⟨z0, z1, z2, z3⟩ := hW; clear d0 d1 e0 e1; go_simp) ?_
      try simp only [Act.put, sA_, sB_, sC_]
      refine dT_ (i := 15) (v := .pointer (some ⟨b1, o1 + k * 2 + 1, none⟩)) (gT_ rfl) (fun W hW => by obtain ⟨z0, z1, z2, z3⟩ := hW; clear d0 d1 e0 e1; go_simp) ?_
      try simp only [Act.put, sA_, sB_, sC_]
      refine dT_ (i := 16) (v := .slice xa xw.length xc) (gT_ rfl) (fun W hW => by obtain ⟨z0, z1, z2, z3⟩ := hW; clear d0 d1 e0 e1; go_simp) ?_
      try simp only [Act.put, sA_, sB_, sC_]
      refine dT_ (i := 17) (v := .slice (some ⟨b2, o2, none⟩) m.length cb) (gT_ rfl) (fun W hW => by obtain ⟨z0, z1, z2, z3⟩ := hW; clear d0 d1 e0 e1; go_simp) ?_
      try simp only [Act.put, sA_, sB_, sC_]
      refine dT_ (i := 18) (v := .int .i64 k) (gT_ rfl) (fun W hW => by obtain ⟨z0, z1, z2, z3⟩ := hW; clear d0 d1 e0 e1; go_simp) ?_
      try simp only [Act.put, sA_, sB_, sC_]
      refine dT_ (i := 19) (v := .pointer (some ⟨b2, o2 + k * 2, none⟩)) (gT_ rfl) (fun W hW => by obtain ⟨z0, z1, z2, z3⟩ := hW; clear d0 d1 e0 e1; go_simp) ?_
      try simp only [Act.put, sA_, sB_, sC_]
      refine dT_ (i := 20) (v := .pointer (some ⟨b2, o2 + k * 2 + 1, none⟩)) (gT_ rfl) (fun W hW => by obtain ⟨z0, z1, z2, z3⟩ := hW; clear d0 d1 e0 e1; go_simp) ?_
      try simp only [Act.put, sA_, sB_, sC_]
      refine dT_ (i := 21) (v := .slice ya yw.length yc) (gT_ rfl) (fun W hW => by obtain ⟨z0, z1, z2, z3⟩ := hW; clear d0 d1 e0 e1; go_simp) ?_
      try simp only [Act.put, sA_, sB_, sC_]
      refine drawT_done (by kernel_rfl) ?_
      clear hHeld
      go_wp2_with fail
      refine (HS.out).mono ?_
      rintro e w6 ⟨rfl, q, rfl⟩
      go_wp2_with fail
      go_ret
      exact ⟨by rw [HR.out]; rfl, (by first | exact dn0 _ | exact dn_trans (dn _ _) | exact dn _ _ | exact ⟨_, by rw [show (w.drewN n).drew = (w.drewN n).drewN 1 from rfl, dn2, dn2]⟩ | exact ⟨_, by rw [show (w.drewN n).drew = (w.drewN n).drewN 1 from rfl, dn2]⟩)⟩
    ·have hq : (xd == yd) = false := by rw [beq_eq_false_iff_ne]; exact hd
     have HR := h_ (show r = false by
      rw [← HRS.out]; apply decide_eq_false; intro e; subst e
      have e2 := hx.trans hy.symm
      injection e2 with e3 _
      exact hd e3)
     clear hd hx hy hsb
     go_wp2_with fail
     refine wp_region_drawT (S := fun V => V.cell? ⟨b1, o1 + k * 2, none⟩ = some (.bool xd) ∧ V.cell? ⟨b1, o1 + k * 2 + 1, none⟩ = some (.slice xa xw.length xc) ∧ V.cell? ⟨b2, o2 + k * 2, none⟩ = some (.bool yd) ∧ V.cell? ⟨b2, o2 + k * 2 + 1, none⟩ = some (.slice ya yw.length yc)) 22 (by kernel_rfl) (by kernel_rfl) (show _ ∧ _ ∧ _ ∧ _ from ⟨d0, d1, e0, e1⟩) (fun hHeld => ?_)
     try simp only [Act.put, sA_, sB_, sC_]
     refine dT_ (i := 0) (v := .slice (some ⟨b1, o1, none⟩) l.length ca) (gT_ rfl) (fun W hW => by obtain ⟨z0, z1, z2, z3⟩ := hW; clear d0 d1 e0 e1; go_simp) ?_
     try simp only [Act.put, sA_, sB_, sC_]
     refine dT_ (i := 1) (v := .int .i64 k) (gT_ rfl) (fun W hW => by obtain ⟨z0, z1, z2, z3⟩ := hW; clear d0 d1 e0 e1; go_simp) ?_
     try simp only [Act.put, sA_, sB_, sC_]
     refine dT_ (i := 2) (v := .pointer (some ⟨b1, o1 + k * 2, none⟩)) (gT_ rfl) (fun W hW => by obtain ⟨z0, z1, z2, z3⟩ := hW; clear d0 d1 e0 e1; go_simp) ?_
     try simp only [Act.put, sA_, sB_, sC_]
     refine dT_ (i := 3) (v := .pointer (some ⟨b1, o1 + k * 2, none⟩)) (gT_ rfl) (fun W hW => by obtain ⟨z0, z1, z2, z3⟩ := hW; clear d0 d1 e0 e1; go_simp) ?_
     try simp only [Act.put, sA_, sB_, sC_]
     refine dT_ (i := 4) (v := .bool xd) (gT_ rfl) (fun W hW => by obtain ⟨z0, z1, z2, z3⟩ := hW; clear d0 d1 e0 e1; go_simp) ?_
     try simp only [Act.put, sA_, sB_, sC_]
     refine dT_ (i := 5) (v := .slice (some ⟨b2, o2, none⟩) m.length cb) (gT_ rfl) (fun W hW => by obtain ⟨z0, z1, z2, z3⟩ := hW; clear d0 d1 e0 e1; go_simp) ?_
     try simp only [Act.put, sA_, sB_, sC_]
     refine dT_ (i := 6) (v := .int .i64 k) (gT_ rfl) (fun W hW => by obtain ⟨z0, z1, z2, z3⟩ := hW; clear d0 d1 e0 e1; go_simp) ?_
     try simp only [Act.put, sA_, sB_, sC_]
     refine dT_ (i := 7) (v := .pointer (some ⟨b2, o2 + k * 2, none⟩)) (gT_ rfl) (fun W hW => by obtain ⟨z0, z1, z2, z3⟩ := hW; clear d0 d1 e0 e1; go_simp) ?_
     try simp only [Act.put, sA_, sB_, sC_]
     refine dT_ (i := 8) (v := .pointer (some ⟨b2, o2 + k * 2, none⟩)) (gT_ rfl) (fun W hW => by obtain ⟨z0, z1, z2, z3⟩ := hW; clear d0 d1 e0 e1; go_simp) ?_
     try simp only [Act.put, sA_, sB_, sC_]
     refine dT_ (i := 9) (v := .bool yd) (gT_ rfl) (fun W hW => by obtain ⟨z0, z1, z2, z3⟩ := hW; clear d0 d1 e0 e1; go_simp) ?_
     try simp only [Act.put, sA_, sB_, sC_]
     refine dT_ (i := 10) (v := .bool true) (gT_ rfl) (fun W hW => by obtain ⟨z0, z1, z2, z3⟩ := hW; clear d0 d1 e0 e1; go_simp) ?_
     try simp only [Act.put, sA_, sB_, sC_]
     refine dT_ (i := 11) (v := .bool true) (gT_ rfl) (fun W hW => by obtain ⟨z0, z1, z2, z3⟩ := hW; clear d0 d1 e0 e1; go_simp) ?_
     try simp only [Act.put, sA_, sB_, sC_]
     refine drawT_take (i := 12) (v := undef) (gT_ rfl) (by kernel_rfl) (by kernel_rfl) (by kernel_rfl) (by kernel_rfl) (fun _ _ _ h => h) (Or.inr ⟨by rfl, rfl⟩) (by assumption) ?_
     try simp only [Act.put, sA_, sB_, sC_]
     refine drawT_take (i := 13) (v := undef) (gT_ rfl) (by kernel_rfl) (by kernel_rfl) (by kernel_rfl) (by kernel_rfl) (fun _ _ _ h => h) (Or.inr ⟨by rfl, rfl⟩) (by assumption) ?_
     try simp only [Act.put, sA_, sB_, sC_]
     refine drawT_take (i := 14) (v := undef) (gT_ rfl) (by kernel_rfl) (by kernel_rfl) (by kernel_rfl) (by kernel_rfl) (fun _ _ _ h => h) (Or.inr ⟨by rfl, rfl⟩) (by assumption) ?_
     try simp only [Act.put, sA_, sB_, sC_]
     refine drawT_take (i := 15) (v := undef) (gT_ rfl) (by kernel_rfl) (by kernel_rfl) (by kernel_rfl) (by kernel_rfl) (fun _ _ _ h => h) (Or.inr ⟨by rfl, rfl⟩) (by assumption) ?_
     try simp only [Act.put, sA_, sB_, sC_]
     refine drawT_take (i := 16) (v := undef) (gT_ rfl) (by kernel_rfl) (by kernel_rfl) (by kernel_rfl) (by kernel_rfl) (fun _ _ _ h => h) (Or.inr ⟨by rfl, rfl⟩) (by assumption) ?_
     try simp only [Act.put, sA_, sB_, sC_]
     refine drawT_take (i := 17) (v := undef) (gT_ rfl) (by kernel_rfl) (by kernel_rfl) (by kernel_rfl) (by kernel_rfl) (fun _ _ _ h => h) (Or.inr ⟨by rfl, rfl⟩) (by assumption) ?_
     try simp only [Act.put, sA_, sB_, sC_]
     refine drawT_take (i := 18) (v := undef) (gT_ rfl) (by kernel_rfl) (by kernel_rfl) (by kernel_rfl) (by kernel_rfl) (fun _ _ _ h => h) (Or.inr ⟨by rfl, rfl⟩) (by assumption) ?_
     try simp only [Act.put, sA_, sB_, sC_]
     refine drawT_take (i := 19) (v := undef) (gT_ rfl) (by kernel_rfl) (by kernel_rfl) (by kernel_rfl) (by kernel_rfl) (fun _ _ _ h => h) (Or.inr ⟨by rfl, rfl⟩) (by assumption) ?_
     try simp only [Act.put, sA_, sB_, sC_]
     refine drawT_take (i := 20) (v := undef) (gT_ rfl) (by kernel_rfl) (by kernel_rfl) (by kernel_rfl) (by kernel_rfl) (fun _ _ _ h => h) (Or.inr ⟨by rfl, rfl⟩) (by assumption) ?_
     try simp only [Act.put, sA_, sB_, sC_]
     refine drawT_take (i := 21) (v := undef) (gT_ rfl) (by kernel_rfl) (by kernel_rfl) (by kernel_rfl) (by kernel_rfl) (fun _ _ _ h => h) (Or.inr ⟨by rfl, rfl⟩) (by assumption) ?_
     try simp only [Act.put, sA_, sB_, sC_]
     refine drawT_done (by kernel_rfl) ?_
     clear hHeld
     go_wp2_with fail
     go_ret
     exact ⟨by rw [HR.out]; rfl, (by first | exact dn0 _ | exact dn_trans (dn _ _) | exact dn _ _ | exact ⟨_, by rw [show (w.drewN n).drew = (w.drewN n).drewN 1 from rfl, dn2, dn2]⟩ | exact ⟨_, by rw [show (w.drewN n).drew = (w.drewN n).drewN 1 from rfl, dn2]⟩)⟩
   ·have HR := h_ (show r = true by
     have h1 := Hq.out
     rw [List.take_of_length_le (by omega), List.take_of_length_le (by have := Hlen.out; omega)] at h1
     rw [← HRS.out, h1]; simp)
    go_wp2_with fail
    go_ret
    exact ⟨by rw [HR.out]; rfl, dn _ _⟩
 ·have hne : ((l.length : Int) != (m.length : Int)) = true := by simp; omega
  have HR := h_ (show r = false by
   rw [← HRS.out]; apply decide_eq_false; intro e; exact hlen (by rw [e]))
  clear hlen
  go_enter Tryz.func25, Tryz.ntmps25
  go_wp2_with fail
  go_ret
  exact ⟨by rw [HR.out]; rfl, dn0 _⟩
def sameU (u v : UV) : Bool := (List.range 35).all fun j => u j == v j
theorem sameU_refl (u : UV) : sameU u u = true := by
 unfold sameU
 rw [List.all_eq_true]
 intro j _
 exact beq_self_eq_true _
theorem sameU_of {u v : UV} (h : ∀ j, j < 35 → u j = v j) : sameU u v = true := by
 unfold sameU
 rw [List.all_eq_true]
 intro j hj
 rw [h j (List.mem_range.1 hj)]
 exact beq_self_eq_true _
theorem sameU_get {u v : UV} (h : sameU u v = true) (j : Nat) (hj : j < 35) : u j = v j := by
 unfold sameU at h
 exact eq_of_beq (List.all_eq_true.1 h j (List.mem_range.2 hj))
theorem sameU_ne {u v : UV} (j : Nat) (hj : j < 35) (h : u j ≠ v j) : sameU u v = false := by
 cases e : sameU u v with
 | false => rfl
 | true => exact absurd (sameU_get e j hj) h
theorem sameU_comm (u v : UV) : sameU u v = sameU v u := by
 cases e : sameU u v with
 | true => exact (sameU_of fun j hj => (sameU_get e j hj).symm).symm
 | false =>
  cases e2 : sameU v u with
  | false => rfl
  | true => rw [sameU_of fun j hj => (sameU_get e2 j hj).symm] at e; cases e
def UC.bool : UC → Bool | .b x => x | _ => false
def shownLs : List Ln := [⟨[85, 110, 105, 116], [65, 102, 116, 101, 114], [37, 105, 46, 116, 97, 114, 103, 101, 116, 32, 97, 64, 120, 46, 115, 101, 114, 118, 105, 99, 101], 1⟩, ⟨[83, 101, 114, 118, 105, 99, 101], [69, 120, 101, 99, 83, 116, 97, 114, 116], [45, 114, 117, 110, 32, 37, 110], 2⟩, ⟨[83, 101, 114, 118, 105, 99, 101], [82, 101, 115, 116, 97, 114, 116], [97, 108, 119, 97, 121, 115], 3⟩]
def axName : Str := [97, 64, 120, 46, 115, 101, 114, 118, 105, 99, 101]
def bName : Str := [98, 46, 115, 101, 114, 118, 105, 99, 101]
def aSock : Str := [97, 46, 115, 111, 99, 107, 101, 116]
def runS : Str := [114, 117, 110]
def xTarget : Str := [120, 46, 116, 97, 114, 103, 101, 116]
theorem shown_fault : (makeU axName shownLs).2 = (0, 0) := by decide +kernel
theorem shown_rels : (makeU axName shownLs).1 4 = .rs [(8, xTarget)] := by decide +kernel
theorem shown_start : (makeU axName shownLs).1 9 = .cs [(true, [runS, axName])] := by decide +kernel
theorem shown_again : (makeU axName shownLs).1 14 = .n 5 := by decide +kernel
theorem shown_up : (makeU axName shownLs).1 16 = .n 90 := by decide +kernel
theorem shown_second : (makeU bName (shownLs.take 1)).2 = (12, 1) := by decide +kernel
theorem shown_sock : newU aSock 22 = .n 16 := by decide +kernel
def UcSee (w : World) : UC → Value → Prop
 | .s x, v => v = .string ⟨x.toArray⟩
 | .n x, v => v = .int .i64 x
 | .b x, v => v = .bool x
 | .ss l, v => ∃ oa cap, v = .slice oa l.length cap ∧ StrRow w oa l ∧ l.length ≤ maxLen
 | .ns l, v => ∃ oa cap, v = .slice oa l.length cap ∧ IntRow w oa l ∧ l.length ≤ maxLen
 | .rs l, v => ∃ oa cap, v = .slice oa l.length cap ∧ RowRd encL 2 w oa l ∧ l.length ≤ maxLen
 | .ps l, v => ∃ oa cap, v = .slice oa l.length cap ∧ RowRd encP 2 w oa l ∧ l.length ≤ maxLen
 | .cs l, v => ∃ oa cap xs, v = .slice oa l.length cap ∧ CsRow w oa xs l ∧ l.length ≤ maxLen
structure UnitSee (w : World) (cs : Array Value) (u : UV) : Prop where
 size : cs.size = 35
 fld : ∀ j v, cs[j]? = some v → UcSee w (u j) v
theorem own_few {w : World} {B e k n : Nat} {v : Value} {xs : List Value} (h : w.ownsRow B e k v n xs) : n ≤ maxLen := by
 rcases h.2 with ⟨_, h0⟩ | ⟨g, cap, cur, _, _, _, h1, h2, _⟩
 ·rw [h0]; exact Nat.zero_le _
 ·exact Nat.le_trans h1 h2
theorem UcAt.see {w : World} {F : Nat → Prop} : ∀ {c : UC} {v : Value}, UcAt w F c v → UcSee w c v
 | .s _, _, h => h
 | .n _, _, h => h
 | .b _, _, h => h
 | .ss l, v, h => by obtain ⟨oa, cap, rfl⟩ := ownsRow_form h.1; exact ⟨oa, cap, rfl, StrRow.of_own h.1, own_few h.1⟩
 | .ns l, v, h => by obtain ⟨oa, cap, rfl⟩ := ownsRow_form h.1; exact ⟨oa, cap, rfl, IntRow.of_own h.1, own_few h.1⟩
 | .rs l, v, h => by obtain ⟨oa, cap, rfl⟩ := ownsRow_form h.1; exact ⟨oa, cap, rfl, RowRd.of_own (enc := encL) (k := 2) (fun _ => rfl) h.1, own_few h.1⟩
 | .ps l, v, h => by obtain ⟨oa, cap, rfl⟩ := ownsRow_form h.1; exact ⟨oa, cap, rfl, RowRd.of_own (enc := encP) (k := 2) (fun _ => rfl) h.1, own_few h.1⟩
 | .cs l, v, h => by
  obtain ⟨xs, hl, ho, _, hc⟩ := h
  rw [← hl] at ho
  obtain ⟨oa, cap, rfl⟩ := ownsRow_form ho
  refine ⟨oa, cap, xs, by rw [hl], ⟨hl, RowRd.of_own (enc := encX) (k := 2) (fun _ => rfl) ho, fun i h1 h2 => ?_⟩, by rw [← hl]; exact own_few ho⟩
  have q := hc i h1 h2
  refine ⟨q.dash, q.wn, ?_, ?_⟩
  ·have := q.row; exact StrRow.of_own this
  ·have := own_few q.row; rw [q.wn] at this; exact this
theorem UnitRd.see {w : World} {cs : Array Value} {u : UV} (h : UnitRd w cs u) : UnitSee w cs u := ⟨h.size, fun j v hv => (h.fld j v hv).see⟩
theorem UcSee.below {w w' : World} (hb : Below w.heap.size w w') : ∀ {c : UC} {v : Value}, UcSee w c v → UcSee w' c v
 | .s _, _, h => h
 | .n _, _, h => h
 | .b _, _, h => h
 | .ss _, _, ⟨oa, cap, e, h, q⟩ => ⟨oa, cap, e, h.below hb, q⟩
 | .ns _, _, ⟨oa, cap, e, h, q⟩ => ⟨oa, cap, e, h.fr (M := fun _ => False) (Fr.of_below hb _) (fun _ _ _ e => e), q⟩
 | .rs _, _, ⟨oa, cap, e, h, q⟩ => ⟨oa, cap, e, h.below hb, q⟩
 | .ps _, _, ⟨oa, cap, e, h, q⟩ => ⟨oa, cap, e, h.below hb, q⟩
 | .cs _, _, ⟨oa, cap, xs, e, h, q⟩ => ⟨oa, cap, xs, e, ⟨h.len, h.row.below hb, fun i h1 h2 => let s := h.see i h1 h2; ⟨s.dash, s.wn, s.row.below hb, s.few⟩⟩, q⟩
theorem csBelow {w w' : World} {oa : Option Addr} {xs : List CmdV} {l : List CmdS} (hb : Below w.heap.size w w') (h : CsRow w oa xs l) : CsRow w' oa xs l := ⟨h.len, h.row.below hb, fun i h1 h2 => let s := h.see i h1 h2; ⟨s.dash, s.wn, s.row.below hb, s.few⟩⟩
theorem UnitSee.below {w w' : World} {cs : Array Value} {u : UV} (h : UnitSee w cs u) (hb : Below w.heap.size w w') : UnitSee w' cs u := ⟨h.size, fun j v hv => (h.fld j v hv).below hb⟩
theorem UnitSee.at {w : World} {cs : Array Value} {u : UV} (h : UnitSee w cs u) (j : Nat) (hj : j < 35) : ∃ v, cs[j]? = some v ∧ UcSee w (u j) v :=
 ⟨_, Array.getElem?_eq_getElem (by rw [h.size]; exact hj), h.fld j _ (Array.getElem?_eq_getElem (by rw [h.size]; exact hj))⟩
theorem beq_UCs (x y : Str) : (UC.s x == UC.s y) = (x == y) := by rw [Bool.eq_iff_iff]; simp
theorem beq_UCn (x y : Int) : (UC.n x == UC.n y) = (x == y) := by rw [Bool.eq_iff_iff]; simp
theorem beq_UCb (x y : Bool) : (UC.b x == UC.b y) = (x == y) := by rw [Bool.eq_iff_iff]; simp
theorem beq_UCss (x y : List Str) : (UC.ss x == UC.ss y) = sameB x y := by unfold sameB; rw [Bool.eq_iff_iff]; simp
theorem beq_UCns (x y : List Int) : (UC.ns x == UC.ns y) = decide (x = y) := by rw [Bool.eq_iff_iff]; simp
theorem beq_UCrs (x y : List (Int × Str)) : (UC.rs x == UC.rs y) = decide (x = y) := by rw [Bool.eq_iff_iff]; simp
theorem beq_UCps (x y : List (Str × Str)) : (UC.ps x == UC.ps y) = decide (x = y) := by rw [Bool.eq_iff_iff]; simp
theorem beq_UCcs (x y : List CmdS) : (UC.cs x == UC.cs y) = decide (x = y) := by rw [Bool.eq_iff_iff]; simp
def plainU (a b : UV) : Bool := ((a 0 == b 0) && ((a 1 == b 1) && ((a 2 == b 2) && ((a 3 == b 3) && ((a 5 == b 5) && ((a 6 == b 6) && ((a 7 == b 7) && ((a 13 == b 13) && ((a 14 == b 14) && ((a 15 == b 15) && ((a 16 == b 16) && ((a 17 == b 17) && ((a 22 == b 22) && ((a 23 == b 23) && ((a 24 == b 24) && ((a 29 == b 29) && (a 34 == b 34)))))))))))))))))
def execsU (a b : UV) : Bool := ((a 8 == b 8) && ((a 9 == b 9) && ((a 10 == b 10) && ((a 11 == b 11) && (a 12 == b 12)))))
def intsU (a b : UV) : Bool := ((a 18 == b 18) && ((a 21 == b 21) && ((a 25 == b 25) && ((a 26 == b 26) && (a 27 == b 27)))))
def namesU (a b : UV) : Bool := ((a 20 == b 20) && ((a 28 == b 28) && ((a 30 == b 30) && ((a 31 == b 31) && ((a 32 == b 32) && (a 33 == b 33))))))
theorem abs_act {P : Program} {ops : Array Oper} {Q : Exit → Act → World → Prop} {l : List Oper} {a : Act} {w : World} (h : ∀ a0, a0 = a → wpList P ops Q l a0 w) : wpList P ops Q l a w := h a rfl
theorem ev_of {a : Act} {s : Nat} {v : Value} (h : a.tmps[s]? = some v) : a.eval (.tmp s) = v ∧ a.tmps.getD s undef = v := by
 have : a.tmps.getD s undef = v := by rw [Array.getD_eq_getD_getElem?, h]; rfl
 exact ⟨this, this⟩
theorem sameU_parts (a b : UV) : sameU a b = (plainU a b && (execsU a b && (intsU a b && (namesU a b && ((a 19 == b 19) && (a 4 == b 4)))))) := by
 unfold sameU plainU execsU intsU namesU
 rw [show List.range 35 = [0, 1, 2, 3, 4, 5, 6, 7, 8, 9, 10, 11, 12, 13, 14, 15, 16, 17, 18, 19, 20, 21, 22, 23, 24, 25, 26, 27, 28, 29, 30, 31, 32, 33, 34] from rfl]
 simp only [List.all_cons, List.all_nil, Bool.and_true, Bool.and_assoc]
 ac_rfl
end Go.Proofs.YtdjkedcpehhmnaaGreatDoor
