import Derived.Test.YtdpnahojhmkemaaGreatDoorKP6
import Derived.Test.YtdpnahojhmkemaaGreatDoorKP11
namespace Go.Proofs.YtdpnahojhmkemaaGreatDoor
open Go Go.RowKit
set_option linter.unusedVariables false
def escR (r : List UInt8) : UInt8 × Nat := match escOf r with
 | some (d, n) => (d, n)
 | none => (0, 0)
theorem hex48 (c : UInt8) : (hexOf c = some 0) ↔ c = 48 := by
 constructor
 ·intro h
  have := u8_forall (p := fun c => !(hexOf c == some 0) || c == 48) (by decide +kernel) c
  rw [h] at this
  simpa using this
 ·intro h; subst h; rfl
theorem hexN_some {c : UInt8} (h : hexN c < 16) : hexOf c = some (hexN c) := by
 unfold hexN at *
 cases hx : hexOf c with
 | none => rw [hx] at h; simp at h
 | some n => rfl
theorem hexN_big {c : UInt8} (h : ¬ hexN c < 16) : hexOf c = none := by
 cases hx : hexOf c with
 | none => rfl
 | some n => have := hexOf_lt hx; unfold hexN at h; rw [hx] at h; simp at h; omega
theorem str3 (s : ByteArray) (h : 3 ≤ s.size) : ∃ r, s.data.toList = s[0] :: s[1] :: s[2] :: r := by
 refine ⟨s.data.toList.drop 3, ?_⟩
 have h1 := drop_cons s 0 (by omega)
 have h2 := drop_cons s 1 (by omega)
 have h3 := drop_cons s 2 (by omega)
 rw [List.drop_zero] at h1
 exact h1.trans (by rw [h2, h3])
set_option maxHeartbeats 4000000 in
set_option maxRecDepth 100000 in
theorem escapeR_x (s : ByteArray) (w : World) (h63 : s.size ≤ 9223372036854775807) (h3 : 3 ≤ s.size) (hx : s[0] = 120) :
  Calls Tryz.prog 98 #[.string s] w fun e w' => e = .returned (.tuple #[.int .u8 (escR s.data.toList).1.toNat, .int .i64 ((escR s.data.toList).2 : Nat)]) ∧ ∃ n, w' = w.drewN n := by
 have h0 : 0 < s.size := by omega
 have h1 : (1 : Int) < (s.size : Int) := by omega
 have h2 : (2 : Int) < (s.size : Int) := by omega
 have h3' : (3 : Int) ≤ (s.size : Int) := by omega
 obtain ⟨n1, n2, n3, n4⟩ := str_ne (s := s) (by omega)
 obtain ⟨r, hsp⟩ := str3 s h3
 have c0 : ((s[0].toNat : Int) == 92) = false ∧ ((s[0].toNat : Int) == 34) = false ∧ ((s[0].toNat : Int) == 39) = false ∧ ((s[0].toNat : Int) == 110) = false ∧ ((s[0].toNat : Int) == 116) = false ∧ ((s[0].toNat : Int) == 115) = false ∧ ((s[0].toNat : Int) == 120) = true := by
  rw [hx]; decide
 obtain ⟨c1, c2, c3, c4, c5, c6, c7⟩ := c0
 have hE : escR s.data.toList = match twoOf (s[1] :: s[2] :: r) with | some d => (if d = 0 then (0, 0) else (d, 3)) | none => (0, 0) := by
  unfold escR
  rw [hsp, hx]
  show (match (match twoOf (s[1] :: s[2] :: r) with | some d => if d = 0 then none else some (d, 3) | none => none) with | some (d, n) => (d, n) | none => (0, 0)) = _
  clear hsp
  cases twoOf (s[1] :: s[2] :: r) with
  | none => rfl
  | some d =>
   simp only
   by_cases hd : d = 0
   ·rw [if_pos hd, if_pos hd]
   ·rw [if_neg hd, if_neg hd]
 have hex1 : (s.extract 1 3).toList = [s[1], s[2]] := by
  rw [Lib.extract_toList, hsp]; rfl
 simp only [twoOf] at hE
 have HX := Lib.hid hx; clear hx hsp
 by_cases hA : hexN s[1] < 16
 ·have eA := hexN_some hA
  by_cases hB : hexN s[2] < 16
  ·have eB := hexN_some hB
   rw [eA, eB] at hE
   simp only at hE
   have hA' : (hexN s[1] : Int) < 16 := by omega
   have hB' : (hexN s[2] : Int) < 16 := by omega
   cases h00 : ((s.extract 1 3).toList == [48, 48]) with
   | true =>
    have hz : escR s.data.toList = (0, 0) := by
     rw [hex1] at h00
     have h4 : [s[1], s[2]] = [48, 48] := eq_of_beq h00
     injection h4 with h5 h6
     injection h6 with h6 _
     rw [hE, h5, h6]; rfl
    have HE := Lib.hid hz; clear hz hE hex1 eA eB
    go_enter Tryz.func98, Tryz.ntmps98
    go_wp2_with (go_at_call 130; refine (hex_any _ _).mono ?_; rintro e w' ⟨rfl, rfl⟩)
    go_ret2
    exact ⟨ret_val (by rw [HE.out]; rfl), dn0 _⟩
   | false =>
    have hz : escR s.data.toList = (UInt8.ofNat (16 * hexN s[1] + hexN s[2]), 3) := by
     rw [hE, if_neg]
     intro e
     have e1 : (16 * hexN s[1] + hexN s[2]) % 256 = 0 := by
      have := congrArg UInt8.toNat e
      simpa using this
     have e2 : hexN s[1] = 0 := by omega
     have e3 : hexN s[2] = 0 := by omega
     rw [e2] at eA; rw [e3] at eB
     rw [hex1, (hex48 _).1 eA, (hex48 _).1 eB] at h00
     simp at h00
    have hbyte : (16 * (hexN s[1] : Int) + (hexN s[2] : Int)) = ((UInt8.ofNat (16 * hexN s[1] + hexN s[2])).toNat : Int) := by
     simp [UInt8.toNat_ofNat']; omega
    have HBy := Lib.hid hbyte; clear hbyte
    have HE := Lib.hid hz; clear hz hE hex1 eA eB
    go_enter Tryz.func98, Tryz.ntmps98
    go_wp2_with (go_at_call 130; refine (hex_any _ _).mono ?_; rintro e w' ⟨rfl, rfl⟩)
    go_quiet ((go_at_call 130; exact quiet_same (hex_any _ _)))
    go_wp2
    go_ret2
    refine ⟨ret_val ?_, dn _ _⟩
    rw [HE.out, ← HBy.out]
    rfl
  ·rw [eA, hexN_big hB] at hE
   simp only at hE
   have hB' : ¬ (hexN s[2] : Int) < 16 := by omega
   have HE := Lib.hid hE; clear hE hex1 eA
   go_enter Tryz.func98, Tryz.ntmps98
   go_wp2_with (go_at_call 130; refine (hex_any _ _).mono ?_; rintro e w' ⟨rfl, rfl⟩)
   go_ret2
   exact ⟨ret_val (by rw [HE.out]; rfl), dn0 _⟩
 ·rw [hexN_big hA] at hE
  simp only at hE
  have hA' : ¬ (hexN s[1] : Int) < 16 := by omega
  have HE := Lib.hid hE; clear hE hex1
  go_enter Tryz.func98, Tryz.ntmps98
  go_wp2_with (go_at_call 130; refine (hex_any _ _).mono ?_; rintro e w' ⟨rfl, rfl⟩)
  go_ret2
  exact ⟨ret_val (by rw [HE.out]; rfl), dn0 _⟩
set_option maxHeartbeats 2000000 in
set_option maxRecDepth 100000 in
theorem escapeR_any (s : ByteArray) (w : World) (h63 : s.size ≤ 9223372036854775807) :
  Calls Tryz.prog 98 #[.string s] w fun e w' => e = .returned (.tuple #[.int .u8 (escR s.data.toList).1.toNat, .int .i64 ((escR s.data.toList).2 : Nat)]) ∧ ∃ n, w' = w.drewN n := by
 by_cases h0 : s.size = 0
 ·have := str_nil h0
  subst this
  clear h0
  go_enter Tryz.func98, Tryz.ntmps98
  go_wp2
  go_ret2
  exact ⟨rfl, dn0 _⟩
 ·obtain ⟨n1, n2, n3, n4⟩ := str_ne h0
  have hsp : s.data.toList = s[0] :: s.data.toList.drop 1 := drop_cons s 0 n3
  by_cases hx : s[0] = 120
  ·by_cases h3 : 3 ≤ s.size
   ·exact escapeR_x s w h63 h3 hx
   ·have hE : escR s.data.toList = (0, 0) := by
     have hl : (s.data.toList.drop 1).length < 2 := by simp; omega
     rw [hsp, hx]
     unfold escR
     match hd : s.data.toList.drop 1, hl with
     | [], _ => rfl
     | [a], _ => rfl
     | a :: b :: r, h => exact absurd h (by simp)
    have h3' : ¬ (3 : Int) ≤ (s.size : Int) := by omega
    have c0 : ((s[0].toNat : Int) == 92) = false ∧ ((s[0].toNat : Int) == 34) = false ∧ ((s[0].toNat : Int) == 39) = false ∧ ((s[0].toNat : Int) == 110) = false ∧ ((s[0].toNat : Int) == 116) = false ∧ ((s[0].toNat : Int) == 115) = false ∧ ((s[0].toNat : Int) == 120) = true := by
     rw [hx]; decide
    obtain ⟨c1, c2, c3, c4, c5, c6, c7⟩ := c0
    have HE := Lib.hid hE; clear hE hx hsp
    go_enter Tryz.func98, Tryz.ntmps98
    go_wp2_with fail
    go_ret2
    exact ⟨ret_val (by rw [HE.out]; rfl), dn0 _⟩
  ·have c7 : ((s[0].toNat : Int) == 120) = false := by
    rw [show (120 : Int) = ((120 : UInt8).toNat : Int) from rfl, ← beq_u8]; simpa using hx
   have hE : escR s.data.toList = (if ((s[0].toNat : Int) == 92 || (s[0].toNat : Int) == 34 || (s[0].toNat : Int) == 39) then (s[0], 1) else if (s[0].toNat : Int) == 110 then (10, 1) else if (s[0].toNat : Int) == 116 then (9, 1) else if (s[0].toNat : Int) == 115 then (32, 1) else (0, 0)) := by
    rw [hsp]
    unfold escR
    simp only [escOf, beq_u8]
    have e1 : ((s[0].toNat : Int) == ((120 : UInt8).toNat : Int)) = false := c7
    rw [e1]
    simp only [Bool.false_eq_true, if_false]
    have k92 : ((92 : UInt8).toNat : Int) = 92 := rfl
    have k34 : ((34 : UInt8).toNat : Int) = 34 := rfl
    have k39 : ((39 : UInt8).toNat : Int) = 39 := rfl
    have k110 : ((110 : UInt8).toNat : Int) = 110 := rfl
    have k116 : ((116 : UInt8).toNat : Int) = 116 := rfl
    have k115 : ((115 : UInt8).toNat : Int) = 115 := rfl
    rw [k92, k34, k39, k110, k116, k115]
    generalize ((s[0].toNat : Int) == 92 || (s[0].toNat : Int) == 34 || (s[0].toNat : Int) == 39) = b1
    generalize ((s[0].toNat : Int) == 110) = b2
    generalize ((s[0].toNat : Int) == 116) = b3
    generalize ((s[0].toNat : Int) == 115) = b4
    cases b1 <;> cases b2 <;> cases b3 <;> cases b4 <;> rfl
   have HE := Lib.hid hE; clear hE hx hsp
   go_enter Tryz.func98, Tryz.ntmps98
   go_wp2_with fail
   all_goals
    go_ret2
    refine ⟨ret_val ?_, dn0 _⟩
    rw [HE.out]
    simp [*]
theorem wrongB (c : UInt8) (r : Str) : (if c == 92 && (escOf r).isNone then 13 else 2 : Nat) = if ((c.toNat : Int) == 92) = true ∧ ((escR r).2 : Int) = 0 then 13 else 2 := by
 have h92 : (c == 92) = ((c.toNat : Int) == 92) := by rw [beq_u8]; rfl
 rw [h92]
 have he : ((escR r).2 : Int) = 0 ↔ (escOf r).isNone = true := by
  unfold escR
  cases h : escOf r with
  | none => simp
  | some x => obtain ⟨d, n⟩ := x; have := esc_le h; simp; omega
 by_cases h1 : ((c.toNat : Int) == 92) = true
 ·by_cases h2 : (escOf r).isNone = true
  ·rw [if_pos (by rw [h1, h2]; rfl), if_pos ⟨h1, he.2 h2⟩]
  ·rw [if_neg (by simp [h2]), if_neg (fun h => h2 (he.1 h.2))]
 ·rw [if_neg (by simp [h1]), if_neg (fun h => h1 h.1)]
def wrongC (c : UInt8) (r : Str) : Nat := if c == 92 && (escOf r).isNone then 13 else 2
set_option maxHeartbeats 1000000 in
theorem wrongAt_any (s : ByteArray) (w : World) (h63 : s.size ≤ 9223372036854775807) (h0 : 0 < s.size) :
  Calls Tryz.prog 97 #[.string s] w fun e w' => e = .returned (.int .i64 (wrongC s[0] (s.data.toList.drop 1) : Nat)) ∧ ∃ n, w' = w.drewN n := by
 have h1 : (1 : Int) ≤ (s.size : Int) := by omega
 have hx : (s.extract 1 s.size).data.toList = s.data.toList.drop 1 := Lib.extract_to_end s 1
 have hxs : (s.extract 1 s.size).size ≤ 9223372036854775807 := by simp; omega
 have HC := Lib.hid (escapeR_any (s.extract 1 s.size) w hxs)
 have hW : wrongC s[0] (s.data.toList.drop 1) = _ := wrongB s[0] (s.data.toList.drop 1)
 generalize s.data.toList.drop 1 = r at hx hW ⊢
 have HX := Lib.hid hx; clear hx
 have HW := Lib.hid hW; clear hW
 cases h92 : ((s[0].toNat : Int) == 92) with
 | true =>
  rw [h92] at HW
  cases h2 : (((escR r).2 : Int) == 0) with
  | true =>
   have HR := Lib.hid (HW.out.trans (if_pos ⟨rfl, by simpa using h2⟩))
   go_enter Tryz.func97, Tryz.ntmps97
   go_wp2_with fail
   refine HC.out.mono ?_
   rw [HX.out]
   rintro e w' ⟨rfl, n, rfl⟩
   go_wp2_with fail
   go_ret
   exact ⟨ret_int (by rw [HR.out]; rfl), dn _ _⟩
  | false =>
   have HR := Lib.hid (HW.out.trans (if_neg (fun h => by have := h.2; simp [this] at h2)))
   go_enter Tryz.func97, Tryz.ntmps97
   go_wp2_with fail
   refine HC.out.mono ?_
   rw [HX.out]
   rintro e w' ⟨rfl, n, rfl⟩
   go_wp2_with fail
   go_ret
   exact ⟨ret_int (by rw [HR.out]; rfl), dn _ _⟩
 | false =>
  rw [h92] at HW
  have HR := Lib.hid (HW.out.trans (if_neg (fun h => by cases h.1)))
  go_enter Tryz.func97, Tryz.ntmps97
  go_wp2_with fail
  refine HC.out.mono ?_
  rw [HX.out]
  rintro e w' ⟨rfl, n, rfl⟩
  go_wp2_with fail
  go_ret
  exact ⟨ret_int (by rw [HR.out]; rfl), dn _ _⟩
end Go.Proofs.YtdpnahojhmkemaaGreatDoor
