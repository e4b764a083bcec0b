import Derived.Test.YtdjkedcpehhmnaaGreatDoorProg
import Derived.Deep.QuietTactic
import Derived.BigQuiet
import Derived.BigRegion
import Derived.Lib.Hide
import Derived.Shelf.Abstract
import Derived.Deep.LoopGhost
import Derived.Test.YtdjkedcpehhmnaaGreatDoorUS1
import Derived.Test.YtdjkedcpehhmnaaGreatDoorUS3
namespace Go.Proofs.YtdjkedcpehhmnaaGreatDoor
open Go Go.RowKit
set_option linter.unusedVariables false
theorem u8_cast (c : UInt8) : ((c.toNat : Int).toNat.toUInt8) = c := by simp
theorem isBlank_iff (c : UInt8) : isBlank c = decide ((c.toNat : Int) = 32 ∨ (c.toNat : Int) = 9) := by
 rw [Bool.eq_iff_iff]; simp [isBlank, ← UInt8.toNat_inj]; omega
theorem isBad_iff (c : UInt8) : isBad c = decide (((c.toNat : Int) < 32 ∧ (c.toNat : Int) ≠ 9) ∨ (c.toNat : Int) = 127) := by
 rw [Bool.eq_iff_iff]; simp [isBad, ← UInt8.toNat_inj, UInt8.lt_iff_toNat_lt]; omega
theorem bytes_ext {a b : ByteArray} (h : a.data.toList = b.data.toList) : a = b := by
 obtain ⟨⟨a⟩⟩ := a
 obtain ⟨⟨b⟩⟩ := b
 simp at h
 rw [h]
theorem take_snoc (l : List UInt8) (k : Nat) (h : k < l.length) : l.take (k + 1) = l.take k ++ [l[k]] := by
 rw [List.take_succ_eq_append_getElem h]
set_option maxHeartbeats 1000000 in
theorem all_any (s : ByteArray) (f : FuncId) (fr cap : Array Value) (p : UInt8 → Bool) (w : World) (h63 : s.size ≤ 9223372036854775807)
  (HE : ∀ args w, (callFunc f args).run Tryz.prog w = .ok (.enter f args) w)
  (H : ∀ c : UInt8, Calls Tryz.prog f (fr.push (.int .u8 c.toNat) ++ cap) w fun e w' => e = .returned (.bool (p c)) ∧ w = w') :
  Calls Tryz.prog 119 #[.string s, .func (.func f) fr cap] w fun e w' => e = .returned (.bool (s.data.toList.all p)) ∧ w = w' := by
 have HH := h_ H; clear H
 go_enter Tryz.func119, Tryz.ntmps119
 go_wp2
 go_loop [5, 8] (fun _ i => ∃ k : Nat, k ≤ s.size ∧ i = .int .i64 k ∧ Hid ((s.data.toList.take k).all p = true)) (fun _ i => s.size - (intOf i).toNat)
 case atStart => exact ⟨0, Nat.zero_le _, rfl, by simp [Hid]⟩
 case round =>
  obtain ⟨k, hk, rfl, hall⟩ := hrel
  by_cases hlt : k < s.size
  ·have hsn := take_snoc s.data.toList k (by simpa using hlt)
   have hgk : s.data.toList[k]'(by simpa using hlt) = s[k] := rfl
   rw [hgk] at hsn
   cases hp : p s[k] with
   | true =>
    have HT := h_ (show (s.data.toList.take (k + 1)).all p = true by rw [hsn, List.all_append, hall.out]; simp [hp])
    have HP := h_ hp
    clear hsn hgk hp
    go_wp2_with (refine (HH.out s[k]).mono ?_; rintro e w' ⟨rfl, rfl⟩; rw [HP.out])
    go_round
    case rel => exact ⟨k + 1, by omega, by go_num, HT⟩
    case measure => simp [intOf]; omega
   | false =>
    have HT := h_ (show s.data.toList.all p = false by
     rw [List.all_eq_false]
     exact ⟨s[k], by rw [← hgk]; exact List.getElem_mem _, by simp [hp]⟩)
    have HP := h_ hp
    clear hsn hgk hp
    go_wp2_with (refine (HH.out s[k]).mono ?_; rintro e w' ⟨rfl, rfl⟩; rw [HP.out])
    go_ret
    exact ⟨ret_bool HT.out.symm, rfl⟩
  ·go_wp2
   go_ret
   have : k = s.size := by omega
   subst this
   have := hall.out
   rw [List.take_of_length_le (by simp)] at this
   refine ⟨ret_bool ?_, rfl⟩
   exact this.symm.trans (Array.all_toList )
set_option maxRecDepth 100000
theorem isLetter_iff (c : UInt8) : isLetter c = decide ((97 ≤ (c.toNat : Int) ∧ (c.toNat : Int) ≤ 122) ∨ (65 ≤ (c.toNat : Int) ∧ (c.toNat : Int) ≤ 90)) := by
 rw [Bool.eq_iff_iff]; simp [isLetter, UInt8.le_iff_toNat_le]; omega
theorem isDigit_iff (c : UInt8) : isDigit c = decide (48 ≤ (c.toNat : Int) ∧ (c.toNat : Int) ≤ 57) := by
 rw [Bool.eq_iff_iff]; simp [isDigit, UInt8.le_iff_toNat_le]; omega
set_option maxHeartbeats 400000 in
theorem letter_any (c : UInt8) (w : World) :
  Calls Tryz.prog 121 #[.int .u8 c.toNat] w fun e w' => e = .returned (.bool (isLetter c)) ∧ w = w' := by
 go_enter Tryz.func121, Tryz.ntmps121
 go_wp2
 all_goals
  go_ret
  refine ⟨ret_bool ?_, rfl⟩
  rw [isLetter_iff, Bool.eq_iff_iff]
  simp
  omega
set_option maxHeartbeats 400000 in
theorem digit_any (c : UInt8) (w : World) :
  Calls Tryz.prog 122 #[.int .u8 c.toNat] w fun e w' => e = .returned (.bool (isDigit c)) ∧ w = w' := by
 go_enter Tryz.func122, Tryz.ntmps122
 go_wp2
 all_goals
  go_ret
  refine ⟨ret_bool ?_, rfl⟩
  rw [isDigit_iff, Bool.eq_iff_iff]
  simp
  omega
theorem enters_letter (args : Array Value) (w : World) : (callFunc 121 args).run Tryz.prog w = .ok (.enter 121 args) w := enters_of Tryz.func121 (by kernel_rfl) rfl args w
theorem enters_digit (args : Array Value) (w : World) : (callFunc 122 args).run Tryz.prog w = .ok (.enter 122 args) w := enters_of Tryz.func122 (by kernel_rfl) rfl args w
theorem enters_any1 (args : Array Value) (w : World) : (callFunc 160 args).run Tryz.prog w = .ok (.enter 160 args) w := enters_of Tryz.func160 (by kernel_rfl) rfl args w
theorem all_b (s : ByteArray) (f : FuncId) (fr cap : Array Value) (p : UInt8 → Bool) (b : Bool) (w : World) (h63 : s.size ≤ 9223372036854775807)
  (HE : ∀ args w, (callFunc f args).run Tryz.prog w = .ok (.enter f args) w)
  (H : ∀ c : UInt8, Calls Tryz.prog f (fr.push (.int .u8 c.toNat) ++ cap) w fun e w' => e = .returned (.bool (p c)) ∧ w = w') (hb : s.data.toList.all p = b) :
  Calls Tryz.prog 119 #[.string s, .func (.func f) fr cap] w fun e w' => e = .returned (.bool b) ∧ w = w' := by
 refine (all_any s f fr cap p w h63 HE H).mono ?_
 rintro e w' ⟨rfl, rfl⟩
 exact ⟨by rw [hb], rfl⟩
def Asks (w : World) (v : Value) (p : UInt8 → Bool) : Prop :=
 ∃ f fr cap, v = .func (.func f) fr cap ∧ (∀ args w, (callFunc f args).run Tryz.prog w = .ok (.enter f args) w) ∧
  ∀ c : UInt8, Calls Tryz.prog f (fr.push (.int .u8 c.toNat) ++ cap) w fun e w' => e = .returned (.bool (p c)) ∧ w = w'
set_option maxHeartbeats 1000000 in
theorem any1_any (c : UInt8) (bl bs : Nat) (cap : Nat) (ps : List (UInt8 → Bool)) (w : World) (hl : w.cell? ⟨bl, 0, none⟩ = some (.slice (some ⟨bs, 0, none⟩) ps.length cap)) (hn : ps.length ≤ 1000)
  (hc : ∀ i (h : i < ps.length), ∃ v, w.cell? ⟨bs, i, none⟩ = some v ∧ Asks w v ps[i]) :
  Calls Tryz.prog 160 #[.int .u8 c.toNat, .pointer (some ⟨bl, 0, none⟩)] w fun e w' => e = .returned (.bool (ps.any fun p => p c)) ∧ w = w' := by
 have HC := h_ hc; clear hc
 go_enter Tryz.func160, Tryz.ntmps160
 go_wp2
 go_loop [5, 8] (fun _ i => ∃ k : Nat, k ≤ ps.length ∧ i = .int .i64 k ∧ Hid ((ps.take k).any (fun p => p c) = false)) (fun _ i => ps.length - (intOf i).toNat)
 case atStart => exact ⟨0, Nat.zero_le _, rfl, rfl⟩
 case round =>
  obtain ⟨k, hk, rfl, hall⟩ := hrel
  by_cases hlt : k < ps.length
  ·obtain ⟨v, hv, f, fr, cp, rfl, hE, hA⟩ := HC.out k hlt
   have HA := h_ (hA c); clear hA
   cases hp : ps[k] c with
   | true =>
    have HT := h_ (show ps.any (fun p => p c) = true by rw [List.any_eq_true]; exact ⟨ps[k], List.getElem_mem _, hp⟩)
    have HP := h_ hp; clear hp
    go_wp2_with (refine HA.out.mono ?_; rintro e w' ⟨rfl, rfl⟩; rw [HP.out])
    go_ret
    exact ⟨ret_bool HT.out.symm, rfl⟩
   | false =>
    have HT := h_ (show (ps.take (k + 1)).any (fun p => p c) = false by rw [List.take_succ_eq_append_getElem hlt, List.any_append, hall.out]; simp [hp])
    have HP := h_ hp; clear hp
    go_wp2_with (refine HA.out.mono ?_; rintro e w' ⟨rfl, rfl⟩; rw [HP.out])
    go_round
    case rel => exact ⟨k + 1, by omega, by go_num, HT⟩
    case measure => simp [intOf]; omega
  ·go_wp2
   go_ret
   have : k = ps.length := by omega
   subst this
   have := hall.out
   rw [List.take_length] at this
   exact ⟨ret_bool this.symm, rfl⟩
set_option maxHeartbeats 400000 in
theorem any_any (oa : Option Addr) (n cap : Nat) (w : World) :
  Calls Tryz.prog 120 #[.slice oa n cap] w fun e w' => e = .returned (.func (.func 160) #[] #[.pointer (some ⟨w.heap.size, 0, none⟩)]) ∧ w' = w.alloc (.cells #[.slice oa n cap] 179) := by
 go_enter Tryz.func120, Tryz.ntmps120
 go_wp2
 go_ret
 exact ⟨rfl, rfl⟩
set_option maxHeartbeats 400000 in
theorem bad_any (c : UInt8) (w : World) :
  Calls Tryz.prog 240 #[.int .u8 c.toNat] w fun e w' => e = .returned (.bool (isBad c)) ∧ w = w' := by
 go_enter Tryz.func240, Tryz.ntmps240
 go_wp2
 all_goals
  go_ret
  refine ⟨ret_bool ?_, rfl⟩
  rw [isBad_iff, Bool.eq_iff_iff]
  simp
  omega
def sameB (l m : List Str) : Bool := l == m
set_option maxHeartbeats 1000000 in
theorem same_any (oa ob : Option Addr) (ca cb : Nat) (l m : List Str) (w : World) (hl : StrRow w oa l) (hm : StrRow w ob m) (hll : l.length ≤ maxLen) (hml : m.length ≤ maxLen) :
  Calls Tryz.prog 27 #[.slice oa l.length ca, .slice ob m.length cb] w fun e w' => e = .returned (.bool (sameB l m)) ∧ ∃ n, w' = w.drewN n := by
 unfold maxLen at hll hml
 by_cases hlen : l.length = m.length
 ·have hne : ((l.length : Int) != (m.length : Int)) = false := by simp [hlen]
  have Hlen := h_ hlen; clear hlen
  go_enter Tryz.func27, Tryz.ntmps27
  have HL := h_ hl; clear hl
  have HM := h_ hm; clear hm
  go_wp2_with fail
  go_loopg [13] (l.length + 1) (fun f i wr => ∃ k : Nat, k ≤ l.length ∧ i = .int .i64 k ∧ l.length - k < f ∧ Hid (l.take k = m.take k) ∧ ∃ n, wr = w.drewN n)
  case atStart => exact ⟨0, by omega, rfl, by omega, rfl, 0, rfl⟩
  case round =>
   obtain ⟨k, hk, rfl, hfu, Hq, n, rfl⟩ := hrel
   by_cases hlt : k < l.length
   ·have hlt2 : k < m.length := by have := Hlen.out; omega
    obtain ⟨b1, o1, rfl, hc1⟩ := HL.out k hlt
    obtain ⟨b2, o2, rfl, hc2⟩ := HM.out k hlt2
    cases hb : (l[k] == m[k]) with
    | true =>
     have HT := h_ (show l.take (k + 1) = m.take (k + 1) by
      rw [List.take_succ_eq_append_getElem hlt, List.take_succ_eq_append_getElem hlt2, Hq.out, eq_of_beq hb])
     go_wp2_with fail
     go_quiet (fail)
     go_wp2
     go_roundg (l.length - k)
     case measure => omega
     case rel => exact ⟨k + 1, by omega, by go_num, by omega, HT, (by first | exact dn0 _ | exact dn_trans (dn _ _) | exact dn _ _)⟩
    | false =>
     have HR := h_ (show sameB l m = false by
      unfold sameB; rw [beq_eq_false_iff_ne]; intro e; subst e; simp at hb)
     go_wp2_with fail
     go_quiet (fail)
     go_wp2
     go_ret
     exact ⟨ret_bool HR.out.symm, (by first | exact dn0 _ | exact dn_trans (dn _ _) | exact dn _ _)⟩
   ·have HR := h_ (show sameB l m = true by
     have h1 := Hq.out
     rw [List.take_of_length_le (by omega), List.take_of_length_le (by have := Hlen.out; omega)] at h1
     unfold sameB; rw [h1]; simp)
    go_wp2
    go_ret
    exact ⟨ret_bool HR.out.symm, dn _ _⟩
 ·have hne : ((l.length : Int) != (m.length : Int)) = true := by simp; omega
  have HR := h_ (show sameB l m = false by
   unfold sameB; rw [beq_eq_false_iff_ne]; intro e; exact hlen (by rw [e]))
  go_enter Tryz.func27, Tryz.ntmps27
  go_wp2_with fail
  go_ret
  exact ⟨ret_bool HR.out.symm, dn0 _⟩
end Go.Proofs.YtdjkedcpehhmnaaGreatDoor
