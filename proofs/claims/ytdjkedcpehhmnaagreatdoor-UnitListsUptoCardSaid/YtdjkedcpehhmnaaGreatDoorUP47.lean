import Derived.Deep.LoopGhost
import Derived.Test.YtdjkedcpehhmnaaGreatDoorUP4
import Derived.Test.YtdjkedcpehhmnaaGreatDoorUP9
import Derived.Test.YtdjkedcpehhmnaaGreatDoorUP11
namespace Go.Proofs.YtdjkedcpehhmnaaGreatDoor
set_option linter.unusedVariables false
set_option linter.unusedSimpArgs false
def fldB (p : UInt8 → Bool) : Str → Str → List Str
 | [], cur => if cur.isEmpty then [] else [cur]
 | c :: t, cur => if p c = true then (if cur.isEmpty then fldB p t [] else cur :: fldB p t []) else fldB p t (cur ++ [c])
theorem fldB_one (by_ : Str) (h : by_ = [32]) : ∀ (s cur : Str), fldB (fun c => by_.contains c) s cur = fldS s cur
 | [], cur => rfl
 | c :: t, cur => by
  have h1 := fldB_one by_ h t []
  have h2 := fldB_one by_ h t (cur ++ [c])
  unfold fldB fldS
  by_cases hc : c = 32
  ·subst hc
   rw [if_pos (by simp [h]), if_pos rfl, h1]
  ·rw [if_neg (by simp [h, hc]), if_neg hc, h2]
def putB (cur : Str) : List Str := if cur.isEmpty then [] else [cur]
theorem fldB_yes (p : UInt8 → Bool) (c : UInt8) (t cur : Str) (h : p c = true) : fldB p (c :: t) cur = putB cur ++ fldB p t [] := by
 rw [fldB, if_pos h]
 unfold putB
 split <;> simp
theorem fldB_no (p : UInt8 → Bool) (c : UInt8) (t cur : Str) (h : p c = false) : fldB p (c :: t) cur = fldB p t (cur ++ [c]) := by
 rw [fldB, if_neg (by simp [h])]
open Go Go.RowKit
set_option maxRecDepth 100000
theorem infoStrB : (Tryz.prog.info? 9).map (fun i => (i.zero, i.size, i.bytes)) = some (some (.string ⟨#[]⟩), 1, 16) := by kernel_rfl
def RowsOut (w : World) (rows : List Str) (e : Ending) (w' : World) : Prop :=
 Below w.heap.size w w' ∧ ∃ v, e = .returned v ∧ w'.ownsRow w.heap.size 9 1 v rows.length (strVals rows)
theorem snoc_arr (cur : Str) (s : ByteArray) (k : Nat) (h : k < s.size) : (⟨cur.toArray⟩ : ByteArray) ++ s.extract k (k + 1) = ⟨(cur ++ [s[k]]).toArray⟩ := by
 apply bytes_ext
 rw [ByteArray.data_append, Array.toList_append, Lib.extract_data, drop_cons s k h, show k + 1 - k = 1 by omega]
 simp
theorem cont_succ (b : ByteArray) (n : Nat) (h : n < b.size) (c : UInt8) : (b.data.toList.take (n + 1)).contains c = ((b.data.toList.take n).contains c || (c == b[n])) := by
 have h' : n < b.data.toList.length := by simpa using h
 rw [List.take_succ_eq_append_getElem h']
 have : b.data.toList[n] = b[n] := by simp; rfl
 rw [this]
 rw [Bool.eq_iff_iff]
 simp
theorem cat_ok (a b : ByteArray) (h : a.size + b.size < 4611686018427387904) : Op.stringOp .add a b = pure (.string (a ++ b)) := by
 have : ¬ ((a.size + b.size : Nat) : Int) > IntKind.i64.max := by simp [IntKind.max, IntKind.bits, IntKind.signed]; omega
 simp only [Op.stringOp, if_neg this]
set_option maxHeartbeats 2000000 in
theorem blanks1_any (s b : ByteArray) (w : World) (hs : s.size ≤ 1000000000) (hb : b.size ≤ 1000000) (rows : List Str) (hrows : fldB (fun c => b.data.toList.contains c) s.data.toList [] = rows) :
  Calls Tryz.prog 55 #[.string s, .string b] w fun e w' => RowsOut w rows e w' := by
 have HRows := h_ hrows; clear hrows
 obtain ⟨i0, hi, hz0, hz1, hz2⟩ := info_parts infoStrB
 go_enter Tryz.func55, Tryz.ntmps55
 go_wp2_with fail
 go_loopg [5, 6, 7] (s.size + 2) (fun f v wd i wr => ∃ (k : Nat) (done : List Str) (cur : Str), k ≤ s.size + 1 ∧ i = .int .i64 k ∧ wd = .string ⟨cur.toArray⟩ ∧ s.size + 1 - k < f ∧ done.length ≤ k ∧ cur.length ≤ k ∧ Hid (wr.ownsRow w.heap.size 9 1 v done.length (strVals done)) ∧
  Hid (k ≤ s.size → done ++ fldB (fun c => b.data.toList.contains c) (s.data.toList.drop k) cur = rows) ∧ Hid (k = s.size + 1 → done = rows) ∧ Hid (Below w.heap.size w wr))
 case atStart => exact ⟨0, [], [], by omega, rfl, rfl, by omega, by simp, by simp, World.ownsRow_nil _ _ _ _, fun _ => by rw [List.drop_zero]; exact HRows.out, fun h => by omega, Below.refl _ _⟩
 case round =>
  obtain ⟨k, done, cur, hk, rfl, rfl, hfu, hdl, hcl, Hown, Hq, Hn, HB⟩ := hrel
  obtain ⟨oa, cap, rfl⟩ := ownsRow_form Hown.out
  have hlen : s.data.toList.length = s.size := by simp
  by_cases hle : k ≤ s.size
  ·have hz : (k : Int) ≤ (s.size : Int) := by omega
   by_cases hlt : k < s.size
   ·have hne : ((k : Int) == (s.size : Int)) = false := by simp; omega
    have hltz : (k : Int) < (s.size : Int) := by omega
    obtain ⟨c, hc⟩ : ∃ c, c = s[k] := ⟨_, rfl⟩
    have hd : s.data.toList.drop k = c :: s.data.toList.drop (k + 1) := by rw [hc]; exact drop_cons s k hlt
    have HD := h_ (Hq.out hle)
    have HC := h_ hc
    clear Hq Hn hc
    rw [hd] at HD
    go_wp2_with fail
    go_loopg [8, 9] (b.size + 1) (fun f ap j wx => ∃ (n : Nat) (g : Bool) (m : Nat), n ≤ b.size ∧ j = .int .i64 n ∧ ap = .bool g ∧ b.size - n < f ∧ wx = wr.drewN m ∧ Hid (g = (b.data.toList.take n).contains c))
    case atStart => exact ⟨0, false, 0, by omega, rfl, rfl, by omega, rfl, rfl⟩
    case round =>
     obtain ⟨n, g, m, hn, rfl, rfl, hfu2, rfl, HG⟩ := hrel
     by_cases hln : n < b.size
     ·have hlnz : (n : Int) < (b.size : Int) := by omega
      have e1 : ((s[k].toNat : Int) == (b[n].toNat : Int)) = (c == b[n]) := by rw [HC.out, beq_u8]
      have HG2 := h_ (show (g || (c == b[n])) = (b.data.toList.take (n + 1)).contains c by rw [cont_succ b n hln, HG.out])
      clear HD HG hd
      cases g with
      | true =>
       go_wp2_with fail
       go_quiet (fail)
       go_wp2
       go_roundg (b.size - n)
       case measure => omega
       case rel => exact ⟨n + 1, true, _, by omega, by go_num, rfl, by omega, rfl, by simpa using HG2⟩
      | false =>
       cases hq : (c == b[n]) with
       | true =>
        rw [hq] at e1 HG2
        go_wp2_with fail
        go_quiet (fail)
        go_wp2
        go_roundg (b.size - n)
        case measure => omega
        case rel => exact ⟨n + 1, true, _, by omega, by go_num, rfl, by omega, rfl, by simpa using HG2⟩
       | false =>
        rw [hq] at e1 HG2
        go_wp2_with fail
        go_quiet (fail)
        go_wp2
        go_roundg (b.size - n)
        case measure => omega
        case rel => exact ⟨n + 1, false, _, by omega, by go_num, rfl, by omega, rfl, by simpa using HG2⟩
     ·have hlnz : ¬ ((n : Int) < (b.size : Int)) := by omega
      obtain rfl : n = b.size := by omega
      have HG2 := h_ (show g = b.data.toList.contains c by rw [HG.out, List.take_of_length_le (by simp)])
      have HB2 := h_ (HB.out.trans (show Below w.heap.size wr (wr.drewN m) from below_dn ⟨m, rfl⟩))
      have HO2 := h_ (show (wr.drewN m).ownsRow w.heap.size 9 1 (.slice oa done.length cap) done.length (strVals done) from Hown.out)
      clear HG HB Hown hd
      generalize wr.drewN m = w2 at *
      cases g with
      | false =>
       have HD2 := h_ (show done ++ fldB (fun c => b.data.toList.contains c) (s.data.toList.drop (k + 1)) (cur ++ [c]) = rows by rw [← HD.out, fldB_no _ _ _ _ HG2.out.symm])
       have HX := h_ (snoc_arr cur s k hlt)
       have hcat := cat_ok (⟨cur.toArray⟩ : ByteArray) (s.extract k (k + 1)) (by
        have : (⟨cur.toArray⟩ : ByteArray).size = cur.length := by simp [ByteArray.size]
        have h2 : (s.extract k (k + 1)).size ≤ s.size := by simp; omega
        omega)
       clear HD
       go_wp2_with fail
       go_roundg (s.size + 1 - (k + 1) + 1)
       case measure => omega
       case rel => exact ⟨k + 1, done, cur ++ [c], by omega, by go_num, by rw [HX.out, ← HC.out], by omega, by omega, by simp; omega, HO2, fun _ => HD2.out, fun h => by omega, HB2⟩
      | true =>
       have HD2 := h_ (show done ++ putB cur ++ fldB (fun c => b.data.toList.contains c) (s.data.toList.drop (k + 1)) [] = rows by rw [← HD.out, fldB_yes _ _ _ _ HG2.out.symm, List.append_assoc])
       clear HD
       cases cur with
       | nil =>
        have HR2 := h_ (show done ++ fldB (fun c => b.data.toList.contains c) (s.data.toList.drop (k + 1)) [] = rows from by have h := HD2.out; simpa [putB] using h)
        go_wp2_with fail
        go_roundg (s.size + 1 - (k + 1) + 1)
        case measure => omega
        case rel => exact ⟨k + 1, done, [], by omega, by go_num, rfl, by omega, by omega, by simp, HO2, fun _ => HR2.out, fun h => by omega, HB2⟩
       | cons a t =>
        have hsz : (⟨(a :: t).toArray⟩ : ByteArray).size ≠ 0 := by simp [ByteArray.size]
        obtain ⟨n1, n2, n3, n4⟩ := str_ne hsz
        have HR2 := h_ (show done ++ [a :: t] ++ fldB (fun c => b.data.toList.contains c) (s.data.toList.drop (k + 1)) [] = rows from by have h := HD2.out; simpa [putB] using h)
        have HXS := h_ (show (⟨(a :: t).toArray⟩ : ByteArray).data.toList = a :: t from rfl)
        generalize (⟨(a :: t).toArray⟩ : ByteArray) = X at *
        have hown0 := HO2.out
        have hsz2 := HB2.out.size
        go_wp2_with (at_builtin; refine wpList_append_own _ rfl _ _ 28 rfl w.heap.size 9 i0 (.string ⟨#[]⟩) 1 16 Tryz.underlying28 hi hz0 hz1 hz2 rfl (by decide) _ _ _ rfl (hown0.alloc _) ⟨w2.heap.size, 0, none⟩ 1 1 [.string X] rfl rfl (by exact cell_one_new _ _ _) (by simp [Value.oneCell']) (by unfold maxLen; omega) (by omega) (by simp; omega) ?_)
        intro v' w3 hown' hgrow hnil
        have HB3 := h_ ((HB2.out.alloc hsz2 _).grown hgrow (by simp; omega) (fun g hg => (hown0.lt g hg).1))
        have HO3 := h_ (show w3.ownsRow w.heap.size 9 1 v' (done ++ [a :: t]).length (strVals (done ++ [a :: t])) by
         rw [strVals_snoc, List.length_append, ← HXS.out]; exact hown')
        clear hgrow hnil hown' hown0 HO2 HB2
        go_wp2_with fail
        go_roundg (s.size + 1 - (k + 1) + 1)
        case measure => omega
        case rel => exact ⟨k + 1, done ++ [a :: t], [], by omega, by go_num, rfl, by omega, by simp; omega, by simp, HO3, fun _ => HR2.out, fun h => by omega, HB3⟩
   ·have hltz : ¬ ((k : Int) < (s.size : Int)) := by omega
    obtain rfl : k = s.size := by omega
    have HD2 := h_ (show done ++ putB cur = rows by
     have h := Hq.out (Nat.le_refl _)
     rw [List.drop_eq_nil_of_le (by simp)] at h
     exact h)
    have HO2 := h_ Hown.out
    have HB2 := h_ HB.out
    clear Hq Hn Hown HB hlt hle
    go_wp2_with fail
    go_loopg [8, 9] 2 (fun f ap j wx => ap = .bool true ∧ j = .int .i64 0 ∧ wx = wr ∧ 0 < f)
    case atStart => exact ⟨rfl, rfl, rfl, by omega⟩
    case round =>
     obtain ⟨rfl, rfl, rfl, hf0⟩ := hrel
     obtain ⟨wx, hwx⟩ : ∃ g1, g1 = wr := ⟨_, rfl⟩
     subst hwx
     by_cases hb0 : 0 < b.size
     ·have hb1 : (0 : Int) < (b.size : Int) := by omega
      cases cur with
      | nil =>
       have HR2 := h_ (show done = rows from by have h := HD2.out; simpa [putB] using h)
       go_wp2_with fail
       go_roundg 1
       case measure => omega
       case rel => exact ⟨s.size + 1, done, [], by omega, by go_num, rfl, by omega, by omega, by simp, HO2, fun h => by omega, fun _ => HR2.out, HB2⟩
      | cons a t =>
       have hsz : (⟨(a :: t).toArray⟩ : ByteArray).size ≠ 0 := by simp [ByteArray.size]
       obtain ⟨n1, n2, n3, n4⟩ := str_ne hsz
       have HR2 := h_ (show done ++ [a :: t] = rows from by have h := HD2.out; simpa [putB] using h)
       have HXS := h_ (show (⟨(a :: t).toArray⟩ : ByteArray).data.toList = a :: t from rfl)
       generalize (⟨(a :: t).toArray⟩ : ByteArray) = X at *
       have hown0 := HO2.out
       have hsz2 := HB2.out.size
       go_wp2_with (at_builtin; refine wpList_append_own _ rfl _ _ 28 rfl w.heap.size 9 i0 (.string ⟨#[]⟩) 1 16 Tryz.underlying28 hi hz0 hz1 hz2 rfl (by decide) _ _ _ rfl (hown0.alloc _) ⟨wx.heap.size, 0, none⟩ 1 1 [.string X] rfl rfl (by exact cell_one_new _ _ _) (by simp [Value.oneCell']) (by unfold maxLen; omega) (by omega) (by simp; omega) ?_)
       intro v' w3 hown' hgrow hnil
       have HB3 := h_ ((HB2.out.alloc hsz2 _).grown hgrow (by simp; omega) (fun g hg => (hown0.lt g hg).1))
       have HO3 := h_ (show w3.ownsRow w.heap.size 9 1 v' (done ++ [a :: t]).length (strVals (done ++ [a :: t])) by
        rw [strVals_snoc, List.length_append, ← HXS.out]; exact hown')
       clear hgrow hnil hown' hown0 HO2 HB2
       go_wp2_with fail
       go_roundg 1
       case measure => omega
       case rel => exact ⟨s.size + 1, done ++ [a :: t], [], by omega, by go_num, rfl, by omega, by simp; omega, by simp, HO3, fun h => by omega, fun _ => HR2.out, HB3⟩
     ·have hb1 : ¬ ((0 : Int) < (b.size : Int)) := by omega
      cases cur with
      | nil =>
       have HR2 := h_ (show done = rows from by have h := HD2.out; simpa [putB] using h)
       go_wp2_with fail
       go_roundg 1
       case measure => omega
       case rel => exact ⟨s.size + 1, done, [], by omega, by go_num, rfl, by omega, by omega, by simp, HO2, fun h => by omega, fun _ => HR2.out, HB2⟩
      | cons a t =>
       have hsz : (⟨(a :: t).toArray⟩ : ByteArray).size ≠ 0 := by simp [ByteArray.size]
       obtain ⟨n1, n2, n3, n4⟩ := str_ne hsz
       have HR2 := h_ (show done ++ [a :: t] = rows from by have h := HD2.out; simpa [putB] using h)
       have HXS := h_ (show (⟨(a :: t).toArray⟩ : ByteArray).data.toList = a :: t from rfl)
       generalize (⟨(a :: t).toArray⟩ : ByteArray) = X at *
       have hown0 := HO2.out
       have hsz2 := HB2.out.size
       go_wp2_with (at_builtin; refine wpList_append_own _ rfl _ _ 28 rfl w.heap.size 9 i0 (.string ⟨#[]⟩) 1 16 Tryz.underlying28 hi hz0 hz1 hz2 rfl (by decide) _ _ _ rfl (hown0.alloc _) ⟨wx.heap.size, 0, none⟩ 1 1 [.string X] rfl rfl (by exact cell_one_new _ _ _) (by simp [Value.oneCell']) (by unfold maxLen; omega) (by omega) (by simp; omega) ?_)
       intro v' w3 hown' hgrow hnil
       have HB3 := h_ ((HB2.out.alloc hsz2 _).grown hgrow (by simp; omega) (fun g hg => (hown0.lt g hg).1))
       have HO3 := h_ (show w3.ownsRow w.heap.size 9 1 v' (done ++ [a :: t]).length (strVals (done ++ [a :: t])) by
        rw [strVals_snoc, List.length_append, ← HXS.out]; exact hown')
       clear hgrow hnil hown' hown0 HO2 HB2
       go_wp2_with fail
       go_roundg 1
       case measure => omega
       case rel => exact ⟨s.size + 1, done ++ [a :: t], [], by omega, by go_num, rfl, by omega, by simp; omega, by simp, HO3, fun h => by omega, fun _ => HR2.out, HB3⟩
  ·have hz : ¬ ((k : Int) ≤ (s.size : Int)) := by omega
   have HR := h_ (Hn.out (by omega))
   clear Hq Hn
   go_wp2_with fail
   go_ret
   exact ⟨HB.out, _, rfl, by rw [← HR.out]; exact Hown.out⟩
end Go.Proofs.YtdjkedcpehhmnaaGreatDoor
