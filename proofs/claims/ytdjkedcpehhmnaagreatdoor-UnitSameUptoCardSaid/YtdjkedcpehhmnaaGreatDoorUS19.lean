import Derived.Deep.LoopGhost
import Derived.Test.YtdjkedcpehhmnaaGreatDoorUS2
import Derived.Test.YtdjkedcpehhmnaaGreatDoorUS3
import Derived.Test.YtdjkedcpehhmnaaGreatDoorUS6
import Derived.Test.YtdjkedcpehhmnaaGreatDoorUS9
namespace Go.Proofs.YtdjkedcpehhmnaaGreatDoor
open Go Go.RowKit
set_option linter.unusedVariables false
set_option linter.unusedSimpArgs false
set_option maxRecDepth 100000
theorem words1_any (x : Nat) (w : World) : Calls Tryz.prog 179 #[.int .i32 (x : Int)] w fun e w' => e = .returned (.bool (isB x)) ∧ w' = w := by
 go_enter Tryz.func179, Tryz.ntmps179
 go_wp2
 go_ret
 refine ⟨ret_bool ?_, rfl⟩
 unfold isB
 rw [Bool.eq_iff_iff]
 simp
 omega
theorem enters_words1 : ∀ args w, (callFunc 179 args).run Tryz.prog w = .ok (.enter 179 args) w := enters_of Tryz.func179 (by kernel_rfl) rfl
def StrAt (w : World) (b off : Nat) (l : List Str) : Prop := ∀ j (h : j < l.length), w.cell? ⟨b, off + j, none⟩ = some (.string ⟨l[j].toArray⟩)
theorem StrAt.below {w W : World} {b off : Nat} {l : List Str} (h : StrAt w b off l) (hb : b < w.heap.size) (hB : Below w.heap.size w W) : StrAt W b off l :=
 fun j hj => by rw [hB.cell (p := ⟨b, off + j, none⟩) hb]; exact h j hj
theorem charsWords_any (s : ByteArray) (w : World) (hs : s.size ≤ 4294967296) :
  Calls Tryz.prog 136 #[.string s] w fun e w' => ∃ A, e = .returned (.slice (some ⟨A, 0, none⟩) (blanksS s.data.toList).length (blanksS s.data.toList).length) ∧ w.heap.size ≤ A ∧ A < w'.heap.size ∧
   StrAt w' A 0 (blanksS s.data.toList) ∧ Below w.heap.size w w' := by
 have H := h_ (Tryz.strings_FieldsFunc 179 #[] enters_words1 isB s w hs (fun W x hb => (words1_any x W).mono fun e w' ⟨a, q⟩ => ⟨a, 0, by rw [q]; rfl⟩))
 go_enter Tryz.func136, Tryz.ntmps136
 go_wp2_with fail
 refine H.out.mono ?_
 rintro e w1 ⟨A, rfl, hA, hown, hb⟩
 have hfb := fields_blanks s
 generalize Lib.goFieldsP isB s = G at hown hfb ⊢
 have hlen : G.length = (blanksS s.data.toList).length := by rw [← hfb]; simp
 have HO := h_ hown; have HB := h_ hb; have HF := h_ hfb
 clear hown hb hfb H
 go_wp2_with fail
 go_ret
 refine ⟨A, rfl, hA, (HO.out.lt A rfl).2, fun j hj => ?_, HB.out⟩
 have hj' : j < G.length := by omega
 have := HO.out.cellAt j (by simpa using hj')
 rw [Nat.zero_add] at *
 rw [this]
 simp only [List.getElem?_map]
 rw [List.getElem?_eq_getElem hj']
 have h2 : (blanksS s.data.toList)[j] = G[j].data.toList := by
  have := HF.out
  simp only [← this, List.getElem_map]
 rw [h2]
 rfl
set_option maxHeartbeats 2000000 in
theorem indexW_any (g : FuncId) (lb : Array Value) (eg : ∀ args w, (callFunc g args).run Tryz.prog w = .ok (.enter g args) w) (p : Str → Bool) (b off cap : Nat) (l : List Str) (w : World) (hb : b < w.heap.size) (hbig : l.length ≤ 4294967296)
  (hp : ∀ (W : World) j (h : j < l.length), Below w.heap.size w W → Calls Tryz.prog g (#[.string ⟨l[j].toArray⟩] ++ lb) W fun e w' => e = .returned (.bool (p l[j])) ∧ Below w.heap.size w w') (hc : StrAt w b off l) :
  Calls Tryz.prog 224 #[.slice (some ⟨b, off, none⟩) l.length cap, .func (.func g) #[] lb] w fun e w' => e = .returned (.int .i64 (Lib.idxBy (fun _ y => p y) l [])) ∧ Below w.heap.size w w' := by
 have HP := h_ hp; have HC := h_ hc
 clear hp hc
 go_enter Tryz.func224, Tryz.ntmps224
 go_wp2
 go_loopg [5, 8] l.length (fun gg _ s8 wr => ∃ kk : Nat, kk ≤ l.length ∧ l.length - kk ≤ gg ∧ s8 = .int .i64 kk ∧ Hid (Below w.heap.size w wr) ∧ Hid (∀ j, j < kk → p l[j]! = false))
 case atStart => exact ⟨0, Nat.zero_le _, by omega, rfl, Below.refl _ w, fun j hj => absurd hj (Nat.not_lt_zero _)⟩
 case round =>
  obtain ⟨kk, hkk, hg, rfl, BW, A⟩ := hrel
  by_cases hlt : kk < l.length
  ·have hltz : (kk : Int) < (l.length : Int) := by omega
   have l2 := HC.out.below hb BW.out kk hlt
   have hcall := HP.out wr kk hlt BW.out
   have B := h_ (show l[kk]! = l[kk] from getElem!_pos l kk hlt)
   generalize l[kk] = y at l2 hcall B
   cases hq : p y with
   | true =>
    rw [hq] at hcall
    have HQ := h_ hq; clear hq
    have HCL := h_ hcall; clear hcall
    go_wp2_with (go_at_fn g; refine HCL.out.mono ?_; rintro e w' ⟨rfl, hb'⟩)
    go_ret
    refine ⟨?_, hb'⟩
    have := Lib.idxBy_hit (fun _ y => p y) l l.length kk [] hlt (Nat.le_refl _) (by show p l[kk]! = true; rw [B.out]; exact HQ.out) A.out
    rw [List.take_length] at this
    rw [this]
    rfl
   | false =>
    rw [hq] at hcall
    have HQ := h_ hq; clear hq
    have HCL := h_ hcall; clear hcall
    go_wp2_with (go_at_fn g; refine HCL.out.mono ?_; rintro e w' ⟨rfl, hb'⟩)
    go_roundg (l.length - (kk + 1))
    case measure => omega
    case rel =>
     refine ⟨kk + 1, by omega, by omega, by go_num, hb', (show Hid _ from fun j hj => ?_)⟩
     by_cases e : j = kk
     ·subst e
      rw [B.out]; exact HQ.out
     ·exact A.out j (by omega)
  ·have hltz : ¬ (kk : Int) < (l.length : Int) := by omega
   have hkl : kk = l.length := by omega
   subst hkl
   go_wp2
   go_ret
   refine ⟨?_, BW.out⟩
   have := Lib.idxBy_miss (fun _ y => p y) l l.length [] A.out
   rw [List.take_length] at this
   rw [this]
   rfl
theorem containsW_any (g : FuncId) (lb : Array Value) (eg : ∀ args w, (callFunc g args).run Tryz.prog w = .ok (.enter g args) w) (p : Str → Bool) (b off cap : Nat) (l : List Str) (w : World) (hb : b < w.heap.size) (hbig : l.length ≤ 4294967296)
  (hp : ∀ (W : World) j (h : j < l.length), Below w.heap.size w W → Calls Tryz.prog g (#[.string ⟨l[j].toArray⟩] ++ lb) W fun e w' => e = .returned (.bool (p l[j])) ∧ Below w.heap.size w w') (hc : StrAt w b off l) :
  Calls Tryz.prog 193 #[.slice (some ⟨b, off, none⟩) l.length cap, .func (.func g) #[] lb] w fun e w' => e = .returned (.bool (l.any p)) ∧ Below w.heap.size w w' := by
 have h0 : l.any p = decide (0 ≤ Lib.idxBy (fun _ y => p y) l []) := by
  have := (Lib.idxBy_nonneg_iff (fun _ y => p y) l []).symm
  exact this
 rw [h0]
 have H := h_ (indexW_any g lb eg p b off cap l w hb hbig hp hc)
 clear hp hc h0
 generalize Lib.idxBy (fun _ y => p y) l [] = r at *
 go_enter Tryz.func193, Tryz.ntmps193
 go_wp2_with fail
 refine H.out.mono ?_
 rintro e w1 ⟨rfl, hb1⟩
 have HB := h_ hb1; clear hb1
 go_wp2_with fail
 go_ret
 exact ⟨rfl, HB.out⟩
theorem each1_any (s : ByteArray) (u : FuncId) (bx : Nat) (B : Nat) (w0 W : World) (b : Bool) (hbx : W.cell? ⟨bx, 0, none⟩ = some (.func (.func u) #[] #[])) (eu : ∀ args w, (callFunc u args).run Tryz.prog w = .ok (.enter u args) w)
  (hu : Calls Tryz.prog u #[.string s] W fun e w' => e = .returned (.bool b) ∧ Below B w0 w') :
  Calls Tryz.prog 194 #[.string s, .pointer (some ⟨bx, 0, none⟩)] W fun e w' => e = .returned (.bool (!b)) ∧ Below B w0 w' := by
 have H := h_ hu; clear hu
 go_enter Tryz.func194, Tryz.ntmps194
 go_wp2_with (go_at_fn u; refine H.out.mono ?_; rintro e w' ⟨rfl, hb'⟩)
 go_ret
 exact ⟨rfl, hb'⟩
theorem enters_each1 : ∀ args w, (callFunc 194 args).run Tryz.prog w = .ok (.enter 194 args) w := enters_of Tryz.func194 (by kernel_rfl) rfl
def eachB (p : Str → Bool) (l : List Str) : Bool := !l.isEmpty && l.all p
set_option maxHeartbeats 1000000 in
theorem each_any (u : FuncId) (eu : ∀ args w, (callFunc u args).run Tryz.prog w = .ok (.enter u args) w) (p : Str → Bool) (b off cap : Nat) (l : List Str) (w : World) (hb : b < w.heap.size) (hbig : l.length ≤ 4294967296) (hm : MaxAt w)
  (hp : ∀ (W : World) j (h : j < l.length), MaxAt W → Calls Tryz.prog u #[.string ⟨l[j].toArray⟩] W fun e w' => e = .returned (.bool (p l[j])) ∧ Below W.heap.size W w') (hc : StrAt w b off l) (r : Bool) (hr : eachB p l = r) :
  Calls Tryz.prog 166 #[.slice (some ⟨b, off, none⟩) l.length cap, .func (.func u) #[] #[]] w fun e w' => e = .returned (.bool r) ∧ Below w.heap.size w w' := by
 unfold eachB at hr
 have ha : ∀ w0 : World, w0 = w.alloc (.cells #[.func (.func u) #[] #[]] 60) → Calls Tryz.prog 193 #[.slice (some ⟨b, off, none⟩) l.length cap, .func (.func 194) #[] #[.pointer (some ⟨w.heap.size, 0, none⟩)]] w0 fun e w' => e = .returned (.bool (l.any fun x => !p x)) ∧ Below w0.heap.size w0 w' := by
  rintro w0 rfl
  have hB0 : Below w.heap.size w (w.alloc (.cells #[.func (.func u) #[] #[]] 60)) := (Below.refl _ _).alloc (Nat.le_refl _) _
  have hsz : (w.alloc (.cells #[.func (.func u) #[] #[]] 60)).heap.size = w.heap.size + 1 := by simp
  have hcell : (w.alloc (.cells #[.func (.func u) #[] #[]] 60)).cell? ⟨w.heap.size, 0, none⟩ = some (.func (.func u) #[] #[]) := by simp
  generalize w.alloc (.cells #[.func (.func u) #[] #[]] 60) = w0 at *
  refine containsW_any 194 _ enters_each1 (fun x => !p x) b off cap l w0 (by omega) hbig (fun W j hj hW => ?_) (hc.below hb hB0)
  exact each1_any _ u _ _ _ W (p l[j]) (by rw [hW.cell (p := ⟨w.heap.size, 0, none⟩) (by show w.heap.size < _; omega)]; exact hcell) eu ((hp W j hj ((hm.below hB0).below hW)).mono fun e w' ⟨a, q⟩ => ⟨a, hW.trans (q.mono hW.size)⟩)
 have HA := h_ ha
 clear ha hp hc hm
 cases l with
 | nil =>
  have hr' : r = false := by rw [← hr]; rfl
  subst hr'
  clear hr
  go_enter Tryz.func166, Tryz.ntmps166
  go_wp2_with fail
  go_ret
  exact ⟨rfl, (Below.refl _ _).alloc (Nat.le_refl _) _⟩
 | cons a t =>
  have hpos : (0 : Int) < (((a :: t).length : Nat) : Int) := by rw [List.length_cons]; omega
  have hra : r = !((a :: t).any fun x => !p x) := by rw [← hr]; show ((a :: t).all p) = _; rw [List.all_eq_not_any_not]
  generalize ((a :: t).any fun x => !p x) = q at *
  generalize (a :: t).length = n at *
  subst hra
  clear hr
  go_enter Tryz.func166, Tryz.ntmps166
  go_wp2_with fail
  refine (HA.out _ rfl).mono ?_
  rintro e w1 ⟨rfl, hb1⟩
  have HB := h_ ((Below.refl w.heap.size w).alloc (Nat.le_refl _) (.cells #[.func (.func u) #[] #[]] 60) |>.trans (hb1.mono (by simp)))
  clear hb1
  go_wp2_with fail
  go_ret
  exact ⟨rfl, HB.out⟩
end Go.Proofs.YtdjkedcpehhmnaaGreatDoor
