import Derived.Shelf.Abstract
import Derived.Shelf.RegionOpen
import Derived.WalkKit
import Derived.OwnWalkIn
import Derived.TacticsInMore
import Derived.LoopNIn
import Derived.LoopIn
import Derived.Sort.LoopGhostIn
import Derived.Test.YtdjkedcpehhmnaaGreatDoorUS4
import Derived.Test.YtdjkedcpehhmnaaGreatDoorUS7
import Derived.Test.YtdjkedcpehhmnaaGreatDoorUS9
namespace Go.Proofs.YtdjkedcpehhmnaaGreatDoor
open Go Go.RowKit Go.Shelf
set_option linter.unusedVariables false
set_option linter.unusedSimpArgs false
set_option maxRecDepth 100000
attribute [local go_sem] Oper.semAt_some
def KpB (b : Nat) (W W' : World) : Prop := W.heap.size ≤ W'.heap.size ∧ ∀ k, k = b ∨ k = b + 1 ∨ k = b + 2 → W'.heap[k]? = W.heap[k]?
theorem KpB.trans {b : Nat} {A B C : World} (h : KpB b A B) (k : KpB b B C) : KpB b A C := ⟨Nat.le_trans h.1 k.1, fun i hi => (k.2 i hi).trans (h.2 i hi)⟩
theorem KpB.of_below {b : Nat} {A B : World} (h : Below A.heap.size A B) (hb : b + 2 < A.heap.size) : KpB b A B := ⟨h.size, fun i hi => h.block i (by omega)⟩
structure Place (W : World) (b : Nat) (c : UInt8) (r : Str) : Prop where
 s : W.heap[b]? = some (.cells #[.string ⟨r.toArray⟩] 9 (0, 0))
 sep : W.heap[b + 1]? = some (.cells #[.string ⟨#[c]⟩] 9 (0, 0))
 save : W.heap[b + 2]? = some (.cells #[.int .i64 0] 3 (0, 0))
theorem Place.kept {W W' : World} {b : Nat} {c : UInt8} {r : Str} (h : Place W b c r) (k : KpB b W W') : Place W' b c r :=
 ⟨(k.2 b (.inl rfl)).trans h.s, (k.2 (b + 1) (.inr (.inl rfl))).trans h.sep, (k.2 (b + 2) (.inr (.inr rfl))).trans h.save⟩
theorem Place.moved {W : World} {b : Nat} {c : UInt8} {r r' : Str} (h : Place W b c r) : Place (W.setCell ⟨b, 0, none⟩ (.string ⟨r'.toArray⟩)) b c r' :=
 ⟨by have := heap_setCell h.s 0 (.string ⟨r'.toArray⟩); exact this, heap_other h.sep (a := ⟨b, 0, none⟩) (by show b + 1 ≠ b; omega) _, heap_other h.save (a := ⟨b, 0, none⟩) (by show b + 2 ≠ b; omega) _⟩
theorem ext_from2 (s : Str) (k n : Nat) (hn : n = s.length) : (⟨s.toArray⟩ : ByteArray).extract k n = ⟨(s.drop k).toArray⟩ := by
 subst hn
 apply ByteArray.ext
 apply Array.ext'
 have := Lib.extract_to_end (⟨s.toArray⟩ : ByteArray) k
 simpa [ByteArray.size] using this
theorem ext_to2 (s : Str) (k : Nat) : (⟨s.toArray⟩ : ByteArray).extract 0 k = ⟨(s.take k).toArray⟩ := by
 apply ByteArray.ext
 apply Array.ext'
 rw [Lib.extract_data]; simp
set_option maxHeartbeats 4000000 in
theorem splitSeq1_any (n l b : Nat) (hn1 : 1 ≤ n) (c : UInt8) (xs : List Str) (J Jx : List Str → World → Prop) (s : Str) (W : World) (hp : Place W b c s) (hs : s.length ≤ 1000000000) (hxs : splitC c s = xs) (hJ : Mild b J)
  (hY : ∀ pre x post W1, xs = pre ++ x :: post → J pre W1 → YieldAt Fence.wide (n - 1) Tryz.prog l #[.string ⟨x.toArray⟩] W1 fun e W' =>
   (e = .returned (.bool true) ∧ J (pre ++ [x]) W' ∧ KpB b W1 W') ∨ (e = .returned (.bool false) ∧ Jx (pre ++ [x]) W')) (h0 : J [] W) :
  CallsIn Fence.wide n Tryz.prog 259 #[.func (.yield l) #[] #[], .pointer (some ⟨b + 1, 0, none⟩), .pointer (some ⟨b, 0, none⟩), .pointer (some ⟨b + 2, 0, none⟩)] W fun e W' => (∃ v, e = .returned v) ∧ (J xs W' ∨ ∃ pre, Jx pre W') := by
 have HP := h_ hp; have HXS := h_ hxs; have HJ := h_ hJ; have HY := h_ hY; have H0 := h_ h0
 have e1 := (rd hp.sep).1 0
 simp only [List.getElem?_toArray, List.getElem?_cons_zero] at e1
 clear hp hxs hJ hY h0
 have hF : Fence.wide.fn 228 := trivial
 refine callsIn_of_wp Tryz.func259 rfl trivial ?_ rfl
 simp only [Tryz.ntmps259, List.size_toArray, List.length_cons, List.length_nil, Nat.reduceAdd, Nat.reduceSub, Array.replicate_succ, Array.replicate_zero, List.push_toArray, List.append_toArray, List.nil_append, List.cons_append]
 gi_wp2
 gi_loopg [] (s.length + 1) (fun f wr => ∃ (done : List Str) (r : Str), r.length < f ∧ r.length ≤ s.length ∧ Hid (Place wr b c r) ∧ Hid (done ++ splitC c r = xs) ∧ Hid (J done wr))
 case atStart => exact ⟨[], s, by omega, by omega, HP, HXS, H0⟩
 case round =>
  obtain ⟨done, r, hf, hrl, HPr, HD, HJr⟩ := hrel
  obtain ⟨c0, f0, s0, l0⟩ := rd HPr.out.s
  obtain ⟨c1, f1, s1, l1⟩ := rd HPr.out.sep
  obtain ⟨c2, f2, s2, l2⟩ := rd HPr.out.save
  have d0 := c0 0; have d1 := c1 0; have d2 := c2 0; have g0 := f0 0
  simp only [List.getElem?_toArray, List.getElem?_cons_zero] at d0 d1 d2
  clear c0 c1 c2 f0 f1 f2 s0 s1 s2 e1
  rcases ib_cases c r with ⟨h1, h2⟩ | ⟨i, a, t, h1, h2, h3, h4⟩
  ·have hx : xs = done ++ r :: [] := by rw [← HD.out, splitC_one c r h2]
   have HX := h_ hx
   have HI := h_ (fun V => Tryz.strings_Index_one ⟨r.toArray⟩ c V)
   change Hid (∀ V, Calls _ _ _ V fun e w' => e = .returned (.int .i64 (Lib.indexByte r c)) ∧ _) at HI
   rw [h1] at HI
   obtain ⟨fn, tmps, assign, body, hy, hR⟩ := HY.out done r [] wr hx HJr.out
   have HRR := h_ hR
   clear hx hR h1 h2 HY
   gi_wp2_with (gi_at_call 228; refine (callsIn_wide.2 (HI.out _)).mono ?_; rintro e w' ⟨rfl, rfl⟩)
   refine HRR.out.mono ?_
   rintro e W3 (⟨rfl, hJ3, hk3⟩ | ⟨rfl, hJx3⟩)
   ·have HJ3 := h_ (show J xs W3 from by rw [HX.out]; exact hJ3)
    clear hJ3 hk3 HX
    gi_wp2
    refine ⟨rfl, _, results_none rfl _ _ _, ?_⟩
    exact ⟨⟨_, rfl⟩, .inl HJ3.out⟩
   ·have HJ3 := h_ hJx3
    clear hJx3
    gi_wp2
    refine ⟨rfl, _, results_none rfl _ _ _, ?_⟩
    exact ⟨⟨_, rfl⟩, .inr ⟨_, HJ3.out⟩⟩
  ·have hx : xs = done ++ a :: splitC c t := by rw [← HD.out, h2, splitC_app c a t h4]
   have HX := h_ (show (done ++ [a]) ++ splitC c t = xs from by rw [hx]; simp)
   have HI := h_ (fun V => Tryz.strings_Index_one ⟨r.toArray⟩ c V)
   change Hid (∀ V, Calls _ _ _ V fun e w' => e = .returned (.int .i64 (Lib.indexByte r c)) ∧ _) at HI
   rw [h1] at HI
   have hil : i + 1 ≤ r.length := by rw [h2, ← h3]; simp
   have hrs : (⟨r.toArray⟩ : ByteArray).size = r.length := by simp [ByteArray.size]
   have ea : (⟨r.toArray⟩ : ByteArray).extract 0 i = ⟨a.toArray⟩ := by rw [ext_to2, h2, ← h3]; simp
   have et : (⟨r.toArray⟩ : ByteArray).extract (i + 1) (⟨r.toArray⟩ : ByteArray).size = ⟨t.toArray⟩ := by
    rw [hrs, ext_from2 r (i + 1) r.length rfl, h2, ← h3]; simp
   have htl : t.length + (i + 1) = r.length := by rw [h2, ← h3]; simp; omega
   have HEA := h_ ea; have HET := h_ et
   obtain ⟨fn, tmps, assign, body, hy, hR⟩ := HY.out done a (splitC c t) wr hx HJr.out
   rw [← ea] at hy
   have HRR := h_ hR
   have iz0 : ¬ ((i : Int) < 0) := by omega
   have iz1 : (i : Int) ≤ ((⟨r.toArray⟩ : ByteArray).size : Int) := by rw [hrs]; omega
   have iz2 : (i : Int) + 1 ≤ ((⟨r.toArray⟩ : ByteArray).size : Int) := by rw [hrs]; omega
   have iz3 : i ≤ 1000000000 := by omega
   have HTL := h_ htl
   clear hx hR h1 h2 h3 h4 ea et HD htl hrs hil
   have hP1 : ∀ V, KpB b wr V → Place V b c r := fun V hk => HPr.out.kept hk
   have HP1 := h_ hP1
   clear hP1 HPr
   generalize hRd : (⟨r.toArray⟩ : ByteArray) = R at *
   have HRd := h_ hRd
   clear hRd
   gi_wp2_with (gi_at_call 228; refine (callsIn_wide.2 (HI.out _)).mono ?_; rintro e w' ⟨rfl, rfl⟩)
   refine HRR.out.mono ?_
   rintro e W3 (⟨rfl, hJ3, hk3⟩ | ⟨rfl, hJx3⟩)
   ·have hP3 := HP1.out _ hk3
    have HJ4 := h_ (HJ.out _ _ _ hJ3 (grownBy_setCell' W3 b (.string ⟨t.toArray⟩)))
    have HP4 := h_ (hP3.moved (r' := t))
    obtain ⟨c0, f0, s0, l0'⟩ := rd hP3.s
    obtain ⟨c1, f1, s1, l1'⟩ := rd hP3.sep
    have q0 := c0 0; have q1 := c1 0; have p0 := f0 0
    simp only [List.getElem?_toArray, List.getElem?_cons_zero] at q0 q1
    rw [HRd.out] at q0
    clear c0 c1 f0 f1 s0 s1 hJ3 hk3 hP3 l0 l1 l2 HJr HP1 hy d0 d1 d2 g0 HI
    gi_wp2
    gi_roundg (r.length - i)
    case measure => omega
    case rel => exact ⟨done ++ [a], t, by have := HTL.out; omega, by have := HTL.out; omega, by rw [← HET.out] at HP4; exact HP4, HX, by rw [← HET.out] at HJ4; exact HJ4⟩
   ·have HJ3 := h_ hJx3
    clear hJx3
    gi_wp2
    refine bodyPost_ret (results_none rfl _ _ _) rfl ?_
    exact ⟨⟨_, rfl⟩, .inr ⟨_, HJ3.out⟩⟩
theorem split_stops (n b : Nat) (hn1 : 1 ≤ n) (c : UInt8) (s : Str) (w : World) (hp : Place w b c s) (hs : s.length ≤ 1000000000) :
  SeqBox n Tryz.prog 259 #[.pointer (some ⟨b + 1, 0, none⟩), .pointer (some ⟨b, 0, none⟩), .pointer (some ⟨b + 2, 0, none⟩)] (fun x : Str => .string ⟨x.toArray⟩) b (KpB b) (splitC c s) w :=
 fun l J Jx W hW hJ hY h0 => splitSeq1_any n l b hn1 c _ J Jx s W (hp.kept hW) hs rfl hJ hY h0
theorem enters_split1 : ∀ args w, (callFunc 259 args).run Tryz.prog w = .ok (.enter 259 args) w := enters_of Tryz.func259 (by kernel_rfl) rfl
def splitW (w : World) (c : UInt8) (s : Str) : World := ((w.alloc (.cells #[.string ⟨s.toArray⟩] 9)).alloc (.cells #[.string ⟨#[c]⟩] 9)).alloc (.cells #[.int .i64 0] 3)
theorem splitSeq_any (c : UInt8) (s : Str) (w : World) : Calls Tryz.prog 226 #[.string ⟨s.toArray⟩, .string ⟨#[c]⟩] w fun e w' =>
  e = .returned (.func (.func 259) #[] #[.pointer (some ⟨w.heap.size + 1, 0, none⟩), .pointer (some ⟨w.heap.size, 0, none⟩), .pointer (some ⟨w.heap.size + 2, 0, none⟩)]) ∧ w' = splitW w c s := by
 have H : Calls Tryz.prog 247 #[.string ⟨s.toArray⟩, .string ⟨#[c]⟩, .int .i64 0] w fun e w' =>
  e = .returned (.func (.func 259) #[] #[.pointer (some ⟨w.heap.size + 1, 0, none⟩), .pointer (some ⟨w.heap.size, 0, none⟩), .pointer (some ⟨w.heap.size + 2, 0, none⟩)]) ∧ w' = splitW w c s := by
  go_enter Tryz.func247, Tryz.ntmps247
  go_wp2
  go_ret
  exact ⟨rfl, rfl⟩
 have HH := h_ H
 clear H
 go_enter Tryz.func226, Tryz.ntmps226
 go_wp2_with fail
 refine HH.out.mono ?_
 rintro e w1 ⟨rfl, rfl⟩
 go_wp2
 go_ret
 exact ⟨rfl, rfl⟩
theorem splitW_place (w : World) (c : UInt8) (s : Str) : Place (splitW w c s) w.heap.size c s ∧ Below w.heap.size w (splitW w c s) ∧ (splitW w c s).heap.size = w.heap.size + 3 := by
 have z1 : (w.alloc (.cells #[.string ⟨s.toArray⟩] 9)).heap.size = w.heap.size + 1 := by simp
 have z2 : ((w.alloc (.cells #[.string ⟨s.toArray⟩] 9)).alloc (.cells #[.string ⟨#[c]⟩] 9)).heap.size = w.heap.size + 2 := by simp
 refine ⟨⟨heap_alloc (heap_alloc (heap_alloc_new w _) _) _, ?_, ?_⟩, (((Below.refl _ _).alloc (Nat.le_refl _) _).alloc (by simp) _).alloc (by simp; omega) _, by simp [splitW]⟩
 ·rw [← z1]; exact heap_alloc (heap_alloc_new _ _) _
 ·rw [← z2]; exact heap_alloc_new _ _
end Go.Proofs.YtdjkedcpehhmnaaGreatDoor
