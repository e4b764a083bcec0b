/-
  Package chars: Trim; package lines: remark, the reader's take.
-/
import Derived.Test.YtbgjpglnikbflaaDoorLines1
import Derived.Test.YtbgjpglnikbflaaDoorLinesL
import Derived.Test.YtbgjpglnikbflaaDoorShelf
import Derived.Shelf.Strings.SlTrimAscii
import Derived.BigRegion
import Derived.RegionTactic
import Derived.ChangeAlike
namespace Go.Proofs.YtbgjpglnikbflaaDoor
open Go Go.RowKit
set_option linter.unusedVariables false
set_option maxRecDepth 100000

theorem trimS_lib (l : Str) : Lib.trimS l [32, 9] = trimS l := by
  have e : ([32, 9] : List UInt8).contains = isBlank := by
    funext c
    have := u8_forall (p := fun c => ([32, 9] : List UInt8).contains c == isBlank c) (by decide +kernel) c
    simpa using this
  unfold Lib.trimS Lib.trimLeftS Lib.trimRightS trimS
  rw [show (fun x => ([32, 9] : List UInt8).contains x) = isBlank from e]

set_option maxHeartbeats 400000 in
theorem trim_any (s : ByteArray) (w : World) (h63 : s.size ≤ 9223372036854775807) (t : Str) (ht : trimS s.data.toList = t) :
    Calls Tryd.prog 22 #[.string s] w fun e w' => e = .returned (.string ⟨t.toArray⟩) ∧ Below w.heap.size w w' := by
  have HT := Lib.hid (Any.strings_Trim_laid Tryd.lays160 (by kernel_rfl) s ⟨#[32, 9]⟩ w h63 (by decide) (ascii_of_all (by decide)))
  have HE := Lib.hid ((trimS_lib s.data.toList).trans ht); clear ht
  go_enter Tryd.func22, Tryd.ntmps22
  go_wp2_with fail
  refine HT.out.mono ?_
  rintro e w' ⟨rfl, hb⟩
  have e2 : Lib.trimS s.data.toList (⟨#[32, 9]⟩ : ByteArray).data.toList = t := HE.out
  rw [e2]
  clear e2
  go_wp2_with fail
  go_ret
  exact ⟨rfl, hb⟩

theorem beqU {c : UInt8} {n : Nat} (hn : n < 256) : ((c.toNat : Int) == (n : Int)) = (c == UInt8.ofNat n) := by
  rw [Bool.eq_iff_iff]
  simp only [beq_iff_eq, ← UInt8.toNat_inj]
  rw [UInt8.toNat_ofNat_of_lt' hn]
  omega

theorem head_of {s : ByteArray} {c : UInt8} {t : Str} (h : s.data.toList = c :: t) : ∃ h0 : 0 < s.size, s[0] = c := by
  obtain ⟨⟨l⟩⟩ := s
  simp at h
  subst h
  exact ⟨by show 0 < (c :: t).length; simp, rfl⟩

set_option maxHeartbeats 1000000 in
theorem remark_any (s : ByteArray) (w : World) (h63 : s.size ≤ 9223372036854775807) (b : Bool) (hb : isRemark s.data.toList = b) :
    Calls Tryd.prog 21 #[.string s] w fun e w' => e = .returned (.bool b) ∧ Below w.heap.size w w' := by
  unfold isRemark at hb
  cases ht : trimS s.data.toList with
  | nil =>
    rw [ht] at hb
    have HB := Lib.hid hb; clear hb
    have HT := Lib.hid ht; clear ht
    go_enter Tryd.func21, Tryd.ntmps21
    go_wp2_with (go_at_call 22; refine (trim_any _ _ h63 _ HT.out).mono ?_; rintro e w' ⟨rfl, hw⟩)
    go_ret
    exact ⟨ret_bool HB.out, hw⟩
  | cons c t =>
    rw [ht] at hb
    simp only at hb
    have HT := Lib.hid ht; clear ht
    obtain ⟨x, hx⟩ : ∃ x : ByteArray, x = ⟨(c :: t).toArray⟩ := ⟨_, rfl⟩
    have hxl : x.data.toList = c :: t := by rw [hx]
    obtain ⟨h0, hc⟩ := head_of hxl
    obtain ⟨n1, n2, n3, n4⟩ := str_ne (s := x) (by omega)
    have HX := Lib.hid hx.symm; clear hx
    have HC := Lib.hid hc; clear hc
    have e35 : ((x[0].toNat : Int) == 35) = (c == 35) := by rw [HC.out]; exact beqU (by decide)
    have e59 : ((x[0].toNat : Int) == 59) = (c == 59) := by rw [HC.out]; exact beqU (by decide)
    cases k35 : (c == 35) with
    | true =>
      rw [k35] at e35 hb
      have HB := Lib.hid hb; clear hb e59 k35
      go_enter Tryd.func21, Tryd.ntmps21
      go_wp2_with (go_at_call 22; refine (trim_any _ _ h63 _ HT.out).mono ?_; rintro e w' ⟨rfl, hw⟩; rw [HX.out])
      go_ret
      exact ⟨ret_bool HB.out, hw⟩
    | false =>
      rw [k35] at e35 hb
      cases k59 : (c == 59) with
      | true =>
        rw [k59] at e59 hb
        have HB := Lib.hid hb; clear hb k35 k59
        go_enter Tryd.func21, Tryd.ntmps21
        go_wp2_with (go_at_call 22; refine (trim_any _ _ h63 _ HT.out).mono ?_; rintro e w' ⟨rfl, hw⟩; rw [HX.out])
        go_ret
        exact ⟨ret_bool HB.out, hw⟩
      | false =>
        rw [k59] at e59 hb
        have HB := Lib.hid hb; clear hb k35 k59
        go_enter Tryd.func21, Tryd.ntmps21
        go_wp2_with (go_at_call 22; refine (trim_any _ _ h63 _ HT.out).mono ?_; rintro e w' ⟨rfl, hw⟩; rw [HX.out])
        go_ret
        exact ⟨ret_bool HB.out, hw⟩

/-- A slice of strings that reads as these rows, in a block below B. -/
def RowsAt (B : Nat) (w : World) (v : Value) (rows : List Str) : Prop :=
  ∃ oa cap, v = .slice oa rows.length cap ∧ rows.length ≤ cap ∧ cap ≤ 1000000 ∧ StrRow w oa rows ∧ ∀ a, oa = some a → a.block < B
theorem RowsAt.fr {B : Nat} {w w' : World} {v : Value} {rows : List Str} {M : Nat → Prop} (h : RowsAt B w v rows) (hf : Fr M w w') (hM : ∀ k, M k → B ≤ k) : RowsAt B w' v rows := by
  obtain ⟨oa, cap, rfl, h1, h2, h3, h4⟩ := h
  refine ⟨oa, cap, rfl, h1, h2, ?_, h4⟩
  intro i hi
  obtain ⟨b, o, e, hc⟩ := h3 i hi
  refine ⟨b, o, e, ?_⟩
  have hb := h4 _ e
  have hlt := World.block_lt_of_cell? w _ hc
  rw [← hc]
  unfold World.cell?
  rw [hf.block b hlt (fun hm => by have := hM b hm; simp at hb; omega)]

/-- The reader: block R holds the rows that are left, how many were read, the section, and the slice of what they said. -/
def LRd (R : Nat) (rows : List Str) (n : Nat) (sec : Str) (ov : Value) (w : World) : Prop :=
  ∃ v, w.heap[R]? = some (.cells #[v, .int .i64 n, .string ⟨sec.toArray⟩, ov] 42 (0, 0)) ∧ RowsAt R w v rows ∧ ∃ oa ln cap, ov = .slice oa ln cap
theorem LRd.fr {R : Nat} {rows : List Str} {n : Nat} {sec : Str} {ov : Value} {w w' : World} {M : Nat → Prop} (h : LRd R rows n sec ov w) (hf : Fr M w w') (hM : ∀ k, M k → R < k) : LRd R rows n sec ov w' := by
  obtain ⟨v, h1, h2, h3⟩ := h
  exact ⟨v, hf.heap h1 (fun hm => by have := hM R hm; omega), h2.fr hf (fun k hk => by have := hM k hk; omega), h3⟩
theorem LRd.below {R : Nat} {rows : List Str} {n : Nat} {sec : Str} {ov : Value} {w w' : World} (h : LRd R rows n sec ov w) (hf : Below w.heap.size w w') : LRd R rows n sec ov w' :=
  h.fr (Fr.of_below hf (fun _ => False)) (fun _ e => e.elim)
theorem LRd.lt {R : Nat} {rows : List Str} {n : Nat} {sec : Str} {ov : Value} {w : World} (h : LRd R rows n sec ov w) : R < w.heap.size := by
  obtain ⟨v, h1, _⟩ := h; exact lt_heap h1

theorem StrRow.tail {w : World} {b o : Nat} {x : Str} {l : List Str} (h : StrRow w (some ⟨b, o, none⟩) (x :: l)) : StrRow w (some ⟨b, o + 1, none⟩) l := by
  intro i hi
  obtain ⟨b', o', e, hc⟩ := h (i + 1) (by simp; omega)
  injection e with e; injection e with e1 e2; subst e1; subst e2
  exact ⟨b, o + 1, rfl, by rw [show o + 1 + i = o + (i + 1) by omega]; exact hc⟩

theorem fr_two (R : Nat) (w : World) (i j : Nat) (x y : Value) : Fr (· = R) w ((w.setCell ⟨R, i, none⟩ x).setCell ⟨R, j, none⟩ y).drew :=
  Fr.drew (Fr.setCell (M := (· = R)) (p := ⟨R, j, none⟩) (Fr.setCell (M := (· = R)) (p := ⟨R, i, none⟩) (Fr.refl _ _) (fun _ => rfl) _) (fun _ => rfl) _)
theorem took {R : Nat} {x : Str} {rows : List Str} {n : Nat} {sec : Str} {ov v : Value} {w w' : World} {b o o' cap : Nat}
    (h1 : w.heap[R]? = some (.cells #[v, .int .i64 n, .string ⟨sec.toArray⟩, ov] 42 (0, 0)))
    (h2 : StrRow w (some ⟨b, o, none⟩) (x :: rows) ∧ ∀ a, (some ⟨b, o, none⟩ : Option Addr) = some a → a.block < R) (h3 : cap ≤ 1000000) (h4 : rows.length + 1 ≤ cap) (h5 : ∃ oa ln c, ov = .slice oa ln c)
    (ho : rows ≠ [] → o' = o + 1)
    (hw : w'.heap = ((w.setCell ⟨R, 0, none⟩ (.slice (some ⟨b, o', none⟩) rows.length (cap - 1))).setCell ⟨R, 1, none⟩ (.int .i64 ((n : Int) + 1))).heap) : LRd R rows (n + 1) sec ov w' := by
  have hR := heap_setCell (heap_setCell h1 0 (.slice (some ⟨b, o', none⟩) rows.length (cap - 1))) 1 (.int .i64 ((n : Int) + 1))
  rw [← hw] at hR
  refine ⟨.slice (some ⟨b, o', none⟩) rows.length (cap - 1), by rw [hR]; rfl, ⟨some ⟨b, o', none⟩, cap - 1, rfl, by omega, by omega, ?_, ?_⟩, h5⟩
  · have hb := h2.2 _ rfl
    have ht := h2.1.tail
    intro i hi
    obtain ⟨b', o2, e, hc⟩ := ht i hi
    injection e with e; injection e with e1 e2; subst e1; subst e2
    have ho' := ho (by intro e; subst e; simp at hi)
    subst ho'
    refine ⟨b, o + 1, rfl, ?_⟩
    rw [← hc]
    unfold World.cell?
    rw [hw, Below.heap_setCell _ _ _ _ (by simp at hb ⊢; omega), Below.heap_setCell _ _ _ _ (by simp at hb ⊢; omega)]
  · intro a e; injection e with e; subst e; exact h2.2 ⟨b, o, none⟩ rfl

set_option maxHeartbeats 1000000 in
theorem take_any (R : Nat) (x : Str) (rows : List Str) (n : Nat) (sec : Str) (ov : Value) (w : World) (h : LRd R (x :: rows) n sec ov w) (hn : n ≤ 1000000) :
    Calls Tryd.prog 23 #[.pointer (some ⟨R, 0, none⟩)] w fun e w' => e = .returned (.string ⟨x.toArray⟩) ∧ LRd R rows (n + 1) sec ov w' ∧ Fr (· = R) w w' := by
  obtain ⟨v, h1, ⟨oa, cap, rfl, hlc, hcm, hrow, hbl⟩, hov⟩ := h
  obtain ⟨b, o, rfl, hc0⟩ := hrow 0 (by simp)
  obtain ⟨hc, hf, -, -⟩ := rd h1
  have c0 : w.cell? ⟨R, 0, none⟩ = some (.slice (some ⟨b, o, none⟩) (rows.length + 1) cap) := by rw [hc 0]; rfl
  have c1 : w.cell? ⟨R, 1, none⟩ = some (.int .i64 n) := by rw [hc 1]; rfl
  have f0 := hf 0
  have f1 := hf 1
  have hbR := hbl _ rfl
  simp only [Nat.add_zero, List.getElem_cons_zero] at hc0
  have hbR' : b ≠ R := by simp at hbR; omega
  have hlc' : rows.length + 1 ≤ cap := hlc
  have HRow := Lib.hid (And.intro hrow hbl); clear hrow hbl hlc
  have H1 := Lib.hid h1; clear h1 hc hf
  have HO := Lib.hid hov; clear hov
  by_cases hcap : cap = 1
  · subst hcap
    have hr0 : rows.length = 0 := by omega
    have hr0' : rows = [] := List.eq_nil_of_length_eq_zero hr0
    subst hr0'
    clear hr0 hlc'
    go_enter Tryd.func23, Tryd.ntmps23
    go_wp2_with fail
    go_region
    all_goals
      go_wp2
      go_ret
      refine ⟨rfl, took H1.out HRow.out hcm (by simp) HO.out (by simp) rfl, fr_two _ _ _ _ _ _⟩
  · have hcap' : ¬ cap - 1 = 0 := by omega
    go_enter Tryd.func23, Tryd.ntmps23
    go_wp2_with fail
    go_region
    all_goals
      go_wp2
      go_ret
      refine ⟨rfl, took H1.out HRow.out hcm hlc' HO.out (by simp) rfl, fr_two _ _ _ _ _ _⟩
end Go.Proofs.YtbgjpglnikbflaaDoor
