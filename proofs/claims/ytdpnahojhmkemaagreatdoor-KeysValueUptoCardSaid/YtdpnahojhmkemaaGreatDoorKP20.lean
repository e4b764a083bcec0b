import Derived.Test.YtdpnahojhmkemaaGreatDoorKP10
import Derived.Test.YtdpnahojhmkemaaGreatDoorKP17
import Derived.Test.YtdpnahojhmkemaaGreatDoorKP19
namespace Go.Proofs.YtdpnahojhmkemaaGreatDoor
open Go Go.RowKit
set_option linter.unusedVariables false
set_option linter.unusedSimpArgs false
set_option maxRecDepth 100000
theorem heap_belowV {w w' : World} {b : Nat} {o : Obj} (h : w.heap[b]? = some o) (hb : Below w.heap.size w w') : w'.heap[b]? = some o := (Fr.of_below hb (fun _ => False)).heap h (fun e => e)
theorem trim_cons (c : UInt8) (t : Str) : Lib.trimPrefix (c :: t) [45] = if c = 45 then t else c :: t := by
 unfold Lib.trimPrefix
 by_cases h : c = 45
 ·subst h; simp [Lib.hasPrefix]
 ·simp [Lib.hasPrefix, h, Ne.symm h]
def execR (res : Except Nat (List Str)) : Bool := match res with
 | .ok (x :: t) => !x.isEmpty
 | _ => false
theorem execR_eq (s : Str) : execR (split (Lib.trimPrefix s [45])) = (execS s).isSome := by
 unfold execR execS
 cases split (Lib.trimPrefix s [45]) with
 | error c => rfl
 | ok l =>
  cases l with
  | nil => rfl
  | cons x t =>
   cases x with
   | nil => rfl
   | cons a u => simp
set_option maxHeartbeats 4000000 in
theorem execRef_any (s : Str) (w : World) (hs : s.length ≤ 1000000000) (r : Bool) (hr : (execS s).isSome = r) :
  Calls Tryz.prog 36 #[.string ⟨s.toArray⟩] w fun e w' => (∃ x, e = .returned (.tuple #[x, .bool r]) ∧ x.cells.size = 2) ∧ Below w.heap.size w w' := by
 rw [← execR_eq] at hr
 have hsz : (⟨s.toArray⟩ : ByteArray).size = s.length := by simp [ByteArray.size]
 obtain ⟨p, hp⟩ : ∃ p, p = Lib.trimPrefix s [45] := ⟨_, rfl⟩
 rw [← hp] at hr
 have hpl : p.length ≤ 1000000000 := by
  rw [hp]; unfold Lib.trimPrefix
  split
  ·rw [List.length_drop]; omega
  ·exact hs
 obtain ⟨res, hres⟩ : ∃ res, split p = res := ⟨_, rfl⟩
 rw [hres] at hr
 have HSP := Lib.hid (fun V => refSplit_any ⟨p.toArray⟩ V (by simp [ByteArray.size]; omega) res (by
  have := ref_split p
  rw [show (⟨p.toArray⟩ : ByteArray).size = p.length by simp [ByteArray.size]]
  exact this.trans hres))
 have HR := Lib.hid hr
 clear hres hr
 cases s with
 | nil =>
  have hp' : p = [] := hp
  subst hp'
  clear hsz hs hp
  have HSP : Hid (∀ V : World, Calls Tryz.prog 60 #[.string ⟨#[]⟩] V fun e w' => OutS V res e w') := HSP
  show Calls Tryz.prog 36 #[.string ⟨#[]⟩] w _
  go_enter Tryz.func36, Tryz.ntmps36
  go_wp2_with fail
  have hz1 : (w.alloc (.cells #[.bool false, .slice none 0 0] 71)).heap.size = w.heap.size + 1 := by simp
  have HBV : Below w.heap.size w ((w.alloc (.cells #[.bool false, .slice none 0 0] 71)).alloc (.cells #[.bool false, .slice none 0 0] 71)) := ((Below.refl _ _).alloc (Nat.le_refl _) _).alloc (by simp) _
  have HZV : ((w.alloc (.cells #[.bool false, .slice none 0 0] 71)).alloc (.cells #[.bool false, .slice none 0 0] 71)).heap[w.heap.size]? = some (.cells #[.bool false, .slice none 0 0] 71 (0, 0)) := heap_alloc (heap_alloc_new w _) _
  have HEV : ((w.alloc (.cells #[.bool false, .slice none 0 0] 71)).alloc (.cells #[.bool false, .slice none 0 0] 71)).heap[w.heap.size + 1]? = some (.cells #[.bool false, .slice none 0 0] 71 (0, 0)) := by rw [← hz1]; exact heap_alloc_new _ _
  have hBV : Below w.heap.size w ((w.alloc (.cells #[.bool false, .slice none 0 0] 71)).alloc (.cells #[.bool false, .slice none 0 0] 71)) := HBV
  have hZ : ((w.alloc (.cells #[.bool false, .slice none 0 0] 71)).alloc (.cells #[.bool false, .slice none 0 0] 71)).heap[w.heap.size]? = some (.cells #[.bool false, .slice none 0 0] 71 (0, 0)) := HZV
  have hE : ((w.alloc (.cells #[.bool false, .slice none 0 0] 71)).alloc (.cells #[.bool false, .slice none 0 0] 71)).heap[w.heap.size + 1]? = some (.cells #[.bool false, .slice none 0 0] 71 (0, 0)) := HEV
  refine (HSP.out _).mono ?_
  rintro e w5 ⟨hb5, he⟩
  have HB5 := Lib.hid (hBV.trans (hb5.mono hBV.size))
  obtain ⟨cc, fc, -, -⟩ := rd (heap_belowV hZ hb5)
  have c0 := cc 0; have c1 := cc 1; have f0 := fc 0; have f1 := fc 1
  obtain ⟨dd, gc, -, -⟩ := rd (heap_belowV hE hb5)
  have d0 := dd 0; have d1 := dd 1; have g0 := gc 0; have g1 := gc 1
  simp only [List.getElem?_toArray, List.getElem?_cons_zero, List.getElem?_cons_succ] at c0 c1 d0 d1
  have hne : w.heap.size ≠ w.heap.size + 1 := by omega
  clear cc fc dd gc hBV hZ hE hb5 HSP
  cases res with
  | error q =>
   obtain rfl := he
   have HN := Lib.hid (show false = r from HR.out)
   by_cases hc0 : (q : Int) = 0
   ·rw [hc0]
    go_wp2_with fail
    refine bodyPost_ret (v := .tuple #[.agg #[.bool false, .slice none 0 0], .bool false]) ?_ rfl ⟨⟨_, by rw [← HN.out], rfl⟩, ?_⟩
    ·simp [results, Tryz.results36, go_sem, c0, c1]
    ·exact (HB5.out.setCell (Nat.le_refl _) _).setCell (Nat.le_refl _) _
   ·have hc1 : ((q : Int) != 0) = true := by simpa using hc0
    go_wp2_with fail
    refine bodyPost_ret (v := .tuple #[.agg #[.bool false, .slice none 0 0], .bool false]) ?_ rfl ⟨⟨_, by rw [← HN.out], rfl⟩, ?_⟩
    ·simp [results, Tryz.results36, go_sem, c0, c1]
    ·exact (HB5.out.setCell (Nat.le_refl _) _).setCell (Nat.le_refl _) _
  | ok l =>
   obtain ⟨v, rfl, hown⟩ := he
   obtain ⟨oa, cap, rfl⟩ := ownsRow_form hown
   have hrow := StrRow.of_own hown
   clear hown
   cases l with
   | nil =>
    have HN := Lib.hid (show false = r from HR.out)
    simp only [List.length_nil]
    go_wp2_with fail
    refine bodyPost_ret (v := .tuple #[.agg #[.bool false, .slice none 0 0], .bool false]) ?_ rfl ⟨⟨_, by rw [← HN.out], rfl⟩, ?_⟩
    ·simp [results, Tryz.results36, go_sem, c0, c1]
    ·exact (HB5.out.setCell (Nat.le_refl _) _).setCell (Nat.le_refl _) _
   | cons x t =>
    obtain ⟨b, o, rfl, k0⟩ := hrow 0 (by simp)
    simp only [List.getElem_cons_zero, Nat.add_zero] at k0
    have hpos : ((x :: t).length : Int) ≠ 0 := by rw [List.length_cons]; omega
    have hpos1 : (((x :: t).length : Int) == 0) = false := by rw [beq_eq_false_iff_ne]; exact hpos
    have hpos2 : (0 : Int) < ((x :: t).length : Int) := by omega
    have hpos3 : 0 < (x :: t).length := by simp
    by_cases hx : x = []
    ·subst hx
     have HN := Lib.hid (show false = r from HR.out)
     clear hrow
     generalize (([] : Str) :: t).length = n at *
     go_wp2_with fail
     refine bodyPost_ret (v := .tuple #[.agg #[.bool false, .slice none 0 0], .bool false]) ?_ rfl ⟨⟨_, by rw [← HN.out], rfl⟩, ?_⟩
     ·simp [results, Tryz.results36, go_sem, c0, c1]
     ·exact (HB5.out.setCell (Nat.le_refl _) _).setCell (Nat.le_refl _) _
    ·have hxe : List.isEmpty x = false := by cases x with | nil => exact absurd rfl hx | cons a u => rfl
     have HN := Lib.hid (show true = r from by have h9 : (!List.isEmpty x) = r := HR.out; rw [hxe] at h9; exact h9)
     clear hrow
     generalize (x :: t).length = n at *
     go_wp2_with fail
     refine bodyPost_ret (v := .tuple #[.agg #[.bool false, .slice (some ⟨b, o, none⟩) n cap], .bool true]) ?_ rfl ⟨⟨_, by rw [← HN.out], rfl⟩, ?_⟩
     ·simp [results, Tryz.results36, go_sem, c0, c1, d0, d1]
     ·exact ((HB5.out.setCell (p := ⟨w.heap.size + 1, 1, none⟩) (by simp) _).setCell (Nat.le_refl _) _).setCell (Nat.le_refl _) _
 | cons c t =>
  rw [trim_cons] at hp
  by_cases hc : c = 45
  ·rw [if_pos hc] at hp
   subst hc; subst hp
   go_enter Tryz.func36, Tryz.ntmps36
   have hpos : (1 : Int) ≤ (p.length : Int) + 1 := by omega
   have hpos2 : 0 < (⟨(45 :: p).toArray⟩ : ByteArray).size := by rw [hsz]; simp
   have hq0 : ((((⟨(45 :: p).toArray⟩ : ByteArray)[0]'hpos2).toNat : Int) == 45) = true := rfl
   have HEX := Lib.hid (show (⟨(45 :: p).toArray⟩ : ByteArray).extract 1 (p.length + 1) = ⟨p.toArray⟩ from by
    rw [show p.length + 1 = (⟨(45 :: p).toArray⟩ : ByteArray).size by rw [hsz]; simp]
    apply bytes_ext; rw [Lib.extract_to_end]; rfl)
   go_wp2_with fail
   go_region_held3 (fun w' => w'.frozen? ⟨w.heap.size + 1, 0, none⟩ = false) (go_keep) (first | fail)
   rename_i hHeld
   clear hHeld
   rw [HEX.out]
   have hz1 : (w.alloc (.cells #[.bool false, .slice none 0 0] 71)).heap.size = w.heap.size + 1 := by simp
   have HBV : Below w.heap.size w (((w.alloc (.cells #[.bool false, .slice none 0 0] 71)).alloc (.cells #[.bool true, .slice none 0 0] 71)).drew) := (((Below.refl _ _).alloc (Nat.le_refl _) _).alloc (by simp) _).trans (below_dn ⟨1, rfl⟩)
   have HZV : (((w.alloc (.cells #[.bool false, .slice none 0 0] 71)).alloc (.cells #[.bool true, .slice none 0 0] 71)).drew).heap[w.heap.size]? = some (.cells #[.bool false, .slice none 0 0] 71 (0, 0)) := heap_alloc (heap_alloc_new w _) _
   have HEV : (((w.alloc (.cells #[.bool false, .slice none 0 0] 71)).alloc (.cells #[.bool true, .slice none 0 0] 71)).drew).heap[w.heap.size + 1]? = some (.cells #[.bool true, .slice none 0 0] 71 (0, 0)) := by rw [← hz1]; exact heap_alloc_new _ _
   go_wp2_with fail
   have hBV : Below w.heap.size w (((w.alloc (.cells #[.bool false, .slice none 0 0] 71)).alloc (.cells #[.bool true, .slice none 0 0] 71)).drew) := HBV
   have hZ : (((w.alloc (.cells #[.bool false, .slice none 0 0] 71)).alloc (.cells #[.bool true, .slice none 0 0] 71)).drew).heap[w.heap.size]? = some (.cells #[.bool false, .slice none 0 0] 71 (0, 0)) := HZV
   have hE : (((w.alloc (.cells #[.bool false, .slice none 0 0] 71)).alloc (.cells #[.bool true, .slice none 0 0] 71)).drew).heap[w.heap.size + 1]? = some (.cells #[.bool true, .slice none 0 0] 71 (0, 0)) := HEV
   refine (HSP.out _).mono ?_
   rintro e w5 ⟨hb5, he⟩
   have HB5 := Lib.hid (hBV.trans (hb5.mono hBV.size))
   obtain ⟨cc, fc, -, -⟩ := rd (heap_belowV hZ hb5)
   have c0 := cc 0; have c1 := cc 1; have f0 := fc 0; have f1 := fc 1
   obtain ⟨dd, gc, -, -⟩ := rd (heap_belowV hE hb5)
   have d0 := dd 0; have d1 := dd 1; have g0 := gc 0; have g1 := gc 1
   simp only [List.getElem?_toArray, List.getElem?_cons_zero, List.getElem?_cons_succ] at c0 c1 d0 d1
   have hne : w.heap.size ≠ w.heap.size + 1 := by omega
   clear cc fc dd gc hBV hZ hE hb5 HSP
   cases res with
   | error q =>
    obtain rfl := he
    have HN := Lib.hid (show false = r from HR.out)
    by_cases hc0 : (q : Int) = 0
    ·rw [hc0]
     go_wp2_with fail
     refine bodyPost_ret (v := .tuple #[.agg #[.bool false, .slice none 0 0], .bool false]) ?_ rfl ⟨⟨_, by rw [← HN.out], rfl⟩, ?_⟩
     ·simp [results, Tryz.results36, go_sem, c0, c1]
     ·exact (HB5.out.setCell (Nat.le_refl _) _).setCell (Nat.le_refl _) _
    ·have hc1 : ((q : Int) != 0) = true := by simpa using hc0
     go_wp2_with fail
     refine bodyPost_ret (v := .tuple #[.agg #[.bool false, .slice none 0 0], .bool false]) ?_ rfl ⟨⟨_, by rw [← HN.out], rfl⟩, ?_⟩
     ·simp [results, Tryz.results36, go_sem, c0, c1]
     ·exact (HB5.out.setCell (Nat.le_refl _) _).setCell (Nat.le_refl _) _
   | ok l =>
    obtain ⟨v, rfl, hown⟩ := he
    obtain ⟨oa, cap, rfl⟩ := ownsRow_form hown
    have hrow := StrRow.of_own hown
    clear hown
    cases l with
    | nil =>
     have HN := Lib.hid (show false = r from HR.out)
     simp only [List.length_nil]
     go_wp2_with fail
     refine bodyPost_ret (v := .tuple #[.agg #[.bool false, .slice none 0 0], .bool false]) ?_ rfl ⟨⟨_, by rw [← HN.out], rfl⟩, ?_⟩
     ·simp [results, Tryz.results36, go_sem, c0, c1]
     ·exact (HB5.out.setCell (Nat.le_refl _) _).setCell (Nat.le_refl _) _
    | cons x t =>
     obtain ⟨b, o, rfl, k0⟩ := hrow 0 (by simp)
     simp only [List.getElem_cons_zero, Nat.add_zero] at k0
     have hpos : ((x :: t).length : Int) ≠ 0 := by rw [List.length_cons]; omega
     have hpos1 : (((x :: t).length : Int) == 0) = false := by rw [beq_eq_false_iff_ne]; exact hpos
     have hpos2 : (0 : Int) < ((x :: t).length : Int) := by omega
     have hpos3 : 0 < (x :: t).length := by simp
     by_cases hx : x = []
     ·subst hx
      have HN := Lib.hid (show false = r from HR.out)
      clear hrow
      generalize (([] : Str) :: t).length = n at *
      go_wp2_with fail
      refine bodyPost_ret (v := .tuple #[.agg #[.bool false, .slice none 0 0], .bool false]) ?_ rfl ⟨⟨_, by rw [← HN.out], rfl⟩, ?_⟩
      ·simp [results, Tryz.results36, go_sem, c0, c1]
      ·exact (HB5.out.setCell (Nat.le_refl _) _).setCell (Nat.le_refl _) _
     ·have hxe : List.isEmpty x = false := by cases x with | nil => exact absurd rfl hx | cons a u => rfl
      have HN := Lib.hid (show true = r from by have h9 : (!List.isEmpty x) = r := HR.out; rw [hxe] at h9; exact h9)
      clear hrow
      generalize (x :: t).length = n at *
      go_wp2_with fail
      refine bodyPost_ret (v := .tuple #[.agg #[.bool true, .slice (some ⟨b, o, none⟩) n cap], .bool true]) ?_ rfl ⟨⟨_, by rw [← HN.out], rfl⟩, ?_⟩
      ·simp [results, Tryz.results36, go_sem, c0, c1, d0, d1]
      ·exact ((HB5.out.setCell (p := ⟨w.heap.size + 1, 1, none⟩) (by simp) _).setCell (Nat.le_refl _) _).setCell (Nat.le_refl _) _
  ·rw [if_neg hc] at hp
   subst hp
   have hcz : ((c.toNat : Int) == 45) = false := by
    rw [beq_eq_false_iff_ne]; intro h; exact hc (UInt8.toNat_inj.1 (by have : (45 : UInt8).toNat = 45 := rfl; omega))
   have hpos2 : 0 < (⟨(c :: t).toArray⟩ : ByteArray).size := by rw [hsz]; simp
   have hcz2 : ((((⟨(c :: t).toArray⟩ : ByteArray)[0]'hpos2).toNat : Int) == 45) = false := hcz
   go_enter Tryz.func36, Tryz.ntmps36
   go_wp2_with fail
   have hz1 : (w.alloc (.cells #[.bool false, .slice none 0 0] 71)).heap.size = w.heap.size + 1 := by simp
   have HBV : Below w.heap.size w ((w.alloc (.cells #[.bool false, .slice none 0 0] 71)).alloc (.cells #[.bool false, .slice none 0 0] 71)) := ((Below.refl _ _).alloc (Nat.le_refl _) _).alloc (by simp) _
   have HZV : ((w.alloc (.cells #[.bool false, .slice none 0 0] 71)).alloc (.cells #[.bool false, .slice none 0 0] 71)).heap[w.heap.size]? = some (.cells #[.bool false, .slice none 0 0] 71 (0, 0)) := heap_alloc (heap_alloc_new w _) _
   have HEV : ((w.alloc (.cells #[.bool false, .slice none 0 0] 71)).alloc (.cells #[.bool false, .slice none 0 0] 71)).heap[w.heap.size + 1]? = some (.cells #[.bool false, .slice none 0 0] 71 (0, 0)) := by rw [← hz1]; exact heap_alloc_new _ _
   have hBV : Below w.heap.size w ((w.alloc (.cells #[.bool false, .slice none 0 0] 71)).alloc (.cells #[.bool false, .slice none 0 0] 71)) := HBV
   have hZ : ((w.alloc (.cells #[.bool false, .slice none 0 0] 71)).alloc (.cells #[.bool false, .slice none 0 0] 71)).heap[w.heap.size]? = some (.cells #[.bool false, .slice none 0 0] 71 (0, 0)) := HZV
   have hE : ((w.alloc (.cells #[.bool false, .slice none 0 0] 71)).alloc (.cells #[.bool false, .slice none 0 0] 71)).heap[w.heap.size + 1]? = some (.cells #[.bool false, .slice none 0 0] 71 (0, 0)) := HEV
   refine (HSP.out _).mono ?_
   rintro e w5 ⟨hb5, he⟩
   have HB5 := Lib.hid (hBV.trans (hb5.mono hBV.size))
   obtain ⟨cc, fc, -, -⟩ := rd (heap_belowV hZ hb5)
   have c0 := cc 0; have c1 := cc 1; have f0 := fc 0; have f1 := fc 1
   obtain ⟨dd, gc, -, -⟩ := rd (heap_belowV hE hb5)
   have d0 := dd 0; have d1 := dd 1; have g0 := gc 0; have g1 := gc 1
   simp only [List.getElem?_toArray, List.getElem?_cons_zero, List.getElem?_cons_succ] at c0 c1 d0 d1
   have hne : w.heap.size ≠ w.heap.size + 1 := by omega
   clear cc fc dd gc hBV hZ hE hb5 HSP
   cases res with
   | error q =>
    obtain rfl := he
    have HN := Lib.hid (show false = r from HR.out)
    by_cases hc0 : (q : Int) = 0
    ·rw [hc0]
     go_wp2_with fail
     refine bodyPost_ret (v := .tuple #[.agg #[.bool false, .slice none 0 0], .bool false]) ?_ rfl ⟨⟨_, by rw [← HN.out], rfl⟩, ?_⟩
     ·simp [results, Tryz.results36, go_sem, c0, c1]
     ·exact (HB5.out.setCell (Nat.le_refl _) _).setCell (Nat.le_refl _) _
    ·have hc1 : ((q : Int) != 0) = true := by simpa using hc0
     go_wp2_with fail
     refine bodyPost_ret (v := .tuple #[.agg #[.bool false, .slice none 0 0], .bool false]) ?_ rfl ⟨⟨_, by rw [← HN.out], rfl⟩, ?_⟩
     ·simp [results, Tryz.results36, go_sem, c0, c1]
     ·exact (HB5.out.setCell (Nat.le_refl _) _).setCell (Nat.le_refl _) _
   | ok l =>
    obtain ⟨v, rfl, hown⟩ := he
    obtain ⟨oa, cap, rfl⟩ := ownsRow_form hown
    have hrow := StrRow.of_own hown
    clear hown
    cases l with
    | nil =>
     have HN := Lib.hid (show false = r from HR.out)
     simp only [List.length_nil]
     go_wp2_with fail
     refine bodyPost_ret (v := .tuple #[.agg #[.bool false, .slice none 0 0], .bool false]) ?_ rfl ⟨⟨_, by rw [← HN.out], rfl⟩, ?_⟩
     ·simp [results, Tryz.results36, go_sem, c0, c1]
     ·exact (HB5.out.setCell (Nat.le_refl _) _).setCell (Nat.le_refl _) _
    | cons x t =>
     obtain ⟨b, o, rfl, k0⟩ := hrow 0 (by simp)
     simp only [List.getElem_cons_zero, Nat.add_zero] at k0
     have hpos : ((x :: t).length : Int) ≠ 0 := by rw [List.length_cons]; omega
     have hpos1 : (((x :: t).length : Int) == 0) = false := by rw [beq_eq_false_iff_ne]; exact hpos
     have hpos2 : (0 : Int) < ((x :: t).length : Int) := by omega
     have hpos3 : 0 < (x :: t).length := by simp
     by_cases hx : x = []
     ·subst hx
      have HN := Lib.hid (show false = r from HR.out)
      clear hrow
      generalize (([] : Str) :: t).length = n at *
      go_wp2_with fail
      refine bodyPost_ret (v := .tuple #[.agg #[.bool false, .slice none 0 0], .bool false]) ?_ rfl ⟨⟨_, by rw [← HN.out], rfl⟩, ?_⟩
      ·simp [results, Tryz.results36, go_sem, c0, c1]
      ·exact (HB5.out.setCell (Nat.le_refl _) _).setCell (Nat.le_refl _) _
     ·have hxe : List.isEmpty x = false := by cases x with | nil => exact absurd rfl hx | cons a u => rfl
      have HN := Lib.hid (show true = r from by have h9 : (!List.isEmpty x) = r := HR.out; rw [hxe] at h9; exact h9)
      clear hrow
      generalize (x :: t).length = n at *
      go_wp2_with fail
      refine bodyPost_ret (v := .tuple #[.agg #[.bool false, .slice (some ⟨b, o, none⟩) n cap], .bool true]) ?_ rfl ⟨⟨_, by rw [← HN.out], rfl⟩, ?_⟩
      ·simp [results, Tryz.results36, go_sem, c0, c1, d0, d1]
      ·exact ((HB5.out.setCell (p := ⟨w.heap.size + 1, 1, none⟩) (by simp) _).setCell (Nat.le_refl _) _).setCell (Nat.le_refl _) _
end Go.Proofs.YtdpnahojhmkemaaGreatDoor
namespace Go.Proofs.YtdpnahojhmkemaaGreatDoor
open Go Go.RowKit Go.Sort Go.BigFrame
set_option linter.unusedVariables false
set_option linter.unusedSimpArgs false
set_option maxRecDepth 100000
theorem exTo (s : ByteArray) (k : Nat) : s.extract k s.size = ⟨(s.data.toList.drop k).toArray⟩ := by
 apply bytes_ext; rw [Lib.extract_to_end]
theorem exFrom (s : ByteArray) (k : Nat) : s.extract 0 k = ⟨(s.data.toList.take k).toArray⟩ := by
 apply bytes_ext; rw [Lib.extract_data]; simp
set_option maxHeartbeats 8000000 in
theorem envRef_any (s : ByteArray) (w : World) (hs : s.size ≤ 1000000000) (b : Bool) (hps : (envS s.data.toList).2 = b) :
  Calls Tryz.prog 37 #[.string s] w fun e w' => (∃ v, e = .returned (.tuple #[v, .bool b])) ∧ Below w.heap.size w w' := by
 obtain ⟨i0, hi0, hz0, hz1, hz2⟩ := info_parts infoPair
 obtain ⟨res, hres⟩ : ∃ res, split s.data.toList = res := ⟨_, rfl⟩
 have HSP := Lib.hid (refSplit_any s w (by omega) res (by
  have := ref_split s.data.toList
  rw [show s.data.toList.length = s.size by simp] at this
  exact this.trans hres))
 have HLS := Lib.hid (fun l (h : res = .ok l) => show l.length ≤ 32 ∧ ∀ x ∈ l, x.length ≤ s.size from by have := split_small s.data.toList l (by rw [hres, h]); simpa using this)
 unfold envS at hps
 rw [hres] at hps
 have HP := Lib.hid hps
 clear hres hps
 go_enter Tryz.func37, Tryz.ntmps37
 go_wp2_with fail
 refine HSP.out.mono ?_
 rintro e w1 ⟨hb1, he⟩
 have HB1 := Lib.hid hb1
 clear hb1 HSP
 cases res with
 | error c =>
  obtain rfl := he
  have HQ := Lib.hid (show false = b from HP.out)
  go_wp2_with fail
  go_loopg [6, 17] 2 (fun f v i wr => v = .slice none 0 0 ∧ i = .int .i64 0 ∧ wr = w1 ∧ 0 < f)
  case atStart => exact ⟨rfl, rfl, rfl, by omega⟩
  case round =>
   obtain ⟨rfl, rfl, rfl, hfu⟩ := hrel
   by_cases hc0 : (c : Int) = 0
   ·rw [hc0]
    go_wp2_with fail
    go_ret2
    exact ⟨⟨_, by rw [← HQ.out]; rfl⟩, HB1.out⟩
   ·have hc1 : ((c : Int) == 0) = false := by simpa using hc0
    go_wp2_with fail
    go_ret2
    exact ⟨⟨_, by rw [← HQ.out]; rfl⟩, HB1.out⟩
 | ok l =>
  obtain ⟨v, rfl, hown⟩ := he
  obtain ⟨oa, cap, rfl⟩ := ownsRow_form hown
  have HR := Lib.hid (StrRow.of_own hown)
  obtain ⟨hl1, hl2⟩ := HLS.out l rfl
  have HL2 := Lib.hid hl2
  have hll : l.length ≤ 32 := hl1
  have HPL := Lib.hid (show (match envL l with | none => false | some ps => decide (0 < ps.length)) = b from by
   have h9 : (match envL l with | none => (([] : List (Str × Str)), false) | some ps => (ps, decide (0 < ps.length))).2 = b := HP.out
   revert h9
   cases envL l <;> exact id)
  clear hown hl2 HP
  go_wp2_with fail
  go_loopg [6, 17] (l.length + 1) (fun f v i wr => ∃ (k : Nat) (done : List (Str × Str)), k ≤ l.length ∧ i = .int .i64 k ∧ l.length - k < f ∧ done.length = k ∧ Hid (wr.ownsRow w1.heap.size 96 2 v done.length (flatL encP done)) ∧ Hid (envL l = (envL (l.drop k)).map fun r => done ++ r) ∧ Hid (Below w1.heap.size w1 wr))
  case atStart => exact ⟨0, [], by omega, rfl, by omega, rfl, World.ownsRow_nil _ _ _ _, (show envL l = (envL (l.drop 0)).map fun r => [] ++ r from by rw [List.drop_zero]; cases envL l <;> simp), Below.refl _ _⟩
  case round =>
   obtain ⟨_, done, hk, rfl, hfu, rfl, Hown, HE, HB⟩ := hrel
   obtain ⟨oa2, cap2, rfl⟩ := ownsRow_form Hown.out
   by_cases hlt : done.length < l.length
   ·have hz : (done.length : Int) < (l.length : Int) := by omega
    obtain ⟨x, hx⟩ : ∃ x, x = l[done.length] := ⟨_, rfl⟩
    obtain ⟨b4, o4, rfl, d0⟩ := (HR.out.below HB.out) done.length hlt
    rw [← hx] at d0
    have hd : l.drop done.length = x :: l.drop (done.length + 1) := by rw [hx]; exact List.drop_eq_getElem_cons hlt
    have hxl : x.length ≤ s.size := by rw [hx]; exact HL2.out _ (List.getElem_mem hlt)
    have hE := HE.out
    rw [hd] at hE
    rw [show envL (x :: l.drop (done.length + 1)) = if (Go.Lib.cut x [61]).2.2 = true ∧ varB (Go.Lib.cut x [61]).1 = true then (envL (l.drop (done.length + 1))).map fun r => ((Go.Lib.cut x [61]).1, (Go.Lib.cut x [61]).2.1) :: r else none from rfl] at hE
    obtain ⟨X, hX⟩ : ∃ X : ByteArray, X = ⟨x.toArray⟩ := ⟨_, rfl⟩
    have hXx : X.data.toList = x := by rw [hX]
    have hXs : X.size = x.length := by rw [hX]; simp [ByteArray.size]
    rw [← hX] at d0
    clear hx hd HE
    rcases eqFrom_cases x 0 with hq | ⟨i, hq, -, hil⟩
    ·have HEQ := Lib.hid (fun V => equalsR_any X V (by omega) (-1) (by rw [hXx]; exact hq))
     have hE2 : envL l = none := by rw [hE, cut_no x hq]; simp
     have HQ := Lib.hid (show false = b from by rw [← HPL.out, hE2])
     clear hE hE2 hX hXx hq
     go_wp2_with fail
     refine (HEQ.out _).mono ?_
     rintro e w2 ⟨rfl, hb2⟩
     have HB2 := Lib.hid (HB.out.trans (hb2.mono HB.out.size))
     clear hb2
     go_wp2_with fail
     go_ret2
     exact ⟨⟨_, by rw [← HQ.out]; rfl⟩, HB1.out.trans (HB2.out.mono HB1.out.size)⟩
    ·have HEQ := Lib.hid (fun V => equalsR_any X V (by omega) i (by rw [hXx]; exact hq))
     rw [cut_yes x i hq] at hE
     simp only [true_and] at hE
     have hA : (X.extract 0 i) = ⟨(x.take i).toArray⟩ := by rw [exFrom, hXx]
     have hC : (X.extract (i + 1) X.size) = ⟨(x.drop (i + 1)).toArray⟩ := by rw [exTo, hXx]
     obtain ⟨c1, hc1⟩ : ∃ c1, c1 = x.take i := ⟨_, rfl⟩
     obtain ⟨c2, hc2⟩ : ∃ c2, c2 = x.drop (i + 1) := ⟨_, rfl⟩
     rw [← hc1] at hA hE
     rw [← hc2] at hC hE
     obtain ⟨y, hy⟩ : ∃ y, varB c1 = y := ⟨_, rfl⟩
     have hcl : c1.length ≤ 1000000000 := by rw [hc1, List.length_take]; omega
     have HVR := Lib.hid (fun W => varName_any ⟨c1.toArray⟩ W (by show c1.toArray.size ≤ _; simp; omega) y hy)
     have HA := Lib.hid hA; have HC := Lib.hid hC
     have hiX : i < X.size := by omega
     have hiZ : (i : Int) < (X.size : Int) := by omega
     have hiZ1 : (i : Int) ≤ (X.size : Int) := by omega
     have hiZ2 : (i : Int) + 1 ≤ (X.size : Int) := by omega
     have hiN : ¬ (i : Int) < 0 := by omega
     have hiP : 0 ≤ (i : Int) + 1 := by omega
     have hiP2 : ¬ (i : Int) + 1 < 0 := by omega
     have hxs : X.size ≤ 1000000000 := by omega
     have hwr : IntKind.i64.wrap ((i : Int) + 1) = (i : Int) + 1 := by rw [IntKind.wrap_i64]; omega
     clear hA hC hc1 hc2 hq hX hXx hil hXs hxl
     cases y with
     | false =>
      have hE2 : envL l = none := by rw [hE, hy]; simp
      have HQ := Lib.hid (show false = b from by rw [← HPL.out, hE2])
      clear hE hE2
      go_wp2_with fail
      refine (HEQ.out _).mono ?_
      rintro e w2 ⟨rfl, hb2⟩
      have HB2 := Lib.hid (HB.out.trans (hb2.mono HB.out.size))
      clear hb2
      go_wp2_with fail
      rw [HA.out]
      refine (HVR.out _).mono ?_
      rintro e w3 ⟨rfl, hb3⟩
      have HB3 := Lib.hid (HB2.out.trans (hb3.mono HB2.out.size))
      clear hb3
      go_wp2_with fail
      go_ret2
      exact ⟨⟨_, by rw [← HQ.out]; rfl⟩, HB1.out.trans (HB3.out.mono HB1.out.size)⟩
     | true =>
      have HE2 := Lib.hid (show envL l = (envL (l.drop (done.length + 1))).map fun r => (done ++ [(c1, c2)]) ++ r from by
       rw [hE, hy]
       cases envL (l.drop (done.length + 1)) <;> simp)
      clear hE hy
      go_wp2_with fail
      refine (HEQ.out _).mono ?_
      rintro e w2 ⟨rfl, hb2⟩
      have HB2 := Lib.hid (HB.out.trans (hb2.mono HB.out.size))
      have HO2 := Lib.hid (own_keeps Hown.out hb2)
      clear hb2
      go_wp2_with fail
      rw [HA.out]
      refine (HVR.out _).mono ?_
      rintro e w3 ⟨rfl, hb3⟩
      have HB3 := Lib.hid (HB2.out.trans (hb3.mono HB2.out.size))
      have HO3 := Lib.hid (own_keeps HO2.out hb3)
      clear hb3 HEQ HVR
      go_wp2_with fail
      refine wp_region_held_drew (S := fun V => Below w1.heap.size w1 V) (by kernel_rfl) (HB3.out.trans (below_dn ⟨1, rfl⟩)) (fun hHeld => ?_)
      try simp only [Act.put, List.setIfInBounds_toArray, List.set_cons_zero, List.set_cons_succ]
      refine wpAnyH_take (i := 0) (v := .slice oa2 done.length cap2) (List.getElem?_toArray.trans rfl) (by kernel_rfl) (by kernel_rfl) (by kernel_rfl) (fun _ _ _ h => h) (Or.inl ⟨by rfl, fun W hW => by clear hW; go_simp⟩) (by assumption) ?_
      try simp only [Act.put, List.setIfInBounds_toArray, List.set_cons_zero, List.set_cons_succ]
      refine wpAnyH_take (i := 1) (v := .string X) (List.getElem?_toArray.trans rfl) (by kernel_rfl) (by kernel_rfl) (by kernel_rfl) (fun _ _ _ h => h) (Or.inl ⟨by rfl, fun W hW => by clear hW; go_simp⟩) (by assumption) ?_
      try simp only [Act.put, List.setIfInBounds_toArray, List.set_cons_zero, List.set_cons_succ]
      refine wpAnyH_take (i := 2) (v := .int .i64 i) (List.getElem?_toArray.trans rfl) (by kernel_rfl) (by kernel_rfl) (by kernel_rfl) (fun _ _ _ h => h) (Or.inl ⟨by rfl, fun W hW => by clear hW; go_simp⟩) (by assumption) ?_
      try simp only [Act.put, List.setIfInBounds_toArray, List.set_cons_zero, List.set_cons_succ]
      refine wpAnyH_take (i := 3) (v := .string (X.extract 0 i)) (List.getElem?_toArray.trans rfl) (by kernel_rfl) (by kernel_rfl) (by kernel_rfl) (fun _ _ _ h => h) (Or.inl ⟨by rfl, fun W hW => by clear hW; go_simp⟩) (by assumption) ?_
      try simp only [Act.put, List.setIfInBounds_toArray, List.set_cons_zero, List.set_cons_succ]
      refine wpAnyH_take (i := 4) (v := .string X) (List.getElem?_toArray.trans rfl) (by kernel_rfl) (by kernel_rfl) (by kernel_rfl) (fun _ _ _ h => h) (Or.inl ⟨by rfl, fun W hW => by clear hW; go_simp⟩) (by assumption) ?_
      try simp only [Act.put, List.setIfInBounds_toArray, List.set_cons_zero, List.set_cons_succ]
      refine wpAnyH_take (i := 5) (v := .int .i64 i) (List.getElem?_toArray.trans rfl) (by kernel_rfl) (by kernel_rfl) (by kernel_rfl) (fun _ _ _ h => h) (Or.inl ⟨by rfl, fun W hW => by clear hW; go_simp⟩) (by assumption) ?_
      try simp only [Act.put, List.setIfInBounds_toArray, List.set_cons_zero, List.set_cons_succ]
      refine wpAnyH_take (i := 6) (v := .int .i64 (i + 1)) (List.getElem?_toArray.trans rfl) (by kernel_rfl) (by kernel_rfl) (by kernel_rfl) (fun _ _ _ h => h) (Or.inl ⟨by rfl, fun W hW => by clear hW; go_simp⟩) (by assumption) ?_
      try simp only [Act.put, List.setIfInBounds_toArray, List.set_cons_zero, List.set_cons_succ]
      refine wpAnyH_take (i := 7) (v := .string (X.extract (i + 1) X.size)) (List.getElem?_toArray.trans rfl) (by kernel_rfl) (by kernel_rfl) (by kernel_rfl) (fun _ _ _ h => h) (Or.inl ⟨by rfl, fun W hW => by clear hW; go_simp⟩) (by assumption) ?_
      try simp only [Act.put, List.setIfInBounds_toArray, List.set_cons_zero, List.set_cons_succ]
      refine wpAnyH_take (i := 8) (v := .agg #[.string (X.extract 0 i), .string (X.extract (i + 1) X.size)]) (List.getElem?_toArray.trans rfl) (by kernel_rfl) (by kernel_rfl) (by kernel_rfl) (fun _ _ _ h => h) (Or.inl ⟨by rfl, fun W hW => by clear hW; go_simp⟩) (by assumption) ?_
      try simp only [Act.put, List.setIfInBounds_toArray, List.set_cons_zero, List.set_cons_succ]
      have hv0 := Lib.hid hHeld
      refine wpAnyH_ready (rs := [9]) (by kernel_rfl) (by simp) (AllReadyH.cons (List.getElem?_toArray.trans rfl) (fun K hK => ?_) (AllReadyH.nil))
      clear hHeld
      go_simp
      have HBa := Lib.hid (show Below w3.heap.size w3 (w3.drew.alloc (.cells #[.string (X.extract 0 i), .string (X.extract (i + 1) X.size)] 96)) from (below_dn (B := w3.heap.size) (b := w3.drew) ⟨1, rfl⟩).alloc (Nat.le_refl _) (.cells #[.string (X.extract 0 i), .string (X.extract (i + 1) X.size)] 96))
      have HOa := Lib.hid (own_keeps HO3.out HBa.out)
      refine hK.out _ _ (HB3.out.trans (HBa.out.mono HB3.out.size)) (fun hHeld => ?_)
      clear hK K
      try simp only [Act.put, List.setIfInBounds_toArray, List.set_cons_zero, List.set_cons_succ]
      refine wpAnyH_ready (rs := [10]) (by kernel_rfl) (by simp) (AllReadyH.cons (List.getElem?_toArray.trans rfl) (fun K hK => ?_) (AllReadyH.nil))
      clear hHeld
      have HCE := Lib.hid (show ∀ j u, ([.string (X.extract 0 i), .string (X.extract (i + 1) X.size)] : List Value)[j]? = some u → ∃ b o, (some (⟨w3.heap.size, 0, none⟩ : Addr)) = some ⟨b, o, none⟩ ∧ (w3.drew.alloc (.cells #[.string (X.extract 0 i), .string (X.extract (i + 1) X.size)] 96)).cell? ⟨b, o + j, none⟩ = some u from fun j u hj => ⟨w3.heap.size, 0, rfl, by
       have q := (rd (heap_alloc_new w3.drew (.cells #[.string (X.extract 0 i), .string (X.extract (i + 1) X.size)] 96))).1 j
       rw [Nat.zero_add]
       exact q.trans (by simpa using hj)⟩)
      refine step_append_rows (by rfl) (.tmp 32) (.tmp 41) 74 (by rfl) w1.heap.size 96 i0 (.agg #[.string ⟨#[]⟩, .string ⟨#[]⟩]) 2 32 Tryz.underlying74 hi0 hz0 hz1 hz2 (by rfl) (by decide) (.slice oa2 done.length cap2) done.length (flatL encP done) (by rfl) HOa.out (some ⟨w3.heap.size, 0, none⟩) 1 1 [.string (X.extract 0 i), .string (X.extract (i + 1) X.size)] (by rfl) (by rfl) HCE.out (by intro u hu; simp at hu; rcases hu with rfl | rfl <;> rfl) (by unfold maxLen; omega) (by omega) (Nat.le_trans HB3.out.size HBa.out.size) ?_
      intro v5 w5 hown5 hgrow5
      have HO5 := Lib.hid (show w5.ownsRow w1.heap.size 96 2 v5 (done ++ [(c1, c2)]).length (flatL encP (done ++ [(c1, c2)])) from by
       rw [flatL_append, List.length_append]
       rw [HA.out, HC.out] at hown5
       exact hown5)
      have HB5 := Lib.hid ((HB3.out.trans (HBa.out.mono HB3.out.size)).grown hgrow5 (Nat.le_trans HB3.out.size HBa.out.size) (fun g hg => (HOa.out.lt g hg).1))
      obtain ⟨oa5, cap5, rfl⟩ := ownsRow_form HO5.out
      refine hK.out _ _ HB5.out (fun hHeld => ?_)
      clear hK K hown5 hgrow5
      try simp only [Act.put, List.setIfInBounds_toArray, List.set_cons_zero, List.set_cons_succ]
      refine wpAnyH_take (i := 11) (v := .slice oa5 (done ++ [(c1, c2)]).length cap5) (List.getElem?_toArray.trans rfl) (by kernel_rfl) (by kernel_rfl) (by kernel_rfl) (fun _ _ _ h => h) (Or.inl ⟨by rfl, fun W hW => by clear hW; go_simp⟩) (by assumption) ?_
      try simp only [Act.put, List.setIfInBounds_toArray, List.set_cons_zero, List.set_cons_succ]
      refine wpAnyH_done (by kernel_rfl) ?_ _
      clear hHeld
      go_wp2_with fail
      go_roundg (l.length - done.length)
      case measure => omega
      case rel => exact ⟨done.length + 1, done ++ [(c1, c2)], by omega, by go_num, by omega, by simp, HO5, HE2, HB5⟩
   ·have hz : ¬ ((done.length : Int) < (l.length : Int)) := by omega
    have hE : envL l = some done := by rw [HE.out, List.drop_eq_nil_of_le (by omega)]; simp [envL]
    have HQ := Lib.hid (show decide (0 < done.length) = b from by rw [← HPL.out, hE])
    clear hE HE
    by_cases h0 : 0 < done.length
    ·have h1 : (0 : Int) < (done.length : Int) := by omega
     have h2 : (done.length : Int) > 0 := by omega
     rw [decide_eq_true h0] at HQ
     go_wp2_with fail
     go_ret2
     exact ⟨⟨_, by rw [← HQ.out]; rfl⟩, HB1.out.trans (HB.out.mono HB1.out.size)⟩
    ·have h1 : ¬ (0 : Int) < (done.length : Int) := by omega
     have h2 : ¬ (done.length : Int) > 0 := by omega
     rw [decide_eq_false h0] at HQ
     go_wp2_with fail
     go_ret2
     exact ⟨⟨_, by rw [← HQ.out]; rfl⟩, HB1.out.trans (HB.out.mono HB1.out.size)⟩
end Go.Proofs.YtdpnahojhmkemaaGreatDoor
