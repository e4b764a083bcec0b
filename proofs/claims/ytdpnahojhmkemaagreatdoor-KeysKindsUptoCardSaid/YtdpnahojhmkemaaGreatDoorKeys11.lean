/-
  Package keys: Check.
-/
import Derived.Test.YtdpnahojhmkemaaGreatDoorKeys10
import Derived.Test.YtdpnahojhmkemaaGreatDoorLinesS
namespace Go.Proofs.YtdpnahojhmkemaaGreatDoor
open Go Go.RowKit
set_option linter.unusedVariables false
set_option linter.unusedSimpArgs false
set_option maxRecDepth 100000

def encLn (x : Ln) : List Value := [.string ⟨x.sec.toArray⟩, .string ⟨x.key.toArray⟩, .string ⟨x.val.toArray⟩, .int .i64 x.at_]
/-- What Check says, ln being Line's answer. -/
def checkS (ln : Ln → Int) : List Ln → Int × Int
  | [] => (0, 0)
  | x :: t => if ln x = 0 then checkS ln t else (ln x, x.at_)

set_option maxHeartbeats 4000000 in
theorem check_any (ln : Ln → Int) (kind : Int) (l : List Ln) (oa : Option Addr) (cap : Nat) (w : World) (hl : l.length ≤ 4294967296) (hM : MaxAt w) (hr : RowRd encLn 4 w oa l)
    (hv : ∀ i (h : i < l.length) W, MaxAt W → Calls Tryz.prog 38 #[.int .i64 kind, .agg (encLn l[i]).toArray] W fun e w' => e = .returned (.int .i64 (ln l[i])) ∧ Below W.heap.size W w') (c a : Int) (hc : checkS ln l = (c, a)) :
    Calls Tryz.prog 17 #[.int .i64 kind, .slice oa l.length cap] w fun e w' => e = .returned (.agg #[.int .i64 c, .int .i64 a]) ∧ Below w.heap.size w w' := by
  have HM := Lib.hid hM; have HR := Lib.hid hr; have HV := Lib.hid hv; have HC := Lib.hid hc
  have HL := Lib.hid hl
  clear hM hr hv hc
  go_enter Tryz.func17, Tryz.ntmps17
  have h0 := Lib.hid (heap_alloc_new w (.cells #[.int .i64 0, .int .i64 0] 37))
  have HB0 := Lib.hid ((Below.refl w.heap.size w).alloc (Nat.le_refl _) (.cells #[.int .i64 0, .int .i64 0] 37))
  go_wp2
  go_loopg [10] l.length (fun f s10 wr => ∃ k : Nat, k + f = l.length ∧ s10 = .int .i64 k ∧ Hid (Below w.heap.size w wr) ∧ Hid (checkS ln (l.drop k) = (c, a)) ∧ Hid (wr.heap[w.heap.size]? = some (.cells #[.int .i64 0, .int .i64 0] 37 (0, 0))))
  case atStart => exact ⟨0, by omega, rfl, HB0, HC, h0⟩
  case round =>
    obtain ⟨k, hk, rfl, HB, HD, HH⟩ := hrel
    clear HC HB0 h0
    obtain ⟨cc, fc, sc, lc⟩ := rd HH.out
    clear sc
    have cc0 := cc 0; have cc1 := cc 1; have fc0 := fc 0; have fc1 := fc 1
    simp only [List.getElem?_toArray, List.getElem?_cons_zero, List.getElem?_cons_succ] at cc0 cc1
    clear cc fc
    by_cases hlt : k < l.length
    · have hz : (k : Int) < (l.length : Int) := by omega
      have hk1 : ((k : Int) + 1) ≤ 4294967296 := by have := HL.out; omega
      have hd : l.drop k = l[k] :: l.drop (k + 1) := List.drop_eq_getElem_cons hlt
      obtain ⟨x, hx⟩ : ∃ x, x = l[k] := ⟨_, rfl⟩
      rw [← hx] at hd
      obtain ⟨b, o, rfl, hblt, hcc⟩ := (HR.out.below HB.out) k hlt
      rw [← hx] at hcc
      have d0 := hcc 0 _ rfl; have d1 := hcc 1 _ rfl; have d2 := hcc 2 _ rfl; have d3 := hcc 3 _ rfl
      simp only [Nat.add_zero] at d0
      have hB1 : Below w.heap.size w (wr.alloc (.cells (encLn x).toArray 44)) := HB.out.trans ((Below.refl _ _).alloc (Nat.le_refl _) _ |>.mono HB.out.size)
      have hcall := HV.out k hlt _ (HM.out.below hB1)
      rw [← hx] at hcall
      have hH1 := heap_alloc HH.out (.cells (encLn x).toArray 44)
      have HCL := Lib.hid hcall; have HB1 := Lib.hid hB1; have HH1 := Lib.hid hH1
      have hD := HD.out
      rw [hd] at hD
      unfold checkS at hD
      clear hcall hB1 hH1 hcc hd hx
      obtain ⟨e, he⟩ : ∃ e, e = ln x := ⟨_, rfl⟩
      rw [← he] at HCL hD
      by_cases h0 : e = 0
      · rw [if_pos h0] at hD
        have HD2 := Lib.hid hD
        subst h0
        clear hD he
        unfold encLn at *
        go_wp2_with fail
        refine HCL.out.mono ?_
        rintro e w2 ⟨rfl, hb2⟩
        have HB2 := Lib.hid (HB1.out.trans (hb2.mono HB1.out.size))
        have HH2 := Lib.hid (heap_below HH1.out hb2)
        clear hb2 HCL HB1 HH1 HH HB HD
        go_wp2_with fail
        go_roundg (l.length - (k + 1))
        case measure => omega
        case rel => exact ⟨k + 1, by omega, by go_num, HB2, HD2, HH2⟩
      · rw [if_neg h0] at hD
        have HD2 := Lib.hid (show e = c ∧ x.at_ = a by simpa using hD)
        clear hD he
        unfold encLn at *
        go_wp2_with fail
        refine HCL.out.mono ?_
        rintro e2 w2 ⟨rfl, hb2⟩
        have HB2 := Lib.hid (HB1.out.trans (hb2.mono HB1.out.size))
        have HH2 := Lib.hid (heap_below HH1.out hb2)
        have hq : (wr.alloc (.cells #[.string ⟨x.sec.toArray⟩, .string ⟨x.key.toArray⟩, .string ⟨x.val.toArray⟩, .int .i64 x.at_] 44)).cell? ⟨wr.heap.size, 3, none⟩ = some (.int .i64 x.at_) := by rw [(rd (heap_alloc_new wr _)).1]; rfl
        have e3 : w2.cell? ⟨wr.heap.size, 3, none⟩ = some (.int .i64 x.at_) := (hb2.cell (p := ⟨wr.heap.size, 3, none⟩) (by simp)).trans hq
        obtain ⟨cc, fc, sc, lc2⟩ := rd HH2.out
        have gc0 := cc 0; have gc1 := cc 1; have hc0 := fc 0; have hc1 := fc 1
        simp only [List.getElem?_toArray, List.getElem?_cons_zero, List.getElem?_cons_succ] at gc0 gc1
        clear cc fc hb2 HCL HB1 HH1 HH HB HD hq cc0 cc1 fc0 fc1 d0 d1 d2 d3
        have hne : wr.heap.size ≠ w.heap.size := by omega
        clear sc lc2 hblt HR HV hk1 hlt hk
        clear lc
        generalize wr.heap.size = L at *
        go_wp2_with fail
        obtain ⟨rfl, rfl⟩ := HD2.out
        refine post_cell 4 37 w.heap.size _ rfl rfl rfl (loadVar_all 37 _ rfl rfl rfl (heap_setCell (heap_setCell HH2.out 0 _) 1 _)) ⟨rfl, ?_⟩
        exact (HB2.out.setCell (Nat.le_refl _) _).setCell (Nat.le_refl _) _
    · have hz : ¬ ((k : Int) < (l.length : Int)) := by omega
      have hd : l.drop k = [] := List.drop_eq_nil_of_le (by omega)
      have HE := Lib.hid (show c = 0 ∧ a = 0 by have := HD.out; rw [hd] at this; simp [checkS] at this; exact ⟨this.1.symm, this.2.symm⟩)
      clear hd
      go_wp2_with fail
      obtain ⟨rfl, rfl⟩ := HE.out
      refine post_cell 4 37 w.heap.size _ rfl rfl rfl (loadVar_all 37 _ rfl rfl rfl (heap_setCell (heap_setCell HH.out 0 _) 1 _)) ⟨rfl, ?_⟩
      exact (HB.out.setCell (Nat.le_refl _) _).setCell (Nat.le_refl _) _
end Go.Proofs.YtdpnahojhmkemaaGreatDoor
