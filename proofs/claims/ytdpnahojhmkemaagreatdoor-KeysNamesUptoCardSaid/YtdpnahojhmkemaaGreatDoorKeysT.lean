/-
  The reference's IsTemplate.
-/
import Derived.Test.YtdpnahojhmkemaaGreatDoorRef1M
namespace Go.Proofs.YtdpnahojhmkemaaGreatDoor
open Go Go.RowKit
set_option linter.unusedVariables false
set_option linter.unusedSimpArgs false
set_option maxRecDepth 100000

theorem field_cut3 (a b c d : Value) (h : d.cells = #[d]) (W : World) : (Instr.field 79 (.agg #[a, b, c, d]) 3).run Tryz.prog W = .ok d W := by
  first | rfl | simp [Instr.field, go_sem, h]
theorem field_cut2 (a b c d : Value) (h : c.cells = #[c]) (W : World) : (Instr.field 79 (.agg #[a, b, c, d]) 2).run Tryz.prog W = .ok c W := by
  first | rfl | simp [Instr.field, go_sem, h]

theorem istpl_any (s : ByteArray) (w : World) (b : Bool) (hb : ((ofS s.data.toList).at_ && (ofS s.data.toList).inst.isEmpty) = b) :
    Calls Tryz.prog 20 #[.string s] w fun e w' => e = .returned (.bool b) ∧ Below w.heap.size w w' := by
  have HO := Lib.hid (fun W => of_any s W _ rfl)
  obtain ⟨⟨k, pre, inst, at_⟩, hc⟩ : ∃ c, c = ofS s.data.toList := ⟨_, rfl⟩
  rw [← hc] at HO hb
  simp only at HO hb
  clear hc
  have h3 := field_cut3 (.int .i64 k) (.string ⟨pre.toArray⟩) (.string ⟨inst.toArray⟩) (.bool at_) rfl
  have h2 := field_cut2 (.int .i64 k) (.string ⟨pre.toArray⟩) (.string ⟨inst.toArray⟩) (.bool at_) rfl
  cases at_ with
  | false =>
    have HR := Lib.hid (show b = false by rw [← hb]; rfl)
    clear hb
    go_enter Tryz.func20, Tryz.ntmps20
    go_wp2_with fail
    refine (HO.out _).mono ?_
    rintro e w1 ⟨rfl, hb1⟩
    have HB1 := Lib.hid hb1; clear hb1 HO
    go_wp2_with fail
    go_ret
    exact ⟨by rw [HR.out]; rfl, HB1.out⟩
  | true =>
    have HR := Lib.hid (show b = inst.isEmpty by rw [← hb]; simp)
    clear hb
    cases inst with
    | nil =>
      go_enter Tryz.func20, Tryz.ntmps20
      go_wp2_with fail
      refine (HO.out _).mono ?_
      rintro e w1 ⟨rfl, hb1⟩
      have HB1 := Lib.hid hb1; clear hb1
      go_wp2_with fail
      refine (HO.out _).mono ?_
      rintro e w2 ⟨rfl, hb2⟩
      have HB2 := Lib.hid (HB1.out.trans (hb2.mono HB1.out.size)); clear hb2 HO HB1
      go_wp2_with fail
      go_ret
      exact ⟨by rw [HR.out]; rfl, HB2.out⟩
    | cons c t =>
      have hsz : (⟨(c :: t).toArray⟩ : ByteArray).size ≠ 0 := by simp [ByteArray.size]
      obtain ⟨n1, n2, n3, n4⟩ := str_ne hsz
      generalize (⟨(c :: t).toArray⟩ : ByteArray) = q at *
      go_enter Tryz.func20, Tryz.ntmps20
      go_wp2_with fail
      refine (HO.out _).mono ?_
      rintro e w1 ⟨rfl, hb1⟩
      have HB1 := Lib.hid hb1; clear hb1
      go_wp2_with fail
      refine (HO.out _).mono ?_
      rintro e w2 ⟨rfl, hb2⟩
      have HB2 := Lib.hid (HB1.out.trans (hb2.mono HB1.out.size)); clear hb2 HO HB1
      go_wp2_with fail
      go_ret
      exact ⟨by rw [HR.out]; rfl, HB2.out⟩
end Go.Proofs.YtdpnahojhmkemaaGreatDoor
