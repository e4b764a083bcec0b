/-
  matinslaw7: LinesBack's walk.
-/
import Derived.Test.YtbgjpglnikbflaaDoorLaw7P
import Derived.Test.YtbgjpglnikbflaaDoorLawLn
namespace Go.Proofs.YtbgjpglnikbflaaDoor
open Go Go.RowKit
set_option linter.unusedVariables false
set_option maxRecDepth 100000

theorem run_neq_fault (a b c d : Int) (r : Bool) (h : (a == c && b == d) = r) (w : World) : (binOp .neq 26 (.agg #[.int .i64 a, .int .i64 b]) (.agg #[.int .i64 c, .int .i64 d])).run Tryd.prog w = .ok (.bool (!r)) w := by
  rw [run_neq_struct, eqFault, h]; rfl

/-- How much stands in lines. -/
def sumV : List Ln → Nat
  | [] => 0
  | x :: r => x.sec.length + x.key.length + x.val.length + sumV r
theorem read_small : ∀ (ws : List (Str × Nat)) (sec : Str) (out l : List Ln), readS ws sec out = .ok l → sec.length ≤ 20 → (∀ x ∈ out, x.sec.length ≤ 20 ∧ x.key.length ≤ 40 ∧ x.val.length ≤ 400) → ∀ x ∈ l, x.sec.length ≤ 20 ∧ x.key.length ≤ 40 ∧ x.val.length ≤ 400
  | [], _, out, l, h, hs, ho => by
    simp only [readS] at h
    injection h with h; subst h; exact ho
  | (s, n) :: r, sec, out, l, h, hs, ho => by
    simp only [readS] at h
    split at h
    · cases h
    · exact read_small r sec out l h hs ho
    · rename_i name hsy
      have := (sectB_parts (says_sect hsy).1).2.1
      exact read_small r name out l h this ho
    · rename_i k v hsy
      obtain ⟨h1, h2, h3, h4, h5, h6⟩ := says_pair hsy
      have hk := (keyB_parts h2).2.1
      refine read_small r sec _ l h hs ?_
      intro x hx
      rcases List.mem_append.1 hx with hx | hx
      · exact ho x hx
      · simp at hx
        subst hx
        exact ⟨hs, hk, by simp; omega⟩
theorem parse_small {t : Str} {l : List Ln} (h : parseS t = .ok l) : l.length ≤ 100000000 ∧ (∀ x ∈ l, LnSmall x) ∧ (writeS l).length ≤ 1000000000 := by
  have hlen := parse_len h
  have hs : ∀ x ∈ l, x.sec.length ≤ 20 ∧ x.key.length ≤ 40 ∧ x.val.length ≤ 400 := by
    unfold parseS at h
    split at h
    · exact read_small _ _ _ _ h (by simp) (by simp)
    · cases h
  refine ⟨by omega, fun x hx => ?_, ?_⟩
  · have := hs x hx
    exact ⟨by omega, by omega, by omega⟩
  · have key : ∀ (l : List Ln), (∀ x ∈ l, x.sec.length ≤ 20 ∧ x.key.length ≤ 40 ∧ x.val.length ≤ 400) → sumLn l ≤ 500 * l.length := by
      intro l
      induction l with
      | nil => intro _; simp [sumLn]
      | cons x r ih =>
        intro hx
        have h1 := hx x (by simp)
        have h2 := ih (fun y hy => hx y (by simp [hy]))
        simp only [sumLn, List.length_cons]
        omega
    have h1 := key l hs
    have h2 := sumLn_text l none
    unfold writeS
    omega

set_option maxHeartbeats 4000000 in
theorem back_walk7 (s : ByteArray) (w : World) (hs : s.size ≤ 1048576) (hm : MaxAt w) :
    Calls Tryd.prog 6 #[.string s] w fun e w' => e = .returned (.bool true) ∧ Below w.heap.size w w' := by
  have g1 := guard_fault
  cases hres : parseS s.data.toList with
  | error x =>
    obtain ⟨c, n⟩ := x
    have hc := parse_err hres
    have hc0 : ((c : Int) != 0) = true := by rw [bne_iff_ne]; omega
    have Hres := Lib.hid hres; clear hres
    have r1 := run_neq_fault c n 0 0 false (by have : ((c : Int) == 0) = false := by (rw [beq_eq_false_iff_ne]; omega)
                                               rw [this]; rfl)
    have hn0 : (0 : Int) ≤ (n : Int) := by omega
    go_enter Tryd.func6, Tryd.ntmps6
    go_wp2_with fail
    refine (shown_any _ hm).mono ?_
    rintro e w1 ⟨rfl, hb1⟩
    have hm1 := hm.below hb1
    have HB1 := Lib.hid hb1; clear hb1 hm
    go_wp2_with fail
    refine (parse_all _ _ hm1 (by omega) _ Hres.out).mono ?_
    rintro e w2 ⟨hb2, rfl⟩
    have HB2 := Lib.hid (HB1.out.trans (hb2.mono HB1.out.size)); clear hb2 HB1 hm1 hc
    unfold faultV
    have ha := (Below.refl w2.heap.size w2).alloc (Nat.le_refl _) (.cells #[.int .i64 c, .int .i64 n] 26)
    have HB3 := Lib.hid (HB2.out.trans (ha.mono HB2.out.size)); clear ha HB2
    go_wp2_with fail
    go_ret
    exact ⟨rfl, HB3.out⟩
  | ok l =>
    obtain ⟨hl, hx, hw⟩ := parse_small hres
    have HX := Lib.hid hx; clear hx
    have r0 := run_neq_fault 0 0 0 0 true (by decide)
    have r1 := run_eql_fault 0 0 0 0 true (by decide)
    have hmay := fun hg ht => parse_may hres hg ht
    have HMay := Lib.hid hmay; clear hmay
    have Hres := Lib.hid hres; clear hres
    go_enter Tryd.func6, Tryd.ntmps6
    go_wp2_with fail
    refine (shown_any _ hm).mono ?_
    rintro e w1 ⟨rfl, hb1⟩
    have hm1 := hm.below hb1
    have HB1 := Lib.hid hb1; clear hb1
    go_wp2_with fail
    refine (parse_all _ _ hm1 (by omega) _ Hres.out).mono ?_
    rintro e w2 ⟨hb2, v, rfl, hv⟩
    obtain ⟨oa, cap, rfl⟩ := ownsRow_form hv
    have HR2 := Lib.hid (LnRow.of_own hv)
    have HB2 := Lib.hid (HB1.out.trans (hb2.mono HB1.out.size)); clear hb2 HB1 hm1 hv
    unfold faultV
    have ha := (Below.refl w2.heap.size w2).alloc (Nat.le_refl _) (.cells #[.int .i64 0, .int .i64 0] 26)
    have hp := heap_alloc_new w2 (.cells #[.int .i64 0, .int .i64 0] 26)
    have HRa := Lib.hid (HR2.out.below ha (Nat.le_refl _)); clear HR2
    have HB3 := Lib.hid (HB2.out.trans (ha.mono HB2.out.size)); clear ha HB2
    go_wp2_with fail
    generalize w2.alloc (.cells #[.int .i64 0, .int .i64 0] 26) = wa at *
    clear hp
    go_loopg [35] (l.length + 1) (fun f i wr => ∃ k : Nat, k ≤ l.length ∧ i = .int .i64 k ∧ l.length - k < f ∧ Hid (∀ y ∈ l.take k, goesOn y.val = false) ∧ Hid (Below wa.heap.size wa wr))
    case atStart => exact ⟨0, by omega, rfl, by omega, (by intro y hy; simp at hy), Below.refl _ _⟩
    case round =>
      obtain ⟨k, hk, rfl, hfu, Hg, HB⟩ := hrel
      by_cases hlt : k < l.length
      · obtain ⟨bb, o, rfl, c0, c1, c2, c3⟩ := (HRa.out.below HB.out (Nat.le_refl _)) k hlt
        have hxk := HX.out l[k] (List.getElem_mem _)
        obtain ⟨sx, hsx⟩ : ∃ sx : ByteArray, sx = ⟨l[k].sec.toArray⟩ := ⟨_, rfl⟩
        obtain ⟨kx, hkx⟩ : ∃ kx : ByteArray, kx = ⟨l[k].key.toArray⟩ := ⟨_, rfl⟩
        obtain ⟨vx, hvx⟩ : ∃ vx : ByteArray, vx = ⟨l[k].val.toArray⟩ := ⟨_, rfl⟩
        rw [← hsx] at c0
        rw [← hkx] at c1
        rw [← hvx] at c2
        have zv : vx.size ≤ 1000000000 := by rw [hvx]; exact hxk.val
        have hvl : vx.data.toList = l[k].val := by rw [hvx]
        have HVl := Lib.hid hvl; clear hsx hkx hvx hvl
        generalize l[k].at_ = xat at c3
        have HB3k := Lib.hid (HB.out.trans ((show Below wr.heap.size wr (wr.alloc (.cells #[.string sx, .string kx, .string vx, .int .i64 xat] 34)) from (Below.refl _ _).alloc (Nat.le_refl _) _).mono HB.out.size))
        have Hend := Lib.hid (HB3.out.trans (HB3k.out.mono HB3.out.size))
        have key : (vx.size = 0 ∨ ∃ hz : vx.size - 1 < vx.size, (vx[vx.size - 1] == 92) = false) ∨ ∃ hz : vx.size - 1 < vx.size, (vx[vx.size - 1] == 92) = true := by
          by_cases hz : vx.size = 0
          · exact .inl (.inl hz)
          · cases h : (vx[vx.size - 1]'(by omega) == 92)
            · exact .inl (.inr ⟨by omega, h⟩)
            · exact .inr ⟨by omega, h⟩
        rcases key with (hz | ⟨hz, hb⟩) | ⟨hz, hb⟩
        · have := str_nil hz
          subst this
          have HG := Lib.hid (show ∀ y ∈ l.take (k + 1), goesOn y.val = false by
            intro y hy
            rw [List.take_succ_eq_append_getElem hlt] at hy
            rcases List.mem_append.1 hy with hy | hy
            · exact Hg.out y hy
            · simp at hy; subst hy; rw [← HVl.out]; rfl)
          clear hz
          go_wp2_with fail
          go_roundg (l.length - k)
          case measure => omega
          case rel => exact ⟨k + 1, by omega, by go_num, by omega, HG, HB3k⟩
        · have HG := Lib.hid (show ∀ y ∈ l.take (k + 1), goesOn y.val = false by
            intro y hy
            rw [List.take_succ_eq_append_getElem hlt] at hy
            rcases List.mem_append.1 hy with hy | hy
            · exact Hg.out y hy
            · simp at hy; subst hy; rw [← HVl.out, goesOn_last hz]; exact hb)
          have i1 : ((vx.size : Int) - 1).toNat = vx.size - 1 := by omega
          have i2 : 0 ≤ (vx.size : Int) - 1 := by omega
          have i3 : (vx.size : Int) - 1 < (vx.size : Int) := by omega
          have i4 : (0 : Int) < (vx.size : Int) := by omega
          have e92 : ((vx[vx.size - 1].toNat : Int) == 92) = false := by rw [← hb]; exact beqU' (by decide)
          clear hb
          go_wp2_with fail
          go_roundg (l.length - k)
          case measure => omega
          case rel => exact ⟨k + 1, by omega, by go_num, by omega, HG, HB3k⟩
        · have i1 : ((vx.size : Int) - 1).toNat = vx.size - 1 := by omega
          have i2 : 0 ≤ (vx.size : Int) - 1 := by omega
          have i3 : (vx.size : Int) - 1 < (vx.size : Int) := by omega
          have i4 : (0 : Int) < (vx.size : Int) := by omega
          have e92 : ((vx[vx.size - 1].toNat : Int) == 92) = true := by rw [← hb]; exact beqU' (by decide)
          clear hb
          go_wp2_with fail
          go_ret
          exact ⟨rfl, Hend.out⟩
      · have : k = l.length := by omega
        subst this
        have Hend := Lib.hid (HB3.out.trans (HB.out.mono HB3.out.size))
        have hg := Hg.out
        rw [List.take_length] at hg
        by_cases h9 : s.size ≤ 9000
        · have h9' : ¬ (9000 : Int) < (s.size : Int) := by omega
          have hlen : s.data.toList.length = s.size := by simp
          have hmy := HMay.out hg (by rw [hlen]; exact h9)
          have hpw := parse_write hmy
          obtain ⟨m, hpw, hsame⟩ : ∃ m, parseS (writeS l) = .ok m ∧ sameLns l m := ⟨_, hpw, num_same l none 0⟩
          have h20 := (mayS_parts hmy).2
          have Hs := Lib.hid (show printS l = writeS l by unfold printS; rw [hmy]; rfl)
          have Hmy := Lib.hid hmy
          have HP := Lib.hid hpw
          have HS := Lib.hid hsame
          have hml := parse_len hpw
          have hmr := (hm.below HB3.out).below HB.out
          have HRr := Lib.hid (HRa.out.below HB.out (Nat.le_refl _))
          clear hg hlen hmy hpw hsame
          go_wp2_with fail
          refine (print_any oa cap l _ HRr.out hl HX.out hw _ Hs.out).mono ?_
          rintro e w4 ⟨rfl, hb4⟩
          have hm4 := hmr.below hb4
          have HR4 := Lib.hid (HRr.out.below hb4 (Nat.le_refl _))
          have HB4 := Lib.hid (Hend.out.trans (hb4.mono Hend.out.size)); clear hb4 Hend HRr hmr
          go_wp2_with fail
          refine (parse_all ⟨(writeS l).toArray⟩ _ hm4 (by show (writeS l).length ≤ _; omega) _ HP.out).mono ?_
          rintro e w5 ⟨hb5, v, rfl, hv⟩
          obtain ⟨ob, capm, rfl⟩ := ownsRow_form hv
          have HM5 := Lib.hid (LnRow.of_own hv)
          have HR5 := Lib.hid (HR4.out.below hb5 (Nat.le_refl _))
          have HB5 := Lib.hid (HB4.out.trans (hb5.mono HB4.out.size)); clear hb5 HB4 hm4 hv HR4
          unfold faultV
          have ha5 := (Below.refl w5.heap.size w5).alloc (Nat.le_refl _) (.cells #[.int .i64 0, .int .i64 0] 26)
          have hp5 := heap_alloc_new w5 (.cells #[.int .i64 0, .int .i64 0] 26)
          have HM6 := Lib.hid (HM5.out.below ha5 (Nat.le_refl _)); clear HM5
          have HR6 := Lib.hid (HR5.out.below ha5 (Nat.le_refl _)); clear HR5
          have HB6 := Lib.hid (HB5.out.trans (ha5.mono HB5.out.size)); clear HB5
          go_wp2_with fail
          generalize w5.alloc (.cells #[.int .i64 0, .int .i64 0] 26) = w6 at *
          generalize w5.heap.size = P5 at hp5 ⊢
          have Hp5 := Lib.hid hp5; clear hp5 ha5
          refine (mayAll_any oa cap l _ HR6.out hl HX.out hw _ Hmy.out).mono ?_
          rintro e w7 ⟨rfl, hb7⟩
          have HM7 := Lib.hid (HM6.out.below hb7 (Nat.le_refl _)); clear HM6
          have HR7 := Lib.hid (HR6.out.below hb7 (Nat.le_refl _)); clear HR6
          have HB7 := Lib.hid (HB6.out.trans (hb7.mono HB6.out.size)); clear HB6
          obtain ⟨f0, f1, -⟩ := fault_cells (heap_below Hp5.out hb7)
          clear hb7
          go_wp2_with fail
          refine (same_yes oa ob cap capm l m _ HR7.out HM7.out hl HS.out).mono ?_
          rintro e w8 ⟨rfl, hb8⟩
          have HB8 := Lib.hid (HB7.out.trans (hb8.mono HB7.out.size)); clear hb8 HB7
          go_wp2_with fail
          go_ret
          exact ⟨rfl, HB8.out⟩
        · have h9' : (9000 : Int) < (s.size : Int) := by omega
          clear hg
          go_wp2_with fail
          go_ret
          exact ⟨rfl, Hend.out⟩
end Go.Proofs.YtbgjpglnikbflaaDoor
