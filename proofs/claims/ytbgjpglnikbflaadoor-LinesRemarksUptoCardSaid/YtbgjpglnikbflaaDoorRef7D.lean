/-
  The reference's Parse.
-/
import Derived.Test.YtbgjpglnikbflaaDoorRef7C
import Derived.Test.YtbgjpglnikbflaaDoorLines9
import Derived.IntWalk
namespace Go.Proofs.YtbgjpglnikbflaaDoor
open Go Go.RowKit
set_option linter.unusedVariables false
set_option maxRecDepth 100000

/-- A slice of whole lines: the cells of each. -/
def WhRow (w : World) (oa : Option Addr) (l : List (Str × Nat)) : Prop :=
  ∀ i (h : i < l.length), ∃ b o, oa = some ⟨b, o, none⟩ ∧ w.cell? ⟨b, o + i * 2, none⟩ = some (.string ⟨l[i].1.toArray⟩) ∧ w.cell? ⟨b, o + i * 2 + 1, none⟩ = some (.int .i64 l[i].2)
theorem WhRow.below {w w' : World} {oa : Option Addr} {l : List (Str × Nat)} {B : Nat} (h : WhRow w oa l) (hb : Below B w w') (hB : w.heap.size ≤ B) : WhRow w' oa l := by
  intro i hi
  obtain ⟨b, o, e, h0, h1⟩ := h i hi
  have k := fun (j : Nat) (v : Value) (hc : w.cell? ⟨b, j, none⟩ = some v) => ((hb.cell (p := ⟨b, j, none⟩) (Nat.lt_of_lt_of_le (World.block_lt_of_cell? w _ hc) hB)).trans hc)
  exact ⟨b, o, e, k _ _ h0, k _ _ h1⟩
theorem whVals_get : ∀ (l : List (Str × Nat)) (i : Nat) (h : i < l.length), (whVals l)[i * 2]? = some (.string ⟨l[i].1.toArray⟩) ∧ (whVals l)[i * 2 + 1]? = some (.int .i64 l[i].2)
  | [], i, h => absurd h (by simp)
  | a :: r, 0, h => ⟨rfl, rfl⟩
  | a :: r, i + 1, h => by
    have := whVals_get r i (by simpa using h)
    simp only [whVals, List.getElem_cons_succ]
    rw [show (i + 1) * 2 = i * 2 + 1 + 1 by omega]
    exact this
theorem WhRow.of_own {w : World} {base : Nat} {l : List (Str × Nat)} {oa : Option Addr} {cap : Nat} (h : w.ownsRow base 49 2 (.slice oa l.length cap) l.length (whVals l)) : WhRow w oa l := by
  intro i hi
  rcases h.2 with ⟨_, h0⟩ | ⟨g, cap', cur, hv, hb, hg, hc, hm, hcs, ht⟩
  · omega
  · injection hv with hv _ _
    subst hv
    have key : ∀ j, j < l.length * 2 → w.cell? ⟨g, 0 + j, none⟩ = (whVals l)[j]? := by
      intro j hj
      rw [Nat.zero_add, (rd hg).1, ← ht, List.getElem?_take_of_lt hj]
      simp
    have h2 := whVals_get l i hi
    refine ⟨g, 0, rfl, ?_, ?_⟩
    · rw [key (i * 2) (by omega)]; exact h2.1
    · rw [Nat.add_assoc, key (i * 2 + 1) (by omega)]; exact h2.2

set_option maxHeartbeats 400000 in
theorem parseR_long (s : ByteArray) (w : World) (hs : 20000 < s.size) :
    Calls Tryd.prog 12 #[.string s] w fun e w' => OutP w (.error (2, 0)) e w' := by
  have hs' : (20000 : Int) < (s.size : Int) := by omega
  go_enter Tryd.func12, Tryd.ntmps12
  go_wp2_with fail
  refine bodyPost_ret (v := .tuple #[.slice none 0 0, faultV 2 0]) (by simp [results, Tryd.results12, go_sem, faultV]) rfl ⟨(Below.refl _ _).alloc (Nat.le_refl _) _, rfl⟩

theorem last_cons {c : UInt8} {u : Str} (h : (c :: u).getLast? = some 93) (hc : c ≠ 93) : u.getLast? = some 93 := by
  cases u with
  | nil => simp at h; exact absurd h hc
  | cons a r => rw [List.getLast?_cons_cons] at h; exact h
theorem trimRx (y : ByteArray) (a b : Nat) (hy : y.size ≤ 20001) (w : World) :
    Calls Tryd.prog 27 #[.string (y.extract a b)] w fun e w' => e = .returned (.string ⟨(trimS (y.extract a b).data.toList).toArray⟩) ∧ w = w' :=
  trimR_any _ w (by simp; omega) _ rfl
theorem below_drew {B : Nat} {a w : World} (h : Below B a w) : Below B a w.drew := ⟨h.os, h.tape, h.output, h.size, h.block⟩
theorem bulkW_drop (l : List (Str × Nat)) : ∀ k, bulkW (l.drop k) ≤ bulkW l := by
  induction l with
  | nil => intro k; simp
  | cons x r ih =>
    intro k
    cases k with
    | zero => simp
    | succ k => have := ih k; simp [bulkW]; omega

set_option maxHeartbeats 4000000 in
theorem parseR_any (s : ByteArray) (w : World) (hs : s.size ≤ 20000) (res : Except (Nat × Nat) (List Ln)) (hres : parseR (rowsS s.data.toList) = res) :
    Calls Tryd.prog 12 #[.string s] w fun e w' => OutP w res e w' := by
  have hs' : ¬ (20000 : Int) < (s.size : Int) := by omega
  rw [parseR_eq] at hres
  have hwb := wholesS_bulk ((rowsS s.data.toList).length + 1) (rowsS s.data.toList) 0
  have hwl := wholesS_len ((rowsS s.data.toList).length + 1) (rowsS s.data.toList) 0
  have hrb := rowsS_bulk s.data.toList
  have hrl := rowsS_len s.data.toList
  have hln : s.data.toList.length = s.size := by simp
  rw [hln] at hrb hrl
  rw [hrb] at hwb
  clear hln hrb
  have hwe : wholesS ((rowsS s.data.toList).length + 1) (rowsS s.data.toList) 0 = wholes (rowsS s.data.toList) 0 := rfl
  rw [hwe] at hwb hwl
  have hwl' := Nat.le_trans hwl hrl
  clear hwl hrl hwe
  obtain ⟨ws, hws⟩ : ∃ ws, wholes (rowsS s.data.toList) 0 = ws := ⟨_, rfl⟩
  rw [hws] at hres hwb hwl'
  have Hres := Lib.hid hres; clear hres
  have HC := fun w => Lib.hid (wholesR_any s w hs ws hws)
  clear hws
  obtain ⟨F, hF⟩ : ∃ F, w.heap.size = F := ⟨_, rfl⟩
  obtain ⟨w1, hw1⟩ : ∃ w1, w1 = w.alloc (.cells #[.int .i64 0, .int .i64 0] 26) := ⟨_, rfl⟩
  have hF1 : w1.heap[F]? = some (.cells #[.int .i64 0, .int .i64 0] 26 (0, 0)) := by rw [hw1, ← hF]; exact heap_alloc_new w _
  have hB1 : Below w.heap.size w w1 := by rw [hw1]; exact (Below.refl _ _).alloc (Nat.le_refl _) _
  go_enter Tryd.func12, Tryd.ntmps12
  go_wp2_with fail
  rw [← hw1]
  clear hw1
  refine (HC w1).out.mono ?_
  rintro e w2 ⟨hb2, v, rfl, hv⟩
  obtain ⟨oa, cap, rfl⟩ := ownsRow_form hv
  have HR := Lib.hid (WhRow.of_own hv)
  have HF2 := Lib.hid ((Fr.of_below hb2 (fun _ => False)).heap hF1 (fun e => e))
  have HB2 := Lib.hid (hB1.trans (hb2.mono hB1.size)); clear hB1 hv hF1 hb2
  have HFn := Lib.hid hF; clear hF
  go_wp2_with fail
  go_loopg [4, 5, 18] (ws.length + 1) (fun f v sv i wr => ∃ (k : Nat) (sb : ByteArray) (out : List Ln), k ≤ ws.length ∧ i = .int .i64 k ∧ sv = .string sb ∧ ws.length - k < f ∧ out.length ≤ k ∧ Hid (wr.ownsRow w2.heap.size 34 4 v out.length (lnVals out)) ∧
    Hid (readS (ws.drop k) sb.data.toList out = res) ∧ Hid (Below w2.heap.size w2 wr))
  case atStart => exact ⟨0, ⟨#[]⟩, [], by omega, rfl, rfl, by omega, by simp, World.ownsRow_nil _ _ _ _, by rw [List.drop_zero]; exact Hres.out, Below.refl _ _⟩
  case round =>
    obtain ⟨k, sb, out, hk, rfl, rfl, hfu, hol, Hown, Hq, HB⟩ := hrel
    have hsz := HB.out.size
    have HF := Lib.hid ((Fr.of_below HB.out (fun _ => False)).heap HF2.out (fun e => e))
    by_cases hlt : k < ws.length
    · obtain ⟨b, o, rfl, c0, c1⟩ := (HR.out.below HB.out (Nat.le_refl _)) k hlt
      have hdk : ws.drop k = ws[k] :: ws.drop (k + 1) := List.drop_eq_getElem_cons hlt
      have hbd := bulkW_drop ws k
      rw [hdk] at hbd
      simp only [bulkW] at hbd
      generalize hxe : ws[k] = x at *
      obtain ⟨t, n⟩ := x
      simp only at hbd c0 c1
      have hq := Hq.out
      rw [hdk] at hq
      simp only [readS] at hq
      clear hdk hxe Hq
      obtain ⟨tb, htb⟩ : ∃ tb : ByteArray, tb = ⟨t.toArray⟩ := ⟨_, rfl⟩
      have hbl : tb.data.toList = t := by rw [htb]
      have hts : tb.size ≤ 20001 := by rw [htb]; show t.length ≤ _; omega
      rw [← htb] at c0
      clear htb
      have htl := trimS_len t
      have htl2 : t.length = tb.size := by rw [← hbl]; simp
      rw [htl2] at htl
      have hB3 : Below wr.heap.size wr (wr.alloc (.cells #[.string tb, .int .i64 n] 49)) := (Below.refl _ _).alloc (Nat.le_refl _) _
      have hP3 := heap_alloc_new wr (.cells #[.string tb, .int .i64 n] 49)
      have hF3 := (Fr.of_below hB3 (fun _ => False)).heap HF.out (fun e => e)
      have HB3 := Lib.hid (HB.out.trans (hB3.mono hsz))
      have HOwn3 := Lib.hid (ownsRow_fr Hown.out (Fr.of_below hB3 (fun _ => False)) (fun _ _ _ e => e))
      generalize hw3 : wr.alloc (.cells #[.string tb, .int .i64 n] 49) = w3 at *
      generalize hPn : wr.heap.size = P at *
      have hsz3 : w2.heap.size ≤ w3.heap.size := HB3.out.size
      obtain ⟨p0, -, -, -⟩ := rd hP3
      have d0 : w3.cell? ⟨P, 0, none⟩ = some (.string tb) := by rw [p0]; rfl
      have d1 : w3.cell? ⟨P, 1, none⟩ = some (.int .i64 n) := by rw [p0]; rfl
      clear p0
      obtain ⟨y, hy⟩ : ∃ y : ByteArray, y = ⟨(trimS t).toArray⟩ := ⟨_, rfl⟩
      have hyl : y.data.toList = trimS t := by rw [hy]
      have hys : y.size ≤ 20001 := by rw [hy]; show (trimS t).length ≤ _; omega
      have HT := Lib.hid (show ∀ w, Calls Tryd.prog 27 #[.string tb] w fun e w' => e = .returned (.string y) ∧ w = w' from fun w => by rw [hy]; exact trimR_any tb w (by omega) _ (by rw [hbl]))
      clear hy
      obtain ⟨q, hqe⟩ : ∃ q, eqAtR y.data.toList = q := ⟨_, rfl⟩
      have HE := Lib.hid (show ∀ w, Calls Tryd.prog 28 #[.string y] w fun e w' => e = .returned (.int .i64 q) ∧ w = w' from fun w => equalsR_any y w (by omega) q hqe)
      have HW3 := Lib.hid hw3.symm; clear hw3
      have HPn := Lib.hid hPn; clear hPn
      clear Hown HB hB3 htl htl2
      have HBF := Lib.hid (show Below F w w3 by rw [← HFn.out]; exact HB2.out.trans (HB3.out.mono HB2.out.size))
      have hFlt := lt_heap hF3
      obtain ⟨fc, ff, fs, -⟩ := rd hF3
      have fc0 : w3.cell? ⟨F, 0, none⟩ = some (.int .i64 0) := by rw [fc]; rfl
      have fc1 : w3.cell? ⟨F, 1, none⟩ = some (.int .i64 0) := by rw [fc]; rfl
      have ff0 := ff 0
      have ff1 := ff 1
      have fs' : w3.shape? F = some (26, 2) := fs
      clear fc ff fs hF3
      cases hg : goodS t with
      | false =>
        have HRr := Lib.hid (show res = .error (1, n) by
          rw [← hq]; unfold saysS; rw [hg]; rfl)
        have HG := Lib.hid (show goodS tb.data.toList = false by rw [hbl]; exact hg)
        clear hq hg hbl hyl hqe
        go_wp2_with fail
        rw [← HW3.out]
        simp only [HPn.out]
        go_wp2_with (first
          | (go_at_call 27; refine (HT.out _).mono ?_; rintro e w' ⟨rfl, rfl⟩)
          | (go_at_call 28; refine (HE.out _).mono ?_; rintro e w' ⟨rfl, rfl⟩)
          | (go_at_call 19; refine (cleanR_any _ _ (by omega) _ HG.out).mono ?_; rintro e w' ⟨rfl, rfl⟩))
        go_region
        all_goals
          go_wp2_with fail
          refine bodyPost_ret (v := .tuple #[.slice none 0 0, faultV 1 n]) (by simp [results, Tryd.results12, go_sem, faultV, fc0, fc1]) rfl ?_
          rw [HRr.out]
          exact parse_err' HFn.out HBF.out (by first | exact (Fr.setCell (M := (· = F)) (p := ⟨F, 1, none⟩) (Fr.setCell (M := (· = F)) (p := ⟨F, 0, none⟩) (Fr.refl _ _) (fun _ => rfl) _) (fun _ => rfl) _).drew | exact Fr.setCell (M := (· = F)) (p := ⟨F, 1, none⟩) (Fr.setCell (M := (· = F)) (p := ⟨F, 0, none⟩) (Fr.refl _ _).drew (fun _ => rfl) _) (fun _ => rfl) _) rfl
      | true =>
        have HG := Lib.hid (show goodS tb.data.toList = true by rw [hbl]; exact hg)
        by_cases hl : t.length ≤ 400
        · have e0 : saysS sb.data.toList t = match trimS t with
            | [] => .nothing
            | c :: t =>
              if c == 91 then (if t.getLast? == some 93 && sectB t.dropLast then .sect t.dropLast else .err 10)
              else match cutEq (c :: t) with
                | none => .err 9
                | some (k, v) => if keyB (trimS k) then (if sb.data.toList.isEmpty then .err 10 else .pair (trimS k) (trimS v)) else .err 9 := by
            unfold saysS; rw [if_pos hg, if_pos hl]; rfl
          rw [e0] at hq
          clear e0 hg
          have hl' : ¬ (400 : Int) < (tb.size : Int) := by
            have : t.length = tb.size := by rw [← hbl]; simp
            omega
          clear hl
          cases htr : trimS t with
          | nil =>
            rw [htr] at hq hyl
            simp only at hq
            have hy0 : y.size = 0 := by
              have : y.data.toList.length = y.size := by simp
              rw [hyl] at this; simpa using this.symm
            have := str_nil hy0
            subst this
            have HQ := Lib.hid hq
            clear hq hyl hbl hqe htr hy0
            go_wp2_with fail
            rw [← HW3.out]
            simp only [HPn.out]
            go_wp2_with (first
              | (go_at_call 27; refine (HT.out _).mono ?_; rintro e w' ⟨rfl, rfl⟩)
              | (go_at_call 28; refine (HE.out _).mono ?_; rintro e w' ⟨rfl, rfl⟩)
              | (go_at_call 19; refine (cleanR_any _ _ (by omega) _ HG.out).mono ?_; rintro e w' ⟨rfl, rfl⟩))
            go_roundg (ws.length - k)
            case measure => omega
            case rel => exact ⟨k + 1, sb, out, by omega, by go_num, rfl, by omega, by omega, HOwn3, HQ, HB3⟩
          | cons c u =>
            rw [htr] at hq hyl
            simp only at hq
            obtain ⟨h0, hc⟩ := head_of' hyl
            obtain ⟨n1, n2, n3, n4⟩ := str_ne (s := y) (by omega)
            have hi : y.size - 1 < y.size := by omega
            have hyn : y.size = u.length + 1 := by
              have : y.data.toList.length = y.size := by simp
              rw [← this, hyl]; rfl
            have hlast := last_of y hi
            have e91 : ((y[0].toNat : Int) == 91) = (c == 91) := by rw [hc]; exact beqU' (by decide)
            have i1 : ((y.size : Int) - 1).toNat = y.size - 1 := by omega
            have i2 : 0 ≤ (y.size : Int) - 1 := by omega
            have i3 : (y.size : Int) - 1 < (y.size : Int) := by omega
            have i4 : (y.size : Int) - 1 ≤ (y.size : Int) := by omega
            cases h91 : (c == 91) with
            | true =>
              rw [h91] at hq e91
              simp only [if_true] at hq
              have hc91 := eq_of_beq h91
              cases he : (u.getLast? == some 93) with
              | false =>
                have HRr := Lib.hid (show res = .error (10, n) by
                  rw [← hq, he]; rfl)
                have hne : (y[y.size - 1] == 93) = false := by
                  rw [beq_eq_false_iff_ne]
                  intro e
                  rw [e, hyl] at hlast
                  rw [last_cons hlast (by rw [hc91]; decide)] at he
                  simp at he
                have e93 : ((y[y.size - 1].toNat : Int) == 93) = false := by rw [← hne]; exact beqU' (by decide)
                have e93' : ((y[y.size - 1].toNat : Int) != 93) = true := by simp [bne, e93]
                clear hq he hne hlast hyl hbl hqe htr hc hc91 h91 hyn
                go_wp2_with fail
                rw [← HW3.out]
                simp only [HPn.out]
                go_wp2_with (first
                  | (go_at_call 27; refine (HT.out _).mono ?_; rintro e w' ⟨rfl, rfl⟩)
                  | (go_at_call 28; refine (HE.out _).mono ?_; rintro e w' ⟨rfl, rfl⟩)
                  | (go_at_call 19; refine (cleanR_any _ _ (by omega) _ HG.out).mono ?_; rintro e w' ⟨rfl, rfl⟩))
                go_region
                all_goals
                  go_wp2_with fail
                  refine bodyPost_ret (v := .tuple #[.slice none 0 0, faultV 10 n]) (by simp [results, Tryd.results12, go_sem, faultV, fc0, fc1]) rfl ?_
                  rw [HRr.out]
                  exact parse_err' HFn.out HBF.out (by first | exact (Fr.setCell (M := (· = F)) (p := ⟨F, 1, none⟩) (Fr.setCell (M := (· = F)) (p := ⟨F, 0, none⟩) (Fr.refl _ _) (fun _ => rfl) _) (fun _ => rfl) _).drew | exact Fr.setCell (M := (· = F)) (p := ⟨F, 1, none⟩) (Fr.setCell (M := (· = F)) (p := ⟨F, 0, none⟩) (Fr.refl _ _).drew (fun _ => rfl) _) (fun _ => rfl) _) rfl
              | true =>
                have hu := List.getLast?_eq_some_iff.1 (eq_of_beq he)
                obtain ⟨u', hu⟩ := hu
                have hud : u.dropLast = u' := by rw [hu]; simp
                have hy2 : 2 ≤ y.size := by rw [hyn, hu]; simp
                have hne : (y[y.size - 1] == 93) = true := by
                  have hl2 : (c :: (u' ++ [93])).getLast? = some 93 := by rw [← List.cons_append, List.getLast?_append]; rfl
                  rw [hyl, hu, hl2] at hlast
                  injection hlast with hlast
                  rw [← hlast]; rfl
                have e93 : ((y[y.size - 1].toNat : Int) == 93) = true := by rw [← hne]; exact beqU' (by decide)
                have e93' : ((y[y.size - 1].toNat : Int) != 93) = false := by simp [bne, e93]
                have hx := ext_list y 1 (y.size - 1)
                rw [hyl, List.drop_succ_cons, List.drop_zero, hu, show y.size - 1 - 1 = u'.length by rw [hyn, hu]; simp] at hx
                simp at hx
                have HX := Lib.hid (show (y.extract 1 (y.size - 1)).data.toList = u' by simpa using hx)
                have i5 : max ((y.size : Int) - 1) 1 = (y.size : Int) - 1 := by omega
                have HZ := Lib.hid (show (y.extract 1 (y.size - 1)).size ≤ 9223372036854775807 by simp; omega)
                rw [he, hud] at hq
                clear he hne hlast hyl hbl hqe htr hc hc91 h91 hyn hu hud hx
                cases hsB : sectB u' with
                | false =>
                  rw [hsB] at hq
                  have HRr := Lib.hid (show res = .error (10, n) by rw [← hq]; rfl)
                  have HS := Lib.hid (show sectB (y.extract 1 (y.size - 1)).data.toList = false by rw [HX.out]; exact hsB)
                  clear hq hsB
                  go_wp2_with fail
                  rw [← HW3.out]
                  simp only [HPn.out]
                  go_wp2_with (first
                    | (go_at_call 27; refine (HT.out _).mono ?_; rintro e w' ⟨rfl, rfl⟩)
                    | (go_at_call 28; refine (HE.out _).mono ?_; rintro e w' ⟨rfl, rfl⟩)
                    | (go_at_call 19; refine (cleanR_any _ _ (by omega) _ HG.out).mono ?_; rintro e w' ⟨rfl, rfl⟩)
                    | (go_at_call 29; refine (sectR_any _ _ HZ.out _ HS.out).mono ?_; rintro e w' ⟨rfl, rfl⟩))
                  go_region
                  all_goals
                    go_wp2_with fail
                    refine bodyPost_ret (v := .tuple #[.slice none 0 0, faultV 10 n]) (by simp [results, Tryd.results12, go_sem, faultV, fc0, fc1]) rfl ?_
                    rw [HRr.out]
                    exact parse_err' HFn.out HBF.out (by first | exact (Fr.setCell (M := (· = F)) (p := ⟨F, 1, none⟩) (Fr.setCell (M := (· = F)) (p := ⟨F, 0, none⟩) (Fr.refl _ _) (fun _ => rfl) _) (fun _ => rfl) _).drew | exact Fr.setCell (M := (· = F)) (p := ⟨F, 1, none⟩) (Fr.setCell (M := (· = F)) (p := ⟨F, 0, none⟩) (Fr.refl _ _).drew (fun _ => rfl) _) (fun _ => rfl) _) rfl
                | true =>
                  rw [hsB] at hq
                  simp only [Bool.and_self, if_true] at hq
                  have HQ := Lib.hid (show readS (ws.drop (k + 1)) (y.extract 1 (y.size - 1)).data.toList out = res by rw [HX.out]; exact hq)
                  have HS := Lib.hid (show sectB (y.extract 1 (y.size - 1)).data.toList = true by rw [HX.out]; exact hsB)
                  clear hq hsB
                  go_wp2_with fail
                  rw [← HW3.out]
                  simp only [HPn.out]
                  go_wp2_with (first
                    | (go_at_call 27; refine (HT.out _).mono ?_; rintro e w' ⟨rfl, rfl⟩)
                    | (go_at_call 28; refine (HE.out _).mono ?_; rintro e w' ⟨rfl, rfl⟩)
                    | (go_at_call 19; refine (cleanR_any _ _ (by omega) _ HG.out).mono ?_; rintro e w' ⟨rfl, rfl⟩)
                    | (go_at_call 29; refine (sectR_any _ _ HZ.out _ HS.out).mono ?_; rintro e w' ⟨rfl, rfl⟩))
                  go_roundg (ws.length - k)
                  case measure => omega
                  case rel => exact ⟨k + 1, _, out, by omega, by go_num, rfl, by omega, by omega, HOwn3, HQ, HB3⟩
            | false =>
              rw [h91] at hq e91
              simp only [Bool.false_eq_true, if_false] at hq
              cases hct : cutEq (c :: u) with
              | none =>
                rw [hct] at hq
                have HRr := Lib.hid (show res = .error (9, n) by rw [← hq])
                have : q = -1 := by rw [← hqe, hyl]; unfold eqAtR; rw [hct]
                subst this
                clear hq hct hlast hyl hbl hqe htr hc h91 hyn
                go_wp2_with fail
                rw [← HW3.out]
                simp only [HPn.out]
                go_wp2_with (first
                  | (go_at_call 27; refine (HT.out _).mono ?_; rintro e w' ⟨rfl, rfl⟩)
                  | (go_at_call 28; refine (HE.out _).mono ?_; rintro e w' ⟨rfl, rfl⟩)
                  | (go_at_call 19; refine (cleanR_any _ _ (by omega) _ HG.out).mono ?_; rintro e w' ⟨rfl, rfl⟩))
                go_region
                all_goals
                  go_wp2_with fail
                  refine bodyPost_ret (v := .tuple #[.slice none 0 0, faultV 9 n]) (by simp [results, Tryd.results12, go_sem, faultV, fc0, fc1]) rfl ?_
                  rw [HRr.out]
                  exact parse_err' HFn.out HBF.out (by first | exact (Fr.setCell (M := (· = F)) (p := ⟨F, 1, none⟩) (Fr.setCell (M := (· = F)) (p := ⟨F, 0, none⟩) (Fr.refl _ _) (fun _ => rfl) _) (fun _ => rfl) _).drew | exact Fr.setCell (M := (· = F)) (p := ⟨F, 1, none⟩) (Fr.setCell (M := (· = F)) (p := ⟨F, 0, none⟩) (Fr.refl _ _).drew (fun _ => rfl) _) (fun _ => rfl) _) rfl
              | some kv =>
                obtain ⟨kk, v⟩ := kv
                rw [hct] at hq
                simp only at hq
                have : q = (kk.length : Int) := by rw [← hqe, hyl]; unfold eqAtR; rw [hct]
                subst this
                have hcl := cutEq_len hct
                have hyc : y.data.toList = kk ++ 61 :: v := by rw [hyl, hcl]
                have hkl : kk.length + 1 ≤ y.size := by
                  have : y.data.toList.length = y.size := by simp
                  rw [← this, hyc]; simp
                have hkl' : kk.length ≤ y.size := by omega
                have hkl2 : (kk.length : Int) + 1 ≤ (y.size : Int) := by omega
                obtain ⟨kx, hkx⟩ : ∃ kx, y.extract 0 kk.length = kx := ⟨_, rfl⟩
                obtain ⟨vx, hvx⟩ : ∃ vx, y.extract (kk.length + 1) y.size = vx := ⟨_, rfl⟩
                obtain ⟨tk, htk⟩ : ∃ tk, trimS kk = tk := ⟨_, rfl⟩
                obtain ⟨tv, htv⟩ : ∃ tv, trimS v = tv := ⟨_, rfl⟩
                have hX0 : kx.data.toList = kk := by
                  rw [← hkx, ext_list, hyc]; simp
                have hX1 : vx.data.toList = v := by
                  rw [← hvx, Lib.extract_to_end, hyc]; simp
                have hkxs : kx.size ≤ 9223372036854775807 := by rw [← hkx]; simp; omega
                have hvxs : vx.size ≤ 9223372036854775807 := by rw [← hvx]; simp; omega
                have HTk := Lib.hid (show ∀ w, Calls Tryd.prog 27 #[.string kx] w fun e w' => e = .returned (.string ⟨tk.toArray⟩) ∧ w = w' from fun w => trimR_any kx w hkxs _ (by rw [hX0]; exact htk))
                have HTv := Lib.hid (show ∀ w, Calls Tryd.prog 27 #[.string vx] w fun e w' => e = .returned (.string ⟨tv.toArray⟩) ∧ w = w' from fun w => trimR_any vx w hvxs _ (by rw [hX1]; exact htv))
                have HZk := Lib.hid (show (⟨tk.toArray⟩ : ByteArray).size ≤ 9223372036854775807 by
                  have h1 := trimS_len kk
                  rw [htk] at h1
                  show tk.length ≤ _
                  omega)
                rw [htk, htv] at hq
                have HKx := Lib.hid hkx
                have HVx := Lib.hid hvx
                clear hcl hyc hct hlast hyl hbl hqe htr hc h91 hyn hX0 hX1 hkx hvx htk htv
                cases hkB : keyB tk with
                | false =>
                  rw [hkB] at hq
                  have HRr := Lib.hid (show res = .error (9, n) by rw [← hq]; rfl)
                  have HK := Lib.hid (show keyB (⟨tk.toArray⟩ : ByteArray).data.toList = false from hkB)
                  clear hq hkB
                  go_wp2_with fail
                  rw [← HW3.out]
                  simp only [HPn.out]
                  refine (HT.out _).mono ?_
                  rintro e w' ⟨rfl, rfl⟩
                  go_wp2_with fail
                  refine (HE.out _).mono ?_
                  rintro e w' ⟨rfl, rfl⟩
                  go_wp2_with fail
                  refine (cleanR_any _ _ (by omega) _ HG.out).mono ?_
                  rintro e w' ⟨rfl, rfl⟩
                  go_wp2_with fail
                  rw [HKx.out]
                  refine (HTk.out _).mono ?_
                  rintro e w' ⟨rfl, rfl⟩
                  go_wp2_with fail
                  refine (keyR_any _ _ HZk.out _ HK.out).mono ?_
                  rintro e w' ⟨rfl, rfl⟩
                  go_wp2_with fail
                  go_region
                  all_goals
                    go_wp2_with fail
                    refine bodyPost_ret (v := .tuple #[.slice none 0 0, faultV 9 n]) (by simp [results, Tryd.results12, go_sem, faultV, fc0, fc1]) rfl ?_
                    rw [HRr.out]
                    exact parse_err' HFn.out HBF.out (by first | exact (Fr.setCell (M := (· = F)) (p := ⟨F, 1, none⟩) (Fr.setCell (M := (· = F)) (p := ⟨F, 0, none⟩) (Fr.refl _ _) (fun _ => rfl) _) (fun _ => rfl) _).drew | exact Fr.setCell (M := (· = F)) (p := ⟨F, 1, none⟩) (Fr.setCell (M := (· = F)) (p := ⟨F, 0, none⟩) (Fr.refl _ _).drew (fun _ => rfl) _) (fun _ => rfl) _) rfl
                | true =>
                  rw [hkB] at hq
                  simp only [if_true] at hq
                  have HK := Lib.hid (show keyB (⟨tk.toArray⟩ : ByteArray).data.toList = true from hkB)
                  by_cases hsz0 : sb.size = 0
                  · have := str_nil hsz0
                    subst this
                    have HRr := Lib.hid (show res = .error (10, n) by rw [← hq]; rfl)
                    clear hq hkB hsz0
                    go_wp2_with fail
                    rw [← HW3.out]
                    simp only [HPn.out]
                    refine (HT.out _).mono ?_
                    rintro e w' ⟨rfl, rfl⟩
                    go_wp2_with fail
                    refine (HE.out _).mono ?_
                    rintro e w' ⟨rfl, rfl⟩
                    go_wp2_with fail
                    refine (cleanR_any _ _ (by omega) _ HG.out).mono ?_
                    rintro e w' ⟨rfl, rfl⟩
                    go_wp2_with fail
                    rw [HKx.out]
                    refine (HTk.out _).mono ?_
                    rintro e w' ⟨rfl, rfl⟩
                    go_wp2_with fail
                    refine (keyR_any _ _ HZk.out _ HK.out).mono ?_
                    rintro e w' ⟨rfl, rfl⟩
                    go_wp2_with fail
                    go_region
                    all_goals
                      go_wp2_with fail
                      refine bodyPost_ret (v := .tuple #[.slice none 0 0, faultV 10 n]) (by simp [results, Tryd.results12, go_sem, faultV, fc0, fc1]) rfl ?_
                      rw [HRr.out]
                      exact parse_err' HFn.out HBF.out (by first | exact (Fr.setCell (M := (· = F)) (p := ⟨F, 1, none⟩) (Fr.setCell (M := (· = F)) (p := ⟨F, 0, none⟩) (Fr.refl _ _) (fun _ => rfl) _) (fun _ => rfl) _).drew | exact Fr.setCell (M := (· = F)) (p := ⟨F, 1, none⟩) (Fr.setCell (M := (· = F)) (p := ⟨F, 0, none⟩) (Fr.refl _ _).drew (fun _ => rfl) _) (fun _ => rfl) _) rfl
                  · obtain ⟨m1, m2, m3, m4⟩ := str_ne hsz0
                    have hse : sb.data.toList.isEmpty = false := by rw [← ByteArray.toList_eq]; exact m1
                    rw [hse] at hq
                    simp only [Bool.false_eq_true, if_false] at hq
                    have HQ := Lib.hid hq
                    have hsbe : sb = ⟨sb.data.toList.toArray⟩ := bytes_ext rfl
                    have HSb := Lib.hid hsbe
                    obtain ⟨i0, hi0, hz0, hz1, hz2⟩ := info_parts infoLine
                    have k1 : IntKind.i64.wrap ((kk.length : Int) + 1) = (kk.length : Int) + 1 := IntWalk.i64_in _ (by omega)
                    have k2 : 0 ≤ (kk.length : Int) + 1 := by omega
                    have k3 : ((kk.length : Int) + 1).toNat = kk.length + 1 := by omega
                    clear hq hkB hse hsbe
                    obtain ⟨oav, capv, rfl⟩ := ownsRow_form HOwn3.out
                    go_wp2_with fail
                    rw [← HW3.out]
                    simp only [HPn.out]
                    refine (HT.out _).mono ?_
                    rintro e w' ⟨rfl, rfl⟩
                    go_wp2_with fail
                    refine (HE.out _).mono ?_
                    rintro e w' ⟨rfl, rfl⟩
                    go_wp2_with fail
                    refine (cleanR_any _ _ (by omega) _ HG.out).mono ?_
                    rintro e w' ⟨rfl, rfl⟩
                    go_wp2_with fail
                    rw [HKx.out]
                    refine (HTk.out _).mono ?_
                    rintro e w' ⟨rfl, rfl⟩
                    go_wp2_with fail
                    refine (keyR_any _ _ HZk.out _ HK.out).mono ?_
                    rintro e w' ⟨rfl, rfl⟩
                    go_wp2_with fail
                    go_region_law (first
                      | (go_simp; go_at_call 27; rw [HKx.out]; with_reducible refine (HTk.out _).mono ?_; rintro e w' ⟨rfl, rfl⟩)
                      | (go_simp; go_at_call 27; rw [HVx.out]; with_reducible refine (HTv.out _).mono ?_; rintro e w' ⟨rfl, rfl⟩)
                      | (refine step_append_lies _ (by rfl) _ _ _ (by rfl) w2.heap.size 34 i0 _ 4 56 Tryd.underlying23 hi0 hz0 hz1 hz2 rfl (by omega) (.slice oav out.length capv) out.length (lnVals out) (by rfl) (World.ownsRow.alloc (show World.ownsRow _ w2.heap.size 34 4 (.slice oav out.length capv) out.length (lnVals out) from HOwn3.out) _)
                            ⟨w3.heap.size, 0, none⟩ 1 1 [.string sb, .string ⟨tk.toArray⟩, .string ⟨tv.toArray⟩, .int .i64 n] (by rfl) (by rfl) (World.news_of_block (cs := #[.string sb, .string ⟨tk.toArray⟩, .string ⟨tv.toArray⟩, .int .i64 n]) (t := 34) (fr := (0, 0)) (heap_alloc_new _ _)) (by simp [Value.oneCell'])
                            (by omega) (by unfold maxLen; omega) (by omega) (by simp; omega) (w3.heap.size + 1) (by simp) ?_; intro gg cap5 w5 hown5 hgrow hat5 hlt5
                         have HG5 := Lib.hid (And.intro hgrow hown5)
                         clear hgrow hown5 hat5))
                    all_goals
                      go_wp2_with fail
                      go_roundg (ws.length - k)
                      case measure => omega
                      case rel =>
                        refine ⟨k + 1, sb, out ++ [⟨sb.data.toList, tk, tv, (n : Int)⟩], by omega, by go_num, rfl, by omega, by simp; omega, ?_, HQ, ?_⟩
                        · have h5 := HG5.out.2
                          have hsbe : sb = ⟨sb.data.toList.toArray⟩ := bytes_ext rfl
                          rw [hsbe] at h5
                          rw [lnVals_snoc, List.length_append]
                          exact h5
                        · exact (below_drew (Below.alloc (w := w3) HB3.out hsz3 _)).grown HG5.out.1 (by simp; omega) (fun g hg => (World.ownsRow.lt HOwn3.out g hg).1)
        · have HRr := Lib.hid (show res = .error (2, n) by
            rw [← hq]; unfold saysS; rw [if_pos hg, if_neg hl])
          have hl' : (400 : Int) < (tb.size : Int) := by
            have : t.length = tb.size := by rw [← hbl]; simp
            omega
          clear hq hg hbl hyl hqe hl
          go_wp2_with fail
          rw [← HW3.out]
          simp only [HPn.out]
          go_wp2_with (first
            | (go_at_call 27; refine (HT.out _).mono ?_; rintro e w' ⟨rfl, rfl⟩)
            | (go_at_call 28; refine (HE.out _).mono ?_; rintro e w' ⟨rfl, rfl⟩)
            | (go_at_call 19; refine (cleanR_any _ _ (by omega) _ HG.out).mono ?_; rintro e w' ⟨rfl, rfl⟩))
          go_region
          all_goals
            go_wp2_with fail
            refine bodyPost_ret (v := .tuple #[.slice none 0 0, faultV 2 n]) (by simp [results, Tryd.results12, go_sem, faultV, fc0, fc1]) rfl ?_
            rw [HRr.out]
            exact parse_err' HFn.out HBF.out (by first | exact (Fr.setCell (M := (· = F)) (p := ⟨F, 1, none⟩) (Fr.setCell (M := (· = F)) (p := ⟨F, 0, none⟩) (Fr.refl _ _) (fun _ => rfl) _) (fun _ => rfl) _).drew | exact Fr.setCell (M := (· = F)) (p := ⟨F, 1, none⟩) (Fr.setCell (M := (· = F)) (p := ⟨F, 0, none⟩) (Fr.refl _ _).drew (fun _ => rfl) _) (fun _ => rfl) _) rfl
    · have hd : ws.drop k = [] := List.drop_eq_nil_of_le (by omega)
      have HN := Lib.hid (show res = .ok out by rw [← Hq.out, hd]; rfl)
      obtain ⟨va, vc, rfl⟩ := ownsRow_form Hown.out
      have hF3 := HF.out
      have HBF := Lib.hid (show Below F w wr by rw [← HFn.out]; exact HB2.out.trans (HB.out.mono HB2.out.size))
      have hFlt := lt_heap hF3
      obtain ⟨fc, ff, fs, -⟩ := rd hF3
      have fc0 : wr.cell? ⟨F, 0, none⟩ = some (.int .i64 0) := by rw [fc]; rfl
      have fc1 : wr.cell? ⟨F, 1, none⟩ = some (.int .i64 0) := by rw [fc]; rfl
      have ff0 := ff 0
      have ff1 := ff 1
      have fs' : wr.shape? F = some (26, 2) := fs
      clear fc ff fs hF3 hd
      go_wp2_with fail
      refine bodyPost_ret (v := .tuple #[.slice va out.length vc, faultV 0 0]) (by simp [results, Tryd.results12, go_sem, faultV, fc0, fc1]) rfl ?_
      rw [HN.out]
      have hfr : Fr (· = F) wr ((wr.setCell ⟨F, 0, none⟩ (.int .i64 0)).setCell ⟨F, 1, none⟩ (.int .i64 0)) := Fr.setCell (M := (· = F)) (p := ⟨F, 1, none⟩) (Fr.setCell (M := (· = F)) (p := ⟨F, 0, none⟩) (Fr.refl _ _) (fun _ => rfl) _) (fun _ => rfl) _
      have hlt2 := lt_heap HF2.out
      refine ⟨?_, _, rfl, ?_⟩
      · rw [HFn.out]
        exact HBF.out.trans (hfr.below F (by omega) (fun k hk e => by omega))
      · refine ownsRow_mono (ownsRow_fr Hown.out hfr ?_) HB2.out.size
        intro g hg _ e
        have := (World.ownsRow.lt Hown.out g hg).1
        omega
end Go.Proofs.YtbgjpglnikbflaaDoor
