import Derived.Deep.LoopGhost
import Derived.Deep.CutRange
import Derived.Test.YtdjkedcpehhmnaaGreatDoorUP4
import Derived.Test.YtdjkedcpehhmnaaGreatDoorUP43
import Derived.Test.YtdjkedcpehhmnaaGreatDoorUP44
namespace Go.Proofs.YtdjkedcpehhmnaaGreatDoor
open Go Go.RowKit
set_option linter.unusedVariables false
set_option linter.unusedSimpArgs false
set_option maxRecDepth 100000
theorem SpecRow.snoc (nm : Str) : ∀ (l m : List Ln) (x y : Ln), SpecRow nm l m → (∃ v, specS x.val nm = .ok v ∧ y = { x with val := dblS v }) → SpecRow nm (l ++ [x]) (m ++ [y])
 | [], [], _, _, _, h => ⟨h, trivial⟩
 | [], _ :: _, _, _, h, _ => h.elim
 | _ :: _, [], _, _, h, _ => h.elim
 | _ :: t, _ :: r, x, y, ⟨h, ht⟩, hx => ⟨h, SpecRow.snoc nm t r x y ht hx⟩
theorem SpecRow.mem (nm : Str) : ∀ (l m : List Ln), SpecRow nm l m → ∀ y ∈ m, ∃ x ∈ l, ∃ v, specS x.val nm = .ok v ∧ y = { x with val := dblS v }
 | [], [], _, _, h => by cases h
 | [], _ :: _, h, _, _ => h.elim
 | _ :: _, [], h, _, _ => h.elim
 | x :: t, y :: r, ⟨h, ht⟩, z, hz => by
  rcases List.mem_cons.1 hz with rfl | hz
  ·exact ⟨x, by simp, h⟩
  ·obtain ⟨x', hx', q⟩ := SpecRow.mem nm t r ht z hz
   exact ⟨x', by simp [hx'], q⟩
theorem SpecRow.len (nm : Str) : ∀ (l m : List Ln), SpecRow nm l m → m.length = l.length
 | [], [], _ => rfl
 | [], _ :: _, h => h.elim
 | _ :: _, [], h => h.elim
 | x :: t, y :: r, ⟨h, ht⟩ => by simp [SpecRow.len nm t r ht]
theorem dblS_len : ∀ v : Str, (dblS v).length ≤ 2 * v.length
 | [] => by simp [dblS]
 | c :: t => by
  have := dblS_len t
  rw [dblS]
  split <;> simp <;> omega
theorem dblS_snoc : ∀ (v : Str) (c : UInt8), dblS (v ++ [c]) = dblS v ++ (if c = 37 then [37, 37] else [c])
 | [], c => by simp [dblS]
 | d :: t, c => by
  rw [List.cons_append, dblS, dblS, dblS_snoc t c]
  split <;> simp
set_option maxHeartbeats 8000000 in
theorem unitSpec_any (nm : Str) (l : List Ln) (oa : Option Addr) (ca : Nat) (w : World) (hM : MaxAt w) (ha : RowRd encLn 4 w oa l) (za : l.length ≤ 1048576)
  (xa : ∀ x ∈ l, x.val.length ≤ 1048576) (hnm : nm.length ≤ 1048576) :
  Calls Tryz.prog 6 #[.string ⟨nm.toArray⟩, .slice oa l.length ca] w fun e w' => e = .returned (.bool true) ∧ Below w.heap.size w w' := by
 have HSH := h_ (shownU_any w hM)
 have HM := h_ (fun W (h : Below w.heap.size w W) => hM.below h)
 have HRA := h_ (fun W (h : Below w.heap.size w W) => ha.below h)
 have HXA := h_ xa
 obtain ⟨u1, c1, a1, h1⟩ : ∃ u c a, makeU nm l = (u, (c, a)) := ⟨_, _, _, rfl⟩
 have HMA := h_ (fun W (h : Below w.heap.size w W) => makeU_any nm l oa ca W (HM.out W h) (HRA.out W h) (by omega) xa (by omega))
 have HMC := h_ (fun W (h : Below w.heap.size w W) (m : List Ln) (hm : SpecRow nm l m) o cap (hr : RowRd encLn 4 W o m) => show Calls _ _ _ W (fun e w' => MakeOut W (u1, (c1, a1)) e w') from by
  rw [← h1, ← spec_law nm l m hm]
  refine makeU_fit nm m o cap W (HM.out W h) hr (by have := SpecRow.len nm l m hm; omega) (fun y hy => ?_) (by omega)
  obtain ⟨x, hx, v, hv, rfl⟩ := SpecRow.mem nm l m hm y hy
  have h3 := spec_len hv (xa x hx)
  have h4 := dblS_len v
  refine ⟨by show (dblS v).length ≤ _; omega, fun v' hv' => ?_⟩
  have h5 : specS (dblS v) nm = .ok v := specS_dbl x.val nm v hv
  have h6 : specS (dblS v) nm = .ok v' := hv'
  rw [h5] at h6
  injection h6 with h6
  rw [← h6]; exact h3)
 rw [h1] at HMA
 have HT1 := h_ (show TypedU u1 by have := makeU_typed nm l; rw [h1] at this; exact this)
 obtain ⟨i0, hi0, hz0, hz1, hz2⟩ := info_parts infoLn
 clear hM ha xa h1
 go_enter Tryz.func6, Tryz.ntmps6
 go_wp2_with fail
 refine HSH.out.mono ?_
 rintro e w0 ⟨rfl, hb0⟩
 have HB1 := h_ hb0
 clear hb0 HSH
 go_wp2_with fail
 go_loopg [5, 19] (l.length + 1) (fun f m i wr => ∃ (k : Nat) (ms : List Ln), k ≤ l.length ∧ i = .int .i64 k ∧ l.length - k < f ∧ ms.length ≤ k ∧ Hid (wr.ownsRow w.heap.size 43 4 m ms.length (flatL encLn ms)) ∧ Hid (SpecRow nm (l.take k) ms) ∧ Hid (Below w.heap.size w wr))
 case atStart => exact ⟨0, [], by omega, rfl, by omega, by simp, World.ownsRow_nil _ _ _ _, by rw [List.take_zero]; exact trivial, HB1⟩
 case round =>
  obtain ⟨k, ms, hk, rfl, hfu, hml, HO, HS, HB⟩ := hrel
  clear HB1
  obtain ⟨om, cm, rfl⟩ := ownsRow_form HO.out
  by_cases hlt : k < l.length
  ·have hz : (k : Int) < (l.length : Int) := by omega
   obtain ⟨x, hx⟩ : ∃ x, x = l[k] := ⟨_, rfl⟩
   obtain ⟨b4, o4, rfl, -, hcc⟩ := HRA.out wr HB.out k hlt
   rw [← hx] at hcc
   have d0 := hcc 0 _ rfl; have d1 := hcc 1 _ rfl; have d2 := hcc 2 _ rfl; have d3 := hcc 3 _ rfl
   simp only [Nat.add_zero] at d0
   have hxl := HXA.out x (by rw [hx]; exact List.getElem_mem hlt)
   have HS2 := h_ (show ∀ v, specS x.val nm = .ok v → SpecRow nm (l.take (k + 1)) (ms ++ [{ x with val := dblS v }]) from fun v hv => by
    rw [List.take_succ_eq_append_getElem hlt, ← hx]
    exact SpecRow.snoc nm _ _ _ _ HS.out ⟨v, hv, rfl⟩)
   obtain ⟨xsec, xkey, xval, xat⟩ := x
   have hBx : Below wr.heap.size wr (wr.alloc (.cells #[.string ⟨xsec.toArray⟩, .string ⟨xkey.toArray⟩, .string ⟨xval.toArray⟩, .int .i64 xat] 43)) := (Below.refl _ _).alloc (Nat.le_refl _) _
   have HBx := h_ hBx
   have HXB := h_ (heap_alloc_new wr (.cells #[.string ⟨xsec.toArray⟩, .string ⟨xkey.toArray⟩, .string ⟨xval.toArray⟩, .int .i64 xat] 43))
   obtain ⟨r, hr⟩ : ∃ r, specS xval nm = r := ⟨_, rfl⟩
   have HRR := h_ hr
   have HSP := h_ (spec_any ⟨xval.toArray⟩ nm _ (by show xval.toArray.size ≤ _; simp at hxl ⊢; omega) (by omega) (HM.out _ (HB.out.trans (hBx.mono HB.out.size))) r hr)
   have HVL := h_ (fun v (h : r = .ok v) => spec_len (hr.trans h) hxl)
   simp only at HS2
   rw [hr] at HS2
   clear hx hcc hBx HS hr hxl
   go_wp2_with fail
   refine HSP.out.mono ?_
   rintro e w2 ⟨rfl, hb2⟩
   obtain ⟨B, hB⟩ : ∃ B, B = wr.heap.size := ⟨_, rfl⟩
   have HX2 := h_ (heap_below HXB.out hb2)
   have HB2 := h_ (HBx.out.trans (hb2.mono HBx.out.size))
   rw [← hB] at HX2 HB2 ⊢
   have HLB := h_ (show wr.heap.size ≤ B by omega)
   clear hb2 HSP HXB HBx
   have HBW := h_ (show w.heap.size ≤ B by have := HB.out.size; omega)
   clear hB d0 d1 d2 d3
   cases r with
   | error c =>
    have hc0 : ((c : Int) != 0) = true := by rw [bne_iff_ne]; exact spec_err HRR.out
    clear HS2 HVL HRR
    unfold specV
    go_wp2_with fail
    go_ret
    exact ⟨rfl, HB.out.trans (HB2.out.mono HBW.out)⟩
   | ok v =>
    have HS3 := h_ (HS2.out v rfl)
    have hvl := HVL.out v rfl
    clear HS2 HVL HRR
    unfold specV
    obtain ⟨y0, y1, y2, y3⟩ := cells4 HX2.out
    have yf := (rd HX2.out).2.1 2
    obtain ⟨vv, hvv⟩ : ∃ vv : ByteArray, vv = ⟨v.toArray⟩ := ⟨_, rfl⟩
    have HV := h_ (show vv.data.toList = v by rw [hvv])
    have HVS := h_ (show vv.size = v.length by rw [hvv]; simp [ByteArray.size])
    have hvl2 : vv.size ≤ 100000000 := by rw [HVS.out]; exact hvl
    dsimp only
    rw [← hvv]
    clear hvv
    go_wp2_with fail
    have HX3 := h_ (heap_setCell HX2.out 2 (.string ⟨#[]⟩))
    have HB3 := h_ (HB2.out.setCell (p := ⟨B, 2, none⟩) (Nat.le_refl B) (.string ⟨#[]⟩))
    obtain ⟨g1, rfl⟩ : ∃ g, g = gk := ⟨gk, rfl⟩
    obtain ⟨wo, rfl⟩ : ∃ x, x = wr := ⟨wr, rfl⟩
    clear HX2 HB2 y0 y1 y2 y3 yf
    go_loopg [10] (vv.size + 1) (fun f i wi => ∃ n : Nat, n ≤ vv.size ∧ i = .int .i64 n ∧ vv.size - n < f ∧ Hid (wi.heap[B]? = some (.cells #[.string ⟨xsec.toArray⟩, .string ⟨xkey.toArray⟩, .string ⟨(dblS (v.take n)).toArray⟩, .int .i64 xat] 43 (0, 0))) ∧ Hid (Below B wo wi))
    case atStart => exact ⟨0, by omega, rfl, by omega, by rw [List.take_zero]; exact HX3.out, HB3.out⟩
    case round =>
     obtain ⟨n, hn, rfl, hfi, HXi, HBi⟩ := hrel
     clear HX3 HB3
     by_cases hln : n < vv.size
     ·have hlz : (n : Int) < (vv.size : Int) := by omega
      obtain ⟨c, hc⟩ : ∃ c, c = vv[n] := ⟨_, rfl⟩
      have hvs := HVS.out
      have hcl : v[n]'(by omega) = c := by
       have h1 : vv.data.toList[n]'(by simpa using hln) = vv[n] := rfl
       rw [hc, ← h1]
       congr 1
       exact HV.out.symm
      have HDC := h_ (show dblS (v.take (n + 1)) = dblS (v.take n) ++ (if c = 37 then [37, 37] else [c]) by
       rw [List.take_succ_eq_append_getElem (by omega), hcl, dblS_snoc])
      have hdl : (dblS (v.take n)).length ≤ 400000000 := by have := dblS_len (v.take n); rw [List.length_take] at this; omega
      obtain ⟨cur, hcur⟩ : ∃ z, z = dblS (v.take n) := ⟨_, rfl⟩
      rw [← hcur] at HDC HXi hdl
      have hcat := cat_okU (⟨cur.toArray⟩ : ByteArray) (vv.extract n (n + 1)) (by
       have : (⟨cur.toArray⟩ : ByteArray).size = cur.length := by simp [ByteArray.size]
       have h2 : (vv.extract n (n + 1)).size ≤ vv.size := by simp; omega
       omega)
      have hsn : (⟨cur.toArray⟩ : ByteArray) ++ vv.extract n (n + 1) = ⟨(cur ++ [c]).toArray⟩ := by
       apply bytes_ext
       rw [ByteArray.data_append, Array.toList_append, Lib.extract_data, drop_cons vv n hln, show n + 1 - n = 1 by omega, hc]
       simp
      rw [hsn] at hcat
      have HCAT := h_ hcat
      have e1 : ((vv[n].toNat : Int) == (37 : Int)) = (c == 37) := by rw [← hc]; exact (beq_u8 c 37).symm
      have hq2 := cat_lists (cur ++ [c]) [37] (by simp; omega)
      have HCT := h_ (show Op.stringOp .add ⟨(cur ++ [c]).toArray⟩ ⟨#[37]⟩ = pure (.string ⟨(cur ++ [c] ++ [37]).toArray⟩) from hq2)
      clear hc hcl hcat hsn hq2 hcur hvs
      have n3 : IntKind.i64.wrap ((n : Int) + 1) = (n : Int) + 1 := IntWalk.i64_in _ (by omega)
      have n1 : (n : Int) ≤ (n : Int) + 1 := by omega
      have n2 : (n : Int) + 1 ≤ (vv.size : Int) := by omega
      go_wp2_with fail
      refine wp_region_drawT (S := fun V => V.heap[B]? = some (.cells #[.string ⟨xsec.toArray⟩, .string ⟨xkey.toArray⟩, .string ⟨cur.toArray⟩, .int .i64 xat] 43 (0, 0))) 9 (by kernel_rfl) (by kernel_rfl) HXi.out (fun hHeld => ?_)
      try simp only [Act.put, sA_, sB_, sC_]
      refine dT_ (i := 0) (v := .pointer (some ⟨B, 2, none⟩)) (gT_ rfl) (fun W hW => by clear hW; go_simp) ?_
      try simp only [Act.put, sA_, sB_, sC_]
      refine dT_ (i := 1) (v := .string ⟨cur.toArray⟩) (gT_ rfl) (fun W hW => by obtain ⟨y0, y1, y2, y3⟩ := cells4 hW; clear hW; go_simp) ?_
      try simp only [Act.put, sA_, sB_, sC_]
      refine dT_ (i := 2) (v := .string vv) (gT_ rfl) (fun W hW => by clear hW; go_simp) ?_
      try simp only [Act.put, sA_, sB_, sC_]
      refine dT_ (i := 3) (v := .int .i64 n) (gT_ rfl) (fun W hW => by clear hW; go_simp) ?_
      try simp only [Act.put, sA_, sB_, sC_]
      refine dT_ (i := 4) (v := .int .i64 n) (gT_ rfl) (fun W hW => by clear hW; go_simp) ?_
      try simp only [Act.put, sA_, sB_, sC_]
      refine dT_ (i := 5) (v := .int .i64 ((n : Int) + 1)) (gT_ rfl) (fun W hW => by clear hW; go_simp) ?_
      try simp only [Act.put, sA_, sB_, sC_]
      refine dT_ (i := 6) (v := .string (vv.extract n (n + 1))) (gT_ rfl) (fun W hW => by clear hW; go_simp) ?_
      try simp only [Act.put, sA_, sB_, sC_]
      refine dT_ (i := 7) (v := .string ⟨(cur ++ [c]).toArray⟩) (gT_ rfl) (fun W hW => by have hcat := HCAT.out; clear hW; go_simp) ?_
      try simp only [Act.put, sA_, sB_, sC_]
      refine dT_ (i := 8) (v := .pointer (some ⟨B, 2, none⟩)) (gT_ rfl) (fun W hW => by clear hW; go_simp) ?_
      try simp only [Act.put, sA_, sB_, sC_]
      refine drawT_done (by kernel_rfl) ?_
      clear hHeld
      obtain ⟨y0, y1, y2, y3⟩ := cells4 HXi.out
      have yf := (rd HXi.out).2.1 2
      go_upto_region 15 with fail
      have HXn := h_ (show (wr.setCell ⟨B, 2, none⟩ (.string ⟨(cur ++ [c]).toArray⟩)).drew.heap[B]? = some (.cells #[.string ⟨xsec.toArray⟩, .string ⟨xkey.toArray⟩, .string ⟨(cur ++ [c]).toArray⟩, .int .i64 xat] 43 (0, 0)) from heap_setCell HXi.out 2 (.string ⟨(cur ++ [c]).toArray⟩))
      have HBn := h_ ((HBi.out.setCell (p := ⟨B, 2, none⟩) (Nat.le_refl B) (.string ⟨(cur ++ [c]).toArray⟩)).trans (show Below B _ (wr.setCell ⟨B, 2, none⟩ (.string ⟨(cur ++ [c]).toArray⟩)).drew from below_dn ⟨1, rfl⟩))
      generalize (wr.setCell ⟨B, 2, none⟩ (.string ⟨(cur ++ [c]).toArray⟩)).drew = wz at *
      clear y0 y1 y2 y3 yf HXi HBi HCAT
      obtain ⟨y0, y1, y2, y3⟩ := cells4 HXn.out
      have yf := (rd HXn.out).2.1 2
      cases q37 : (c == 37) with
      | true =>
       rw [q37] at e1
       rw [if_pos (eq_of_beq q37)] at HDC
       have hct := HCT.out
       have HX5 := h_ (heap_setCell HXn.out 2 (.string ⟨(cur ++ [c] ++ [37]).toArray⟩))
       have HB5 := h_ (HBn.out.setCell (p := ⟨B, 2, none⟩) (Nat.le_refl B) (.string ⟨(cur ++ [c] ++ [37]).toArray⟩))
       obtain ⟨z, hz⟩ : ∃ z, z = cur ++ [c] ++ [37] := ⟨_, rfl⟩
       rw [← hz] at hct HX5 HB5
       have HZ := h_ (show z = dblS (v.take (n + 1)) by rw [HDC.out, hz, eq_of_beq q37]; simp)
       clear hz HDC q37 HCT
       go_wp2_with fail
       go_roundg (gk - 1)
       case measure => omega
       case rel => exact ⟨n + 1, by omega, by go_num, by omega, by rw [← HZ.out]; exact HX5.out, HB5.out⟩
      | false =>
       rw [q37] at e1
       rw [if_neg (beq_eq_false_iff_ne.1 q37)] at HDC
       clear q37 HCT
       go_wp2_with fail
       go_roundg (gk - 1)
       case measure => omega
       case rel => exact ⟨n + 1, by omega, by go_num, by omega, by rw [HDC.out]; exact HXn.out, HBn.out⟩
     ·have hlz : ¬ ((n : Int) < (vv.size : Int)) := by omega
      have HXe := h_ (show wr.heap[B]? = some (.cells (encLn ⟨xsec, xkey, dblS v, xat⟩).toArray 43 (0, 0)) from by
       have hq := HXi.out
       rw [List.take_of_length_le (by have := HVS.out; omega)] at hq
       exact hq)
      have HBo := h_ (show Below wo.heap.size wo wr from HBi.out.mono HLB.out)
      have hB3 : Below wr.heap.size wr (wr.alloc (.cells (encLn ⟨xsec, xkey, dblS v, xat⟩).toArray 43)) := (Below.refl _ _).alloc (Nat.le_refl _) _
      have hdl := dblS_len v
      obtain ⟨v5, w5, hr5, ho5, hg5⟩ := append_rows (P := Tryz.prog) (w := wr.alloc (.cells (encLn ⟨xsec, xkey, dblS v, xat⟩).toArray 43)) w.heap.size 22 22 43 i0 (.agg #[.string ⟨#[]⟩, .string ⟨#[]⟩, .string ⟨#[]⟩, .int .i64 0]) 4 56 Tryz.underlying22 hi0 hz0 hz1 hz2 (by rfl) (by decide) _ _ _ (own_keeps (own_keeps HO.out HBo.out) hB3) (some ⟨wr.heap.size, 0, none⟩) 1 1 (encLn ⟨xsec, xkey, dblS v, xat⟩) rfl
       (fun j u hu => ⟨wr.heap.size, 0, rfl, by rw [(rd (heap_alloc_new wr _)).1, Nat.zero_add]; simpa using hu⟩) (encLn_one _) (by unfold maxLen; omega) (by omega) (by have h1 := HB.out.size; have h2 := HBo.out.size; have h3 := hB3.size; omega)
      have HR5 := h_ hr5
      have HO5 := h_ (show w5.ownsRow w.heap.size 43 4 v5 (ms ++ [(⟨xsec, xkey, dblS v, xat⟩ : Ln)]).length (flatL encLn (ms ++ [(⟨xsec, xkey, dblS v, xat⟩ : Ln)])) from by
       rw [List.length_append, flatL_append]
       have e : flatL encLn [(⟨xsec, xkey, dblS v, xat⟩ : Ln)] = encLn ⟨xsec, xkey, dblS v, xat⟩ := by simp [flatL]
       rw [e]
       exact ho5)
      have HB5 := h_ (show Below w.heap.size w w5 from by
       have h1 := HB.out.trans (HBo.out.mono HB.out.size)
       have h2 := h1.trans (hB3.mono h1.size)
       exact h2.trans (below_grown hg5 (fun g hg => (HO.out.lt g hg).1) h2.size))
      obtain ⟨y0, y1, y2, y3⟩ := cells4 HXe.out
      clear HXi HBi hr5 ho5 hg5 hB3 HBo hdl
      go_wp2_with (at_builtin; refine wpList_append_run rfl _ _ 22 rfl HR5.out rfl rfl ?_)
      go_roundg (g1 - 1)
      case measure => omega
      case rel => exact ⟨k + 1, _, by omega, by go_num, by omega, by simp; omega, HO5, HS3, HB5⟩
  ·have hk3 : k = l.length := by omega
   subst hk3
   have HS2 := h_ (show SpecRow nm l ms by have := HS.out; rwa [List.take_of_length_le (Nat.le_refl _)] at this)
   clear HS hk hlt hfu
   go_wp2_with fail
   refine (HMA.out wr HB.out).mono ?_
   obtain ⟨wo, rfl⟩ : ∃ x, x = wr := ⟨wr, rfl⟩
   have HRM := h_ (RowRd.of_own encLn_len HO.out)
   clear HO
   rintro e w1 ⟨hb1, cs1, rfl, hrd1⟩
   replace HB := h_ (HB.out.trans (hb1.mono HB.out.size))
   replace HRM := h_ (HRM.out.below hb1)
   have LW1 := h_ HB.out.size
   have HON1 := h_ hrd1.one
   have HSC1 := h_ (show (Tryz.prog.info? 30).map (·.size) = some cs1.size by rw [hrd1.size]; rfl)
   have HSZ1 := h_ (show unitZero.size = cs1.size by rw [hrd1.size]; rfl)
   have HU1 := h_ hrd1
   have HV1 := h_ (Below.refl w1.heap.size w1)
   clear hb1 hrd1
   go_upto_region 20 with (first
    | (refine l_alloc rfl _ unitZero rfl (run_alloc_unit _) ?_; intro wa1 ha1 hba1)
    | (refine l_store rfl 30 (.tmp 11) (.tmp 65) w1.heap.size cs1 unitZero 30 rfl rfl rfl (heap_below ha1 ((Below.refl _ _).alloc (Nat.le_refl _) _)) HSZ1.out HSC1.out HON1.out ?_; intro wb1 hc1 hf1; have tv1 := two_vars ha1 hba1 hc1 hf1; refine l_store rfl 33 (.tmp 12) (.tmp 66) wa1.heap.size #[.int .i64 c1, .int .i64 a1] #[.int .i64 0, .int .i64 0] 33 rfl rfl rfl tv1.1 rfl rfl (one_fault c1 a1) ?_; intro v1 hd1 hg1; have tw1 := two_vars2 hc1 tv1 hg1))
   replace HB := h_ (HB.out.trans (tw1.2.1.mono HB.out.size))
   replace HRM := h_ (HRM.out.below tw1.2.1)
   replace HV1 := h_ (HV1.out.trans (tw1.2.1.mono HV1.out.size))
   have HX1 := h_ tw1.1
   have HF1 := h_ hd1
   have LO1 := h_ tw1.2.2
   clear ha1 hba1 hc1 hf1 tv1 hg1 tw1 hd1
   clear HMA
   go_wp2_with fail
   refine (HMC.out v1 HB.out ms HS2.out om cm HRM.out).mono ?_
   rintro e w2 ⟨hb2, cs2, rfl, hrd2⟩
   replace HB := h_ (HB.out.trans (hb2.mono HB.out.size))
   replace HRM := h_ (HRM.out.below hb2)
   replace HV1 := h_ (HV1.out.trans (hb2.mono HV1.out.size))
   replace HX1 := h_ (heap_below HX1.out hb2)
   replace HF1 := h_ (heap_below HF1.out hb2)
   have L2HX1 := h_ (lt_heap HX1.out)
   have L2HF1 := h_ (lt_heap HF1.out)
   have LW2 := h_ HB.out.size
   have HON2 := h_ hrd2.one
   have HSC2 := h_ (show (Tryz.prog.info? 30).map (·.size) = some cs2.size by rw [hrd2.size]; rfl)
   have HSZ2 := h_ (show unitZero.size = cs2.size by rw [hrd2.size]; rfl)
   have HU2 := h_ hrd2
   have HV2 := h_ (Below.refl w2.heap.size w2)
   clear hb2 hrd2
   go_upto_region 21 with (first
    | (refine l_alloc rfl _ unitZero rfl (run_alloc_unit _) ?_; intro wa2 ha2 hba2)
    | (refine l_store rfl 30 (.tmp 13) (.tmp 71) w2.heap.size cs2 unitZero 30 rfl rfl rfl (heap_below ha2 ((Below.refl _ _).alloc (Nat.le_refl _) _)) HSZ2.out HSC2.out HON2.out ?_; intro wb2 hc2 hf2; have tv2 := two_vars ha2 hba2 hc2 hf2; refine l_store rfl 33 (.tmp 14) (.tmp 72) wa2.heap.size #[.int .i64 c1, .int .i64 a1] #[.int .i64 0, .int .i64 0] 33 rfl rfl rfl tv2.1 rfl rfl (one_fault c1 a1) ?_; intro v2 hd2 hg2; have tw2 := two_vars2 hc2 tv2 hg2))
   replace HB := h_ (HB.out.trans (tw2.2.1.mono HB.out.size))
   replace HRM := h_ (HRM.out.below tw2.2.1)
   replace HV1 := h_ (HV1.out.trans (tw2.2.1.mono HV1.out.size))
   replace HX1 := h_ (heap_below HX1.out tw2.2.1)
   replace HF1 := h_ (heap_below HF1.out tw2.2.1)
   replace HV2 := h_ (HV2.out.trans (tw2.2.1.mono HV2.out.size))
   have HX2 := h_ tw2.1
   have HF2 := h_ hd2
   have LO2 := h_ tw2.2.2
   clear ha2 hba2 hc2 hf2 tv2 hg2 tw2 hd2
   clear HMC
   obtain ⟨g0, g1, -, -⟩ := fault_facts HF1.out
   obtain ⟨k0, k1, -, -⟩ := fault_facts HF2.out
   have HSM := h_ (same10_any cs1 cs2 u1 u1 v2 (HU1.out.below HV1.out).see (HU2.out.below HV2.out).see HT1.out HT1.out true (sameU_refl u1))
   go_wp2_with (first
    | (refine l_load_w rfl 30 (.tmp 11) w1.heap.size cs1 30 _ rfl rfl HX1.out rfl rfl HSC1.out ?_)
    | (refine l_load_w rfl 30 (.tmp 13) w2.heap.size cs2 30 _ rfl rfl HX2.out rfl rfl HSC2.out ?_))
   refine HSM.out.mono ?_
   rintro e w9 ⟨rfl, hb9⟩
   have HB9 := h_ (HB.out.trans (hb9.mono HB.out.size))
   clear hb9
   go_wp2_with fail
   go_ret
   exact ⟨rfl, HB9.out⟩
end Go.Proofs.YtdjkedcpehhmnaaGreatDoor
