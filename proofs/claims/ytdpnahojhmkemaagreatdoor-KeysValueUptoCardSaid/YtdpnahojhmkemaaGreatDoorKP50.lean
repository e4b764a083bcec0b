import Derived.Test.YtdpnahojhmkemaaGreatDoorKP3
import Derived.Test.YtdpnahojhmkemaaGreatDoorKP47
import Derived.Test.YtdpnahojhmkemaaGreatDoorKP49
namespace Go.Proofs.YtdpnahojhmkemaaGreatDoor
open Go Go.RowKit
set_option linter.unusedVariables false
set_option maxRecDepth 100000
theorem LnRow.rd {w : World} {oa : Option Addr} {l : List Ln} (h : LnRow w oa l) : RowRd encLn 4 w oa l := by
 intro i hi
 obtain ⟨b, o, e, h0, h1, h2, h3⟩ := h i hi
 refine ⟨b, o, e, World.block_lt_of_cell? w _ h0, fun j v hj => ?_⟩
 rcases j with _ | _ | _ | _ | j
 ·simp [encLn] at hj; subst hj; exact h0
 ·simp [encLn] at hj; subst hj; exact h1
 ·simp [encLn] at hj; subst hj; exact h2
 ·simp [encLn] at hj; subst hj; exact h3
 ·simp [encLn] at hj
end Go.Proofs.YtdpnahojhmkemaaGreatDoor
namespace Go.Proofs.YtdpnahojhmkemaaGreatDoor
open Go Go.RowKit
set_option linter.unusedVariables false
set_option linter.unusedSimpArgs false
set_option maxRecDepth 100000
set_option maxHeartbeats 4000000 in
theorem keysCheck_any (kind : Int) (l : List Ln) (oa : Option Addr) (cap : Nat) (w : World) (hM : MaxAt w) (hr : LnRow w oa l) (hz : sumLn l ≤ 1048576) :
  Calls Tryz.prog 5 #[.int .i64 kind, .slice oa l.length cap] w fun e w' => e = .returned (.bool true) ∧ Below w.heap.size w w' := by
 have HSH := Lib.hid (shown_any w hM)
 have HM := Lib.hid (fun W (h : Below w.heap.size w W) => hM.below h)
 have HR := Lib.hid (fun W (h : Below w.heap.size w W) => hr.rd.below h)
 have hll : l.length ≤ 4294967296 := by have := sumLn_len l; omega
 have HXV := Lib.hid (fun x (hx : x ∈ l) => show x.val.length ≤ 1000000000 by have := sumLn_mem hx; omega)
 obtain ⟨c, a, hc⟩ : ∃ c a, checkS (lnS kind) l = (c, a) := ⟨_, _, rfl⟩
 have HC := Lib.hid hc
 clear hM hr hc hz
 go_enter Tryz.func5, Tryz.ntmps5
 go_wp2_with fail
 refine HSH.out.mono ?_
 rintro e w1 ⟨rfl, hb1⟩
 have HB1 := Lib.hid hb1
 have HP := Lib.hid (check_key kind l oa cap w1 hll (HM.out w1 hb1) (HR.out w1 hb1) HXV.out c a HC.out)
 clear hb1 HSH
 go_wp2_with fail
 refine HP.out.mono ?_
 rintro e w2 ⟨rfl, hb2⟩
 have HB2 := Lib.hid (HB1.out.trans (hb2.mono HB1.out.size))
 have HQ := Lib.hid (checkR_any kind l oa cap w2 hll (HM.out w2 HB2.out) (HR.out w2 HB2.out) HXV.out c a HC.out)
 clear hb2 HP
 go_wp2_with fail
 refine HQ.out.mono ?_
 rintro e w3 ⟨rfl, hb3⟩
 have HB3 := Lib.hid (HB2.out.trans (hb3.mono HB2.out.size))
 clear hb3 HQ
 go_wp2_with fail
 go_ret
 exact ⟨by simp, HB3.out⟩
end Go.Proofs.YtdpnahojhmkemaaGreatDoor
namespace Go.Proofs.YtdpnahojhmkemaaGreatDoor
open Go Go.RowKit Go.ChangeShapes Go.WideShapes
set_option linter.unusedVariables false
set_option linter.unusedSimpArgs false
set_option maxRecDepth 100000
theorem open_txtsK {H : Type} {enc : TypeId × Value → H} {W : World} {a0 : Option Addr} {len cap : Nat} {d : DataW H} {ps : List MemPlace} {fuel : Nat}
  (hf : DataW.trod enc Tryz.prog W 0 (fun _ => true) true fuel 26 [.slice a0 len cap] = some (d, ps)) :
  ∃ l : List Str, len = l.length ∧ StrRow W a0 l ∧ l.length < Rows.uptoBulk d := by
 rcases open_strings Tryz.underlying26 Tryz.underlying9 (by kernel_rfl) hf with ⟨hcs, hx⟩ | ⟨a, len', cap', ss, hcs, _, hl, hm, hz, hx, hcell, hws⟩
 ·simp at hcs
  obtain ⟨rfl, rfl, rfl⟩ := hcs
  simp only [Prod.mk.injEq] at hx
  obtain ⟨rfl, rfl⟩ := hx
  exact ⟨[], rfl, StrRow.nil _ _, by simp [Rows.uptoBulk]⟩
 ·simp at hcs
  obtain ⟨rfl, rfl, rfl⟩ := hcs
  simp only [Prod.mk.injEq] at hx
  obtain ⟨rfl, rfl⟩ := hx
  simp only [if_true] at hz
  refine ⟨(ss.take len).map (·.data.toList), ?_, ?_, ?_⟩
  ·simp; omega
  ·intro i hi
   simp at hi
   have hc := hcell i (by omega)
   obtain ⟨b, o, sp⟩ := a
   by_cases h0 : i = 0
   ·subst h0
    have e : (⟨b, o, sp⟩ : Addr).add 0 = ⟨b, o, sp⟩ := rfl
    rw [e] at hc
    have hsp : sp = none := by
     cases sp with
     | none => rfl
     | some x => simp [World.cell?] at hc; split at hc <;> simp at hc
    subst hsp
    exact ⟨b, o, rfl, by simpa [List.getD_eq_getElem?_getD, (by omega : 0 < ss.length)] using hc⟩
   ·have hc0 := hcell 0 (by omega)
    have e : (⟨b, o, sp⟩ : Addr).add 0 = ⟨b, o, sp⟩ := rfl
    rw [e] at hc0
    have hsp : sp = none := by
     cases sp with
     | none => rfl
     | some x => simp [World.cell?] at hc0; split at hc0 <;> simp at hc0
    subst hsp
    have e2 : (⟨b, o, none⟩ : Addr).add i = ⟨b, o + i, none⟩ := by unfold Addr.add; rw [if_neg h0]
    rw [e2] at hc
    exact ⟨b, o, rfl, by simpa [List.getD_eq_getElem?_getD, (by omega : i < ss.length)] using hc⟩
  ·have h1 : (strs (H := H) (ss.take len)).length = ((ss.take len).map (·.data.toList)).length := by simp [strs]
   have h2 := bulk_len (strs (H := H) (ss.take len))
   simp only [Rows.uptoBulk]
   omega
theorem cellsK1 : Tryz.prog.cellsOf 9 = 1 := by kernel_rfl
theorem cellsK2 : Tryz.prog.cellsOf 3 = 1 := by kernel_rfl
theorem cellsK3 : Tryz.prog.cellsOf 4 = 1 := by kernel_rfl
theorem cellsK4 : Tryz.prog.cellsOf 26 = 1 := by kernel_rfl
theorem cellsK6 : Tryz.prog.cellsOf 28 = 6 := by kernel_rfl
theorem open_key {H : Type} {enc : TypeId × Value → H} {W : World} {base : Nat} {v : Value} {d : DataW H} {ps : List MemPlace} (hval : Value.okWide Tryz.prog W .any base 28 v)
  (h : DataW.Trod enc Tryz.prog W 0 (fun _ => true) true 28 v d ps) :
  ∃ (kv : KeyV) (ws : List Str), v = .agg (encK kv).toArray ∧ kv.wn = ws.length ∧ StrRow W kv.wa ws ∧ ws.length < Rows.uptoBulk d := by
 obtain ⟨cs, rfl, hsz⟩ := okWide_struct Tryz.underlying28 hval
 rw [cellsK6] at hsz
 obtain ⟨c0, c1, c2, c3, c4, c5, rfl⟩ : ∃ c0 c1 c2 c3 c4 c5, cs = #[c0, c1, c2, c3, c4, c5] := by
  obtain ⟨l⟩ := cs
  match l, hsz with
  | [a0, a1, a2, a3, a4, a5], _ => exact ⟨a0, a1, a2, a3, a4, a5, rfl⟩
 obtain ⟨fuel, hf0⟩ := h
 obtain ⟨xs, m, _, hx, _, hlen, hf⟩ := DataW.trod_struct Tryz.underlying28 hf0
 have hl6 : xs.length = 6 := hlen
 have gx : ∀ j (hj : j < xs.length), xs[j]? = some xs[j] := fun j hj => List.getElem?_eq_getElem hj
 have f0 : DataW.trod enc Tryz.prog W 0 (fun _ => true) true m 9 [c0] = some xs[0] := by
  have h : DataW.trod enc Tryz.prog W 0 (fun _ => true) true m 9 (([c0, c1, c2, c3, c4, c5].drop 0).take (Tryz.prog.cellsOf 9)) = xs[0]? := hf 0 _ rfl
  rw [cellsK1] at h
  exact h.trans (gx 0 (by omega))
 have f1 : DataW.trod enc Tryz.prog W 0 (fun _ => true) true m 9 [c1] = some xs[1] := by
  have h : DataW.trod enc Tryz.prog W 0 (fun _ => true) true m 9 (([c0, c1, c2, c3, c4, c5].drop 1).take (Tryz.prog.cellsOf 9)) = xs[1]? := hf 1 _ rfl
  rw [cellsK1] at h
  exact h.trans (gx 1 (by omega))
 have f2 : DataW.trod enc Tryz.prog W 0 (fun _ => true) true m 3 [c2] = some xs[2] := by
  have h : DataW.trod enc Tryz.prog W 0 (fun _ => true) true m 3 (([c0, c1, c2, c3, c4, c5].drop 2).take (Tryz.prog.cellsOf 3)) = xs[2]? := hf 2 _ rfl
  rw [cellsK2] at h
  exact h.trans (gx 2 (by omega))
 have f3 : DataW.trod enc Tryz.prog W 0 (fun _ => true) true m 4 [c3] = some xs[3] := by
  have h : DataW.trod enc Tryz.prog W 0 (fun _ => true) true m 4 (([c0, c1, c2, c3, c4, c5].drop 3).take (Tryz.prog.cellsOf 4)) = xs[3]? := hf 3 _ rfl
  rw [cellsK3] at h
  exact h.trans (gx 3 (by omega))
 have f4 : DataW.trod enc Tryz.prog W 0 (fun _ => true) true m 3 [c4] = some xs[4] := by
  have h : DataW.trod enc Tryz.prog W 0 (fun _ => true) true m 3 (([c0, c1, c2, c3, c4, c5].drop 4).take (Tryz.prog.cellsOf 3)) = xs[4]? := hf 4 _ rfl
  rw [cellsK2] at h
  exact h.trans (gx 4 (by omega))
 have f5 : DataW.trod enc Tryz.prog W 0 (fun _ => true) true m 26 [c5] = some xs[5] := by
  have h : DataW.trod enc Tryz.prog W 0 (fun _ => true) true m 26 (([c0, c1, c2, c3, c4, c5].drop 5).take (Tryz.prog.cellsOf 26)) = xs[5]? := hf 5 _ rfl
  rw [cellsK4] at h
  exact h.trans (gx 5 (by omega))
 obtain ⟨s0, e0, b0, _⟩ := DataW.trod_string Tryz.underlying9 f0
 obtain ⟨s1, e1, b1, _⟩ := DataW.trod_string Tryz.underlying9 f1
 obtain ⟨n2, e2, b2, _⟩ := DataW.trod_int Tryz.underlying3 f2
 obtain ⟨t3, e3, b3⟩ := DataW.trod_bool Tryz.underlying4 f3
 obtain ⟨n4, e4, b4, _⟩ := DataW.trod_int Tryz.underlying3 f4
 injection e0 with e0; injection e1 with e1; injection e2 with e2; injection e3 with e3; injection e4 with e4
 subst e0; subst e1; subst e2; subst e3; subst e4
 have hs5 : ∃ a0 len cap, c5 = .slice a0 len cap := by
  rcases open_strings Tryz.underlying26 Tryz.underlying9 (by kernel_rfl) f5 with ⟨hcs, _⟩ | ⟨a, len', cap', ss, hcs, _⟩
  ·injection hcs with hcs; exact ⟨_, _, _, hcs⟩
  ·injection hcs with hcs; exact ⟨_, _, _, hcs⟩
 obtain ⟨a5, n5, k5, rfl⟩ := hs5
 obtain ⟨ws, hn, hr, hb⟩ := open_txtsK (d := xs[5].1) (ps := xs[5].2) f5
 refine ⟨⟨s0.data.toList, s1.data.toList, n2, t3, n4, a5, n5, k5⟩, ws, rfl, hn, hr, ?_⟩
 have hd : d = .agg (xs.map (·.1)) := by
  have := hx
  simp only [Prod.mk.injEq] at this
  exact this.1
 have hp := bulk_part (H := H) (d := xs[5].1) (l := xs.map (·.1)) (List.mem_map.2 ⟨xs[5], List.getElem_mem _, rfl⟩)
 rw [hd]
 simp only [Rows.uptoBulk]
 omega
set_option maxHeartbeats 8000000 in
theorem keysValue_any (kv : KeyV) (ws : List Str) (v : Str) (i : Int) (w : World) (hM : MaxAt w) (hn : kv.wn = ws.length) (hrow : StrRow w kv.wa ws) (hw : ws.length ≤ 1048576) (hv : v.length ≤ 1048576) :
  Calls Tryz.prog 4 #[.agg (encK kv).toArray, .string ⟨v.toArray⟩, .int .i64 i] w fun e w' => e = .returned (.bool true) ∧ Below w.heap.size w w' := by
 have HM := Lib.hid (fun W (h : Below w.heap.size w W) => hM.below h)
 have HROW := Lib.hid (fun W (h : Below w.heap.size w W) => hrow.below h)
 obtain ⟨r1, hr1⟩ : ∃ r, valE kv.form kv.list v (rightS kv.form ws v) = r := ⟨_, rfl⟩
 have HV1 := Lib.hid (fun W (h : Below w.heap.size w W) => value_gen ws kv v W hn (hrow.below h) (by omega) (by omega) (hM.below h) r1 hr1)
 have HV2 := Lib.hid (fun W (h : Below w.heap.size w W) => valueRef_gen ws kv v W hn (hrow.below h) (by omega) (by omega) r1 hr1)
 obtain ⟨ks, kn, kf, kl, kk, wa, wn, wc⟩ := kv
 simp only at hn
 unfold encK at *
 simp only at *
 have HB0 := Lib.hid ((Below.refl w.heap.size w).alloc (Nat.le_refl _) (.cells #[.string ⟨ks.toArray⟩, .string ⟨kn.toArray⟩, .int .i64 kf, .bool kl, .int .i64 kk, .slice wa wn wc] 28))
 have HN0 := Lib.hid (show (w.alloc (.cells #[.string ⟨ks.toArray⟩, .string ⟨kn.toArray⟩, .int .i64 kf, .bool kl, .int .i64 kk, .slice wa wn wc] 28)).heap[w.heap.size]? = some (.cells #[.string ⟨ks.toArray⟩, .string ⟨kn.toArray⟩, .int .i64 kf, .bool kl, .int .i64 kk, .slice wa wn wc] 28 (0, 0)) from heap_alloc_new w _)
 have HSH := Lib.hid (shown_any _ (HM.out _ HB0.out))
 clear hM hn hrow hr1
 go_enter Tryz.func4, Tryz.ntmps4
 go_wp2_with fail
 refine HSH.out.mono ?_
 rintro e w1 ⟨rfl, hb1⟩
 have HB1 := Lib.hid (HB0.out.trans (hb1.mono HB0.out.size))
 have HN1 := Lib.hid (heap_below HN0.out hb1)
 obtain ⟨N, hN⟩ : ∃ N, N = w.heap.size := ⟨_, rfl⟩
 rw [← hN] at HN1 ⊢
 have HNW := Lib.hid hN
 have HA := Lib.hid (keysR_any w1)
 unfold AllOut at HA
 clear hb1 HSH HB0 HN0 hN
 go_wp2_with fail
 refine HA.out.mono ?_
 rintro e w2 ⟨ov, cv, vs, rfl, hrv, hkv, hb2⟩
 have HB2 := Lib.hid (HB1.out.trans (hb2.mono HB1.out.size))
 have HN2 := Lib.hid (heap_below HN1.out hb2)
 have hlv : vs.length = 42 := by rw [hkv.1]; exact allKeys_len
 obtain ⟨bv, fv, rfl, -, -⟩ := hrv 0 (by omega)
 obtain ⟨n, hn, hbits⟩ := and_small3 i 65535 (by decide)
 have hbits' : bits BinOp.and IntKind.i64 i 65535 = (n : Int) := hbits
 have hrem : (n : Int).tmod 42 = ((n % 42 : Nat) : Int) := by rw [Int.tmod_eq_emod_of_nonneg (by omega)]; rfl
 have hm : n % 42 < 42 := Nat.mod_lt _ (by decide)
 generalize n % 42 = m at *
 have hmv : m < vs.length := by omega
 have hma : m < allKeys.length := by rw [allKeys_len]; exact hm
 obtain ⟨y, hy⟩ : ∃ y, y = vs[m] := ⟨_, rfl⟩
 obtain ⟨q, hq⟩ : ∃ q, q = allKeys[m] := ⟨_, rfl⟩
 obtain ⟨g0, g1, g2, g3, g4, g5⟩ := row_cells hrv m hmv bv fv rfl y hy
 have HY := Lib.hid (show KvRd w2 y q from by rw [hy, hq]; exact hkv.2 m hmv hma)
 have hqm : q ∈ allKeys := by rw [hq]; exact List.getElem_mem hma
 have hlw := words_few q hqm
 obtain ⟨r2, hr2⟩ : ∃ r, valS v q = r := ⟨_, rfl⟩
 have HW1 := Lib.hid (fun W (h : Below w.heap.size w W) (h2 : Below w2.heap.size w2 W) => show Calls Tryz.prog 15 #[.agg (encK y).toArray, .string ⟨v.toArray⟩] W fun e w' => e = .returned (.int .i64 r2) ∧ Below W.heap.size W w' from by rw [← hr2]; exact value_key q y v W (HY.out.below h2) (by omega) (by omega) (HM.out W h))
 have HW2 := Lib.hid (fun W (h2 : Below w2.heap.size w2 W) => valueRef_any q y v W (HY.out.below h2) (by omega) (by omega) r2 hr2)
 obtain ⟨ys, yn, yf, yl, yk, ya, ym, yc⟩ := y
 unfold encK at HW1 HW2
 simp only at g0 g1 g2 g3 g4 g5 HW1 HW2
 have hb3 : Below w2.heap.size w2 (w2.alloc (.cells #[.string ⟨ys.toArray⟩, .string ⟨yn.toArray⟩, .int .i64 yf, .bool yl, .int .i64 yk, .slice ya ym yc] 28)) := (Below.refl _ _).alloc (Nat.le_refl _) _
 have HB3 := Lib.hid (HB2.out.trans (hb3.mono HB2.out.size))
 have HB23 := Lib.hid hb3
 have HN3 := Lib.hid (heap_below HN2.out hb3)
 have HP3 := Lib.hid (heap_alloc_new w2 (.cells #[.string ⟨ys.toArray⟩, .string ⟨yn.toArray⟩, .int .i64 yf, .bool yl, .int .i64 yk, .slice ya ym yc] 28))
 obtain ⟨P, hP⟩ : ∃ P, P = w2.heap.size := ⟨_, rfl⟩
 rw [← hP] at HP3
 have HPP := Lib.hid hP
 clear hrv hkv hb2 hb3 hy hq hma hmv hlv hbits HA HB1 HN1 HY hqm hlw hr2 hP
 go_wp2_with fail
 rw [← HPP.out]
 generalize w2.alloc (.cells #[.string ⟨ys.toArray⟩, .string ⟨yn.toArray⟩, .int .i64 yf, .bool yl, .int .i64 yk, .slice ya ym yc] 28) = w3 at *
 clear g0 g1 g2 g3 g4 g5
 refine wp_region_held_drew (S := fun V => Below w3.heap.size w3 V) (by kernel_rfl) (below_dn ⟨1, rfl⟩) (fun hHeld => ?_)
 try simp only [Act.put, List.setIfInBounds_toArray, List.set_cons_zero, List.set_cons_succ]
 refine wpAnyH_take (i := 0) (v := .agg #[.string ⟨ks.toArray⟩, .string ⟨kn.toArray⟩, .int .i64 kf, .bool kl, .int .i64 kk, .slice wa wn wc]) (List.getElem?_toArray.trans rfl) (by kernel_rfl) (by kernel_rfl) (by kernel_rfl) (fun _ _ _ h => h) (Or.inl ⟨by rfl, fun W hW => by obtain ⟨p0, p1, p2, p3, p4, p5⟩ := cells6K (heap_below HN3.out hW); clear hW; go_simp⟩) (by assumption) ?_
 try simp only [Act.put, List.setIfInBounds_toArray, List.set_cons_zero, List.set_cons_succ]
 refine wpAnyH_take (i := 1) (v := .string ⟨v.toArray⟩) (List.getElem?_toArray.trans rfl) (by kernel_rfl) (by kernel_rfl) (by kernel_rfl) (fun _ _ _ h => h) (Or.inl ⟨by rfl, fun W hW => by clear hW; go_simp⟩) (by assumption) ?_
 try simp only [Act.put, List.setIfInBounds_toArray, List.set_cons_zero, List.set_cons_succ]
 refine wpAnyH_take (i := 3) (v := .agg #[.string ⟨ks.toArray⟩, .string ⟨kn.toArray⟩, .int .i64 kf, .bool kl, .int .i64 kk, .slice wa wn wc]) (List.getElem?_toArray.trans rfl) (by kernel_rfl) (by kernel_rfl) (by kernel_rfl) (fun _ _ _ h => h) (Or.inl ⟨by rfl, fun W hW => by obtain ⟨p0, p1, p2, p3, p4, p5⟩ := cells6K (heap_below HN3.out hW); clear hW; go_simp⟩) (by assumption) ?_
 try simp only [Act.put, List.setIfInBounds_toArray, List.set_cons_zero, List.set_cons_succ]
 refine wpAnyH_take (i := 4) (v := .string ⟨v.toArray⟩) (List.getElem?_toArray.trans rfl) (by kernel_rfl) (by kernel_rfl) (by kernel_rfl) (fun _ _ _ h => h) (Or.inl ⟨by rfl, fun W hW => by clear hW; go_simp⟩) (by assumption) ?_
 try simp only [Act.put, List.setIfInBounds_toArray, List.set_cons_zero, List.set_cons_succ]
 have HWX0 := Lib.hid hHeld
 refine wpAnyH_ready (rs := [2]) (by kernel_rfl) (by simp) (AllReadyH.cons (List.getElem?_toArray.trans rfl) (fun K hK => ?_) (AllReadyH.nil))
 clear hHeld
 first | (rw [if_pos (by rfl)]; go_simp) | go_simp
 refine (HV1.out _ (HB3.out.trans (HWX0.out.mono HB3.out.size))).mono ?_
 rintro e wc1 ⟨rfl, hb⟩
 have HWX1 := Lib.hid (HWX0.out.trans (hb.mono HWX0.out.size))
 clear hb
 refine hK.out _ _ HWX1.out (fun hHeld => ?_)
 clear hK K
 try simp only [Act.put, List.setIfInBounds_toArray, List.set_cons_zero, List.set_cons_succ]
 have HWX1 := Lib.hid hHeld
 refine wpAnyH_ready (rs := [5]) (by kernel_rfl) (by simp) (AllReadyH.cons (List.getElem?_toArray.trans rfl) (fun K hK => ?_) (AllReadyH.nil))
 clear hHeld
 first | (rw [if_pos (by rfl)]; go_simp) | go_simp
 refine (HV2.out _ (HB3.out.trans (HWX1.out.mono HB3.out.size))).mono ?_
 rintro e wc2 ⟨rfl, hb⟩
 have HWX2 := Lib.hid (HWX1.out.trans (hb.mono HWX1.out.size))
 clear hb
 refine hK.out _ _ HWX2.out (fun hHeld => ?_)
 clear hK K
 try simp only [Act.put, List.setIfInBounds_toArray, List.set_cons_zero, List.set_cons_succ]
 refine wpAnyH_take (i := 6) (v := .bool true) (List.getElem?_toArray.trans rfl) (by kernel_rfl) (by kernel_rfl) (by kernel_rfl) (fun _ _ _ h => h) (Or.inl ⟨by rfl, fun W hW => by clear hW; go_simp⟩) (by assumption) ?_
 try simp only [Act.put, List.setIfInBounds_toArray, List.set_cons_zero, List.set_cons_succ]
 refine wpAnyH_take (i := 7) (v := .bool true) (List.getElem?_toArray.trans rfl) (by kernel_rfl) (by kernel_rfl) (by kernel_rfl) (fun _ _ _ h => h) (Or.inl ⟨by rfl, fun W hW => by clear hW; go_simp⟩) (by assumption) ?_
 try simp only [Act.put, List.setIfInBounds_toArray, List.set_cons_zero, List.set_cons_succ]
 refine wpAnyH_take (i := 8) (v := .agg #[.string ⟨ys.toArray⟩, .string ⟨yn.toArray⟩, .int .i64 yf, .bool yl, .int .i64 yk, .slice ya ym yc]) (List.getElem?_toArray.trans rfl) (by kernel_rfl) (by kernel_rfl) (by kernel_rfl) (fun _ _ _ h => h) (Or.inl ⟨by rfl, fun W hW => by obtain ⟨p0, p1, p2, p3, p4, p5⟩ := cells6K (heap_below HP3.out hW); clear hW; go_simp⟩) (by assumption) ?_
 try simp only [Act.put, List.setIfInBounds_toArray, List.set_cons_zero, List.set_cons_succ]
 refine wpAnyH_take (i := 9) (v := .string ⟨v.toArray⟩) (List.getElem?_toArray.trans rfl) (by kernel_rfl) (by kernel_rfl) (by kernel_rfl) (fun _ _ _ h => h) (Or.inl ⟨by rfl, fun W hW => by clear hW; go_simp⟩) (by assumption) ?_
 try simp only [Act.put, List.setIfInBounds_toArray, List.set_cons_zero, List.set_cons_succ]
 refine wpAnyH_take (i := 11) (v := .agg #[.string ⟨ys.toArray⟩, .string ⟨yn.toArray⟩, .int .i64 yf, .bool yl, .int .i64 yk, .slice ya ym yc]) (List.getElem?_toArray.trans rfl) (by kernel_rfl) (by kernel_rfl) (by kernel_rfl) (fun _ _ _ h => h) (Or.inl ⟨by rfl, fun W hW => by obtain ⟨p0, p1, p2, p3, p4, p5⟩ := cells6K (heap_below HP3.out hW); clear hW; go_simp⟩) (by assumption) ?_
 try simp only [Act.put, List.setIfInBounds_toArray, List.set_cons_zero, List.set_cons_succ]
 refine wpAnyH_take (i := 12) (v := .string ⟨v.toArray⟩) (List.getElem?_toArray.trans rfl) (by kernel_rfl) (by kernel_rfl) (by kernel_rfl) (fun _ _ _ h => h) (Or.inl ⟨by rfl, fun W hW => by clear hW; go_simp⟩) (by assumption) ?_
 try simp only [Act.put, List.setIfInBounds_toArray, List.set_cons_zero, List.set_cons_succ]
 have HWX2 := Lib.hid hHeld
 refine wpAnyH_ready (rs := [10]) (by kernel_rfl) (by simp) (AllReadyH.cons (List.getElem?_toArray.trans rfl) (fun K hK => ?_) (AllReadyH.nil))
 clear hHeld
 first | (rw [if_pos (by rfl)]; go_simp) | go_simp
 refine (HW1.out _ (HB3.out.trans (HWX2.out.mono HB3.out.size)) (HB23.out.trans (HWX2.out.mono HB23.out.size))).mono ?_
 rintro e wc3 ⟨rfl, hb⟩
 have HWX3 := Lib.hid (HWX2.out.trans (hb.mono HWX2.out.size))
 clear hb
 refine hK.out _ _ HWX3.out (fun hHeld => ?_)
 clear hK K
 try simp only [Act.put, List.setIfInBounds_toArray, List.set_cons_zero, List.set_cons_succ]
 have HWX3 := Lib.hid hHeld
 refine wpAnyH_ready (rs := [13]) (by kernel_rfl) (by simp) (AllReadyH.cons (List.getElem?_toArray.trans rfl) (fun K hK => ?_) (AllReadyH.nil))
 clear hHeld
 first | (rw [if_pos (by rfl)]; go_simp) | go_simp
 refine (HW2.out _ (HB23.out.trans (HWX3.out.mono HB23.out.size))).mono ?_
 rintro e wc4 ⟨rfl, hb⟩
 have HWX4 := Lib.hid (HWX3.out.trans (hb.mono HWX3.out.size))
 clear hb
 refine hK.out _ _ HWX4.out (fun hHeld => ?_)
 clear hK K
 try simp only [Act.put, List.setIfInBounds_toArray, List.set_cons_zero, List.set_cons_succ]
 refine wpAnyH_take (i := 14) (v := .bool true) (List.getElem?_toArray.trans rfl) (by kernel_rfl) (by kernel_rfl) (by kernel_rfl) (fun _ _ _ h => h) (Or.inl ⟨by rfl, fun W hW => by clear hW; go_simp⟩) (by assumption) ?_
 try simp only [Act.put, List.setIfInBounds_toArray, List.set_cons_zero, List.set_cons_succ]
 refine wpAnyH_take (i := 15) (v := .bool true) (List.getElem?_toArray.trans rfl) (by kernel_rfl) (by kernel_rfl) (by kernel_rfl) (fun _ _ _ h => h) (Or.inl ⟨by rfl, fun W hW => by clear hW; go_simp⟩) (by assumption) ?_
 try simp only [Act.put, List.setIfInBounds_toArray, List.set_cons_zero, List.set_cons_succ]
 refine wpAnyH_ready (rs := [16]) (by kernel_rfl) (by simp) (AllReadyH.cons (List.getElem?_toArray.trans rfl) (fun K hK => ?_) (AllReadyH.nil))
 clear hHeld
 first | (rw [if_pos (by rfl)]; go_simp) | go_simp
 refine hK.out _ _ HWX4.out (fun hHeld => ?_)
 clear hK K
 try simp only [Act.put, List.setIfInBounds_toArray, List.set_cons_zero, List.set_cons_succ]
 refine wpAnyH_done (by kernel_rfl) ?_ _
 clear hHeld
 have HBZ := Lib.hid (HB3.out.trans (HWX4.out.mono HB3.out.size))
 go_wp2_with fail
 go_ret
 exact ⟨rfl, HBZ.out⟩
end Go.Proofs.YtdpnahojhmkemaaGreatDoor
