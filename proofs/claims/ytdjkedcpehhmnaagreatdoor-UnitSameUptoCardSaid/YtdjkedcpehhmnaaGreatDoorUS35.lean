import Derived.Lib.Builder
import Derived.Test.YtdjkedcpehhmnaaGreatDoorUS9
import Derived.Test.YtdjkedcpehhmnaaGreatDoorUS10
import Derived.Test.YtdjkedcpehhmnaaGreatDoorUS22
import Derived.Test.YtdjkedcpehhmnaaGreatDoorUS27
import Derived.Test.YtdjkedcpehhmnaaGreatDoorUS31
import Derived.Test.YtdjkedcpehhmnaaGreatDoorUS34
namespace Go.Proofs.YtdjkedcpehhmnaaGreatDoor
open Go Go.RowKit
set_option linter.unusedVariables false
set_option linter.unusedSimpArgs false
set_option maxRecDepth 100000
theorem run_neq_ptr_in {P : Program} (w : World) {tp te : TypeId} {i : TypeInfo} (b x y : Nat) (hp : P.underlying tp = some (.pointer te)) (hte : P.info? te = some i) (hi : i.size ≠ 0) :
  (binOp .neq tp (.pointer (some ⟨b, x, none⟩)) (.pointer (some ⟨b, y, none⟩))).run P w = .ok (.bool (!(x == y))) w := by
 have h : ∀ d : Nat, (Op.equalIn (d + 1) tp (.pointer (some ⟨b, x, none⟩)) (.pointer (some ⟨b, y, none⟩))).run P w = .ok (x == y) w := fun d => by
  have e : ((⟨b, x, none⟩ : Addr) == ⟨b, y, none⟩) = (x == y) := by
   rw [Bool.eq_iff_iff]; simp
  simp [Op.equalIn, run_underlying hp, sizeOf, typeInfo, hte, hi, sameAddr, e]
 simp only [binOp]
 simp [Op.equal, Op.maxDepth, h 9999]
theorem infoInts : (Tryz.prog.info? 26).map (fun i => decide (i.size ≠ 0)) = some true := by kernel_rfl
theorem below_grown {B : Nat} {w w' : World} {row : Option Nat} (hg : w.grownBy w' row) (hr : ∀ k, row = some k → B ≤ k) (hB : B ≤ w.heap.size) : Below B w w' :=
 ⟨hg.os, hg.tape, hg.output, hg.size, fun k hk => hg.block k (by omega) (fun e => by have := hr k e.symm; omega)⟩
def numsOf (v : Str) : List Int := (blanksS v).map fun w => (numK w).1
theorem contains0 (l : List Str) : (l.map fun w => (numK w).1).contains 0 = l.any fun w => (numK w).1 == 0 := by
 induction l with
 | nil => rfl
 | cons a t ih =>
  rw [List.map_cons, List.contains_cons, ih, List.any_cons]
  congr 1
  generalize (numK a).1 = z
  rw [Bool.eq_iff_iff, beq_iff_eq, beq_iff_eq]
  exact eq_comm
set_option maxHeartbeats 4000000 in
theorem ints_any (U j : Nat) (cs : Array Value) (F : Nat → Prop) (l : List Int) (v : Value) (w : World) (hb : w.heap[U]? = some (.cells cs 30 (0, 0))) (hj : cs[j]? = some v) (hv : UcAt w F (.ns l) v) (hFU : ¬ F U) (hF : ∀ k, F k → k < w.heap.size) (hl : l.length ≤ 100000) (hM : MaxAt w)
  (key : ByteArray) (HSL : ∀ W, Calls Tryz.prog 137 #[.pointer (some ⟨U, 0, none⟩), .string key] W fun e w' => e = .returned (.pointer (some ⟨U, j, none⟩)) ∧ w' = W) (val : Str) (hval : val.length ≤ 100000000) :
  Calls Tryz.prog 96 #[.pointer (some ⟨U, 0, none⟩), .string key, .string ⟨val.toArray⟩] w fun e w' => e = .returned (.bool (!(j == 21) || !(blanksS val).any fun w => (numK w).1 == 0)) ∧ PutAt w w' U cs j F (.ns (onceS l (numsOf val))) := by
 obtain ⟨i0, hi0, hz0, hz1, hz2⟩ := info_parts infoInt
 obtain ⟨ti, hti, hts⟩ := Option.map_eq_some_iff.1 infoInts
 have hts' : ti.size ≠ 0 := by simpa using hts
 have HPN := h_ (fun W => run_neq_ptr_in (P := Tryz.prog) W U j 21 Tryz.underlying146 hti hts')
 have HW := h_ (charsWords_any ⟨val.toArray⟩ w (by simp [ByteArray.size]; omega))
 have HLN := h_ (blanksS_len val [])
 have HMS := h_ (fldS_mem val.length val [] (by simp))
 have HSLH := h_ HSL
 have HV := h_ (And.intro hb (And.intro hj (And.intro hv (And.intro hFU hF))))
 have hUl := lt_heap hb
 have h00 := contains0 (blanksS val)
 have HMX := h_ hM
 unfold numsOf
 obtain ⟨ws, hws⟩ : ∃ ws, ws = blanksS val := ⟨_, rfl⟩
 have HL := h_ (show ∀ x ∈ ws, x.length ≤ 1000000000 from by rw [hws]; intro x hx; have := HMS.out x hx; omega)
 have hll : ws.length ≤ 100000001 := by rw [hws]; have := HLN.out; unfold blanksS; omega
 have HLL := h_ hll
 change Hid (Calls _ _ _ _ fun e w' => ∃ A, e = .returned (.slice (some ⟨A, 0, none⟩) (blanksS val).length (blanksS val).length) ∧ w.heap.size ≤ A ∧ A < w'.heap.size ∧ StrAt w' A 0 (blanksS val) ∧ Below w.heap.size w w') at HW
 rw [← hws] at HW h00 ⊢
 obtain ⟨ns, hns⟩ : ∃ ns, ns = ws.map fun w => (numK w).1 := ⟨_, rfl⟩
 have hnl : ns.length = ws.length := by rw [hns]; simp
 obtain ⟨z, hzz⟩ : ∃ z, ns.contains 0 = z := ⟨_, rfl⟩
 rw [← h00, ← hns, hzz]
 have HZZ := h_ hzz; have HNS := h_ hns; have HNL := h_ hnl
 clear hzz hns hnl
 clear HSL hb hj hv hFU hF hti hts hts' hM hws HMS HLN hll h00
 go_enter Tryz.func96, Tryz.ntmps96
 go_wp2_with fail
 refine HW.out.mono ?_
 rintro e w1 ⟨A, rfl, hA, hA2, hst, hb1⟩
 have HST := h_ hst; have HB1 := h_ hb1
 clear hst hb1 HW
 go_wp2_with fail
 go_loopg [7, 16] (ws.length + 1) (fun f sv i wr => ∃ k : Nat, k ≤ ws.length ∧ i = .int .i64 k ∧ ws.length - k < f ∧ Hid (Below w1.heap.size w1 wr) ∧ Hid (wr.ownsRow w1.heap.size 3 1 sv k (intVals ((ws.take k).map fun w => (numK w).1))))
 case atStart => exact ⟨0, by omega, rfl, by omega, Below.refl _ _, World.ownsRow_nil _ _ _ _⟩
 case round =>
  obtain ⟨k, hk, rfl, hfu, HB, HO⟩ := hrel
  obtain ⟨oa, cap, rfl⟩ := ownsRow_form HO.out
  have hll := HLL.out
  by_cases hlt : k < ws.length
  ·have hz : (k : Int) < (ws.length : Int) := by omega
   have d0 := (HST.out.below hA2 HB.out) k hlt
   rw [Nat.zero_add] at d0
   obtain ⟨x, hx⟩ : ∃ x, x = ws[k] := ⟨_, rfl⟩
   rw [← hx] at d0
   obtain ⟨n, b, hnb⟩ : ∃ n b, numK x = (n, b) := ⟨_, _, rfl⟩
   have hxl : x.length ≤ 1000000000 := by rw [hx]; exact HL.out _ (List.getElem_mem hlt)
   have HN := h_ (keysNumber_any ⟨x.toArray⟩ wr (by simp [ByteArray.size]; omega) n b hnb)
   have HSN := h_ (show intVals ((ws.take (k + 1)).map fun w => (numK w).1) = intVals ((ws.take k).map fun w => (numK w).1) ++ [.int .i64 n] by
    rw [List.take_succ_eq_append_getElem hlt, ← hx, List.map_append]
    simp [intVals, hnb])
   clear hx hnb
   go_wp2_with fail
   refine HN.out.mono ?_
   rintro e w2 ⟨rfl, hb2⟩
   have hB2 : Below w1.heap.size w1 w2 := HB.out.trans (hb2.mono HB.out.size)
   have hB3 : Below w2.heap.size w2 (w2.alloc (.cells #[.int .i64 n] 3)) := (Below.refl _ _).alloc (Nat.le_refl _) _
   obtain ⟨v', w4, hrun, hown4, hgrow⟩ := append_rows (P := Tryz.prog) (w := w2.alloc (.cells #[.int .i64 n] 3)) w1.heap.size 26 26 3 i0 (.int .i64 0) 1 8 Tryz.underlying26 hi0 hz0 hz1 hz2 (by rfl) (by decide) _ _ _ (own_keeps (own_keeps HO.out hb2) hB3) (some ⟨w2.heap.size, 0, none⟩) 1 1 [.int .i64 n] rfl (fun j' u hu => ⟨w2.heap.size, 0, rfl, by rw [(rd (heap_alloc_new w2 _)).1, Nat.zero_add]; simpa using hu⟩) (by intro u hu; simp at hu; subst hu; rfl) (by unfold maxLen; have := HLL.out; omega) (by have := HLL.out; omega) (Nat.le_trans hB2.size hB3.size)
   have HRUN := h_ hrun
   have HO4 := h_ (show w4.ownsRow w1.heap.size 3 1 v' (k + 1) (intVals ((ws.take (k + 1)).map fun w => (numK w).1)) by rw [HSN.out]; exact hown4)
   have HB4 := h_ (show Below w1.heap.size w1 w4 from (hB2.trans (hB3.mono hB2.size)).trans (below_grown hgrow (fun g hg => (HO.out.lt g hg).1) (Nat.le_trans hB2.size hB3.size)))
   clear hb2 hB2 hB3 hrun hown4 hgrow HN
   go_wp2_with (at_builtin; refine wpList_append_run rfl _ _ 26 rfl HRUN.out rfl rfl ?_)
   go_roundg (gk - 1)
   case measure => omega
   case rel => exact ⟨k + 1, by omega, by go_num, by omega, HB4, HO4⟩
  ·have hk3 : k = ws.length := by omega
   subst hk3
   rw [List.take_of_length_le (Nat.le_refl _)] at HO
   have hnl := HNL.out
   rw [← HNS.out] at HO
   have HBW := h_ (show Below w.heap.size w wr from HB1.out.trans (HB.out.mono HB1.out.size))
   obtain ⟨hb, hj, hv, hFU, hF⟩ := HV.out
   have hO2 := HO.out
   rw [← hnl] at hO2
   have hrow := IntRow.of_own hO2
   have HON := h_ (onceInt_any U j cs F l v wr (heap_below hb HBW.out) hj (hv.fr (M := fun _ => False) (Fr.of_below HBW.out _) (fun _ _ e => e)) hFU (fun k hk => Nat.lt_of_lt_of_le (hF k hk) HBW.out.size) oa cap ns (by have := HLL.out; omega) hrow (by
    intro b o e
    subst e
    have hlt := hO2.lt b rfl
    have hs1 := HB1.out.size
    refine ⟨hlt.2, by omega, fun h => ?_⟩
    have := hF b h
    omega))
   have HCT := h_ (fun W (h : IntRow W oa ns) => hasI_any oa cap ns 0 W (by have := HLL.out; omega) h)
   rw [HZZ.out] at HCT
   have HROW := h_ hrow
   have HNOT := h_ (show ∀ b o, oa = some ⟨b, o, none⟩ → ¬ (b = U ∨ F b) from by
    intro b o e h
    subst e
    have hlt := hO2.lt b rfl
    have hs1 := HB1.out.size
    rcases h with h | h
    ·omega
    ·have := hF b h; omega)
   rw [hnl] at HON HCT
   have HPB := h_ (fun W' h => PutAt.below (w := w) (w1 := wr) (w' := W') (U := U) (cs := cs) (j := j) (Fj := F) (c := .ns (onceS l ns)) HBW.out h)
   clear hb hj hv hFU hF hO2 hrow hnl HNL HNS HL HLL HST
   generalize ws.length = nw at *
   go_wp2_with fail
   refine (HSLH.out wr).mono ?_
   rintro e w5 ⟨rfl, rfl⟩
   go_wp2_with fail
   refine HON.out.mono ?_
   rintro e w5 ⟨rfl, hp⟩
   have HPP := h_ (HPB.out _ hp)
   have HR5 := h_ (HROW.out.fr (M := fun k => k = U ∨ F k) (by obtain ⟨_, _, _, _, hf, _⟩ := hp; exact hf) HNOT.out)
   clear hp HON
   have hpn := HPN.out w5
   cases hjj : (j == 21) with
   | false =>
    rw [hjj] at hpn
    go_wp2_with fail
    go_ret
    exact ⟨by rw [hjj]; rfl, HPP.out⟩
   | true =>
    rw [hjj] at hpn
    go_wp2_with fail
    refine (HCT.out w5 HR5.out).mono ?_
    rintro e w6 ⟨rfl, rfl⟩
    go_wp2_with fail
    go_ret
    exact ⟨by rw [hjj]; cases z <;> rfl, HPP.out⟩
set_option maxHeartbeats 2000000 in
theorem spansList_any (U j : Nat) (cs : Array Value) (F : Nat → Prop) (l : List Int) (v : Value) (w : World) (hb : w.heap[U]? = some (.cells cs 30 (0, 0))) (hj : cs[j]? = some v) (hv : UcAt w F (.ns l) v) (hFU : ¬ F U) (hF : ∀ k, F k → k < w.heap.size) (hl : l.length ≤ 100000) (hM : MaxAt w)
  (kv : KeyV) (hkl : kv.list = true) (HSL : ∀ W, Calls Tryz.prog 137 #[.pointer (some ⟨U, 0, none⟩), .string ⟨kv.name.toArray⟩] W fun e w' => e = .returned (.pointer (some ⟨U, j, none⟩)) ∧ w' = W) (val : Str) (hval : val.length ≤ 100000000) :
  Calls Tryz.prog 97 #[.pointer (some ⟨U, 0, none⟩), .agg (encK kv).toArray, .string ⟨val.toArray⟩] w fun e w' => e = .returned (.tuple #[]) ∧ PutAt w w' U cs j F (.ns (moreS l val (spanS val).1)) := by
 obtain ⟨sec, name, form, list, kinds, wa, wn, wc⟩ := kv
 unfold encK
 simp only at *
 subst hkl
 obtain ⟨n, b, hnb⟩ : ∃ n b, spanS val = (n, b) := ⟨_, _, rfl⟩
 have hB := (Below.refl w.heap.size w).alloc (Nat.le_refl _) (.cells #[.string ⟨sec.toArray⟩, .string ⟨name.toArray⟩, .int .i64 form, .bool true, .int .i64 kinds, .slice wa wn wc] 41)
 have hbx := heap_alloc_new w (.cells #[.string ⟨sec.toArray⟩, .string ⟨name.toArray⟩, .int .i64 form, .bool true, .int .i64 kinds, .slice wa wn wc] 41)
 have HSP := h_ (spanParse_any ⟨val.toArray⟩ (w.alloc (.cells #[.string ⟨sec.toArray⟩, .string ⟨name.toArray⟩, .int .i64 form, .bool true, .int .i64 kinds, .slice wa wn wc] 41)) (by show val.toArray.size ≤ _; simp; omega) n b hnb)
 have HB := h_ hB; have HBX := h_ hbx
 have HSLH := h_ HSL
 have HMR := h_ (fun W (h : Below w.heap.size w W) => moreInt_any U j cs F l v W (heap_below hb h) hj (hv.fr (M := fun _ => False) (Fr.of_below h _) (fun _ _ e => e)) hFU (fun k hk => Nat.lt_of_lt_of_le (hF k hk) h.size) (by omega) val n)
 rw [hnb]
 clear hB hbx HSL hb hj hv hFU hF hM hnb
 go_enter Tryz.func97, Tryz.ntmps97
 go_wp2_with fail
 refine HSP.out.mono ?_
 rintro e w1 ⟨rfl, hb1⟩
 have hbx1 := heap_below HBX.out hb1
 have HB1 := h_ (HB.out.trans (hb1.mono HB.out.size))
 have q1 := ((rd hbx1).1 1); have q3 := ((rd hbx1).1 3)
 simp only [List.getElem?_toArray, List.getElem?_cons_zero, List.getElem?_cons_succ] at q1 q3
 clear hbx1 hb1 HB HBX HSP
 go_wp2_with fail
 refine (HSLH.out w1).mono ?_
 rintro e w2 ⟨rfl, rfl⟩
 go_wp2_with fail
 refine (HMR.out _ HB1.out).mono ?_
 rintro e w3 ⟨rfl, hp⟩
 have HPP := h_ (PutAt.below HB1.out hp)
 clear hp
 go_wp2_with fail
 go_end0
 exact ⟨rfl, HPP.out⟩
set_option maxHeartbeats 2000000 in
theorem spansOne_any (U j : Nat) (cs : Array Value) (F : Nat → Prop) (v : Value) (w : World) (hb : w.heap[U]? = some (.cells cs 30 (0, 0))) (hj : cs[j]? = some v) (hv : ∃ n0 : Int, v = .int .i64 n0) (hFU : ¬ F U) (hF : ∀ k, F k → k < w.heap.size) (hM : MaxAt w)
  (kv : KeyV) (hkl : kv.list = false) (HSL : ∀ W, Calls Tryz.prog 88 #[.pointer (some ⟨U, 0, none⟩), .string ⟨kv.name.toArray⟩] W fun e w' => e = .returned (.pointer (some ⟨U, j, none⟩)) ∧ w' = W) (val : Str) (hval : val.length ≤ 100000000) :
  Calls Tryz.prog 97 #[.pointer (some ⟨U, 0, none⟩), .agg (encK kv).toArray, .string ⟨val.toArray⟩] w fun e w' => e = .returned (.tuple #[]) ∧ PutAt w w' U cs j F (.n (spanS val).1) := by
 obtain ⟨sec, name, form, list, kinds, wa, wn, wc⟩ := kv
 unfold encK
 simp only at *
 subst hkl
 obtain ⟨n, b, hnb⟩ : ∃ n b, spanS val = (n, b) := ⟨_, _, rfl⟩
 have hB := (Below.refl w.heap.size w).alloc (Nat.le_refl _) (.cells #[.string ⟨sec.toArray⟩, .string ⟨name.toArray⟩, .int .i64 form, .bool false, .int .i64 kinds, .slice wa wn wc] 41)
 have hbx := heap_alloc_new w (.cells #[.string ⟨sec.toArray⟩, .string ⟨name.toArray⟩, .int .i64 form, .bool false, .int .i64 kinds, .slice wa wn wc] 41)
 have HSP := h_ (spanParse_any ⟨val.toArray⟩ (w.alloc (.cells #[.string ⟨sec.toArray⟩, .string ⟨name.toArray⟩, .int .i64 form, .bool false, .int .i64 kinds, .slice wa wn wc] 41)) (by show val.toArray.size ≤ _; simp; omega) n b hnb)
 have HB := h_ hB; have HBX := h_ hbx
 have HSLH := h_ HSL
 have HV := h_ (And.intro hb hj)
 have HFU := h_ hFU
 rw [hnb]
 clear hB hbx HSL hb hj hv hFU hF hM hnb
 go_enter Tryz.func97, Tryz.ntmps97
 go_wp2_with fail
 refine HSP.out.mono ?_
 rintro e w1 ⟨rfl, hb1⟩
 have hbx1 := heap_below HBX.out hb1
 have HB1 := h_ (HB.out.trans (hb1.mono HB.out.size))
 have q1 := ((rd hbx1).1 1); have q3 := ((rd hbx1).1 3)
 simp only [List.getElem?_toArray, List.getElem?_cons_zero, List.getElem?_cons_succ] at q1 q3
 clear hbx1 hb1 HB HBX HSP
 have hbu := heap_below HV.out.1 HB1.out
 obtain ⟨u1, u2, u3, _⟩ := rd hbu
 have u10 := (u1 j).trans HV.out.2; have u20 := u2 j
 have HPP := h_ (PutAt.of_store (w := w) (j := j) (F := F) (F' := fun _ => False) (c := .n n) (v := .int .i64 n) hbu rfl (Fr.of_below HB1.out _) rfl (fun k hk => hk.elim) (fun e => e))
 clear hbu u1 u2
 go_wp2_with fail
 refine (HSLH.out w1).mono ?_
 rintro e w2 ⟨rfl, rfl⟩
 go_wp2_with fail
 go_end0
 exact ⟨rfl, HPP.out⟩
theorem cells6 {w : World} {b : Nat} {x0 x1 x2 x3 x4 x5 : Value} {T : TypeId} (h : w.heap[b]? = some (.cells #[x0, x1, x2, x3, x4, x5] T (0, 0))) :
  w.cell? ⟨b, 0, none⟩ = some x0 ∧ w.cell? ⟨b, 1, none⟩ = some x1 ∧ w.cell? ⟨b, 2, none⟩ = some x2 ∧ w.cell? ⟨b, 3, none⟩ = some x3 ∧ w.cell? ⟨b, 4, none⟩ = some x4 ∧ w.cell? ⟨b, 5, none⟩ = some x5 :=
 ⟨by rw [(rd h).1]; rfl, by rw [(rd h).1]; rfl, by rw [(rd h).1]; rfl, by rw [(rd h).1]; rfl, by rw [(rd h).1]; rfl, by rw [(rd h).1]; rfl⟩
theorem MaxAt.neU {w : World} {U : Nat} {cs : Array Value} {s : ByteArray} (h : MaxAt w) (hb : w.heap[U]? = some (.cells cs 30 (0, 0))) (h0 : cs[0]? = some (.string s)) : 0 ≠ U := by
 rintro rfl
 obtain ⟨m, hm⟩ := h
 rw [(rd hb).1, h0] at hm
 cases hm
theorem MaxAt.setU {w : World} {U j : Nat} {cs : Array Value} {s : ByteArray} {x : Value} (h : MaxAt w) (hb : w.heap[U]? = some (.cells cs 30 (0, 0))) (h0 : cs[0]? = some (.string s)) : MaxAt (w.setCell ⟨U, j, none⟩ x) :=
 h.fr (M := fun k => k = U) (Fr.setCell (M := fun k => k = U) (Fr.refl _ _) (p := ⟨U, j, none⟩) (fun _ => rfl) _) (h.neU hb h0)
set_option maxHeartbeats 4000000 in
theorem put_text (U j : Nat) (cs : Array Value) (F : Nat → Prop) (v : Value) (w : World) (hb : w.heap[U]? = some (.cells cs 30 (0, 0))) (hj : cs[j]? = some v) (hFU : ¬ F U) (hF : ∀ k, F k → k < w.heap.size) (hM : MaxAt w)
  (kv : KeyV) (hf : kv.form = 1) (HSL : ∀ W, Calls Tryz.prog 85 #[.pointer (some ⟨U, 0, none⟩), .string ⟨kv.name.toArray⟩] W fun e w' => e = .returned (.pointer (some ⟨U, j, none⟩)) ∧ w' = W) (val : Str) (hval : val.length ≤ 100000000) :
  Calls Tryz.prog 52 #[.pointer (some ⟨U, 0, none⟩), .agg (encK kv).toArray, .string ⟨val.toArray⟩] w fun e w' => e = .returned (.bool true) ∧ PutAt w w' U cs j F (.s val) := by
 obtain ⟨sec, name, form, list, kinds, wa, wn, wc⟩ := kv
 unfold encK
 simp only at *
 subst hf
 have hUl := lt_heap hb
 have hB := (Below.refl w.heap.size w).alloc (Nat.le_refl _) (.cells #[.string ⟨sec.toArray⟩, .string ⟨name.toArray⟩, .int .i64 1, .bool list, .int .i64 kinds, .slice wa wn wc] 41)
 have hbx := heap_alloc_new w (.cells #[.string ⟨sec.toArray⟩, .string ⟨name.toArray⟩, .int .i64 1, .bool list, .int .i64 kinds, .slice wa wn wc] 41)
 have hbu := heap_below hb hB
 have HB := h_ hB; have HBX := h_ hbx; have HBU := h_ hbu; have HJ := h_ hj; have HFU := h_ hFU; have HF := h_ hF
 have HM1 := h_ (hM.below hB)
 have hne : U ≠ w.heap.size := by omega
 have hjs : j < cs.size := (Array.getElem?_eq_some_iff.1 hj).1
 have HS := h_ HSL
 obtain ⟨u1, u2, u3, _⟩ := rd HBU.out
 have u10 := (u1 j).trans HJ.out; have u20 := u2 j
 clear u1 u2
 have HPP := h_ (PutAt.of_store (w := w) (j := j) (F := F) (F' := fun _ => False) (c := .s val) (v := .string ⟨val.toArray⟩) HBU.out rfl (Fr.of_below HB.out _) rfl (fun k hk => hk.elim) (fun e => e))
 clear hB hbx hbu hb hj hFU hF hM HSL
 obtain ⟨c0, c1, c2, c3, c4, c5⟩ := cells6 HBX.out
 go_enter Tryz.func52, Tryz.ntmps52
 go_wp2_with fail
 generalize w.alloc (.cells #[.string ⟨sec.toArray⟩, .string ⟨name.toArray⟩, .int .i64 1, .bool list, .int .i64 kinds, .slice wa wn wc] 41) = wb at *
 refine (HS.out _).mono ?_
 rintro e w2 ⟨rfl, rfl⟩
 go_wp2_with fail
 go_ret
 exact ⟨rfl, HPP.out⟩
set_option maxHeartbeats 4000000 in
theorem put_bool (U j : Nat) (cs : Array Value) (F : Nat → Prop) (v : Value) (w : World) (hb : w.heap[U]? = some (.cells cs 30 (0, 0))) (hj : cs[j]? = some v) (hFU : ¬ F U) (hF : ∀ k, F k → k < w.heap.size) (hM : MaxAt w)
  (kv : KeyV) (hf : kv.form = 2) (HSL : ∀ W, Calls Tryz.prog 86 #[.pointer (some ⟨U, 0, none⟩), .string ⟨kv.name.toArray⟩] W fun e w' => e = .returned (.pointer (some ⟨U, j, none⟩)) ∧ w' = W) (val : Str) (hval : val.length ≤ 100000000) :
  Calls Tryz.prog 52 #[.pointer (some ⟨U, 0, none⟩), .agg (encK kv).toArray, .string ⟨val.toArray⟩] w fun e w' => e = .returned (.bool true) ∧ PutAt w w' U cs j F (.b (truthS val)) := by
 obtain ⟨sec, name, form, list, kinds, wa, wn, wc⟩ := kv
 unfold encK
 simp only at *
 subst hf
 have hUl := lt_heap hb
 have hB := (Below.refl w.heap.size w).alloc (Nat.le_refl _) (.cells #[.string ⟨sec.toArray⟩, .string ⟨name.toArray⟩, .int .i64 2, .bool list, .int .i64 kinds, .slice wa wn wc] 41)
 have hbx := heap_alloc_new w (.cells #[.string ⟨sec.toArray⟩, .string ⟨name.toArray⟩, .int .i64 2, .bool list, .int .i64 kinds, .slice wa wn wc] 41)
 have hbu := heap_below hb hB
 have HB := h_ hB; have HBX := h_ hbx; have HBU := h_ hbu; have HJ := h_ hj; have HFU := h_ hFU; have HF := h_ hF
 have HM1 := h_ (hM.below hB)
 have hne : U ≠ w.heap.size := by omega
 have hjs : j < cs.size := (Array.getElem?_eq_some_iff.1 hj).1
 have HS := h_ HSL
 obtain ⟨u1, u2, u3, _⟩ := rd HBU.out
 have u10 := (u1 j).trans HJ.out; have u20 := u2 j
 clear u1 u2
 have HPP := h_ (PutAt.of_store (w := w) (j := j) (F := F) (F' := fun _ => False) (c := .b (truthS val)) (v := .bool (truthS val)) HBU.out rfl (Fr.of_below HB.out _) rfl (fun k hk => hk.elim) (fun e => e))
 unfold truthS at HPP ⊢
 generalize hq1 : (val == [121, 101, 115]) = b1 at *
 generalize hq2 : (val == [116, 114, 117, 101]) = b2 at *
 generalize hq3 : (val == [49]) = b3 at *
 clear hB hbx hbu hb hj hFU hF hM HSL
 obtain ⟨c0, c1, c2, c3, c4, c5⟩ := cells6 HBX.out
 go_enter Tryz.func52, Tryz.ntmps52
 go_wp2_with fail
 generalize w.alloc (.cells #[.string ⟨sec.toArray⟩, .string ⟨name.toArray⟩, .int .i64 2, .bool list, .int .i64 kinds, .slice wa wn wc] 41) = wb at *
 refine (HS.out _).mono ?_
 rintro e w2 ⟨rfl, rfl⟩
 cases b1 with
 | true =>
  go_wp2_with fail
  go_ret
  exact ⟨rfl, HPP.out⟩
 | false =>
  cases b2 with
  | true =>
   go_wp2_with fail
   go_ret
   exact ⟨rfl, HPP.out⟩
  | false =>
   cases b3 with
   | true =>
    go_wp2_with fail
    go_ret
    exact ⟨rfl, HPP.out⟩
   | false =>
    go_wp2_with fail
    go_ret
    exact ⟨rfl, HPP.out⟩
set_option maxHeartbeats 4000000 in
theorem put_int (U j : Nat) (cs : Array Value) (F : Nat → Prop) (v : Value) (w : World) (hb : w.heap[U]? = some (.cells cs 30 (0, 0))) (hj : cs[j]? = some v) (hFU : ¬ F U) (hF : ∀ k, F k → k < w.heap.size) (hM : MaxAt w)
  (kv : KeyV) (hf : kv.form = 3) (HSL : ∀ W, Calls Tryz.prog 88 #[.pointer (some ⟨U, 0, none⟩), .string ⟨kv.name.toArray⟩] W fun e w' => e = .returned (.pointer (some ⟨U, j, none⟩)) ∧ w' = W) (val : Str) (hval : val.length ≤ 100000000) :
  Calls Tryz.prog 52 #[.pointer (some ⟨U, 0, none⟩), .agg (encK kv).toArray, .string ⟨val.toArray⟩] w fun e w' => e = .returned (.bool true) ∧ PutAt w w' U cs j F (.n (numK val).1) := by
 obtain ⟨sec, name, form, list, kinds, wa, wn, wc⟩ := kv
 unfold encK
 simp only at *
 subst hf
 have hUl := lt_heap hb
 have hB := (Below.refl w.heap.size w).alloc (Nat.le_refl _) (.cells #[.string ⟨sec.toArray⟩, .string ⟨name.toArray⟩, .int .i64 3, .bool list, .int .i64 kinds, .slice wa wn wc] 41)
 have hbx := heap_alloc_new w (.cells #[.string ⟨sec.toArray⟩, .string ⟨name.toArray⟩, .int .i64 3, .bool list, .int .i64 kinds, .slice wa wn wc] 41)
 have hbu := heap_below hb hB
 have HB := h_ hB; have HBX := h_ hbx; have HBU := h_ hbu; have HJ := h_ hj; have HFU := h_ hFU; have HF := h_ hF
 have HM1 := h_ (hM.below hB)
 have hne : U ≠ w.heap.size := by omega
 have hjs : j < cs.size := (Array.getElem?_eq_some_iff.1 hj).1
 have HS := h_ HSL
 obtain ⟨n, b, hnb⟩ : ∃ n b, numK val = (n, b) := ⟨_, _, rfl⟩
 have HN := h_ (keysNumber_any ⟨val.toArray⟩ (w.alloc (.cells #[.string ⟨sec.toArray⟩, .string ⟨name.toArray⟩, .int .i64 3, .bool list, .int .i64 kinds, .slice wa wn wc] 41)) (by show val.toArray.size ≤ _; simp; omega) n b hnb)
 rw [hnb]
 clear hB hbx hbu hb hj hFU hF hM HSL hnb
 obtain ⟨c0, c1, c2, c3, c4, c5⟩ := cells6 HBX.out
 go_enter Tryz.func52, Tryz.ntmps52
 go_wp2_with fail
 generalize w.alloc (.cells #[.string ⟨sec.toArray⟩, .string ⟨name.toArray⟩, .int .i64 3, .bool list, .int .i64 kinds, .slice wa wn wc] 41) = wb at *
 refine (HS.out _).mono ?_
 rintro e w2 ⟨rfl, rfl⟩
 go_wp2_with fail
 refine HN.out.mono ?_
 rintro e w3 ⟨rfl, hb3⟩
 have HB3 := h_ (HB.out.trans (hb3.mono HB.out.size))
 have hbu3 := heap_below HBU.out hb3
 obtain ⟨u1, u2, u3, _⟩ := rd hbu3
 have u10 := (u1 j).trans HJ.out; have u20 := u2 j
 have HPP := h_ (PutAt.of_store (w := w) (j := j) (F := F) (F' := fun _ => False) (c := .n n) (v := .int .i64 n) hbu3 rfl (Fr.of_below HB3.out _) rfl (fun k hk => hk.elim) (fun e => e))
 clear u1 u2 hb3 hbu3
 go_wp2_with fail
 go_ret
 exact ⟨rfl, HPP.out⟩
set_option maxHeartbeats 4000000 in
theorem put_name (U j : Nat) (cs : Array Value) (F : Nat → Prop) (v : Value) (w : World) (hb : w.heap[U]? = some (.cells cs 30 (0, 0))) (hj : cs[j]? = some v) (hFU : ¬ F U) (hF : ∀ k, F k → k < w.heap.size) (hM : MaxAt w)
  (kv : KeyV) (hf : kv.form = 5) (nm : ByteArray) (h0 : cs[0]? = some (.string nm)) (HSL : ∀ W, Calls Tryz.prog 85 #[.pointer (some ⟨U, 0, none⟩), .string ⟨kv.name.toArray⟩] W fun e w' => e = .returned (.pointer (some ⟨U, j, none⟩)) ∧ w' = W) (val : Str) (hval : val.length ≤ 100000000) :
  Calls Tryz.prog 52 #[.pointer (some ⟨U, 0, none⟩), .agg (encK kv).toArray, .string ⟨val.toArray⟩] w fun e w' => e = .returned (.bool (kv.name != [83, 101, 114, 118, 105, 99, 101] || kindS val == 1)) ∧ PutAt w w' U cs j F (.s val) := by
 obtain ⟨sec, name, form, list, kinds, wa, wn, wc⟩ := kv
 unfold encK
 simp only at *
 subst hf
 have hUl := lt_heap hb
 have hB := (Below.refl w.heap.size w).alloc (Nat.le_refl _) (.cells #[.string ⟨sec.toArray⟩, .string ⟨name.toArray⟩, .int .i64 5, .bool list, .int .i64 kinds, .slice wa wn wc] 41)
 have hbx := heap_alloc_new w (.cells #[.string ⟨sec.toArray⟩, .string ⟨name.toArray⟩, .int .i64 5, .bool list, .int .i64 kinds, .slice wa wn wc] 41)
 have hbu := heap_below hb hB
 have HB := h_ hB; have HBX := h_ hbx; have HBU := h_ hbu; have HJ := h_ hj; have HFU := h_ hFU; have HF := h_ hF
 have HM1 := h_ (hM.below hB)
 have hne : U ≠ w.heap.size := by omega
 have hjs : j < cs.size := (Array.getElem?_eq_some_iff.1 hj).1
 have HS := h_ HSL
 have hk4 := kindS_le val
 obtain ⟨kk, hkk⟩ : ∃ kk, kindS val = kk := ⟨_, rfl⟩
 have HK := h_ (fun W (h : MaxAt W) => kind_any ⟨val.toArray⟩ W (by show val.toArray.size < _; simp; omega) h kk hkk)
 rw [hkk] at hk4 ⊢
 obtain ⟨u1, u2, u3, _⟩ := rd HBU.out
 have u10 := (u1 j).trans HJ.out; have u20 := u2 j
 clear u1 u2
 have HPP := h_ (PutAt.of_store (w := w) (j := j) (F := F) (F' := fun _ => False) (c := .s val) (v := .string ⟨val.toArray⟩) HBU.out rfl (Fr.of_below HB.out _) rfl (fun k hk => hk.elim) (fun e => e))
 have HPP2 := h_ (fun W' h => PutAt.after HPP.out (w' := W') h)
 have HBX2 := h_ (show ((w.alloc (.cells #[.string ⟨sec.toArray⟩, .string ⟨name.toArray⟩, .int .i64 5, .bool list, .int .i64 kinds, .slice wa wn wc] 41)).setCell ⟨U, j, none⟩ (.string ⟨val.toArray⟩)).heap[w.heap.size]? = _ from heap_other HBX.out (a := ⟨U, j, none⟩) (fun e => hne e.symm) _)
 have HM2 := h_ (show MaxAt ((w.alloc (.cells #[.string ⟨sec.toArray⟩, .string ⟨name.toArray⟩, .int .i64 5, .bool list, .int .i64 kinds, .slice wa wn wc] 41)).setCell ⟨U, j, none⟩ (.string ⟨val.toArray⟩)) from HM1.out.setU HBU.out h0)
 generalize hq1 : (name == [83, 101, 114, 118, 105, 99, 101]) = b1 at *
 clear hB hbx hbu hb hj hFU hF hM HSL hkk h0
 obtain ⟨c0, c1, c2, c3, c4, c5⟩ := cells6 HBX.out
 go_enter Tryz.func52, Tryz.ntmps52
 go_wp2_with fail
 generalize w.alloc (.cells #[.string ⟨sec.toArray⟩, .string ⟨name.toArray⟩, .int .i64 5, .bool list, .int .i64 kinds, .slice wa wn wc] 41) = wb at *
 refine (HS.out _).mono ?_
 rintro e w2 ⟨rfl, rfl⟩
 have y1 := ((rd HBX2.out).1 1)
 simp only [List.getElem?_toArray, List.getElem?_cons_zero, List.getElem?_cons_succ] at y1
 cases b1 with
 | false =>
  have hq2 : (name != [83, 101, 114, 118, 105, 99, 101]) = true := by rw [bne, hq1]; rfl
  go_wp2_with fail
  go_ret
  exact ⟨by rw [hq2]; rfl, HPP.out⟩
 | true =>
  have hq2 : (name != [83, 101, 114, 118, 105, 99, 101]) = false := by rw [bne, hq1]; rfl
  go_wp2_with fail
  refine (HK.out _ HM2.out).mono ?_
  rintro e w4 ⟨rfl, hb4⟩
  have HP4 := h_ (HPP2.out _ hb4)
  clear hb4
  have hcase : kk = 0 ∨ kk = 1 ∨ kk = 2 ∨ kk = 3 ∨ kk = 4 := by omega
  rcases hcase with rfl | rfl | rfl | rfl | rfl
  all_goals
   go_wp2_with fail
   go_ret
   exact ⟨by rw [hq2]; rfl, HP4.out⟩
theorem PutAt.belowG {w w1 w' : World} {U : Nat} {cs : Array Value} {j : Nat} {F G : Nat → Prop} {c : UC} (hb : Below w.heap.size w w1) (hG : ∀ k, G k → w.heap.size ≤ k) (h : PutAt w1 w' U cs j (fun k => F k ∨ G k) c) : PutAt w w' U cs j F c := by
 obtain ⟨v, F', h1, h2, h3, h4⟩ := h
 refine ⟨v, F', h1, h2, (Fr.of_below hb (fun k => k = U ∨ F k)).then' h3 ?_, fun k hk => ⟨?_, (h4 k hk).2⟩⟩
 ·rintro i hi (rfl | h5 | h5)
  ·exact .inl rfl
  ·exact .inr h5
  ·have := hG i h5; omega
 ·rcases (h4 k hk).1 with (h5 | h5) | h5
  ·exact .inl h5
  ·exact .inr (hG k h5)
  ·exact .inr (Nat.le_trans hb.size h5)
theorem idx_word (s : Str) : ∀ (l : List Str) (i : Nat), Lib.idxFromS (l.map fun d => (⟨d.toArray⟩ : ByteArray)) ⟨s.toArray⟩ i = wordIx l s i
 | [], i => rfl
 | d :: r, i => by
  have he : ((⟨d.toArray⟩ : ByteArray) = ⟨s.toArray⟩) ↔ d = s := by
   constructor
   ·intro h
    have := congrArg (fun x : ByteArray => x.data.toList) h
    simpa using this
   ·rintro rfl; rfl
  rw [List.map_cons, Lib.idxFromS, wordIx, idx_word s r (i + 1)]
  by_cases h : d = s
  ·simp [h]
  ·simp [h, he]
theorem wordIx_le : ∀ (l : List Str) (s : Str) (i : Nat), -1 ≤ wordIx l s i ∧ wordIx l s i ≤ ((i + l.length : Nat) : Int)
 | [], s, i => by rw [wordIx]; simp
 | x :: t, s, i => by
  have h := wordIx_le t s (i + 1)
  rw [wordIx]
  split
  ·simp; omega
  ·simp only [List.length_cons] at h ⊢
   omega
theorem indexS_any (oa : Option Addr) (cap : Nat) (l : List Str) (x : Str) (w : World) (hl : l.length ≤ 4294967296) (h : StrRow w oa l) :
  Calls Tryz.prog 89 #[.slice oa l.length cap, .string ⟨x.toArray⟩] w fun e w' => e = .returned (.int .i64 (wordIx l x 0)) ∧ w' = w := by
 cases l with
 | nil => exact Tryz.slices_Index_string_empty oa cap _ w
 | cons a t =>
  obtain ⟨b, o, rfl, -⟩ := h 0 (by simp)
  have := Tryz.slices_Index_string b o (a :: t).length cap ((a :: t).map fun s => (⟨s.toArray⟩ : ByteArray)) ⟨x.toArray⟩ w (by simp) (by omega) (fun j hj => by
   have hj' : j < (a :: t).length := by simpa using hj
   obtain ⟨b2, o2, e2, hc⟩ := h j hj'
   injection e2 with e2
   injection e2 with e3 e4 e5
   subst e3; subst e4
   rw [hc]
   congr 2
   rw [List.getD_eq_getElem?_getD, List.getElem?_map, List.getElem?_eq_getElem hj']
   rfl)
  rw [List.take_of_length_le (by simp), show Lib.idxOfS ((a :: t).map fun s => (⟨s.toArray⟩ : ByteArray)) ⟨x.toArray⟩ = wordIx (a :: t) x 0 from idx_word x _ 0] at this
  exact this
set_option maxHeartbeats 4000000 in
theorem put_env (U : Nat) (cs : Array Value) (F : Nat → Prop) (v : Value) (w : World) (hb : w.heap[U]? = some (.cells cs 30 (0, 0))) (hj : cs[19]? = some v) (hFU : ¬ F U) (hF : ∀ k, F k → k < w.heap.size) (hM : MaxAt w)
  (kv : KeyV) (hf : kv.form = 8) (l : List (Str × Str)) (hv : UcAt w F (.ps l) v) (hl : l.length ≤ 100000) (val : Str) (hval : val.length ≤ 100000000) :
  Calls Tryz.prog 52 #[.pointer (some ⟨U, 0, none⟩), .agg (encK kv).toArray, .string ⟨val.toArray⟩] w fun e w' => e = .returned (.bool true) ∧ PutAt w w' U cs 19 F (.ps (envPut (if val = [] then [] else l) (envS val).1)) := by
 obtain ⟨sec, name, form, list, kinds, wa, wn, wc⟩ := kv
 unfold encK
 simp only at *
 subst hf
 have hUl := lt_heap hb
 have hB := (Below.refl w.heap.size w).alloc (Nat.le_refl _) (.cells #[.string ⟨sec.toArray⟩, .string ⟨name.toArray⟩, .int .i64 8, .bool list, .int .i64 kinds, .slice wa wn wc] 41)
 have hbx := heap_alloc_new w (.cells #[.string ⟨sec.toArray⟩, .string ⟨name.toArray⟩, .int .i64 8, .bool list, .int .i64 kinds, .slice wa wn wc] 41)
 have hbu := heap_below hb hB
 have HB := h_ hB; have HBX := h_ hbx; have HBU := h_ hbu; have HJ := h_ hj; have HFU := h_ hFU; have HF := h_ hF
 have HM1 := h_ (hM.below hB)
 have hne : U ≠ w.heap.size := by omega
 have hjs : 19 < cs.size := (Array.getElem?_eq_some_iff.1 hj).1
 have HC := h_ (envP_any U cs F l v (w.alloc (.cells #[.string ⟨sec.toArray⟩, .string ⟨name.toArray⟩, .int .i64 8, .bool list, .int .i64 kinds, .slice wa wn wc] 41)) hbu hj (hv.fr (M := fun _ => False) (Fr.of_below hB _) (fun _ _ e => e)) hFU (fun k hk => Nat.lt_of_lt_of_le (hF k hk) hB.size) hl (hM.below hB) val hval)
 generalize (UC.ps (envPut (if val = [] then [] else l) (envS val).1) : UC) = rc at *
 clear hB hbx hbu hb hj hFU hF hM hv
 obtain ⟨c0, c1, c2, c3, c4, c5⟩ := cells6 HBX.out
 go_enter Tryz.func52, Tryz.ntmps52
 go_wp2_with fail
 generalize w.alloc (.cells #[.string ⟨sec.toArray⟩, .string ⟨name.toArray⟩, .int .i64 8, .bool list, .int .i64 kinds, .slice wa wn wc] 41) = wb at *
 refine HC.out.mono ?_
 rintro e w3 ⟨rfl, hp⟩
 have HP := h_ (PutAt.below HB.out hp)
 clear hp
 go_wp2_with fail
 go_ret
 exact ⟨rfl, HP.out⟩
set_option maxHeartbeats 4000000 in
theorem put_ints (U j : Nat) (cs : Array Value) (F : Nat → Prop) (v : Value) (w : World) (hb : w.heap[U]? = some (.cells cs 30 (0, 0))) (hj : cs[j]? = some v) (hFU : ¬ F U) (hF : ∀ k, F k → k < w.heap.size) (hM : MaxAt w)
  (kv : KeyV) (hf : kv.form = 11) (l : List Int) (hv : UcAt w F (.ns l) v) (hl : l.length ≤ 100000) (HSL : ∀ W, Calls Tryz.prog 137 #[.pointer (some ⟨U, 0, none⟩), .string ⟨kv.name.toArray⟩] W fun e w' => e = .returned (.pointer (some ⟨U, j, none⟩)) ∧ w' = W) (val : Str) (hval : val.length ≤ 100000000) :
  Calls Tryz.prog 52 #[.pointer (some ⟨U, 0, none⟩), .agg (encK kv).toArray, .string ⟨val.toArray⟩] w fun e w' => e = .returned (.bool (!(j == 21) || !(blanksS val).any fun w => (numK w).1 == 0)) ∧ PutAt w w' U cs j F (.ns (onceS l (numsOf val))) := by
 obtain ⟨sec, name, form, list, kinds, wa, wn, wc⟩ := kv
 unfold encK
 simp only at *
 subst hf
 have hUl := lt_heap hb
 have hB := (Below.refl w.heap.size w).alloc (Nat.le_refl _) (.cells #[.string ⟨sec.toArray⟩, .string ⟨name.toArray⟩, .int .i64 11, .bool list, .int .i64 kinds, .slice wa wn wc] 41)
 have hbx := heap_alloc_new w (.cells #[.string ⟨sec.toArray⟩, .string ⟨name.toArray⟩, .int .i64 11, .bool list, .int .i64 kinds, .slice wa wn wc] 41)
 have hbu := heap_below hb hB
 have HB := h_ hB; have HBX := h_ hbx; have HBU := h_ hbu; have HJ := h_ hj; have HFU := h_ hFU; have HF := h_ hF
 have HM1 := h_ (hM.below hB)
 have hne : U ≠ w.heap.size := by omega
 have hjs : j < cs.size := (Array.getElem?_eq_some_iff.1 hj).1
 have HC := h_ (ints_any U j cs F l v (w.alloc (.cells #[.string ⟨sec.toArray⟩, .string ⟨name.toArray⟩, .int .i64 11, .bool list, .int .i64 kinds, .slice wa wn wc] 41)) hbu hj (hv.fr (M := fun _ => False) (Fr.of_below hB _) (fun _ _ e => e)) hFU (fun k hk => Nat.lt_of_lt_of_le (hF k hk) hB.size) hl (hM.below hB) ⟨name.toArray⟩ HSL val hval)
 generalize hzz : (!(j == 21) || !(blanksS val).any fun w => (numK w).1 == 0) = z at *
 generalize (UC.ns (onceS l (numsOf val)) : UC) = rc at *
 clear hB hbx hbu hb hj hFU hF hM hv HSL hzz
 obtain ⟨c0, c1, c2, c3, c4, c5⟩ := cells6 HBX.out
 go_enter Tryz.func52, Tryz.ntmps52
 go_wp2_with fail
 generalize w.alloc (.cells #[.string ⟨sec.toArray⟩, .string ⟨name.toArray⟩, .int .i64 11, .bool list, .int .i64 kinds, .slice wa wn wc] 41) = wb at *
 refine HC.out.mono ?_
 rintro e w3 ⟨rfl, hp⟩
 have HP := h_ (PutAt.below HB.out hp)
 clear hp
 go_wp2_with fail
 go_ret
 exact ⟨rfl, HP.out⟩
set_option maxHeartbeats 4000000 in
theorem put_spanList (U j : Nat) (cs : Array Value) (F : Nat → Prop) (v : Value) (w : World) (hb : w.heap[U]? = some (.cells cs 30 (0, 0))) (hj : cs[j]? = some v) (hFU : ¬ F U) (hF : ∀ k, F k → k < w.heap.size) (hM : MaxAt w)
  (kv : KeyV) (hf : kv.form = 4) (l : List Int) (hv : UcAt w F (.ns l) v) (hl : l.length ≤ 100000) (hkl : kv.list = true) (HSL : ∀ W, Calls Tryz.prog 137 #[.pointer (some ⟨U, 0, none⟩), .string ⟨kv.name.toArray⟩] W fun e w' => e = .returned (.pointer (some ⟨U, j, none⟩)) ∧ w' = W) (val : Str) (hval : val.length ≤ 100000000) :
  Calls Tryz.prog 52 #[.pointer (some ⟨U, 0, none⟩), .agg (encK kv).toArray, .string ⟨val.toArray⟩] w fun e w' => e = .returned (.bool true) ∧ PutAt w w' U cs j F (.ns (moreS l val (spanS val).1)) := by
 obtain ⟨sec, name, form, list, kinds, wa, wn, wc⟩ := kv
 unfold encK
 simp only at *
 subst hf
 subst hkl
 have hUl := lt_heap hb
 have hB := (Below.refl w.heap.size w).alloc (Nat.le_refl _) (.cells #[.string ⟨sec.toArray⟩, .string ⟨name.toArray⟩, .int .i64 4, .bool true, .int .i64 kinds, .slice wa wn wc] 41)
 have hbx := heap_alloc_new w (.cells #[.string ⟨sec.toArray⟩, .string ⟨name.toArray⟩, .int .i64 4, .bool true, .int .i64 kinds, .slice wa wn wc] 41)
 have hbu := heap_below hb hB
 have HB := h_ hB; have HBX := h_ hbx; have HBU := h_ hbu; have HJ := h_ hj; have HFU := h_ hFU; have HF := h_ hF
 have HM1 := h_ (hM.below hB)
 have hne : U ≠ w.heap.size := by omega
 have hjs : j < cs.size := (Array.getElem?_eq_some_iff.1 hj).1
 have hcall := spansList_any U j cs F l v (w.alloc (.cells #[.string ⟨sec.toArray⟩, .string ⟨name.toArray⟩, .int .i64 4, .bool true, .int .i64 kinds, .slice wa wn wc] 41)) hbu hj (hv.fr (M := fun _ => False) (Fr.of_below hB _) (fun _ _ e => e)) hFU (fun k hk => Nat.lt_of_lt_of_le (hF k hk) hB.size) hl (hM.below hB) ⟨sec, name, 4, true, kinds, wa, wn, wc⟩ rfl HSL val hval
 unfold encK at hcall
 have HC := h_ hcall
 clear hcall
 generalize (UC.ns (moreS l val (spanS val).1) : UC) = rc at *
 clear hB hbx hbu hb hj hFU hF hM hv HSL
 obtain ⟨c0, c1, c2, c3, c4, c5⟩ := cells6 HBX.out
 go_enter Tryz.func52, Tryz.ntmps52
 go_wp2_with fail
 generalize w.alloc (.cells #[.string ⟨sec.toArray⟩, .string ⟨name.toArray⟩, .int .i64 4, .bool true, .int .i64 kinds, .slice wa wn wc] 41) = wb at *
 refine HC.out.mono ?_
 rintro e w3 ⟨rfl, hp⟩
 have HP := h_ (PutAt.below HB.out hp)
 clear hp
 go_wp2_with fail
 go_ret
 exact ⟨rfl, HP.out⟩
set_option maxHeartbeats 4000000 in
theorem put_spanOne (U j : Nat) (cs : Array Value) (F : Nat → Prop) (v : Value) (w : World) (hb : w.heap[U]? = some (.cells cs 30 (0, 0))) (hj : cs[j]? = some v) (hFU : ¬ F U) (hF : ∀ k, F k → k < w.heap.size) (hM : MaxAt w)
  (kv : KeyV) (hf : kv.form = 4) (hv : ∃ n0 : Int, v = .int .i64 n0) (hkl : kv.list = false) (HSL : ∀ W, Calls Tryz.prog 88 #[.pointer (some ⟨U, 0, none⟩), .string ⟨kv.name.toArray⟩] W fun e w' => e = .returned (.pointer (some ⟨U, j, none⟩)) ∧ w' = W) (val : Str) (hval : val.length ≤ 100000000) :
  Calls Tryz.prog 52 #[.pointer (some ⟨U, 0, none⟩), .agg (encK kv).toArray, .string ⟨val.toArray⟩] w fun e w' => e = .returned (.bool true) ∧ PutAt w w' U cs j F (.n (spanS val).1) := by
 obtain ⟨sec, name, form, list, kinds, wa, wn, wc⟩ := kv
 unfold encK
 simp only at *
 subst hf
 subst hkl
 have hUl := lt_heap hb
 have hB := (Below.refl w.heap.size w).alloc (Nat.le_refl _) (.cells #[.string ⟨sec.toArray⟩, .string ⟨name.toArray⟩, .int .i64 4, .bool false, .int .i64 kinds, .slice wa wn wc] 41)
 have hbx := heap_alloc_new w (.cells #[.string ⟨sec.toArray⟩, .string ⟨name.toArray⟩, .int .i64 4, .bool false, .int .i64 kinds, .slice wa wn wc] 41)
 have hbu := heap_below hb hB
 have HB := h_ hB; have HBX := h_ hbx; have HBU := h_ hbu; have HJ := h_ hj; have HFU := h_ hFU; have HF := h_ hF
 have HM1 := h_ (hM.below hB)
 have hne : U ≠ w.heap.size := by omega
 have hjs : j < cs.size := (Array.getElem?_eq_some_iff.1 hj).1
 have hcall := spansOne_any U j cs F v (w.alloc (.cells #[.string ⟨sec.toArray⟩, .string ⟨name.toArray⟩, .int .i64 4, .bool false, .int .i64 kinds, .slice wa wn wc] 41)) hbu hj hv hFU (fun k hk => Nat.lt_of_lt_of_le (hF k hk) hB.size) (hM.below hB) ⟨sec, name, 4, false, kinds, wa, wn, wc⟩ rfl HSL val hval
 unfold encK at hcall
 have HC := h_ hcall
 clear hcall
 generalize (UC.n (spanS val).1 : UC) = rc at *
 clear hB hbx hbu hb hj hFU hF hM hv HSL
 obtain ⟨c0, c1, c2, c3, c4, c5⟩ := cells6 HBX.out
 go_enter Tryz.func52, Tryz.ntmps52
 go_wp2_with fail
 generalize w.alloc (.cells #[.string ⟨sec.toArray⟩, .string ⟨name.toArray⟩, .int .i64 4, .bool false, .int .i64 kinds, .slice wa wn wc] 41) = wb at *
 refine HC.out.mono ?_
 rintro e w3 ⟨rfl, hp⟩
 have HP := h_ (PutAt.below HB.out hp)
 clear hp
 go_wp2_with fail
 go_ret
 exact ⟨rfl, HP.out⟩
set_option maxHeartbeats 4000000 in
theorem put_texts (U j : Nat) (cs : Array Value) (F : Nat → Prop) (v : Value) (w : World) (hb : w.heap[U]? = some (.cells cs 30 (0, 0))) (hj : cs[j]? = some v) (hFU : ¬ F U) (hF : ∀ k, F k → k < w.heap.size) (hM : MaxAt w)
  (kv : KeyV) (hf : kv.form = 6) (l : List Str) (hv : UcAt w F (.ss l) v) (hl : l.length ≤ 100000) (HRL : ∀ W, Calls Tryz.prog 142 #[.string ⟨kv.name.toArray⟩] W fun e w' => e = .returned (.int .i64 0) ∧ w' = W) (HSL : ∀ W, Calls Tryz.prog 95 #[.pointer (some ⟨U, 0, none⟩), .string ⟨kv.name.toArray⟩] W fun e w' => e = .returned (.pointer (some ⟨U, j, none⟩)) ∧ w' = W) (val : Str) (hval : val.length ≤ 100000000) :
  Calls Tryz.prog 52 #[.pointer (some ⟨U, 0, none⟩), .agg (encK kv).toArray, .string ⟨val.toArray⟩] w fun e w' => e = .returned (.bool true) ∧ PutAt w w' U cs j F (.ss (onceS l (blanksS val))) := by
 obtain ⟨sec, name, form, list, kinds, wa, wn, wc⟩ := kv
 unfold encK
 simp only at *
 subst hf
 have hUl := lt_heap hb
 have hB := (Below.refl w.heap.size w).alloc (Nat.le_refl _) (.cells #[.string ⟨sec.toArray⟩, .string ⟨name.toArray⟩, .int .i64 6, .bool list, .int .i64 kinds, .slice wa wn wc] 41)
 have hbx := heap_alloc_new w (.cells #[.string ⟨sec.toArray⟩, .string ⟨name.toArray⟩, .int .i64 6, .bool list, .int .i64 kinds, .slice wa wn wc] 41)
 have hbu := heap_below hb hB
 have HB := h_ hB; have HBX := h_ hbx; have HBU := h_ hbu; have HJ := h_ hj; have HFU := h_ hFU; have HF := h_ hF
 have HM1 := h_ (hM.below hB)
 have hne : U ≠ w.heap.size := by omega
 have hjs : j < cs.size := (Array.getElem?_eq_some_iff.1 hj).1
 have HC := h_ (namesText_any U j cs F l v (w.alloc (.cells #[.string ⟨sec.toArray⟩, .string ⟨name.toArray⟩, .int .i64 6, .bool list, .int .i64 kinds, .slice wa wn wc] 41)) hbu hj (hv.fr (M := fun _ => False) (Fr.of_below hB _) (fun _ _ e => e)) hFU (fun k hk => Nat.lt_of_lt_of_le (hF k hk) hB.size) hl ⟨name.toArray⟩ HRL HSL val hval)
 generalize (UC.ss (onceS l (blanksS val)) : UC) = rc at *
 clear hB hbx hbu hb hj hFU hF hM hv HSL HRL
 obtain ⟨c0, c1, c2, c3, c4, c5⟩ := cells6 HBX.out
 go_enter Tryz.func52, Tryz.ntmps52
 go_wp2_with fail
 generalize w.alloc (.cells #[.string ⟨sec.toArray⟩, .string ⟨name.toArray⟩, .int .i64 6, .bool list, .int .i64 kinds, .slice wa wn wc] 41) = wb at *
 refine HC.out.mono ?_
 rintro e w3 ⟨rfl, hp⟩
 have HP := h_ (PutAt.below HB.out hp)
 clear hp
 go_wp2_with fail
 go_ret
 exact ⟨rfl, HP.out⟩
set_option maxHeartbeats 4000000 in
theorem put_rels (U : Nat) (cs : Array Value) (F : Nat → Prop) (v : Value) (w : World) (hb : w.heap[U]? = some (.cells cs 30 (0, 0))) (hj : cs[4]? = some v) (hFU : ¬ F U) (hF : ∀ k, F k → k < w.heap.size) (hM : MaxAt w)
  (kv : KeyV) (hf : kv.form = 6) (l : List (Int × Str)) (hv : UcAt w F (.rs l) v) (hl : l.length ≤ 100000) (nm : Str) (h0 : cs[0]? = some (.string ⟨nm.toArray⟩)) (rel : Int) (hrel0 : (rel == 0) = false) (HRL : ∀ W, Calls Tryz.prog 142 #[.string ⟨kv.name.toArray⟩] W fun e w' => e = .returned (.int .i64 rel) ∧ w' = W) (val : Str) (hval : val.length ≤ 100000000) :
  Calls Tryz.prog 52 #[.pointer (some ⟨U, 0, none⟩), .agg (encK kv).toArray, .string ⟨val.toArray⟩] w fun e w' => e = .returned (.bool true) ∧ PutAt w w' U cs 4 F (.rs (relsPut nm rel (if val = [] then l.filter (fun r => r.1 != rel) else l) (blanksS val))) := by
 obtain ⟨sec, name, form, list, kinds, wa, wn, wc⟩ := kv
 unfold encK
 simp only at *
 subst hf
 have hUl := lt_heap hb
 have hB := (Below.refl w.heap.size w).alloc (Nat.le_refl _) (.cells #[.string ⟨sec.toArray⟩, .string ⟨name.toArray⟩, .int .i64 6, .bool list, .int .i64 kinds, .slice wa wn wc] 41)
 have hbx := heap_alloc_new w (.cells #[.string ⟨sec.toArray⟩, .string ⟨name.toArray⟩, .int .i64 6, .bool list, .int .i64 kinds, .slice wa wn wc] 41)
 have hbu := heap_below hb hB
 have HB := h_ hB; have HBX := h_ hbx; have HBU := h_ hbu; have HJ := h_ hj; have HFU := h_ hFU; have HF := h_ hF
 have HM1 := h_ (hM.below hB)
 have hne : U ≠ w.heap.size := by omega
 have hjs : 4 < cs.size := (Array.getElem?_eq_some_iff.1 hj).1
 have HC := h_ (namesRel_any U cs F l v (w.alloc (.cells #[.string ⟨sec.toArray⟩, .string ⟨name.toArray⟩, .int .i64 6, .bool list, .int .i64 kinds, .slice wa wn wc] 41)) hbu hj (hv.fr (M := fun _ => False) (Fr.of_below hB _) (fun _ _ e => e)) hFU (fun k hk => Nat.lt_of_lt_of_le (hF k hk) hB.size) hl nm h0 ⟨name.toArray⟩ rel hrel0 HRL val hval)
 generalize (UC.rs (relsPut nm rel (if val = [] then l.filter (fun r => r.1 != rel) else l) (blanksS val)) : UC) = rc at *
 clear hB hbx hbu hb hj hFU hF hM hv HRL h0
 obtain ⟨c0, c1, c2, c3, c4, c5⟩ := cells6 HBX.out
 go_enter Tryz.func52, Tryz.ntmps52
 go_wp2_with fail
 generalize w.alloc (.cells #[.string ⟨sec.toArray⟩, .string ⟨name.toArray⟩, .int .i64 6, .bool list, .int .i64 kinds, .slice wa wn wc] 41) = wb at *
 refine HC.out.mono ?_
 rintro e w3 ⟨rfl, hp⟩
 have HP := h_ (PutAt.below HB.out hp)
 clear hp
 go_wp2_with fail
 go_ret
 exact ⟨rfl, HP.out⟩
set_option maxHeartbeats 4000000 in
theorem put_cal (U j : Nat) (cs : Array Value) (F : Nat → Prop) (v : Value) (w : World) (hb : w.heap[U]? = some (.cells cs 30 (0, 0))) (hj : cs[j]? = some v) (hFU : ¬ F U) (hF : ∀ k, F k → k < w.heap.size) (hM : MaxAt w)
  (kv : KeyV) (hf : kv.form = 9) (l : List Str) (hv : UcAt w F (.ss l) v) (hl : l.length ≤ 100000) (HSL : ∀ W, Calls Tryz.prog 95 #[.pointer (some ⟨U, 0, none⟩), .string ⟨kv.name.toArray⟩] W fun e w' => e = .returned (.pointer (some ⟨U, j, none⟩)) ∧ w' = W) (val : Str) (hval : val.length ≤ 100000000) :
  Calls Tryz.prog 52 #[.pointer (some ⟨U, 0, none⟩), .agg (encK kv).toArray, .string ⟨val.toArray⟩] w fun e w' => e = .returned (.bool true) ∧ PutAt w w' U cs j F (.ss (moreS l val val)) := by
 obtain ⟨sec, name, form, list, kinds, wa, wn, wc⟩ := kv
 unfold encK
 simp only at *
 subst hf
 have hUl := lt_heap hb
 have hB := (Below.refl w.heap.size w).alloc (Nat.le_refl _) (.cells #[.string ⟨sec.toArray⟩, .string ⟨name.toArray⟩, .int .i64 9, .bool list, .int .i64 kinds, .slice wa wn wc] 41)
 have hbx := heap_alloc_new w (.cells #[.string ⟨sec.toArray⟩, .string ⟨name.toArray⟩, .int .i64 9, .bool list, .int .i64 kinds, .slice wa wn wc] 41)
 have hbu := heap_below hb hB
 have HB := h_ hB; have HBX := h_ hbx; have HBU := h_ hbu; have HJ := h_ hj; have HFU := h_ hFU; have HF := h_ hF
 have HM1 := h_ (hM.below hB)
 have hne : U ≠ w.heap.size := by omega
 have hjs : j < cs.size := (Array.getElem?_eq_some_iff.1 hj).1
 have HS := h_ HSL
 have HC := h_ (moreStr_any U j cs F l v (w.alloc (.cells #[.string ⟨sec.toArray⟩, .string ⟨name.toArray⟩, .int .i64 9, .bool list, .int .i64 kinds, .slice wa wn wc] 41)) hbu hj (hv.fr (M := fun _ => False) (Fr.of_below hB _) (fun _ _ e => e)) hFU (fun k hk => Nat.lt_of_lt_of_le (hF k hk) hB.size) (by omega) val val)
 generalize (UC.ss (moreS l val val) : UC) = rc at *
 clear hB hbx hbu hb hj hFU hF hM hv HSL
 obtain ⟨c0, c1, c2, c3, c4, c5⟩ := cells6 HBX.out
 go_enter Tryz.func52, Tryz.ntmps52
 go_wp2_with fail
 generalize w.alloc (.cells #[.string ⟨sec.toArray⟩, .string ⟨name.toArray⟩, .int .i64 9, .bool list, .int .i64 kinds, .slice wa wn wc] 41) = wb at *
 refine (HS.out _).mono ?_
 rintro e w2 ⟨rfl, rfl⟩
 go_wp2_with fail
 refine HC.out.mono ?_
 rintro e w4 ⟨rfl, hp⟩
 have HP := h_ (PutAt.below HB.out hp)
 clear hp
 go_wp2_with fail
 go_ret
 exact ⟨rfl, HP.out⟩
end Go.Proofs.YtdjkedcpehhmnaaGreatDoor
