/-
  KeysTable walked.
-/
import Derived.Test.YtdpnahojhmkemaaGreatDoorKeyR3
import Derived.Test.YtdpnahojhmkemaaGreatDoorKeysSh
import Derived.Test.YtdpnahojhmkemaaGreatDoorDrawT
namespace Go.Proofs.YtdpnahojhmkemaaGreatDoor
open Go Go.RowKit Go.Sort Go.BigFrame
set_option linter.unusedVariables false
set_option linter.unusedSimpArgs false
set_option maxRecDepth 100000

def keyZ : Array Value := #[.string ⟨#[]⟩, .string ⟨#[]⟩, .int .i64 0, .bool false, .int .i64 0, .slice none 0 0]
theorem run_alloc_key (w : World) : (Instr.alloc 28 true (.tuple #[])).run Tryz.prog w = .ok (.pointer (some ⟨w.heap.size, 0, none⟩)) (w.alloc (.cells keyZ 28)) := by
  rfl
theorem and_small2 (x : Int) (m : Nat) (hm : m < 9223372036854775808) : ∃ n : Nat, n ≤ m ∧ bits BinOp.and IntKind.i64 x (m : Int) = (n : Int) := by
  have h1 : (BitVec.ofInt 64 (m : Int)).toNat = m := by
    rw [BitVec.ofInt_natCast, BitVec.toNat_ofNat]; exact Nat.mod_eq_of_lt (by omega)
  have h2 : (BitVec.ofInt 64 x &&& BitVec.ofInt 64 (m : Int)).toNat ≤ m := by
    rw [BitVec.toNat_and, h1]; exact Nat.and_le_right
  refine ⟨_, h2, ?_⟩
  show IntKind.i64.wrap ((BitVec.ofInt 64 x &&& BitVec.ofInt 64 (m : Int)).toNat : Int) = _
  generalize (BitVec.ofInt 64 x &&& BitVec.ofInt 64 (m : Int)).toNat = q at *
  rw [IntKind.wrap_i64]
  omega
theorem KvRd.fr_box {w w' : World} {b : Nat} {cs : Array Value} {v : KeyV} {k : KeyS} (h : KvRd w v k) (hf : Fr (· = b) w w') (hb : w.heap[b]? = some (.cells cs 28 (0, 0))) : KvRd w' v k :=
  { h with ww := h.ww.imp id fun ⟨B, q⟩ => ⟨B, q.1, by
    rcases q.2 with hn | ⟨g, cp, cur, hv, hg, hgg, rest⟩
    · exact .inl hn
    · refine .inr ⟨g, cp, cur, hv, hg, hf.heap hgg (fun e => ?_), rest⟩
      rw [e, hb] at hgg
      simp at hgg⟩ }
theorem same_self (k : KeyS) : sameKS k k = true := (sameKS_iff k k).2 rfl
theorem all_words (i : Nat) (h : i < allKeys.length) : allKeys[i].words.length ≤ 1000000 := by
  have := (keys_small _ (List.getElem_mem h)).2.2
  omega
theorem found_words (s n : Str) : ((findKey s n).getD zeroKS).words.length ≤ 1000000 := by
  cases h : findKey s n with
  | none => decide
  | some k =>
    have := (keys_small k (List.mem_of_find?_eq_some h)).2.2
    show k.words.length ≤ _
    omega
theorem cells_of_row {w : World} {o : Option Addr} {vs : List KeyV} (h : RowRd encK 6 w o vs) (k : Nat) (hk : k < vs.length) (b f : Nat) (ho : o = some ⟨b, f, none⟩) (x : KeyV) (hx : x = vs[k]) :
    w.cell? ⟨b, f + k * 6, none⟩ = some (.string ⟨x.sec.toArray⟩) ∧ w.cell? ⟨b, f + k * 6 + 1, none⟩ = some (.string ⟨x.name.toArray⟩) ∧ w.cell? ⟨b, f + k * 6 + 2, none⟩ = some (.int .i64 x.form) ∧ w.cell? ⟨b, f + k * 6 + 3, none⟩ = some (.bool x.list) ∧ w.cell? ⟨b, f + k * 6 + 4, none⟩ = some (.int .i64 x.kinds) ∧ w.cell? ⟨b, f + k * 6 + 5, none⟩ = some (.slice x.wa x.wn x.wc) := by
  obtain ⟨b3, o3, e3, _, hcc⟩ := h k hk
  rw [ho] at e3
  injection e3 with e3
  injection e3 with e4 e5 e6
  subst e4; subst e5
  rw [← hx] at hcc
  exact ⟨hcc 0 _ rfl, hcc 1 _ rfl, hcc 2 _ rfl, hcc 3 _ rfl, hcc 4 _ rfl, hcc 5 _ rfl⟩

set_option maxHeartbeats 8000000 in
theorem table_any (sec name : Str) (at_ : Int) (w : World) (hM : MaxAt w) :
    Calls Tryz.prog 3 #[.string ⟨sec.toArray⟩, .string ⟨name.toArray⟩, .int .i64 at_] w fun e w' => e = .returned (.bool true) ∧ Below w.heap.size w w' := by
  have HSH := Lib.hid (shown_any w hM)
  clear hM
  go_enter Tryz.func3, Tryz.ntmps3
  go_wp2_with fail
  refine HSH.out.mono ?_
  rintro e w1 ⟨rfl, hb1⟩
  have HB1 := Lib.hid hb1
  have HA := Lib.hid (keysAll_any w1)
  clear hb1 HSH
  go_wp2_with fail
  refine HA.out.mono ?_
  rintro e w2 ⟨ov, cv, vs, rfl, hrv, hkv, hb2⟩
  have HB2 := Lib.hid (HB1.out.trans (hb2.mono HB1.out.size))
  have HRV := Lib.hid hrv; have HKV := Lib.hid hkv
  have HA2 := Lib.hid (keysR_any w2)
  clear hb2 hrv hkv HA HB1
  go_wp2_with fail
  refine HA2.out.mono ?_
  rintro e w3 ⟨ou, cu, us, rfl, hru, hku, hb3⟩
  have HB3 := Lib.hid (HB2.out.trans (hb3.mono HB2.out.size))
  have hlv : vs.length = 42 := by rw [HKV.out.1]; exact allKeys_len
  have hlu : us.length = 42 := by rw [hku.1]; exact allKeys_len
  obtain ⟨bv, fv, rfl, -, -⟩ := HRV.out 0 (by omega)
  obtain ⟨bu, fu, rfl, -, -⟩ := hru 0 (by omega)
  have HV := Lib.hid (fun W (h : Below w3.heap.size w3 W) => (show RowRd encK 6 W (some ⟨bv, fv, none⟩) vs ∧ RowRd encK 6 W (some ⟨bu, fu, none⟩) us ∧ KvsRd W vs allKeys ∧ KvsRd W us allKeys from
    ⟨(HRV.out.below hb3).below h, hru.below h, (HKV.out.below hb3).below h, hku.below h⟩))
  have HLV := Lib.hid hlv; have HLU := Lib.hid hlu
  clear hb3 hlv hlu hru hku HRV HKV HB2 HA2
  go_wp2_with fail
  go_loopg [30] 43 (fun f i wr => ∃ k : Nat, k ≤ 42 ∧ i = .int .i64 k ∧ 42 - k < f ∧ Hid (Below w3.heap.size w3 wr))
  case atStart => exact ⟨0, by omega, rfl, by omega, Below.refl _ _⟩
  case round =>
    obtain ⟨k, hk, rfl, hfu, HW⟩ := hrel
    by_cases hlt : k < 42
    · have hz : (k : Int) < 42 := by omega
      have hkv : k < vs.length := by rw [HLV.out]; exact hlt
      have hku : k < us.length := by rw [HLU.out]; exact hlt
      have hka : k < allKeys.length := by rw [allKeys_len]; exact hlt
      obtain ⟨x, hx⟩ : ∃ x, x = vs[k] := ⟨_, rfl⟩
      obtain ⟨u, hu⟩ : ∃ u, u = us[k] := ⟨_, rfl⟩
      obtain ⟨q, hq⟩ : ∃ q, q = allKeys[k] := ⟨_, rfl⟩
      have HC := Lib.hid (fun W (h : Below w3.heap.size w3 W) => And.intro (cells_of_row (HV.out W h).1 k hkv bv fv rfl x hx) (cells_of_row (HV.out W h).2.1 k hku bu fu rfl u hu))
      have HX := Lib.hid (fun W (h : Below w3.heap.size w3 W) => (show KvRd W x q ∧ KvRd W u q from by rw [hx, hu, hq]; exact ⟨(HV.out W h).2.2.1.2 k hkv hka, (HV.out W h).2.2.2.2 k hku hka⟩))
      have HQ := Lib.hid (show q.words.length ≤ 1000000 from by rw [hq]; exact all_words k hka)
      have HF := Lib.hid (show findKey u.sec u.name = some q from by
        have h := (HX.out w3 (Below.refl _ _)).2
        rw [h.sec, h.name, hq]; exact find_each _ (List.getElem_mem hka))
      clear hx hu hq hkv hku hka
      go_wp2_with fail
      refine wp_region_held_drew (S := fun V => Below w3.heap.size w3 V) (by kernel_rfl) (HW.out.trans (below_dn ⟨1, rfl⟩)) (fun hHeld => ?_)
      try simp only [Act.put, List.setIfInBounds_toArray, List.set_cons_zero, List.set_cons_succ]
      refine wpAnyH_take (i := 0) (v := .slice (some ⟨bv, fv, none⟩) 42 cv) (List.getElem?_toArray.trans rfl) (by kernel_rfl) (by kernel_rfl) (by kernel_rfl) (fun _ _ _ h => h) (Or.inl ⟨by rfl, fun W hW => by obtain ⟨⟨d0, d1, d2, d3, d4, d5⟩, ⟨g0, g1, g2, g3, g4, g5⟩⟩ := HC.out W hW; clear hW; go_simp⟩) (by assumption) ?_
      try simp only [Act.put, List.setIfInBounds_toArray, List.set_cons_zero, List.set_cons_succ]
      refine wpAnyH_take (i := 1) (v := .int .i64 k) (List.getElem?_toArray.trans rfl) (by kernel_rfl) (by kernel_rfl) (by kernel_rfl) (fun _ _ _ h => h) (Or.inl ⟨by rfl, fun W hW => by obtain ⟨⟨d0, d1, d2, d3, d4, d5⟩, ⟨g0, g1, g2, g3, g4, g5⟩⟩ := HC.out W hW; clear hW; go_simp⟩) (by assumption) ?_
      try simp only [Act.put, List.setIfInBounds_toArray, List.set_cons_zero, List.set_cons_succ]
      refine wpAnyH_take (i := 2) (v := .pointer (some ⟨bv, fv + k * 6, none⟩)) (List.getElem?_toArray.trans rfl) (by kernel_rfl) (by kernel_rfl) (by kernel_rfl) (fun _ _ _ h => h) (Or.inl ⟨by rfl, fun W hW => by obtain ⟨⟨d0, d1, d2, d3, d4, d5⟩, ⟨g0, g1, g2, g3, g4, g5⟩⟩ := HC.out W hW; clear hW; go_simp⟩) (by assumption) ?_
      try simp only [Act.put, List.setIfInBounds_toArray, List.set_cons_zero, List.set_cons_succ]
      refine wpAnyH_take (i := 3) (v := .agg #[.string ⟨x.sec.toArray⟩, .string ⟨x.name.toArray⟩, .int .i64 x.form, .bool x.list, .int .i64 x.kinds, .slice x.wa x.wn x.wc]) (List.getElem?_toArray.trans rfl) (by kernel_rfl) (by kernel_rfl) (by kernel_rfl) (fun _ _ _ h => h) (Or.inl ⟨by rfl, fun W hW => by obtain ⟨⟨d0, d1, d2, d3, d4, d5⟩, ⟨g0, g1, g2, g3, g4, g5⟩⟩ := HC.out W hW; clear hW; go_simp⟩) (by assumption) ?_
      try simp only [Act.put, List.setIfInBounds_toArray, List.set_cons_zero, List.set_cons_succ]
      refine wpAnyH_take (i := 4) (v := .slice (some ⟨bu, fu, none⟩) 42 cu) (List.getElem?_toArray.trans rfl) (by kernel_rfl) (by kernel_rfl) (by kernel_rfl) (fun _ _ _ h => h) (Or.inl ⟨by rfl, fun W hW => by obtain ⟨⟨d0, d1, d2, d3, d4, d5⟩, ⟨g0, g1, g2, g3, g4, g5⟩⟩ := HC.out W hW; clear hW; go_simp⟩) (by assumption) ?_
      try simp only [Act.put, List.setIfInBounds_toArray, List.set_cons_zero, List.set_cons_succ]
      refine wpAnyH_take (i := 5) (v := .int .i64 k) (List.getElem?_toArray.trans rfl) (by kernel_rfl) (by kernel_rfl) (by kernel_rfl) (fun _ _ _ h => h) (Or.inl ⟨by rfl, fun W hW => by obtain ⟨⟨d0, d1, d2, d3, d4, d5⟩, ⟨g0, g1, g2, g3, g4, g5⟩⟩ := HC.out W hW; clear hW; go_simp⟩) (by assumption) ?_
      try simp only [Act.put, List.setIfInBounds_toArray, List.set_cons_zero, List.set_cons_succ]
      refine wpAnyH_take (i := 6) (v := .pointer (some ⟨bu, fu + k * 6, none⟩)) (List.getElem?_toArray.trans rfl) (by kernel_rfl) (by kernel_rfl) (by kernel_rfl) (fun _ _ _ h => h) (Or.inl ⟨by rfl, fun W hW => by obtain ⟨⟨d0, d1, d2, d3, d4, d5⟩, ⟨g0, g1, g2, g3, g4, g5⟩⟩ := HC.out W hW; clear hW; go_simp⟩) (by assumption) ?_
      try simp only [Act.put, List.setIfInBounds_toArray, List.set_cons_zero, List.set_cons_succ]
      refine wpAnyH_take (i := 7) (v := .agg #[.string ⟨u.sec.toArray⟩, .string ⟨u.name.toArray⟩, .int .i64 u.form, .bool u.list, .int .i64 u.kinds, .slice u.wa u.wn u.wc]) (List.getElem?_toArray.trans rfl) (by kernel_rfl) (by kernel_rfl) (by kernel_rfl) (fun _ _ _ h => h) (Or.inl ⟨by rfl, fun W hW => by obtain ⟨⟨d0, d1, d2, d3, d4, d5⟩, ⟨g0, g1, g2, g3, g4, g5⟩⟩ := HC.out W hW; clear hW; go_simp⟩) (by assumption) ?_
      try simp only [Act.put, List.setIfInBounds_toArray, List.set_cons_zero, List.set_cons_succ]
      have hv0 := hHeld
      refine wpAnyH_ready (rs := [8]) (by kernel_rfl) (by simp) (AllReadyH.cons (List.getElem?_toArray.trans rfl) (fun K hK => ?_) (AllReadyH.nil))
      clear hHeld
      rw [if_pos (by rfl)]
      go_simp
      refine (sameK_any x u q q _ (HX.out _ hv0).1 (HX.out _ hv0).2 HQ.out HQ.out true (same_self q)).mono ?_
      rintro e w4 ⟨rfl, hbi⟩
      have HW4 := Lib.hid (hv0.trans (hbi.mono hv0.size))
      clear hbi
      refine hK.out _ _ HW4.out (fun hHeld => ?_)
      clear hK K
      try simp only [Act.put, List.setIfInBounds_toArray, List.set_cons_zero, List.set_cons_succ]
      refine wpAnyH_take (i := 9) (v := .bool false) (List.getElem?_toArray.trans rfl) (by kernel_rfl) (by kernel_rfl) (by kernel_rfl) (fun _ _ _ h => h) (Or.inl ⟨by rfl, fun W hW => by clear hW; go_simp⟩) (by assumption) ?_
      try simp only [Act.put, List.setIfInBounds_toArray, List.set_cons_zero, List.set_cons_succ]
      refine wpAnyH_done (by kernel_rfl) ?_ _
      clear hHeld
      clear HW hv0
      go_wp2_with fail
      refine wp_region_held_drew (S := fun V => Below w3.heap.size w3 V) (by kernel_rfl) (HW4.out.trans (below_dn ⟨1, rfl⟩)) (fun hHeld => ?_)
      try simp only [Act.put, List.setIfInBounds_toArray, List.set_cons_zero, List.set_cons_succ]
      refine wpAnyH_take (i := 0) (v := .slice (some ⟨bu, fu, none⟩) 42 cu) (List.getElem?_toArray.trans rfl) (by kernel_rfl) (by kernel_rfl) (by kernel_rfl) (fun _ _ _ h => h) (Or.inl ⟨by rfl, fun W hW => by obtain ⟨⟨d0, d1, d2, d3, d4, d5⟩, ⟨g0, g1, g2, g3, g4, g5⟩⟩ := HC.out W hW; clear hW; go_simp⟩) (by assumption) ?_
      try simp only [Act.put, List.setIfInBounds_toArray, List.set_cons_zero, List.set_cons_succ]
      refine wpAnyH_take (i := 1) (v := .int .i64 k) (List.getElem?_toArray.trans rfl) (by kernel_rfl) (by kernel_rfl) (by kernel_rfl) (fun _ _ _ h => h) (Or.inl ⟨by rfl, fun W hW => by obtain ⟨⟨d0, d1, d2, d3, d4, d5⟩, ⟨g0, g1, g2, g3, g4, g5⟩⟩ := HC.out W hW; clear hW; go_simp⟩) (by assumption) ?_
      try simp only [Act.put, List.setIfInBounds_toArray, List.set_cons_zero, List.set_cons_succ]
      refine wpAnyH_take (i := 2) (v := .pointer (some ⟨bu, fu + k * 6, none⟩)) (List.getElem?_toArray.trans rfl) (by kernel_rfl) (by kernel_rfl) (by kernel_rfl) (fun _ _ _ h => h) (Or.inl ⟨by rfl, fun W hW => by obtain ⟨⟨d0, d1, d2, d3, d4, d5⟩, ⟨g0, g1, g2, g3, g4, g5⟩⟩ := HC.out W hW; clear hW; go_simp⟩) (by assumption) ?_
      try simp only [Act.put, List.setIfInBounds_toArray, List.set_cons_zero, List.set_cons_succ]
      refine wpAnyH_take (i := 3) (v := .pointer (some ⟨bu, fu + k * 6, none⟩)) (List.getElem?_toArray.trans rfl) (by kernel_rfl) (by kernel_rfl) (by kernel_rfl) (fun _ _ _ h => h) (Or.inl ⟨by rfl, fun W hW => by obtain ⟨⟨d0, d1, d2, d3, d4, d5⟩, ⟨g0, g1, g2, g3, g4, g5⟩⟩ := HC.out W hW; clear hW; go_simp⟩) (by assumption) ?_
      try simp only [Act.put, List.setIfInBounds_toArray, List.set_cons_zero, List.set_cons_succ]
      refine wpAnyH_take (i := 4) (v := .string ⟨u.sec.toArray⟩) (List.getElem?_toArray.trans rfl) (by kernel_rfl) (by kernel_rfl) (by kernel_rfl) (fun _ _ _ h => h) (Or.inl ⟨by rfl, fun W hW => by obtain ⟨⟨d0, d1, d2, d3, d4, d5⟩, ⟨g0, g1, g2, g3, g4, g5⟩⟩ := HC.out W hW; clear hW; go_simp⟩) (by assumption) ?_
      try simp only [Act.put, List.setIfInBounds_toArray, List.set_cons_zero, List.set_cons_succ]
      refine wpAnyH_take (i := 5) (v := .slice (some ⟨bu, fu, none⟩) 42 cu) (List.getElem?_toArray.trans rfl) (by kernel_rfl) (by kernel_rfl) (by kernel_rfl) (fun _ _ _ h => h) (Or.inl ⟨by rfl, fun W hW => by obtain ⟨⟨d0, d1, d2, d3, d4, d5⟩, ⟨g0, g1, g2, g3, g4, g5⟩⟩ := HC.out W hW; clear hW; go_simp⟩) (by assumption) ?_
      try simp only [Act.put, List.setIfInBounds_toArray, List.set_cons_zero, List.set_cons_succ]
      refine wpAnyH_take (i := 6) (v := .int .i64 k) (List.getElem?_toArray.trans rfl) (by kernel_rfl) (by kernel_rfl) (by kernel_rfl) (fun _ _ _ h => h) (Or.inl ⟨by rfl, fun W hW => by obtain ⟨⟨d0, d1, d2, d3, d4, d5⟩, ⟨g0, g1, g2, g3, g4, g5⟩⟩ := HC.out W hW; clear hW; go_simp⟩) (by assumption) ?_
      try simp only [Act.put, List.setIfInBounds_toArray, List.set_cons_zero, List.set_cons_succ]
      refine wpAnyH_take (i := 7) (v := .pointer (some ⟨bu, fu + k * 6, none⟩)) (List.getElem?_toArray.trans rfl) (by kernel_rfl) (by kernel_rfl) (by kernel_rfl) (fun _ _ _ h => h) (Or.inl ⟨by rfl, fun W hW => by obtain ⟨⟨d0, d1, d2, d3, d4, d5⟩, ⟨g0, g1, g2, g3, g4, g5⟩⟩ := HC.out W hW; clear hW; go_simp⟩) (by assumption) ?_
      try simp only [Act.put, List.setIfInBounds_toArray, List.set_cons_zero, List.set_cons_succ]
      refine wpAnyH_take (i := 8) (v := .pointer (some ⟨bu, fu + k * 6 + 1, none⟩)) (List.getElem?_toArray.trans rfl) (by kernel_rfl) (by kernel_rfl) (by kernel_rfl) (fun _ _ _ h => h) (Or.inl ⟨by rfl, fun W hW => by obtain ⟨⟨d0, d1, d2, d3, d4, d5⟩, ⟨g0, g1, g2, g3, g4, g5⟩⟩ := HC.out W hW; clear hW; go_simp⟩) (by assumption) ?_
      try simp only [Act.put, List.setIfInBounds_toArray, List.set_cons_zero, List.set_cons_succ]
      refine wpAnyH_take (i := 9) (v := .string ⟨u.name.toArray⟩) (List.getElem?_toArray.trans rfl) (by kernel_rfl) (by kernel_rfl) (by kernel_rfl) (fun _ _ _ h => h) (Or.inl ⟨by rfl, fun W hW => by obtain ⟨⟨d0, d1, d2, d3, d4, d5⟩, ⟨g0, g1, g2, g3, g4, g5⟩⟩ := HC.out W hW; clear hW; go_simp⟩) (by assumption) ?_
      try simp only [Act.put, List.setIfInBounds_toArray, List.set_cons_zero, List.set_cons_succ]
      generalize hwd : w4.drew = wd at *
      have hv0 := hHeld
      refine wpAnyH_ready (rs := [10, 14]) (by kernel_rfl) (by simp) (AllReadyH.cons (List.getElem?_toArray.trans rfl) (fun K hK => ?_) (AllReadyH.cons (List.getElem?_toArray.trans rfl) (fun K hK => ?_) AllReadyH.nil))
      · clear hHeld
        rw [if_pos (by rfl)]
        go_simp
        refine (find_any u.sec u.name _).mono ?_
        rintro e wa ⟨kv, rfl, hkv, hbi⟩
        rw [HF.out] at hkv ⊢
        rw [show (encK kv).toArray = #[.string ⟨kv.sec.toArray⟩, .string ⟨kv.name.toArray⟩, .int .i64 kv.form, .bool kv.list, .int .i64 kv.kinds, .slice kv.wa kv.wn kv.wc] from rfl]
        have Hwa := Lib.hid (hv0.trans (hbi.mono hv0.size))
        have HKV := Lib.hid (show KvRd wa kv q from hkv)
        clear hkv
        refine hK.out _ _ Hwa.out (fun hHeld => ?_)
        clear hK K
        try simp only [Act.put, List.setIfInBounds_toArray, List.set_cons_zero, List.set_cons_succ]
        refine wpAnyH_take (i := 11) (v := .tuple #[.agg #[.string ⟨kv.sec.toArray⟩, .string ⟨kv.name.toArray⟩, .int .i64 kv.form, .bool kv.list, .int .i64 kv.kinds, .slice kv.wa kv.wn kv.wc], .bool true]) (List.getElem?_toArray.trans rfl) (by kernel_rfl) (by kernel_rfl) (by kernel_rfl) (fun _ _ _ h => h) (Or.inl ⟨by rfl, fun W hW => by clear hW; go_simp⟩) (by assumption) ?_
        try simp only [Act.put, List.setIfInBounds_toArray, List.set_cons_zero, List.set_cons_succ]
        refine wpAnyH_take (i := 12) (v := .agg #[.string ⟨kv.sec.toArray⟩, .string ⟨kv.name.toArray⟩, .int .i64 kv.form, .bool kv.list, .int .i64 kv.kinds, .slice kv.wa kv.wn kv.wc]) (List.getElem?_toArray.trans rfl) (by kernel_rfl) (by kernel_rfl) (by kernel_rfl) (fun _ _ _ h => h) (Or.inl ⟨by rfl, fun W hW => by clear hW; go_simp⟩) (by assumption) ?_
        try simp only [Act.put, List.setIfInBounds_toArray, List.set_cons_zero, List.set_cons_succ]
        refine wpAnyH_take (i := 13) (v := .bool true) (List.getElem?_toArray.trans rfl) (by kernel_rfl) (by kernel_rfl) (by kernel_rfl) (fun _ _ _ h => h) (Or.inl ⟨by rfl, fun W hW => by clear hW; go_simp⟩) (by assumption) ?_
        try simp only [Act.put, List.setIfInBounds_toArray, List.set_cons_zero, List.set_cons_succ]
        refine wpAnyH_ready (rs := [14]) (by kernel_rfl) (by simp) (AllReadyH.cons (List.getElem?_toArray.trans rfl) (fun K hK => ?_) (AllReadyH.nil))
        clear hHeld
        rw [if_pos (by rfl)]
        refine oper_alloc_at wa.heap.size rfl 28 keyZ rfl (run_alloc_key _) ?_
        intro wb hwb hbwb hlwb
        have Hwb := Lib.hid (Hwa.out.trans (hbwb.mono Hwa.out.size))
        have HKV := Lib.hid (HKV.out.below hbwb)
        refine hK.out _ _ Hwb.out (fun hHeld => ?_)
        clear hK K
        try simp only [Act.put, List.setIfInBounds_toArray, List.set_cons_zero, List.set_cons_succ]
        refine wpAnyH_ready (rs := [15]) (by kernel_rfl) (by simp) (AllReadyH.cons (List.getElem?_toArray.trans rfl) (fun K hK => ?_) (AllReadyH.nil))
        clear hHeld
        rw [if_pos (by rfl)]
        refine oper_store_all 28 _ _ wa.heap.size (encK kv).toArray keyZ 28 rfl rfl rfl hwb rfl rfl (by simp [encK, Value.oneCell']) ?_
        intro wc hwc hfwc
        have hsz1 := Hwa.out.size; have hsz2 := hv0.size
        have Hwc := Lib.hid (show Below w3.heap.size w3 wc from Hwb.out.trans (hfwc.below _ Hwb.out.size (fun k hk e => by omega)))
        have HKV := Lib.hid (KvRd.fr_box HKV.out hfwc hwb)
        refine hK.out _ _ Hwc.out (fun hHeld => ?_)
        clear hK K
        try simp only [Act.put, List.setIfInBounds_toArray, List.set_cons_zero, List.set_cons_succ]
        refine wpAnyH_take (i := 16) (v := .bool true) (List.getElem?_toArray.trans rfl) (by kernel_rfl) (by kernel_rfl) (by kernel_rfl) (fun _ _ _ h => h) (Or.inl ⟨by rfl, fun W hW => by clear hW; go_simp⟩) (by assumption) ?_
        try simp only [Act.put, List.setIfInBounds_toArray, List.set_cons_zero, List.set_cons_succ]
        refine wpAnyH_done (by kernel_rfl) ?_ _
        clear hHeld
        clear hwb hbwb hlwb hfwc Hwa Hwb HW4 hsz1 hsz2
        obtain ⟨bc, -, -, -⟩ := rd hwc
        have HCC := Lib.hid (show ∀ V, Below wc.heap.size wc V → V.cell? ⟨wa.heap.size, 0, none⟩ = some (.string ⟨kv.sec.toArray⟩) ∧ V.cell? ⟨wa.heap.size, 1, none⟩ = some (.string ⟨kv.name.toArray⟩) ∧ V.cell? ⟨wa.heap.size, 2, none⟩ = some (.int .i64 kv.form) ∧ V.cell? ⟨wa.heap.size, 3, none⟩ = some (.bool kv.list) ∧ V.cell? ⟨wa.heap.size, 4, none⟩ = some (.int .i64 kv.kinds) ∧ V.cell? ⟨wa.heap.size, 5, none⟩ = some (.slice kv.wa kv.wn kv.wc) from fun V hV => by
          have hh := heap_below hwc hV
          have hc := (rd hh).1
          exact ⟨hc 0, hc 1, hc 2, hc 3, hc 4, hc 5⟩)
        clear bc
        generalize wa.heap.size = KB at *
        clear hwc
        go_wp2_with fail
        refine wp_region_held_drew (S := fun V => Below wc.heap.size wc V) (by kernel_rfl) (below_dn ⟨1, rfl⟩) (fun hHeld => ?_)
        try simp only [Act.put, List.setIfInBounds_toArray, List.set_cons_zero, List.set_cons_succ]
        refine wpAnyH_take (i := 0) (v := .bool true) (List.getElem?_toArray.trans rfl) (by kernel_rfl) (by kernel_rfl) (by kernel_rfl) (fun _ _ _ h => h) (Or.inl ⟨by rfl, fun W hW => by obtain ⟨c0, c1, c2, c3, c4, c5⟩ := HCC.out W hW; obtain ⟨⟨d0, d1, d2, d3, d4, d5⟩, ⟨g0, g1, g2, g3, g4, g5⟩⟩ := HC.out W (Hwc.out.trans (hW.mono Hwc.out.size)); clear hW; go_simp⟩) (by assumption) ?_
        try simp only [Act.put, List.setIfInBounds_toArray, List.set_cons_zero, List.set_cons_succ]
        refine wpAnyH_take (i := 1) (v := .bool false) (List.getElem?_toArray.trans rfl) (by kernel_rfl) (by kernel_rfl) (by kernel_rfl) (fun _ _ _ h => h) (Or.inl ⟨by rfl, fun W hW => by obtain ⟨c0, c1, c2, c3, c4, c5⟩ := HCC.out W hW; obtain ⟨⟨d0, d1, d2, d3, d4, d5⟩, ⟨g0, g1, g2, g3, g4, g5⟩⟩ := HC.out W (Hwc.out.trans (hW.mono Hwc.out.size)); clear hW; go_simp⟩) (by assumption) ?_
        try simp only [Act.put, List.setIfInBounds_toArray, List.set_cons_zero, List.set_cons_succ]
        refine wpAnyH_take (i := 2) (v := .bool false) (List.getElem?_toArray.trans rfl) (by kernel_rfl) (by kernel_rfl) (by kernel_rfl) (fun _ _ _ h => h) (Or.inl ⟨by rfl, fun W hW => by obtain ⟨c0, c1, c2, c3, c4, c5⟩ := HCC.out W hW; obtain ⟨⟨d0, d1, d2, d3, d4, d5⟩, ⟨g0, g1, g2, g3, g4, g5⟩⟩ := HC.out W (Hwc.out.trans (hW.mono Hwc.out.size)); clear hW; go_simp⟩) (by assumption) ?_
        try simp only [Act.put, List.setIfInBounds_toArray, List.set_cons_zero, List.set_cons_succ]
        refine wpAnyH_take (i := 3) (v := .agg #[.string ⟨kv.sec.toArray⟩, .string ⟨kv.name.toArray⟩, .int .i64 kv.form, .bool kv.list, .int .i64 kv.kinds, .slice kv.wa kv.wn kv.wc]) (List.getElem?_toArray.trans rfl) (by kernel_rfl) (by kernel_rfl) (by kernel_rfl) (fun _ _ _ h => h) (Or.inl ⟨by rfl, fun W hW => by obtain ⟨c0, c1, c2, c3, c4, c5⟩ := HCC.out W hW; obtain ⟨⟨d0, d1, d2, d3, d4, d5⟩, ⟨g0, g1, g2, g3, g4, g5⟩⟩ := HC.out W (Hwc.out.trans (hW.mono Hwc.out.size)); clear hW; go_simp⟩) (by assumption) ?_
        try simp only [Act.put, List.setIfInBounds_toArray, List.set_cons_zero, List.set_cons_succ]
        refine wpAnyH_take (i := 4) (v := .slice (some ⟨bu, fu, none⟩) 42 cu) (List.getElem?_toArray.trans rfl) (by kernel_rfl) (by kernel_rfl) (by kernel_rfl) (fun _ _ _ h => h) (Or.inl ⟨by rfl, fun W hW => by obtain ⟨c0, c1, c2, c3, c4, c5⟩ := HCC.out W hW; obtain ⟨⟨d0, d1, d2, d3, d4, d5⟩, ⟨g0, g1, g2, g3, g4, g5⟩⟩ := HC.out W (Hwc.out.trans (hW.mono Hwc.out.size)); clear hW; go_simp⟩) (by assumption) ?_
        try simp only [Act.put, List.setIfInBounds_toArray, List.set_cons_zero, List.set_cons_succ]
        refine wpAnyH_take (i := 5) (v := .int .i64 k) (List.getElem?_toArray.trans rfl) (by kernel_rfl) (by kernel_rfl) (by kernel_rfl) (fun _ _ _ h => h) (Or.inl ⟨by rfl, fun W hW => by obtain ⟨c0, c1, c2, c3, c4, c5⟩ := HCC.out W hW; obtain ⟨⟨d0, d1, d2, d3, d4, d5⟩, ⟨g0, g1, g2, g3, g4, g5⟩⟩ := HC.out W (Hwc.out.trans (hW.mono Hwc.out.size)); clear hW; go_simp⟩) (by assumption) ?_
        try simp only [Act.put, List.setIfInBounds_toArray, List.set_cons_zero, List.set_cons_succ]
        refine wpAnyH_take (i := 6) (v := .pointer (some ⟨bu, fu + k * 6, none⟩)) (List.getElem?_toArray.trans rfl) (by kernel_rfl) (by kernel_rfl) (by kernel_rfl) (fun _ _ _ h => h) (Or.inl ⟨by rfl, fun W hW => by obtain ⟨c0, c1, c2, c3, c4, c5⟩ := HCC.out W hW; obtain ⟨⟨d0, d1, d2, d3, d4, d5⟩, ⟨g0, g1, g2, g3, g4, g5⟩⟩ := HC.out W (Hwc.out.trans (hW.mono Hwc.out.size)); clear hW; go_simp⟩) (by assumption) ?_
        try simp only [Act.put, List.setIfInBounds_toArray, List.set_cons_zero, List.set_cons_succ]
        refine wpAnyH_take (i := 7) (v := .agg #[.string ⟨u.sec.toArray⟩, .string ⟨u.name.toArray⟩, .int .i64 u.form, .bool u.list, .int .i64 u.kinds, .slice u.wa u.wn u.wc]) (List.getElem?_toArray.trans rfl) (by kernel_rfl) (by kernel_rfl) (by kernel_rfl) (fun _ _ _ h => h) (Or.inl ⟨by rfl, fun W hW => by obtain ⟨c0, c1, c2, c3, c4, c5⟩ := HCC.out W hW; obtain ⟨⟨d0, d1, d2, d3, d4, d5⟩, ⟨g0, g1, g2, g3, g4, g5⟩⟩ := HC.out W (Hwc.out.trans (hW.mono Hwc.out.size)); clear hW; go_simp⟩) (by assumption) ?_
        try simp only [Act.put, List.setIfInBounds_toArray, List.set_cons_zero, List.set_cons_succ]
        have hv1 := hHeld
        refine wpAnyH_ready (rs := [8]) (by kernel_rfl) (by simp) (AllReadyH.cons (List.getElem?_toArray.trans rfl) (fun K hK => ?_) (AllReadyH.nil))
        clear hHeld
        rw [if_pos (by rfl)]
        go_simp
        refine (sameK_any kv u q q _ (HKV.out.below hv1) (HX.out _ (Hwc.out.trans (hv1.mono Hwc.out.size))).2 HQ.out HQ.out true (same_self q)).mono ?_
        rintro e w9 ⟨rfl, hbi⟩
        have HW9 := Lib.hid (show Below wc.heap.size wc w9 from hv1.trans (hbi.mono hv1.size))
        clear hbi
        refine hK.out _ _ HW9.out (fun hHeld => ?_)
        clear hK K
        try simp only [Act.put, List.setIfInBounds_toArray, List.set_cons_zero, List.set_cons_succ]
        refine wpAnyH_take (i := 9) (v := .bool false) (List.getElem?_toArray.trans rfl) (by kernel_rfl) (by kernel_rfl) (by kernel_rfl) (fun _ _ _ h => h) (Or.inl ⟨by rfl, fun W hW => by clear hW; go_simp⟩) (by assumption) ?_
        try simp only [Act.put, List.setIfInBounds_toArray, List.set_cons_zero, List.set_cons_succ]
        refine wpAnyH_take (i := 10) (v := .bool false) (List.getElem?_toArray.trans rfl) (by kernel_rfl) (by kernel_rfl) (by kernel_rfl) (fun _ _ _ h => h) (Or.inl ⟨by rfl, fun W hW => by clear hW; go_simp⟩) (by assumption) ?_
        try simp only [Act.put, List.setIfInBounds_toArray, List.set_cons_zero, List.set_cons_succ]
        refine wpAnyH_done (by kernel_rfl) ?_ _
        clear hHeld
        have HW10 := Lib.hid (Hwc.out.trans (HW9.out.mono Hwc.out.size))
        clear HW9 HCC hv1
        go_wp2_with fail
        go_roundg (42 - k)
        case measure => omega
        case rel => exact ⟨k + 1, by omega, by go_num, by omega, HW10⟩
      · clear hHeld
        rw [if_pos (by rfl)]
        refine oper_alloc_at wd.heap.size rfl 28 keyZ rfl (run_alloc_key _) ?_
        intro wa hwa hbwa hlwa
        have Hwa := Lib.hid (hv0.trans (hbwa.mono hv0.size))
        refine hK.out _ _ Hwa.out (fun hHeld => ?_)
        clear hK K
        try simp only [Act.put, List.setIfInBounds_toArray, List.set_cons_zero, List.set_cons_succ]
        refine wpAnyH_ready (rs := [10]) (by kernel_rfl) (by simp) (AllReadyH.cons (List.getElem?_toArray.trans rfl) (fun K hK => ?_) (AllReadyH.nil))
        clear hHeld
        rw [if_pos (by rfl)]
        go_simp
        refine (find_any u.sec u.name _).mono ?_
        rintro e wb ⟨kv, rfl, hkv, hbi⟩
        rw [HF.out] at hkv ⊢
        rw [show (encK kv).toArray = #[.string ⟨kv.sec.toArray⟩, .string ⟨kv.name.toArray⟩, .int .i64 kv.form, .bool kv.list, .int .i64 kv.kinds, .slice kv.wa kv.wn kv.wc] from rfl]
        have Hwb := Lib.hid (Hwa.out.trans (hbi.mono Hwa.out.size))
        have HKV := Lib.hid (show KvRd wb kv q from hkv)
        clear hkv
        have hwb := heap_below hwa hbi
        refine hK.out _ _ Hwb.out (fun hHeld => ?_)
        clear hK K
        try simp only [Act.put, List.setIfInBounds_toArray, List.set_cons_zero, List.set_cons_succ]
        refine wpAnyH_take (i := 11) (v := .tuple #[.agg #[.string ⟨kv.sec.toArray⟩, .string ⟨kv.name.toArray⟩, .int .i64 kv.form, .bool kv.list, .int .i64 kv.kinds, .slice kv.wa kv.wn kv.wc], .bool true]) (List.getElem?_toArray.trans rfl) (by kernel_rfl) (by kernel_rfl) (by kernel_rfl) (fun _ _ _ h => h) (Or.inl ⟨by rfl, fun W hW => by clear hW; go_simp⟩) (by assumption) ?_
        try simp only [Act.put, List.setIfInBounds_toArray, List.set_cons_zero, List.set_cons_succ]
        refine wpAnyH_take (i := 12) (v := .agg #[.string ⟨kv.sec.toArray⟩, .string ⟨kv.name.toArray⟩, .int .i64 kv.form, .bool kv.list, .int .i64 kv.kinds, .slice kv.wa kv.wn kv.wc]) (List.getElem?_toArray.trans rfl) (by kernel_rfl) (by kernel_rfl) (by kernel_rfl) (fun _ _ _ h => h) (Or.inl ⟨by rfl, fun W hW => by clear hW; go_simp⟩) (by assumption) ?_
        try simp only [Act.put, List.setIfInBounds_toArray, List.set_cons_zero, List.set_cons_succ]
        refine wpAnyH_take (i := 13) (v := .bool true) (List.getElem?_toArray.trans rfl) (by kernel_rfl) (by kernel_rfl) (by kernel_rfl) (fun _ _ _ h => h) (Or.inl ⟨by rfl, fun W hW => by clear hW; go_simp⟩) (by assumption) ?_
        try simp only [Act.put, List.setIfInBounds_toArray, List.set_cons_zero, List.set_cons_succ]
        refine wpAnyH_ready (rs := [15]) (by kernel_rfl) (by simp) (AllReadyH.cons (List.getElem?_toArray.trans rfl) (fun K hK => ?_) (AllReadyH.nil))
        clear hHeld
        rw [if_pos (by rfl)]
        refine oper_store_all 28 _ _ wd.heap.size (encK kv).toArray keyZ 28 rfl rfl rfl hwb rfl rfl (by simp [encK, Value.oneCell']) ?_
        intro wc hwc hfwc
        have hsz1 := Hwa.out.size; have hsz2 := hv0.size
        have Hwc := Lib.hid (show Below w3.heap.size w3 wc from Hwb.out.trans (hfwc.below _ Hwb.out.size (fun k hk e => by omega)))
        have HKV := Lib.hid (KvRd.fr_box HKV.out hfwc hwb)
        refine hK.out _ _ Hwc.out (fun hHeld => ?_)
        clear hK K
        try simp only [Act.put, List.setIfInBounds_toArray, List.set_cons_zero, List.set_cons_succ]
        refine wpAnyH_take (i := 16) (v := .bool true) (List.getElem?_toArray.trans rfl) (by kernel_rfl) (by kernel_rfl) (by kernel_rfl) (fun _ _ _ h => h) (Or.inl ⟨by rfl, fun W hW => by clear hW; go_simp⟩) (by assumption) ?_
        try simp only [Act.put, List.setIfInBounds_toArray, List.set_cons_zero, List.set_cons_succ]
        refine wpAnyH_done (by kernel_rfl) ?_ _
        clear hHeld
        clear hwb hwa hbwa hlwa hfwc Hwa Hwb HW4 hsz1 hsz2
        obtain ⟨bc, -, -, -⟩ := rd hwc
        have HCC := Lib.hid (show ∀ V, Below wc.heap.size wc V → V.cell? ⟨wd.heap.size, 0, none⟩ = some (.string ⟨kv.sec.toArray⟩) ∧ V.cell? ⟨wd.heap.size, 1, none⟩ = some (.string ⟨kv.name.toArray⟩) ∧ V.cell? ⟨wd.heap.size, 2, none⟩ = some (.int .i64 kv.form) ∧ V.cell? ⟨wd.heap.size, 3, none⟩ = some (.bool kv.list) ∧ V.cell? ⟨wd.heap.size, 4, none⟩ = some (.int .i64 kv.kinds) ∧ V.cell? ⟨wd.heap.size, 5, none⟩ = some (.slice kv.wa kv.wn kv.wc) from fun V hV => by
          have hh := heap_below hwc hV
          have hc := (rd hh).1
          exact ⟨hc 0, hc 1, hc 2, hc 3, hc 4, hc 5⟩)
        clear bc
        generalize wd.heap.size = KB at *
        clear hwc
        go_wp2_with fail
        refine wp_region_held_drew (S := fun V => Below wc.heap.size wc V) (by kernel_rfl) (below_dn ⟨1, rfl⟩) (fun hHeld => ?_)
        try simp only [Act.put, List.setIfInBounds_toArray, List.set_cons_zero, List.set_cons_succ]
        refine wpAnyH_take (i := 0) (v := .bool true) (List.getElem?_toArray.trans rfl) (by kernel_rfl) (by kernel_rfl) (by kernel_rfl) (fun _ _ _ h => h) (Or.inl ⟨by rfl, fun W hW => by obtain ⟨c0, c1, c2, c3, c4, c5⟩ := HCC.out W hW; obtain ⟨⟨d0, d1, d2, d3, d4, d5⟩, ⟨g0, g1, g2, g3, g4, g5⟩⟩ := HC.out W (Hwc.out.trans (hW.mono Hwc.out.size)); clear hW; go_simp⟩) (by assumption) ?_
        try simp only [Act.put, List.setIfInBounds_toArray, List.set_cons_zero, List.set_cons_succ]
        refine wpAnyH_take (i := 1) (v := .bool false) (List.getElem?_toArray.trans rfl) (by kernel_rfl) (by kernel_rfl) (by kernel_rfl) (fun _ _ _ h => h) (Or.inl ⟨by rfl, fun W hW => by obtain ⟨c0, c1, c2, c3, c4, c5⟩ := HCC.out W hW; obtain ⟨⟨d0, d1, d2, d3, d4, d5⟩, ⟨g0, g1, g2, g3, g4, g5⟩⟩ := HC.out W (Hwc.out.trans (hW.mono Hwc.out.size)); clear hW; go_simp⟩) (by assumption) ?_
        try simp only [Act.put, List.setIfInBounds_toArray, List.set_cons_zero, List.set_cons_succ]
        refine wpAnyH_take (i := 2) (v := .bool false) (List.getElem?_toArray.trans rfl) (by kernel_rfl) (by kernel_rfl) (by kernel_rfl) (fun _ _ _ h => h) (Or.inl ⟨by rfl, fun W hW => by obtain ⟨c0, c1, c2, c3, c4, c5⟩ := HCC.out W hW; obtain ⟨⟨d0, d1, d2, d3, d4, d5⟩, ⟨g0, g1, g2, g3, g4, g5⟩⟩ := HC.out W (Hwc.out.trans (hW.mono Hwc.out.size)); clear hW; go_simp⟩) (by assumption) ?_
        try simp only [Act.put, List.setIfInBounds_toArray, List.set_cons_zero, List.set_cons_succ]
        refine wpAnyH_take (i := 3) (v := .agg #[.string ⟨kv.sec.toArray⟩, .string ⟨kv.name.toArray⟩, .int .i64 kv.form, .bool kv.list, .int .i64 kv.kinds, .slice kv.wa kv.wn kv.wc]) (List.getElem?_toArray.trans rfl) (by kernel_rfl) (by kernel_rfl) (by kernel_rfl) (fun _ _ _ h => h) (Or.inl ⟨by rfl, fun W hW => by obtain ⟨c0, c1, c2, c3, c4, c5⟩ := HCC.out W hW; obtain ⟨⟨d0, d1, d2, d3, d4, d5⟩, ⟨g0, g1, g2, g3, g4, g5⟩⟩ := HC.out W (Hwc.out.trans (hW.mono Hwc.out.size)); clear hW; go_simp⟩) (by assumption) ?_
        try simp only [Act.put, List.setIfInBounds_toArray, List.set_cons_zero, List.set_cons_succ]
        refine wpAnyH_take (i := 4) (v := .slice (some ⟨bu, fu, none⟩) 42 cu) (List.getElem?_toArray.trans rfl) (by kernel_rfl) (by kernel_rfl) (by kernel_rfl) (fun _ _ _ h => h) (Or.inl ⟨by rfl, fun W hW => by obtain ⟨c0, c1, c2, c3, c4, c5⟩ := HCC.out W hW; obtain ⟨⟨d0, d1, d2, d3, d4, d5⟩, ⟨g0, g1, g2, g3, g4, g5⟩⟩ := HC.out W (Hwc.out.trans (hW.mono Hwc.out.size)); clear hW; go_simp⟩) (by assumption) ?_
        try simp only [Act.put, List.setIfInBounds_toArray, List.set_cons_zero, List.set_cons_succ]
        refine wpAnyH_take (i := 5) (v := .int .i64 k) (List.getElem?_toArray.trans rfl) (by kernel_rfl) (by kernel_rfl) (by kernel_rfl) (fun _ _ _ h => h) (Or.inl ⟨by rfl, fun W hW => by obtain ⟨c0, c1, c2, c3, c4, c5⟩ := HCC.out W hW; obtain ⟨⟨d0, d1, d2, d3, d4, d5⟩, ⟨g0, g1, g2, g3, g4, g5⟩⟩ := HC.out W (Hwc.out.trans (hW.mono Hwc.out.size)); clear hW; go_simp⟩) (by assumption) ?_
        try simp only [Act.put, List.setIfInBounds_toArray, List.set_cons_zero, List.set_cons_succ]
        refine wpAnyH_take (i := 6) (v := .pointer (some ⟨bu, fu + k * 6, none⟩)) (List.getElem?_toArray.trans rfl) (by kernel_rfl) (by kernel_rfl) (by kernel_rfl) (fun _ _ _ h => h) (Or.inl ⟨by rfl, fun W hW => by obtain ⟨c0, c1, c2, c3, c4, c5⟩ := HCC.out W hW; obtain ⟨⟨d0, d1, d2, d3, d4, d5⟩, ⟨g0, g1, g2, g3, g4, g5⟩⟩ := HC.out W (Hwc.out.trans (hW.mono Hwc.out.size)); clear hW; go_simp⟩) (by assumption) ?_
        try simp only [Act.put, List.setIfInBounds_toArray, List.set_cons_zero, List.set_cons_succ]
        refine wpAnyH_take (i := 7) (v := .agg #[.string ⟨u.sec.toArray⟩, .string ⟨u.name.toArray⟩, .int .i64 u.form, .bool u.list, .int .i64 u.kinds, .slice u.wa u.wn u.wc]) (List.getElem?_toArray.trans rfl) (by kernel_rfl) (by kernel_rfl) (by kernel_rfl) (fun _ _ _ h => h) (Or.inl ⟨by rfl, fun W hW => by obtain ⟨c0, c1, c2, c3, c4, c5⟩ := HCC.out W hW; obtain ⟨⟨d0, d1, d2, d3, d4, d5⟩, ⟨g0, g1, g2, g3, g4, g5⟩⟩ := HC.out W (Hwc.out.trans (hW.mono Hwc.out.size)); clear hW; go_simp⟩) (by assumption) ?_
        try simp only [Act.put, List.setIfInBounds_toArray, List.set_cons_zero, List.set_cons_succ]
        have hv1 := hHeld
        refine wpAnyH_ready (rs := [8]) (by kernel_rfl) (by simp) (AllReadyH.cons (List.getElem?_toArray.trans rfl) (fun K hK => ?_) (AllReadyH.nil))
        clear hHeld
        rw [if_pos (by rfl)]
        go_simp
        refine (sameK_any kv u q q _ (HKV.out.below hv1) (HX.out _ (Hwc.out.trans (hv1.mono Hwc.out.size))).2 HQ.out HQ.out true (same_self q)).mono ?_
        rintro e w9 ⟨rfl, hbi⟩
        have HW9 := Lib.hid (show Below wc.heap.size wc w9 from hv1.trans (hbi.mono hv1.size))
        clear hbi
        refine hK.out _ _ HW9.out (fun hHeld => ?_)
        clear hK K
        try simp only [Act.put, List.setIfInBounds_toArray, List.set_cons_zero, List.set_cons_succ]
        refine wpAnyH_take (i := 9) (v := .bool false) (List.getElem?_toArray.trans rfl) (by kernel_rfl) (by kernel_rfl) (by kernel_rfl) (fun _ _ _ h => h) (Or.inl ⟨by rfl, fun W hW => by clear hW; go_simp⟩) (by assumption) ?_
        try simp only [Act.put, List.setIfInBounds_toArray, List.set_cons_zero, List.set_cons_succ]
        refine wpAnyH_take (i := 10) (v := .bool false) (List.getElem?_toArray.trans rfl) (by kernel_rfl) (by kernel_rfl) (by kernel_rfl) (fun _ _ _ h => h) (Or.inl ⟨by rfl, fun W hW => by clear hW; go_simp⟩) (by assumption) ?_
        try simp only [Act.put, List.setIfInBounds_toArray, List.set_cons_zero, List.set_cons_succ]
        refine wpAnyH_done (by kernel_rfl) ?_ _
        clear hHeld
        have HW10 := Lib.hid (Hwc.out.trans (HW9.out.mono Hwc.out.size))
        clear HW9 HCC hv1
        go_wp2_with fail
        go_roundg (42 - k)
        case measure => omega
        case rel => exact ⟨k + 1, by omega, by go_num, by omega, HW10⟩
    · have hz : ¬ ((k : Int) < 42) := by omega
      clear hfu hk hlt
      have HF1 := Lib.hid (find_any sec name wr)
      go_wp2_with fail
      refine HF1.out.mono ?_
      rintro e w5 ⟨ka, rfl, hka, hb5⟩
      have HW5 := Lib.hid (HW.out.trans (hb5.mono HW.out.size))
      have HKA := Lib.hid hka
      have hB5 : Below w5.heap.size w5 (w5.alloc (.cells #[.string ⟨ka.sec.toArray⟩, .string ⟨ka.name.toArray⟩, .int .i64 ka.form, .bool ka.list, .int .i64 ka.kinds, .slice ka.wa ka.wn ka.wc] 28)) := (Below.refl _ _).alloc (Nat.le_refl _) _
      have hh5 : (w5.alloc (.cells #[.string ⟨ka.sec.toArray⟩, .string ⟨ka.name.toArray⟩, .int .i64 ka.form, .bool ka.list, .int .i64 ka.kinds, .slice ka.wa ka.wn ka.wc] 28)).heap[w5.heap.size]? = some (.cells #[.string ⟨ka.sec.toArray⟩, .string ⟨ka.name.toArray⟩, .int .i64 ka.form, .bool ka.list, .int .i64 ka.kinds, .slice ka.wa ka.wn ka.wc] 28 (0, 0)) := heap_alloc_new w5 _
      have HB5 := Lib.hid hB5; have HH5 := Lib.hid hh5
      have HF2 := Lib.hid (findR_any sec name (w5.alloc (.cells #[.string ⟨ka.sec.toArray⟩, .string ⟨ka.name.toArray⟩, .int .i64 ka.form, .bool ka.list, .int .i64 ka.kinds, .slice ka.wa ka.wn ka.wc] 28)))
      clear hka hb5 hB5 hh5 HW HF1
      unfold encK
      go_wp2_with fail
      refine HF2.out.mono ?_
      rintro e w6 ⟨kb, rfl, hkb, hb6⟩
      have HW6 := Lib.hid (HW5.out.trans ((HB5.out.trans (hb6.mono HB5.out.size)).mono HW5.out.size))
      have HA6 := Lib.hid (show w6.heap[w5.heap.size]? = _ from heap_below HH5.out hb6)
      have HKA6 := Lib.hid (HKA.out.below (HB5.out.trans (hb6.mono HB5.out.size)))
      have hlt56 : w5.heap.size < w6.heap.size := lt_heap HA6.out
      have HKB := Lib.hid hkb
      generalize w5.heap.size = P5 at *
      clear hkb hb6 HB5 HH5 HF2 HKA HW5
      obtain ⟨n, hn, hbits⟩ := and_small2 at_ 65535 (by decide)
      have hbits' : bits BinOp.and IntKind.i64 at_ 65535 = (n : Int) := hbits
      clear hbits
      unfold encK
      have hrem : (n : Int).tmod 42 = ((n % 42 : Nat) : Int) := by rw [Int.tmod_eq_emod_of_nonneg (by omega)]; rfl
      have hm : n % 42 < 42 := Nat.mod_lt _ (by decide)
      generalize n % 42 = m at *
      have hmu : m < us.length := by rw [HLU.out]; exact hm
      have hma : m < allKeys.length := by rw [allKeys_len]; exact hm
      obtain ⟨y, hy⟩ : ∃ y, y = us[m] := ⟨_, rfl⟩
      have hB7 : Below w6.heap.size w6 (w6.alloc (.cells #[.string ⟨kb.sec.toArray⟩, .string ⟨kb.name.toArray⟩, .int .i64 kb.form, .bool kb.list, .int .i64 kb.kinds, .slice kb.wa kb.wn kb.wc] 28)) := (Below.refl _ _).alloc (Nat.le_refl _) _
      have hW7 : Below w3.heap.size w3 (w6.alloc (.cells #[.string ⟨kb.sec.toArray⟩, .string ⟨kb.name.toArray⟩, .int .i64 kb.form, .bool kb.list, .int .i64 kb.kinds, .slice kb.wa kb.wn kb.wc] 28)) := HW6.out.trans (hB7.mono HW6.out.size)
      obtain ⟨g0, g1, g2, g3, g4, g5⟩ := cells_of_row (HV.out _ hW7).2.1 m hmu bu fu rfl y hy
      have hY := (HV.out _ hW7).2.2.2.2 m hmu hma
      rw [← hy] at hY
      have hlow : findKey y.name y.sec = none := by rw [hY.sec, hY.name]; exact find_low _ (List.getElem_mem hma)
      have hh6 : (w6.alloc (.cells #[.string ⟨kb.sec.toArray⟩, .string ⟨kb.name.toArray⟩, .int .i64 kb.form, .bool kb.list, .int .i64 kb.kinds, .slice kb.wa kb.wn kb.wc] 28)).heap[w6.heap.size]? = some (.cells #[.string ⟨kb.sec.toArray⟩, .string ⟨kb.name.toArray⟩, .int .i64 kb.form, .bool kb.list, .int .i64 kb.kinds, .slice kb.wa kb.wn kb.wc] 28 (0, 0)) := heap_alloc_new w6 _
      have hh5 := heap_alloc HA6.out (.cells #[.string ⟨kb.sec.toArray⟩, .string ⟨kb.name.toArray⟩, .int .i64 kb.form, .bool kb.list, .int .i64 kb.kinds, .slice kb.wa kb.wn kb.wc] 28)
      have HKA7 := Lib.hid (HKA6.out.below hB7); have HKB7 := Lib.hid (HKB.out.below hB7)
      have hP6 : w6.heap.size < (w6.alloc (.cells #[.string ⟨kb.sec.toArray⟩, .string ⟨kb.name.toArray⟩, .int .i64 kb.form, .bool kb.list, .int .i64 kb.kinds, .slice kb.wa kb.wn kb.wc] 28)).heap.size := lt_heap hh6
      have hP5 : P5 < (w6.alloc (.cells #[.string ⟨kb.sec.toArray⟩, .string ⟨kb.name.toArray⟩, .int .i64 kb.form, .bool kb.list, .int .i64 kb.kinds, .slice kb.wa kb.wn kb.wc] 28)).heap.size := lt_heap hh5
      have hB8 : Below (w6.alloc (.cells #[.string ⟨kb.sec.toArray⟩, .string ⟨kb.name.toArray⟩, .int .i64 kb.form, .bool kb.list, .int .i64 kb.kinds, .slice kb.wa kb.wn kb.wc] 28)).heap.size (w6.alloc (.cells #[.string ⟨kb.sec.toArray⟩, .string ⟨kb.name.toArray⟩, .int .i64 kb.form, .bool kb.list, .int .i64 kb.kinds, .slice kb.wa kb.wn kb.wc] 28)) ((w6.alloc (.cells #[.string ⟨kb.sec.toArray⟩, .string ⟨kb.name.toArray⟩, .int .i64 kb.form, .bool kb.list, .int .i64 kb.kinds, .slice kb.wa kb.wn kb.wc] 28)).alloc (.cells #[.string ⟨y.sec.toArray⟩, .string ⟨y.name.toArray⟩, .int .i64 y.form, .bool y.list, .int .i64 y.kinds, .slice y.wa y.wn y.wc] 28)) := (Below.refl _ _).alloc (Nat.le_refl _) _
      have HW8 := Lib.hid (hW7.trans (hB8.mono hW7.size))
      have HF3 := Lib.hid (find_any y.name y.sec ((w6.alloc (.cells #[.string ⟨kb.sec.toArray⟩, .string ⟨kb.name.toArray⟩, .int .i64 kb.form, .bool kb.list, .int .i64 kb.kinds, .slice kb.wa kb.wn kb.wc] 28)).alloc (.cells #[.string ⟨y.sec.toArray⟩, .string ⟨y.name.toArray⟩, .int .i64 y.form, .bool y.list, .int .i64 y.kinds, .slice y.wa y.wn y.wc] 28)))
      have HH5 := Lib.hid (heap_alloc hh5 (.cells #[.string ⟨y.sec.toArray⟩, .string ⟨y.name.toArray⟩, .int .i64 y.form, .bool y.list, .int .i64 y.kinds, .slice y.wa y.wn y.wc] 28)); have HH6 := Lib.hid (heap_alloc hh6 (.cells #[.string ⟨y.sec.toArray⟩, .string ⟨y.name.toArray⟩, .int .i64 y.form, .bool y.list, .int .i64 y.kinds, .slice y.wa y.wn y.wc] 28))
      have HKA8 := Lib.hid (HKA7.out.below hB8); have HKB8 := Lib.hid (HKB7.out.below hB8)
      have HLOW := Lib.hid hlow
      clear hY hlow hmu hma hB7 hW7 hy hh6 hh5 HA6 HKA6 HKB HKA7 HKB7 HW6 hB8 hP5 hP6
      go_wp2_with fail
      refine HF3.out.mono ?_
      rintro e w9 ⟨kz, rfl, -, hb9⟩
      rw [HLOW.out]
      have hW9 := HW8.out.trans (hb9.mono HW8.out.size)
      have hB9 : Below w9.heap.size w9 (w9.alloc (.cells #[.string ⟨kz.sec.toArray⟩, .string ⟨kz.name.toArray⟩, .int .i64 kz.form, .bool kz.list, .int .i64 kz.kinds, .slice kz.wa kz.wn kz.wc] 28)) := (Below.refl _ _).alloc (Nat.le_refl _) _
      have HW10 := Lib.hid (hW9.trans (hB9.mono hW9.size))
      have k5 := heap_below (heap_below HH5.out hb9) hB9; have k6 := heap_below (heap_below HH6.out hb9) hB9
      have hs := sameK_any ka kb _ _ _ ((HKA8.out.below hb9).below hB9) ((HKB8.out.below hb9).below hB9) (found_words sec name) (found_words sec name) true (same_self _)
      have HS := Lib.hid hs
      have c5 := (rd k5).1; have c6 := (rd k6).1
      have a0 := c5 0; have a1 := c5 1; have a2 := c5 2; have a3 := c5 3; have a4 := c5 4; have a5 := c5 5
      have b0 := c6 0; have b1' := c6 1; have b2 := c6 2; have b3 := c6 3; have b4 := c6 4; have b5 := c6 5
      simp only [List.getElem?_toArray, List.getElem?_cons_zero, List.getElem?_cons_succ] at a0 a1 a2 a3 a4 a5 b0 b1' b2 b3 b4 b5
      clear hb9 hs hB9 hW9 HKA8 HKB8 HH5 HH6 HF3 c5 c6 k5 k6 g0 g1 g2 g3 g4 g5
      simp only [Option.isSome_none]
      unfold encK
      unfold encK at HS
      go_wp2_with fail
      refine HS.out.mono ?_
      rintro e wz ⟨rfl, hbz⟩
      have HZ := Lib.hid (HW10.out.trans (hbz.mono HW10.out.size))
      clear hbz HS
      go_wp2_with fail
      go_ret
      exact ⟨rfl, HB3.out.trans (HZ.out.mono HB3.out.size)⟩
end Go.Proofs.YtdpnahojhmkemaaGreatDoor
