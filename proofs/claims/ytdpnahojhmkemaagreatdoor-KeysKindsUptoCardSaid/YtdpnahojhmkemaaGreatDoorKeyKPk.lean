/-
  KeysKinds walked.
-/
import Derived.Test.YtdpnahojhmkemaaGreatDoorKeysPa

namespace Go.Proofs.YtdpnahojhmkemaaGreatDoor
open Go Go.RowKit
set_option linter.unusedVariables false
set_option linter.unusedSimpArgs false
set_option maxRecDepth 100000

theorem and_small3 (x : Int) (m : Nat) (hm : m < 9223372036854775808) : ∃ n : Nat, n ≤ m ∧ bits BinOp.and IntKind.i64 x (m : Int) = (n : Int) := by
  have h1 : (BitVec.ofInt 64 (m : Int)).toNat = m := by
    rw [BitVec.ofInt_natCast, BitVec.toNat_ofNat]; exact Nat.mod_eq_of_lt (by omega)
  have h2 : (BitVec.ofInt 64 x &&& BitVec.ofInt 64 (m : Int)).toNat ≤ m := by
    rw [BitVec.toNat_and, h1]; exact Nat.and_le_right
  refine ⟨_, h2, ?_⟩
  show IntKind.i64.wrap ((BitVec.ofInt 64 x &&& BitVec.ofInt 64 (m : Int)).toNat : Int) = _
  generalize (BitVec.ofInt 64 x &&& BitVec.ofInt 64 (m : Int)).toNat = q at *
  rw [IntKind.wrap_i64]
  omega
theorem row_cells {w : World} {o : Option Addr} {vs : List KeyV} (h : RowRd encK 6 w o vs) (k : Nat) (hk : k < vs.length) (b f : Nat) (ho : o = some ⟨b, f, none⟩) (x : KeyV) (hx : x = vs[k]) :
    w.cell? ⟨b, f + k * 6, none⟩ = some (.string ⟨x.sec.toArray⟩) ∧ w.cell? ⟨b, f + k * 6 + 1, none⟩ = some (.string ⟨x.name.toArray⟩) ∧ w.cell? ⟨b, f + k * 6 + 2, none⟩ = some (.int .i64 x.form) ∧ w.cell? ⟨b, f + k * 6 + 3, none⟩ = some (.bool x.list) ∧ w.cell? ⟨b, f + k * 6 + 4, none⟩ = some (.int .i64 x.kinds) ∧ w.cell? ⟨b, f + k * 6 + 5, none⟩ = some (.slice x.wa x.wn x.wc) := by
  obtain ⟨b3, o3, e3, _, hcc⟩ := h k hk
  rw [ho] at e3
  injection e3 with e3
  injection e3 with e4 e5 e6
  subst e4; subst e5
  rw [← hx] at hcc
  exact ⟨hcc 0 _ rfl, hcc 1 _ rfl, hcc 2 _ rfl, hcc 3 _ rfl, hcc 4 _ rfl, hcc 5 _ rfl⟩
/-- Keys of one section are for the same kinds. -/
theorem same_kinds0 : (allKeys.all fun k => allKeys.all fun q => !(q.sec == k.sec) || decide (q.kinds = k.kinds)) = true := by kernel_rfl
theorem some_kinds (k : KeyS) (hk : k ∈ allKeys) (kind : Int) : someK k.sec kind = inKind k.kinds kind := by
  have hs : ∀ q ∈ allKeys, (q.sec == k.sec) = true → q.kinds = k.kinds := fun q hq h => by
    have := List.all_eq_true.1 (List.all_eq_true.1 same_kinds0 k hk) q hq
    rw [h] at this
    simpa using this
  unfold someK
  rw [Bool.eq_iff_iff, List.any_eq_true]
  constructor
  · rintro ⟨q, hq, h⟩
    rw [Bool.and_eq_true] at h
    rw [← hs q hq h.1]; exact h.2
  · intro h
    exact ⟨k, hk, by rw [h]; simp⟩
theorem ln_key (k : KeyS) (hk : k ∈ allKeys) (kind at_ : Int) (val : Str) : lnS kind ⟨k.sec, k.name, val, at_⟩ = if inKind k.kinds kind = false then 10 else if valS val k = 0 then 0 else 12 := by
  unfold lnS lineE
  simp only
  rw [some_kinds k hk, find_each k hk]
theorem one_check (ln : Ln → Int) (x : Ln) : checkS ln [x] = if ln x = 0 then (0, 0) else (ln x, x.at_) := rfl

set_option maxHeartbeats 8000000 in
theorem kinds_any (i kind : Int) (val : Str) (w : World) (hM : MaxAt w) (hv : val.length ≤ 1048576) :
    Calls Tryz.prog 8 #[.int .i64 i, .int .i64 kind, .string ⟨val.toArray⟩] w fun e w' => e = .returned (.bool true) ∧ Below w.heap.size w w' := by
  have HSH := Lib.hid (shown_any w hM)
  have HM := Lib.hid (fun W (h : Below w.heap.size w W) => hM.below h)
  clear hM
  go_enter Tryz.func8, Tryz.ntmps8
  go_wp2_with fail
  refine HSH.out.mono ?_
  rintro e w1 ⟨rfl, hb1⟩
  have HB1 := Lib.hid hb1
  have HA := Lib.hid (keysAll_any w1)
  clear hb1 HSH
  go_wp2_with fail
  refine HA.out.mono ?_
  rintro e w2 ⟨ov, cv, vs, rfl, hrv, hkv, hb2⟩
  have HB2 := Lib.hid (HB1.out.trans (hb2.mono HB1.out.size))
  have hlv : vs.length = 42 := by rw [hkv.1]; exact allKeys_len
  obtain ⟨bv, fv, rfl, -, -⟩ := hrv 0 (by omega)
  obtain ⟨n, hn, hbits⟩ := and_small3 i 65535 (by decide)
  have hbits' : bits BinOp.and IntKind.i64 i 65535 = (n : Int) := hbits
  have hrem : (n : Int).tmod 42 = ((n % 42 : Nat) : Int) := by rw [Int.tmod_eq_emod_of_nonneg (by omega)]; rfl
  have hm : n % 42 < 42 := Nat.mod_lt _ (by decide)
  generalize n % 42 = m at *
  have hmv : m < vs.length := by omega
  have hma : m < allKeys.length := by rw [allKeys_len]; exact hm
  obtain ⟨y, hy⟩ : ∃ y, y = vs[m] := ⟨_, rfl⟩
  obtain ⟨q, hq⟩ : ∃ q, q = allKeys[m] := ⟨_, rfl⟩
  obtain ⟨g0, g1, g2, g3, g4, g5⟩ := row_cells hrv m hmv bv fv rfl y hy
  have HY := Lib.hid (show KvRd w2 y q from by rw [hy, hq]; exact hkv.2 m hmv hma)
  have hqm : q ∈ allKeys := by rw [hq]; exact List.getElem_mem hma
  have hlw := words_few q hqm
  have HLK := Lib.hid (show ∀ at_, lnS kind ⟨y.sec, y.name, val, at_⟩ = if inKind y.kinds kind = false then 10 else if valS val q = 0 then 0 else 12 from fun at_ => by rw [HY.out.sec, HY.out.name, HY.out.kinds]; exact ln_key q hqm kind at_ val)
  have hB4 : Below w2.heap.size w2 ((w2.alloc (.cells #[.string ⟨y.sec.toArray⟩, .string ⟨y.name.toArray⟩, .int .i64 y.form, .bool y.list, .int .i64 y.kinds, .slice y.wa y.wn y.wc] 28)).alloc (.cells #[.string ⟨y.sec.toArray⟩, .string ⟨y.name.toArray⟩, .string ⟨val.toArray⟩, .int .i64 7] 44)) := ((Below.refl _ _).alloc (Nat.le_refl _) _).alloc (by simp) _
  have hz3 : (w2.alloc (.cells #[.string ⟨y.sec.toArray⟩, .string ⟨y.name.toArray⟩, .int .i64 y.form, .bool y.list, .int .i64 y.kinds, .slice y.wa y.wn y.wc] 28)).heap.size = w2.heap.size + 1 := by simp
  have hP4 : ((w2.alloc (.cells #[.string ⟨y.sec.toArray⟩, .string ⟨y.name.toArray⟩, .int .i64 y.form, .bool y.list, .int .i64 y.kinds, .slice y.wa y.wn y.wc] 28)).alloc (.cells #[.string ⟨y.sec.toArray⟩, .string ⟨y.name.toArray⟩, .string ⟨val.toArray⟩, .int .i64 7] 44)).heap[w2.heap.size]? = some (.cells #[.string ⟨y.sec.toArray⟩, .string ⟨y.name.toArray⟩, .int .i64 y.form, .bool y.list, .int .i64 y.kinds, .slice y.wa y.wn y.wc] 28 (0, 0)) := heap_alloc (heap_alloc_new w2 _) _
  have hrow : RowRd encLn 4 ((w2.alloc (.cells #[.string ⟨y.sec.toArray⟩, .string ⟨y.name.toArray⟩, .int .i64 y.form, .bool y.list, .int .i64 y.kinds, .slice y.wa y.wn y.wc] 28)).alloc (.cells #[.string ⟨y.sec.toArray⟩, .string ⟨y.name.toArray⟩, .string ⟨val.toArray⟩, .int .i64 7] 44)) (some ⟨w2.heap.size + 1, 0, none⟩) [⟨y.sec, y.name, val, 7⟩] := by
    have hg : ((w2.alloc (.cells #[.string ⟨y.sec.toArray⟩, .string ⟨y.name.toArray⟩, .int .i64 y.form, .bool y.list, .int .i64 y.kinds, .slice y.wa y.wn y.wc] 28)).alloc (.cells #[.string ⟨y.sec.toArray⟩, .string ⟨y.name.toArray⟩, .string ⟨val.toArray⟩, .int .i64 7] 44)).heap[w2.heap.size + 1]? = some (.cells #[.string ⟨y.sec.toArray⟩, .string ⟨y.name.toArray⟩, .string ⟨val.toArray⟩, .int .i64 7] 44 (0, 0)) := by rw [← hz3]; exact heap_alloc_new _ _
    intro i hi
    obtain rfl : i = 0 := by simp at hi; exact hi
    refine ⟨w2.heap.size + 1, 0, rfl, lt_heap hg, fun j v hj => ?_⟩
    rw [(rd hg).1]
    simpa [encLn] using hj
  have HB4 := Lib.hid (HB2.out.trans (hB4.mono HB2.out.size))
  have HCK := Lib.hid (fun c a h => check_key kind [⟨y.sec, y.name, val, 7⟩] (some ⟨w2.heap.size + 1, 0, none⟩) 1 ((w2.alloc (.cells #[.string ⟨y.sec.toArray⟩, .string ⟨y.name.toArray⟩, .int .i64 y.form, .bool y.list, .int .i64 y.kinds, .slice y.wa y.wn y.wc] 28)).alloc (.cells #[.string ⟨y.sec.toArray⟩, .string ⟨y.name.toArray⟩, .string ⟨val.toArray⟩, .int .i64 7] 44)) (by simp) (HM.out _ HB4.out) hrow (fun x hx => by simp at hx; subst hx; show val.length ≤ _; omega) c a h)
  have HP4 := Lib.hid hP4
  have HY4 := Lib.hid (HY.out.below hB4)
  clear hrv hkv hb2 hB4 hP4 hrow hy hq hma hmv hlv hbits HA HB1
  by_cases hk1 : 1 ≤ kind
  · have hk1' : ¬ kind < 1 := by omega
    by_cases hk2 : kind ≤ 4
    · have hk2' : ¬ kind > 4 := by omega
      obtain ⟨z, hz, hbz⟩ := and_small3 (y.kinds / 2 ^ kind.toNat) 1 (by decide)
      have hbz' : bits BinOp.and IntKind.i64 (y.kinds / 2 ^ kind.toNat) 1 = (z : Int) := hbz
      clear hbz
      rcases (show z = 0 ∨ z = 1 by omega) with rfl | rfl
      · have hin : inKind y.kinds kind = false := by unfold inKind; rw [hbz']; simp
        have hc := HCK.out 10 7 (by rw [one_check, HLK.out]; simp [hin])
        have HC := Lib.hid hc
        clear hc
        go_wp2_with fail
        refine HC.out.mono ?_
        rintro e w5 ⟨rfl, hb5⟩
        have HB5 := Lib.hid (HB4.out.trans (hb5.mono HB4.out.size))
        have HP5 := Lib.hid (heap_below HP4.out hb5)
        have HY5 := Lib.hid (HY4.out.below hb5)
        clear hb5 g0 g1 g2 g3 g4 g5
        obtain ⟨cc, -, -, -⟩ := rd (heap_alloc HP5.out (.cells #[.int .i64 10, .int .i64 7] 37))
        have g0 := cc 0; have g1 := cc 1; have g2 := cc 2; have g3 := cc 3; have g4 := cc 4; have g5 := cc 5
        simp only [List.getElem?_toArray, List.getElem?_cons_zero, List.getElem?_cons_succ] at g0 g1 g2 g3 g4 g5
        obtain ⟨dd, -, -, -⟩ := rd (heap_alloc_new w5 (.cells #[.int .i64 10, .int .i64 7] 37))
        have d0 := dd 0; have d1 := dd 1
        simp only [List.getElem?_toArray, List.getElem?_cons_zero, List.getElem?_cons_succ] at d0 d1
        clear cc dd
        go_wp2_with fail
        go_ret
        exact ⟨rfl, HB5.out.alloc HB5.out.size _⟩
      · have hin : inKind y.kinds kind = true := by unfold inKind; rw [hbz', decide_eq_true hk1, decide_eq_true hk2]; rfl
        by_cases hr0 : valS val q = 0
        · have HR0 := Lib.hid hr0
          clear hr0
          have hc := HCK.out 0 0 (by rw [one_check, HLK.out]; simp [hin, HR0.out])
          have HC := Lib.hid hc
          clear hc
          go_wp2_with fail
          refine HC.out.mono ?_
          rintro e w5 ⟨rfl, hb5⟩
          have HB5 := Lib.hid (HB4.out.trans (hb5.mono HB4.out.size))
          have HP5 := Lib.hid (heap_below HP4.out hb5)
          have HY5 := Lib.hid (HY4.out.below hb5)
          clear hb5 g0 g1 g2 g3 g4 g5
          obtain ⟨cc, -, -, -⟩ := rd (heap_alloc HP5.out (.cells #[.int .i64 0, .int .i64 0] 37))
          have g0 := cc 0; have g1 := cc 1; have g2 := cc 2; have g3 := cc 3; have g4 := cc 4; have g5 := cc 5
          simp only [List.getElem?_toArray, List.getElem?_cons_zero, List.getElem?_cons_succ] at g0 g1 g2 g3 g4 g5
          obtain ⟨dd, -, -, -⟩ := rd (heap_alloc_new w5 (.cells #[.int .i64 0, .int .i64 0] 37))
          have d0 := dd 0; have d1 := dd 1
          simp only [List.getElem?_toArray, List.getElem?_cons_zero, List.getElem?_cons_succ] at d0 d1
          clear cc dd
          have HBv := Lib.hid (HB5.out.alloc HB5.out.size (.cells #[.int .i64 0, .int .i64 0] 37))
          have hDv := heap_alloc_new w5 (.cells #[.int .i64 0, .int .i64 0] 37)
          have hvk := value_key q y val (w5.alloc (.cells #[.int .i64 0, .int .i64 0] 37)) (HY5.out.below ((Below.refl _ _).alloc (Nat.le_refl _) _)) (by omega) (by omega) (HM.out _ HBv.out)
          have HVK := Lib.hid hvk
          unfold encK at HVK
          have HDv := Lib.hid hDv
          clear hvk hDv
          rw [HR0.out] at HVK
          go_wp2_with fail
          refine HVK.out.mono ?_
          rintro e w6 ⟨rfl, hb6⟩
          have hd6 := heap_below HDv.out hb6
          have HB6 := Lib.hid (HBv.out.trans (hb6.mono HBv.out.size))
          clear g0 g1 g2 g3 g4 g5 d0 d1
          obtain ⟨dd, -, -, -⟩ := rd hd6
          have d0 := dd 0; have d1 := dd 1
          simp only [List.getElem?_toArray, List.getElem?_cons_zero, List.getElem?_cons_succ] at d0 d1
          clear dd hd6 hb6
          go_wp2_with fail
          go_ret
          exact ⟨rfl, HB6.out⟩
        · have HR0 := Lib.hid hr0
          obtain ⟨r, hr⟩ : ∃ r, valS val q = r := ⟨_, rfl⟩
          have HRR := Lib.hid hr
          have hr1 : ¬ r = 0 := by rw [← hr]; exact hr0
          clear hr0 hr
          have hc := HCK.out 12 7 (by rw [one_check, HLK.out]; simp [hin, HR0.out])
          have HC := Lib.hid hc
          clear hc
          go_wp2_with fail
          refine HC.out.mono ?_
          rintro e w5 ⟨rfl, hb5⟩
          have HB5 := Lib.hid (HB4.out.trans (hb5.mono HB4.out.size))
          have HP5 := Lib.hid (heap_below HP4.out hb5)
          have HY5 := Lib.hid (HY4.out.below hb5)
          clear hb5 g0 g1 g2 g3 g4 g5
          obtain ⟨cc, -, -, -⟩ := rd (heap_alloc HP5.out (.cells #[.int .i64 12, .int .i64 7] 37))
          have g0 := cc 0; have g1 := cc 1; have g2 := cc 2; have g3 := cc 3; have g4 := cc 4; have g5 := cc 5
          simp only [List.getElem?_toArray, List.getElem?_cons_zero, List.getElem?_cons_succ] at g0 g1 g2 g3 g4 g5
          obtain ⟨dd, -, -, -⟩ := rd (heap_alloc_new w5 (.cells #[.int .i64 12, .int .i64 7] 37))
          have d0 := dd 0; have d1 := dd 1
          simp only [List.getElem?_toArray, List.getElem?_cons_zero, List.getElem?_cons_succ] at d0 d1
          clear cc dd
          have HBv := Lib.hid (HB5.out.alloc HB5.out.size (.cells #[.int .i64 12, .int .i64 7] 37))
          have hDv := heap_alloc_new w5 (.cells #[.int .i64 12, .int .i64 7] 37)
          have hvk := value_key q y val (w5.alloc (.cells #[.int .i64 12, .int .i64 7] 37)) (HY5.out.below ((Below.refl _ _).alloc (Nat.le_refl _) _)) (by omega) (by omega) (HM.out _ HBv.out)
          have HVK := Lib.hid hvk
          unfold encK at HVK
          have HDv := Lib.hid hDv
          clear hvk hDv
          rw [HRR.out] at HVK
          go_wp2_with fail
          refine HVK.out.mono ?_
          rintro e w6 ⟨rfl, hb6⟩
          have hd6 := heap_below HDv.out hb6
          have HB6 := Lib.hid (HBv.out.trans (hb6.mono HBv.out.size))
          clear g0 g1 g2 g3 g4 g5 d0 d1
          obtain ⟨dd, -, -, -⟩ := rd hd6
          have d0 := dd 0; have d1 := dd 1
          simp only [List.getElem?_toArray, List.getElem?_cons_zero, List.getElem?_cons_succ] at d0 d1
          clear dd hd6 hb6
          go_wp2_with fail
          go_ret
          exact ⟨rfl, HB6.out⟩
    · have hk2' : kind > 4 := by omega
      have hin : inKind y.kinds kind = false := by unfold inKind; rw [decide_eq_false hk2]; simp
      have hc := HCK.out 10 7 (by rw [one_check, HLK.out]; simp [hin])
      have HC := Lib.hid hc
      clear hc
      go_wp2_with fail
      refine HC.out.mono ?_
      rintro e w5 ⟨rfl, hb5⟩
      have HB5 := Lib.hid (HB4.out.trans (hb5.mono HB4.out.size))
      have HP5 := Lib.hid (heap_below HP4.out hb5)
      have HY5 := Lib.hid (HY4.out.below hb5)
      clear hb5 g0 g1 g2 g3 g4 g5
      obtain ⟨cc, -, -, -⟩ := rd (heap_alloc HP5.out (.cells #[.int .i64 10, .int .i64 7] 37))
      have g0 := cc 0; have g1 := cc 1; have g2 := cc 2; have g3 := cc 3; have g4 := cc 4; have g5 := cc 5
      simp only [List.getElem?_toArray, List.getElem?_cons_zero, List.getElem?_cons_succ] at g0 g1 g2 g3 g4 g5
      obtain ⟨dd, -, -, -⟩ := rd (heap_alloc_new w5 (.cells #[.int .i64 10, .int .i64 7] 37))
      have d0 := dd 0; have d1 := dd 1
      simp only [List.getElem?_toArray, List.getElem?_cons_zero, List.getElem?_cons_succ] at d0 d1
      clear cc dd
      go_wp2_with fail
      go_ret
      exact ⟨rfl, HB5.out.alloc HB5.out.size _⟩
  · have hk1' : kind < 1 := by omega
    have hin : inKind y.kinds kind = false := by unfold inKind; rw [decide_eq_false hk1]; simp
    have hc := HCK.out 10 7 (by rw [one_check, HLK.out]; simp [hin])
    have HC := Lib.hid hc
    clear hc
    go_wp2_with fail
    refine HC.out.mono ?_
    rintro e w5 ⟨rfl, hb5⟩
    have HB5 := Lib.hid (HB4.out.trans (hb5.mono HB4.out.size))
    have HP5 := Lib.hid (heap_below HP4.out hb5)
    have HY5 := Lib.hid (HY4.out.below hb5)
    clear hb5 g0 g1 g2 g3 g4 g5
    obtain ⟨cc, -, -, -⟩ := rd (heap_alloc HP5.out (.cells #[.int .i64 10, .int .i64 7] 37))
    have g0 := cc 0; have g1 := cc 1; have g2 := cc 2; have g3 := cc 3; have g4 := cc 4; have g5 := cc 5
    simp only [List.getElem?_toArray, List.getElem?_cons_zero, List.getElem?_cons_succ] at g0 g1 g2 g3 g4 g5
    obtain ⟨dd, -, -, -⟩ := rd (heap_alloc_new w5 (.cells #[.int .i64 10, .int .i64 7] 37))
    have d0 := dd 0; have d1 := dd 1
    simp only [List.getElem?_toArray, List.getElem?_cons_zero, List.getElem?_cons_succ] at d0 d1
    clear cc dd
    go_wp2_with fail
    go_ret
    exact ⟨rfl, HB5.out.alloc HB5.out.size _⟩
end Go.Proofs.YtdpnahojhmkemaaGreatDoor
