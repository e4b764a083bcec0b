import Derived.Test.YtcaamakodneplaaGreatGraphPack1
import Derived.Test.YtcaamakodneplaaGreatGraphPack2
import Derived.Test.YtcaamakodneplaaGreatGraphPack4
import Derived.Test.YtcaamakodneplaaGreatGraphPack3
import Derived.WalkKit
import Derived.Laws.BitsAllLaws

/-
  Structs of structs that came in as an argument: each of their cells holds one value.
-/
namespace Go.Proofs.YtcaamakodneplaaGreat
open Go Go.RowKit Go.ChangeShapes Go.WideShapes Go.Deep
set_option linter.unusedVariables false
set_option maxRecDepth 100000

/-- A type of one cell. -/
def leafB (P : Program) (t : TypeId) : Bool :=
  match P.underlying t with
  | some .bool | some (.int _) | some .string | some (.slice _) => true
  | _ => false
/-- Fields that take each cell there is. -/
def coverB (P : Program) (fs : Array Field) (n : Nat) : Bool := (List.range n).all fun j => fs.toList.any fun f => decide (f.offset ≤ j) && decide (j < f.offset + P.cellsOf f.type)
/-- A struct of such. -/
def flatB (P : Program) (t : TypeId) : Bool :=
  match P.underlying t with
  | some (.struct fs) => (fs.toList.all fun f => leafB P f.type) && coverB P fs (P.cellsOf t)
  | _ => leafB P t
/-- A struct of such structs. -/
def deepB (P : Program) (t : TypeId) : Bool :=
  match P.underlying t with
  | some (.struct fs) => (fs.toList.all fun f => flatB P f.type) && coverB P fs (P.cellsOf t)
  | _ => leafB P t

section
variable {H : Type} {enc : TypeId × Value → H} {P : Program} {w : World} {base : Nat} {spare : Nat → Bool} {held : Bool}
theorem leaf_one {t : TypeId} (hl : leafB P t = true) {n : Nat} {cs : List Value} {x : DataW H × List MemPlace} (h : DataW.trod enc P w base spare held n t cs = some x) : ∀ v ∈ cs, v.oneCell' = true := by
  intro v hv
  unfold leafB at hl
  split at hl
  · rename_i hu
    obtain ⟨b, rfl, _⟩ := DataW.trod_bool hu h
    simp at hv; subst hv; rfl
  · rename_i hu
    obtain ⟨b, rfl, _⟩ := DataW.trod_int hu h
    simp at hv; subst hv; rfl
  · rename_i hu
    obtain ⟨b, rfl, _⟩ := DataW.trod_string hu h
    simp at hv; subst hv; rfl
  · rename_i hu
    rcases open_slice hu h with ⟨rfl, _⟩ | ⟨a, len, cap, m, k, D, Pl, rfl, _⟩
    · simp at hv; subst hv; rfl
    · simp at hv; subst hv; rfl
  · cases hl
theorem cover_one {t : TypeId} {fs : Array Field} (hu : P.underlying t = some (.struct fs)) (hc : coverB P fs (P.cellsOf t) = true) {n : Nat} {cs : List Value} {x : DataW H × List MemPlace} (h : DataW.trod enc P w base spare held n t cs = some x)
    (hf : ∀ f ∈ fs, ∀ (m : Nat) (ps : List Value) (y : DataW H × List MemPlace), DataW.trod enc P w base spare held m f.type ps = some y → ∀ v ∈ ps, v.oneCell' = true) : ∀ v ∈ cs, v.oneCell' = true := by
  obtain ⟨xs, m, _, hx, hl, hlen, hff⟩ := DataW.trod_struct hu h
  intro v hv
  obtain ⟨j, hj, rfl⟩ := List.getElem_of_mem hv
  unfold coverB at hc
  rw [List.all_eq_true] at hc
  have h1 := hc j (List.mem_range.2 (by omega))
  rw [List.any_eq_true] at h1
  obtain ⟨f, hfm, h2⟩ := h1
  simp only [Bool.and_eq_true, decide_eq_true_eq] at h2
  obtain ⟨i, hi, rfl⟩ := List.getElem_of_mem hfm
  have hi2 : i < fs.size := by simpa using hi
  have h3 := hff i fs[i] (Array.getElem?_eq_getElem hi2)
  have h4 : xs[i]? = some (xs[i]'(by omega)) := List.getElem?_eq_getElem (by omega)
  simp only [Array.getElem_toList] at h2
  have h5 := hf fs[i] (Array.getElem_mem hi2) m _ _ (h3.trans h4)
  refine h5 _ ?_
  rw [List.mem_iff_getElem?]
  refine ⟨j - fs[i].offset, ?_⟩
  rw [List.getElem?_take, if_pos (by omega), List.getElem?_drop]
  rw [show fs[i].offset + (j - fs[i].offset) = j by omega]
  exact List.getElem?_eq_getElem hj
theorem flat_one {t : TypeId} (hl : flatB P t = true) {n : Nat} {cs : List Value} {x : DataW H × List MemPlace} (h : DataW.trod enc P w base spare held n t cs = some x) : ∀ v ∈ cs, v.oneCell' = true := by
  unfold flatB at hl
  split at hl
  · rename_i fs hu
    simp only [Bool.and_eq_true, List.all_eq_true] at hl
    exact cover_one hu hl.2 h fun f hf m ps y hy => leaf_one (hl.1 f (by simpa using hf)) hy
  · exact leaf_one hl h
theorem deep_one {t : TypeId} (hl : deepB P t = true) {n : Nat} {cs : List Value} {x : DataW H × List MemPlace} (h : DataW.trod enc P w base spare held n t cs = some x) : ∀ v ∈ cs, v.oneCell' = true := by
  unfold deepB at hl
  split at hl
  · rename_i fs hu
    simp only [Bool.and_eq_true, List.all_eq_true] at hl
    exact cover_one hu hl.2 h fun f hf m ps y hy => flat_one (hl.1 f (by simpa using hf)) hy
  · exact leaf_one hl h
end
theorem deep_loaded : deepB Tryz.prog 53 = true := by kernel_rfl
end Go.Proofs.YtcaamakodneplaaGreat

/-
  Loaded units that came in as an argument, opened.
-/
namespace Go.Proofs.YtcaamakodneplaaGreat
open Go Go.RowKit Go.ChangeShapes Go.WideShapes Go.Deep Go.Joins
set_option linter.unusedVariables false
set_option maxRecDepth 100000

section
variable {H : Type} {enc : TypeId × Value → H} {W : World}
theorem open_rels {fuel : Nat} {c : Value} {y : DataW H × List MemPlace} (h : DataW.trod enc Tryz.prog W 0 (fun _ => true) true fuel 46 [c] = some y) :
    ∃ oa cap l, c = .slice oa (List.length l) cap ∧ RowRd encR 2 W oa l ∧ (∀ x ∈ l, x.name.length < Rows.uptoBulk y.1) ∧ l.length < Rows.uptoBulk y.1 := by
  obtain ⟨oa, cap, l, h1, _, h3, h4, h5⟩ := open_rows (fun (x : RelS) cs => cs = encR x) (fun x => x.name.length) Tryz.underlying46 (k := 2) (by kernel_rfl) (by omega) (fun cs D Pl n hl ht => by
    obtain ⟨c0, c1, y0, y1, m, rfl, hD, h0, h1⟩ := open_flat2 Tryz.underlying56 (by kernel_rfl) hl ht
    obtain ⟨a, e0, x0, _⟩ := DataW.trod_int Tryz.underlying3 h0
    obtain ⟨s, e1, x1, _⟩ := DataW.trod_string Tryz.underlying9 h1
    simp only at hD
    subst hD
    injection e0 with e0; injection e1 with e1
    subst e0; subst e1
    exact ⟨⟨a, s.data.toList⟩, rfl, by simp [Rows.uptoBulk, Rows.uptoBulkAll, x1]; omega⟩) h
  refine ⟨oa, cap, l, h1, fun i hi => ?_, h4, h5⟩
  obtain ⟨b, o, cs, e, hlt, hl, hc, rfl⟩ := h3 i hi
  exact ⟨b, o, e, hlt, hc⟩
theorem part1 {cs : List Value} {off : Nat} (h : off < cs.length) : (cs.drop off).take 1 = [cs[off]] := by rw [List.drop_eq_getElem_cons h]; rfl
theorem part2 {cs : List Value} {a n off : Nat} (h : a + n ≤ cs.length) (ho : off < n) : (((cs.drop a).take n).drop off).take 1 = [cs[a + off]'(by omega)] := by
  rw [part1 (by simp; omega)]
  simp [List.getElem_take, List.getElem_drop]
theorem arr_at {cs : List Value} {i : Nat} (h : i < cs.length) {v : Value} (e : [cs[i]] = [v]) : cs.toArray[i]? = some v := by
  injection e with e
  rw [List.getElem?_toArray, List.getElem?_eq_getElem h, e]
theorem arr_is {cs : List Value} {i : Nat} (h : i < cs.length) {v : Value} (e : cs[i] = v) : cs.toArray[i]? = some v := by
  rw [List.getElem?_toArray, List.getElem?_eq_getElem h, e]

theorem loaded_el {cs : List Value} {D : DataW H} {Pl : List MemPlace} {n : Nat} (hl : cs.length = 42) (h : DataW.trod enc Tryz.prog W 0 (fun _ => true) true n 53 cs = some (D, Pl)) :
    ∃ x : LdS × Nat, (x.2 ≤ 1048576 → LdRd W cs.toArray x.1) ∧ x.2 ≤ Rows.uptoBulk D := by
  have hone := deep_one deep_loaded h
  obtain ⟨xs, m, _, hx, hlc, hlen, hf⟩ := DataW.trod_struct Tryz.underlying53 h
  have z9 : Tryz.prog.cellsOf 9 = 1 := by kernel_rfl
  have z3 : Tryz.prog.cellsOf 3 = 1 := by kernel_rfl
  have z4 : Tryz.prog.cellsOf 4 = 1 := by kernel_rfl
  have z37 : Tryz.prog.cellsOf 37 = 1 := by kernel_rfl
  have z46 : Tryz.prog.cellsOf 46 = 1 := by kernel_rfl
  have z51 : Tryz.prog.cellsOf 51 = 35 := by kernel_rfl
  have hlen7 : xs.length = 7 := hlen
  obtain ⟨x0, x1, x2, x3, x4, x5, x6, rfl⟩ : ∃ a b c d e f g, xs = [a, b, c, d, e, f, g] := by
    match xs, hlen7 with
    | [a, b, c, d, e, f, g], _ => exact ⟨a, b, c, d, e, f, g, rfl⟩
  simp only [Prod.mk.injEq] at hx
  obtain ⟨rfl, -⟩ := hx
  have f0 : DataW.trod enc Tryz.prog W 0 (fun _ => true) true m 9 ((cs.drop 0).take 1) = some x0 := by
    have h : DataW.trod enc Tryz.prog W 0 (fun _ => true) true m 9 ((cs.drop 0).take (Tryz.prog.cellsOf 9)) = some x0 := hf 0 _ rfl
    rw [z9] at h; exact h
  have f1 : DataW.trod enc Tryz.prog W 0 (fun _ => true) true m 3 ((cs.drop 1).take 1) = some x1 := by
    have h : DataW.trod enc Tryz.prog W 0 (fun _ => true) true m 3 ((cs.drop 1).take (Tryz.prog.cellsOf 3)) = some x1 := hf 1 _ rfl
    rw [z3] at h; exact h
  have f4 : DataW.trod enc Tryz.prog W 0 (fun _ => true) true m 51 ((cs.drop 5).take 35) = some x4 := by
    have h : DataW.trod enc Tryz.prog W 0 (fun _ => true) true m 51 ((cs.drop 5).take (Tryz.prog.cellsOf 51)) = some x4 := hf 4 _ rfl
    rw [z51] at h; exact h
  have f5 : DataW.trod enc Tryz.prog W 0 (fun _ => true) true m 37 ((cs.drop 40).take 1) = some x5 := by
    have h : DataW.trod enc Tryz.prog W 0 (fun _ => true) true m 37 ((cs.drop 40).take (Tryz.prog.cellsOf 37)) = some x5 := hf 5 _ rfl
    rw [z37] at h; exact h
  have f6 : DataW.trod enc Tryz.prog W 0 (fun _ => true) true m 37 ((cs.drop 41).take 1) = some x6 := by
    have h : DataW.trod enc Tryz.prog W 0 (fun _ => true) true m 37 ((cs.drop 41).take (Tryz.prog.cellsOf 37)) = some x6 := hf 6 _ rfl
    rw [z37] at h; exact h
  clear hf
  obtain ⟨us, m2, _, hux, hul, hulen, huf⟩ := DataW.trod_struct Tryz.underlying51 f4
  have hul35 : us.length = 35 := hulen
  have gu : ∀ j (hj : j < us.length), us[j]? = some us[j] := fun j hj => List.getElem?_eq_getElem hj
  have u0 : DataW.trod enc Tryz.prog W 0 (fun _ => true) true m2 9 ((((cs.drop 5).take 35).drop 0).take 1) = some us[0] := by
    have h : DataW.trod enc Tryz.prog W 0 (fun _ => true) true m2 9 ((((cs.drop 5).take 35).drop 0).take (Tryz.prog.cellsOf 9)) = us[0]? := huf 0 _ rfl
    rw [z9] at h; exact h.trans (gu 0 (by omega))
  have u1 : DataW.trod enc Tryz.prog W 0 (fun _ => true) true m2 3 ((((cs.drop 5).take 35).drop 1).take 1) = some us[1] := by
    have h : DataW.trod enc Tryz.prog W 0 (fun _ => true) true m2 3 ((((cs.drop 5).take 35).drop 1).take (Tryz.prog.cellsOf 3)) = us[1]? := huf 1 _ rfl
    rw [z3] at h; exact h.trans (gu 1 (by omega))
  have u3 : DataW.trod enc Tryz.prog W 0 (fun _ => true) true m2 4 ((((cs.drop 5).take 35).drop 3).take 1) = some us[3] := by
    have h : DataW.trod enc Tryz.prog W 0 (fun _ => true) true m2 4 ((((cs.drop 5).take 35).drop 3).take (Tryz.prog.cellsOf 4)) = us[3]? := huf 3 _ rfl
    rw [z4] at h; exact h.trans (gu 3 (by omega))
  have u4 : DataW.trod enc Tryz.prog W 0 (fun _ => true) true m2 46 ((((cs.drop 5).take 35).drop 4).take 1) = some us[4] := by
    have h : DataW.trod enc Tryz.prog W 0 (fun _ => true) true m2 46 ((((cs.drop 5).take 35).drop 4).take (Tryz.prog.cellsOf 46)) = us[4]? := huf 4 _ rfl
    rw [z46] at h; exact h.trans (gu 4 (by omega))
  have u20 : DataW.trod enc Tryz.prog W 0 (fun _ => true) true m2 37 ((((cs.drop 5).take 35).drop 20).take 1) = some us[20] := by
    have h : DataW.trod enc Tryz.prog W 0 (fun _ => true) true m2 37 ((((cs.drop 5).take 35).drop 20).take (Tryz.prog.cellsOf 37)) = us[20]? := huf 20 _ rfl
    rw [z37] at h; exact h.trans (gu 20 (by omega))
  have u24 : DataW.trod enc Tryz.prog W 0 (fun _ => true) true m2 9 ((((cs.drop 5).take 35).drop 24).take 1) = some us[24] := by
    have h : DataW.trod enc Tryz.prog W 0 (fun _ => true) true m2 9 ((((cs.drop 5).take 35).drop 24).take (Tryz.prog.cellsOf 9)) = us[24]? := huf 24 _ rfl
    rw [z9] at h; exact h.trans (gu 24 (by omega))
  clear huf
  rw [part1 (by omega)] at f0 f1 f5 f6
  rw [part2 (by omega) (by omega)] at u0 u1 u3 u4 u20 u24
  obtain ⟨s0, e0, b0, _⟩ := DataW.trod_string Tryz.underlying9 f0
  obtain ⟨n1, e1, b1, _⟩ := DataW.trod_int Tryz.underlying3 f1
  obtain ⟨s2, e2, b2, _⟩ := DataW.trod_string Tryz.underlying9 u0
  obtain ⟨n3, e3, b3, _⟩ := DataW.trod_int Tryz.underlying3 u1
  obtain ⟨t4, e4, b4⟩ := DataW.trod_bool Tryz.underlying4 u3
  obtain ⟨s5, e5, b5, _⟩ := DataW.trod_string Tryz.underlying9 u24
  obtain ⟨oa1, cap1, l1, g1, r1, q1, p1⟩ := open_rels u4
  obtain ⟨oa2, cap2, l2, g2, r2, q2, p2⟩ := open_txts u20
  obtain ⟨oa3, cap3, l3, g3, r3, q3, p3⟩ := open_txts f5
  obtain ⟨oa4, cap4, l4, g4, r4, q4, p4⟩ := open_txts f6
  have hbu : ∀ j (hj : j < us.length), Rows.uptoBulk us[j].1 ≤ Rows.uptoBulkAll (us.map (·.1)) := fun j hj => bulk_part (List.mem_map.2 ⟨us[j], List.getElem_mem hj, rfl⟩)
  have k0 := hbu 0 (by omega); have k4 := hbu 4 (by omega); have k20 := hbu 20 (by omega); have k24 := hbu 24 (by omega)
  have hx4 : Rows.uptoBulk x4.1 = Rows.uptoBulkAll (us.map (·.1)) + 1 := by
    rw [hux]; rfl
  refine ⟨(⟨s0.data.toList, n1, s2.data.toList, n3, t4, l1, l2, s5.data.toList, l3, l4⟩, Rows.uptoBulk (.agg (List.map (·.1) [x0, x1, x2, x3, x4, x5, x6]) : DataW H)), fun hN => ?_, Nat.le_refl _⟩
  simp only [List.map_cons, List.map_nil, Rows.uptoBulk, Rows.uptoBulkAll] at hN
  have w0 : s0.data.toList.length + 1 = Rows.uptoBulk x0.1 := by rw [b0]; rfl
  have w2 : s2.data.toList.length + 1 = Rows.uptoBulk us[0].1 := by rw [b2]; rfl
  have w5 : s5.data.toList.length + 1 = Rows.uptoBulk us[24].1 := by rw [b5]; rfl
  exact {
    size := by simpa using hl
    one := all_oneCell_toArray hone
    name := arr_at (by omega) e0
    state := arr_at (by omega) e1
    uname := arr_at (i := 5 + 0) (by omega) e2
    ukind := arr_at (i := 5 + 1) (by omega) e3
    dflt := arr_at (i := 5 + 3) (by omega) e4
    rels := ⟨_, arr_is (i := 5 + 4) (by omega) g1, ⟨oa1, cap1, rfl, r1⟩⟩
    socks := ⟨_, arr_is (i := 5 + 20) (by omega) g2, ⟨oa2, cap2, rfl, r2⟩⟩
    unit := arr_at (i := 5 + 24) (by omega) e5
    wants := ⟨_, arr_is (i := 40) (by omega) g3, ⟨oa3, cap3, rfl, r3⟩⟩
    reqs := ⟨_, arr_is (i := 41) (by omega) g4, ⟨oa4, cap4, rfl, r4⟩⟩
    small := ⟨by show s0.data.toList.length < _; omega, by show s2.data.toList.length < _; omega, by show s5.data.toList.length < _; omega, by show l1.length < _; omega, by show l2.length < _; omega, by show l3.length < _; omega, by show l4.length < _; omega,
      fun x hx => by have := q1 x hx; omega, fun x hx => by have := q2 x hx; omega, fun x hx => by have := q3 x hx; omega, fun x hx => by have := q4 x hx; omega⟩ }

/-- Loaded units, opened. -/
theorem open_loaded {v : Value} {d : DataW H} {ps : List MemPlace} {r : Reach} {b0 : Nat} (hval : Value.okWide Tryz.prog W r b0 22 v) (hk : Rows.uptoBulk d ≤ 1048576) (h : DataW.Trod enc Tryz.prog W 0 (fun _ => true) true 22 v d ps) :
    ∃ oa cap l, v = .slice oa (List.length l) cap ∧ LdsRd W oa l ∧ List.length l < Rows.uptoBulk d := by
  obtain ⟨a0, len, c0, rfl⟩ := okWide_slice Tryz.underlying22 hval
  obtain ⟨fuel, hf⟩ := h
  obtain ⟨oa, cap, l, h1, _, h3, h4, h5⟩ := open_rows (fun (x : LdS × Nat) cs => x.2 ≤ 1048576 → LdRd W cs.toArray x.1) (fun x => x.2) Tryz.underlying22 (k := 42) (by kernel_rfl) (by omega) (fun cs D Pl n hl ht => loaded_el hl ht) hf
  refine ⟨oa, cap, l.map (·.1), by rw [List.length_map]; exact h1, fun i hi => ?_, by rw [List.length_map]; exact h5⟩
  rw [List.length_map] at hi
  obtain ⟨b, o, cs, e, hlt, hl, hc, hR⟩ := h3 i hi
  refine ⟨b, o, cs.toArray, e, hlt, fun j v hj => hc j v (by simpa using hj), ?_⟩
  rw [List.getElem_map]
  exact hR (by have := h4 _ (List.getElem_mem hi); have h9 : l[i].2 < Rows.uptoBulk d := this; omega)
end
end Go.Proofs.YtcaamakodneplaaGreat

/-
  matinslaw15: sound.
-/
namespace Go.Proofs.YtcaamakodneplaaGreat
open Go Go.RowKit
set_option linter.unusedVariables false
set_option linter.unusedSimpArgs false
set_option maxRecDepth 100000

def okS (x : LdS) : Bool := x.state != 1 || (x.uname == x.name && x.ukind == (kindS x.name : Int))
def soundB (l : List LdS) : Bool := l.all okS && decide (l.length ≤ 80)
theorem soundB_true {l : List LdS} (h : soundB l = true) : soundS l ∧ l.length ≤ 80 := by
  unfold soundB at h
  simp only [Bool.and_eq_true, decide_eq_true_eq, List.all_eq_true] at h
  refine ⟨fun x hx hs => ?_, h.2⟩
  have := h.1 x hx
  unfold okS at this
  simpa [hs] using this

set_option maxHeartbeats 1000000 in
theorem sound_any (oa : Option Addr) (cap : Nat) (l : List LdS) (w : World) (hR : LdsRd w oa l) (hl : l.length < 4194304) (r : Bool) (hr : soundB l = r) :
    Calls Tryz.prog 10 #[.slice oa l.length cap] w fun e w' => e = .returned (.bool r) ∧ Below w.heap.size w w' := by
  have HR := Lib.hid hR; have HO := Lib.hid hr
  clear hR hr
  go_enter Tryz.func10, Tryz.ntmps10
  go_wp2_with fail
  go_loopg [7] (l.length + 1) (fun f i wr => ∃ k : Nat, k ≤ l.length ∧ i = .int .i64 k ∧ l.length - k < f ∧ Hid ((l.take k).all okS = true) ∧ Hid (Below w.heap.size w wr))
  case atStart => exact ⟨0, by omega, rfl, by omega, Lib.hid (by simp), Below.refl _ _⟩
  case round =>
    obtain ⟨k, hk, rfl, hfu, Hok, Hb⟩ := hrel
    by_cases hlt : k < l.length
    · obtain ⟨b, o, cs, rfl, hblt, hcc, hld⟩ := (HR.out.below Hb.out) k hlt
      obtain ⟨x, hx⟩ : ∃ x, x = l[k] := ⟨_, rfl⟩
      rw [← hx] at hld
      have HXE := Lib.hid hx
      have i5 : (k : Int) < (l.length : Int) := by omega
      have HCC := Lib.hid hcc
      have HLD := Lib.hid hld
      have HZ := Lib.hid (And.intro hld.size hld.one)
      clear hcc hld hx
      go_wp2_with (first
        | (refine l_load_at rfl 53 _ b (o + k * 42) cs _ rfl rfl HCC.out rfl rfl (by rw [HZ.out.1]; rfl) ?_)
        | (refine l_alloc rfl 53 loadedZero rfl (run_alloc_loaded _) ?_; intro w3 h3 hb3)
        | (refine l_store rfl 53 _ _ wr.heap.size cs loadedZero 53 rfl rfl rfl h3 (by rw [HZ.out.1]; rfl) (by rw [HZ.out.1]; rfl) HZ.out.2 ?_; intro w4 h4 hf4))
      have HB4 := Lib.hid (show Below w.heap.size w w4 from Hb.out.trans ((hb3.trans (hf4.below _ hb3.size (fun k hk e => by omega))).mono Hb.out.size))
      generalize hN : wr.heap.size = N at *
      have HQ := Lib.hid (show ∀ V, Below w4.heap.size w4 V → V.cell? ⟨N, 0, none⟩ = some (.string ⟨x.name.toArray⟩) ∧ V.cell? ⟨N, 1, none⟩ = some (.int .i64 x.state) ∧ V.cell? ⟨N, 5, none⟩ = some (.string ⟨x.uname.toArray⟩) ∧ V.cell? ⟨N, 6, none⟩ = some (.int .i64 x.ukind) from by
        intro V hV
        have hc : ∀ j, V.cell? ⟨N, j, none⟩ = cs[j]? := fun j => by rw [hV.cell (lt_heap h4), (rd h4).1 j]
        exact ⟨(hc 0).trans HLD.out.name, (hc 1).trans HLD.out.state, (hc 5).trans HLD.out.uname, (hc 6).trans HLD.out.ukind⟩)
      clear h3 hb3 h4 hf4 hN HCC HLD HZ Hb
      have hof := fun V => of_any ⟨x.name.toArray⟩ V (ofS x.name) rfl
      simp only [ofS_kind] at hof
      have HOF := Lib.hid hof
      clear hof
      have hfc := field_cut (.int .i64 (kindS x.name : Nat)) (.string ⟨(ofS x.name).pre.toArray⟩) (.string ⟨(ofS x.name).inst.toArray⟩) (.bool (ofS x.name).at_) rfl
      cases hst : (x.state == 1) with
      | false =>
        have HK := Lib.hid (show okS x = true by unfold okS; simp [bne, hst])
        refine wp_region_held_drew (S := fun V => Below w4.heap.size w4 V) (by kernel_rfl) (below_dn ⟨1, rfl⟩) (fun hHeld => ?_)
        try simp only [Act.put, List.setIfInBounds_toArray, List.set_cons_zero, List.set_cons_succ]
        refine wpAnyH_take (i := 0) (v := .pointer (some ⟨N, 1, none⟩)) (List.getElem?_toArray.trans rfl) (by kernel_rfl) (by kernel_rfl) (by kernel_rfl) (fun _ _ _ h => h) (Or.inl ⟨by rfl, fun W hW => by obtain ⟨q0, q1, q5, q6⟩ := HQ.out W hW; clear hW; go_simp⟩) (by assumption) ?_
        try simp only [Act.put, List.setIfInBounds_toArray, List.set_cons_zero, List.set_cons_succ]
        refine wpAnyH_take (i := 1) (v := .int .i64 x.state) (List.getElem?_toArray.trans rfl) (by kernel_rfl) (by kernel_rfl) (by kernel_rfl) (fun _ _ _ h => h) (Or.inl ⟨by rfl, fun W hW => by obtain ⟨q0, q1, q5, q6⟩ := HQ.out W hW; clear hW; go_simp⟩) (by assumption) ?_
        try simp only [Act.put, List.setIfInBounds_toArray, List.set_cons_zero, List.set_cons_succ]
        refine wpAnyH_take (i := 2) (v := .bool false) (List.getElem?_toArray.trans rfl) (by kernel_rfl) (by kernel_rfl) (by kernel_rfl) (fun _ _ _ h => h) (Or.inl ⟨by rfl, fun W hW => by obtain ⟨q0, q1, q5, q6⟩ := HQ.out W hW; clear hW; go_simp⟩) (by assumption) ?_
        try simp only [Act.put, List.setIfInBounds_toArray, List.set_cons_zero, List.set_cons_succ]
        refine wpAnyH_take (i := 3) (v := .bool false) (List.getElem?_toArray.trans rfl) (by kernel_rfl) (by kernel_rfl) (by kernel_rfl) (fun _ _ _ h => h) (Or.inl ⟨by rfl, fun W hW => by obtain ⟨q0, q1, q5, q6⟩ := HQ.out W hW; clear hW; go_simp⟩) (by assumption) ?_
        try simp only [Act.put, List.setIfInBounds_toArray, List.set_cons_zero, List.set_cons_succ]
        refine wpAnyH_take (i := 4) (v := undef) (List.getElem?_toArray.trans rfl) (by kernel_rfl) (by kernel_rfl) (by kernel_rfl) (fun _ _ _ h => h) (Or.inr ⟨by rfl, rfl⟩) (by assumption) ?_
        try simp only [Act.put, List.setIfInBounds_toArray, List.set_cons_zero, List.set_cons_succ]
        refine wpAnyH_take (i := 5) (v := undef) (List.getElem?_toArray.trans rfl) (by kernel_rfl) (by kernel_rfl) (by kernel_rfl) (fun _ _ _ h => h) (Or.inr ⟨by rfl, rfl⟩) (by assumption) ?_
        try simp only [Act.put, List.setIfInBounds_toArray, List.set_cons_zero, List.set_cons_succ]
        refine wpAnyH_take (i := 6) (v := undef) (List.getElem?_toArray.trans rfl) (by kernel_rfl) (by kernel_rfl) (by kernel_rfl) (fun _ _ _ h => h) (Or.inr ⟨by rfl, rfl⟩) (by assumption) ?_
        try simp only [Act.put, List.setIfInBounds_toArray, List.set_cons_zero, List.set_cons_succ]
        refine wpAnyH_take (i := 7) (v := undef) (List.getElem?_toArray.trans rfl) (by kernel_rfl) (by kernel_rfl) (by kernel_rfl) (fun _ _ _ h => h) (Or.inr ⟨by rfl, rfl⟩) (by assumption) ?_
        try simp only [Act.put, List.setIfInBounds_toArray, List.set_cons_zero, List.set_cons_succ]
        refine wpAnyH_take (i := 8) (v := undef) (List.getElem?_toArray.trans rfl) (by kernel_rfl) (by kernel_rfl) (by kernel_rfl) (fun _ _ _ h => h) (Or.inr ⟨by rfl, rfl⟩) (by assumption) ?_
        try simp only [Act.put, List.setIfInBounds_toArray, List.set_cons_zero, List.set_cons_succ]
        refine wpAnyH_take (i := 9) (v := undef) (List.getElem?_toArray.trans rfl) (by kernel_rfl) (by kernel_rfl) (by kernel_rfl) (fun _ _ _ h => h) (Or.inr ⟨by rfl, rfl⟩) (by assumption) ?_
        try simp only [Act.put, List.setIfInBounds_toArray, List.set_cons_zero, List.set_cons_succ]
        refine wpAnyH_take (i := 10) (v := undef) (List.getElem?_toArray.trans rfl) (by kernel_rfl) (by kernel_rfl) (by kernel_rfl) (fun _ _ _ h => h) (Or.inr ⟨by rfl, rfl⟩) (by assumption) ?_
        try simp only [Act.put, List.setIfInBounds_toArray, List.set_cons_zero, List.set_cons_succ]
        refine wpAnyH_take (i := 11) (v := undef) (List.getElem?_toArray.trans rfl) (by kernel_rfl) (by kernel_rfl) (by kernel_rfl) (fun _ _ _ h => h) (Or.inr ⟨by rfl, rfl⟩) (by assumption) ?_
        try simp only [Act.put, List.setIfInBounds_toArray, List.set_cons_zero, List.set_cons_succ]
        refine wpAnyH_take (i := 12) (v := undef) (List.getElem?_toArray.trans rfl) (by kernel_rfl) (by kernel_rfl) (by kernel_rfl) (fun _ _ _ h => h) (Or.inr ⟨by rfl, rfl⟩) (by assumption) ?_
        try simp only [Act.put, List.setIfInBounds_toArray, List.set_cons_zero, List.set_cons_succ]
        refine wpAnyH_take (i := 13) (v := undef) (List.getElem?_toArray.trans rfl) (by kernel_rfl) (by kernel_rfl) (by kernel_rfl) (fun _ _ _ h => h) (Or.inr ⟨by rfl, rfl⟩) (by assumption) ?_
        try simp only [Act.put, List.setIfInBounds_toArray, List.set_cons_zero, List.set_cons_succ]
        refine wpAnyH_take (i := 14) (v := undef) (List.getElem?_toArray.trans rfl) (by kernel_rfl) (by kernel_rfl) (by kernel_rfl) (fun _ _ _ h => h) (Or.inr ⟨by rfl, rfl⟩) (by assumption) ?_
        try simp only [Act.put, List.setIfInBounds_toArray, List.set_cons_zero, List.set_cons_succ]
        refine wpAnyH_take (i := 15) (v := undef) (List.getElem?_toArray.trans rfl) (by kernel_rfl) (by kernel_rfl) (by kernel_rfl) (fun _ _ _ h => h) (Or.inr ⟨by rfl, rfl⟩) (by assumption) ?_
        try simp only [Act.put, List.setIfInBounds_toArray, List.set_cons_zero, List.set_cons_succ]
        refine wpAnyH_take (i := 16) (v := undef) (List.getElem?_toArray.trans rfl) (by kernel_rfl) (by kernel_rfl) (by kernel_rfl) (fun _ _ _ h => h) (Or.inr ⟨by rfl, rfl⟩) (by assumption) ?_
        try simp only [Act.put, List.setIfInBounds_toArray, List.set_cons_zero, List.set_cons_succ]
        refine wpAnyH_take (i := 17) (v := undef) (List.getElem?_toArray.trans rfl) (by kernel_rfl) (by kernel_rfl) (by kernel_rfl) (fun _ _ _ h => h) (Or.inr ⟨by rfl, rfl⟩) (by assumption) ?_
        try simp only [Act.put, List.setIfInBounds_toArray, List.set_cons_zero, List.set_cons_succ]
        refine wpAnyH_take (i := 18) (v := undef) (List.getElem?_toArray.trans rfl) (by kernel_rfl) (by kernel_rfl) (by kernel_rfl) (fun _ _ _ h => h) (Or.inr ⟨by rfl, rfl⟩) (by assumption) ?_
        try simp only [Act.put, List.setIfInBounds_toArray, List.set_cons_zero, List.set_cons_succ]
        refine wpAnyH_take (i := 19) (v := undef) (List.getElem?_toArray.trans rfl) (by kernel_rfl) (by kernel_rfl) (by kernel_rfl) (fun _ _ _ h => h) (Or.inr ⟨by rfl, rfl⟩) (by assumption) ?_
        try simp only [Act.put, List.setIfInBounds_toArray, List.set_cons_zero, List.set_cons_succ]
        refine wpAnyH_take (i := 20) (v := .bool false) (List.getElem?_toArray.trans rfl) (by kernel_rfl) (by kernel_rfl) (by kernel_rfl) (fun _ _ _ h => h) (Or.inl ⟨by rfl, fun W hW => by clear hW; go_simp⟩) (by assumption) ?_
        try simp only [Act.put, List.setIfInBounds_toArray, List.set_cons_zero, List.set_cons_succ]
        refine wpAnyH_done (by kernel_rfl) ?_ _
        clear hHeld
        go_wp2_with fail
        go_roundg (gk - 1)
        case measure => omega
        case rel => exact ⟨k + 1, by omega, by go_num, by omega, Lib.hid (take_all_snoc okS l k hlt Hok.out (by rw [← HXE.out]; exact HK.out)), HB4.out.trans ((below_dn ⟨1, rfl⟩ : Below w4.heap.size w4 w4.drew).mono HB4.out.size)⟩
      | true =>
        cases hun : (x.uname == x.name) with
        | false =>
          have hun2 : (x.uname != x.name) = true := by simp [bne, hun]
          have HK := Lib.hid (show soundB l = false by unfold soundB; rw [all_no okS l k hlt (by rw [← HXE.out]; unfold okS; simp [bne, hst, hun])]; rfl)
          refine wp_region_held_drew (S := fun V => Below w4.heap.size w4 V) (by kernel_rfl) (below_dn ⟨1, rfl⟩) (fun hHeld => ?_)
          try simp only [Act.put, List.setIfInBounds_toArray, List.set_cons_zero, List.set_cons_succ]
          refine wpAnyH_take (i := 0) (v := .pointer (some ⟨N, 1, none⟩)) (List.getElem?_toArray.trans rfl) (by kernel_rfl) (by kernel_rfl) (by kernel_rfl) (fun _ _ _ h => h) (Or.inl ⟨by rfl, fun W hW => by obtain ⟨q0, q1, q5, q6⟩ := HQ.out W hW; clear hW; go_simp⟩) (by assumption) ?_
          try simp only [Act.put, List.setIfInBounds_toArray, List.set_cons_zero, List.set_cons_succ]
          refine wpAnyH_take (i := 1) (v := .int .i64 x.state) (List.getElem?_toArray.trans rfl) (by kernel_rfl) (by kernel_rfl) (by kernel_rfl) (fun _ _ _ h => h) (Or.inl ⟨by rfl, fun W hW => by obtain ⟨q0, q1, q5, q6⟩ := HQ.out W hW; clear hW; go_simp⟩) (by assumption) ?_
          try simp only [Act.put, List.setIfInBounds_toArray, List.set_cons_zero, List.set_cons_succ]
          refine wpAnyH_take (i := 2) (v := .bool true) (List.getElem?_toArray.trans rfl) (by kernel_rfl) (by kernel_rfl) (by kernel_rfl) (fun _ _ _ h => h) (Or.inl ⟨by rfl, fun W hW => by obtain ⟨q0, q1, q5, q6⟩ := HQ.out W hW; clear hW; go_simp⟩) (by assumption) ?_
          try simp only [Act.put, List.setIfInBounds_toArray, List.set_cons_zero, List.set_cons_succ]
          refine wpAnyH_take (i := 3) (v := .bool true) (List.getElem?_toArray.trans rfl) (by kernel_rfl) (by kernel_rfl) (by kernel_rfl) (fun _ _ _ h => h) (Or.inl ⟨by rfl, fun W hW => by obtain ⟨q0, q1, q5, q6⟩ := HQ.out W hW; clear hW; go_simp⟩) (by assumption) ?_
          try simp only [Act.put, List.setIfInBounds_toArray, List.set_cons_zero, List.set_cons_succ]
          refine wpAnyH_take (i := 4) (v := .pointer (some ⟨N, 5, none⟩)) (List.getElem?_toArray.trans rfl) (by kernel_rfl) (by kernel_rfl) (by kernel_rfl) (fun _ _ _ h => h) (Or.inl ⟨by rfl, fun W hW => by obtain ⟨q0, q1, q5, q6⟩ := HQ.out W hW; clear hW; go_simp⟩) (by assumption) ?_
          try simp only [Act.put, List.setIfInBounds_toArray, List.set_cons_zero, List.set_cons_succ]
          refine wpAnyH_take (i := 5) (v := .pointer (some ⟨N, 5, none⟩)) (List.getElem?_toArray.trans rfl) (by kernel_rfl) (by kernel_rfl) (by kernel_rfl) (fun _ _ _ h => h) (Or.inl ⟨by rfl, fun W hW => by obtain ⟨q0, q1, q5, q6⟩ := HQ.out W hW; clear hW; go_simp⟩) (by assumption) ?_
          try simp only [Act.put, List.setIfInBounds_toArray, List.set_cons_zero, List.set_cons_succ]
          refine wpAnyH_take (i := 6) (v := .string ⟨x.uname.toArray⟩) (List.getElem?_toArray.trans rfl) (by kernel_rfl) (by kernel_rfl) (by kernel_rfl) (fun _ _ _ h => h) (Or.inl ⟨by rfl, fun W hW => by obtain ⟨q0, q1, q5, q6⟩ := HQ.out W hW; clear hW; go_simp⟩) (by assumption) ?_
          try simp only [Act.put, List.setIfInBounds_toArray, List.set_cons_zero, List.set_cons_succ]
          refine wpAnyH_take (i := 7) (v := .pointer (some ⟨N, 0, none⟩)) (List.getElem?_toArray.trans rfl) (by kernel_rfl) (by kernel_rfl) (by kernel_rfl) (fun _ _ _ h => h) (Or.inl ⟨by rfl, fun W hW => by obtain ⟨q0, q1, q5, q6⟩ := HQ.out W hW; clear hW; go_simp⟩) (by assumption) ?_
          try simp only [Act.put, List.setIfInBounds_toArray, List.set_cons_zero, List.set_cons_succ]
          refine wpAnyH_take (i := 8) (v := .string ⟨x.name.toArray⟩) (List.getElem?_toArray.trans rfl) (by kernel_rfl) (by kernel_rfl) (by kernel_rfl) (fun _ _ _ h => h) (Or.inl ⟨by rfl, fun W hW => by obtain ⟨q0, q1, q5, q6⟩ := HQ.out W hW; clear hW; go_simp⟩) (by assumption) ?_
          try simp only [Act.put, List.setIfInBounds_toArray, List.set_cons_zero, List.set_cons_succ]
          refine wpAnyH_take (i := 9) (v := .bool true) (List.getElem?_toArray.trans rfl) (by kernel_rfl) (by kernel_rfl) (by kernel_rfl) (fun _ _ _ h => h) (Or.inl ⟨by rfl, fun W hW => by obtain ⟨q0, q1, q5, q6⟩ := HQ.out W hW; clear hW; go_simp⟩) (by assumption) ?_
          try simp only [Act.put, List.setIfInBounds_toArray, List.set_cons_zero, List.set_cons_succ]
          refine wpAnyH_take (i := 10) (v := .bool true) (List.getElem?_toArray.trans rfl) (by kernel_rfl) (by kernel_rfl) (by kernel_rfl) (fun _ _ _ h => h) (Or.inl ⟨by rfl, fun W hW => by obtain ⟨q0, q1, q5, q6⟩ := HQ.out W hW; clear hW; go_simp⟩) (by assumption) ?_
          try simp only [Act.put, List.setIfInBounds_toArray, List.set_cons_zero, List.set_cons_succ]
          refine wpAnyH_take (i := 11) (v := undef) (List.getElem?_toArray.trans rfl) (by kernel_rfl) (by kernel_rfl) (by kernel_rfl) (fun _ _ _ h => h) (Or.inr ⟨by rfl, rfl⟩) (by assumption) ?_
          try simp only [Act.put, List.setIfInBounds_toArray, List.set_cons_zero, List.set_cons_succ]
          refine wpAnyH_take (i := 12) (v := undef) (List.getElem?_toArray.trans rfl) (by kernel_rfl) (by kernel_rfl) (by kernel_rfl) (fun _ _ _ h => h) (Or.inr ⟨by rfl, rfl⟩) (by assumption) ?_
          try simp only [Act.put, List.setIfInBounds_toArray, List.set_cons_zero, List.set_cons_succ]
          refine wpAnyH_take (i := 13) (v := undef) (List.getElem?_toArray.trans rfl) (by kernel_rfl) (by kernel_rfl) (by kernel_rfl) (fun _ _ _ h => h) (Or.inr ⟨by rfl, rfl⟩) (by assumption) ?_
          try simp only [Act.put, List.setIfInBounds_toArray, List.set_cons_zero, List.set_cons_succ]
          refine wpAnyH_take (i := 14) (v := undef) (List.getElem?_toArray.trans rfl) (by kernel_rfl) (by kernel_rfl) (by kernel_rfl) (fun _ _ _ h => h) (Or.inr ⟨by rfl, rfl⟩) (by assumption) ?_
          try simp only [Act.put, List.setIfInBounds_toArray, List.set_cons_zero, List.set_cons_succ]
          refine wpAnyH_take (i := 15) (v := undef) (List.getElem?_toArray.trans rfl) (by kernel_rfl) (by kernel_rfl) (by kernel_rfl) (fun _ _ _ h => h) (Or.inr ⟨by rfl, rfl⟩) (by assumption) ?_
          try simp only [Act.put, List.setIfInBounds_toArray, List.set_cons_zero, List.set_cons_succ]
          refine wpAnyH_take (i := 16) (v := undef) (List.getElem?_toArray.trans rfl) (by kernel_rfl) (by kernel_rfl) (by kernel_rfl) (fun _ _ _ h => h) (Or.inr ⟨by rfl, rfl⟩) (by assumption) ?_
          try simp only [Act.put, List.setIfInBounds_toArray, List.set_cons_zero, List.set_cons_succ]
          refine wpAnyH_take (i := 17) (v := undef) (List.getElem?_toArray.trans rfl) (by kernel_rfl) (by kernel_rfl) (by kernel_rfl) (fun _ _ _ h => h) (Or.inr ⟨by rfl, rfl⟩) (by assumption) ?_
          try simp only [Act.put, List.setIfInBounds_toArray, List.set_cons_zero, List.set_cons_succ]
          refine wpAnyH_take (i := 18) (v := undef) (List.getElem?_toArray.trans rfl) (by kernel_rfl) (by kernel_rfl) (by kernel_rfl) (fun _ _ _ h => h) (Or.inr ⟨by rfl, rfl⟩) (by assumption) ?_
          try simp only [Act.put, List.setIfInBounds_toArray, List.set_cons_zero, List.set_cons_succ]
          refine wpAnyH_take (i := 19) (v := .bool true) (List.getElem?_toArray.trans rfl) (by kernel_rfl) (by kernel_rfl) (by kernel_rfl) (fun _ _ _ h => h) (Or.inl ⟨by rfl, fun W hW => by clear hW; go_simp⟩) (by assumption) ?_
          try simp only [Act.put, List.setIfInBounds_toArray, List.set_cons_zero, List.set_cons_succ]
          refine wpAnyH_take (i := 20) (v := .bool true) (List.getElem?_toArray.trans rfl) (by kernel_rfl) (by kernel_rfl) (by kernel_rfl) (fun _ _ _ h => h) (Or.inl ⟨by rfl, fun W hW => by clear hW; go_simp⟩) (by assumption) ?_
          try simp only [Act.put, List.setIfInBounds_toArray, List.set_cons_zero, List.set_cons_succ]
          refine wpAnyH_done (by kernel_rfl) ?_ _
          clear hHeld
          go_wp2_with fail
          go_ret
          exact ⟨ret_bool (by rw [← HO.out, HK.out]), HB4.out.trans ((below_dn ⟨1, rfl⟩ : Below w4.heap.size w4 w4.drew).mono HB4.out.size)⟩
        | true =>
          have hun2 : (x.uname != x.name) = false := by simp [bne, hun]
          cases huk : (x.ukind == (kindS x.name : Int)) with
          | false =>
            have huk2 : (x.ukind != (kindS x.name : Int)) = true := by simp [bne, huk]
            have HK := Lib.hid (show soundB l = false by unfold soundB; rw [all_no okS l k hlt (by rw [← HXE.out]; unfold okS; simp [bne, hst, hun, huk])]; rfl)
            refine wp_region_held_drew (S := fun V => Below w4.heap.size w4 V) (by kernel_rfl) (below_dn ⟨1, rfl⟩) (fun hHeld => ?_)
            try simp only [Act.put, List.setIfInBounds_toArray, List.set_cons_zero, List.set_cons_succ]
            refine wpAnyH_take (i := 0) (v := .pointer (some ⟨N, 1, none⟩)) (List.getElem?_toArray.trans rfl) (by kernel_rfl) (by kernel_rfl) (by kernel_rfl) (fun _ _ _ h => h) (Or.inl ⟨by rfl, fun W hW => by obtain ⟨q0, q1, q5, q6⟩ := HQ.out W hW; clear hW; go_simp⟩) (by assumption) ?_
            try simp only [Act.put, List.setIfInBounds_toArray, List.set_cons_zero, List.set_cons_succ]
            refine wpAnyH_take (i := 1) (v := .int .i64 x.state) (List.getElem?_toArray.trans rfl) (by kernel_rfl) (by kernel_rfl) (by kernel_rfl) (fun _ _ _ h => h) (Or.inl ⟨by rfl, fun W hW => by obtain ⟨q0, q1, q5, q6⟩ := HQ.out W hW; clear hW; go_simp⟩) (by assumption) ?_
            try simp only [Act.put, List.setIfInBounds_toArray, List.set_cons_zero, List.set_cons_succ]
            refine wpAnyH_take (i := 2) (v := .bool true) (List.getElem?_toArray.trans rfl) (by kernel_rfl) (by kernel_rfl) (by kernel_rfl) (fun _ _ _ h => h) (Or.inl ⟨by rfl, fun W hW => by obtain ⟨q0, q1, q5, q6⟩ := HQ.out W hW; clear hW; go_simp⟩) (by assumption) ?_
            try simp only [Act.put, List.setIfInBounds_toArray, List.set_cons_zero, List.set_cons_succ]
            refine wpAnyH_take (i := 3) (v := .bool true) (List.getElem?_toArray.trans rfl) (by kernel_rfl) (by kernel_rfl) (by kernel_rfl) (fun _ _ _ h => h) (Or.inl ⟨by rfl, fun W hW => by obtain ⟨q0, q1, q5, q6⟩ := HQ.out W hW; clear hW; go_simp⟩) (by assumption) ?_
            try simp only [Act.put, List.setIfInBounds_toArray, List.set_cons_zero, List.set_cons_succ]
            refine wpAnyH_take (i := 4) (v := .pointer (some ⟨N, 5, none⟩)) (List.getElem?_toArray.trans rfl) (by kernel_rfl) (by kernel_rfl) (by kernel_rfl) (fun _ _ _ h => h) (Or.inl ⟨by rfl, fun W hW => by obtain ⟨q0, q1, q5, q6⟩ := HQ.out W hW; clear hW; go_simp⟩) (by assumption) ?_
            try simp only [Act.put, List.setIfInBounds_toArray, List.set_cons_zero, List.set_cons_succ]
            refine wpAnyH_take (i := 5) (v := .pointer (some ⟨N, 5, none⟩)) (List.getElem?_toArray.trans rfl) (by kernel_rfl) (by kernel_rfl) (by kernel_rfl) (fun _ _ _ h => h) (Or.inl ⟨by rfl, fun W hW => by obtain ⟨q0, q1, q5, q6⟩ := HQ.out W hW; clear hW; go_simp⟩) (by assumption) ?_
            try simp only [Act.put, List.setIfInBounds_toArray, List.set_cons_zero, List.set_cons_succ]
            refine wpAnyH_take (i := 6) (v := .string ⟨x.uname.toArray⟩) (List.getElem?_toArray.trans rfl) (by kernel_rfl) (by kernel_rfl) (by kernel_rfl) (fun _ _ _ h => h) (Or.inl ⟨by rfl, fun W hW => by obtain ⟨q0, q1, q5, q6⟩ := HQ.out W hW; clear hW; go_simp⟩) (by assumption) ?_
            try simp only [Act.put, List.setIfInBounds_toArray, List.set_cons_zero, List.set_cons_succ]
            refine wpAnyH_take (i := 7) (v := .pointer (some ⟨N, 0, none⟩)) (List.getElem?_toArray.trans rfl) (by kernel_rfl) (by kernel_rfl) (by kernel_rfl) (fun _ _ _ h => h) (Or.inl ⟨by rfl, fun W hW => by obtain ⟨q0, q1, q5, q6⟩ := HQ.out W hW; clear hW; go_simp⟩) (by assumption) ?_
            try simp only [Act.put, List.setIfInBounds_toArray, List.set_cons_zero, List.set_cons_succ]
            refine wpAnyH_take (i := 8) (v := .string ⟨x.name.toArray⟩) (List.getElem?_toArray.trans rfl) (by kernel_rfl) (by kernel_rfl) (by kernel_rfl) (fun _ _ _ h => h) (Or.inl ⟨by rfl, fun W hW => by obtain ⟨q0, q1, q5, q6⟩ := HQ.out W hW; clear hW; go_simp⟩) (by assumption) ?_
            try simp only [Act.put, List.setIfInBounds_toArray, List.set_cons_zero, List.set_cons_succ]
            refine wpAnyH_take (i := 9) (v := .bool false) (List.getElem?_toArray.trans rfl) (by kernel_rfl) (by kernel_rfl) (by kernel_rfl) (fun _ _ _ h => h) (Or.inl ⟨by rfl, fun W hW => by obtain ⟨q0, q1, q5, q6⟩ := HQ.out W hW; clear hW; go_simp⟩) (by assumption) ?_
            try simp only [Act.put, List.setIfInBounds_toArray, List.set_cons_zero, List.set_cons_succ]
            refine wpAnyH_take (i := 10) (v := .bool false) (List.getElem?_toArray.trans rfl) (by kernel_rfl) (by kernel_rfl) (by kernel_rfl) (fun _ _ _ h => h) (Or.inl ⟨by rfl, fun W hW => by obtain ⟨q0, q1, q5, q6⟩ := HQ.out W hW; clear hW; go_simp⟩) (by assumption) ?_
            try simp only [Act.put, List.setIfInBounds_toArray, List.set_cons_zero, List.set_cons_succ]
            refine wpAnyH_take (i := 11) (v := .pointer (some ⟨N, 5, none⟩)) (List.getElem?_toArray.trans rfl) (by kernel_rfl) (by kernel_rfl) (by kernel_rfl) (fun _ _ _ h => h) (Or.inl ⟨by rfl, fun W hW => by obtain ⟨q0, q1, q5, q6⟩ := HQ.out W hW; clear hW; go_simp⟩) (by assumption) ?_
            try simp only [Act.put, List.setIfInBounds_toArray, List.set_cons_zero, List.set_cons_succ]
            refine wpAnyH_take (i := 12) (v := .pointer (some ⟨N, 6, none⟩)) (List.getElem?_toArray.trans rfl) (by kernel_rfl) (by kernel_rfl) (by kernel_rfl) (fun _ _ _ h => h) (Or.inl ⟨by rfl, fun W hW => by obtain ⟨q0, q1, q5, q6⟩ := HQ.out W hW; clear hW; go_simp⟩) (by assumption) ?_
            try simp only [Act.put, List.setIfInBounds_toArray, List.set_cons_zero, List.set_cons_succ]
            refine wpAnyH_take (i := 13) (v := .int .i64 x.ukind) (List.getElem?_toArray.trans rfl) (by kernel_rfl) (by kernel_rfl) (by kernel_rfl) (fun _ _ _ h => h) (Or.inl ⟨by rfl, fun W hW => by obtain ⟨q0, q1, q5, q6⟩ := HQ.out W hW; clear hW; go_simp⟩) (by assumption) ?_
            try simp only [Act.put, List.setIfInBounds_toArray, List.set_cons_zero, List.set_cons_succ]
            refine wpAnyH_take (i := 14) (v := .pointer (some ⟨N, 0, none⟩)) (List.getElem?_toArray.trans rfl) (by kernel_rfl) (by kernel_rfl) (by kernel_rfl) (fun _ _ _ h => h) (Or.inl ⟨by rfl, fun W hW => by obtain ⟨q0, q1, q5, q6⟩ := HQ.out W hW; clear hW; go_simp⟩) (by assumption) ?_
            try simp only [Act.put, List.setIfInBounds_toArray, List.set_cons_zero, List.set_cons_succ]
            refine wpAnyH_take (i := 15) (v := .string ⟨x.name.toArray⟩) (List.getElem?_toArray.trans rfl) (by kernel_rfl) (by kernel_rfl) (by kernel_rfl) (fun _ _ _ h => h) (Or.inl ⟨by rfl, fun W hW => by obtain ⟨q0, q1, q5, q6⟩ := HQ.out W hW; clear hW; go_simp⟩) (by assumption) ?_
            try simp only [Act.put, List.setIfInBounds_toArray, List.set_cons_zero, List.set_cons_succ]
            have hv1 := hHeld
            refine wpAnyH_ready (rs := [16]) (by kernel_rfl) (by simp) (AllReadyH.cons (List.getElem?_toArray.trans rfl) (fun K hK => ?_) (AllReadyH.nil))
            clear hHeld
            rw [if_pos (by rfl)]
            go_simp
            refine (HOF.out _).mono ?_
            rintro e wi ⟨rfl, hbi⟩
            have HVi := Lib.hid (hv1.trans (hbi.mono hv1.size))
            clear hbi
            refine hK.out _ _ HVi.out (fun hHeld => ?_)
            clear hK K
            try simp only [Act.put, List.setIfInBounds_toArray, List.set_cons_zero, List.set_cons_succ]
            refine wpAnyH_take (i := 17) (v := .int .i64 (kindS x.name : Nat)) (List.getElem?_toArray.trans rfl) (by kernel_rfl) (by kernel_rfl) (by kernel_rfl) (fun _ _ _ h => h) (Or.inl ⟨by rfl, fun W hW => by clear hW; go_simp⟩) (by assumption) ?_
            try simp only [Act.put, List.setIfInBounds_toArray, List.set_cons_zero, List.set_cons_succ]
            refine wpAnyH_take (i := 18) (v := .bool true) (List.getElem?_toArray.trans rfl) (by kernel_rfl) (by kernel_rfl) (by kernel_rfl) (fun _ _ _ h => h) (Or.inl ⟨by rfl, fun W hW => by clear hW; go_simp⟩) (by assumption) ?_
            try simp only [Act.put, List.setIfInBounds_toArray, List.set_cons_zero, List.set_cons_succ]
            refine wpAnyH_take (i := 19) (v := .bool true) (List.getElem?_toArray.trans rfl) (by kernel_rfl) (by kernel_rfl) (by kernel_rfl) (fun _ _ _ h => h) (Or.inl ⟨by rfl, fun W hW => by clear hW; go_simp⟩) (by assumption) ?_
            try simp only [Act.put, List.setIfInBounds_toArray, List.set_cons_zero, List.set_cons_succ]
            refine wpAnyH_take (i := 20) (v := .bool true) (List.getElem?_toArray.trans rfl) (by kernel_rfl) (by kernel_rfl) (by kernel_rfl) (fun _ _ _ h => h) (Or.inl ⟨by rfl, fun W hW => by clear hW; go_simp⟩) (by assumption) ?_
            try simp only [Act.put, List.setIfInBounds_toArray, List.set_cons_zero, List.set_cons_succ]
            refine wpAnyH_done (by kernel_rfl) ?_ _
            clear hHeld
            go_wp2_with fail
            go_ret
            exact ⟨ret_bool (by rw [← HO.out, HK.out]), HB4.out.trans (HVi.out.mono HB4.out.size)⟩
          | true =>
            have huk2 : (x.ukind != (kindS x.name : Int)) = false := by simp [bne, huk]
            have HK := Lib.hid (show okS x = true by unfold okS; simp [bne, hst, hun, huk])
            refine wp_region_held_drew (S := fun V => Below w4.heap.size w4 V) (by kernel_rfl) (below_dn ⟨1, rfl⟩) (fun hHeld => ?_)
            try simp only [Act.put, List.setIfInBounds_toArray, List.set_cons_zero, List.set_cons_succ]
            refine wpAnyH_take (i := 0) (v := .pointer (some ⟨N, 1, none⟩)) (List.getElem?_toArray.trans rfl) (by kernel_rfl) (by kernel_rfl) (by kernel_rfl) (fun _ _ _ h => h) (Or.inl ⟨by rfl, fun W hW => by obtain ⟨q0, q1, q5, q6⟩ := HQ.out W hW; clear hW; go_simp⟩) (by assumption) ?_
            try simp only [Act.put, List.setIfInBounds_toArray, List.set_cons_zero, List.set_cons_succ]
            refine wpAnyH_take (i := 1) (v := .int .i64 x.state) (List.getElem?_toArray.trans rfl) (by kernel_rfl) (by kernel_rfl) (by kernel_rfl) (fun _ _ _ h => h) (Or.inl ⟨by rfl, fun W hW => by obtain ⟨q0, q1, q5, q6⟩ := HQ.out W hW; clear hW; go_simp⟩) (by assumption) ?_
            try simp only [Act.put, List.setIfInBounds_toArray, List.set_cons_zero, List.set_cons_succ]
            refine wpAnyH_take (i := 2) (v := .bool true) (List.getElem?_toArray.trans rfl) (by kernel_rfl) (by kernel_rfl) (by kernel_rfl) (fun _ _ _ h => h) (Or.inl ⟨by rfl, fun W hW => by obtain ⟨q0, q1, q5, q6⟩ := HQ.out W hW; clear hW; go_simp⟩) (by assumption) ?_
            try simp only [Act.put, List.setIfInBounds_toArray, List.set_cons_zero, List.set_cons_succ]
            refine wpAnyH_take (i := 3) (v := .bool true) (List.getElem?_toArray.trans rfl) (by kernel_rfl) (by kernel_rfl) (by kernel_rfl) (fun _ _ _ h => h) (Or.inl ⟨by rfl, fun W hW => by obtain ⟨q0, q1, q5, q6⟩ := HQ.out W hW; clear hW; go_simp⟩) (by assumption) ?_
            try simp only [Act.put, List.setIfInBounds_toArray, List.set_cons_zero, List.set_cons_succ]
            refine wpAnyH_take (i := 4) (v := .pointer (some ⟨N, 5, none⟩)) (List.getElem?_toArray.trans rfl) (by kernel_rfl) (by kernel_rfl) (by kernel_rfl) (fun _ _ _ h => h) (Or.inl ⟨by rfl, fun W hW => by obtain ⟨q0, q1, q5, q6⟩ := HQ.out W hW; clear hW; go_simp⟩) (by assumption) ?_
            try simp only [Act.put, List.setIfInBounds_toArray, List.set_cons_zero, List.set_cons_succ]
            refine wpAnyH_take (i := 5) (v := .pointer (some ⟨N, 5, none⟩)) (List.getElem?_toArray.trans rfl) (by kernel_rfl) (by kernel_rfl) (by kernel_rfl) (fun _ _ _ h => h) (Or.inl ⟨by rfl, fun W hW => by obtain ⟨q0, q1, q5, q6⟩ := HQ.out W hW; clear hW; go_simp⟩) (by assumption) ?_
            try simp only [Act.put, List.setIfInBounds_toArray, List.set_cons_zero, List.set_cons_succ]
            refine wpAnyH_take (i := 6) (v := .string ⟨x.uname.toArray⟩) (List.getElem?_toArray.trans rfl) (by kernel_rfl) (by kernel_rfl) (by kernel_rfl) (fun _ _ _ h => h) (Or.inl ⟨by rfl, fun W hW => by obtain ⟨q0, q1, q5, q6⟩ := HQ.out W hW; clear hW; go_simp⟩) (by assumption) ?_
            try simp only [Act.put, List.setIfInBounds_toArray, List.set_cons_zero, List.set_cons_succ]
            refine wpAnyH_take (i := 7) (v := .pointer (some ⟨N, 0, none⟩)) (List.getElem?_toArray.trans rfl) (by kernel_rfl) (by kernel_rfl) (by kernel_rfl) (fun _ _ _ h => h) (Or.inl ⟨by rfl, fun W hW => by obtain ⟨q0, q1, q5, q6⟩ := HQ.out W hW; clear hW; go_simp⟩) (by assumption) ?_
            try simp only [Act.put, List.setIfInBounds_toArray, List.set_cons_zero, List.set_cons_succ]
            refine wpAnyH_take (i := 8) (v := .string ⟨x.name.toArray⟩) (List.getElem?_toArray.trans rfl) (by kernel_rfl) (by kernel_rfl) (by kernel_rfl) (fun _ _ _ h => h) (Or.inl ⟨by rfl, fun W hW => by obtain ⟨q0, q1, q5, q6⟩ := HQ.out W hW; clear hW; go_simp⟩) (by assumption) ?_
            try simp only [Act.put, List.setIfInBounds_toArray, List.set_cons_zero, List.set_cons_succ]
            refine wpAnyH_take (i := 9) (v := .bool false) (List.getElem?_toArray.trans rfl) (by kernel_rfl) (by kernel_rfl) (by kernel_rfl) (fun _ _ _ h => h) (Or.inl ⟨by rfl, fun W hW => by obtain ⟨q0, q1, q5, q6⟩ := HQ.out W hW; clear hW; go_simp⟩) (by assumption) ?_
            try simp only [Act.put, List.setIfInBounds_toArray, List.set_cons_zero, List.set_cons_succ]
            refine wpAnyH_take (i := 10) (v := .bool false) (List.getElem?_toArray.trans rfl) (by kernel_rfl) (by kernel_rfl) (by kernel_rfl) (fun _ _ _ h => h) (Or.inl ⟨by rfl, fun W hW => by obtain ⟨q0, q1, q5, q6⟩ := HQ.out W hW; clear hW; go_simp⟩) (by assumption) ?_
            try simp only [Act.put, List.setIfInBounds_toArray, List.set_cons_zero, List.set_cons_succ]
            refine wpAnyH_take (i := 11) (v := .pointer (some ⟨N, 5, none⟩)) (List.getElem?_toArray.trans rfl) (by kernel_rfl) (by kernel_rfl) (by kernel_rfl) (fun _ _ _ h => h) (Or.inl ⟨by rfl, fun W hW => by obtain ⟨q0, q1, q5, q6⟩ := HQ.out W hW; clear hW; go_simp⟩) (by assumption) ?_
            try simp only [Act.put, List.setIfInBounds_toArray, List.set_cons_zero, List.set_cons_succ]
            refine wpAnyH_take (i := 12) (v := .pointer (some ⟨N, 6, none⟩)) (List.getElem?_toArray.trans rfl) (by kernel_rfl) (by kernel_rfl) (by kernel_rfl) (fun _ _ _ h => h) (Or.inl ⟨by rfl, fun W hW => by obtain ⟨q0, q1, q5, q6⟩ := HQ.out W hW; clear hW; go_simp⟩) (by assumption) ?_
            try simp only [Act.put, List.setIfInBounds_toArray, List.set_cons_zero, List.set_cons_succ]
            refine wpAnyH_take (i := 13) (v := .int .i64 x.ukind) (List.getElem?_toArray.trans rfl) (by kernel_rfl) (by kernel_rfl) (by kernel_rfl) (fun _ _ _ h => h) (Or.inl ⟨by rfl, fun W hW => by obtain ⟨q0, q1, q5, q6⟩ := HQ.out W hW; clear hW; go_simp⟩) (by assumption) ?_
            try simp only [Act.put, List.setIfInBounds_toArray, List.set_cons_zero, List.set_cons_succ]
            refine wpAnyH_take (i := 14) (v := .pointer (some ⟨N, 0, none⟩)) (List.getElem?_toArray.trans rfl) (by kernel_rfl) (by kernel_rfl) (by kernel_rfl) (fun _ _ _ h => h) (Or.inl ⟨by rfl, fun W hW => by obtain ⟨q0, q1, q5, q6⟩ := HQ.out W hW; clear hW; go_simp⟩) (by assumption) ?_
            try simp only [Act.put, List.setIfInBounds_toArray, List.set_cons_zero, List.set_cons_succ]
            refine wpAnyH_take (i := 15) (v := .string ⟨x.name.toArray⟩) (List.getElem?_toArray.trans rfl) (by kernel_rfl) (by kernel_rfl) (by kernel_rfl) (fun _ _ _ h => h) (Or.inl ⟨by rfl, fun W hW => by obtain ⟨q0, q1, q5, q6⟩ := HQ.out W hW; clear hW; go_simp⟩) (by assumption) ?_
            try simp only [Act.put, List.setIfInBounds_toArray, List.set_cons_zero, List.set_cons_succ]
            have hv1 := hHeld
            refine wpAnyH_ready (rs := [16]) (by kernel_rfl) (by simp) (AllReadyH.cons (List.getElem?_toArray.trans rfl) (fun K hK => ?_) (AllReadyH.nil))
            clear hHeld
            rw [if_pos (by rfl)]
            go_simp
            refine (HOF.out _).mono ?_
            rintro e wi ⟨rfl, hbi⟩
            have HVi := Lib.hid (hv1.trans (hbi.mono hv1.size))
            clear hbi
            refine hK.out _ _ HVi.out (fun hHeld => ?_)
            clear hK K
            try simp only [Act.put, List.setIfInBounds_toArray, List.set_cons_zero, List.set_cons_succ]
            refine wpAnyH_take (i := 17) (v := .int .i64 (kindS x.name : Nat)) (List.getElem?_toArray.trans rfl) (by kernel_rfl) (by kernel_rfl) (by kernel_rfl) (fun _ _ _ h => h) (Or.inl ⟨by rfl, fun W hW => by clear hW; go_simp⟩) (by assumption) ?_
            try simp only [Act.put, List.setIfInBounds_toArray, List.set_cons_zero, List.set_cons_succ]
            refine wpAnyH_take (i := 18) (v := .bool false) (List.getElem?_toArray.trans rfl) (by kernel_rfl) (by kernel_rfl) (by kernel_rfl) (fun _ _ _ h => h) (Or.inl ⟨by rfl, fun W hW => by clear hW; go_simp⟩) (by assumption) ?_
            try simp only [Act.put, List.setIfInBounds_toArray, List.set_cons_zero, List.set_cons_succ]
            refine wpAnyH_take (i := 19) (v := .bool false) (List.getElem?_toArray.trans rfl) (by kernel_rfl) (by kernel_rfl) (by kernel_rfl) (fun _ _ _ h => h) (Or.inl ⟨by rfl, fun W hW => by clear hW; go_simp⟩) (by assumption) ?_
            try simp only [Act.put, List.setIfInBounds_toArray, List.set_cons_zero, List.set_cons_succ]
            refine wpAnyH_take (i := 20) (v := .bool false) (List.getElem?_toArray.trans rfl) (by kernel_rfl) (by kernel_rfl) (by kernel_rfl) (fun _ _ _ h => h) (Or.inl ⟨by rfl, fun W hW => by clear hW; go_simp⟩) (by assumption) ?_
            try simp only [Act.put, List.setIfInBounds_toArray, List.set_cons_zero, List.set_cons_succ]
            refine wpAnyH_done (by kernel_rfl) ?_ _
            clear hHeld
            go_wp2_with fail
            go_roundg (gk - 1)
            case measure => omega
            case rel => exact ⟨k + 1, by omega, by go_num, by omega, Lib.hid (take_all_snoc okS l k hlt Hok.out (by rw [← HXE.out]; exact HK.out)), HB4.out.trans (HVi.out.mono HB4.out.size)⟩
    · have hk2 : k = l.length := by omega
      subst hk2
      have HK := Lib.hid (show soundB l = decide (l.length ≤ 80) by
        have := Hok.out
        rw [List.take_of_length_le (Nat.le_refl _)] at this
        unfold soundB; rw [this]; rfl)
      go_wp2_with fail
      go_ret
      exact ⟨by rw [← HO.out, HK.out]; congr 2; simp; omega, Hb.out⟩
end Go.Proofs.YtcaamakodneplaaGreat

/-
  Plain laws of GraphOwn, GraphDefault, GraphWakes.
-/
namespace Go.Proofs.YtcaamakodneplaaGreat
set_option linter.unusedVariables false

theorem mem_edges {l : List LdS} {e : EdgeS} : e ∈ edgesS l ↔ ∃ x ∈ tableS l, e ∈ ownS (tableS l) x := by
  unfold edgesS rawS
  rw [mem_sortL stoE, List.mem_flatMap]
theorem mem_out {es : List EdgeS} {s d : Str} {r : Int} : (outS es s r).contains d = true ↔ (⟨s, d, r⟩ : EdgeS) ∈ es := by
  rw [List.contains_iff_mem]
  unfold outS
  rw [mem_sortL stoS, List.mem_map]
  constructor
  · rintro ⟨e, he, rfl⟩
    obtain ⟨h1, h2⟩ := List.mem_filter.1 he
    obtain ⟨a, b, c⟩ := e
    simp at h2
    obtain ⟨rfl, rfl⟩ := h2
    exact h1
  · intro h
    exact ⟨_, List.mem_filter.2 ⟨h, by simp⟩, rfl⟩
theorem node_isSome {l : List LdS} {s : Str} : (nodeOf (nodesS l) s).isSome = true ↔ s ∈ namesS l := by
  rw [← look_isSome]
  unfold nodeOf nodesS lookS
  rw [List.find?_map, Option.isSome_map]
  rfl
/-- What any edge that comes by putS is. -/
theorem mem_put {l : List LdS} {a b : Str} {rs : List Int} {e : EdgeS} : e ∈ putS (tableS l) a b rs ↔ (b ∈ namesS l ∧ a ≠ b) ∧ e.src = a ∧ e.dst = b ∧ e.rel ∈ rs := by
  unfold putS
  by_cases h : b ∈ namesS l ∧ a ≠ b
  · rw [if_pos ⟨look_isSome.2 h.1, h.2⟩, List.mem_map]
    constructor
    · rintro ⟨r, hr, rfl⟩; exact ⟨h, rfl, rfl, hr⟩
    · rintro ⟨_, h1, h2, h3⟩
      obtain ⟨x, y, z⟩ := e
      simp at h1 h2 h3
      subst h1; subst h2
      exact ⟨z, h3, rfl⟩
  · rw [if_neg (fun h2 => h ⟨look_isSome.1 h2.1, h2.2⟩)]; simp [h]
theorem own_src {l : List LdS} {x : LdS} {e : EdgeS} (h : e ∈ ownS (tableS l) x) : x.state = 1 ∧ e.src = x.name ∧ e.dst ∈ namesS l ∧ e.src ≠ e.dst := by
  unfold ownS at h
  split at h
  · rename_i hs
    refine ⟨hs, ?_⟩
    have key : ∃ b rs, e ∈ putS (tableS l) x.name b rs := by
      rcases List.mem_append.1 h with h | h
      · unfold saidS at h
        simp only [List.mem_append, List.mem_flatMap] at h
        rcases h with ⟨r, _, h⟩ | ⟨r, _, h⟩ | ⟨r, _, h⟩ | h | h
        · split at h
          · exact ⟨_, _, h⟩
          · cases h
        · exact ⟨_, _, h⟩
        · exact ⟨_, _, h⟩
        · split at h
          · exact ⟨_, _, h⟩
          · cases h
        · split at h
          · obtain ⟨r, _, h⟩ := List.mem_flatMap.1 h; exact ⟨_, _, h⟩
          · cases h
      · split at h
        · unfold standardS at h
          split at h
          · unfold gathersS at h
            obtain ⟨r, _, h⟩ := List.mem_flatMap.1 h
            split at h
            · cases h
            · exact ⟨_, _, h⟩
          · simp only [List.mem_append] at h
            rcases h with h | h | h
            · split at h
              · exact ⟨_, _, h⟩
              · cases h
            · exact ⟨_, _, h⟩
            · exact ⟨_, _, h⟩
        · cases h
    obtain ⟨b, rs, hp⟩ := key
    obtain ⟨⟨h1, h2⟩, h3, h4, _⟩ := mem_put.1 hp
    exact ⟨h3, h4 ▸ h1, by rw [h3, h4]; exact h2⟩
  · cases h
theorem firstsR_len' (l acc : List LdS) : (firstsR l acc).length ≤ acc.length + l.length := by
  induction l generalizing acc with
  | nil => simp [firstsR]
  | cons x r ih =>
    simp only [firstsR]
    split
    · have := ih acc; simp; omega
    · have := ih (acc ++ [x]); simp at this ⊢; omega
/-- With few enough each that is the first of its name is in the table. -/
theorem names_all {l : List LdS} (h : l.length ≤ 64) (s : Str) : s ∈ namesS l ↔ s ∈ (firstsR l []).map (·.name) := by
  unfold namesS
  rw [List.take_of_length_le, mem_sortL stoS, firsts_names]
  refine Nat.le_trans (sortL_len _ _) ?_
  have := firstsR_len' l []
  rw [firsts_names, List.length_map]
  simp at this; omega
theorem in_table {l : List LdS} (h : l.length ≤ 64) {x : LdS} (hx : x ∈ firstsR l []) (hs : x.state = 1) : x ∈ tableS l := by
  rw [mem_table]
  refine ⟨?_, (names_all h _).2 (List.mem_map.2 ⟨x, hx, rfl⟩)⟩
  unfold firstsS
  refine List.mem_map.2 ⟨x, hx, ?_⟩
  unfold adjS
  rw [if_neg (by omega)]

/-- What a unit that is loaded says is there. -/
theorem own_said {l : List LdS} (h : l.length ≤ 64) {x : LdS} (hx : x ∈ firstsR l []) {r : RelS} (hr : r ∈ x.rels) (hn : (nodeOf (nodesS l) r.name).isSome = true) (hne : r.name ≠ x.name) (hk : 1 ≤ r.kind) (hk2 : r.kind ≤ 9) (hs : x.state = 1) :
    (outS (edgesS l) x.name r.kind).contains r.name = true := by
  rw [mem_out, mem_edges]
  refine ⟨x, in_table h hx hs, ?_⟩
  unfold ownS
  rw [if_pos hs]
  refine List.mem_append.2 (.inl ?_)
  unfold saidS
  refine List.mem_append.2 (.inl (List.mem_flatMap.2 ⟨r, hr, ?_⟩))
  rw [if_pos ⟨hk, hk2⟩, mem_put]
  exact ⟨⟨node_isSome.1 hn, fun e => hne e.symm⟩, rfl, rfl, by simp⟩
theorem edge_ends {l : List LdS} (h : l.length ≤ 64) {e : EdgeS} (he : e ∈ edgesS l) : e.src ∈ (firstsR l []).map (·.name) ∧ e.dst ∈ (firstsR l []).map (·.name) := by
  obtain ⟨x, hx, ho⟩ := mem_edges.1 he
  obtain ⟨_, h2, h3, _⟩ := own_src ho
  refine ⟨(names_all h _).1 ?_, (names_all h _).1 h3⟩
  rw [h2]
  exact (mem_table.1 hx).2
/-- An edge of one's own comes of oneself. -/
theorem out_own {l : List LdS} {x : LdS} (hx : x ∈ tableS l) {d : Str} {r : Int} : (outS (edgesS l) x.name r).contains d = true ↔ (⟨x.name, d, r⟩ : EdgeS) ∈ ownS (tableS l) x := by
  rw [mem_out, mem_edges]
  constructor
  · rintro ⟨y, hy, h⟩
    have h2 := (own_src h).2.1
    have : y = x := by
      have a := look_of hy
      have b := look_of hx
      simp only at h2
      rw [← h2, b] at a
      exact (Option.some.inj a).symm
    rw [this] at h; exact h
  · intro h; exact ⟨x, hx, h⟩
/-- The first of a name among rows where it stands once. -/
theorem first_once {l : List LdS} {x : LdS} (hx : x ∈ l) (hk : kindS x.name ≠ 0) (h1 : ∀ y ∈ l, y.name = x.name → y = x) : x ∈ firstsR l [] := by
  obtain ⟨a, b, c, d, e⟩ := firstsR_spec l [] (by simp) (by simp)
  obtain ⟨y, hy, he⟩ := List.mem_map.1 (e x hx hk)
  have := c y hy
  simp at this
  rw [← h1 y this he]; exact hy
theorem first_of {l : List LdS} {x : LdS} (hx : x ∈ l) (hk : kindS x.name ≠ 0) : ∃ y ∈ firstsR l [], y ∈ l ∧ y.name = x.name := by
  obtain ⟨a, b, c, d, e⟩ := firstsR_spec l [] (by simp) (by simp)
  obtain ⟨y, hy, he⟩ := List.mem_map.1 (e x hx hk)
  have := c y hy
  simp at this
  exact ⟨y, hy, this, he⟩

theorem kind_first : kindS sFirst = 4 := by decide +kernel
theorem kind_last : kindS sLast = 4 := by decide +kernel

/-- GraphDefault, where nothing comes by itself. -/
theorem default_no {l : List LdS} {x : LdS} (hx : x ∈ tableS l) (hs : x.state = 1) (hr : x.rels = []) (hk : x.socks = []) (hw : x.wants = []) (hq : x.reqs = []) (hu : wakesS x = [])
    (hd : x.dflt = false ∨ kindS x.name = 4) (d : Str) (r : Int) : (outS (edgesS l) x.name r).contains d = false := by
  rw [Bool.eq_false_iff]
  intro h
  rw [out_own hx] at h
  have e1 : saidS (tableS l) x = [] := by unfold saidS; rw [hr, hk, hw, hq, hu]; simp
  have e2 : gathersS (tableS l) x = [] := by unfold gathersS someS; rw [hr, hw, hq]; simp
  unfold ownS at h
  rw [if_pos hs, e1, List.nil_append] at h
  split at h
  · rename_i hdf
    rcases hd with hd | hd
    · rw [hd] at hdf; cases hdf
    · unfold standardS at h
      rw [if_pos hd, e2] at h; cases h
  · cases h
theorem wakes_no {x : LdS} (h : kindS x.name = 1 ∨ kindS x.name = 4) : wakesS x = [] := by
  unfold wakesS wakesU
  rw [if_neg (by omega)]
/-- GraphDefault, of one with default dependencies. -/
theorem default_yes {l : List LdS} {x : LdS} (hx : x ∈ tableS l) (hs : x.state = 1) (hd : x.dflt = true) (hk : kindS x.name ≠ 4) {r : Int} {d : Str} (hd2 : d = sFirst ∧ r = 8 ∨ d = sLast ∧ (r = 6 ∨ r = 7) ∨ kindS x.name = 1 ∧ d = sFirst ∧ r = 1) :
    (outS (edgesS l) x.name r).contains d = (nodeOf (nodesS l) d).isSome := by
  have hne : x.name ≠ d := by
    intro e
    rcases hd2 with ⟨h, _⟩ | ⟨h, _⟩ | ⟨_, h, _⟩
    · rw [e, h] at hk; exact hk kind_first
    · rw [e, h] at hk; exact hk kind_last
    · rw [e, h] at hk; exact hk kind_first
  rw [Bool.eq_iff_iff, out_own hx, node_isSome]
  constructor
  · intro h; exact (own_src h).2.2.1
  · intro hn
    unfold ownS
    rw [if_pos hs, if_pos hd]
    refine List.mem_append.2 (.inr ?_)
    unfold standardS
    rw [if_neg hk]
    simp only [List.mem_append]
    rcases hd2 with ⟨rfl, rfl⟩ | ⟨rfl, h⟩ | ⟨h, rfl, rfl⟩
    · exact .inr (.inl (mem_put.2 ⟨⟨hn, hne⟩, rfl, rfl, by simp⟩))
    · exact .inr (.inr (mem_put.2 ⟨⟨hn, hne⟩, rfl, rfl, by simpa using h⟩))
    · refine .inl ?_
      rw [if_pos h]
      exact mem_put.2 ⟨⟨hn, hne⟩, rfl, rfl, by simp⟩
/-- GraphWakes. -/
theorem wakes_there {l : List LdS} (hl : l.length ≤ 64) {y : LdS} (hy : y ∈ firstsR l []) (hs : y.state = 1) (hw : wakesS y ≠ []) (hne : wakesS y ≠ y.name) (hn : (nodeOf (nodesS l) (wakesS y)).isSome = true) {r : Int} (hr : r = 10 ∨ r = 7) :
    (outS (edgesS l) y.name r).contains (wakesS y) = true := by
  rw [out_own (in_table hl hy hs)]
  unfold ownS
  rw [if_pos hs]
  refine List.mem_append.2 (.inl ?_)
  unfold saidS
  simp only [List.mem_append]
  refine .inr (.inr (.inr (.inl ?_)))
  rw [if_pos hw]
  exact mem_put.2 ⟨⟨node_isSome.1 hn, fun e => hne e.symm⟩, rfl, rfl, by simpa using hr⟩
end Go.Proofs.YtcaamakodneplaaGreat

/-
  int's & with a small mask: a number from 0 to the mask, whatever the int.
-/
namespace Go.Proofs.YtcaamakodneplaaGreat
open Go
set_option linter.unusedVariables false

theorem mask_i64 (a : Int) (m : Nat) (hm : m < 9223372036854775808) : ∃ x : Nat, x ≤ m ∧ bits .and .i64 a (m : Int) = (x : Int) := by
  refine ⟨(BitVec.ofInt 64 a &&& BitVec.ofInt 64 (m : Int)).toNat, ?_, ?_⟩
  · rw [BitVec.toNat_and, ofInt_u64 m (by omega)]
    exact Nat.and_le_right
  · have h : (BitVec.ofInt 64 a &&& BitVec.ofInt 64 (m : Int)).toNat ≤ m := by
      rw [BitVec.toNat_and, ofInt_u64 m (by omega)]
      exact Nat.and_le_right
    show IntKind.i64.wrap ((BitVec.ofInt 64 a &&& BitVec.ofInt 64 (m : Int)).toNat : Int) = _
    exact IntWalk.i64_in _ (by omega)
end Go.Proofs.YtcaamakodneplaaGreat

/-
  What the walks of GraphOwn, GraphDefault, GraphWakes share.
-/
namespace Go.Proofs.YtcaamakodneplaaGreat
open Go Go.RowKit
set_option linter.unusedVariables false
set_option maxRecDepth 100000

theorem exec_load_mid {P : Program} {a : Act} {w : World} {o : Oper} (t : TypeId) (x : Operand) (b n : Nat) (part : Array Value) (d : TypeDesc) (ho : o.op = Op.load t x)
    (hx : a.eval x = .pointer (some ⟨b, n, none⟩)) (hp : ∀ j v, part[j]? = some v → w.cell? ⟨b, n + j, none⟩ = some v) (hd : P.underlying t = some d) (hr : d.isRow = true) (hi : (P.info? t).map (·.size) = some part.size) : (execOp a.eval o).run P w = .ok (.value (.agg part)) w := by
  have h := run_loadAt_mid (P := P) w b n t part.toList d (by
    intro j v hv
    exact hp j v (by simpa using hv)) hd hr (by simpa using hi)
  unfold execOp
  simp only [ho, hx, Sem.run_bind, h]
  rfl
theorem unitOf_some {cs : Array Value} (hs : cs.size = 42) {j : Nat} {v : Value} (h : (unitOf cs)[j]? = some v) : cs[5 + j]? = some v := by
  have hj : j < 35 := by
    have := (Array.getElem?_eq_some_iff.1 h).1
    rw [unitOf_size hs] at this
    exact this
  have := unitOf_get hs j hj
  rw [← this]; exact h
theorem l_load_at_w {P : Program} {w : World} {ops : Array Oper} {rest : List Oper} {o : Oper} {a : Act} {Q : Exit → Act → World → Prop} (hg : Region.wanted o (yielded ops a.tmps) = true) (t : TypeId) (x : Operand) (b n : Nat) (part : Array Value) (d : TypeDesc) (ho : o.op = Op.load t x)
    (hx : a.eval x = .pointer (some ⟨b, n, none⟩)) (hp : ∀ j v, part[j]? = some v → w.cell? ⟨b, n + j, none⟩ = some v) (hd : P.underlying t = some d) (hr : d.isRow = true) (hi : (P.info? t).map (·.size) = some part.size)
    (h : wpList P ops Q rest (a.put o.dst (.agg part)) w) : wpList P ops Q (o :: rest) a w := by
  refine wpList_step fun K hK => ?_
  rw [if_pos hg]
  refine wp_load_mid t x ho b n hx part.toList d ?_ hd hr (by simpa using hi) (by simpa using hK _ _ h)
  intro j v hv
  exact hp j v (by simpa using hv)
/-- Whom a unit begins, by its own word. -/
def wakU (x : LdS) : Str := wakesU x.ukind x.uname x.unit
theorem wakU_sound {x : LdS} (h : x.uname = x.name ∧ x.ukind = (kindS x.name : Int)) : wakU x = wakesS x := by
  unfold wakU wakesS
  rw [h.1, h.2]
theorem wakes_ld {w : World} {cs : Array Value} {x : LdS} (h : LdRd w cs x) (V : World) (hm : MaxAt V) :
    Calls Tryz.prog 26 #[.agg (unitOf cs)] V fun e w' => e = .returned (.string ⟨(wakU x).toArray⟩) ∧ Below V.heap.size V w' :=
  wakes_any (unitOf cs) x.uname x.unit x.ukind V hm ((unitOf_get h.size _ (by omega)).trans h.uname) ((unitOf_get h.size _ (by omega)).trans h.ukind) ((unitOf_get h.size _ (by omega)).trans h.unit) h.small.uname _ rfl
/-- Which relations edges that one adds have. -/
theorem own_rel {l : List LdS} {x : LdS} {e : EdgeS} (h : e ∈ ownS (tableS l) x) : 1 ≤ e.rel ∧ e.rel ≤ 10 := by
  unfold ownS at h
  split at h
  · have key : ∃ b rs, e ∈ putS (tableS l) x.name b rs ∧ ∀ r ∈ rs, 1 ≤ r ∧ r ≤ 10 := by
      rcases List.mem_append.1 h with h | h
      · unfold saidS at h
        simp only [List.mem_append, List.mem_flatMap] at h
        rcases h with ⟨r, _, h⟩ | ⟨r, _, h⟩ | ⟨r, _, h⟩ | h | h
        · split at h
          · rename_i hr; exact ⟨_, _, h, by intro q hq; simp at hq; omega⟩
          · cases h
        · exact ⟨_, _, h, by intro q hq; simp at hq; omega⟩
        · exact ⟨_, _, h, by intro q hq; simp at hq; omega⟩
        · split at h
          · exact ⟨_, _, h, by intro q hq; simp at hq; omega⟩
          · cases h
        · split at h
          · obtain ⟨r, _, h⟩ := List.mem_flatMap.1 h; exact ⟨_, _, h, by intro q hq; simp at hq; omega⟩
          · cases h
      · split at h
        · unfold standardS at h
          split at h
          · unfold gathersS at h
            obtain ⟨r, _, h⟩ := List.mem_flatMap.1 h
            split at h
            · cases h
            · exact ⟨_, _, h, by intro q hq; simp at hq; omega⟩
          · simp only [List.mem_append] at h
            rcases h with h | h | h
            · split at h
              · exact ⟨_, _, h, by intro q hq; simp at hq; omega⟩
              · cases h
            · exact ⟨_, _, h, by intro q hq; simp at hq; omega⟩
            · exact ⟨_, _, h, by intro q hq; simp at hq; omega⟩
        · cases h
    obtain ⟨b, rs, hp, hr⟩ := key
    exact hr _ (mem_put.1 hp).2.2.2
  · cases h
theorem nodup_le {α : Type} [DecidableEq α] : ∀ (l m : List α), l.Nodup → (∀ x ∈ l, x ∈ m) → l.length ≤ m.length
  | [], m, _, _ => Nat.zero_le _
  | a :: r, m, hn, hs => by
    have ha := hs a (by simp)
    rw [List.nodup_cons] at hn
    have := nodup_le r (m.erase a) hn.2 (fun x hx => (List.mem_erase_of_ne (by rintro rfl; exact hn.1 hx)).2 (hs x (by simp [hx])))
    rw [List.length_erase_of_mem ha] at this
    have := List.length_pos_of_mem ha
    simp; omega
theorem edges_len (l : List LdS) : (edgesS l).length ≤ 40960 := by
  have hn : (edgesS l).Nodup := rises_nodup stoE (rises_sortL stoE _)
  have h64 : (namesS l).length ≤ 64 := by unfold namesS; rw [List.length_take]; omega
  have := nodup_le (edgesS l) ((namesS l).flatMap fun a => (namesS l).flatMap fun b => [1, 2, 3, 4, 5, 6, 7, 8, 9, 10].map fun r : Int => (⟨a, b, r⟩ : EdgeS)) hn (by
    intro e he
    obtain ⟨x, hx, ho⟩ := mem_edges.1 he
    have h1 := own_src ho
    have h2 := own_rel ho
    refine List.mem_flatMap.2 ⟨e.src, ?_, List.mem_flatMap.2 ⟨e.dst, h1.2.2.1, List.mem_map.2 ⟨e.rel, ?_, rfl⟩⟩⟩
    · rw [h1.2.1]; exact (mem_table.1 hx).2
    · simp; omega)
  refine Nat.le_trans this ?_
  refine Nat.le_trans (flatMap_len _ 640 _ fun a _ => ?_) ?_
  · refine Nat.le_trans (flatMap_len _ 10 _ fun b _ => by simp) ?_
    omega
  · omega
theorem nodeRes_some (q : Option NodeS) : ∃ x : NodeS, nodeRes q = .tuple #[.agg #[.string ⟨x.name.toArray⟩, .int .i64 x.kind, .int .i64 x.state], .bool q.isSome] := by
  cases q with
  | none => exact ⟨⟨[], 0, 0⟩, rfl⟩
  | some x => exact ⟨x, rfl⟩
theorem nodes_len (l : List LdS) : (nodesS l).length ≤ 64 := by
  unfold nodesS
  rw [List.length_map, ← List.length_map (f := LdS.name), table_names]
  unfold namesS; rw [List.length_take]; omega
end Go.Proofs.YtcaamakodneplaaGreat

/-
  matinslaw15: GraphWakes, walked.
-/
namespace Go.Proofs.YtcaamakodneplaaGreat
open Go Go.RowKit Go.Sort Go.BigFrame
set_option linter.unusedVariables false
set_option linter.unusedSimpArgs false
set_option maxRecDepth 100000

def okW (x y : LdS) : Bool := !(y.name == x.name && (y.state != x.state || wakU y != wakU x))
set_option maxHeartbeats 2000000 in
theorem wakes_walk (oa : Option Addr) (cap : Nat) (l : List LdS) (n : Int) (w : World) (hm : MaxAt w) (hR : LdsRd w oa l) (hl : l.length ≤ 1048576) :
    Calls Tryz.prog 8 #[.slice oa l.length cap, .int .i64 n] w fun e w' => e = .returned (.bool true) ∧ Below w.heap.size w w' := by
  have HM := Lib.hid hm; have HR := Lib.hid hR; have HL := Lib.hid hl
  clear hm hR hl
  go_enter Tryz.func8, Tryz.ntmps8
  go_wp2_with fail
  refine (shown_any w HM.out).mono ?_
  rintro e w1 ⟨rfl, hb1⟩
  have HB1 := Lib.hid hb1
  clear hb1
  go_wp2_with fail
  refine (sound_any oa cap l w1 (HR.out.below HB1.out) (by have := HL.out; omega) _ rfl).mono ?_
  rintro e w2 ⟨rfl, hb2⟩
  have HB2 := Lib.hid (HB1.out.trans (hb2.mono HB1.out.size))
  clear hb2 HB1
  have HC := Lib.hid (fun V (h : Below w2.heap.size w2 V) => show MaxAt V ∧ LdsRd V oa l from ⟨HM.out.below (HB2.out.trans (h.mono HB2.out.size)), HR.out.below (HB2.out.trans (h.mono HB2.out.size))⟩)
  clear HM HR
  cases hsb : soundB l with
  | false =>
    clear hsb
    go_wp2_with fail
    go_ret
    exact ⟨rfl, HB2.out⟩
  | true =>
    have HSB := Lib.hid (soundB_true hsb)
    clear hsb
    by_cases h64 : (64 : Int) < (l.length : Int)
    · go_wp2_with fail
      go_ret
      exact ⟨rfl, HB2.out⟩
    · have HL64 := Lib.hid (show l.length ≤ 64 by omega)
      by_cases h0 : l.length = 0
      · have q0 : ((l.length : Int) == 0) = true := by rw [beq_iff_eq]; omega
        have q1 : ¬ ((64 : Int) < (l.length : Int) ∧ ((l.length : Int) == 0) = false) := by rw [q0]; simp
        go_wp2_with fail
        go_ret
        exact ⟨rfl, HB2.out⟩
      · have q0 : ((l.length : Int) == 0) = false := by rw [beq_eq_false_iff_ne]; omega
        obtain ⟨m, hm0, hm⟩ := mask_i64 n 65535 (by omega)
        obtain ⟨k, hk, hkm⟩ : ∃ k : Nat, k < l.length ∧ (m : Int).tmod (l.length : Int) = (k : Int) := ⟨m % l.length, Nat.mod_lt _ (by omega), by rw [Int.tmod_eq_emod_of_nonneg (by omega)]; omega⟩
        obtain ⟨b, o, cs, rfl, hblt, hcc, hld⟩ := (HC.out w2 (Below.refl _ _)).2 k hk
        obtain ⟨x, hx⟩ : ∃ x, x = l[k] := ⟨_, rfl⟩
        rw [← hx] at hld
        have HXE := Lib.hid (show x ∈ l by rw [hx]; exact List.getElem_mem hk)
        have i5 : (k : Int) < (l.length : Int) := by omega
        have HCC := Lib.hid hcc
        have HLD := Lib.hid hld
        have HZ := Lib.hid (And.intro hld.size hld.one)
        change bits BinOp.and IntKind.i64 n 65535 = (m : Int) at hm
        clear hcc hld hx
        go_wp2_with (first
          | (refine l_load_at rfl 53 _ b (o + k * 42) cs _ rfl rfl HCC.out rfl rfl (by rw [HZ.out.1]; rfl) ?_)
          | (refine l_alloc rfl 53 loadedZero rfl (run_alloc_loaded _) ?_; intro w3 h3 hb3)
          | (refine l_store rfl 53 _ _ w2.heap.size cs loadedZero 53 rfl rfl rfl h3 (by rw [HZ.out.1]; rfl) (by rw [HZ.out.1]; rfl) HZ.out.2 ?_; intro w4 h4 hf4))
        have H44 := Lib.hid (show Below w2.heap.size w2 w4 from hb3.trans (hf4.below _ hb3.size (fun k hk e => by omega)))
        have HB4 := Lib.hid (show Below w.heap.size w w4 from HB2.out.trans (H44.out.mono HB2.out.size))
        have HC4 := Lib.hid (fun V (h : Below w4.heap.size w4 V) => show MaxAt V ∧ LdsRd V (some ⟨b, o, none⟩) l from HC.out V (H44.out.trans (h.mono H44.out.size)))
        have HXC := Lib.hid (fun V (h : Below w4.heap.size w4 V) => show ∀ j v, cs[j]? = some v → V.cell? ⟨w2.heap.size, j, none⟩ = some v from fun j v hj => by rw [h.cell (lt_heap h4), (rd h4).1 j]; exact hj)
        have HL4 := Lib.hid (HLD.out.below H44.out)
        generalize w2.heap.size = X at *
        clear h3 hb3 h4 hf4 HC HLD HCC H44 hm hkm hm0
        have HXF := Lib.hid (fun V (h : Below w4.heap.size w4 V) => show V.cell? ⟨X, 0, none⟩ = some (.string ⟨x.name.toArray⟩) ∧ V.cell? ⟨X, 1, none⟩ = some (.int .i64 x.state) from ⟨HXC.out V h 0 _ HL4.out.name, HXC.out V h 1 _ HL4.out.state⟩)
        go_loopg [37] (l.length + 1) (fun f i wr => ∃ j : Nat, j ≤ l.length ∧ i = .int .i64 j ∧ l.length - j < f ∧ Hid ((l.take j).all (okW x) = true) ∧ Hid (Below w4.heap.size w4 wr))
        case atStart => exact ⟨0, by omega, rfl, by omega, Lib.hid (by simp), Below.refl _ _⟩
        case round =>
          obtain ⟨j, hj, rfl, hfu, Hok, Hb⟩ := hrel
          by_cases hlt : j < l.length
          · obtain ⟨b2, o2, cy, e2, hblt2, hcc2, hld2⟩ := (HC4.out wr Hb.out).2 j hlt
            obtain ⟨rfl, rfl⟩ : b = b2 ∧ o = o2 := by simpa using e2
            obtain ⟨y, hy⟩ : ∃ y, y = l[j] := ⟨_, rfl⟩
            rw [← hy] at hld2
            have HYE := Lib.hid hy
            have i6 : (j : Int) < (l.length : Int) := by omega
            have HCY := Lib.hid hcc2
            have HLY := Lib.hid hld2
            have HZY := Lib.hid (And.intro hld2.size hld2.one)
            clear hcc2 hld2 hy e2
            go_wp2_with (first
              | (refine l_load_at rfl 53 _ b (o + j * 42) cy _ rfl rfl HCY.out rfl rfl (by rw [HZY.out.1]; rfl) ?_)
              | (refine l_alloc rfl 53 loadedZero rfl (run_alloc_loaded _) ?_; intro w5 h5 hb5)
              | (refine l_store rfl 53 _ _ wr.heap.size cy loadedZero 53 rfl rfl rfl h5 (by rw [HZY.out.1]; rfl) (by rw [HZY.out.1]; rfl) HZY.out.2 ?_; intro w6 h6 hf6))
            have H66 := Lib.hid (show Below wr.heap.size wr w6 from hb5.trans (hf6.below _ hb5.size (fun k hk e => by omega)))
            have HB6 := Lib.hid (show Below w4.heap.size w4 w6 from Hb.out.trans (H66.out.mono Hb.out.size))
            have HYC := Lib.hid (fun V (h : Below w6.heap.size w6 V) => show ∀ i v, cy[i]? = some v → V.cell? ⟨wr.heap.size, i, none⟩ = some v from fun i v hi => by rw [h.cell (lt_heap h6), (rd h6).1 i]; exact hi)
            have HLY6 := Lib.hid (HLY.out.below H66.out)
            generalize wr.heap.size = N at *
            clear h5 hb5 h6 hf6 HLY HCY H66 Hb
            have HQ := Lib.hid (fun V (h : Below w6.heap.size w6 V) => show (V.cell? ⟨N, 0, none⟩ = some (.string ⟨y.name.toArray⟩) ∧ V.cell? ⟨N, 1, none⟩ = some (.int .i64 y.state)) ∧ V.cell? ⟨X, 0, none⟩ = some (.string ⟨x.name.toArray⟩) ∧ V.cell? ⟨X, 1, none⟩ = some (.int .i64 x.state) from
              ⟨⟨HYC.out V h 0 _ HLY6.out.name, HYC.out V h 1 _ HLY6.out.state⟩, HXF.out V (HB6.out.trans (h.mono HB6.out.size))⟩)
            cases hnm : (y.name == x.name) with
            | false =>
              have HK := Lib.hid (show okW x y = true by unfold okW; simp [hnm])
              refine wp_region_held_drew (S := fun V => Below w6.heap.size w6 V) (by kernel_rfl) (below_dn ⟨1, rfl⟩) (fun hHeld => ?_)
              try simp only [Act.put, List.setIfInBounds_toArray, List.set_cons_zero, List.set_cons_succ]
              refine wpAnyH_take (i := 0) (v := .pointer (some ⟨N, 0, none⟩)) (List.getElem?_toArray.trans rfl) (by kernel_rfl) (by kernel_rfl) (by kernel_rfl) (fun _ _ _ h => h) (Or.inl ⟨by rfl, fun W hW => by obtain ⟨⟨q0, q1⟩, q2, q3⟩ := HQ.out W hW; clear hW; go_simp⟩) (by assumption) ?_
              try simp only [Act.put, List.setIfInBounds_toArray, List.set_cons_zero, List.set_cons_succ]
              refine wpAnyH_take (i := 1) (v := .string ⟨y.name.toArray⟩) (List.getElem?_toArray.trans rfl) (by kernel_rfl) (by kernel_rfl) (by kernel_rfl) (fun _ _ _ h => h) (Or.inl ⟨by rfl, fun W hW => by obtain ⟨⟨q0, q1⟩, q2, q3⟩ := HQ.out W hW; clear hW; go_simp⟩) (by assumption) ?_
              try simp only [Act.put, List.setIfInBounds_toArray, List.set_cons_zero, List.set_cons_succ]
              refine wpAnyH_take (i := 2) (v := .pointer (some ⟨X, 0, none⟩)) (List.getElem?_toArray.trans rfl) (by kernel_rfl) (by kernel_rfl) (by kernel_rfl) (fun _ _ _ h => h) (Or.inl ⟨by rfl, fun W hW => by obtain ⟨⟨q0, q1⟩, q2, q3⟩ := HQ.out W hW; clear hW; go_simp⟩) (by assumption) ?_
              try simp only [Act.put, List.setIfInBounds_toArray, List.set_cons_zero, List.set_cons_succ]
              refine wpAnyH_take (i := 3) (v := .string ⟨x.name.toArray⟩) (List.getElem?_toArray.trans rfl) (by kernel_rfl) (by kernel_rfl) (by kernel_rfl) (fun _ _ _ h => h) (Or.inl ⟨by rfl, fun W hW => by obtain ⟨⟨q0, q1⟩, q2, q3⟩ := HQ.out W hW; clear hW; go_simp⟩) (by assumption) ?_
              try simp only [Act.put, List.setIfInBounds_toArray, List.set_cons_zero, List.set_cons_succ]
              refine wpAnyH_take (i := 4) (v := .bool false) (List.getElem?_toArray.trans rfl) (by kernel_rfl) (by kernel_rfl) (by kernel_rfl) (fun _ _ _ h => h) (Or.inl ⟨by rfl, fun W hW => by obtain ⟨⟨q0, q1⟩, q2, q3⟩ := HQ.out W hW; clear hW; go_simp⟩) (by assumption) ?_
              try simp only [Act.put, List.setIfInBounds_toArray, List.set_cons_zero, List.set_cons_succ]
              refine wpAnyH_take (i := 5) (v := .bool false) (List.getElem?_toArray.trans rfl) (by kernel_rfl) (by kernel_rfl) (by kernel_rfl) (fun _ _ _ h => h) (Or.inl ⟨by rfl, fun W hW => by obtain ⟨⟨q0, q1⟩, q2, q3⟩ := HQ.out W hW; clear hW; go_simp⟩) (by assumption) ?_
              try simp only [Act.put, List.setIfInBounds_toArray, List.set_cons_zero, List.set_cons_succ]
              refine wpAnyH_take (i := 6) (v := undef) (List.getElem?_toArray.trans rfl) (by kernel_rfl) (by kernel_rfl) (by kernel_rfl) (fun _ _ _ h => h) (Or.inr ⟨by rfl, rfl⟩) (by assumption) ?_
              try simp only [Act.put, List.setIfInBounds_toArray, List.set_cons_zero, List.set_cons_succ]
              refine wpAnyH_take (i := 7) (v := undef) (List.getElem?_toArray.trans rfl) (by kernel_rfl) (by kernel_rfl) (by kernel_rfl) (fun _ _ _ h => h) (Or.inr ⟨by rfl, rfl⟩) (by assumption) ?_
              try simp only [Act.put, List.setIfInBounds_toArray, List.set_cons_zero, List.set_cons_succ]
              refine wpAnyH_take (i := 8) (v := undef) (List.getElem?_toArray.trans rfl) (by kernel_rfl) (by kernel_rfl) (by kernel_rfl) (fun _ _ _ h => h) (Or.inr ⟨by rfl, rfl⟩) (by assumption) ?_
              try simp only [Act.put, List.setIfInBounds_toArray, List.set_cons_zero, List.set_cons_succ]
              refine wpAnyH_take (i := 9) (v := undef) (List.getElem?_toArray.trans rfl) (by kernel_rfl) (by kernel_rfl) (by kernel_rfl) (fun _ _ _ h => h) (Or.inr ⟨by rfl, rfl⟩) (by assumption) ?_
              try simp only [Act.put, List.setIfInBounds_toArray, List.set_cons_zero, List.set_cons_succ]
              refine wpAnyH_take (i := 10) (v := undef) (List.getElem?_toArray.trans rfl) (by kernel_rfl) (by kernel_rfl) (by kernel_rfl) (fun _ _ _ h => h) (Or.inr ⟨by rfl, rfl⟩) (by assumption) ?_
              try simp only [Act.put, List.setIfInBounds_toArray, List.set_cons_zero, List.set_cons_succ]
              refine wpAnyH_take (i := 11) (v := undef) (List.getElem?_toArray.trans rfl) (by kernel_rfl) (by kernel_rfl) (by kernel_rfl) (fun _ _ _ h => h) (Or.inr ⟨by rfl, rfl⟩) (by assumption) ?_
              try simp only [Act.put, List.setIfInBounds_toArray, List.set_cons_zero, List.set_cons_succ]
              refine wpAnyH_take (i := 12) (v := undef) (List.getElem?_toArray.trans rfl) (by kernel_rfl) (by kernel_rfl) (by kernel_rfl) (fun _ _ _ h => h) (Or.inr ⟨by rfl, rfl⟩) (by assumption) ?_
              try simp only [Act.put, List.setIfInBounds_toArray, List.set_cons_zero, List.set_cons_succ]
              refine wpAnyH_take (i := 13) (v := undef) (List.getElem?_toArray.trans rfl) (by kernel_rfl) (by kernel_rfl) (by kernel_rfl) (fun _ _ _ h => h) (Or.inr ⟨by rfl, rfl⟩) (by assumption) ?_
              try simp only [Act.put, List.setIfInBounds_toArray, List.set_cons_zero, List.set_cons_succ]
              refine wpAnyH_take (i := 14) (v := undef) (List.getElem?_toArray.trans rfl) (by kernel_rfl) (by kernel_rfl) (by kernel_rfl) (fun _ _ _ h => h) (Or.inr ⟨by rfl, rfl⟩) (by assumption) ?_
              try simp only [Act.put, List.setIfInBounds_toArray, List.set_cons_zero, List.set_cons_succ]
              refine wpAnyH_take (i := 15) (v := undef) (List.getElem?_toArray.trans rfl) (by kernel_rfl) (by kernel_rfl) (by kernel_rfl) (fun _ _ _ h => h) (Or.inr ⟨by rfl, rfl⟩) (by assumption) ?_
              try simp only [Act.put, List.setIfInBounds_toArray, List.set_cons_zero, List.set_cons_succ]
              refine wpAnyH_take (i := 16) (v := undef) (List.getElem?_toArray.trans rfl) (by kernel_rfl) (by kernel_rfl) (by kernel_rfl) (fun _ _ _ h => h) (Or.inr ⟨by rfl, rfl⟩) (by assumption) ?_
              try simp only [Act.put, List.setIfInBounds_toArray, List.set_cons_zero, List.set_cons_succ]
              refine wpAnyH_take (i := 17) (v := undef) (List.getElem?_toArray.trans rfl) (by kernel_rfl) (by kernel_rfl) (by kernel_rfl) (fun _ _ _ h => h) (Or.inr ⟨by rfl, rfl⟩) (by assumption) ?_
              try simp only [Act.put, List.setIfInBounds_toArray, List.set_cons_zero, List.set_cons_succ]
              refine wpAnyH_take (i := 18) (v := undef) (List.getElem?_toArray.trans rfl) (by kernel_rfl) (by kernel_rfl) (by kernel_rfl) (fun _ _ _ h => h) (Or.inr ⟨by rfl, rfl⟩) (by assumption) ?_
              try simp only [Act.put, List.setIfInBounds_toArray, List.set_cons_zero, List.set_cons_succ]
              refine wpAnyH_take (i := 19) (v := undef) (List.getElem?_toArray.trans rfl) (by kernel_rfl) (by kernel_rfl) (by kernel_rfl) (fun _ _ _ h => h) (Or.inr ⟨by rfl, rfl⟩) (by assumption) ?_
              try simp only [Act.put, List.setIfInBounds_toArray, List.set_cons_zero, List.set_cons_succ]
              refine wpAnyH_take (i := 20) (v := .bool false) (List.getElem?_toArray.trans rfl) (by kernel_rfl) (by kernel_rfl) (by kernel_rfl) (fun _ _ _ h => h) (Or.inl ⟨by rfl, fun W hW => by clear hW; go_simp⟩) (by assumption) ?_
              try simp only [Act.put, List.setIfInBounds_toArray, List.set_cons_zero, List.set_cons_succ]
              refine wpAnyH_done (by kernel_rfl) ?_ _
              clear hHeld
              go_wp2_with fail
              go_roundg (gk - 1)
              case measure => omega
              case rel => exact ⟨j + 1, by omega, by go_num, by omega, Lib.hid (take_all_snoc (okW x) l j hlt Hok.out (by rw [← HYE.out]; exact HK.out)), HB6.out.trans ((below_dn ⟨1, rfl⟩ : Below w6.heap.size w6 w6.drew).mono HB6.out.size)⟩
            | true =>
              cases hst : (y.state == x.state) with
              | false =>
                have hst2 : (y.state != x.state) = true := by simp [bne, hst]
                refine wp_region_held_drew (S := fun V => Below w6.heap.size w6 V) (by kernel_rfl) (below_dn ⟨1, rfl⟩) (fun hHeld => ?_)
                try simp only [Act.put, List.setIfInBounds_toArray, List.set_cons_zero, List.set_cons_succ]
                refine wpAnyH_take (i := 0) (v := .pointer (some ⟨N, 0, none⟩)) (List.getElem?_toArray.trans rfl) (by kernel_rfl) (by kernel_rfl) (by kernel_rfl) (fun _ _ _ h => h) (Or.inl ⟨by rfl, fun W hW => by obtain ⟨⟨q0, q1⟩, q2, q3⟩ := HQ.out W hW; clear hW; go_simp⟩) (by assumption) ?_
                try simp only [Act.put, List.setIfInBounds_toArray, List.set_cons_zero, List.set_cons_succ]
                refine wpAnyH_take (i := 1) (v := .string ⟨y.name.toArray⟩) (List.getElem?_toArray.trans rfl) (by kernel_rfl) (by kernel_rfl) (by kernel_rfl) (fun _ _ _ h => h) (Or.inl ⟨by rfl, fun W hW => by obtain ⟨⟨q0, q1⟩, q2, q3⟩ := HQ.out W hW; clear hW; go_simp⟩) (by assumption) ?_
                try simp only [Act.put, List.setIfInBounds_toArray, List.set_cons_zero, List.set_cons_succ]
                refine wpAnyH_take (i := 2) (v := .pointer (some ⟨X, 0, none⟩)) (List.getElem?_toArray.trans rfl) (by kernel_rfl) (by kernel_rfl) (by kernel_rfl) (fun _ _ _ h => h) (Or.inl ⟨by rfl, fun W hW => by obtain ⟨⟨q0, q1⟩, q2, q3⟩ := HQ.out W hW; clear hW; go_simp⟩) (by assumption) ?_
                try simp only [Act.put, List.setIfInBounds_toArray, List.set_cons_zero, List.set_cons_succ]
                refine wpAnyH_take (i := 3) (v := .string ⟨x.name.toArray⟩) (List.getElem?_toArray.trans rfl) (by kernel_rfl) (by kernel_rfl) (by kernel_rfl) (fun _ _ _ h => h) (Or.inl ⟨by rfl, fun W hW => by obtain ⟨⟨q0, q1⟩, q2, q3⟩ := HQ.out W hW; clear hW; go_simp⟩) (by assumption) ?_
                try simp only [Act.put, List.setIfInBounds_toArray, List.set_cons_zero, List.set_cons_succ]
                refine wpAnyH_take (i := 4) (v := .bool true) (List.getElem?_toArray.trans rfl) (by kernel_rfl) (by kernel_rfl) (by kernel_rfl) (fun _ _ _ h => h) (Or.inl ⟨by rfl, fun W hW => by obtain ⟨⟨q0, q1⟩, q2, q3⟩ := HQ.out W hW; clear hW; go_simp⟩) (by assumption) ?_
                try simp only [Act.put, List.setIfInBounds_toArray, List.set_cons_zero, List.set_cons_succ]
                refine wpAnyH_take (i := 5) (v := .bool true) (List.getElem?_toArray.trans rfl) (by kernel_rfl) (by kernel_rfl) (by kernel_rfl) (fun _ _ _ h => h) (Or.inl ⟨by rfl, fun W hW => by obtain ⟨⟨q0, q1⟩, q2, q3⟩ := HQ.out W hW; clear hW; go_simp⟩) (by assumption) ?_
                try simp only [Act.put, List.setIfInBounds_toArray, List.set_cons_zero, List.set_cons_succ]
                refine wpAnyH_take (i := 6) (v := .pointer (some ⟨N, 1, none⟩)) (List.getElem?_toArray.trans rfl) (by kernel_rfl) (by kernel_rfl) (by kernel_rfl) (fun _ _ _ h => h) (Or.inl ⟨by rfl, fun W hW => by obtain ⟨⟨q0, q1⟩, q2, q3⟩ := HQ.out W hW; clear hW; go_simp⟩) (by assumption) ?_
                try simp only [Act.put, List.setIfInBounds_toArray, List.set_cons_zero, List.set_cons_succ]
                refine wpAnyH_take (i := 7) (v := .int .i64 y.state) (List.getElem?_toArray.trans rfl) (by kernel_rfl) (by kernel_rfl) (by kernel_rfl) (fun _ _ _ h => h) (Or.inl ⟨by rfl, fun W hW => by obtain ⟨⟨q0, q1⟩, q2, q3⟩ := HQ.out W hW; clear hW; go_simp⟩) (by assumption) ?_
                try simp only [Act.put, List.setIfInBounds_toArray, List.set_cons_zero, List.set_cons_succ]
                refine wpAnyH_take (i := 8) (v := .pointer (some ⟨X, 1, none⟩)) (List.getElem?_toArray.trans rfl) (by kernel_rfl) (by kernel_rfl) (by kernel_rfl) (fun _ _ _ h => h) (Or.inl ⟨by rfl, fun W hW => by obtain ⟨⟨q0, q1⟩, q2, q3⟩ := HQ.out W hW; clear hW; go_simp⟩) (by assumption) ?_
                try simp only [Act.put, List.setIfInBounds_toArray, List.set_cons_zero, List.set_cons_succ]
                refine wpAnyH_take (i := 9) (v := .int .i64 x.state) (List.getElem?_toArray.trans rfl) (by kernel_rfl) (by kernel_rfl) (by kernel_rfl) (fun _ _ _ h => h) (Or.inl ⟨by rfl, fun W hW => by obtain ⟨⟨q0, q1⟩, q2, q3⟩ := HQ.out W hW; clear hW; go_simp⟩) (by assumption) ?_
                try simp only [Act.put, List.setIfInBounds_toArray, List.set_cons_zero, List.set_cons_succ]
                refine wpAnyH_take (i := 10) (v := .bool true) (List.getElem?_toArray.trans rfl) (by kernel_rfl) (by kernel_rfl) (by kernel_rfl) (fun _ _ _ h => h) (Or.inl ⟨by rfl, fun W hW => by obtain ⟨⟨q0, q1⟩, q2, q3⟩ := HQ.out W hW; clear hW; go_simp⟩) (by assumption) ?_
                try simp only [Act.put, List.setIfInBounds_toArray, List.set_cons_zero, List.set_cons_succ]
                refine wpAnyH_take (i := 11) (v := .bool true) (List.getElem?_toArray.trans rfl) (by kernel_rfl) (by kernel_rfl) (by kernel_rfl) (fun _ _ _ h => h) (Or.inl ⟨by rfl, fun W hW => by obtain ⟨⟨q0, q1⟩, q2, q3⟩ := HQ.out W hW; clear hW; go_simp⟩) (by assumption) ?_
                try simp only [Act.put, List.setIfInBounds_toArray, List.set_cons_zero, List.set_cons_succ]
                refine wpAnyH_take (i := 12) (v := undef) (List.getElem?_toArray.trans rfl) (by kernel_rfl) (by kernel_rfl) (by kernel_rfl) (fun _ _ _ h => h) (Or.inr ⟨by rfl, rfl⟩) (by assumption) ?_
                try simp only [Act.put, List.setIfInBounds_toArray, List.set_cons_zero, List.set_cons_succ]
                refine wpAnyH_take (i := 13) (v := undef) (List.getElem?_toArray.trans rfl) (by kernel_rfl) (by kernel_rfl) (by kernel_rfl) (fun _ _ _ h => h) (Or.inr ⟨by rfl, rfl⟩) (by assumption) ?_
                try simp only [Act.put, List.setIfInBounds_toArray, List.set_cons_zero, List.set_cons_succ]
                refine wpAnyH_take (i := 14) (v := undef) (List.getElem?_toArray.trans rfl) (by kernel_rfl) (by kernel_rfl) (by kernel_rfl) (fun _ _ _ h => h) (Or.inr ⟨by rfl, rfl⟩) (by assumption) ?_
                try simp only [Act.put, List.setIfInBounds_toArray, List.set_cons_zero, List.set_cons_succ]
                refine wpAnyH_take (i := 15) (v := undef) (List.getElem?_toArray.trans rfl) (by kernel_rfl) (by kernel_rfl) (by kernel_rfl) (fun _ _ _ h => h) (Or.inr ⟨by rfl, rfl⟩) (by assumption) ?_
                try simp only [Act.put, List.setIfInBounds_toArray, List.set_cons_zero, List.set_cons_succ]
                refine wpAnyH_take (i := 16) (v := undef) (List.getElem?_toArray.trans rfl) (by kernel_rfl) (by kernel_rfl) (by kernel_rfl) (fun _ _ _ h => h) (Or.inr ⟨by rfl, rfl⟩) (by assumption) ?_
                try simp only [Act.put, List.setIfInBounds_toArray, List.set_cons_zero, List.set_cons_succ]
                refine wpAnyH_take (i := 17) (v := undef) (List.getElem?_toArray.trans rfl) (by kernel_rfl) (by kernel_rfl) (by kernel_rfl) (fun _ _ _ h => h) (Or.inr ⟨by rfl, rfl⟩) (by assumption) ?_
                try simp only [Act.put, List.setIfInBounds_toArray, List.set_cons_zero, List.set_cons_succ]
                refine wpAnyH_take (i := 18) (v := undef) (List.getElem?_toArray.trans rfl) (by kernel_rfl) (by kernel_rfl) (by kernel_rfl) (fun _ _ _ h => h) (Or.inr ⟨by rfl, rfl⟩) (by assumption) ?_
                try simp only [Act.put, List.setIfInBounds_toArray, List.set_cons_zero, List.set_cons_succ]
                refine wpAnyH_take (i := 19) (v := .bool true) (List.getElem?_toArray.trans rfl) (by kernel_rfl) (by kernel_rfl) (by kernel_rfl) (fun _ _ _ h => h) (Or.inl ⟨by rfl, fun W hW => by clear hW; go_simp⟩) (by assumption) ?_
                try simp only [Act.put, List.setIfInBounds_toArray, List.set_cons_zero, List.set_cons_succ]
                refine wpAnyH_take (i := 20) (v := .bool true) (List.getElem?_toArray.trans rfl) (by kernel_rfl) (by kernel_rfl) (by kernel_rfl) (fun _ _ _ h => h) (Or.inl ⟨by rfl, fun W hW => by clear hW; go_simp⟩) (by assumption) ?_
                try simp only [Act.put, List.setIfInBounds_toArray, List.set_cons_zero, List.set_cons_succ]
                refine wpAnyH_done (by kernel_rfl) ?_ _
                clear hHeld
                go_wp2_with fail
                go_ret
                exact ⟨rfl, HB4.out.trans ((HB6.out.trans ((below_dn ⟨1, rfl⟩ : Below w6.heap.size w6 w6.drew).mono HB6.out.size)).mono HB4.out.size)⟩
              | true =>
                have hst2 : (y.state != x.state) = false := by simp [bne, hst]
                cases hwk : (wakU y == wakU x) with
                | false =>
                  have hwk2 : (wakU y != wakU x) = true := by simp [bne, hwk]
                  refine wp_region_held_drew (S := fun V => Below w6.heap.size w6 V) (by kernel_rfl) (below_dn ⟨1, rfl⟩) (fun hHeld => ?_)
                  try simp only [Act.put, List.setIfInBounds_toArray, List.set_cons_zero, List.set_cons_succ]
                  refine wpAnyH_take (i := 0) (v := .pointer (some ⟨N, 0, none⟩)) (List.getElem?_toArray.trans rfl) (by kernel_rfl) (by kernel_rfl) (by kernel_rfl) (fun _ _ _ h => h) (Or.inl ⟨by rfl, fun W hW => by obtain ⟨⟨q0, q1⟩, q2, q3⟩ := HQ.out W hW; clear hW; go_simp⟩) (by assumption) ?_
                  try simp only [Act.put, List.setIfInBounds_toArray, List.set_cons_zero, List.set_cons_succ]
                  refine wpAnyH_take (i := 1) (v := .string ⟨y.name.toArray⟩) (List.getElem?_toArray.trans rfl) (by kernel_rfl) (by kernel_rfl) (by kernel_rfl) (fun _ _ _ h => h) (Or.inl ⟨by rfl, fun W hW => by obtain ⟨⟨q0, q1⟩, q2, q3⟩ := HQ.out W hW; clear hW; go_simp⟩) (by assumption) ?_
                  try simp only [Act.put, List.setIfInBounds_toArray, List.set_cons_zero, List.set_cons_succ]
                  refine wpAnyH_take (i := 2) (v := .pointer (some ⟨X, 0, none⟩)) (List.getElem?_toArray.trans rfl) (by kernel_rfl) (by kernel_rfl) (by kernel_rfl) (fun _ _ _ h => h) (Or.inl ⟨by rfl, fun W hW => by obtain ⟨⟨q0, q1⟩, q2, q3⟩ := HQ.out W hW; clear hW; go_simp⟩) (by assumption) ?_
                  try simp only [Act.put, List.setIfInBounds_toArray, List.set_cons_zero, List.set_cons_succ]
                  refine wpAnyH_take (i := 3) (v := .string ⟨x.name.toArray⟩) (List.getElem?_toArray.trans rfl) (by kernel_rfl) (by kernel_rfl) (by kernel_rfl) (fun _ _ _ h => h) (Or.inl ⟨by rfl, fun W hW => by obtain ⟨⟨q0, q1⟩, q2, q3⟩ := HQ.out W hW; clear hW; go_simp⟩) (by assumption) ?_
                  try simp only [Act.put, List.setIfInBounds_toArray, List.set_cons_zero, List.set_cons_succ]
                  refine wpAnyH_take (i := 4) (v := .bool true) (List.getElem?_toArray.trans rfl) (by kernel_rfl) (by kernel_rfl) (by kernel_rfl) (fun _ _ _ h => h) (Or.inl ⟨by rfl, fun W hW => by obtain ⟨⟨q0, q1⟩, q2, q3⟩ := HQ.out W hW; clear hW; go_simp⟩) (by assumption) ?_
                  try simp only [Act.put, List.setIfInBounds_toArray, List.set_cons_zero, List.set_cons_succ]
                  refine wpAnyH_take (i := 5) (v := .bool true) (List.getElem?_toArray.trans rfl) (by kernel_rfl) (by kernel_rfl) (by kernel_rfl) (fun _ _ _ h => h) (Or.inl ⟨by rfl, fun W hW => by obtain ⟨⟨q0, q1⟩, q2, q3⟩ := HQ.out W hW; clear hW; go_simp⟩) (by assumption) ?_
                  try simp only [Act.put, List.setIfInBounds_toArray, List.set_cons_zero, List.set_cons_succ]
                  refine wpAnyH_take (i := 6) (v := .pointer (some ⟨N, 1, none⟩)) (List.getElem?_toArray.trans rfl) (by kernel_rfl) (by kernel_rfl) (by kernel_rfl) (fun _ _ _ h => h) (Or.inl ⟨by rfl, fun W hW => by obtain ⟨⟨q0, q1⟩, q2, q3⟩ := HQ.out W hW; clear hW; go_simp⟩) (by assumption) ?_
                  try simp only [Act.put, List.setIfInBounds_toArray, List.set_cons_zero, List.set_cons_succ]
                  refine wpAnyH_take (i := 7) (v := .int .i64 y.state) (List.getElem?_toArray.trans rfl) (by kernel_rfl) (by kernel_rfl) (by kernel_rfl) (fun _ _ _ h => h) (Or.inl ⟨by rfl, fun W hW => by obtain ⟨⟨q0, q1⟩, q2, q3⟩ := HQ.out W hW; clear hW; go_simp⟩) (by assumption) ?_
                  try simp only [Act.put, List.setIfInBounds_toArray, List.set_cons_zero, List.set_cons_succ]
                  refine wpAnyH_take (i := 8) (v := .pointer (some ⟨X, 1, none⟩)) (List.getElem?_toArray.trans rfl) (by kernel_rfl) (by kernel_rfl) (by kernel_rfl) (fun _ _ _ h => h) (Or.inl ⟨by rfl, fun W hW => by obtain ⟨⟨q0, q1⟩, q2, q3⟩ := HQ.out W hW; clear hW; go_simp⟩) (by assumption) ?_
                  try simp only [Act.put, List.setIfInBounds_toArray, List.set_cons_zero, List.set_cons_succ]
                  refine wpAnyH_take (i := 9) (v := .int .i64 x.state) (List.getElem?_toArray.trans rfl) (by kernel_rfl) (by kernel_rfl) (by kernel_rfl) (fun _ _ _ h => h) (Or.inl ⟨by rfl, fun W hW => by obtain ⟨⟨q0, q1⟩, q2, q3⟩ := HQ.out W hW; clear hW; go_simp⟩) (by assumption) ?_
                  try simp only [Act.put, List.setIfInBounds_toArray, List.set_cons_zero, List.set_cons_succ]
                  refine wpAnyH_take (i := 10) (v := .bool false) (List.getElem?_toArray.trans rfl) (by kernel_rfl) (by kernel_rfl) (by kernel_rfl) (fun _ _ _ h => h) (Or.inl ⟨by rfl, fun W hW => by obtain ⟨⟨q0, q1⟩, q2, q3⟩ := HQ.out W hW; clear hW; go_simp⟩) (by assumption) ?_
                  try simp only [Act.put, List.setIfInBounds_toArray, List.set_cons_zero, List.set_cons_succ]
                  refine wpAnyH_take (i := 11) (v := .bool false) (List.getElem?_toArray.trans rfl) (by kernel_rfl) (by kernel_rfl) (by kernel_rfl) (fun _ _ _ h => h) (Or.inl ⟨by rfl, fun W hW => by obtain ⟨⟨q0, q1⟩, q2, q3⟩ := HQ.out W hW; clear hW; go_simp⟩) (by assumption) ?_
                  try simp only [Act.put, List.setIfInBounds_toArray, List.set_cons_zero, List.set_cons_succ]
                  refine wpAnyH_take (i := 12) (v := .pointer (some ⟨N, 5, none⟩)) (List.getElem?_toArray.trans rfl) (by kernel_rfl) (by kernel_rfl) (by kernel_rfl) (fun _ _ _ h => h) (Or.inl ⟨by rfl, fun W hW => by obtain ⟨⟨q0, q1⟩, q2, q3⟩ := HQ.out W hW; clear hW; go_simp⟩) (by assumption) ?_
                  try simp only [Act.put, List.setIfInBounds_toArray, List.set_cons_zero, List.set_cons_succ]
                  refine wpAnyH_take (i := 13) (v := .agg (unitOf cy)) (List.getElem?_toArray.trans rfl) (by kernel_rfl) (by kernel_rfl) (by kernel_rfl) (fun _ _ _ h => h) (Or.inl ⟨by rfl, fun V hV => exec_load_mid 51 _ N 5 (unitOf cy) _ rfl rfl (fun i v hv => HYC.out V hV _ _ (unitOf_some HZY.out.1 hv)) rfl rfl (by rw [unitOf_size HZY.out.1]; rfl)⟩) (by assumption) ?_
                  try simp only [Act.put, List.setIfInBounds_toArray, List.set_cons_zero, List.set_cons_succ]
                  refine wpAnyH_take (i := 15) (v := .pointer (some ⟨X, 5, none⟩)) (List.getElem?_toArray.trans rfl) (by kernel_rfl) (by kernel_rfl) (by kernel_rfl) (fun _ _ _ h => h) (Or.inl ⟨by rfl, fun W hW => by obtain ⟨⟨q0, q1⟩, q2, q3⟩ := HQ.out W hW; clear hW; go_simp⟩) (by assumption) ?_
                  try simp only [Act.put, List.setIfInBounds_toArray, List.set_cons_zero, List.set_cons_succ]
                  refine wpAnyH_take (i := 16) (v := .agg (unitOf cs)) (List.getElem?_toArray.trans rfl) (by kernel_rfl) (by kernel_rfl) (by kernel_rfl) (fun _ _ _ h => h) (Or.inl ⟨by rfl, fun V hV => exec_load_mid 51 _ X 5 (unitOf cs) _ rfl rfl (fun i v hv => HXC.out V (HB6.out.trans (hV.mono HB6.out.size)) _ _ (unitOf_some HZ.out.1 hv)) rfl rfl (by rw [unitOf_size HZ.out.1]; rfl)⟩) (by assumption) ?_
                  try simp only [Act.put, List.setIfInBounds_toArray, List.set_cons_zero, List.set_cons_succ]
                  have hv1 := hHeld
                  refine wpAnyH_ready (rs := [14]) (by kernel_rfl) (by simp) (AllReadyH.cons (List.getElem?_toArray.trans rfl) (fun K hK => ?_) (AllReadyH.nil))
                  clear hHeld
                  rw [if_pos (by rfl)]
                  go_simp
                  refine (wakes_ld HLY6.out _ (HC4.out _ (HB6.out.trans (hv1.mono HB6.out.size))).1).mono ?_
                  rintro e v1 ⟨rfl, hbi⟩
                  have HV1 := Lib.hid (hv1.trans (hbi.mono hv1.size))
                  clear hbi
                  refine hK.out _ _ HV1.out (fun hHeld => ?_)
                  clear hK K
                  try simp only [Act.put, List.setIfInBounds_toArray, List.set_cons_zero, List.set_cons_succ]
                  refine wpAnyH_ready (rs := [17]) (by kernel_rfl) (by simp) (AllReadyH.cons (List.getElem?_toArray.trans rfl) (fun K hK => ?_) (AllReadyH.nil))
                  clear hHeld
                  rw [if_pos (by rfl)]
                  go_simp
                  refine (wakes_ld HL4.out v1 (HC4.out _ (HB6.out.trans (HV1.out.mono HB6.out.size))).1).mono ?_
                  rintro e v2 ⟨rfl, hbi⟩
                  have HV2 := Lib.hid (HV1.out.trans (hbi.mono HV1.out.size))
                  clear hbi
                  refine hK.out _ _ HV2.out (fun hHeld => ?_)
                  clear hK K
                  try simp only [Act.put, List.setIfInBounds_toArray, List.set_cons_zero, List.set_cons_succ]
                  refine wpAnyH_take (i := 18) (v := .bool true) (List.getElem?_toArray.trans rfl) (by kernel_rfl) (by kernel_rfl) (by kernel_rfl) (fun _ _ _ h => h) (Or.inl ⟨by rfl, fun W hW => by clear hW; go_simp⟩) (by assumption) ?_
                  try simp only [Act.put, List.setIfInBounds_toArray, List.set_cons_zero, List.set_cons_succ]
                  refine wpAnyH_take (i := 19) (v := .bool true) (List.getElem?_toArray.trans rfl) (by kernel_rfl) (by kernel_rfl) (by kernel_rfl) (fun _ _ _ h => h) (Or.inl ⟨by rfl, fun W hW => by clear hW; go_simp⟩) (by assumption) ?_
                  try simp only [Act.put, List.setIfInBounds_toArray, List.set_cons_zero, List.set_cons_succ]
                  refine wpAnyH_take (i := 20) (v := .bool true) (List.getElem?_toArray.trans rfl) (by kernel_rfl) (by kernel_rfl) (by kernel_rfl) (fun _ _ _ h => h) (Or.inl ⟨by rfl, fun W hW => by clear hW; go_simp⟩) (by assumption) ?_
                  try simp only [Act.put, List.setIfInBounds_toArray, List.set_cons_zero, List.set_cons_succ]
                  refine wpAnyH_done (by kernel_rfl) ?_ _
                  clear hHeld
                  go_wp2_with fail
                  go_ret
                  exact ⟨rfl, HB4.out.trans ((HB6.out.trans (HV2.out.mono HB6.out.size)).mono HB4.out.size)⟩
                | true =>
                  have hwk2 : (wakU y != wakU x) = false := by simp [bne, hwk]
                  have HK := Lib.hid (show okW x y = true by unfold okW; simp [bne, hnm, hst, hwk])
                  refine wp_region_held_drew (S := fun V => Below w6.heap.size w6 V) (by kernel_rfl) (below_dn ⟨1, rfl⟩) (fun hHeld => ?_)
                  try simp only [Act.put, List.setIfInBounds_toArray, List.set_cons_zero, List.set_cons_succ]
                  refine wpAnyH_take (i := 0) (v := .pointer (some ⟨N, 0, none⟩)) (List.getElem?_toArray.trans rfl) (by kernel_rfl) (by kernel_rfl) (by kernel_rfl) (fun _ _ _ h => h) (Or.inl ⟨by rfl, fun W hW => by obtain ⟨⟨q0, q1⟩, q2, q3⟩ := HQ.out W hW; clear hW; go_simp⟩) (by assumption) ?_
                  try simp only [Act.put, List.setIfInBounds_toArray, List.set_cons_zero, List.set_cons_succ]
                  refine wpAnyH_take (i := 1) (v := .string ⟨y.name.toArray⟩) (List.getElem?_toArray.trans rfl) (by kernel_rfl) (by kernel_rfl) (by kernel_rfl) (fun _ _ _ h => h) (Or.inl ⟨by rfl, fun W hW => by obtain ⟨⟨q0, q1⟩, q2, q3⟩ := HQ.out W hW; clear hW; go_simp⟩) (by assumption) ?_
                  try simp only [Act.put, List.setIfInBounds_toArray, List.set_cons_zero, List.set_cons_succ]
                  refine wpAnyH_take (i := 2) (v := .pointer (some ⟨X, 0, none⟩)) (List.getElem?_toArray.trans rfl) (by kernel_rfl) (by kernel_rfl) (by kernel_rfl) (fun _ _ _ h => h) (Or.inl ⟨by rfl, fun W hW => by obtain ⟨⟨q0, q1⟩, q2, q3⟩ := HQ.out W hW; clear hW; go_simp⟩) (by assumption) ?_
                  try simp only [Act.put, List.setIfInBounds_toArray, List.set_cons_zero, List.set_cons_succ]
                  refine wpAnyH_take (i := 3) (v := .string ⟨x.name.toArray⟩) (List.getElem?_toArray.trans rfl) (by kernel_rfl) (by kernel_rfl) (by kernel_rfl) (fun _ _ _ h => h) (Or.inl ⟨by rfl, fun W hW => by obtain ⟨⟨q0, q1⟩, q2, q3⟩ := HQ.out W hW; clear hW; go_simp⟩) (by assumption) ?_
                  try simp only [Act.put, List.setIfInBounds_toArray, List.set_cons_zero, List.set_cons_succ]
                  refine wpAnyH_take (i := 4) (v := .bool true) (List.getElem?_toArray.trans rfl) (by kernel_rfl) (by kernel_rfl) (by kernel_rfl) (fun _ _ _ h => h) (Or.inl ⟨by rfl, fun W hW => by obtain ⟨⟨q0, q1⟩, q2, q3⟩ := HQ.out W hW; clear hW; go_simp⟩) (by assumption) ?_
                  try simp only [Act.put, List.setIfInBounds_toArray, List.set_cons_zero, List.set_cons_succ]
                  refine wpAnyH_take (i := 5) (v := .bool true) (List.getElem?_toArray.trans rfl) (by kernel_rfl) (by kernel_rfl) (by kernel_rfl) (fun _ _ _ h => h) (Or.inl ⟨by rfl, fun W hW => by obtain ⟨⟨q0, q1⟩, q2, q3⟩ := HQ.out W hW; clear hW; go_simp⟩) (by assumption) ?_
                  try simp only [Act.put, List.setIfInBounds_toArray, List.set_cons_zero, List.set_cons_succ]
                  refine wpAnyH_take (i := 6) (v := .pointer (some ⟨N, 1, none⟩)) (List.getElem?_toArray.trans rfl) (by kernel_rfl) (by kernel_rfl) (by kernel_rfl) (fun _ _ _ h => h) (Or.inl ⟨by rfl, fun W hW => by obtain ⟨⟨q0, q1⟩, q2, q3⟩ := HQ.out W hW; clear hW; go_simp⟩) (by assumption) ?_
                  try simp only [Act.put, List.setIfInBounds_toArray, List.set_cons_zero, List.set_cons_succ]
                  refine wpAnyH_take (i := 7) (v := .int .i64 y.state) (List.getElem?_toArray.trans rfl) (by kernel_rfl) (by kernel_rfl) (by kernel_rfl) (fun _ _ _ h => h) (Or.inl ⟨by rfl, fun W hW => by obtain ⟨⟨q0, q1⟩, q2, q3⟩ := HQ.out W hW; clear hW; go_simp⟩) (by assumption) ?_
                  try simp only [Act.put, List.setIfInBounds_toArray, List.set_cons_zero, List.set_cons_succ]
                  refine wpAnyH_take (i := 8) (v := .pointer (some ⟨X, 1, none⟩)) (List.getElem?_toArray.trans rfl) (by kernel_rfl) (by kernel_rfl) (by kernel_rfl) (fun _ _ _ h => h) (Or.inl ⟨by rfl, fun W hW => by obtain ⟨⟨q0, q1⟩, q2, q3⟩ := HQ.out W hW; clear hW; go_simp⟩) (by assumption) ?_
                  try simp only [Act.put, List.setIfInBounds_toArray, List.set_cons_zero, List.set_cons_succ]
                  refine wpAnyH_take (i := 9) (v := .int .i64 x.state) (List.getElem?_toArray.trans rfl) (by kernel_rfl) (by kernel_rfl) (by kernel_rfl) (fun _ _ _ h => h) (Or.inl ⟨by rfl, fun W hW => by obtain ⟨⟨q0, q1⟩, q2, q3⟩ := HQ.out W hW; clear hW; go_simp⟩) (by assumption) ?_
                  try simp only [Act.put, List.setIfInBounds_toArray, List.set_cons_zero, List.set_cons_succ]
                  refine wpAnyH_take (i := 10) (v := .bool false) (List.getElem?_toArray.trans rfl) (by kernel_rfl) (by kernel_rfl) (by kernel_rfl) (fun _ _ _ h => h) (Or.inl ⟨by rfl, fun W hW => by obtain ⟨⟨q0, q1⟩, q2, q3⟩ := HQ.out W hW; clear hW; go_simp⟩) (by assumption) ?_
                  try simp only [Act.put, List.setIfInBounds_toArray, List.set_cons_zero, List.set_cons_succ]
                  refine wpAnyH_take (i := 11) (v := .bool false) (List.getElem?_toArray.trans rfl) (by kernel_rfl) (by kernel_rfl) (by kernel_rfl) (fun _ _ _ h => h) (Or.inl ⟨by rfl, fun W hW => by obtain ⟨⟨q0, q1⟩, q2, q3⟩ := HQ.out W hW; clear hW; go_simp⟩) (by assumption) ?_
                  try simp only [Act.put, List.setIfInBounds_toArray, List.set_cons_zero, List.set_cons_succ]
                  refine wpAnyH_take (i := 12) (v := .pointer (some ⟨N, 5, none⟩)) (List.getElem?_toArray.trans rfl) (by kernel_rfl) (by kernel_rfl) (by kernel_rfl) (fun _ _ _ h => h) (Or.inl ⟨by rfl, fun W hW => by obtain ⟨⟨q0, q1⟩, q2, q3⟩ := HQ.out W hW; clear hW; go_simp⟩) (by assumption) ?_
                  try simp only [Act.put, List.setIfInBounds_toArray, List.set_cons_zero, List.set_cons_succ]
                  refine wpAnyH_take (i := 13) (v := .agg (unitOf cy)) (List.getElem?_toArray.trans rfl) (by kernel_rfl) (by kernel_rfl) (by kernel_rfl) (fun _ _ _ h => h) (Or.inl ⟨by rfl, fun V hV => exec_load_mid 51 _ N 5 (unitOf cy) _ rfl rfl (fun i v hv => HYC.out V hV _ _ (unitOf_some HZY.out.1 hv)) rfl rfl (by rw [unitOf_size HZY.out.1]; rfl)⟩) (by assumption) ?_
                  try simp only [Act.put, List.setIfInBounds_toArray, List.set_cons_zero, List.set_cons_succ]
                  refine wpAnyH_take (i := 15) (v := .pointer (some ⟨X, 5, none⟩)) (List.getElem?_toArray.trans rfl) (by kernel_rfl) (by kernel_rfl) (by kernel_rfl) (fun _ _ _ h => h) (Or.inl ⟨by rfl, fun W hW => by obtain ⟨⟨q0, q1⟩, q2, q3⟩ := HQ.out W hW; clear hW; go_simp⟩) (by assumption) ?_
                  try simp only [Act.put, List.setIfInBounds_toArray, List.set_cons_zero, List.set_cons_succ]
                  refine wpAnyH_take (i := 16) (v := .agg (unitOf cs)) (List.getElem?_toArray.trans rfl) (by kernel_rfl) (by kernel_rfl) (by kernel_rfl) (fun _ _ _ h => h) (Or.inl ⟨by rfl, fun V hV => exec_load_mid 51 _ X 5 (unitOf cs) _ rfl rfl (fun i v hv => HXC.out V (HB6.out.trans (hV.mono HB6.out.size)) _ _ (unitOf_some HZ.out.1 hv)) rfl rfl (by rw [unitOf_size HZ.out.1]; rfl)⟩) (by assumption) ?_
                  try simp only [Act.put, List.setIfInBounds_toArray, List.set_cons_zero, List.set_cons_succ]
                  have hv1 := hHeld
                  refine wpAnyH_ready (rs := [14]) (by kernel_rfl) (by simp) (AllReadyH.cons (List.getElem?_toArray.trans rfl) (fun K hK => ?_) (AllReadyH.nil))
                  clear hHeld
                  rw [if_pos (by rfl)]
                  go_simp
                  refine (wakes_ld HLY6.out _ (HC4.out _ (HB6.out.trans (hv1.mono HB6.out.size))).1).mono ?_
                  rintro e v1 ⟨rfl, hbi⟩
                  have HV1 := Lib.hid (hv1.trans (hbi.mono hv1.size))
                  clear hbi
                  refine hK.out _ _ HV1.out (fun hHeld => ?_)
                  clear hK K
                  try simp only [Act.put, List.setIfInBounds_toArray, List.set_cons_zero, List.set_cons_succ]
                  refine wpAnyH_ready (rs := [17]) (by kernel_rfl) (by simp) (AllReadyH.cons (List.getElem?_toArray.trans rfl) (fun K hK => ?_) (AllReadyH.nil))
                  clear hHeld
                  rw [if_pos (by rfl)]
                  go_simp
                  refine (wakes_ld HL4.out v1 (HC4.out _ (HB6.out.trans (HV1.out.mono HB6.out.size))).1).mono ?_
                  rintro e v2 ⟨rfl, hbi⟩
                  have HV2 := Lib.hid (HV1.out.trans (hbi.mono HV1.out.size))
                  clear hbi
                  refine hK.out _ _ HV2.out (fun hHeld => ?_)
                  clear hK K
                  try simp only [Act.put, List.setIfInBounds_toArray, List.set_cons_zero, List.set_cons_succ]
                  refine wpAnyH_take (i := 18) (v := .bool false) (List.getElem?_toArray.trans rfl) (by kernel_rfl) (by kernel_rfl) (by kernel_rfl) (fun _ _ _ h => h) (Or.inl ⟨by rfl, fun W hW => by clear hW; go_simp⟩) (by assumption) ?_
                  try simp only [Act.put, List.setIfInBounds_toArray, List.set_cons_zero, List.set_cons_succ]
                  refine wpAnyH_take (i := 19) (v := .bool false) (List.getElem?_toArray.trans rfl) (by kernel_rfl) (by kernel_rfl) (by kernel_rfl) (fun _ _ _ h => h) (Or.inl ⟨by rfl, fun W hW => by clear hW; go_simp⟩) (by assumption) ?_
                  try simp only [Act.put, List.setIfInBounds_toArray, List.set_cons_zero, List.set_cons_succ]
                  refine wpAnyH_take (i := 20) (v := .bool false) (List.getElem?_toArray.trans rfl) (by kernel_rfl) (by kernel_rfl) (by kernel_rfl) (fun _ _ _ h => h) (Or.inl ⟨by rfl, fun W hW => by clear hW; go_simp⟩) (by assumption) ?_
                  try simp only [Act.put, List.setIfInBounds_toArray, List.set_cons_zero, List.set_cons_succ]
                  refine wpAnyH_done (by kernel_rfl) ?_ _
                  clear hHeld
                  go_wp2_with fail
                  go_roundg (gk - 1)
                  case measure => omega
                  case rel => exact ⟨j + 1, by omega, by go_num, by omega, Lib.hid (take_all_snoc (okW x) l j hlt Hok.out (by rw [← HYE.out]; exact HK.out)), HB6.out.trans (HV2.out.mono HB6.out.size)⟩
          · have hj2 : j = l.length := by omega
            subst hj2
            have HOK := Lib.hid (show l.all (okW x) = true by have := Hok.out; rw [List.take_of_length_le (Nat.le_refl _)] at this; exact this)
            clear Hok hfu
            go_wp2_with fail
            refine (gof_any _ cap l wr (HC4.out wr Hb.out).2 (by have := HL64.out; omega) (HC4.out wr Hb.out).1).mono ?_
            rintro e wg ⟨vn, ve, rfl, hn, he, hbg⟩
            obtain ⟨on, cn, rfl⟩ := ownsRow_form hn
            obtain ⟨oe, ce, rfl⟩ := ownsRow_form he
            have HN := Lib.hid (RowRd.of_own (enc := encN) (k := 3) (fun _ => rfl) hn)
            have HE := Lib.hid (RowRd.of_own (enc := encE) (k := 3) (fun _ => rfl) he)
            have HBG := Lib.hid (Hb.out.trans (hbg.mono Hb.out.size))
            have HLE := Lib.hid (edges_len l)
            have HLN := Lib.hid (nodes_len l)
            clear hn he hbg Hb
            obtain ⟨ns, hns⟩ : ∃ ns, ns = nodesS l := ⟨_, rfl⟩
            obtain ⟨es, hes⟩ : ∃ es, es = edgesS l := ⟨_, rfl⟩
            rw [← hns] at HN HLN
            rw [← hes] at HE HLE
            simp only [← hns, ← hes]
            have HNS := Lib.hid hns; have HES := Lib.hid hes
            clear hns hes
            go_wp2_with (refine l_load_at rfl 51 _ X 5 (unitOf cs) _ rfl rfl (fun i v hv => HXC.out _ (HBG.out.alloc (Nat.le_trans HBG.out.size (Nat.le_refl _)) _) _ _ (unitOf_some HZ.out.1 hv)) rfl rfl (by rw [unitOf_size HZ.out.1]; rfl) ?_)
            have HG := Lib.hid (heap_alloc_new wg (.cells #[.slice on ns.length cn, .slice oe es.length ce] 29))
            have hbb := (Below.refl wg.heap.size wg).alloc (Nat.le_refl _) (.cells #[.slice on ns.length cn, .slice oe es.length ce] 29)
            generalize wg.alloc (.cells #[.slice on ns.length cn, .slice oe es.length ce] 29) = wb at *
            have HBB := Lib.hid (HBG.out.trans (hbb.mono HBG.out.size))
            have HRR := Lib.hid (fun V (h : Below wb.heap.size wb V) => show RowRd encN 3 V on ns ∧ RowRd encE 3 V oe es from ⟨(HN.out.below hbb).below h, (HE.out.below hbb).below h⟩)
            generalize wg.heap.size = G at *
            clear hbb HN HE HBG
            refine (wakes_ld HL4.out wb (HC4.out _ HBB.out).1).mono ?_
            rintro e wk ⟨rfl, hbk⟩
            have HBK := Lib.hid hbk
            have HGK := Lib.hid (heap_below HG.out hbk)
            have HB5 := Lib.hid (HBB.out.trans (hbk.mono HBB.out.size))
            obtain ⟨wt, hwt⟩ : ∃ t, t = wakU x := ⟨_, rfl⟩
            rw [← hwt]
            have HWT := Lib.hid hwt
            clear hbk hwt HG
            obtain ⟨g0, g1⟩ := cells2 HGK.out
            go_wp2_with fail
            obtain ⟨nx, hnx⟩ := nodeRes_some (nodeOf ns wt)
            refine (node_any on cn ns _ rfl ⟨wt.toArray⟩ wk (HRR.out wk HBK.out).1 (by have := HLN.out; omega) _ rfl).mono ?_
            rintro e wn ⟨rfl, hbn⟩
            rw [show nodeRes (nodeOf ns (⟨wt.toArray⟩ : ByteArray).data.toList) = _ from hnx]
            have HNX := Lib.hid hnx
            clear g0 g1 hnx
            have HBN := Lib.hid (HBK.out.trans (hbn.mono HBK.out.size))
            have HB6 := Lib.hid (HB5.out.trans (hbn.mono HB5.out.size))
            have HGN := Lib.hid (heap_below HGK.out hbn)
            obtain ⟨q1, q2⟩ := HXF.out (wn.alloc (.cells #[.string ⟨nx.name.toArray⟩, .int .i64 nx.kind, .int .i64 nx.state] 32)) (HB6.out.alloc HB6.out.size _)
            obtain ⟨a0, a1⟩ := cells2_alloc HGN.out (.cells #[.string ⟨nx.name.toArray⟩, .int .i64 nx.kind, .int .i64 nx.state] 32)
            have HBZ := Lib.hid (show Below w.heap.size w (wn.alloc (.cells #[.string ⟨nx.name.toArray⟩, .int .i64 nx.kind, .int .i64 nx.state] 32)) from HB4.out.trans ((HB6.out.alloc HB6.out.size _).mono HB4.out.size))
            have HBX := Lib.hid (show Below wb.heap.size wb (wn.alloc (.cells #[.string ⟨nx.name.toArray⟩, .int .i64 nx.kind, .int .i64 nx.state] 32)) from HBN.out.alloc HBN.out.size _)
            clear hbn HGK
            cases hs1 : (x.state != 1) with
            | true =>
              go_wp2_with fail
              go_ret
              exact ⟨rfl, HBZ.out⟩
            | false =>
              cases hs2 : List.isEmpty wt with
              | true =>
                go_wp2_with fail
                go_ret
                exact ⟨rfl, HBZ.out⟩
              | false =>
                cases hs3 : (wt == x.name) with
                | true =>
                  go_wp2_with fail
                  go_ret
                  exact ⟨rfl, HBZ.out⟩
                | false =>
                  cases hs4 : (nodeOf ns wt).isSome with
                  | false =>
                    rw [hs4] at HNX
                    go_wp2_with fail
                    go_ret
                    exact ⟨rfl, HBZ.out⟩
                  | true =>
                    go_wp2_with fail
                    have HGZ := Lib.hid (heap_below HGN.out ((Below.refl wn.heap.size wn).alloc (Nat.le_refl _) (.cells #[.string ⟨nx.name.toArray⟩, .int .i64 nx.kind, .int .i64 nx.state] 32)))
                    have HBY := Lib.hid (show Below w4.heap.size w4 (wn.alloc (.cells #[.string ⟨nx.name.toArray⟩, .int .i64 nx.kind, .int .i64 nx.state] 32)) from HB6.out.alloc HB6.out.size _)
                    clear q1 q2 a0 a1
                    generalize wn.alloc (.cells #[.string ⟨nx.name.toArray⟩, .int .i64 nx.kind, .int .i64 nx.state] 32) = wz at *
                    refine (of_any ⟨x.name.toArray⟩ wz (ofS x.name) rfl).mono ?_
                    rintro e wo ⟨rfl, hbo⟩
                    simp only [ofS_kind]
                    have hfc := field_cut (.int .i64 (kindS x.name : Nat)) (.string ⟨(ofS x.name).pre.toArray⟩) (.string ⟨(ofS x.name).inst.toArray⟩) (.bool (ofS x.name).at_) rfl
                    have HB7 := Lib.hid (HBX.out.trans (hbo.mono HBX.out.size))
                    have HB8 := Lib.hid (HBY.out.trans (hbo.mono HBY.out.size))
                    have HBW := Lib.hid (HBZ.out.trans (hbo.mono HBZ.out.size))
                    have HGO := Lib.hid (heap_below HGZ.out hbo)
                    clear hbo HGZ HBX HBY HBZ
                    cases hs5 : ((kindS x.name : Int) == 0) with
                    | true =>
                      go_wp2_with fail
                      go_ret
                      exact ⟨rfl, HBW.out⟩
                    | false =>
                      have hfin : ∀ r : Int, r = 10 ∨ r = 7 → (outS es x.name r).contains wt = true := by
                        have hs := HSB.out.1
                        have hx1 : x.state = 1 := by simpa [bne] using hs1
                        have hk0 : kindS x.name ≠ 0 := by intro e; rw [e] at hs5; cases hs5
                        have hww := wakU_sound (hs x HXE.out hx1)
                        obtain ⟨y, hy1, hy2, hy3⟩ := first_of HXE.out hk0
                        have hok := (List.all_eq_true.1 HOK.out) y hy2
                        unfold okW at hok
                        simp [hy3] at hok
                        obtain ⟨ho1, ho2⟩ := hok
                        have hwy := wakU_sound (hs y hy2 (ho1.trans hx1))
                        have e1 : wt = wakesS y := by rw [HWT.out, ← ho2, hwy]
                        intro r hr
                        rw [HES.out, ← hy3, e1]
                        refine wakes_there HL64.out hy1 (ho1.trans hx1) ?_ ?_ ?_ hr
                        · rw [← e1]; intro e; rw [e] at hs2; cases hs2
                        · rw [← e1, hy3]; simpa using hs3
                        · rw [← e1, ← HNS.out]; exact hs4
                      have HF1 := Lib.hid (hfin 10 (.inl rfl)); have HF2 := Lib.hid (hfin 7 (.inr rfl))
                      clear hfin
                      obtain ⟨q1, q2⟩ := HXF.out wo HB8.out
                      obtain ⟨g0, g1⟩ := cells2 HGO.out
                      go_wp2_with fail
                      refine (gout_txt oe ce es _ ⟨x.name.toArray⟩ 10 wo (HRR.out wo HB7.out).2 (by have := HLE.out; omega)).mono ?_
                      rintro e wp ⟨oa, ca, rfl, hr, hbp⟩
                      have HRO := Lib.hid hr
                      have HGP := Lib.hid (heap_below HGO.out hbp)
                      have HB9 := Lib.hid (HB7.out.trans (hbp.mono HB7.out.size))
                      have HB10 := Lib.hid (HB8.out.trans (hbp.mono HB8.out.size))
                      have HBV := Lib.hid (HBW.out.trans (hbp.mono HBW.out.size))
                      clear hr hbp q1 q2 g0 g1 HGO
                      obtain ⟨q1, q2⟩ := HXF.out wp HB10.out
                      obtain ⟨g0, g1⟩ := cells2 HGP.out
                      go_wp2_with fail
                      refine (has7_any oa _ ca (outS es x.name 10) ⟨wt.toArray⟩ wp HRO.out rfl (by have := out_le es x.name 10; have := HLE.out; omega) true HF1.out).mono ?_
                      rintro e wq ⟨rfl, hwq⟩
                      subst hwq
                      go_wp2_with fail
                      refine (gout_txt oe ce es _ ⟨x.name.toArray⟩ 7 wp (HRR.out wp HB9.out).2 (by have := HLE.out; omega)).mono ?_
                      rintro e wq ⟨oq, cq, rfl, hr, hbq⟩
                      have HRQ := Lib.hid hr
                      have HBU := Lib.hid (HBV.out.trans (hbq.mono HBV.out.size))
                      clear hr hbq q1 q2 g0 g1
                      go_wp2_with fail
                      refine (has7_any oq _ cq (outS es x.name 7) ⟨wt.toArray⟩ wq HRQ.out rfl (by have := out_le es x.name 7; have := HLE.out; omega) true HF2.out).mono ?_
                      rintro e wv ⟨rfl, hwv⟩
                      subst hwv
                      go_wp2_with fail
                      go_ret
                      exact ⟨rfl, HBU.out⟩
end Go.Proofs.YtcaamakodneplaaGreat
