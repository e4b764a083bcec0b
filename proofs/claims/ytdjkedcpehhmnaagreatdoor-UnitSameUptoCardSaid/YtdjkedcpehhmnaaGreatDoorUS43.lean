import Derived.Deep.Slices
import Derived.Deep.Fields
import Derived.ChangeSame
import Derived.Lib.SmallJoins
import Derived.Test.YtdjkedcpehhmnaaGreatDoorUS2
import Derived.Test.YtdjkedcpehhmnaaGreatDoorUS42
namespace Go.Proofs.YtdjkedcpehhmnaaGreatDoor
open Go Go.RowKit Go.ChangeShapes Go.WideShapes Go.Deep
set_option linter.unusedVariables false
set_option maxRecDepth 100000
theorem list_of {α : Type} (P : Nat → α → Prop) : ∀ (n : Nat), (∀ i, i < n → ∃ x, P i x) → ∃ l : List α, l.length = n ∧ ∀ i (h : i < l.length), P i l[i]
 | 0, _ => ⟨[], rfl, fun i h => absurd h (by simp)⟩
 | n + 1, h => by
  obtain ⟨l, hl, hP⟩ := list_of P n (fun i hi => h i (by omega))
  obtain ⟨x, hx⟩ := h n (by omega)
  refine ⟨l ++ [x], by simp [hl], fun i hi => ?_⟩
  by_cases e : i < l.length
  ·rw [List.getElem_append_left e]; exact hP i e
  ·simp at hi
   have : i = l.length := by omega
   subst this
   rw [List.getElem_concat_length rfl, hl]
   exact hx
theorem add_none {b o : Nat} {sp : Option Nat} {w : World} {v : Value} (h : w.cell? ((⟨b, o, sp⟩ : Addr).add 0) = some v) : sp = none := by
 have e : (⟨b, o, sp⟩ : Addr).add 0 = ⟨b, o, sp⟩ := rfl
 rw [e] at h
 cases sp with
 | none => rfl
 | some x => simp [World.cell?] at h; split at h <;> simp at h
theorem add_off (b o k : Nat) : (⟨b, o, none⟩ : Addr).add k = ⟨b, o + k, none⟩ := by unfold Addr.add; split <;> simp_all
theorem open_rows {H α : Type} {enc : TypeId × Value → H} {W : World} {t e : TypeId} {k : Nat} (R : α → List Value → Prop) (bulk : α → Nat) (ht : Tryz.prog.underlying t = some (.slice e)) (hk : Tryz.prog.cellsOf e = k) (h0 : 0 < k)
  (hel : ∀ (cs : List Value) (D : DataW H) (Pl : List MemPlace) (n : Nat), cs.length = k → DataW.trod enc Tryz.prog W 0 (fun _ => true) true n e cs = some (D, Pl) → ∃ x, R x cs ∧ bulk x ≤ Rows.uptoBulk D)
  {fuel : Nat} {c : Value} {y : DataW H × List MemPlace} (h : DataW.trod enc Tryz.prog W 0 (fun _ => true) true fuel t [c] = some y) :
  ∃ oa cap l, c = .slice oa (List.length l) cap ∧ l.length ≤ cap ∧ (∀ i (hi : i < l.length), ∃ b o cs, oa = some ⟨b, o, none⟩ ∧ b < W.heap.size ∧ List.length cs = k ∧ (∀ j v, cs[j]? = some v → W.cell? ⟨b, o + i * k + j, none⟩ = some v) ∧ R l[i] cs) ∧
   (∀ x ∈ l, bulk x < Rows.uptoBulk y.1) ∧ l.length < Rows.uptoBulk y.1 := by
 rcases open_slice ht h with ⟨hcs, rfl⟩ | ⟨a, len, cap, m, n, D, Pl, hcs, _, hl, hm, hmm, rfl, hi⟩
 ·simp at hcs
  subst hcs
  exact ⟨none, 0, [], rfl, Nat.zero_le _, fun i hi => absurd hi (by simp), by simp, by simp [Rows.uptoBulk]⟩
 ·simp at hcs
  subst hcs
  simp only [if_true] at hmm
  subst hmm
  rw [hk] at hi
  obtain ⟨b, o, sp⟩ := a
  obtain ⟨l, hll, hP⟩ := list_of (fun i (x : α) => (∃ cs, sp = none ∧ b < W.heap.size ∧ List.length cs = k ∧ (∀ j v, cs[j]? = some v → W.cell? ⟨b, o + i * k + j, none⟩ = some v) ∧ R x cs) ∧ bulk x ≤ Rows.uptoBulk (D i)) len (by
   intro i him
   obtain ⟨cs', hc, ht'⟩ := hi i (by omega)
   obtain ⟨_, hcl, hat⟩ := World.cells?_some hc
   have hsp : sp = none := by
    obtain ⟨cs0, hc0, ht0⟩ := hi 0 (by omega)
    obtain ⟨_, hcl0, hat0⟩ := World.cells?_some hc0
    have h1 := hat0 0 h0
    have : cs0[0]? = some (cs0[0]'(by omega)) := List.getElem?_eq_getElem (by omega)
    rw [this, Nat.zero_mul] at h1
    exact add_none (w := W) h1
   subst hsp
   obtain ⟨x, hR, hb⟩ := hel cs' (D i) (Pl i) n hcl ht'
   have hcell : ∀ j v, cs'[j]? = some v → W.cell? ⟨b, o + i * k + j, none⟩ = some v := by
    intro j v hj
    have hjl : j < k := by have := (List.getElem?_eq_some_iff.1 hj).1; omega
    have h1 := hat j hjl
    rw [add_off, add_off] at h1
    rw [h1, hj]
   refine ⟨x, ⟨cs', rfl, ?_, hcl, hcell, hR⟩, hb⟩
   exact World.block_lt_of_cell? W _ (hcell 0 _ (List.getElem?_eq_getElem (by omega))))
  subst hll
  have hbk : ∀ i (hi : i < l.length), Rows.uptoBulk (D i) ≤ Rows.uptoBulkAll ((List.range l.length).map D) := fun i hi => bulk_part (List.mem_map.2 ⟨i, List.mem_range.2 hi, rfl⟩)
  refine ⟨some ⟨b, o, sp⟩, m, l, rfl, hl, ?_, ?_, ?_⟩
  ·intro i him
   obtain ⟨⟨cs, rfl, h1, h2, h3, h4⟩, _⟩ := hP i him
   exact ⟨b, o, cs, rfl, h1, h2, h3, h4⟩
  ·intro x hx
   obtain ⟨i, hi2, rfl⟩ := List.getElem_of_mem hx
   have h1 := (hP i hi2).2
   have h2 := hbk i hi2
   simp only [Rows.uptoBulk]
   omega
  ·have := bulk_len ((List.range l.length).map D)
   simp only [List.length_map, List.length_range] at this
   simp only [Rows.uptoBulk]
   omega
set_option linter.unusedSimpArgs false
def UC.small : UC → Prop
 | .s x => x.length ≤ 1048576
 | .ss l => l.length ≤ 1048576 ∧ ∀ x ∈ l, List.length x ≤ 1048576
 | .ns l => l.length ≤ 1048576
 | .rs l => l.length ≤ 1048576 ∧ ∀ x ∈ l, x.2.length ≤ 1048576
 | .ps l => l.length ≤ 1048576 ∧ ∀ x ∈ l, x.1.length ≤ 1048576 ∧ x.2.length ≤ 1048576
 | .cs l => l.length ≤ 1048576 ∧ ∀ x ∈ l, x.2.length ≤ 1048576 ∧ ∀ y ∈ x.2, List.length y ≤ 1048576
 | _ => True
section
variable {H : Type} {enc : TypeId × Value → H} {P : Program} {W : World} {base : Nat} {spare : Nat → Bool} {held : Bool}
theorem open_flat2U {t : TypeId} {f0 f1 : Field} (hs : P.underlying t = some (.struct #[f0, f1])) (hone : oneCellFields P #[f0, f1] = true) {n : Nat} {cs : List Value} {x : DataW H × List MemPlace} (hl : cs.length = 2)
  (h : DataW.trod enc P W base spare held n t cs = some x) :
  ∃ c0 c1 y0 y1 m, cs = [c0, c1] ∧ x.1 = .agg [y0.1, y1.1] ∧ DataW.trod enc P W base spare held m f0.type [c0] = some y0 ∧ DataW.trod enc P W base spare held m f1.type [c1] = some y1 := by
 obtain ⟨c0, c1, rfl⟩ : ∃ a b, cs = [a, b] := by
  match cs, hl with
  | [a, b], _ => exact ⟨a, b, rfl⟩
 obtain ⟨y0, y1, m, hx, _, h0, h1⟩ := trod_struct2 hs h
 obtain ⟨o0, k0⟩ := hone_of hone 0 f0 rfl
 obtain ⟨o1, k1⟩ := hone_of hone 1 f1 rfl
 exact ⟨c0, c1, y0, y1, m, rfl, by rw [hx], by simpa [o0, k0] using h0, by simpa [o1, k1] using h1⟩
end
section
variable {H : Type} {enc : TypeId × Value → H} {W : World}
theorem see_s {fuel : Nat} {c : Value} {y : DataW H × List MemPlace} (hk : Rows.uptoBulk y.1 ≤ 1048576) (h : DataW.trod enc Tryz.prog W 0 (fun _ => true) true fuel 9 [c] = some y) : ∃ u : UC, u.tag = 0 ∧ UcSee W u c ∧ u.small := by
 obtain ⟨s, e, x, _⟩ := DataW.trod_string Tryz.underlying9 h
 injection e with e
 subst e
 rw [x] at hk
 simp only [Rows.uptoBulk] at hk
 exact ⟨.s s.data.toList, rfl, rfl, by show s.data.toList.length ≤ _; omega⟩
theorem see_n {fuel : Nat} {c : Value} {y : DataW H × List MemPlace} (h : DataW.trod enc Tryz.prog W 0 (fun _ => true) true fuel 3 [c] = some y) : ∃ u : UC, u.tag = 1 ∧ UcSee W u c ∧ u.small := by
 obtain ⟨n, e, x, _⟩ := DataW.trod_int Tryz.underlying3 h
 injection e with e
 subst e
 exact ⟨.n n, rfl, rfl, trivial⟩
theorem see_b {fuel : Nat} {c : Value} {y : DataW H × List MemPlace} (h : DataW.trod enc Tryz.prog W 0 (fun _ => true) true fuel 4 [c] = some y) : ∃ u : UC, u.tag = 2 ∧ UcSee W u c ∧ u.small := by
 obtain ⟨b, e, x⟩ := DataW.trod_bool Tryz.underlying4 h
 injection e with e
 subst e
 exact ⟨.b b, rfl, rfl, trivial⟩
theorem open_txtsU {fuel : Nat} {c : Value} {y : DataW H × List MemPlace} (h : DataW.trod enc Tryz.prog W 0 (fun _ => true) true fuel 28 [c] = some y) :
  ∃ oa cap l, c = .slice oa (List.length l) cap ∧ StrRow W oa l ∧ (∀ x ∈ l, List.length x < Rows.uptoBulk y.1) ∧ l.length < Rows.uptoBulk y.1 := by
 obtain ⟨oa, cap, l, h1, _, h3, h4, h5⟩ := open_rows (fun (x : Str) cs => cs = [.string ⟨x.toArray⟩]) (fun x => x.length) Tryz.underlying28 (k := 1) (by kernel_rfl) (by omega) (fun cs D Pl n hl ht => by
  obtain ⟨c0, rfl⟩ : ∃ a, cs = [a] := by
   match cs, hl with
   | [a], _ => exact ⟨a, rfl⟩
  obtain ⟨s, e, x, _⟩ := DataW.trod_string Tryz.underlying9 ht
  simp only [Prod.mk.injEq] at x
  obtain ⟨rfl, -⟩ := x
  exact ⟨s.data.toList, e, by simp [Rows.uptoBulk]⟩) h
 refine ⟨oa, cap, l, h1, fun i hi => ?_, h4, h5⟩
 obtain ⟨b, o, cs, e, hlt, hl, hc, rfl⟩ := h3 i hi
 refine ⟨b, o, e, ?_⟩
 have := hc 0 _ rfl
 simpa using this
theorem see_ss {fuel : Nat} {c : Value} {y : DataW H × List MemPlace} (hk : Rows.uptoBulk y.1 ≤ 1048576) (h : DataW.trod enc Tryz.prog W 0 (fun _ => true) true fuel 28 [c] = some y) : ∃ u : UC, u.tag = 3 ∧ UcSee W u c ∧ u.small := by
 obtain ⟨oa, cap, l, h1, h2, h3, h4⟩ := open_txtsU h
 exact ⟨.ss l, rfl, ⟨oa, cap, h1, h2, by unfold maxLen; omega⟩, by omega, fun x hx => by have := h3 x hx; omega⟩
theorem see_ns {fuel : Nat} {c : Value} {y : DataW H × List MemPlace} (hk : Rows.uptoBulk y.1 ≤ 1048576) (h : DataW.trod enc Tryz.prog W 0 (fun _ => true) true fuel 26 [c] = some y) : ∃ u : UC, u.tag = 4 ∧ UcSee W u c ∧ u.small := by
 obtain ⟨oa, cap, l, h1, _, h3, h4, h5⟩ := open_rows (fun (x : Int) cs => cs = [.int .i64 x]) (fun x => 0) Tryz.underlying26 (k := 1) (by kernel_rfl) (by omega) (fun cs D Pl n hl ht => by
  obtain ⟨c0, rfl⟩ : ∃ a, cs = [a] := by
   match cs, hl with
   | [a], _ => exact ⟨a, rfl⟩
  obtain ⟨s, e, x, _⟩ := DataW.trod_int Tryz.underlying3 ht
  exact ⟨s, e, Nat.zero_le _⟩) h
 refine ⟨.ns l, rfl, ⟨oa, cap, h1, fun i hi => ?_, by unfold maxLen; omega⟩, by show l.length ≤ _; omega⟩
 obtain ⟨b, o, cs, e, hlt, hl, hc, rfl⟩ := h3 i hi
 refine ⟨b, o, e, ?_⟩
 have := hc 0 _ rfl
 simpa using this
theorem see_rs {fuel : Nat} {c : Value} {y : DataW H × List MemPlace} (hk : Rows.uptoBulk y.1 ≤ 1048576) (h : DataW.trod enc Tryz.prog W 0 (fun _ => true) true fuel 24 [c] = some y) : ∃ u : UC, u.tag = 5 ∧ UcSee W u c ∧ u.small := by
 obtain ⟨oa, cap, l, h1, _, h3, h4, h5⟩ := open_rows (fun (x : Int × Str) cs => cs = encL x) (fun x => x.2.length) Tryz.underlying24 (k := 2) (by kernel_rfl) (by omega) (fun cs D Pl n hl ht => by
  obtain ⟨c0, c1, y0, y1, m, rfl, hD, h0, h1⟩ := open_flat2U Tryz.underlying54 (by kernel_rfl) hl ht
  obtain ⟨a, e0, x0, _⟩ := DataW.trod_int Tryz.underlying3 h0
  obtain ⟨s, e1, x1, _⟩ := DataW.trod_string Tryz.underlying9 h1
  simp only at hD
  subst hD
  injection e0 with e0; injection e1 with e1
  subst e0; subst e1
  exact ⟨(a, s.data.toList), rfl, by simp [Rows.uptoBulk, Rows.uptoBulkAll, x1]; omega⟩) h
 refine ⟨.rs l, rfl, ⟨oa, cap, h1, fun i hi => ?_, by unfold maxLen; omega⟩, by omega, fun x hx => by have := h4 x hx; omega⟩
 obtain ⟨b, o, cs, e, hlt, hl, hc, rfl⟩ := h3 i hi
 exact ⟨b, o, e, hlt, hc⟩
theorem see_ps {fuel : Nat} {c : Value} {y : DataW H × List MemPlace} (hk : Rows.uptoBulk y.1 ≤ 1048576) (h : DataW.trod enc Tryz.prog W 0 (fun _ => true) true fuel 27 [c] = some y) : ∃ u : UC, u.tag = 7 ∧ UcSee W u c ∧ u.small := by
 obtain ⟨oa, cap, l, h1, _, h3, h4, h5⟩ := open_rows (fun (x : Str × Str) cs => cs = encP x) (fun x => x.1.length + x.2.length) Tryz.underlying27 (k := 2) (by kernel_rfl) (by omega) (fun cs D Pl n hl ht => by
  obtain ⟨c0, c1, y0, y1, m, rfl, hD, h0, h1⟩ := open_flat2U Tryz.underlying58 (by kernel_rfl) hl ht
  obtain ⟨a, e0, x0, _⟩ := DataW.trod_string Tryz.underlying9 h0
  obtain ⟨s, e1, x1, _⟩ := DataW.trod_string Tryz.underlying9 h1
  simp only at hD
  subst hD
  injection e0 with e0; injection e1 with e1
  subst e0; subst e1
  exact ⟨(a.data.toList, s.data.toList), rfl, by simp [Rows.uptoBulk, Rows.uptoBulkAll, x0, x1]; omega⟩) h
 refine ⟨.ps l, rfl, ⟨oa, cap, h1, fun i hi => ?_, by unfold maxLen; omega⟩, by omega, fun x hx => by have := h4 x hx; omega⟩
 obtain ⟨b, o, cs, e, hlt, hl, hc, rfl⟩ := h3 i hi
 exact ⟨b, o, e, hlt, hc⟩
theorem see_cs {fuel : Nat} {c : Value} {y : DataW H × List MemPlace} (hk : Rows.uptoBulk y.1 ≤ 1048576) (h : DataW.trod enc Tryz.prog W 0 (fun _ => true) true fuel 25 [c] = some y) : ∃ u : UC, u.tag = 6 ∧ UcSee W u c ∧ u.small := by
 obtain ⟨oa, cap, l, h1, _, h3, h4, h5⟩ := open_rows (fun (x : (CmdV × CmdS) × Nat) cs => cs = encX x.1.1 ∧ (x.2 ≤ 1048576 → CmdSee W x.1.1 x.1.2 ∧ x.1.2.2.length ≤ 1048576 ∧ ∀ y ∈ x.1.2.2, List.length y ≤ 1048576)) (fun x => x.2) Tryz.underlying25 (k := 2) (by kernel_rfl) (by omega) (fun cs D Pl n hl ht => by
  obtain ⟨c0, c1, y0, y1, m, rfl, hD, h0, h1⟩ := open_flat2U Tryz.underlying56 (by kernel_rfl) hl ht
  obtain ⟨a, e0, x0⟩ := DataW.trod_bool Tryz.underlying4 h0
  obtain ⟨wa, wc, ws, rfl, hr, hx, hln⟩ := open_txtsU h1
  simp only at hD
  subst hD
  injection e0 with e0
  subst e0
  refine ⟨((⟨a, wa, ws.length, wc⟩, (a, ws)), Rows.uptoBulk y1.1), ⟨rfl, fun hb => ?_⟩, by simp [Rows.uptoBulk, Rows.uptoBulkAll]; omega⟩
  simp only at hb
  exact ⟨⟨rfl, rfl, hr, by unfold maxLen; show ws.length ≤ _; omega⟩, by show ws.length ≤ _; omega, fun y hy => by have := hx y hy; omega⟩) h
 refine ⟨.cs (l.map (·.1.2)), rfl, ⟨oa, cap, l.map (·.1.1), by rw [List.length_map]; exact h1, ⟨by simp, fun i hi => ?_, fun i hi1 hi2 => ?_⟩, by rw [List.length_map]; unfold maxLen; omega⟩, by rw [List.length_map]; omega, fun x hx => ?_⟩
 ·rw [List.length_map] at hi
  obtain ⟨b, o, cs, e, hlt, hl, hc, hR⟩ := h3 i hi
  refine ⟨b, o, e, hlt, fun j v hj => hc j v ?_⟩
  rw [List.getElem_map] at hj
  rw [hR.1]; exact hj
 ·rw [List.length_map] at hi1
  obtain ⟨b, o, cs, e, hlt, hl, hc, hR⟩ := h3 i hi1
  rw [List.getElem_map, List.getElem_map]
  have := h4 _ (List.getElem_mem hi1)
  exact (hR.2 (by omega)).1
 ·obtain ⟨z, hz, rfl⟩ := List.mem_map.1 hx
  obtain ⟨i, hi, he⟩ := List.getElem_of_mem hz
  obtain ⟨b, o, cs, e, hlt, hl, hc, hR⟩ := h3 i hi
  have := h4 _ hz
  rw [he] at hR
  exact (hR.2 (by omega)).2
theorem open_unit {v : Value} {d : DataW H} {ps : List MemPlace} {r : Reach} {b0 : Nat} (hval : Value.okWide Tryz.prog W r b0 30 v) (hk : Rows.uptoBulk d ≤ 1048576) (h : DataW.Trod enc Tryz.prog W 0 (fun _ => true) true 30 v d ps) :
  ∃ cs u, v = .agg cs ∧ UnitSee W cs u ∧ TypedU u ∧ ∀ j, (u j).small := by
 obtain ⟨cs, rfl, hsz⟩ := okWide_struct Tryz.underlying30 hval
 have h35 : cs.size = 35 := by rw [hsz]; kernel_rfl
 obtain ⟨fuel, hf0⟩ := h
 obtain ⟨xs, m, _, hx, _, hlen, hf⟩ := DataW.trod_struct Tryz.underlying30 hf0
 have hl35 : xs.length = 35 := hlen
 have hd : d = .agg (xs.map (·.1)) := by
  have := hx
  simp only [Prod.mk.injEq] at this
  exact this.1
 have hb : ∀ j (hj : j < xs.length), Rows.uptoBulk xs[j].1 ≤ 1048576 := fun j hj => by
  have := bulk_part (H := H) (d := xs[j].1) (l := xs.map (·.1)) (List.mem_map.2 ⟨xs[j], List.getElem_mem hj, rfl⟩)
  rw [hd] at hk
  simp only [Rows.uptoBulk] at hk
  omega
 have gx : ∀ j (hj : j < xs.length), xs[j]? = some xs[j] := fun j hj => List.getElem?_eq_getElem hj
 have cut : ∀ j (hj : j < 35), ((Value.cells (.agg cs)).toList.drop j).take 1 = [cs[j]'(by omega)] := fun j hj => by
  show (cs.toList.drop j).take 1 = _
  rw [List.drop_eq_getElem_cons (by simp; omega)]
  simp
 have z_s : Tryz.prog.cellsOf 9 = 1 := by kernel_rfl
 have z_n : Tryz.prog.cellsOf 3 = 1 := by kernel_rfl
 have z_b : Tryz.prog.cellsOf 4 = 1 := by kernel_rfl
 have z_ss : Tryz.prog.cellsOf 28 = 1 := by kernel_rfl
 have z_ns : Tryz.prog.cellsOf 26 = 1 := by kernel_rfl
 have z_rs : Tryz.prog.cellsOf 24 = 1 := by kernel_rfl
 have z_ps : Tryz.prog.cellsOf 27 = 1 := by kernel_rfl
 have z_cs : Tryz.prog.cellsOf 25 = 1 := by kernel_rfl
 have all : ∀ j (hj : j < 35), ∃ u : UC, u.tag = (zeroU j).tag ∧ UcSee W u (cs[j]'(by omega)) ∧ u.small := by
  intro j hj
  rcases (show j = 0 ∨ j = 1 ∨ j = 2 ∨ j = 3 ∨ j = 4 ∨ j = 5 ∨ j = 6 ∨ j = 7 ∨ j = 8 ∨ j = 9 ∨ j = 10 ∨ j = 11 ∨ j = 12 ∨ j = 13 ∨ j = 14 ∨ j = 15 ∨ j = 16 ∨ j = 17 ∨ j = 18 ∨ j = 19 ∨ j = 20 ∨ j = 21 ∨ j = 22 ∨ j = 23 ∨ j = 24 ∨ j = 25 ∨ j = 26 ∨ j = 27 ∨ j = 28 ∨ j = 29 ∨ j = 30 ∨ j = 31 ∨ j = 32 ∨ j = 33 ∨ j = 34 by omega) with rfl | rfl | rfl | rfl | rfl | rfl | rfl | rfl | rfl | rfl | rfl | rfl | rfl | rfl | rfl | rfl | rfl | rfl | rfl | rfl | rfl | rfl | rfl | rfl | rfl | rfl | rfl | rfl | rfl | rfl | rfl | rfl | rfl | rfl | rfl
  ·have h : DataW.trod enc Tryz.prog W 0 (fun _ => true) true m 9 (((Value.cells (.agg cs)).toList.drop 0).take (Tryz.prog.cellsOf 9)) = xs[0]? := hf 0 _ rfl
   rw [z_s, cut 0 (by decide), gx 0 (by omega)] at h
   exact see_s (hb 0 (by omega)) h
  ·have h : DataW.trod enc Tryz.prog W 0 (fun _ => true) true m 3 (((Value.cells (.agg cs)).toList.drop 1).take (Tryz.prog.cellsOf 3)) = xs[1]? := hf 1 _ rfl
   rw [z_n, cut 1 (by decide), gx 1 (by omega)] at h
   exact see_n h
  ·have h : DataW.trod enc Tryz.prog W 0 (fun _ => true) true m 9 (((Value.cells (.agg cs)).toList.drop 2).take (Tryz.prog.cellsOf 9)) = xs[2]? := hf 2 _ rfl
   rw [z_s, cut 2 (by decide), gx 2 (by omega)] at h
   exact see_s (hb 2 (by omega)) h
  ·have h : DataW.trod enc Tryz.prog W 0 (fun _ => true) true m 4 (((Value.cells (.agg cs)).toList.drop 3).take (Tryz.prog.cellsOf 4)) = xs[3]? := hf 3 _ rfl
   rw [z_b, cut 3 (by decide), gx 3 (by omega)] at h
   exact see_b h
  ·have h : DataW.trod enc Tryz.prog W 0 (fun _ => true) true m 24 (((Value.cells (.agg cs)).toList.drop 4).take (Tryz.prog.cellsOf 24)) = xs[4]? := hf 4 _ rfl
   rw [z_rs, cut 4 (by decide), gx 4 (by omega)] at h
   exact see_rs (hb 4 (by omega)) h
  ·have h : DataW.trod enc Tryz.prog W 0 (fun _ => true) true m 3 (((Value.cells (.agg cs)).toList.drop 5).take (Tryz.prog.cellsOf 3)) = xs[5]? := hf 5 _ rfl
   rw [z_n, cut 5 (by decide), gx 5 (by omega)] at h
   exact see_n h
  ·have h : DataW.trod enc Tryz.prog W 0 (fun _ => true) true m 3 (((Value.cells (.agg cs)).toList.drop 6).take (Tryz.prog.cellsOf 3)) = xs[6]? := hf 6 _ rfl
   rw [z_n, cut 6 (by decide), gx 6 (by omega)] at h
   exact see_n h
  ·have h : DataW.trod enc Tryz.prog W 0 (fun _ => true) true m 3 (((Value.cells (.agg cs)).toList.drop 7).take (Tryz.prog.cellsOf 3)) = xs[7]? := hf 7 _ rfl
   rw [z_n, cut 7 (by decide), gx 7 (by omega)] at h
   exact see_n h
  ·have h : DataW.trod enc Tryz.prog W 0 (fun _ => true) true m 25 (((Value.cells (.agg cs)).toList.drop 8).take (Tryz.prog.cellsOf 25)) = xs[8]? := hf 8 _ rfl
   rw [z_cs, cut 8 (by decide), gx 8 (by omega)] at h
   exact see_cs (hb 8 (by omega)) h
  ·have h : DataW.trod enc Tryz.prog W 0 (fun _ => true) true m 25 (((Value.cells (.agg cs)).toList.drop 9).take (Tryz.prog.cellsOf 25)) = xs[9]? := hf 9 _ rfl
   rw [z_cs, cut 9 (by decide), gx 9 (by omega)] at h
   exact see_cs (hb 9 (by omega)) h
  ·have h : DataW.trod enc Tryz.prog W 0 (fun _ => true) true m 25 (((Value.cells (.agg cs)).toList.drop 10).take (Tryz.prog.cellsOf 25)) = xs[10]? := hf 10 _ rfl
   rw [z_cs, cut 10 (by decide), gx 10 (by omega)] at h
   exact see_cs (hb 10 (by omega)) h
  ·have h : DataW.trod enc Tryz.prog W 0 (fun _ => true) true m 25 (((Value.cells (.agg cs)).toList.drop 11).take (Tryz.prog.cellsOf 25)) = xs[11]? := hf 11 _ rfl
   rw [z_cs, cut 11 (by decide), gx 11 (by omega)] at h
   exact see_cs (hb 11 (by omega)) h
  ·have h : DataW.trod enc Tryz.prog W 0 (fun _ => true) true m 25 (((Value.cells (.agg cs)).toList.drop 12).take (Tryz.prog.cellsOf 25)) = xs[12]? := hf 12 _ rfl
   rw [z_cs, cut 12 (by decide), gx 12 (by omega)] at h
   exact see_cs (hb 12 (by omega)) h
  ·have h : DataW.trod enc Tryz.prog W 0 (fun _ => true) true m 4 (((Value.cells (.agg cs)).toList.drop 13).take (Tryz.prog.cellsOf 4)) = xs[13]? := hf 13 _ rfl
   rw [z_b, cut 13 (by decide), gx 13 (by omega)] at h
   exact see_b h
  ·have h : DataW.trod enc Tryz.prog W 0 (fun _ => true) true m 3 (((Value.cells (.agg cs)).toList.drop 14).take (Tryz.prog.cellsOf 3)) = xs[14]? := hf 14 _ rfl
   rw [z_n, cut 14 (by decide), gx 14 (by omega)] at h
   exact see_n h
  ·have h : DataW.trod enc Tryz.prog W 0 (fun _ => true) true m 3 (((Value.cells (.agg cs)).toList.drop 15).take (Tryz.prog.cellsOf 3)) = xs[15]? := hf 15 _ rfl
   rw [z_n, cut 15 (by decide), gx 15 (by omega)] at h
   exact see_n h
  ·have h : DataW.trod enc Tryz.prog W 0 (fun _ => true) true m 3 (((Value.cells (.agg cs)).toList.drop 16).take (Tryz.prog.cellsOf 3)) = xs[16]? := hf 16 _ rfl
   rw [z_n, cut 16 (by decide), gx 16 (by omega)] at h
   exact see_n h
  ·have h : DataW.trod enc Tryz.prog W 0 (fun _ => true) true m 3 (((Value.cells (.agg cs)).toList.drop 17).take (Tryz.prog.cellsOf 3)) = xs[17]? := hf 17 _ rfl
   rw [z_n, cut 17 (by decide), gx 17 (by omega)] at h
   exact see_n h
  ·have h : DataW.trod enc Tryz.prog W 0 (fun _ => true) true m 26 (((Value.cells (.agg cs)).toList.drop 18).take (Tryz.prog.cellsOf 26)) = xs[18]? := hf 18 _ rfl
   rw [z_ns, cut 18 (by decide), gx 18 (by omega)] at h
   exact see_ns (hb 18 (by omega)) h
  ·have h : DataW.trod enc Tryz.prog W 0 (fun _ => true) true m 27 (((Value.cells (.agg cs)).toList.drop 19).take (Tryz.prog.cellsOf 27)) = xs[19]? := hf 19 _ rfl
   rw [z_ps, cut 19 (by decide), gx 19 (by omega)] at h
   exact see_ps (hb 19 (by omega)) h
  ·have h : DataW.trod enc Tryz.prog W 0 (fun _ => true) true m 28 (((Value.cells (.agg cs)).toList.drop 20).take (Tryz.prog.cellsOf 28)) = xs[20]? := hf 20 _ rfl
   rw [z_ss, cut 20 (by decide), gx 20 (by omega)] at h
   exact see_ss (hb 20 (by omega)) h
  ·have h : DataW.trod enc Tryz.prog W 0 (fun _ => true) true m 26 (((Value.cells (.agg cs)).toList.drop 21).take (Tryz.prog.cellsOf 26)) = xs[21]? := hf 21 _ rfl
   rw [z_ns, cut 21 (by decide), gx 21 (by omega)] at h
   exact see_ns (hb 21 (by omega)) h
  ·have h : DataW.trod enc Tryz.prog W 0 (fun _ => true) true m 3 (((Value.cells (.agg cs)).toList.drop 22).take (Tryz.prog.cellsOf 3)) = xs[22]? := hf 22 _ rfl
   rw [z_n, cut 22 (by decide), gx 22 (by omega)] at h
   exact see_n h
  ·have h : DataW.trod enc Tryz.prog W 0 (fun _ => true) true m 9 (((Value.cells (.agg cs)).toList.drop 23).take (Tryz.prog.cellsOf 9)) = xs[23]? := hf 23 _ rfl
   rw [z_s, cut 23 (by decide), gx 23 (by omega)] at h
   exact see_s (hb 23 (by omega)) h
  ·have h : DataW.trod enc Tryz.prog W 0 (fun _ => true) true m 9 (((Value.cells (.agg cs)).toList.drop 24).take (Tryz.prog.cellsOf 9)) = xs[24]? := hf 24 _ rfl
   rw [z_s, cut 24 (by decide), gx 24 (by omega)] at h
   exact see_s (hb 24 (by omega)) h
  ·have h : DataW.trod enc Tryz.prog W 0 (fun _ => true) true m 26 (((Value.cells (.agg cs)).toList.drop 25).take (Tryz.prog.cellsOf 26)) = xs[25]? := hf 25 _ rfl
   rw [z_ns, cut 25 (by decide), gx 25 (by omega)] at h
   exact see_ns (hb 25 (by omega)) h
  ·have h : DataW.trod enc Tryz.prog W 0 (fun _ => true) true m 26 (((Value.cells (.agg cs)).toList.drop 26).take (Tryz.prog.cellsOf 26)) = xs[26]? := hf 26 _ rfl
   rw [z_ns, cut 26 (by decide), gx 26 (by omega)] at h
   exact see_ns (hb 26 (by omega)) h
  ·have h : DataW.trod enc Tryz.prog W 0 (fun _ => true) true m 26 (((Value.cells (.agg cs)).toList.drop 27).take (Tryz.prog.cellsOf 26)) = xs[27]? := hf 27 _ rfl
   rw [z_ns, cut 27 (by decide), gx 27 (by omega)] at h
   exact see_ns (hb 27 (by omega)) h
  ·have h : DataW.trod enc Tryz.prog W 0 (fun _ => true) true m 28 (((Value.cells (.agg cs)).toList.drop 28).take (Tryz.prog.cellsOf 28)) = xs[28]? := hf 28 _ rfl
   rw [z_ss, cut 28 (by decide), gx 28 (by omega)] at h
   exact see_ss (hb 28 (by omega)) h
  ·have h : DataW.trod enc Tryz.prog W 0 (fun _ => true) true m 4 (((Value.cells (.agg cs)).toList.drop 29).take (Tryz.prog.cellsOf 4)) = xs[29]? := hf 29 _ rfl
   rw [z_b, cut 29 (by decide), gx 29 (by omega)] at h
   exact see_b h
  ·have h : DataW.trod enc Tryz.prog W 0 (fun _ => true) true m 28 (((Value.cells (.agg cs)).toList.drop 30).take (Tryz.prog.cellsOf 28)) = xs[30]? := hf 30 _ rfl
   rw [z_ss, cut 30 (by decide), gx 30 (by omega)] at h
   exact see_ss (hb 30 (by omega)) h
  ·have h : DataW.trod enc Tryz.prog W 0 (fun _ => true) true m 28 (((Value.cells (.agg cs)).toList.drop 31).take (Tryz.prog.cellsOf 28)) = xs[31]? := hf 31 _ rfl
   rw [z_ss, cut 31 (by decide), gx 31 (by omega)] at h
   exact see_ss (hb 31 (by omega)) h
  ·have h : DataW.trod enc Tryz.prog W 0 (fun _ => true) true m 28 (((Value.cells (.agg cs)).toList.drop 32).take (Tryz.prog.cellsOf 28)) = xs[32]? := hf 32 _ rfl
   rw [z_ss, cut 32 (by decide), gx 32 (by omega)] at h
   exact see_ss (hb 32 (by omega)) h
  ·have h : DataW.trod enc Tryz.prog W 0 (fun _ => true) true m 28 (((Value.cells (.agg cs)).toList.drop 33).take (Tryz.prog.cellsOf 28)) = xs[33]? := hf 33 _ rfl
   rw [z_ss, cut 33 (by decide), gx 33 (by omega)] at h
   exact see_ss (hb 33 (by omega)) h
  ·have h : DataW.trod enc Tryz.prog W 0 (fun _ => true) true m 9 (((Value.cells (.agg cs)).toList.drop 34).take (Tryz.prog.cellsOf 9)) = xs[34]? := hf 34 _ rfl
   rw [z_s, cut 34 (by decide), gx 34 (by omega)] at h
   exact see_s (hb 34 (by omega)) h
 obtain ⟨us, hus, hU⟩ := list_of (fun j (u : UC) => ∀ hj : j < 35, u.tag = (zeroU j).tag ∧ UcSee W u (cs[j]'(by omega)) ∧ u.small) 35 (fun j hj => by obtain ⟨u, h⟩ := all j hj; exact ⟨u, fun _ => h⟩)
 refine ⟨cs, fun j => us.getD j (.s []), rfl, ⟨h35, fun j v hv => ?_⟩, fun j => ?_, fun j => ?_⟩
 ·obtain ⟨hj, rfl⟩ := Array.getElem?_eq_some_iff.1 hv
  have := (hU j (by omega) (by omega)).2.1
  simpa [List.getD_eq_getElem?_getD, List.getElem?_eq_getElem (show j < us.length by omega)] using this
 ·by_cases hj : j < 35
  ·have := (hU j (by omega) hj).1
   simpa [List.getD_eq_getElem?_getD, List.getElem?_eq_getElem (show j < us.length by omega)] using this
  ·show (us.getD j (UC.s [])).tag = _
   rw [List.getD_eq_getElem?_getD, List.getElem?_eq_none (by omega)]
   unfold zeroU
   repeat (rw [if_neg (by omega)])
   rfl
 ·by_cases hj : j < 35
  ·have := (hU j (by omega) hj).2.2
   simpa [List.getD_eq_getElem?_getD, List.getElem?_eq_getElem (show j < us.length by omega)] using this
  ·show (us.getD j (UC.s [])).small
   rw [List.getD_eq_getElem?_getD, List.getElem?_eq_none (by omega)]
   show ([] : Str).length ≤ _
   simp
end
end Go.Proofs.YtdjkedcpehhmnaaGreatDoor
