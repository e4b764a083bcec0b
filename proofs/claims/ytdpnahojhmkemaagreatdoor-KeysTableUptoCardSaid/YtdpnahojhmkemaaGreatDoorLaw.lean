/-
  From a walk to a row: what every law's proof ends with. The arguments are read, the law is called, they read as they did.
-/
import Derived.Test.YtdpnahojhmkemaaGreatDoorRows
import Derived.Test.YtdpnahojhmkemaaGreatDoorBase
import Derived.ProofKit
import Derived.OpenShut
import Derived.JoinedCond
import Derived.SliceStrings
namespace Go.Proofs.YtdpnahojhmkemaaGreatDoor
open Go Go.RowKit Go.ChangeShapes Go.WideShapes Go.ChangeAt
set_option linter.unusedVariables false
set_option maxRecDepth 100000

theorem own : ownKnob Tryz.prog.godebug = none := by kernel_rfl
theorem laidOut : laidOutB Tryz.prog = true := by kernel_rfl

theorem trodAll_below {H : Type} {enc : TypeId × Value → H} {W W' : World} (hb : Below W.heap.size W W') : ∀ {ts : List TypeId} {vs : List Value} {ds : List (DataW H)} {p : List MemPlace},
    (∀ t ∈ ts, Tryz.prog.readableRec t = true ∧ t < Tryz.prog.types.size) → DataW.TrodAll enc Tryz.prog W 0 (fun _ => true) true ts vs ds p → (∀ x ∈ p, x.block < W.heap.size) →
    DataW.TrodAll enc Tryz.prog W' 0 (fun b => decide (b < W.heap.size)) true ts vs ds p
  | [], vs, ds, p, _, h, _ => by
    obtain ⟨rfl, rfl, rfl⟩ := trodAll_nil h
    exact trodAll_mk0
  | t :: ts, vs, ds, p, ht, h, hp => by
    obtain ⟨v, vs', d, ds', p1, q1, rfl, rfl, rfl, h1, h2⟩ := trodAll_cons h
    exact trodAll_cons_mk (Below.trod laidOut (ht t (by simp)).1 (ht t (by simp)).2 h1 hb (fun x hx => hp x (by simp [hx])))
      (trodAll_below hb (fun t h => ht t (by simp [h])) h2 (fun x hx => hp x (by simp [hx])))

/-- The end of every law: it answered true, and below the heap's end the world is as it was. -/
theorem law_post {H : Type} {enc : TypeId × Value → H} {f : Func} {s : ChangeSpec} {W W' : World} {args : Array Value} {ds gs : List (DataW H)} {before : List MemPlace}
    (hW : DataW.Whole enc Tryz.prog f.params.toList s.vars false W args.toList ds gs before) (hb : Below W.heap.size W W') (hv : s.vars = []) (hrt : f.resultTypes = #[4])
    (hts : ∀ t ∈ f.params.toList, Tryz.prog.readableRec t = true ∧ t < Tryz.prog.types.size)
    (hres : (s.fn H (ds ++ gs)).results = [.lit (.bool true)]) (hargs : (s.fn H (ds ++ gs)).args = ds) (hvs : (s.fn H (ds ++ gs)).vars = []) :
    ∃ v, Ending.returned (.bool true) = .returned v ∧ s.post enc Tryz.prog f false true false false W args v W' := by
  have hlt := hW.lt
  have hW' := hW
  obtain ⟨p, q, hA, hV, rfl, _, _⟩ := hW
  rw [hv] at hV
  obtain ⟨rfl, rfl⟩ := trodVars_none hV
  refine ⟨_, rfl, ds, [], p ++ [], [], p, [], hW', ?_, ?_, ?_, ?_, fun h => by cases h⟩
  · rw [hrt, hres]
    exact trodAll_cons_mk (shut_bool Tryz.underlying4 true) trodAll_mk0
  · rw [hargs]
    exact trodAll_below hb hts hA (fun x hx => hlt x (by simp [hx]))
  · rw [hv, hvs]; rfl
  · exact hb.frame _

theorem bulk_one {H : Type} (d : DataW H) : 1 ≤ Rows.uptoBulk d := by
  cases d with
  | lit l => cases l <;> simp [Rows.uptoBulk]
  | nil => simp [Rows.uptoBulk]
  | ptr d => simp [Rows.uptoBulk]
  | slice elems spare => simp [Rows.uptoBulk]
  | agg parts => simp [Rows.uptoBulk]
  | iface t d => simp [Rows.uptoBulk]
  | map entries => simp [Rows.uptoBulk]
  | held h => simp [Rows.uptoBulk]
theorem bulk_part {H : Type} {d : DataW H} {l : List (DataW H)} (h : d ∈ l) : Rows.uptoBulk d ≤ Rows.uptoBulkAll l := by
  induction l with
  | nil => cases h
  | cons x r ih =>
    simp only [Rows.uptoBulkAll]
    cases List.mem_cons.1 h with
    | inl e => subst e; omega
    | inr e => have := ih e; omega
theorem bulk_len {H : Type} (l : List (DataW H)) : l.length ≤ Rows.uptoBulkAll l := by
  induction l with
  | nil => simp [Rows.uptoBulkAll]
  | cons x r ih => have := bulk_one x; simp only [Rows.uptoBulkAll, List.length_cons]; omega

/-- A slice of strings, opened. -/
theorem open_strs {H : Type} {enc : TypeId × Value → H} {W : World} {base : Nat} {v : Value} {d : DataW H} {ps : List MemPlace} (hval : Value.okWide Tryz.prog W .any base 26 v)
    (h : DataW.Trod enc Tryz.prog W 0 (fun _ => true) true 26 v d ps) :
    ∃ oa cap l, v = .slice oa (List.length l) cap ∧ StrRow W oa l ∧ l.length ≤ maxLen ∧ (∀ x ∈ l, List.length x < Rows.uptoBulk d) ∧ l.length < Rows.uptoBulk d := by
  obtain ⟨a0, len, cap, rfl⟩ := okWide_slice Tryz.underlying26 hval
  obtain ⟨fuel, hf⟩ := h
  rcases open_strings Tryz.underlying26 Tryz.underlying9 (by kernel_rfl) hf with ⟨hcs, hx⟩ | ⟨a, len', cap', ss, hcs, _, hl, hm, hz, hx, hcell, hws⟩
  · simp [Value.cells] at hcs
    obtain ⟨rfl, rfl, rfl⟩ := hcs
    simp only [Prod.mk.injEq] at hx
    obtain ⟨rfl, rfl⟩ := hx
    exact ⟨none, 0, [], rfl, StrRow.nil _ _, by simp [maxLen], by simp, by simp [Rows.uptoBulk]⟩
  · simp [Value.cells] at hcs
    obtain ⟨rfl, rfl, rfl⟩ := hcs
    simp only [Prod.mk.injEq] at hx
    obtain ⟨rfl, rfl⟩ := hx
    simp only [if_true] at hz
    refine ⟨some a, cap, (ss.take len).map (·.data.toList), ?_, ?_, ?_, ?_, ?_⟩
    · simp; omega
    · intro i hi
      simp at hi
      have hc := hcell i (by omega)
      obtain ⟨b, o, sp⟩ := a
      by_cases h0 : i = 0
      · subst h0
        have e : (⟨b, o, sp⟩ : Addr).add 0 = ⟨b, o, sp⟩ := rfl
        rw [e] at hc
        have hsp : sp = none := by
          cases sp with
          | none => rfl
          | some x => simp [World.cell?] at hc; split at hc <;> simp at hc
        subst hsp
        exact ⟨b, o, rfl, by simpa [List.getD_eq_getElem?_getD, (by omega : 0 < ss.length)] using hc⟩
      · have hc0 := hcell 0 (by omega)
        have e : (⟨b, o, sp⟩ : Addr).add 0 = ⟨b, o, sp⟩ := rfl
        rw [e] at hc0
        have hsp : sp = none := by
          cases sp with
          | none => rfl
          | some x => simp [World.cell?] at hc0; split at hc0 <;> simp at hc0
        subst hsp
        have e2 : (⟨b, o, none⟩ : Addr).add i = ⟨b, o + i, none⟩ := by unfold Addr.add; rw [if_neg h0]
        rw [e2] at hc
        exact ⟨b, o, rfl, by simpa [List.getD_eq_getElem?_getD, (by omega : i < ss.length)] using hc⟩
    · simp; omega
    · intro x hx
      obtain ⟨y, hy, rfl⟩ := List.mem_map.1 hx
      have h1 : (strs (H := H) (ss.take len)) = (ss.take len).map fun s => .lit (.string s.data.toList) := rfl
      have h2 := bulk_part (H := H) (d := .lit (.string y.data.toList)) (l := strs (ss.take len)) (by rw [h1]; exact List.mem_map_of_mem hy)
      simp only [Rows.uptoBulk] at h2 ⊢
      omega
    · have h1 : (strs (H := H) (ss.take len)).length = ((ss.take len).map (·.data.toList)).length := by simp [strs]
      have h2 := bulk_len (strs (H := H) (ss.take len))
      simp only [Rows.uptoBulk]
      omega
end Go.Proofs.YtdpnahojhmkemaaGreatDoor
