import Derived.Test.YtcaamakodneplaaGreatGraphPack1
import Derived.MapKept
import Derived.Maps.RangeRun
import Derived.Laws.StructEq
import Derived.Deep.LoopGhost
import Derived.IntWalk
import Derived.Deep.QuietTactic
import Derived.BigQuiet
import Derived.Deep.RegionHeld3
import Derived.Lib.AppendZerosOnto
import Derived.Lib.SliceRun
import Derived.Deep.RegionLawGrows

/-
  Maps: a block of entries that reads as a list of keys and values; look, put, strike, range. No program in sight.
-/
namespace Go.Proofs.YtcaamakodneplaaGreat
open Go Go.RowKit Go.MapKept
open Go.ChangeMaps (setBlock)
set_option linter.unusedVariables false

/-- What a map's laws ask of its keys. -/
structure KeyLaws {κ : Type} (P : Program) (kt : TypeId) (key : κ → Value) : Prop where
  inj : ∀ x y, key x = key y → x = y
  chk : ∀ (e : Bool) x w, (Instr.checkKey e 10000 kt (key x)).run P w = .ok () w
  find : ∀ x (es : List MapEntry) w, (∀ e ∈ es, ∃ y, e.key = key y) →
    ((Instr.findKey kt (key x) es).run P w = .ok none w ∧ ∀ e ∈ es, e.key ≠ key x) ∨ ∃ j e, (Instr.findKey kt (key x) es).run P w = .ok (some (j, e.val)) w ∧ es[j]? = some e ∧ e.key = key x
  bits : ∀ x, Instr.sameBits 10000 (key x) (key x) = true

def MapOf {κ : Type} (key : κ → Value) (w : World) (m : Nat) (ts : List (κ × Value)) : Prop :=
  ∃ es clock, w.heap[m]? = some (.map es clock) ∧ Stamped es clock ∧ es.toList.map (fun e => (e.key, e.val)) = ts.map (fun p => (key p.1, p.2))

section
variable {κ : Type} {P : Program} {kt T E : TypeId} {key : κ → Value} {w : World} {m : Nat} {ts : List (κ × Value)}

theorem MapOf.lt (h : MapOf key w m ts) : m < w.heap.size := by
  obtain ⟨es, c, hb, _⟩ := h; exact lt_heap hb
theorem MapOf.fr {w' : World} {M : Nat → Prop} (h : MapOf key w m ts) (hf : Fr M w w') (hM : ¬ M m) : MapOf key w' m ts := by
  obtain ⟨es, c, hb, r⟩ := h; exact ⟨es, c, hf.heap hb hM, r⟩
theorem MapOf.below {w' : World} {B : Nat} (h : MapOf key w m ts) (hb : Below B w w') (hm : m < B) : MapOf key w' m ts := by
  obtain ⟨es, c, hh, r⟩ := h; exact ⟨es, c, by rw [hb.block m hm]; exact hh, r⟩
theorem MapOf.made (w : World) : MapOf key (w.alloc (.map #[] 0)) w.heap.size [] := ⟨#[], 0, heap_alloc_new w _, stamped_empty 0, rfl⟩
theorem entry_keys {es : List MapEntry} (h : es.map (fun e => (e.key, e.val)) = ts.map (fun p => (key p.1, p.2))) : ∀ e ∈ es, ∃ p ∈ ts, e.key = key p.1 ∧ e.val = p.2 := by
  intro e he
  have : (e.key, e.val) ∈ es.map (fun e => (e.key, e.val)) := List.mem_map.2 ⟨e, he, rfl⟩
  rw [h] at this
  obtain ⟨p, hp, e2⟩ := List.mem_map.1 this
  injection e2 with a b
  exact ⟨p, hp, a.symm, b.symm⟩
theorem entry_of {es : List MapEntry} (h : es.map (fun e => (e.key, e.val)) = ts.map (fun p => (key p.1, p.2))) {p : κ × Value} (hp : p ∈ ts) : ∃ e ∈ es, e.key = key p.1 ∧ e.val = p.2 := by
  have : (key p.1, p.2) ∈ ts.map (fun p => (key p.1, p.2)) := List.mem_map.2 ⟨p, hp, rfl⟩
  rw [← h] at this
  obtain ⟨e, he, e2⟩ := List.mem_map.1 this
  injection e2 with a b
  exact ⟨e, he, a, b⟩
theorem key_once {es : Array MapEntry} {c : Nat} (h : Stamped es c) {e e' : MapEntry} (he : e ∈ es.toList) (he' : e' ∈ es.toList) (hk : e.key = e'.key) : e = e' := by
  have h3 := ((stamped_iff es c).1 h).2.2
  obtain ⟨i, hi, rfl⟩ := List.getElem_of_mem he
  obtain ⟨j, hj, rfl⟩ := List.getElem_of_mem he'
  rcases Nat.lt_trichotomy i j with hij | hij | hij
  · exact absurd hk (List.pairwise_iff_getElem.1 h3 i j hi hj hij)
  · subst hij; rfl
  · exact absurd hk.symm (List.pairwise_iff_getElem.1 h3 j i hj hi hij)
theorem MapOf.keys_nodup (K : KeyLaws P kt key) (h : MapOf key w m ts) : (ts.map (·.1)).Nodup := by
  obtain ⟨es, c, _, hs, he⟩ := h
  have h1 : es.toList.map (·.key) = (ts.map (·.1)).map key := by
    have := congrArg (List.map Prod.fst) he
    simpa [List.map_map, Function.comp_def] using this
  have h2 := hs.2.2
  rw [h1] at h2
  exact List.Pairwise.of_map key (fun a b hab e => hab (by rw [e])) h2

/-- m[x], which is not there. -/
theorem look_none (K : KeyLaws P kt key) (hT : P.underlying T = some (.map kt E)) (h : MapOf key w m ts) (x : κ) (hx : ∀ p ∈ ts, p.1 ≠ x) {z : Value} (hz : (zeroValue E).run P w = .ok z w) (c : Bool) :
    (Instr.lookup T (.map (some m)) (key x) c).run P w = .ok (if c then .tuple #[z, .bool false] else z) w := by
  obtain ⟨es, cl, hb, hs, he⟩ := h
  have hks := entry_keys he
  rcases K.find x es.toList w (fun e h => by obtain ⟨p, _, h2, _⟩ := hks e h; exact ⟨_, h2⟩) with ⟨h1, h2⟩ | ⟨j, e, h1, h2, h3⟩
  · simp [Instr.lookup, run_underlying hT, MapKept.run_getObj_map hb, K.chk, h1, hz, Result.andThen]
  · obtain ⟨p, hp, h4, _⟩ := hks e (List.mem_of_getElem? h2)
    exact absurd (K.inj _ _ (h4.symm.trans h3)) (hx p hp)
/-- m[x], which is there. -/
theorem look_some (K : KeyLaws P kt key) (hT : P.underlying T = some (.map kt E)) (h : MapOf key w m ts) {x : κ} {v : Value} (hx : (x, v) ∈ ts) (c : Bool) :
    (Instr.lookup T (.map (some m)) (key x) c).run P w = .ok (if c then .tuple #[v, .bool true] else v) w := by
  obtain ⟨es, cl, hb, hs, he⟩ := h
  have hks := entry_keys he
  obtain ⟨e0, he0, k0, v0⟩ := entry_of he hx
  rcases K.find x es.toList w (fun e h => by obtain ⟨p, _, h2, _⟩ := hks e h; exact ⟨_, h2⟩) with ⟨h1, h2⟩ | ⟨j, e, h1, h2, h3⟩
  · exact absurd k0 (h2 e0 he0)
  · have : e = e0 := key_once hs (List.mem_of_getElem? h2) he0 (h3.trans k0.symm)
    subst this
    simp at v0
    subst v0
    simp [Instr.lookup, run_underlying hT, MapKept.run_getObj_map hb, K.chk, h1, Result.andThen]

theorem fr_setBlock {w : World} {r : Nat} {o o' : Obj} (hb : w.heap[r]? = some o) : Fr (· = r) w (setBlock w r o') ∧ (setBlock w r o').heap[r]? = some o' :=
  ⟨⟨rfl, rfl, rfl, by simp [setBlock], fun k hk hm => (MapKept.heap_set hb).2 k hm⟩, (MapKept.heap_set hb).1⟩
theorem fr_setObj {w : World} {r : Nat} {o o' : Obj} (hb : w.heap[r]? = some o) : Fr (· = r) w { w with heap := w.heap.setIfInBounds r o' } :=
  ⟨rfl, rfl, rfl, by simp, fun k hk hm => (MapKept.heap_set hb).2 k hm⟩

/-- m[x] = v, x a new key. -/
theorem put_new (K : KeyLaws P kt key) (hT : P.underlying T = some (.map kt E)) (h : MapOf key w m ts) (x : κ) (hx : ∀ p ∈ ts, p.1 ≠ x) (v : Value) :
    ∃ w', (Instr.mapUpdate T (.map (some m)) (key x) v).run P w = .ok () w' ∧ MapOf key w' m (ts ++ [(x, v)]) ∧ Fr (· = m) w w' := by
  obtain ⟨es, cl, hb, hs, he⟩ := h
  have hks := entry_keys he
  rcases K.find x es.toList w (fun e h => by obtain ⟨p, _, h2, _⟩ := hks e h; exact ⟨_, h2⟩) with ⟨h1, h2⟩ | ⟨j, e, h1, h2, h3⟩
  · refine ⟨{ w with heap := w.heap.setIfInBounds m (.map (es.push { key := key x, val := v, born := cl }) (cl + 1)) }, ?_, ⟨_, _, (MapKept.heap_set hb).1, stamped_push hs h2, ?_⟩, fr_setObj hb⟩
    · simp [Instr.mapUpdate, run_underlying hT, MapKept.run_getObj_map hb, K.chk, h1, MapKept.run_setObj_map _ hb, Result.andThen]
    · simp [he]
  · obtain ⟨p, hp, h4, _⟩ := hks e (List.mem_of_getElem? h2)
    exact absurd (K.inj _ _ (h4.symm.trans h3)) (hx p hp)
/-- m[x] = v, where v is there. -/
theorem put_same (K : KeyLaws P kt key) (hT : P.underlying T = some (.map kt E)) (h : MapOf key w m ts) {x : κ} {v : Value} (hx : (x, v) ∈ ts) :
    ∃ w', (Instr.mapUpdate T (.map (some m)) (key x) v).run P w = .ok () w' ∧ MapOf key w' m ts ∧ Fr (· = m) w w' := by
  obtain ⟨es, cl, hb, hs, he⟩ := h
  have hks := entry_keys he
  obtain ⟨e0, he0, k0, v0⟩ := entry_of he hx
  rcases K.find x es.toList w (fun e h => by obtain ⟨p, _, h2, _⟩ := hks e h; exact ⟨_, h2⟩) with ⟨h1, h2⟩ | ⟨j, e, h1, h2, h3⟩
  · exact absurd k0 (h2 e0 he0)
  · have : e = e0 := key_once hs (List.mem_of_getElem? h2) he0 (h3.trans k0.symm)
    subst this
    simp at v0
    have hj : es[j]? = some e := by simpa using h2
    have hid : es.modify j (fun e => { e with key := key x, val := v }) = es := by
      apply Array.ext_getElem?
      intro i
      rw [Array.getElem?_modify]
      by_cases hij : j = i
      · subst hij
        rw [hj]
        simp
        cases e
        simp at v0 h3
        rw [v0, h3]
      · simp [hij]
    refine ⟨{ w with heap := w.heap.setIfInBounds m (.map es cl) }, ?_, ⟨_, _, (MapKept.heap_set hb).1, hs, he⟩, fr_setObj hb⟩
    simp [Instr.mapUpdate, run_underlying hT, MapKept.run_getObj_map hb, K.chk, h1, hj, h3, Instr.keyThatStays, K.bits, hid, MapKept.run_setObj_map _ hb, Result.andThen]
theorem map_erase {α β : Type} (f : α → β) : ∀ (l : List α) (j : Nat), (l.eraseIdx j).map f = (l.map f).eraseIdx j
  | [], j => by simp
  | a :: r, 0 => rfl
  | a :: r, j + 1 => by simp [map_erase f r j]
/-- delete(m, x), x the last that was put. -/
theorem strike (K : KeyLaws P kt key) (hT : P.underlying T = some (.map kt E)) (h : MapOf key w m ts) {x : κ} {v : Value} (hx : (x, v) ∈ ts) (ty : TypeId) (at' : Array TypeId) (h0 : at'[0]? = some T) [DecidableEq κ] :
    ∃ w', (Builtin.delete_ at' ty #[.map (some m), key x]).run P w = .ok (.tuple #[]) w' ∧ MapOf key w' m (ts.filter fun p => decide (p.1 ≠ x)) ∧ Fr (· = m) w w' := by
  have hnd := MapOf.keys_nodup K h
  obtain ⟨es, cl, hb, hs, he⟩ := h
  have hks := entry_keys he
  obtain ⟨e0, he0, k0, v0⟩ := entry_of he hx
  rcases K.find x es.toList w (fun e h => by obtain ⟨p, _, h2, _⟩ := hks e h; exact ⟨_, h2⟩) with ⟨h1, h2⟩ | ⟨j, e, h1, h2, h3⟩
  · exact absurd k0 (h2 e0 he0)
  · refine ⟨{ w with heap := w.heap.setIfInBounds m (.map (es.eraseIdxIfInBounds j) cl) }, ?_, ⟨_, _, (MapKept.heap_set hb).1, stamped_erase hs j, ?_⟩, fr_setObj hb⟩
    · simp [Builtin.delete_, h0, run_underlying hT, MapKept.run_getObj_map hb, K.chk, h1, MapKept.run_setObj_map _ hb, Result.andThen]
    · have hjl : j < es.size := by
        rcases Nat.lt_or_ge j es.size with q | q
        · exact q
        · simp [Array.getElem?_eq_none q] at h2
      have e1 : (es.eraseIdxIfInBounds j).toList = es.toList.eraseIdx j := by
        unfold Array.eraseIdxIfInBounds
        rw [dif_pos hjl]; simp
      rw [e1]
      have e2 : (es.toList.eraseIdx j).map (fun e => (e.key, e.val)) = (ts.eraseIdx j).map (fun p => (key p.1, p.2)) := by
        rw [map_erase, map_erase, he]
      rw [e2]
      congr 1
      have htj : ∃ p, ts[j]? = some p ∧ p.1 = x := by
        have : (es.toList.map (fun e => (e.key, e.val)))[j]? = some (e.key, e.val) := by simp at h2 ⊢; exact ⟨e, h2, rfl, rfl⟩
        rw [he, List.getElem?_map] at this
        cases hp : ts[j]? with
        | none => rw [hp] at this; simp at this
        | some p =>
          rw [hp] at this
          simp at this
          exact ⟨p, rfl, K.inj _ _ (this.1.trans h3)⟩
      clear e2 e1 hks he hs
      obtain ⟨p, hp, rfl⟩ := htj
      clear hx k0 v0
      induction ts generalizing j with
      | nil => simp at hp
      | cons q r ih =>
        cases j with
        | zero =>
          simp at hp
          subst hp
          simp only [List.eraseIdx_cons_zero]
          rw [List.filter_cons_of_neg (by simp)]
          symm
          rw [List.filter_eq_self]
          intro y hy
          simp only [List.map_cons, List.nodup_cons] at hnd
          simp
          intro e
          exact hnd.1 (e ▸ List.mem_map.2 ⟨y, hy, rfl⟩)
        | succ j =>
          simp at hp
          simp only [List.map_cons, List.nodup_cons] at hnd
          have hq : q.1 ≠ p.1 := fun e => hnd.1 (e ▸ List.mem_map.2 ⟨p, List.mem_of_getElem? hp, rfl⟩)
          rw [List.eraseIdx_cons_succ, List.filter_cons_of_pos (by simp [hq])]
          congr 1
          have : ∀ (r : List (κ × Value)) (j : Nat), (r.map (·.1)).Nodup → r[j]? = some p → r.eraseIdx j = r.filter fun y => decide (y.1 ≠ p.1) := by
            intro r
            induction r with
            | nil => intro j _ h; simp at h
            | cons a r ih2 =>
              intro j hn hp
              simp only [List.map_cons, List.nodup_cons] at hn
              cases j with
              | zero =>
                simp at hp; subst hp
                rw [List.eraseIdx_cons_zero, List.filter_cons_of_neg (by simp)]
                symm
                rw [List.filter_eq_self]
                intro y hy
                simp
                intro e
                exact hn.1 (e ▸ List.mem_map.2 ⟨y, hy, rfl⟩)
              | succ j =>
                simp at hp
                have ha : a.1 ≠ p.1 := fun e => hn.1 (e ▸ List.mem_map.2 ⟨p, List.mem_of_getElem? hp, rfl⟩)
                rw [List.eraseIdx_cons_succ, List.filter_cons_of_pos (by simp [ha]), ih2 j hn.2 hp]
          exact this r j hnd.2 hp

/-- A range over a map that is not turned: the keys that have come. -/
def RangeOf (key : κ → Value) (w : World) (r m : Nat) (ts : List (κ × Value)) (xs : List κ) : Prop :=
  ∃ es clock seen, w.heap[r]? = some (.mapIter (some m) clock seen clock) ∧ w.heap[m]? = some (.map es clock) ∧ Stamped es clock ∧ es.toList.map (fun e => (e.key, e.val)) = ts.map (fun p => (key p.1, p.2)) ∧
    xs.Nodup ∧ (∀ k, k ∈ xs ↔ ∃ e ∈ es.toList, e.key = key k ∧ e.born ∈ seen.toList)
theorem RangeOf.fr {w' : World} {M : Nat → Prop} {r : Nat} {xs : List κ} (h : RangeOf key w r m ts xs) (hf : Fr M w w') (hr : ¬ M r) (hM : ¬ M m) : RangeOf key w' r m ts xs := by
  obtain ⟨es, c, seen, h1, h2, q⟩ := h
  exact ⟨es, c, seen, hf.heap h1 hr, hf.heap h2 hM, q⟩
theorem run_range (hT : P.underlying T = some (.map kt E)) (h : MapOf key w m ts) :
    (Instr.range T (.map (some m))).run P w = .ok (.pointer (some ⟨w.heap.size, 0, none⟩)) (w.alloc (.mapIter (some m) (Classical.choose (Classical.choose_spec h)) #[] (Classical.choose (Classical.choose_spec h)))) := by
  have hb := (Classical.choose_spec (Classical.choose_spec h)).1
  simp [Instr.range, run_underlying hT, MapKept.run_getObj_map hb, Result.andThen, Sem.run, newObj]
theorem range_start (hT : P.underlying T = some (.map kt E)) (h : MapOf key w m ts) :
    ∃ w', (Instr.range T (.map (some m))).run P w = .ok (.pointer (some ⟨w.heap.size, 0, none⟩)) w' ∧ RangeOf key w' w.heap.size m ts [] ∧ Below w.heap.size w w' ∧ w'.heap.size = w.heap.size + 1 := by
  refine ⟨_, run_range hT h, ?_, (Below.refl _ _).alloc (Nat.le_refl _) _, by simp⟩
  have h2 := Classical.choose_spec (Classical.choose_spec h)
  exact ⟨_, _, _, heap_alloc_new _ _, by rw [Below.heap_alloc _ _ _ (lt_heap h2.1)]; exact h2.1, h2.2.1, h2.2.2, by simp, by simp⟩

/-- next: nothing is left; or one that has not come. -/
theorem range_next (K : KeyLaws P kt key) {r : Nat} {xs : List κ} (h : RangeOf key w r m ts xs) (hrm : r ≠ m) (ty : TypeId) :
    ((Instr.next (.pointer (some ⟨r, 0, none⟩)) false ty).run P w = .ok (.tuple #[.bool false]) w ∧ ∀ k, k ∈ xs ↔ k ∈ ts.map (·.1)) ∨
    ∃ x v w', (x, v) ∈ ts ∧ x ∉ xs ∧ (Instr.next (.pointer (some ⟨r, 0, none⟩)) false ty).run P w = .ok (.tuple #[.bool true, key x, v]) w' ∧ RangeOf key w' r m ts (xs ++ [x]) ∧ Fr (· = r) w w' ∧
      (∀ n, (Instr.entry (.pointer (some ⟨r, 0, none⟩))).run P (w'.drewN n) = .ok (.tuple #[key x, v]) (w'.drewN n)) := by
  obtain ⟨es, c, seen, h1, h2, hs, he, hn, hx⟩ := h
  have hks := entry_keys he
  rcases run_next_at w ty r m c c seen es c h1 h2 hs.1 (Nat.le_refl _) with ⟨h0, hrun⟩ | ⟨e, hel, w1, hw1, hrun⟩
  · refine .inl ⟨hrun, fun k => ?_⟩
    have h0' : leftOf es seen = #[] := Array.eq_empty_of_size_eq_zero h0
    unfold leftOf at h0'
    rw [Array.filter_eq_empty_iff] at h0'
    rw [hx]
    constructor
    · rintro ⟨e, he1, he2, _⟩
      obtain ⟨p, hp, h4, _⟩ := hks e he1
      rw [K.inj _ _ (he2.symm.trans h4)]
      exact List.mem_map.2 ⟨p, hp, rfl⟩
    · intro hk
      obtain ⟨p, hp, rfl⟩ := List.mem_map.1 hk
      obtain ⟨e, he1, he2, _⟩ := entry_of he hp
      refine ⟨e, he1, he2, ?_⟩
      have := h0' e (by simpa using he1)
      simpa using this
  · have hel' : e ∈ es.toList ∧ e.born ∉ seen.toList := by
      unfold leftOf at hel
      simpa using hel
    obtain ⟨p, hp, h4, h5⟩ := hks e hel'.1
    have hw1f : Fr (fun _ => False) w w1 := by
      rcases hw1 with rfl | rfl
      · exact Fr.refl _ _
      · exact (Fr.refl _ _).drew
    have hr1 := hw1f.heap h1 (by simp)
    obtain ⟨f2, f3⟩ := fr_setBlock (o' := .mapIter (some m) c (seen.push e.born) c) hr1
    have f4 : Fr (· = r) w (setBlock w1 r (.mapIter (some m) c (seen.push e.born) c)) := (hw1f.mono (fun _ _ h => h.elim)).trans f2
    have hm2 : (setBlock w1 r (.mapIter (some m) c (seen.push e.born) c)).heap[m]? = some (.map es c) := f4.heap h2 (fun e => hrm e.symm)
    refine .inr ⟨p.1, p.2, _, hp, ?_, ?_, ⟨es, c, _, f3, hm2, hs, he, ?_, ?_⟩, f4, ?_⟩
    · intro hin
      obtain ⟨e', a1, a2, a3⟩ := (hx _).1 hin
      have := key_once hs hel'.1 a1 (h4.trans a2.symm)
      subst this
      exact hel'.2 a3
    · rw [hrun, h4, h5]
    · rw [List.nodup_append]
      refine ⟨hn, by simp, ?_⟩
      intro a ha b hb
      simp at hb
      subst hb
      rintro rfl
      obtain ⟨e', a1, a2, a3⟩ := (hx _).1 ha
      have := key_once hs hel'.1 a1 (h4.trans a2.symm)
      subst this
      exact hel'.2 a3
    · intro k
      rw [List.mem_append, hx]
      simp only [List.mem_singleton, Array.toList_push, List.mem_append]
      constructor
      · rintro (⟨e', a1, a2, a3⟩ | rfl)
        · exact ⟨e', a1, a2, .inl a3⟩
        · exact ⟨e, hel'.1, h4, .inr rfl⟩
      · rintro ⟨e', a1, a2, a3 | a3⟩
        · exact .inl ⟨e', a1, a2, a3⟩
        · right
          have hb := (hs.2.1)
          have : e' = e := by
            obtain ⟨i, hi, rfl⟩ := List.getElem_of_mem a1
            obtain ⟨j, hj, rfl⟩ := List.getElem_of_mem hel'.1
            have := (List.pairwise_map.1 hb)
            rcases Nat.lt_trichotomy i j with hij | hij | hij
            · exact absurd a3 (List.pairwise_iff_getElem.1 this i j hi hj hij)
            · subst hij; rfl
            · exact absurd a3.symm (List.pairwise_iff_getElem.1 this j i hj hi hij)
          subst this
          exact K.inj _ _ (a2.symm.trans h4)
    · intro n
      rw [← h4, ← h5]
      exact run_entry_at _ r m c seen es c e f3 hm2 hel'.1 hs.2.1
end

/-- Keys that are strings. -/
def strKey (s : Str) : Value := .string ⟨s.toArray⟩
theorem strKeys {P : Program} {kt : TypeId} (hk : P.underlying kt = some .string) : KeyLaws P kt strKey where
  inj x y h := by
    injection h with h
    have := congrArg (fun b : ByteArray => b.data.toList) h
    simpa using this
  chk e x w := MapKept.run_checkKey hk (by simp [strKey, IsKey]) e 9999
  find x es w h := by
    rcases findNow_spec (d := .string) (k := strKey x) (by simp [strKey, IsKey]) es 0 (fun e he => by obtain ⟨y, hy⟩ := h e he; rw [hy]; simp [strKey, IsKey]) with ⟨h1, h2⟩ | ⟨j, e, h1, h2, h3⟩
    · exact .inl ⟨MapKept.run_findKey hk h1, h2⟩
    · exact .inr ⟨j, e, by rw [MapKept.run_findKey hk h1]; simp, h2, h3⟩
  bits x := by
    show (({ data := x.toArray } : ByteArray) == { data := x.toArray }) = true
    rw [MapKept.bytes_beq]
/-- Keys whose comparing runs. -/
theorem findAsking_run {κ : Type} {P : Program} {kt : TypeId} {key : κ → Value} [DecidableEq κ] (inj : ∀ x y, key x = key y → x = y) (heq : ∀ x y w, (Op.equal kt (key x) (key y)).run P w = .ok (decide (x = y)) w) (x : κ) :
    ∀ (es : List MapEntry) (i : Nat) (w : World), (∀ e ∈ es, ∃ y, e.key = key y) →
    ((Instr.findAsking kt (key x) es i).run P w = .ok none w ∧ ∀ e ∈ es, e.key ≠ key x) ∨ ∃ j e, (Instr.findAsking kt (key x) es i).run P w = .ok (some (i + j, e.val)) w ∧ es[j]? = some e ∧ e.key = key x
  | [], i, w, _ => .inl ⟨rfl, by simp⟩
  | e :: es, i, w, h => by
    obtain ⟨y, hy⟩ := h e (by simp)
    by_cases hxy : x = y
    · subst hxy
      refine .inr ⟨0, e, ?_, rfl, hy⟩
      simp [Instr.findAsking, hy, heq, Result.andThen]
    · rcases findAsking_run inj heq x es (i + 1) w (fun e he => h e (by simp [he])) with ⟨h1, h2⟩ | ⟨j, e', h1, h2, h3⟩
      · refine .inl ⟨?_, ?_⟩
        · simp [Instr.findAsking, hy, heq, hxy, Result.andThen, h1]
        · intro e' he'
          rcases List.mem_cons.1 he' with rfl | he'
          · rw [hy]; exact fun q => hxy (inj _ _ q).symm
          · exact h2 e' he'
      · refine .inr ⟨j + 1, e', ?_, by simpa using h2, h3⟩
        simp [Instr.findAsking, hy, heq, hxy, Result.andThen, h1]
        omega
end Go.Proofs.YtcaamakodneplaaGreat

/-
  Package graph: what a maker holds in memory; put.
-/
namespace Go.Proofs.YtcaamakodneplaaGreat
open Go Go.RowKit
set_option linter.unusedVariables false
set_option maxRecDepth 100000

def encR (r : RelS) : List Value := [.int .i64 r.kind, .string ⟨r.name.toArray⟩]
def encI (n : Int) : List Value := [.int .i64 n]
/-- A slice that came in: an address, or none. -/
structure RowArg {α : Type} (enc : α → List Value) (k : Nat) (w : World) (v : Value) (l : List α) : Prop where
  ex : ∃ oa cap, v = .slice oa l.length cap ∧ RowRd enc k w oa l
theorem RowArg.below {α : Type} {enc : α → List Value} {k : Nat} {w w' : World} {v : Value} {l : List α} (h : RowArg enc k w v l) (hb : Below w.heap.size w w') : RowArg enc k w' v l := by
  obtain ⟨oa, cap, e, hr⟩ := h.ex
  exact ⟨oa, cap, e, hr.below hb⟩
structure TxtArg (w : World) (v : Value) (l : List Str) : Prop where
  ex : ∃ oa cap, v = .slice oa l.length cap ∧ StrRow w oa l
theorem TxtArg.below {w w' : World} {v : Value} {l : List Str} (h : TxtArg w v l) (hb : Below w.heap.size w w') : TxtArg w' v l := by
  obtain ⟨oa, cap, e, hr⟩ := h.ex
  exact ⟨oa, cap, e, hr.below hb⟩

/-- What a loaded unit's text takes. -/
structure LdSmall (x : LdS) : Prop where
  name : x.name.length < 4194304
  uname : x.uname.length < 4194304
  unit : x.unit.length < 4194304
  rels : x.rels.length < 4194304
  socks : x.socks.length < 4194304
  wants : x.wants.length < 4194304
  reqs : x.reqs.length < 4194304
  rel : ∀ r ∈ x.rels, r.name.length < 4194304
  sock : ∀ s ∈ x.socks, s.length < 4194304
  want : ∀ s ∈ x.wants, s.length < 4194304
  req : ∀ s ∈ x.reqs, s.length < 4194304

/-- The cells of a loaded unit read as x. -/
structure LdRd (w : World) (cs : Array Value) (x : LdS) : Prop where
  size : cs.size = 42
  one : (cs.all fun v => v.oneCell') = true
  name : cs[0]? = some (.string ⟨x.name.toArray⟩)
  state : cs[1]? = some (.int .i64 x.state)
  uname : cs[5]? = some (.string ⟨x.uname.toArray⟩)
  ukind : cs[6]? = some (.int .i64 x.ukind)
  dflt : cs[8]? = some (.bool x.dflt)
  rels : ∃ v, cs[9]? = some v ∧ RowArg encR 2 w v x.rels
  socks : ∃ v, cs[25]? = some v ∧ TxtArg w v x.socks
  unit : cs[29]? = some (.string ⟨x.unit.toArray⟩)
  wants : ∃ v, cs[40]? = some v ∧ TxtArg w v x.wants
  reqs : ∃ v, cs[41]? = some v ∧ TxtArg w v x.reqs
  small : LdSmall x
theorem LdRd.below {w w' : World} {cs : Array Value} {x : LdS} (h : LdRd w cs x) (hb : Below w.heap.size w w') : LdRd w' cs x := by
  obtain ⟨v1, a1, b1⟩ := h.rels
  obtain ⟨v2, a2, b2⟩ := h.socks
  obtain ⟨v3, a3, b3⟩ := h.wants
  obtain ⟨v4, a4, b4⟩ := h.reqs
  exact { h with rels := ⟨v1, a1, b1.below hb⟩, socks := ⟨v2, a2, b2.below hb⟩, wants := ⟨v3, a3, b3.below hb⟩, reqs := ⟨v4, a4, b4.below hb⟩ }

/-- A table's values, by their names. -/
structure TabRd (w : World) (tv : List (Str × Value)) (t : List LdS) : Prop where
  keys : tv.map (·.1) = t.map (·.name)
  vals : ∀ i (h : i < t.length) (h2 : i < tv.length), ∃ cs, tv[i].2 = .agg cs ∧ LdRd w cs t[i]
theorem TabRd.below {w w' : World} {tv : List (Str × Value)} {t : List LdS} (h : TabRd w tv t) (hb : Below w.heap.size w w') : TabRd w' tv t :=
  ⟨h.keys, fun i h1 h2 => by obtain ⟨cs, e, hr⟩ := h.vals i h1 h2; exact ⟨cs, e, hr.below hb⟩⟩
theorem TabRd.len {w : World} {tv : List (Str × Value)} {t : List LdS} (h : TabRd w tv t) : tv.length = t.length := by
  have := congrArg List.length h.keys
  simpa using this
/-- Look-up in a table. -/
theorem TabRd.look {w : World} {tv : List (Str × Value)} {t : List LdS} (h : TabRd w tv t) (s : Str) : (lookS t s = none ∧ ∀ p ∈ tv, p.1 ≠ s) ∨ ∃ x cs, lookS t s = some x ∧ (s, .agg cs) ∈ tv ∧ LdRd w cs x ∧ x.name = s := by
  unfold lookS
  cases hq : t.find? (fun x => x.name == s) with
  | none =>
    refine .inl ⟨rfl, fun p hp e => ?_⟩
    rw [List.find?_eq_none] at hq
    have : p.1 ∈ t.map (·.name) := by rw [← h.keys]; exact List.mem_map.2 ⟨p, hp, rfl⟩
    obtain ⟨x, hx, e2⟩ := List.mem_map.1 this
    exact hq x hx (by simp [e2, e])
  | some x =>
    refine .inr ?_
    have hx := List.mem_of_find?_eq_some hq
    have hn : x.name = s := by have := List.find?_some hq; simpa using this
    obtain ⟨i, hi, e⟩ := List.getElem_of_mem hx
    have hi2 : i < tv.length := by rw [h.len]; exact hi
    obtain ⟨cs, e2, hr⟩ := h.vals i hi hi2
    refine ⟨x, cs, rfl, ?_, by rw [← e]; exact hr, hn⟩
    have h1 : (tv.map (·.1))[i]'(by simpa using hi2) = (t.map (·.name))[i]'(by simpa using hi) := by simp only [h.keys]
    simp only [List.getElem_map] at h1
    have : tv[i] = (s, .agg cs) := Prod.ext (h1.trans (by rw [e, hn])) e2
    rw [← this]; exact List.getElem_mem _

def edgeKey (e : EdgeS) : Value := .agg (encE e).toArray
def edgeVals (es : List EdgeS) : List (EdgeS × Value) := es.map fun e => (e, .bool true)
/-- Edges more, each once. -/
def addE (es : List EdgeS) (l : List EdgeS) : List EdgeS := l.foldl (fun acc e => if e ∈ acc then acc else acc ++ [e]) es
theorem addE_append (es a b : List EdgeS) : addE es (a ++ b) = addE (addE es a) b := by simp [addE, List.foldl_append]
theorem addE_nil (es : List EdgeS) : addE es [] = es := rfl
theorem addE_one (es : List EdgeS) (e : EdgeS) : addE es [e] = if e ∈ es then es else es ++ [e] := rfl
theorem mem_addE (es l : List EdgeS) (y : EdgeS) : y ∈ addE es l ↔ y ∈ es ∨ y ∈ l := by
  induction l generalizing es with
  | nil => simp [addE]
  | cons x r ih =>
    have : addE es (x :: r) = addE (addE es [x]) r := rfl
    rw [this, ih, addE_one, List.mem_cons]
    by_cases hx : x ∈ es
    · rw [if_pos hx]
      constructor
      · rintro (h | h) <;> simp [h]
      · rintro (h | rfl | h)
        · exact .inl h
        · exact .inl hx
        · exact .inr h
    · rw [if_neg hx]; simp [or_assoc]

/-- What a maker holds. -/
structure Mk (w : World) (B ML ME : Nat) (tv : List (Str × Value)) (es : List EdgeS) : Prop where
  box : w.heap[B]? = some (.cells #[.map (some ML), .map (some ME)] 69 (0, 0))
  tab : MapOf strKey w ML tv
  set : MapOf edgeKey w ME (edgeVals es)
  ne : B ≠ ME ∧ ML ≠ ME ∧ B ≠ ML
theorem Mk.fr {w w' : World} {B ML ME : Nat} {tv : List (Str × Value)} {es : List EdgeS} {M : Nat → Prop} (h : Mk w B ML ME tv es) (hf : Fr M w w') (h1 : ¬ M B) (h2 : ¬ M ML) (h3 : ¬ M ME) : Mk w' B ML ME tv es :=
  ⟨hf.heap h.box h1, h.tab.fr hf h2, h.set.fr hf h3, h.ne⟩
theorem Mk.below {w w' : World} {B ML ME : Nat} {tv : List (Str × Value)} {es : List EdgeS} (h : Mk w B ML ME tv es) (hb : Below w.heap.size w w') : Mk w' B ML ME tv es :=
  ⟨(hb.block _ (lt_heap h.box)).trans h.box, h.tab.below hb h.tab.lt, h.set.below hb h.set.lt, h.ne⟩

theorem edge_eq (x y : EdgeS) (w : World) : (Op.equal 58 (edgeKey x) (edgeKey y)).run Tryz.prog w = .ok (decide (x = y)) w := by
  have u3 := Tryz.underlying3
  have u9 := Tryz.underlying9
  have a3 := Tryz.isAgg3
  have z3 := Tryz.sizeOf3
  have a9 := Tryz.isAgg9
  have z9 := Tryz.sizeOf9
  have hS : Tryz.prog.underlying 58 = some (.struct (Tryz.prog.fieldsOf 58)) := by kernel_rfl
  have hp : Tryz.prog.stoodInHeld 58 = false := by kernel_rfl
  simp only [edgeKey, encE]
  rw [show Op.equal 58 = Op.equalIn (9999 + 1) 58 from rfl, run_equalIn_agg w 9999 58 _ _ hS hp]
  simp only [Program.fieldsOf, Tryz.underlying58]
  go_simp
  obtain ⟨x1, x2, x3⟩ := x
  obtain ⟨y1, y2, y3⟩ := y
  by_cases h1 : x1 = y1 <;> by_cases h2 : x2 = y2 <;> by_cases h3 : x3 = y3 <;> simp [h1, h2, h3]
theorem edgeKeys : KeyLaws Tryz.prog 58 edgeKey where
  inj x y h := by
    obtain ⟨x1, x2, x3⟩ := x
    obtain ⟨y1, y2, y3⟩ := y
    simp [edgeKey, encE] at h
    obtain ⟨rfl, rfl, rfl⟩ := h
    rfl
  chk e x w := by
    have u3 := Tryz.underlying3
    have u9 := Tryz.underlying9
    have a3 := Tryz.isAgg3
    have z3 := Tryz.sizeOf3
    have a9 := Tryz.isAgg9
    have z9 := Tryz.sizeOf9
    simp only [edgeKey, encE]
    rw [show (10000 : Nat) = 9998 + 1 + 1 from rfl]
    unfold Instr.checkKey
    simp only [Sem.run_bind, run_underlying Tryz.underlying58, Result.andThen_ok]
    unfold Instr.checkKey
    go_simp
  find x es w h := by
    have hd : ∀ (k : Value) (es : List MapEntry), (∀ e ∈ es, ∃ y, e.key = edgeKey y) → es ≠ [] → ∀ fs i, Instr.findNow (.struct fs) k es i = none := by
      intro k es _ hne fs i
      cases es with
      | nil => exact absurd rfl hne
      | cons e es => unfold Instr.findNow Instr.sameNow; rfl
    cases es with
    | nil =>
      refine .inl ⟨?_, by simp⟩
      simp [Instr.findKey, run_underlying Tryz.underlying58, Instr.findNow, Result.andThen]
    | cons e es =>
      have h1 : (Instr.findKey 58 (edgeKey x) (e :: es)).run Tryz.prog w = (Instr.findAsking 58 (edgeKey x) (e :: es)).run Tryz.prog w := by
        unfold Instr.findKey
        simp only [Sem.run_bind, run_underlying Tryz.underlying58, Result.andThen_ok, hd (edgeKey x) (e :: es) h (by simp)]
      rw [h1]
      have := findAsking_run (P := Tryz.prog) (kt := 58) (key := edgeKey) (fun x y h => by
        obtain ⟨x1, x2, x3⟩ := x
        obtain ⟨y1, y2, y3⟩ := y
        simp [edgeKey, encE] at h
        obtain ⟨rfl, rfl, rfl⟩ := h
        rfl) edge_eq x (e :: es) 0 w h
      simpa using this
  bits x := by
    have hb : ∀ s : Str, (({ data := s.toArray } : ByteArray) == { data := s.toArray }) = true := fun s => by rw [MapKept.bytes_beq]
    simp [edgeKey, encE, Instr.sameBits, hb]
end Go.Proofs.YtcaamakodneplaaGreat

/-
  Package graph: the maker's put, has.
-/
namespace Go.Proofs.YtcaamakodneplaaGreat
open Go Go.RowKit
set_option linter.unusedVariables false
set_option maxRecDepth 100000

def loadedZero : Array Value := #[.string ⟨#[]⟩, .int .i64 0, .string ⟨#[]⟩, .int .i64 0, .int .i64 0, .string ⟨#[]⟩, .int .i64 0, .string ⟨#[]⟩, .bool false, .slice none 0 0, .int .i64 0, .int .i64 0, .int .i64 0, .slice none 0 0, .slice none 0 0, .slice none 0 0, .slice none 0 0, .slice none 0 0, .bool false, .int .i64 0, .int .i64 0, .int .i64 0, .int .i64 0, .slice none 0 0, .slice none 0 0, .slice none 0 0, .slice none 0 0, .int .i64 0, .string ⟨#[]⟩, .string ⟨#[]⟩, .slice none 0 0, .slice none 0 0, .slice none 0 0, .slice none 0 0, .bool false, .slice none 0 0, .slice none 0 0, .slice none 0 0, .slice none 0 0, .string ⟨#[]⟩, .slice none 0 0, .slice none 0 0]
theorem run_alloc_loaded (w : World) : (Instr.alloc 53 true (.tuple #[])).run Tryz.prog w = .ok (.pointer (some ⟨w.heap.size, 0, none⟩)) (w.alloc (.cells loadedZero 53)) := rfl
theorem zero_loaded (w : World) : (zeroValue 53).run Tryz.prog w = .ok (.agg loadedZero) w := rfl
theorem zero_one : (loadedZero.all fun v => v.oneCell') = true := by rw [← Array.all_toList]; rfl

/-- Looking a unit up. -/
theorem mlook {w : World} {B ML ME : Nat} {tv : List (Str × Value)} {t : List LdS} {es : List EdgeS} (hM : Mk w B ML ME tv es) (hT : TabRd w tv t) (s : Str) (c : Bool) :
    ∃ cs b, (Instr.lookup 66 (.map (some ML)) (.string ⟨s.toArray⟩) c).run Tryz.prog w = .ok (if c then .tuple #[.agg cs, .bool b] else .agg cs) w ∧ cs.size = 42 ∧ (cs.all fun v => v.oneCell') = true ∧
      ((b = false ∧ lookS t s = none ∧ cs = loadedZero) ∨ ∃ x, b = true ∧ lookS t s = some x ∧ LdRd w cs x ∧ x.name = s) := by
  have K : KeyLaws Tryz.prog 9 strKey := strKeys Tryz.underlying9
  rcases hT.look s with ⟨h1, h2⟩ | ⟨x, cs, h1, h2, h3, h4⟩
  · exact ⟨loadedZero, false, look_none K Tryz.underlying66 hM.tab s h2 (zero_loaded w) c, rfl, zero_one, .inl ⟨rfl, h1, rfl⟩⟩
  · exact ⟨cs, true, look_some K Tryz.underlying66 hM.tab h2 c, h3.size, h3.one, .inr ⟨x, rfl, h1, h3, h4⟩⟩
/-- Laying an edge. -/
theorem mlay {w : World} {B ML ME : Nat} {tv : List (Str × Value)} {es : List EdgeS} (hM : Mk w B ML ME tv es) (e : EdgeS) :
    ∃ w', (Instr.mapUpdate 67 (.map (some ME)) (.agg #[.string ⟨e.src.toArray⟩, .string ⟨e.dst.toArray⟩, .int .i64 e.rel]) (.bool true)).run Tryz.prog w = .ok () w' ∧ Mk w' B ML ME tv (addE es [e]) ∧ Fr (fun k => k = ME) w w' := by
  have hr : ∀ w' : World, Fr (fun k => k = ME) w w' → MapOf edgeKey w' ME (edgeVals (addE es [e])) → Mk w' B ML ME tv (addE es [e]) := fun w' hf hs =>
    ⟨hf.heap hM.box hM.ne.1, hM.tab.fr hf hM.ne.2.1, hs, hM.ne⟩
  by_cases he : e ∈ es
  · obtain ⟨w', h1, h2, h3⟩ := put_same edgeKeys Tryz.underlying67 hM.set (x := e) (v := .bool true) (List.mem_map.2 ⟨e, he, rfl⟩)
    refine ⟨w', h1, hr w' h3 ?_, h3⟩
    rw [addE_one, if_pos he]; exact h2
  · obtain ⟨w', h1, h2, h3⟩ := put_new edgeKeys Tryz.underlying67 hM.set e (fun p hp e2 => by
      obtain ⟨y, hy, rfl⟩ := List.mem_map.1 hp
      exact he (e2 ▸ hy)) (.bool true)
    refine ⟨w', h1, hr w' h3 ?_, h3⟩
    rw [addE_one, if_neg he]
    unfold edgeVals at *
    rw [List.map_append]; exact h2

/-- What put, and what puts, leave. -/
def PutTo (w : World) (B ML ME : Nat) (tv : List (Str × Value)) (es : List EdgeS) (e : Ending) (w' : World) : Prop :=
  e = .returned (.tuple #[]) ∧ Mk w' B ML ME tv es ∧ Fr (fun k => k = ME) w w'

set_option maxHeartbeats 2000000 in
theorem mput_any (B ML ME : Nat) (tv : List (Str × Value)) (t : List LdS) (es : List EdgeS) (src dst : Str) (rels : List Int) (g : Nat) (w : World) (hM : Mk w B ML ME tv es) (hT : TabRd w tv t)
    (hr : RowRd encI 1 w (some ⟨g, 0, none⟩) rels) (hl : rels.length ≤ 2) (es' : List EdgeS) (he : addE es (putS t src dst rels) = es') :
    Calls Tryz.prog 50 #[.pointer (some ⟨B, 0, none⟩), .string ⟨src.toArray⟩, .string ⟨dst.toArray⟩, .slice (some ⟨g, 0, none⟩) rels.length rels.length] w fun e w' => PutTo w B ML ME tv es' e w' := by
  obtain ⟨cs, b, hlk, hsz, hone, hb⟩ := mlook hM hT dst true
  obtain ⟨rb, -, -, hBlt⟩ := rd hM.box
  have m0 := rb 0
  simp only [List.getElem?_toArray, List.getElem?_cons_zero] at m0
  have HM := Lib.hid hM; have HR := Lib.hid hr; have HE := Lib.hid he; have HZ := Lib.hid hsz; have HO := Lib.hid hone
  simp only [if_true] at hlk
  have hMElt := HM.out.set.lt
  have hdone : ∀ w3 w4 : World, Below w.heap.size w w3 → Fr (fun x => x = w.heap.size) w3 w4 → Below w.heap.size w w4 := fun w3 w4 h3 h4 => h3.trans (h4.below _ h3.size (fun k hk e => by omega))
  have HD := Lib.hid hdone
  have hno : putS t src dst rels = [] → es' = es := fun h => by rw [← HE.out, h]; rfl
  have Hno := Lib.hid hno
  clear hM hr he rb hsz hone hdone hno
  rcases hb with ⟨rfl, hlo, -⟩ | ⟨x, rfl, hlo, -, -⟩
  · have HF := Lib.hid (Hno.out (by unfold putS; rw [hlo]; simp))
    clear hlo
    go_enter Tryz.func50, Tryz.ntmps50
    go_wp2_with (first
      | (refine l_alloc rfl 53 loadedZero rfl (run_alloc_loaded _) ?_; intro w3 h3 hb3)
      | (refine l_store rfl 53 _ _ w.heap.size cs loadedZero 53 rfl rfl rfl h3 (by rw [HZ.out]; rfl) (by rw [HZ.out]; rfl) HO.out ?_; intro w4 h4 hf4))
    refine bodyPost_ret (results_none rfl _ _ _) rfl ?_
    have hb4 := HD.out _ _ hb3 hf4
    exact ⟨rfl, by rw [HF.out]; exact HM.out.below hb4, Fr.of_below hb4 _⟩
  · cases hsd : (src == dst) with
    | true =>
      have HF := Lib.hid (Hno.out (by unfold putS; rw [if_neg (fun q => q.2 (eq_of_beq hsd))]))
      clear hlo
      go_enter Tryz.func50, Tryz.ntmps50
      go_wp2_with (first
        | (refine l_alloc rfl 53 loadedZero rfl (run_alloc_loaded _) ?_; intro w3 h3 hb3)
        | (refine l_store rfl 53 _ _ w.heap.size cs loadedZero 53 rfl rfl rfl h3 (by rw [HZ.out]; rfl) (by rw [HZ.out]; rfl) HO.out ?_; intro w4 h4 hf4))
      refine bodyPost_ret (results_none rfl _ _ _) rfl ?_
      have hb4 := HD.out _ _ hb3 hf4
      exact ⟨rfl, by rw [HF.out]; exact HM.out.below hb4, Fr.of_below hb4 _⟩
    | false =>
      have HF := Lib.hid (show addE es (rels.map fun r => (⟨src, dst, r⟩ : EdgeS)) = es' by
        rw [← HE.out]; unfold putS
        rw [if_pos ⟨by rw [hlo]; rfl, by rw [beq_eq_false_iff_ne] at hsd; exact hsd⟩])
      clear hlo
      go_enter Tryz.func50, Tryz.ntmps50
      go_wp2_with (first
        | (refine l_alloc rfl 53 loadedZero rfl (run_alloc_loaded _) ?_; intro w3 h3 hb3)
        | (refine l_store rfl 53 _ _ w.heap.size cs loadedZero 53 rfl rfl rfl h3 (by rw [HZ.out]; rfl) (by rw [HZ.out]; rfl) HO.out ?_; intro w4 h4 hf4))
      have hb4 := HD.out _ _ hb3 hf4
      have HM4 := Lib.hid (HM.out.below hb4)
      have HR4 := Lib.hid (HR.out.below hb4)
      have HF4 := Lib.hid (Fr.of_below hb4 (fun k => k = ME))
      clear hb3 h3 h4 hf4 hb4 hlk m0
      go_loopg [30] (rels.length + 1) (fun f i wr => ∃ k : Nat, k ≤ rels.length ∧ i = .int .i64 k ∧ rels.length - k < f ∧ Hid (Mk wr B ML ME tv (addE es ((rels.take k).map fun r => (⟨src, dst, r⟩ : EdgeS)))) ∧ Hid (Fr (fun k => k = ME) w wr) ∧ Hid (RowRd encI 1 wr (some ⟨g, 0, none⟩) rels))
      case atStart => exact ⟨0, by omega, rfl, by omega, HM4, HF4, HR4⟩
      case round =>
        obtain ⟨k, hk, rfl, hf, HMk, HFk, HRk⟩ := hrel
        obtain ⟨rb, -, -, hBlt2⟩ := rd HMk.out.box
        have m1 := rb 1
        simp only [List.getElem?_toArray, List.getElem?_cons_zero, List.getElem?_cons_succ] at m1
        clear rb
        by_cases hlt : k < rels.length
        · obtain ⟨b, o, e3, hblt, hcc⟩ := HRk.out k hlt
          injection e3 with e3
          injection e3 with e4 e5 e6
          subst e4; subst e5
          obtain ⟨x, hx⟩ : ∃ x, x = rels[k] := ⟨_, rfl⟩
          rw [← hx] at hcc
          have d0 := hcc 0 _ rfl
          simp only [Nat.add_zero, Nat.mul_one, Nat.zero_add] at d0
          have hsn : (rels.take (k + 1)).map (fun r => (⟨src, dst, r⟩ : EdgeS)) = (rels.take k).map (fun r => (⟨src, dst, r⟩ : EdgeS)) ++ [⟨src, dst, x⟩] := by
            rw [List.take_succ_eq_append_getElem hlt, List.map_append, hx]; rfl
          have HS := Lib.hid hsn
          obtain ⟨w5, hup, hM5, hf5⟩ := mlay HMk.out ⟨src, dst, x⟩
          have HM5 := Lib.hid (show Mk w5 B ML ME tv (addE es ((rels.take (k + 1)).map fun r => (⟨src, dst, r⟩ : EdgeS))) by rw [hsn, addE_append]; exact hM5)
          have HF5 := Lib.hid (HFk.out.trans hf5)
          have i5 : (k : Int) < (rels.length : Int) := by omega
          have HR5 := Lib.hid (show RowRd encI 1 w5 (some ⟨g, 0, none⟩) rels by
            intro i hi
            obtain ⟨b1, o1, e1, hl1, hc1⟩ := HRk.out i hi
            refine ⟨b1, o1, e1, Nat.lt_of_lt_of_le hl1 hf5.size, fun j v hv => ?_⟩
            have hne : b1 ≠ ME := by
              rintro rfl
              have h0 := hc1 0 _ (show (encI rels[i])[0]? = some (.int .i64 rels[i]) from rfl)
              obtain ⟨es0, c0, hb0, _⟩ := HMk.out.set
              simp [World.cell?, hb0] at h0
            rw [← hc1 j v hv]
            simp only [World.cell?]
            rw [hf5.block b1 hl1 hne])
          clear hcc hx hsn hM5 hf5
          go_wp2_with fail
          go_roundg (gk - 1)
          case measure => omega
          case rel => exact ⟨k + 1, by omega, by go_num, by omega, HM5, HF5, HR5⟩
        · have HM6 := Lib.hid (show Mk wr B ML ME tv es' by
            have := HMk.out
            rw [List.take_of_length_le (by omega), HF.out] at this
            exact this)
          go_wp2_with fail
          refine bodyPost_ret (results_none rfl _ _ _) rfl ?_
          exact ⟨rfl, HM6.out, HFk.out⟩
end Go.Proofs.YtcaamakodneplaaGreat

/-
  Equality of relations, nodes, edges as the program's operations compute it.
-/
namespace Go.Proofs.YtcaamakodneplaaGreat
open Go Go.RowKit
set_option linter.unusedVariables false
set_option maxRecDepth 100000

theorem eqR (x y : RelS) (w : World) : (Op.equalIn 10000 56 (.agg #[.int .i64 x.kind, .string ⟨x.name.toArray⟩]) (.agg #[.int .i64 y.kind, .string ⟨y.name.toArray⟩])).run Tryz.prog w = .ok (decide (x = y)) w := by
  have u3 := Tryz.underlying3
  have u9 := Tryz.underlying9
  have a3 := Tryz.isAgg3
  have z3 := Tryz.sizeOf3
  have a9 := Tryz.isAgg9
  have z9 := Tryz.sizeOf9
  have hS : Tryz.prog.underlying 56 = some (.struct (Tryz.prog.fieldsOf 56)) := by kernel_rfl
  have hp : Tryz.prog.stoodInHeld 56 = false := by kernel_rfl
  rw [show (10000 : Nat) = 9999 + 1 from rfl, run_equalIn_agg w 9999 56 _ _ hS hp]
  simp only [Program.fieldsOf, Tryz.underlying56]
  go_simp
  obtain ⟨x1, x2⟩ := x
  obtain ⟨y1, y2⟩ := y
  by_cases h1 : x1 = y1 <;> by_cases h2 : x2 = y2 <;> simp [h1, h2]
theorem run_eql_R (x y : RelS) (b : Bool) (h : decide (x = y) = b) (w : World) : (binOp .eql 56 (.agg #[.int .i64 x.kind, .string ⟨x.name.toArray⟩]) (.agg #[.int .i64 y.kind, .string ⟨y.name.toArray⟩])).run Tryz.prog w = .ok (.bool b) w := by
  rw [run_eql_struct, eqR, h]; rfl
theorem run_neq_R (x y : RelS) (b : Bool) (h : decide (x = y) = b) (w : World) : (binOp .neq 56 (.agg #[.int .i64 x.kind, .string ⟨x.name.toArray⟩]) (.agg #[.int .i64 y.kind, .string ⟨y.name.toArray⟩])).run Tryz.prog w = .ok (.bool !b) w := by
  rw [run_neq_struct, eqR, h]; rfl
theorem guardR : Tryz.prog.eqGuardType Tryz.prog.depth 56 = false := by kernel_rfl
theorem run_guard_R (op : BinOp) (x y : Operand) (xs ys : Array Value) (w : World) : (eqGuard op 56 x y (.agg xs) (.agg ys)).run Tryz.prog w = .ok () w := run_eqGuard_agg w op _ x y xs ys guardR

theorem eqN (x y : NodeS) (w : World) : (Op.equalIn 10000 32 (.agg #[.string ⟨x.name.toArray⟩, .int .i64 x.kind, .int .i64 x.state]) (.agg #[.string ⟨y.name.toArray⟩, .int .i64 y.kind, .int .i64 y.state])).run Tryz.prog w = .ok (decide (x = y)) w := by
  have u3 := Tryz.underlying3
  have u9 := Tryz.underlying9
  have a3 := Tryz.isAgg3
  have z3 := Tryz.sizeOf3
  have a9 := Tryz.isAgg9
  have z9 := Tryz.sizeOf9
  have hS : Tryz.prog.underlying 32 = some (.struct (Tryz.prog.fieldsOf 32)) := by kernel_rfl
  have hp : Tryz.prog.stoodInHeld 32 = false := by kernel_rfl
  rw [show (10000 : Nat) = 9999 + 1 from rfl, run_equalIn_agg w 9999 32 _ _ hS hp]
  simp only [Program.fieldsOf, Tryz.underlying32]
  go_simp
  obtain ⟨x1, x2, x3⟩ := x
  obtain ⟨y1, y2, y3⟩ := y
  by_cases h1 : x1 = y1 <;> by_cases h2 : x2 = y2 <;> by_cases h3 : x3 = y3 <;> simp [h1, h2, h3]
theorem run_eql_N (x y : NodeS) (b : Bool) (h : decide (x = y) = b) (w : World) : (binOp .eql 32 (.agg #[.string ⟨x.name.toArray⟩, .int .i64 x.kind, .int .i64 x.state]) (.agg #[.string ⟨y.name.toArray⟩, .int .i64 y.kind, .int .i64 y.state])).run Tryz.prog w = .ok (.bool b) w := by
  rw [run_eql_struct, eqN, h]; rfl
theorem run_neq_N (x y : NodeS) (b : Bool) (h : decide (x = y) = b) (w : World) : (binOp .neq 32 (.agg #[.string ⟨x.name.toArray⟩, .int .i64 x.kind, .int .i64 x.state]) (.agg #[.string ⟨y.name.toArray⟩, .int .i64 y.kind, .int .i64 y.state])).run Tryz.prog w = .ok (.bool !b) w := by
  rw [run_neq_struct, eqN, h]; rfl
theorem guardN : Tryz.prog.eqGuardType Tryz.prog.depth 32 = false := by kernel_rfl
theorem run_guard_N (op : BinOp) (x y : Operand) (xs ys : Array Value) (w : World) : (eqGuard op 32 x y (.agg xs) (.agg ys)).run Tryz.prog w = .ok () w := run_eqGuard_agg w op _ x y xs ys guardN

theorem eqE (x y : EdgeS) (w : World) : (Op.equalIn 10000 58 (.agg #[.string ⟨x.src.toArray⟩, .string ⟨x.dst.toArray⟩, .int .i64 x.rel]) (.agg #[.string ⟨y.src.toArray⟩, .string ⟨y.dst.toArray⟩, .int .i64 y.rel])).run Tryz.prog w = .ok (decide (x = y)) w := by
  have u3 := Tryz.underlying3
  have u9 := Tryz.underlying9
  have a3 := Tryz.isAgg3
  have z3 := Tryz.sizeOf3
  have a9 := Tryz.isAgg9
  have z9 := Tryz.sizeOf9
  have hS : Tryz.prog.underlying 58 = some (.struct (Tryz.prog.fieldsOf 58)) := by kernel_rfl
  have hp : Tryz.prog.stoodInHeld 58 = false := by kernel_rfl
  rw [show (10000 : Nat) = 9999 + 1 from rfl, run_equalIn_agg w 9999 58 _ _ hS hp]
  simp only [Program.fieldsOf, Tryz.underlying58]
  go_simp
  obtain ⟨x1, x2, x3⟩ := x
  obtain ⟨y1, y2, y3⟩ := y
  by_cases h1 : x1 = y1 <;> by_cases h2 : x2 = y2 <;> by_cases h3 : x3 = y3 <;> simp [h1, h2, h3]
theorem run_eql_E (x y : EdgeS) (b : Bool) (h : decide (x = y) = b) (w : World) : (binOp .eql 58 (.agg #[.string ⟨x.src.toArray⟩, .string ⟨x.dst.toArray⟩, .int .i64 x.rel]) (.agg #[.string ⟨y.src.toArray⟩, .string ⟨y.dst.toArray⟩, .int .i64 y.rel])).run Tryz.prog w = .ok (.bool b) w := by
  rw [run_eql_struct, eqE, h]; rfl
theorem run_neq_E (x y : EdgeS) (b : Bool) (h : decide (x = y) = b) (w : World) : (binOp .neq 58 (.agg #[.string ⟨x.src.toArray⟩, .string ⟨x.dst.toArray⟩, .int .i64 x.rel]) (.agg #[.string ⟨y.src.toArray⟩, .string ⟨y.dst.toArray⟩, .int .i64 y.rel])).run Tryz.prog w = .ok (.bool !b) w := by
  rw [run_neq_struct, eqE, h]; rfl
theorem guardE : Tryz.prog.eqGuardType Tryz.prog.depth 58 = false := by kernel_rfl
theorem run_guard_E (op : BinOp) (x y : Operand) (xs ys : Array Value) (w : World) : (eqGuard op 58 x y (.agg xs) (.agg ys)).run Tryz.prog w = .ok () w := run_eqGuard_agg w op _ x y xs ys guardE
end Go.Proofs.YtcaamakodneplaaGreat

/-
  Package graph: the maker's has (and slices.Contains at relations).
-/
namespace Go.Proofs.YtcaamakodneplaaGreat
open Go Go.RowKit
set_option linter.unusedVariables false
set_option maxRecDepth 100000

def IdxTo (w : World) (b : Bool) (e : Ending) (w' : World) : Prop := ∃ i : Int, e = .returned (.int .i64 i) ∧ decide (0 ≤ i) = b ∧ Below w.heap.size w w'

set_option maxHeartbeats 1000000 in
theorem indexR_any (v : Value) (l : List RelS) (x : RelS) (w : World) (hr : RowArg encR 2 w v l) (hl : l.length < 4611686018427387904) (b : Bool) (hb : l.contains x = b) :
    Calls Tryz.prog 127 #[v, .agg #[.int .i64 x.kind, .string ⟨x.name.toArray⟩]] w fun e w' => IdxTo w b e w' := by
  obtain ⟨oa, cap, rfl, hrow⟩ := hr.ex
  have HB0 := Lib.hid ((Below.refl w.heap.size w).alloc (Nat.le_refl _) (.cells #[.int .i64 x.kind, .string ⟨x.name.toArray⟩] 56))
  have HX := Lib.hid (heap_alloc_new w (.cells #[.int .i64 x.kind, .string ⟨x.name.toArray⟩] 56))
  have HR := Lib.hid hrow
  have HC := Lib.hid hb
  clear hr hrow hb
  go_enter Tryz.func127, Tryz.ntmps127
  go_wp2_with fail
  generalize w.alloc (.cells #[.int .i64 x.kind, .string ⟨x.name.toArray⟩] 56) = w1 at *
  go_loopg [8] (l.length + 1) (fun f i wr => ∃ k : Nat, k ≤ l.length ∧ i = .int .i64 k ∧ l.length - k < f ∧ Hid ((l.take k).contains x = false) ∧ ∃ n, wr = w1.drewN n)
  case atStart => exact ⟨0, by omega, rfl, by omega, Lib.hid (by simp), 0, rfl⟩
  case round =>
    obtain ⟨k, hk, rfl, hf, Hno, n, rfl⟩ := hrel
    by_cases hlt : k < l.length
    · obtain ⟨b1, o1, rfl, hlt1, hcc⟩ := (HR.out.below HB0.out) k hlt
      obtain ⟨y, hy⟩ : ∃ y, y = l[k] := ⟨_, rfl⟩
      rw [← hy] at hcc
      have d0 := hcc 0 _ rfl; have d1 := hcc 1 _ rfl
      simp only [Nat.add_zero] at d0
      obtain ⟨cc, -, -, -⟩ := rd HX.out
      have c0 := cc 0; have c1 := cc 1
      simp only [List.getElem?_toArray, List.getElem?_cons_zero, List.getElem?_cons_succ] at c0 c1
      have i5 : (k : Int) < (l.length : Int) := by omega
      have hgd := run_guard_R
      cases hq : decide (x = y) with
      | true =>
        have hrun := run_eql_R x y true hq
        have HT := Lib.hid (show b = true by
          rw [← HC.out, List.contains_iff_mem, of_decide_eq_true hq, hy]; exact List.getElem_mem _)
        have HB1 := Lib.hid (fun n => HB0.out.trans (below_dn (B := w.heap.size) (a := w1) (b := w1.drewN n) ⟨n, rfl⟩))
        clear hq hy hcc cc
        go_wp2_with fail
        go_quiet (fail)
        go_wp2_with fail
        go_ret
        exact ⟨_, rfl, by rw [HT.out]; simp, by first | exact HB1.out _ | (rw [dn2]; exact HB1.out _)⟩
      | false =>
        have hrun := run_eql_R x y false hq
        have HN := Lib.hid (show (l.take (k + 1)).contains x = false by
          rw [List.take_succ_eq_append_getElem hlt, List.contains_append, Hno.out, ← hy]
          simp
          exact of_decide_eq_false hq)
        clear hq hy hcc cc
        go_wp2_with fail
        go_quiet (fail)
        go_wp2_with fail
        go_roundg (l.length - k)
        case measure => omega
        case rel => exact ⟨k + 1, by omega, by go_num, by omega, HN, by first | exact dn0 _ | exact dn_trans (dn _ _) | exact dn _ _⟩
    · have HT := Lib.hid (show b = false by
        have := Hno.out
        rw [List.take_of_length_le (by omega)] at this
        rw [← HC.out, this])
      have HB1 := Lib.hid (HB0.out.trans (below_dn (B := w.heap.size) (a := w1) (b := w1.drewN n) ⟨n, rfl⟩))
      go_wp2_with fail
      go_ret
      exact ⟨_, rfl, by rw [HT.out]; rfl, HB1.out⟩

theorem containsR_any (v : Value) (l : List RelS) (x : RelS) (w : World) (hr : RowArg encR 2 w v l) (hl : l.length < 4611686018427387904) (b : Bool) (hb : l.contains x = b) :
    Calls Tryz.prog 102 #[v, .agg #[.int .i64 x.kind, .string ⟨x.name.toArray⟩]] w fun e w' => e = .returned (.bool b) ∧ Below w.heap.size w w' := by
  have hB := (Below.refl w.heap.size w).alloc (Nat.le_refl _) (.cells #[.int .i64 x.kind, .string ⟨x.name.toArray⟩] 56)
  have HI := Lib.hid (indexR_any v l x _ (hr.below hB) hl b hb)
  have HB := Lib.hid hB
  obtain ⟨cc, -, -, -⟩ := rd (heap_alloc_new w (.cells #[.int .i64 x.kind, .string ⟨x.name.toArray⟩] 56))
  have c0 := cc 0; have c1 := cc 1
  simp only [List.getElem?_toArray, List.getElem?_cons_zero, List.getElem?_cons_succ] at c0 c1
  obtain ⟨oa, cap, rfl, -⟩ := hr.ex
  clear cc hb hB hr
  go_enter Tryz.func102, Tryz.ntmps102
  go_wp2_with fail
  refine HI.out.mono ?_
  rintro e w' ⟨i, rfl, hi, hb1⟩
  have H2 := Lib.hid (HB.out.trans (hb1.mono HB.out.size))
  clear hb1
  go_wp2_with fail
  go_ret
  exact ⟨by first | rfl | (rw [← hi]; rfl), H2.out⟩

set_option maxHeartbeats 2000000 in
theorem mhas_any (B ML ME : Nat) (tv : List (Str × Value)) (t : List LdS) (es : List EdgeS) (whose to : Str) (rel : Int) (w : World) (hM : Mk w B ML ME tv es) (hT : TabRd w tv t) (r : Bool) (hr : hasS t whose rel to = r) :
    Calls Tryz.prog 70 #[.pointer (some ⟨B, 0, none⟩), .string ⟨whose.toArray⟩, .int .i64 rel, .string ⟨to.toArray⟩] w fun e w' => e = .returned (.bool r) ∧ Below w.heap.size w w' := by
  obtain ⟨cs, b, hlk, hsz, hone, hb⟩ := mlook hM hT whose false
  obtain ⟨rb, -, -, hBlt⟩ := rd hM.box
  have m0 := rb 0
  simp only [List.getElem?_toArray, List.getElem?_cons_zero] at m0
  have HZ := Lib.hid hsz; have HO := Lib.hid hone
  have hlk : (Instr.lookup 66 (.map (some ML)) (.string ⟨whose.toArray⟩) false).run Tryz.prog w = .ok (.agg cs) w := hlk
  have hdone : ∀ w3 w4 : World, Below w.heap.size w w3 → Fr (fun x => x = w.heap.size) w3 w4 → Below w.heap.size w w4 := fun w3 w4 h3 h4 => h3.trans (h4.below _ h3.size (fun k hk e => by omega))
  have HD := Lib.hid hdone
  -- the two cells that it reads
  have hrd : ∃ (st : Int) (rv : Value) (l : List RelS), cs[1]? = some (.int .i64 st) ∧ cs[9]? = some rv ∧ RowArg encR 2 w rv l ∧ l.length < 4194304 ∧ r = (st == 1 && l.contains ⟨rel, to⟩) := by
    unfold hasS at hr
    rcases hb with ⟨-, hlo, rfl⟩ | ⟨x, -, hlo, hx, -⟩
    · rw [hlo] at hr
      exact ⟨0, .slice none 0 0, [], rfl, rfl, ⟨none, 0, rfl, RowRd.nil _ _ _⟩, by simp, by rw [← hr]; rfl⟩
    · rw [hlo] at hr
      obtain ⟨v, h9, hv⟩ := hx.rels
      exact ⟨x.state, v, x.rels, hx.state, h9, hv, hx.small.rels, hr.symm⟩
  obtain ⟨st, rv, l, h1, h9, hrow, hll, hrr⟩ := hrd
  have H1 := Lib.hid h1; have H9 := Lib.hid h9; have HW := Lib.hid hrow
  clear hr hb rb hsz hone hdone hM hT h1 h9 hrow
  cases hst : (st == 1) with
  | false =>
    have HR := Lib.hid (show r = false by rw [hrr, hst]; rfl)
    clear hrr
    go_enter Tryz.func70, Tryz.ntmps70
    go_wp2_with (first
      | (refine l_alloc rfl 53 loadedZero rfl (run_alloc_loaded _) ?_; intro w3 h3 hb3)
      | (refine l_store rfl 53 _ _ w.heap.size cs loadedZero 53 rfl rfl rfl h3 (by rw [HZ.out]; rfl) (by rw [HZ.out]; rfl) HO.out ?_; intro w4 h4 hf4; have k1 : w4.cell? ⟨w.heap.size, 1, none⟩ = some (.int .i64 st) := ((rd h4).1 1).trans H1.out))
    go_ret
    exact ⟨by rw [HR.out]; rfl, HD.out _ _ hb3 hf4⟩
  | true =>
    have HR := Lib.hid (show l.contains ⟨rel, to⟩ = r by rw [hrr, hst]; rfl)
    have HC := Lib.hid (fun W (h : Below w.heap.size w W) => containsR_any rv l ⟨rel, to⟩ W (HW.out.below h) (by omega) r HR.out)
    clear hrr
    go_enter Tryz.func70, Tryz.ntmps70
    go_wp2_with (first
      | (refine l_alloc rfl 53 loadedZero rfl (run_alloc_loaded _) ?_; intro w3 h3 hb3)
      | (refine l_store rfl 53 _ _ w.heap.size cs loadedZero 53 rfl rfl rfl h3 (by rw [HZ.out]; rfl) (by rw [HZ.out]; rfl) HO.out ?_; intro w4 h4 hf4; have k1 : w4.cell? ⟨w.heap.size, 1, none⟩ = some (.int .i64 st) := ((rd h4).1 1).trans H1.out; have k9 : w4.cell? ⟨w.heap.size, 9, none⟩ = some rv := ((rd h4).1 9).trans H9.out))
    refine (HC.out _ (HD.out _ _ hb3 hf4)).mono ?_
    rintro e w5 ⟨rfl, hb5⟩
    have H5 := Lib.hid (Below.more (HD.out _ _ hb3 hf4) hb5)
    clear hb5 hb3 hf4 h3 h4 k1 k9
    go_wp2_with fail
    go_ret
    exact ⟨rfl, H5.out⟩
end Go.Proofs.YtcaamakodneplaaGreat

/-
  Package unit: Wakes.
-/
namespace Go.Proofs.YtcaamakodneplaaGreat
open Go Go.RowKit
set_option linter.unusedVariables false
set_option maxRecDepth 100000


set_option maxHeartbeats 1000000 in
theorem wakes_any (cs : Array Value) (nm un : Str) (k : Int) (w : World) (hm : MaxAt w) (h0 : cs[0]? = some (.string ⟨nm.toArray⟩)) (h1 : cs[1]? = some (.int .i64 k)) (h24 : cs[24]? = some (.string ⟨un.toArray⟩)) (hn : nm.length < 4194304) (t : Str) (ht : wakesU k nm un = t) :
    Calls Tryz.prog 26 #[.agg cs] w fun e w' => e = .returned (.string ⟨t.toArray⟩) ∧ Below w.heap.size w w' := by
  have hB := (Below.refl w.heap.size w).alloc (Nat.le_refl _) (.cells cs 51)
  have hb := (rd (heap_alloc_new w (.cells cs 51))).1
  have k0 := (hb 0).trans h0; have k1 := (hb 1).trans h1; have k24 := (hb 24).trans h24
  have HC := Lib.hid (fun W (h : Below w.heap.size w W) t' h' => change_any ⟨nm.toArray⟩ 1 W (by show nm.toArray.size < _; simp; omega) (hm.below h) t' h')
  have HB := Lib.hid hB
  clear hb hB
  unfold wakesU at ht
  by_cases hk : k = 2 ∨ k = 3
  · rw [if_pos hk] at ht
    by_cases hu : un = []
    · rw [if_neg (by simp [hu])] at ht
      have HC2 := Lib.hid (HC.out _ HB.out t ht)
      subst hu
      clear HC ht
      rcases hk with rfl | rfl
      · go_enter Tryz.func26, Tryz.ntmps26
        go_wp2_with fail
        refine HC2.out.mono ?_
        rintro e w' ⟨rfl, hb1⟩
        have H2 := Lib.hid (HB.out.trans (hb1.mono HB.out.size))
        clear hb1
        go_wp2_with fail
        go_ret
        exact ⟨rfl, H2.out⟩
      · go_enter Tryz.func26, Tryz.ntmps26
        go_wp2_with fail
        refine HC2.out.mono ?_
        rintro e w' ⟨rfl, hb1⟩
        have H2 := Lib.hid (HB.out.trans (hb1.mono HB.out.size))
        clear hb1
        go_wp2_with fail
        go_ret
        exact ⟨rfl, H2.out⟩
    · rw [if_pos hu] at ht
      subst ht
      clear HC
      have q : List.isEmpty un = false := by simpa using hu
      rcases hk with rfl | rfl
      · go_enter Tryz.func26, Tryz.ntmps26
        go_wp2_with fail
        go_ret
        exact ⟨rfl, HB.out⟩
      · go_enter Tryz.func26, Tryz.ntmps26
        go_wp2_with fail
        go_ret
        exact ⟨rfl, HB.out⟩
  · rw [if_neg hk] at ht
    subst ht
    have q2 : (k != 2) = true := by rw [bne_iff_ne]; omega
    have q3 : (k != 3) = true := by rw [bne_iff_ne]; omega
    clear HC hk
    go_enter Tryz.func26, Tryz.ntmps26
    go_wp2_with fail
    go_ret
    exact ⟨rfl, HB.out⟩
end Go.Proofs.YtcaamakodneplaaGreat

/-
  Package graph: the maker's said.
-/
namespace Go.Proofs.YtcaamakodneplaaGreat
open Go Go.RowKit
set_option linter.unusedVariables false
set_option maxRecDepth 100000

/-- A cell stays where a map alone turns. -/
theorem cell_frm {w w' : World} {ME : Nat} {es : Array MapEntry} {c : Nat} (hm : w.heap[ME]? = some (.map es c)) (hf : Fr (fun k => k = ME) w w') {b o : Nat} {v : Value} (h : w.cell? ⟨b, o, none⟩ = some v) : w'.cell? ⟨b, o, none⟩ = some v := by
  have hlt := World.block_lt_of_cell? w _ h
  have hne : b ≠ ME := by
    rintro rfl
    simp [World.cell?, hm] at h
  rw [← h]
  simp only [World.cell?]
  rw [hf.block b hlt hne]
theorem RowRd.frm {α : Type} {enc : α → List Value} {k : Nat} {w w' : World} {ME : Nat} {es : Array MapEntry} {c : Nat} {oa : Option Addr} {l : List α} (h : RowRd enc k w oa l) (hm : w.heap[ME]? = some (.map es c)) (hf : Fr (fun k => k = ME) w w') : RowRd enc k w' oa l := by
  intro i hi
  obtain ⟨b, o, e, hlt, hc⟩ := h i hi
  exact ⟨b, o, e, Nat.lt_of_lt_of_le hlt hf.size, fun j v hj => cell_frm hm hf (hc j v hj)⟩
theorem StrRow.frm {w w' : World} {ME : Nat} {es : Array MapEntry} {c : Nat} {oa : Option Addr} {l : List Str} (h : StrRow w oa l) (hm : w.heap[ME]? = some (.map es c)) (hf : Fr (fun k => k = ME) w w') : StrRow w' oa l := by
  intro i hi
  obtain ⟨b, o, e, hc⟩ := h i hi
  exact ⟨b, o, e, cell_frm hm hf hc⟩
theorem LdRd.frm {w w' : World} {ME : Nat} {es : Array MapEntry} {c : Nat} {cs : Array Value} {x : LdS} (h : LdRd w cs x) (hm : w.heap[ME]? = some (.map es c)) (hf : Fr (fun k => k = ME) w w') : LdRd w' cs x := by
  obtain ⟨v1, a1, ⟨oa1, c1, e1, r1⟩⟩ := h.rels
  obtain ⟨v2, a2, ⟨oa2, c2, e2, r2⟩⟩ := h.socks
  obtain ⟨v3, a3, ⟨oa3, c3, e3, r3⟩⟩ := h.wants
  obtain ⟨v4, a4, ⟨oa4, c4, e4, r4⟩⟩ := h.reqs
  exact { h with rels := ⟨v1, a1, ⟨oa1, c1, e1, r1.frm hm hf⟩⟩, socks := ⟨v2, a2, ⟨oa2, c2, e2, r2.frm hm hf⟩⟩, wants := ⟨v3, a3, ⟨oa3, c3, e3, r3.frm hm hf⟩⟩, reqs := ⟨v4, a4, ⟨oa4, c4, e4, r4.frm hm hf⟩⟩ }
theorem TabRd.frm {w w' : World} {ME : Nat} {es : Array MapEntry} {c : Nat} {tv : List (Str × Value)} {t : List LdS} (h : TabRd w tv t) (hm : w.heap[ME]? = some (.map es c)) (hf : Fr (fun k => k = ME) w w') : TabRd w' tv t :=
  ⟨h.keys, fun i h1 h2 => by obtain ⟨cs, e, hr⟩ := h.vals i h1 h2; exact ⟨cs, e, hr.frm hm hf⟩⟩
theorem MaxAt.frm {w w' : World} {ME : Nat} {es : Array MapEntry} {c : Nat} (h : MaxAt w) (hm : w.heap[ME]? = some (.map es c)) (hf : Fr (fun k => k = ME) w w') : MaxAt w' := by
  obtain ⟨m, h⟩ := h
  exact ⟨m, cell_frm hm hf h⟩

/-- What the maker's methods know as they go. -/
structure SIn (w wr : World) (B ML ME L : Nat) (tv : List (Str × Value)) (t : List LdS) (cs : Array Value) (x : LdS) (es : List EdgeS) : Prop where
  fr : Fr (fun k => k = ME) w wr
  box : wr.heap[L]? = some (.cells cs 53 (0, 0))
  ld : LdRd wr cs x
  tab : TabRd wr tv t
  mkr : Mk wr B ML ME tv es
  max : MaxAt wr
  lne : L ≠ ME
section
variable {w wr wr2 : World} {B ML ME L : Nat} {tv : List (Str × Value)} {t : List LdS} {cs : Array Value} {x : LdS} {es es2 : List EdgeS}
theorem SIn.below (h : SIn w wr B ML ME L tv t cs x es) (hb : Below wr.heap.size wr wr2) : SIn w wr2 B ML ME L tv t cs x es :=
  ⟨h.fr.trans (Fr.of_below hb _), (hb.block _ (lt_heap h.box)).trans h.box, h.ld.below hb, h.tab.below hb, h.mkr.below hb, h.max.below hb, h.lne⟩
theorem SIn.alloc (h : SIn w wr B ML ME L tv t cs x es) (o : Obj) : SIn w (wr.alloc o) B ML ME L tv t cs x es := h.below ((Below.refl _ _).alloc (Nat.le_refl _) o)
theorem SIn.put (h : SIn w wr B ML ME L tv t cs x es) {e : Ending} (hp : PutTo wr B ML ME tv es2 e wr2) : SIn w wr2 B ML ME L tv t cs x es2 := by
  obtain ⟨_, hm, hf⟩ := hp
  obtain ⟨es0, c0, hb0, _⟩ := h.mkr.set
  exact ⟨h.fr.trans hf, hf.heap h.box h.lne, h.ld.frm hb0 hf, h.tab.frm hb0 hf, hm, h.max.frm hb0 hf, h.lne⟩
theorem SIn.start (hM : Mk w B ML ME tv es) (hT : TabRd w tv t) (hL : LdRd w cs x) (hm : MaxAt w) : SIn w (w.alloc (.cells cs 53)) B ML ME w.heap.size tv t cs x es := by
  have hb := (Below.refl w.heap.size w).alloc (Nat.le_refl _) (.cells cs 53)
  exact ⟨Fr.of_below hb _, heap_alloc_new w _, hL.below hb, hT.below hb, hM.below hb, hm.below hb, fun e => by have := hM.set.lt; omega⟩
theorem SIn.name (h : SIn w wr B ML ME L tv t cs x es) : wr.cell? ⟨L, 0, none⟩ = some (.string ⟨x.name.toArray⟩) := ((rd h.box).1 0).trans h.ld.name
end
theorem ints_row (w : World) (l : List Int) (T : TypeId) : RowRd encI 1 (w.alloc (.cells (l.map fun n => Value.int .i64 n).toArray T)) (some ⟨w.heap.size, 0, none⟩) l := by
  intro i hi
  refine ⟨w.heap.size, 0, rfl, by simp, fun j v hj => ?_⟩
  rw [(rd (heap_alloc_new w _)).1]
  match j with
  | 0 =>
    simp [encI] at hj
    subst hj
    simp [hi]
  | j + 1 => simp [encI] at hj

def unitOf (cs : Array Value) : Array Value := cs.extract 5 40
theorem unitOf_size {cs : Array Value} (h : cs.size = 42) : (unitOf cs).size = 35 := by simp [unitOf, h]
theorem unitOf_get {cs : Array Value} (h : cs.size = 42) (j : Nat) (hj : j < 35) : (unitOf cs)[j]? = cs[5 + j]? := by
  unfold unitOf
  rw [Array.getElem?_extract, if_pos (by omega)]
theorem unitOf_one {cs : Array Value} (h : (cs.all fun v => v.oneCell') = true) : ((unitOf cs).all fun v => v.oneCell') = true := by
  rw [Array.all_eq_true] at h ⊢
  intro i hi
  have h2 : i + 5 < cs.size := by simp [unitOf] at hi; omega
  have := h (i + 5) h2
  simpa [unitOf, Nat.add_comm] using this
theorem l_load_mid {P : Program} {w : World} {ops : Array Oper} {rest : List Oper} {o : Oper} {a : Act} {Q : Exit → Act → World → Prop} (hg : o.guard = none) (t : TypeId) (x : Operand) (b n : Nat) (cells part : Array Value) (T : TypeId) (d : TypeDesc) (ho : o.op = Op.load t x)
    (hx : a.eval x = .pointer (some ⟨b, n, none⟩)) (hw : w.heap[b]? = some (.cells cells T (0, 0))) (hp : ∀ j, j < part.size → part[j]? = cells[n + j]?) (hd : P.underlying t = some d) (hr : d.isRow = true) (hi : (P.info? t).map (·.size) = some part.size)
    (h : wpList P ops Q rest (a.put o.dst (.agg part)) w) : wpList P ops Q (o :: rest) a w := by
  refine wpList_of_oper hg fun K hK => ?_
  refine wp_load_mid t x ho b n hx part.toList d ?_ hd hr (by simpa using hi) (by simpa using hK _ _ h)
  intro j v hv
  rw [(rd hw).1, ← hp j (by
    have := List.getElem?_eq_some_iff.1 hv
    obtain ⟨h, -⟩ := this
    simpa using h)]
  simpa using hv

/-- The unit's copy, as its name and its kind are written. -/
structure MidP (W0 : World) (u0 : Array Value) (W : World) : Prop where
  below : Below W0.heap.size W0 W
  box : ∃ uc, W.heap[W0.heap.size]? = some (.cells uc 51 (0, 0)) ∧ uc.size = 35 ∧ (uc.all fun v => v.oneCell') = true ∧ ∀ j, 2 ≤ j → uc[j]? = u0[j]?
theorem MidP.more {W0 W W' : World} {u0 : Array Value} (h : MidP W0 u0 W) (hb : Below W.heap.size W W') : MidP W0 u0 W' := by
  obtain ⟨uc, h1, h2⟩ := h.box
  exact ⟨h.below.trans (hb.mono h.below.size), uc, (hb.block _ (lt_heap h1)).trans h1, h2⟩
theorem one_set {uc : Array Value} (h : (uc.all fun v => v.oneCell') = true) (j : Nat) (v : Value) (hv : v.oneCell' = true) : ((uc.setIfInBounds j v).all fun v => v.oneCell') = true := by
  rw [Array.all_eq_true] at h ⊢
  intro i hi
  rw [Array.getElem_setIfInBounds]
  split
  · exact hv
  · exact h i (by simpa using hi)
theorem MidP.set {W0 W : World} {u0 : Array Value} (h : MidP W0 u0 W) (j : Nat) (hj : j < 2) (v : Value) (hv : v.oneCell' = true) : MidP W0 u0 (W.setCell ⟨W0.heap.size, j, none⟩ v) := by
  obtain ⟨uc, h1, h2, h3, h4⟩ := h.box
  refine ⟨h.below.trans ((Fr.setCell (M := fun k => k = W0.heap.size) (Fr.refl _ W) (fun _ => rfl) v).below _ h.below.size (fun k hk e => by omega)), _, heap_setCell h1 j v, by simp [h2], one_set h3 j v hv, fun i hi => ?_⟩
  rw [Array.getElem?_setIfInBounds, if_neg (by omega)]
  exact h4 i hi
theorem MidP.cells {W0 W : World} {u0 : Array Value} (h : MidP W0 u0 W) : ∃ a b, W.cell? ⟨W0.heap.size, 0, none⟩ = some a ∧ W.cell? ⟨W0.heap.size, 1, none⟩ = some b ∧ W.frozen? ⟨W0.heap.size, 0, none⟩ = false ∧ W.frozen? ⟨W0.heap.size, 1, none⟩ = false := by
  obtain ⟨uc, h1, h2, h3, h4⟩ := h.box
  obtain ⟨r1, r2, -, -⟩ := rd h1
  refine ⟨uc[0]'(by omega), uc[1]'(by omega), ?_, ?_, r2 0, r2 1⟩
  · rw [r1]; exact Array.getElem?_eq_getElem _
  · rw [r1]; exact Array.getElem?_eq_getElem _
/-- The copy, done. -/
theorem MidP.done {W0 W : World} {u0 : Array Value} (h : MidP W0 u0 W) (a b : Value) (ha : a.oneCell' = true) (hb : b.oneCell' = true) :
    ∃ uc, ((W.setCell ⟨W0.heap.size, 0, none⟩ a).setCell ⟨W0.heap.size, 1, none⟩ b).heap[W0.heap.size]? = some (.cells uc 51 (0, 0)) ∧ uc.size = 35 ∧ uc[0]? = some a ∧ uc[1]? = some b ∧ (∀ j, 2 ≤ j → uc[j]? = u0[j]?) ∧
      Below W0.heap.size W0 ((W.setCell ⟨W0.heap.size, 0, none⟩ a).setCell ⟨W0.heap.size, 1, none⟩ b) := by
  obtain ⟨uc, h1, h2, h3, h4⟩ := h.box
  refine ⟨_, heap_setCell (heap_setCell h1 0 a) 1 b, by simp [h2], ?_, ?_, fun i hi => ?_, ((h.set 0 (by omega) a ha).set 1 (by omega) b hb).below⟩
  · rw [Array.getElem?_setIfInBounds, if_neg (by omega), Array.getElem?_setIfInBounds, if_pos rfl, if_pos (by omega)]
  · rw [Array.getElem?_setIfInBounds, if_pos rfl, if_pos (by simp [h2])]
  · rw [Array.getElem?_setIfInBounds, if_neg (by omega), Array.getElem?_setIfInBounds, if_neg (by omega)]
    exact h4 i hi
theorem unit_zero_one : (unitZero.all fun v => v.oneCell') = true := by rw [← Array.all_toList]; rfl
theorem MidP.start {W0 w3 w4 : World} {u0 : Array Value} (h3 : Below W0.heap.size W0 w3) (hs : u0.size = 35) (ho : (u0.all fun v => v.oneCell') = true) (h4 : w4.heap[W0.heap.size]? = some (.cells u0 51 (0, 0))) (hf : Fr (fun k => k = W0.heap.size) w3 w4) : MidP W0 u0 w4 :=
  ⟨h3.trans (hf.below _ h3.size (fun k hk e => by omega)), u0, h4, hs, ho, fun _ _ => rfl⟩

set_option maxHeartbeats 1000000 in
theorem said_any (B ML ME : Nat) (tv : List (Str × Value)) (t : List LdS) (es : List EdgeS) (cs : Array Value) (x : LdS) (w : World) (hM : Mk w B ML ME tv es) (hT : TabRd w tv t) (hL : LdRd w cs x) (hm : MaxAt w) (es' : List EdgeS) (he : addE es (saidS t x) = es') :
    Calls Tryz.prog 29 #[.pointer (some ⟨B, 0, none⟩), .agg cs] w fun e w' => PutTo w B ML ME tv es' e w' := by
  rw [saidS, addE_append, addE_append, addE_append, addE_append] at he
  have HE := Lib.hid he
  have HS := Lib.hid (SIn.start hM hT hL hm)
  obtain ⟨v1, a1, b1⟩ := hL.rels
  obtain ⟨oa1, cap1, e1, -⟩ := b1.ex
  obtain ⟨v2, a2, b2⟩ := hL.wants
  obtain ⟨oa2, cap2, e2, -⟩ := b2.ex
  obtain ⟨v3, a3, b3⟩ := hL.reqs
  obtain ⟨oa3, cap3, e3, -⟩ := b3.ex
  obtain ⟨v4, a4, b4⟩ := hL.socks
  obtain ⟨oa4, cap4, e4, -⟩ := b4.ex
  subst e1; subst e2; subst e3; subst e4
  have A0 := Lib.hid hL.name
  have A1 := Lib.hid a1; have A2 := Lib.hid a2; have A3 := Lib.hid a3; have A4 := Lib.hid a4
  have hsm := hL.small
  have n1 := hsm.rels; have n2 := hsm.wants; have n3 := hsm.reqs; have n4 := hsm.socks
  have hnm := hsm.name
  have HSM := Lib.hid hsm
  have k0 := ((rd HS.out.box).1 0).trans A0.out
  have k1 := ((rd HS.out.box).1 9).trans A1.out
  clear he hM hT hL hm a1 a2 a3 a4 b1 b2 b3 b4 hsm
  go_enter Tryz.func29, Tryz.ntmps29
  go_wp2_with fail
  generalize w.alloc (.cells cs 53) = w1 at *
  generalize hL0 : w.heap.size = L at *
  have HL0 := Lib.hid hL0; clear hL0 k0 k1
  go_loopg [18] (x.rels.length + 1) (fun f i wr => ∃ k : Nat, k ≤ x.rels.length ∧ i = .int .i64 k ∧ x.rels.length - k < f ∧ Hid (SIn w wr B ML ME L tv t cs x (addE es ((x.rels.take k).flatMap fun r => if 1 ≤ r.kind ∧ r.kind ≤ 9 then putS t x.name r.name [r.kind] else []))))
  case atStart => exact ⟨0, by omega, rfl, by omega, HS⟩
  case round =>
    obtain ⟨k, hk, rfl, hfu, HSk⟩ := hrel
    clear HS
    by_cases hlt : k < x.rels.length
    · obtain ⟨v1, a1, ⟨oa1', cap1', e1, r1⟩⟩ := HSk.out.ld.rels
      rw [A1.out] at a1
      injection a1 with a1
      subst a1
      injection e1 with e1 e2 e3
      subst e1; subst e3
      obtain ⟨b, o, rfl, hblt, hcc⟩ := r1 k hlt
      obtain ⟨y, hy⟩ : ∃ y, y = x.rels[k] := ⟨_, rfl⟩
      rw [← hy] at hcc
      have d0 := hcc 0 _ rfl; have d1 := hcc 1 _ rfl
      simp only [Nat.add_zero] at d0
      have i5 : (k : Int) < (x.rels.length : Int) := by omega
      have k0 := HSk.out.name
      have hltL := lt_heap HSk.out.box
      have hsn : (x.rels.take (k + 1)).flatMap (fun r => if 1 ≤ r.kind ∧ r.kind ≤ 9 then putS t x.name r.name [r.kind] else []) = (x.rels.take k).flatMap (fun r => if 1 ≤ r.kind ∧ r.kind ≤ 9 then putS t x.name r.name [r.kind] else []) ++ (if 1 ≤ y.kind ∧ y.kind ≤ 9 then putS t x.name y.name [y.kind] else []) := by
        rw [List.take_succ_eq_append_getElem hlt, List.flatMap_append, hy]; simp
      have HSN := Lib.hid hsn
      have HS4 := Lib.hid (HSk.out.alloc (.cells #[.int .i64 y.kind, .string ⟨y.name.toArray⟩] 56))
      generalize (x.rels.take k).flatMap (fun r => if 1 ≤ r.kind ∧ r.kind ≤ 9 then putS t x.name r.name [r.kind] else []) = pre at *
      by_cases hk19 : 1 ≤ y.kind ∧ y.kind ≤ 9
      · have HN := Lib.hid (show addE es ((x.rels.take (k + 1)).flatMap fun r => if 1 ≤ r.kind ∧ r.kind ≤ 9 then putS t x.name r.name [r.kind] else []) = addE (addE es pre) (putS t x.name y.name [y.kind]) by rw [HSN.out, if_pos hk19, addE_append])
        obtain ⟨c1, c2⟩ := hk19
        have q1 : decide (1 ≤ y.kind) = true := by simpa using c1
        have q2 : decide (y.kind ≤ 9) = true := by simpa using c2
        clear hcc hy hsn HSN
        generalize hw4 : wr.alloc (.cells #[.int .i64 y.kind, .string ⟨y.name.toArray⟩] 56) = w4 at *
        have HP := Lib.hid (show Calls Tryz.prog 50 #[.pointer (some ⟨B, 0, none⟩), .string ⟨x.name.toArray⟩, .string ⟨y.name.toArray⟩, .slice (some ⟨w4.heap.size, 0, none⟩) 1 1] (w4.alloc (.cells #[.int .i64 y.kind] 3)) fun e w' => PutTo (w4.alloc (.cells #[.int .i64 y.kind] 3)) B ML ME tv (addE (addE es pre) (putS t x.name y.name [y.kind])) e w' from
          mput_any B ML ME tv t (addE es pre) x.name y.name [y.kind] w4.heap.size _ (HS4.out.alloc _).mkr (HS4.out.alloc _).tab (ints_row w4 [y.kind] 3) (by simp) _ rfl)
        have HS5 := Lib.hid (HS4.out.alloc (.cells #[.int .i64 y.kind] 3))
        have hg : w4.heap.size = wr.heap.size + 1 := by rw [← hw4]; exact Array.size_push _
        rw [hg] at HP
        clear hg
        subst hw4
        go_wp2_with fail
        refine HP.out.mono ?_
        rintro e w6 hp
        have HS6 := Lib.hid (HS5.out.put hp)
        obtain ⟨rfl, -, -⟩ := hp
        clear HP HS5
        go_wp2_with fail
        go_roundg (gk - 1)
        case measure => omega
        case rel => exact ⟨k + 1, by omega, by go_num, by omega, by rw [HN.out]; exact HS6⟩
      · have HN := Lib.hid (show addE es ((x.rels.take (k + 1)).flatMap fun r => if 1 ≤ r.kind ∧ r.kind ≤ 9 then putS t x.name r.name [r.kind] else []) = addE es pre by rw [HSN.out, if_neg hk19, List.append_nil])
        clear hcc hy hsn HSN
        by_cases hk1 : 1 ≤ y.kind
        · have c2 : ¬ y.kind ≤ 9 := fun q => hk19 ⟨hk1, q⟩
          have q1 : decide (1 ≤ y.kind) = true := by simpa using hk1
          have q2 : decide (y.kind ≤ 9) = false := by simpa using c2
          clear hk19
          go_wp2_with fail
          go_roundg (gk - 1)
          case measure => omega
          case rel => exact ⟨k + 1, by omega, by go_num, by omega, by rw [HN.out]; exact HS4⟩
        · have q1 : decide (1 ≤ y.kind) = false := by simpa using hk1
          clear hk19
          go_wp2_with fail
          go_roundg (gk - 1)
          case measure => omega
          case rel => exact ⟨k + 1, by omega, by go_num, by omega, by rw [HN.out]; exact HS4⟩
    · have HS10 := Lib.hid (show SIn w wr B ML ME L tv t cs x (addE es (x.rels.flatMap fun r => if 1 ≤ r.kind ∧ r.kind ≤ 9 then putS t x.name r.name [r.kind] else [])) by
        have := HSk.out
        rwa [List.take_of_length_le (by omega)] at this)
      have hge : ¬ ((k : Int) < (x.rels.length : Int)) := by omega
      clear hfu HSk
      have k0 := HS10.out.name
      have hltL := lt_heap HS10.out.box
      obtain ⟨es1, hes1⟩ : ∃ z, z = addE es (x.rels.flatMap fun r => if 1 ≤ r.kind ∧ r.kind ≤ 9 then putS t x.name r.name [r.kind] else []) := ⟨_, rfl⟩
      have HS1 := Lib.hid (show SIn w wr B ML ME L tv t cs x es1 by rw [hes1]; exact HS10.out)
      replace HE := Lib.hid (by have := HE.out; rwa [← hes1] at this)
      clear HS10 hes1 hk hlt
      have k40 := ((rd HS1.out.box).1 40).trans A2.out
      go_wp2_with fail
      clear k40 hge
      go_loopg [43] (x.wants.length + 1) (fun f i wr => ∃ k : Nat, k ≤ x.wants.length ∧ i = .int .i64 k ∧ x.wants.length - k < f ∧ Hid (SIn w wr B ML ME L tv t cs x (addE es1 ((x.wants.take k).flatMap fun s => putS t x.name s [2]))))
      case atStart => exact ⟨0, by omega, rfl, by omega, HS1⟩
      case round =>
          obtain ⟨k, hk, rfl, hfu, HSk⟩ := hrel
          clear HS1 k0
          by_cases hlt : k < x.wants.length
          · obtain ⟨v1, a1, ⟨oa1', cap1', e1, r1⟩⟩ := HSk.out.ld.wants
            rw [A2.out] at a1
            injection a1 with a1
            subst a1
            injection e1 with e1 e2 e3
            subst e1; subst e3
            obtain ⟨b, o, rfl, hcc⟩ := r1 k hlt
            obtain ⟨y, hy⟩ : ∃ y, y = x.wants[k] := ⟨_, rfl⟩
            rw [← hy] at hcc
            have i5 : (k : Int) < (x.wants.length : Int) := by omega
            have k0 := HSk.out.name
            have hltL := lt_heap HSk.out.box
            have hsn : (x.wants.take (k + 1)).flatMap (fun s => putS t x.name s [2]) = (x.wants.take k).flatMap (fun s => putS t x.name s [2]) ++ putS t x.name y [2] := by
              rw [List.take_succ_eq_append_getElem hlt, List.flatMap_append, hy]; simp
            have HSN := Lib.hid hsn
            generalize (x.wants.take k).flatMap (fun s => putS t x.name s [2]) = pre at *
            have HN := Lib.hid (show addE es1 ((x.wants.take (k + 1)).flatMap fun s => putS t x.name s [2]) = addE (addE es1 pre) (putS t x.name y [2]) by rw [HSN.out, addE_append])
            clear hy hsn HSN
            have HP := Lib.hid (show Calls Tryz.prog 50 #[.pointer (some ⟨B, 0, none⟩), .string ⟨x.name.toArray⟩, .string ⟨y.toArray⟩, .slice (some ⟨wr.heap.size, 0, none⟩) 1 1] (wr.alloc (.cells #[.int .i64 2] 3)) fun e w' => PutTo (wr.alloc (.cells #[.int .i64 2] 3)) B ML ME tv (addE (addE es1 pre) (putS t x.name y [2])) e w' from
              mput_any B ML ME tv t (addE es1 pre) x.name y [2] wr.heap.size _ (HSk.out.alloc _).mkr (HSk.out.alloc _).tab (ints_row wr [2] 3) (by simp) _ rfl)
            have HS5 := Lib.hid (HSk.out.alloc (.cells #[.int .i64 2] 3))
            go_wp2_with fail
            refine HP.out.mono ?_
            rintro e w6 hp
            have HS6 := Lib.hid (HS5.out.put hp)
            obtain ⟨rfl, -, -⟩ := hp
            clear HP HS5
            go_wp2_with fail
            go_roundg (gk - 1)
            case measure => omega
            case rel => exact ⟨k + 1, by omega, by go_num, by omega, by rw [HN.out]; exact HS6⟩
          · have HS20 := Lib.hid (show SIn w wr B ML ME L tv t cs x (addE es1 (x.wants.flatMap fun s => putS t x.name s [2])) by
              have := HSk.out
              rwa [List.take_of_length_le (by omega)] at this)
            have hge : ¬ ((k : Int) < (x.wants.length : Int)) := by omega
            clear hfu HSk
            have k0 := HS20.out.name
            have hltL := lt_heap HS20.out.box
            obtain ⟨es2, hes2⟩ : ∃ z, z = addE es1 (x.wants.flatMap fun s => putS t x.name s [2]) := ⟨_, rfl⟩
            have HS2 := Lib.hid (show SIn w wr B ML ME L tv t cs x es2 by rw [hes2]; exact HS20.out)
            replace HE := Lib.hid (by have := HE.out; rwa [← hes2] at this)
            clear HS20 hes2 hk hlt
            have k41 := ((rd HS2.out.box).1 41).trans A3.out
            go_wp2_with fail
            clear k41 hge
            go_loopg [57] (x.reqs.length + 1) (fun f i wr => ∃ k : Nat, k ≤ x.reqs.length ∧ i = .int .i64 k ∧ x.reqs.length - k < f ∧ Hid (SIn w wr B ML ME L tv t cs x (addE es2 ((x.reqs.take k).flatMap fun s => putS t x.name s [1]))))
            case atStart => exact ⟨0, by omega, rfl, by omega, HS2⟩
            case round =>
                obtain ⟨k, hk, rfl, hfu, HSk⟩ := hrel
                clear HS2 k0
                by_cases hlt : k < x.reqs.length
                · obtain ⟨v1, a1, ⟨oa1', cap1', e1, r1⟩⟩ := HSk.out.ld.reqs
                  rw [A3.out] at a1
                  injection a1 with a1
                  subst a1
                  injection e1 with e1 e2 e3
                  subst e1; subst e3
                  obtain ⟨b, o, rfl, hcc⟩ := r1 k hlt
                  obtain ⟨y, hy⟩ : ∃ y, y = x.reqs[k] := ⟨_, rfl⟩
                  rw [← hy] at hcc
                  have i5 : (k : Int) < (x.reqs.length : Int) := by omega
                  have k0 := HSk.out.name
                  have hltL := lt_heap HSk.out.box
                  have hsn : (x.reqs.take (k + 1)).flatMap (fun s => putS t x.name s [1]) = (x.reqs.take k).flatMap (fun s => putS t x.name s [1]) ++ putS t x.name y [1] := by
                    rw [List.take_succ_eq_append_getElem hlt, List.flatMap_append, hy]; simp
                  have HSN := Lib.hid hsn
                  generalize (x.reqs.take k).flatMap (fun s => putS t x.name s [1]) = pre at *
                  have HN := Lib.hid (show addE es2 ((x.reqs.take (k + 1)).flatMap fun s => putS t x.name s [1]) = addE (addE es2 pre) (putS t x.name y [1]) by rw [HSN.out, addE_append])
                  clear hy hsn HSN
                  have HP := Lib.hid (show Calls Tryz.prog 50 #[.pointer (some ⟨B, 0, none⟩), .string ⟨x.name.toArray⟩, .string ⟨y.toArray⟩, .slice (some ⟨wr.heap.size, 0, none⟩) 1 1] (wr.alloc (.cells #[.int .i64 1] 3)) fun e w' => PutTo (wr.alloc (.cells #[.int .i64 1] 3)) B ML ME tv (addE (addE es2 pre) (putS t x.name y [1])) e w' from
                    mput_any B ML ME tv t (addE es2 pre) x.name y [1] wr.heap.size _ (HSk.out.alloc _).mkr (HSk.out.alloc _).tab (ints_row wr [1] 3) (by simp) _ rfl)
                  have HS5 := Lib.hid (HSk.out.alloc (.cells #[.int .i64 1] 3))
                  go_wp2_with fail
                  refine HP.out.mono ?_
                  rintro e w6 hp
                  have HS6 := Lib.hid (HS5.out.put hp)
                  obtain ⟨rfl, -, -⟩ := hp
                  clear HP HS5
                  go_wp2_with fail
                  go_roundg (gk - 1)
                  case measure => omega
                  case rel => exact ⟨k + 1, by omega, by go_num, by omega, by rw [HN.out]; exact HS6⟩
                · have HS30 := Lib.hid (show SIn w wr B ML ME L tv t cs x (addE es2 (x.reqs.flatMap fun s => putS t x.name s [1])) by
                    have := HSk.out
                    rwa [List.take_of_length_le (by omega)] at this)
                  have hge : ¬ ((k : Int) < (x.reqs.length : Int)) := by omega
                  clear hfu HSk
                  have k0 := HS30.out.name
                  have hltL := lt_heap HS30.out.box
                  obtain ⟨es3, hes3⟩ : ∃ z, z = addE es2 (x.reqs.flatMap fun s => putS t x.name s [1]) := ⟨_, rfl⟩
                  have HS3 := Lib.hid (show SIn w wr B ML ME L tv t cs x es3 by rw [hes3]; exact HS30.out)
                  replace HE := Lib.hid (by have := HE.out; rwa [← hes3] at this)
                  clear HS30 hes3 hk hlt
                  obtain ⟨u0, hu0⟩ : ∃ z, z = unitOf cs := ⟨_, rfl⟩
                  have HU := Lib.hid (show u0.size = 35 ∧ (u0.all fun v => v.oneCell') = true ∧ ∀ j, j < 35 → u0[j]? = cs[5 + j]? by
                    rw [hu0]; exact ⟨unitOf_size HS3.out.ld.size, unitOf_one HS3.out.ld.one, unitOf_get HS3.out.ld.size⟩)
                  have HB3 := Lib.hid HS3.out.box
                  have HK := Lib.hid (fun W (h : MidP wr u0 W) => kind_any ⟨x.name.toArray⟩ W (by show x.name.toArray.size < _; simp; omega) (HS3.out.max.below h.below) (kindS x.name) (by simp))
                  generalize hkk : kindS x.name = kk at *
                  have HKK := Lib.hid hkk
                  have HT := Lib.hid (fun W j v (h : MidP wr u0 W ∧ W.cell? ⟨L, 0, none⟩ = some (.string ⟨x.name.toArray⟩)) (hj : j < 2) (hv : v.oneCell' = true) => show MidP wr u0 (W.setCell ⟨wr.heap.size, j, none⟩ v) ∧ (W.setCell ⟨wr.heap.size, j, none⟩ v).cell? ⟨L, 0, none⟩ = some (.string ⟨x.name.toArray⟩) from
                    ⟨h.1.set j hj v hv, by rw [(h.1.set j hj v hv).below.cell hltL]; exact HS3.out.name⟩)
                  have HC := Lib.hid (fun W (h : MidP wr u0 W) => show MidP wr u0 W ∧ W.cell? ⟨L, 0, none⟩ = some (.string ⟨x.name.toArray⟩) from ⟨h, by rw [h.below.cell hltL]; exact HS3.out.name⟩)
                  clear hu0 hkk
                  go_wp2_with (first
                    | (refine l_load_mid rfl 51 _ L 5 cs u0 53 _ rfl rfl HB3.out (by rw [HU.out.1]; exact HU.out.2.2) rfl rfl (by rw [HU.out.1]; rfl) ?_)
                    | (refine l_alloc rfl _ unitZero rfl (run_alloc_unit _) ?_; intro w3 h3 hb3)
                    | (refine l_store rfl 51 _ _ wr.heap.size u0 unitZero 51 rfl rfl rfl h3 (by rw [HU.out.1]; rfl) (by rw [HU.out.1]; rfl) HU.out.2.1 ?_; intro w4 h4 hf4))
                  have HS4 := Lib.hid (HC.out _ ((MidP.start hb3 HU.out.1 HU.out.2.1 h4 hf4).more (below_dn (B := w4.heap.size) (a := w4) (b := w4.drew) ⟨1, rfl⟩)))
                  have e0 := HS4.out.2
                  clear h3 h4 hb3 hf4 k0 hge
                  go_region_held3 (fun W => MidP wr u0 W ∧ W.cell? ⟨L, 0, none⟩ = some (.string ⟨x.name.toArray⟩))
                    (first | exact HS4.out | exact HS5.out | exact HT.out _ _ _ HS5.out (by decide) rfl | exact HT.out _ _ _ (HT.out _ _ _ HS5.out (by decide) rfl) (by decide) rfl)
                    ((go_at_call 48; with_reducible refine (HK.out _ (by with_reducible first | assumption | exact (And.left (by assumption)))).mono ?_; rintro e w5 ⟨rfl, hb5⟩; have HS5 := Lib.hid (HC.out _ (MidP.more (by with_reducible first | assumption | exact (And.left (by assumption))) hb5)); obtain ⟨q0, q1, hq0, hq1, hf0, hf1⟩ := HS5.out.1.cells))
                  rename_i hHeld
                  clear hHeld hq0 hq1 hf0 hf1 e0
                  obtain ⟨uc, hb6, hz6, hu0, hu1, hu2, hB6⟩ := HS5.out.1.done (.string ⟨x.name.toArray⟩) (.int .i64 kk) rfl rfl
                  generalize hw6 : (w5.setCell _ _).setCell _ _ = w6 at *
                  clear hw6 HS5 HS4
                  have HS6 := Lib.hid (HS3.out.below hB6)
                  have H20 := Lib.hid ((hu2 20 (by omega)).trans ((HU.out.2.2 20 (by omega)).trans A4.out))
                  have hu24 := (hu2 24 (by omega)).trans ((HU.out.2.2 24 (by omega)).trans HS3.out.ld.unit)
                  have HW := Lib.hid (wakes_any uc x.name x.unit kk w6 HS6.out.max hu0 hu1 hu24 hnm (wakesS x) (by unfold wakesS; rw [HKK.out]))
                  have H1 := Lib.hid hu1
                  have HWK := Lib.hid (fun e : kk = 1 => show wakesS x = [] by unfold wakesS; rw [HKK.out, e]; unfold wakesU; rw [if_neg (by decide)])
                  have hUE : wr.heap.size ≠ ME := fun e => by have := HS3.out.mkr.set.lt; omega
                  generalize wakesS x = ws at *
                  clear hu0 hu1 hu2 hu24 hB6 HS3 HB3 HK HT HC HU
                  go_wp2_with (refine l_load rfl 51 _ wr.heap.size uc 51 _ rfl rfl hb6 rfl rfl (by rw [hz6]; rfl) ?_)
                  refine HW.out.mono ?_
                  rintro e w7 ⟨rfl, hb7⟩
                  have HS7 := Lib.hid (HS6.out.below hb7)
                  have HB7 := Lib.hid ((hb7.block _ (lt_heap hb6)).trans hb6)
                  have k0 := HS7.out.name
                  have k1 := ((rd HB7.out).1 1).trans H1.out
                  have hltL := lt_heap HS7.out.box
                  clear hb6 hb7 HS6 HW
                  by_cases hw : ws = []
                  · subst hw
                    have hE := HE.out
                    rw [if_neg (by simp), addE_nil] at hE
                    by_cases hk1 : kk = 1
                    · subst hk1
                      rw [if_pos rfl] at hE
                      replace HE := Lib.hid hE
                      have k20 := ((rd HB7.out).1 20).trans H20.out
                      clear hE
                      go_wp2_with fail
                      clear k20
                      go_loopg [93] (x.socks.length + 1) (fun f i wr => ∃ k : Nat, k ≤ x.socks.length ∧ i = .int .i64 k ∧ x.socks.length - k < f ∧ Hid (SIn w wr B ML ME L tv t cs x (addE es3 ((x.socks.take k).flatMap fun s => putS t x.name s [2, 8]))))
                      case atStart => exact ⟨0, by omega, rfl, by omega, HS7⟩
                      case round =>
                          obtain ⟨k, hk, rfl, hfu, HSk⟩ := hrel
                          clear HS7 k0
                          by_cases hlt : k < x.socks.length
                          · obtain ⟨v1, a1, ⟨oa1', cap1', e1, r1⟩⟩ := HSk.out.ld.socks
                            rw [A4.out] at a1
                            injection a1 with a1
                            subst a1
                            injection e1 with e1 e2 e3
                            subst e1; subst e3
                            obtain ⟨b, o, rfl, hcc⟩ := r1 k hlt
                            obtain ⟨y, hy⟩ : ∃ y, y = x.socks[k] := ⟨_, rfl⟩
                            rw [← hy] at hcc
                            have i5 : (k : Int) < (x.socks.length : Int) := by omega
                            have k0 := HSk.out.name
                            have hltL := lt_heap HSk.out.box
                            have hsn : (x.socks.take (k + 1)).flatMap (fun s => putS t x.name s [2, 8]) = (x.socks.take k).flatMap (fun s => putS t x.name s [2, 8]) ++ putS t x.name y [2, 8] := by
                              rw [List.take_succ_eq_append_getElem hlt, List.flatMap_append, hy]; simp
                            have HSN := Lib.hid hsn
                            generalize (x.socks.take k).flatMap (fun s => putS t x.name s [2, 8]) = pre at *
                            have HN := Lib.hid (show addE es3 ((x.socks.take (k + 1)).flatMap fun s => putS t x.name s [2, 8]) = addE (addE es3 pre) (putS t x.name y [2, 8]) by rw [HSN.out, addE_append])
                            clear hy hsn HSN
                            have HP := Lib.hid (show Calls Tryz.prog 50 #[.pointer (some ⟨B, 0, none⟩), .string ⟨x.name.toArray⟩, .string ⟨y.toArray⟩, .slice (some ⟨wr.heap.size, 0, none⟩) 2 2] (wr.alloc (.cells #[.int .i64 2, .int .i64 8] 3)) fun e w' => PutTo (wr.alloc (.cells #[.int .i64 2, .int .i64 8] 3)) B ML ME tv (addE (addE es3 pre) (putS t x.name y [2, 8])) e w' from
                              mput_any B ML ME tv t (addE es3 pre) x.name y [2, 8] wr.heap.size _ (HSk.out.alloc _).mkr (HSk.out.alloc _).tab (ints_row wr [2, 8] 3) (by simp) _ rfl)
                            have HS5 := Lib.hid (HSk.out.alloc (.cells #[.int .i64 2, .int .i64 8] 3))
                            go_wp2_with fail
                            refine HP.out.mono ?_
                            rintro e w6 hp
                            have HS6 := Lib.hid (HS5.out.put hp)
                            obtain ⟨rfl, -, -⟩ := hp
                            clear HP HS5
                            go_wp2_with fail
                            go_roundg (gk - 1)
                            case measure => omega
                            case rel => exact ⟨k + 1, by omega, by go_num, by omega, by rw [HN.out]; exact HS6⟩
                          · have HS8 := Lib.hid (show SIn w wr B ML ME L tv t cs x es' by
                              have := HSk.out
                              rwa [List.take_of_length_le (by omega), HE.out] at this)
                            have hge : ¬ ((k : Int) < (x.socks.length : Int)) := by omega
                            clear hfu HSk
                            go_wp2_with fail
                            refine bodyPost_ret (results_none rfl _ _ _) rfl ?_
                            exact ⟨rfl, HS8.out.mkr, HS8.out.fr⟩
                    · have q : ((kk : Int) != 1) = true := by rw [bne_iff_ne]; omega
                      rw [if_neg hk1, addE_nil] at hE
                      replace HE := Lib.hid hE
                      clear hE
                      go_wp2_with fail
                      refine bodyPost_ret (results_none rfl _ _ _) rfl ?_
                      exact ⟨rfl, by rw [← HE.out]; exact HS7.out.mkr, HS7.out.fr⟩
                  · have hk1 : ¬ kk = 1 := fun e => hw (HWK.out e)
                    have hE := HE.out
                    rw [if_neg hk1, addE_nil, if_pos hw] at hE
                    replace HE := Lib.hid hE
                    have q : ((kk : Int) != 1) = true := by rw [bne_iff_ne]; omega
                    have q2 : List.isEmpty ws = false := by simpa using hw
                    clear hE
                    have HP := Lib.hid (show Calls Tryz.prog 50 #[.pointer (some ⟨B, 0, none⟩), .string ⟨x.name.toArray⟩, .string ⟨ws.toArray⟩, .slice (some ⟨w7.heap.size, 0, none⟩) 2 2] (w7.alloc (.cells #[.int .i64 10, .int .i64 7] 3)) fun e w' => PutTo (w7.alloc (.cells #[.int .i64 10, .int .i64 7] 3)) B ML ME tv (addE es3 (putS t x.name ws [10, 7])) e w' from
                      mput_any B ML ME tv t es3 x.name ws [10, 7] w7.heap.size _ (HS7.out.alloc _).mkr (HS7.out.alloc _).tab (ints_row w7 [10, 7] 3) (by simp) _ rfl)
                    have HS5 := Lib.hid (HS7.out.alloc (.cells #[.int .i64 10, .int .i64 7] 3))
                    clear hw
                    go_wp2_with fail
                    refine HP.out.mono ?_
                    rintro e w8 hp
                    have HS8 := Lib.hid (HS5.out.put hp)
                    have HB8 := Lib.hid (show w8.heap[wr.heap.size]? = some (.cells uc 51 (0, 0)) from by
                      obtain ⟨-, -, hf⟩ := hp
                      exact hf.heap (heap_alloc HB7.out _) hUE)
                    obtain ⟨rfl, -, -⟩ := hp
                    have k1 := ((rd HB8.out).1 1).trans H1.out
                    clear HP HS5
                    go_wp2_with fail
                    refine bodyPost_ret (results_none rfl _ _ _) rfl ?_
                    exact ⟨rfl, by rw [← HE.out]; exact HS8.out.mkr, HS8.out.fr⟩
end Go.Proofs.YtcaamakodneplaaGreat

/-
  Package slices: Grow of a nil row of texts, Concat of rows of texts.
-/
namespace Go.Proofs.YtcaamakodneplaaGreat
open Go Go.RowKit
set_option linter.unusedVariables false
set_option maxRecDepth 100000

theorem wpList_append_run2 {P : Program} {w : World} {ops : Array Oper} {rest : List Oper} {o : Oper} {a : Act} {Q : Exit → Act → World → Prop} (hw : Region.wanted o (yielded ops a.tmps) = true) (s x : Operand) (t t2 : TypeId)
    (ho : o.op = .call { callee := .builtin .append, args := #[s, x], argTypes := #[t, t2] }) {v xv v' : Value} {w' : World} (hr : (Builtin.append_ #[t, t2] o.type #[v, xv]).run P w = .ok v' w') (hs : a.eval s = v) (hx : a.eval x = xv)
    (h : wpList P ops Q rest (a.put o.dst v') w') : wpList P ops Q (o :: rest) a w := by
  refine wpList_step fun K hK => ?_
  rw [if_pos hw]
  unfold Oper.wp execOp
  simp only [ho, resolve, invoke, builtin, Sem.run_bind, Sem.run_pure, Result.andThen_ok, List.map_toArray, List.map_cons, List.map_nil, hs, hx, hr]
  exact hK _ _ h

def OwnOut (w : World) (l : List Str) (e : Ending) (w' : World) : Prop := ∃ v, e = .returned v ∧ w'.ownsRow w.heap.size 9 1 v l.length (strVals l) ∧ Below w.heap.size w w'

set_option maxHeartbeats 1000000 in
theorem grow_any (n : Nat) (w : World) (hn : n < 1073741824) : Calls Tryz.prog 101 #[.slice none 0 0, .int .i64 n] w fun e w' => ∃ v, e = .returned v ∧ w'.ownsRow w.heap.size 9 1 v 0 [] ∧ Below w.heap.size w w' := by
  obtain ⟨i0, hi0, hz0, hz1, hz2⟩ := info_parts infoString
  by_cases h0 : n = 0
  · subst h0
    go_enter Tryz.func101, Tryz.ntmps101
    go_wp2_with fail
    go_ret
    exact ⟨_, rfl, World.ownsRow_nil _ _ _ _, Below.refl _ _⟩
  · have hrun : ∀ ty, (Builtin.append_ #[37, 3] ty #[.slice none 0 0, .int .i64 (n : Int)]).run Tryz.prog w = .ok (.slice (some ⟨w.heap.size, 0, none⟩) (0 + n) (grownCap w (0 + n) 0 9)) (w.drew.alloc (.cells (#[] ++ Builtin.zeroCells (Value.string ⟨#[]⟩).cells n ++ Builtin.zeroCells (Value.string ⟨#[]⟩).cells (grownCap w (0 + n) 0 9 - (0 + n))) 9)) := fun ty =>
      Lib.run_append_grow_zeros w 37 3 ty 9 i0 (.string ⟨#[]⟩) .i64 .i64 Tryz.underlying37 Tryz.underlying3 hi0 hz0 none 0 0 [] (run_firstCells_none w.drew i0.size 0 0 0) n (by omega) (by omega) (by omega) (by omega) (by rw [hz2]; omega) (growslice_fits (by omega) (by rw [hz2]; omega))
    have hG := grownCap_ge w (0 + n) 0 9
    have hM := grownCap_le_maxLen w (0 + n) 0 9 (by unfold maxLen; omega)
    generalize grownCap w (0 + n) 0 9 = G at *
    have HR := Lib.hid hrun
    have hown : (w.drew.alloc (.cells (#[] ++ Builtin.zeroCells (Value.string ⟨#[]⟩).cells n ++ Builtin.zeroCells (Value.string ⟨#[]⟩).cells (G - (0 + n))) 9)).ownsRow w.heap.size 9 1 (.slice (some ⟨w.heap.size, 0, none⟩) 0 G) 0 [] := by
      refine ⟨rfl, .inr ⟨w.heap.size, G, _, rfl, Nat.le_refl _, heap_alloc_new w.drew _, Nat.zero_le _, hM, ?_, by simp⟩⟩
      simp [Builtin.zeroCells, Value.cells]
      omega
    have HO := Lib.hid hown
    have HB := Lib.hid ((show Below w.heap.size w w.drew from below_dn ⟨1, rfl⟩).alloc (Nat.le_refl _) (.cells (#[] ++ Builtin.zeroCells (Value.string ⟨#[]⟩).cells n ++ Builtin.zeroCells (Value.string ⟨#[]⟩).cells (G - (0 + n))) 9))
    clear hrun hown
    have h1 : ¬ ((n : Int) < 0) := by omega
    have h2 : wrap64 ((n : Int) - 0) = (n : Int) := by unfold wrap64; omega
    have h2b : wrap64 (n : Int) = (n : Int) := by unfold wrap64; omega
    have h4 : (n : Int) > 0 := by omega
    have h5 : (0 : Int) < n := h4
    have hM2 : (G : Int) ≤ 9223372036854775807 := by unfold maxLen at hM; omega
    generalize hw1 : w.drew.alloc _ = w1 at *
    clear hw1
    go_enter Tryz.func101, Tryz.ntmps101
    go_wp2_with (at_builtin; refine wpList_append_run2 rfl _ _ 37 3 rfl (HR.out _) rfl rfl ?_)
    go_ret
    exact ⟨_, rfl, HO.out, HB.out⟩
end Go.Proofs.YtcaamakodneplaaGreat

/-
  Package slices: Concat of rows of texts.
-/
namespace Go.Proofs.YtcaamakodneplaaGreat
open Go Go.RowKit
set_option linter.unusedVariables false
set_option maxRecDepth 100000

/-- The rows that Concat joins. -/
structure RowsIn (w : World) (G : Nat) (ls : List (List Str)) : Prop where
  lt : G < w.heap.size
  row : ∀ k (h : k < ls.length), ∃ oa cap, w.cell? ⟨G, k, none⟩ = some (.slice oa ls[k].length cap) ∧ StrRow w oa ls[k]
theorem RowsIn.below {w w' : World} {G : Nat} {ls : List (List Str)} (h : RowsIn w G ls) (hb : Below w.heap.size w w') : RowsIn w' G ls :=
  ⟨Nat.lt_of_lt_of_le h.lt hb.size, fun k hk => by obtain ⟨oa, cap, h1, h2⟩ := h.row k hk; exact ⟨oa, cap, by rw [hb.cell h.lt]; exact h1, h2.below hb⟩⟩
theorem flat_take_succ (ls : List (List Str)) (k : Nat) (h : k < ls.length) : (ls.take (k + 1)).flatten = (ls.take k).flatten ++ ls[k] := by
  rw [List.take_succ_eq_append_getElem h, List.flatten_append]; simp
theorem flat_take_le (ls : List (List Str)) (k : Nat) : (ls.take k).flatten.length ≤ ls.flatten.length := by
  have : ls.flatten = (ls.take k).flatten ++ (ls.drop k).flatten := by rw [← List.flatten_append, List.take_append_drop]
  rw [this, List.length_append]; omega

set_option maxHeartbeats 1000000 in
theorem concat_any (G cap0 : Nat) (ls : List (List Str)) (w : World) (hr : RowsIn w G ls) (hl : ls.length < 1000) (hs : ls.flatten.length < 1073741824) :
    Calls Tryz.prog 69 #[.slice (some ⟨G, 0, none⟩) ls.length cap0] w fun e w' => OwnOut w ls.flatten e w' := by
  obtain ⟨i0, hi0, hz0, hz1, hz2⟩ := info_parts infoString
  have HR := Lib.hid hr; clear hr
  have HS := Lib.hid hs
  go_enter Tryz.func69, Tryz.ntmps69
  go_wp2_with fail
  go_loopg [3, 11] (ls.length + 1) (fun f n i wr => ∃ k : Nat, k ≤ ls.length ∧ i = .int .i64 k ∧ n = .int .i64 ((ls.take k).flatten.length : Nat) ∧ ls.length - k < f ∧ w = wr)
  case atStart => exact ⟨0, by omega, rfl, by simp, by omega, rfl⟩
  case round =>
    obtain ⟨k, hk, rfl, rfl, hfu, rfl⟩ := hrel
    by_cases hlt : k < ls.length
    · obtain ⟨oa, cap, hc, -⟩ := HR.out.row k hlt
      have hN := flat_take_succ ls k hlt
      have hle := flat_take_le ls (k + 1)
      have hlen : (ls.take (k + 1)).flatten.length = (ls.take k).flatten.length + ls[k].length := by rw [hN, List.length_append]
      rw [hlen] at hle
      have HL := Lib.hid hlen
      clear hN hlen
      generalize (ls.take k).flatten.length = a at *
      generalize ls[k].length = b at *
      have i5 : (k : Int) < (ls.length : Int) := by omega
      have h2 : wrap64 ((a : Int) + (b : Int)) = (a : Int) + (b : Int) := by unfold wrap64; omega
      have h3 : ¬ ((a : Int) + (b : Int) < 0) := by omega
      go_wp2_with fail
      go_roundg (gk - 1)
      case measure => omega
      case rel => exact ⟨k + 1, by omega, by go_num, by rw [HL.out]; go_num, by omega, rfl⟩
    · have hke : k = ls.length := by omega
      subst hke
      rw [List.take_length]
      have hge : ¬ ((ls.length : Int) < (ls.length : Int)) := by omega
      have HG := Lib.hid (grow_any ls.flatten.length w hs)
      generalize hFN : ls.flatten.length = N at HG ⊢
      have HFN := Lib.hid hFN; clear hFN
      go_wp2_with fail
      refine HG.out.mono ?_
      rintro e w1 ⟨v0, rfl, ho, hb⟩
      obtain ⟨ao, cap1, rfl⟩ := ownsRow_form ho
      have HO := Lib.hid ho; have HB := Lib.hid hb
      clear ho hb HG hfu hk hlt
      go_wp2_with fail
      go_loopg [6, 27] (ls.length + 1) (fun f v i w2 => ∃ k : Nat, k ≤ ls.length ∧ i = .int .i64 k ∧ ls.length - k < f ∧ Hid (w2.ownsRow w.heap.size 9 1 v (ls.take k).flatten.length (strVals (ls.take k).flatten)) ∧ Hid (Below w.heap.size w w2))
      case atStart => exact ⟨0, by omega, rfl, by omega, HO, HB⟩
      case round =>
        obtain ⟨k, hk, rfl, hfu, Hown, Hb⟩ := hrel
        clear HO HB
        obtain ⟨oa', cap', rfl⟩ := ownsRow_form Hown.out
        by_cases hlt : k < ls.length
        · obtain ⟨oa, cap, hc, hrow⟩ := (HR.out.below Hb.out).row k hlt
          have hN := flat_take_succ ls k hlt
          have hle := Nat.lt_of_le_of_lt (flat_take_le ls (k + 1)) HS.out
          rw [hN, List.length_append] at hle
          have HN := Lib.hid hN
          have i5 : (k : Int) < (ls.length : Int) := by omega
          obtain ⟨v', w3, hrun, hown, hgrow⟩ := append_rows w.heap.size 37 37 9 i0 (.string ⟨#[]⟩) 1 16 Tryz.underlying37 hi0 hz0 hz1 hz2 rfl (by decide) _ _ _ Hown.out oa ls[k].length cap (strVals ls[k]) (by simp [strVals_length]) hrow.cells (strVals_one _) (by unfold maxLen; omega) (by omega) Hb.out.size
          have HRUN := Lib.hid hrun
          have HB3 := Lib.hid (Hb.out.grown hgrow Hb.out.size (fun g hg => (Hown.out.lt g hg).1))
          have HO3 := Lib.hid (show w3.ownsRow w.heap.size 9 1 v' (ls.take (k + 1)).flatten.length (strVals (ls.take (k + 1)).flatten) by rw [hN, List.length_append, strVals, List.map_append]; exact hown)
          clear hrun hown hgrow hN hrow
          go_wp2_with (at_builtin; refine wpList_append_run rfl _ _ 37 rfl HRUN.out rfl rfl ?_)
          obtain ⟨ao, cap2, rfl⟩ := ownsRow_form HO3.out
          go_roundg (gk - 1)
          case measure => omega
          case rel => exact ⟨k + 1, by omega, by go_num, by omega, HO3, HB3⟩
        · have hke : k = ls.length := by omega
          subst hke
          have hge : ¬ ((ls.length : Int) < (ls.length : Int)) := by omega
          have HO3 := Lib.hid (by have := Hown.out; rw [List.take_length] at this; exact this)
          clear Hown
          rw [List.take_length]
          generalize hFL : ls.flatten = FL at HO3 ⊢
          have HFL := Lib.hid hFL; clear hFL
          go_wp2_with fail
          go_ret
          exact ⟨_, rfl, by rw [HFL.out]; exact HO3.out, Hb.out⟩
end Go.Proofs.YtcaamakodneplaaGreat

/-
  Package graph: the maker's gathers.
-/
namespace Go.Proofs.YtcaamakodneplaaGreat
open Go Go.RowKit
set_option linter.unusedVariables false
set_option maxRecDepth 100000

def relTo (l : List RelS) : List Str := (l.filter fun r => r.kind == 1 || r.kind == 2).map (·.name)
theorem relTo_snoc (l : List RelS) (k : Nat) (h : k < l.length) : relTo (l.take (k + 1)) = relTo (l.take k) ++ (if (l[k].kind == 1 || l[k].kind == 2) = true then [l[k].name] else []) := by
  unfold relTo
  rw [List.take_succ_eq_append_getElem h, List.filter_append, List.map_append]
  cases hq : (l[k].kind == 1 || l[k].kind == 2) <;> simp [hq]
theorem relTo_len (l : List RelS) (k : Nat) : (relTo (l.take k)).length ≤ l.length := by
  unfold relTo; rw [List.length_map]; exact Nat.le_trans (List.length_filter_le _ _) (by rw [List.length_take]; omega)

set_option maxHeartbeats 1000000 in
theorem gathers_any (B ML ME : Nat) (tv : List (Str × Value)) (t : List LdS) (es : List EdgeS) (cs : Array Value) (x : LdS) (w : World) (hM : Mk w B ML ME tv es) (hT : TabRd w tv t) (hL : LdRd w cs x) (hm : MaxAt w) (es' : List EdgeS) (he : addE es (gathersS t x) = es') :
    Calls Tryz.prog 51 #[.pointer (some ⟨B, 0, none⟩), .agg cs] w fun e w' => PutTo w B ML ME tv es' e w' := by
  obtain ⟨i0, hi0, hz0, hz1, hz2⟩ := info_parts infoString
  have HE := Lib.hid (show addE es ((x.wants ++ x.reqs ++ relTo x.rels).flatMap fun s => if hasS t s 8 x.name then [] else putS t x.name s [8]) = es' from he)
  have HS := Lib.hid (SIn.start hM hT hL hm)
  obtain ⟨v1, a1, b1⟩ := hL.rels
  obtain ⟨oa1, cap1, e1, -⟩ := b1.ex
  obtain ⟨v2, a2, b2⟩ := hL.wants
  obtain ⟨oa2, cap2, e2, -⟩ := b2.ex
  obtain ⟨v3, a3, b3⟩ := hL.reqs
  obtain ⟨oa3, cap3, e3, -⟩ := b3.ex
  subst e1; subst e2; subst e3
  have A0 := Lib.hid hL.name
  have A1 := Lib.hid a1; have A2 := Lib.hid a2; have A3 := Lib.hid a3
  have hsm := hL.small
  have n1 := hsm.rels; have n2 := hsm.wants; have n3 := hsm.reqs
  have k40 := ((rd HS.out.box).1 40).trans A2.out
  have k41 := ((rd HS.out.box).1 41).trans A3.out
  -- what Concat reads
  have HR := Lib.hid (show ∀ (W : World), Below (w.alloc (.cells cs 53)).heap.size (w.alloc (.cells cs 53)) W → RowsIn (W.alloc (.cells #[.slice oa2 x.wants.length cap2, .slice oa3 x.reqs.length cap3] 37)) W.heap.size [x.wants, x.reqs] from by
    intro W hb
    have hS := HS.out.below hb
    have hn := heap_alloc_new W (.cells #[.slice oa2 x.wants.length cap2, .slice oa3 x.reqs.length cap3] 37)
    have hbb := (Below.refl W.heap.size W).alloc (Nat.le_refl _) (.cells #[.slice oa2 x.wants.length cap2, .slice oa3 x.reqs.length cap3] 37)
    refine ⟨lt_heap hn, fun k hk => ?_⟩
    match k, hk with
    | 0, _ =>
      obtain ⟨v, a, ⟨oa, cap, e, r⟩⟩ := hS.ld.wants
      rw [A2.out] at a
      injection a with a
      subst a
      injection e with e e2 e3
      subst e; subst e3
      exact ⟨oa2, cap2, (rd hn).1 0, r.below hbb⟩
    | 1, _ =>
      obtain ⟨v, a, ⟨oa, cap, e, r⟩⟩ := hS.ld.reqs
      rw [A3.out] at a
      injection a with a
      subst a
      injection e with e e2 e3
      subst e; subst e3
      exact ⟨oa3, cap3, (rd hn).1 1, r.below hbb⟩)
  have HC := Lib.hid (show Calls Tryz.prog 69 #[.slice (some ⟨(w.alloc (.cells cs 53)).heap.size, 0, none⟩) 2 2] ((w.alloc (.cells cs 53)).alloc (.cells #[.slice oa2 x.wants.length cap2, .slice oa3 x.reqs.length cap3] 37)) fun e w' => OwnOut ((w.alloc (.cells cs 53)).alloc (.cells #[.slice oa2 x.wants.length cap2, .slice oa3 x.reqs.length cap3] 37)) (x.wants ++ x.reqs) e w' by
    have := concat_any (w.alloc (.cells cs 53)).heap.size 2 [x.wants, x.reqs] _ (HR.out _ (Below.refl _ _)) (by simp) (by simp; omega)
    simpa using this)
  have hz : (w.alloc (.cells cs 53)).heap.size = w.heap.size + 1 := Array.size_push _
  rw [hz] at HC
  have HS2 := Lib.hid (HS.out.alloc (.cells #[.slice oa2 x.wants.length cap2, .slice oa3 x.reqs.length cap3] 37))
  clear he hM hT hL hm a1 a2 a3 b1 b2 b3 hsm hz HR
  go_enter Tryz.func51, Tryz.ntmps51
  go_wp2_with fail
  generalize (w.alloc (.cells cs 53)).alloc (.cells #[.slice oa2 x.wants.length cap2, .slice oa3 x.reqs.length cap3] 37) = w1 at *
  generalize hL0 : w.heap.size = L at *
  have HL0 := Lib.hid hL0; clear hL0 k40 k41 HS
  refine HC.out.mono ?_
  rintro e w2 ⟨v0, rfl, ho, hb⟩
  obtain ⟨ao, cap4, rfl⟩ := ownsRow_form ho
  have HO := Lib.hid ho; have HB := Lib.hid hb
  have k9 := ((rd (HS2.out.below hb).box).1 9).trans A1.out
  clear ho hb HC
  go_wp2_with fail
  clear k9
  go_loopg [4, 19] (x.rels.length + 1) (fun f v i wr => ∃ k : Nat, k ≤ x.rels.length ∧ i = .int .i64 k ∧ x.rels.length - k < f ∧ Hid (wr.ownsRow w1.heap.size 9 1 v (x.wants ++ x.reqs ++ relTo (x.rels.take k)).length (strVals (x.wants ++ x.reqs ++ relTo (x.rels.take k)))) ∧ Hid (Below w1.heap.size w1 wr))
  case atStart => exact ⟨0, by omega, rfl, by omega, by simpa [relTo] using HO, HB⟩
  case round =>
    obtain ⟨k, hk, rfl, hfu, Hown, Hb⟩ := hrel
    clear HO HB
    obtain ⟨oa', cap', rfl⟩ := ownsRow_form Hown.out
    by_cases hlt : k < x.rels.length
    · have HSk := Lib.hid (HS2.out.below Hb.out)
      obtain ⟨v1, a1, ⟨oa1', cap1', e1, r1⟩⟩ := HSk.out.ld.rels
      rw [A1.out] at a1
      injection a1 with a1
      subst a1
      injection e1 with e1 e2 e3
      subst e1; subst e3
      obtain ⟨b, o, rfl, hblt, hcc⟩ := r1 k hlt
      have HN := Lib.hid (relTo_snoc x.rels k hlt)
      have hlen := relTo_len x.rels k
      obtain ⟨y, hy⟩ : ∃ y, y = x.rels[k] := ⟨_, rfl⟩
      rw [← hy] at hcc HN
      have d0 := hcc 0 _ rfl; have d1 := hcc 1 _ rfl
      simp only [Nat.add_zero] at d0
      have i5 : (k : Int) < (x.rels.length : Int) := by omega
      have hlb : (x.wants ++ x.reqs ++ relTo (x.rels.take k)).length < 16777216 := by simp only [List.length_append]; omega
      clear hcc hy hlen
      obtain ⟨acc, hacc⟩ : ∃ z, z = x.wants ++ x.reqs ++ relTo (x.rels.take k) := ⟨_, rfl⟩
      have HN2 := Lib.hid (show x.wants ++ x.reqs ++ relTo (x.rels.take (k + 1)) = acc ++ (if (y.kind == 1 || y.kind == 2) = true then [y.name] else []) by rw [HN.out, hacc, List.append_assoc, List.append_assoc, List.append_assoc])
      rw [← hacc] at Hown hlb ⊢
      clear hacc HN
      have hsz := Hb.out.size
      cases q1 : (y.kind == 1) with
      | true =>
        have HNN := Lib.hid (show x.wants ++ x.reqs ++ relTo (x.rels.take (k + 1)) = acc ++ [y.name] by rw [HN2.out, q1]; simp)
        have Hown2 := Lib.hid ((Hown.out.alloc (.cells #[.int .i64 y.kind, .string ⟨y.name.toArray⟩] 56)).alloc (.cells #[.string ⟨y.name.toArray⟩] 9))
        go_wp2_with (at_builtin; refine wpList_append_own _ rfl _ _ 37 rfl w1.heap.size 9 i0 (.string ⟨#[]⟩) 1 16 Tryz.underlying37 hi0 hz0 hz1 hz2 rfl (by decide) _ _ _ rfl Hown2.out ⟨wr.heap.size + 1, 0, none⟩ 1 1 [.string ⟨y.name.toArray⟩] rfl rfl ?c1 ?c2 ?c3 ?c4 ?c5 ?_)
        try (case c1 => rw [show wr.heap.size + 1 = (wr.alloc (.cells #[.int .i64 y.kind, .string ⟨y.name.toArray⟩] 56)).heap.size by simp]; exact cell_one_new _ _ _)
        case c2 => simp [Value.oneCell']
        case c3 => unfold maxLen; omega
        case c4 => omega
        case c5 => first | omega | (simp; omega)
        intro v' w4 hown' hgrow hnil
        have HB4 := Lib.hid ((((Hb.out.alloc hsz _).alloc (by simp; omega) _).grown hgrow (by simp; omega) (fun g hg => (Hown.out.lt g hg).1)))
        have HO4 := Lib.hid (show w4.ownsRow w1.heap.size 9 1 v' (x.wants ++ x.reqs ++ relTo (x.rels.take (k + 1))).length (strVals (x.wants ++ x.reqs ++ relTo (x.rels.take (k + 1)))) by rw [HNN.out, strVals_snoc, List.length_append]; exact hown')
        clear hgrow hnil hown'
        obtain ⟨ao, cap2, rfl⟩ := ownsRow_form HO4.out
        go_wp2_with fail
        go_roundg (gk - 1)
        case measure => omega
        case rel => exact ⟨k + 1, by omega, by go_num, by omega, HO4, HB4⟩
      | false =>
        cases q2 : (y.kind == 2) with
        | true =>
          have HNN := Lib.hid (show x.wants ++ x.reqs ++ relTo (x.rels.take (k + 1)) = acc ++ [y.name] by rw [HN2.out, q1, q2]; simp)
          have Hown2 := Lib.hid ((Hown.out.alloc (.cells #[.int .i64 y.kind, .string ⟨y.name.toArray⟩] 56)).alloc (.cells #[.string ⟨y.name.toArray⟩] 9))
          go_wp2_with (at_builtin; refine wpList_append_own _ rfl _ _ 37 rfl w1.heap.size 9 i0 (.string ⟨#[]⟩) 1 16 Tryz.underlying37 hi0 hz0 hz1 hz2 rfl (by decide) _ _ _ rfl Hown2.out ⟨wr.heap.size + 1, 0, none⟩ 1 1 [.string ⟨y.name.toArray⟩] rfl rfl ?d1 ?d2 ?d3 ?d4 ?d5 ?_)
          try (case d1 => rw [show wr.heap.size + 1 = (wr.alloc (.cells #[.int .i64 y.kind, .string ⟨y.name.toArray⟩] 56)).heap.size by simp]; exact cell_one_new _ _ _)
          case d2 => simp [Value.oneCell']
          case d3 => unfold maxLen; omega
          case d4 => omega
          case d5 => first | omega | (simp; omega)
          intro v' w4 hown' hgrow hnil
          have HB4 := Lib.hid ((((Hb.out.alloc hsz _).alloc (by simp; omega) _).grown hgrow (by simp; omega) (fun g hg => (Hown.out.lt g hg).1)))
          have HO4 := Lib.hid (show w4.ownsRow w1.heap.size 9 1 v' (x.wants ++ x.reqs ++ relTo (x.rels.take (k + 1))).length (strVals (x.wants ++ x.reqs ++ relTo (x.rels.take (k + 1)))) by rw [HNN.out, strVals_snoc, List.length_append]; exact hown')
          clear hgrow hnil hown'
          obtain ⟨ao, cap2, rfl⟩ := ownsRow_form HO4.out
          go_wp2_with fail
          go_roundg (gk - 1)
          case measure => omega
          case rel => exact ⟨k + 1, by omega, by go_num, by omega, HO4, HB4⟩
        | false =>
          have HNN := Lib.hid (show x.wants ++ x.reqs ++ relTo (x.rels.take (k + 1)) = acc by rw [HN2.out, q1, q2]; simp)
          have Hown2 := Lib.hid (Hown.out.alloc (.cells #[.int .i64 y.kind, .string ⟨y.name.toArray⟩] 56))
          have Hb2 := Lib.hid (Hb.out.alloc hsz (.cells #[.int .i64 y.kind, .string ⟨y.name.toArray⟩] 56))
          go_wp2_with fail
          go_roundg (gk - 1)
          case measure => omega
          case rel => exact ⟨k + 1, by omega, by go_num, by omega, by rw [HNN.out]; exact Hown2, Hb2⟩
    · have hke : k = x.rels.length := by omega
      subst hke
      have hge : ¬ ((x.rels.length : Int) < (x.rels.length : Int)) := by omega
      have hlb : (x.wants ++ x.reqs ++ relTo (x.rels.take x.rels.length)).length < 16777216 := by
        have := relTo_len x.rels x.rels.length
        simp only [List.length_append]; omega
      rw [List.take_length] at Hown hlb ⊢
      generalize x.wants ++ x.reqs ++ relTo x.rels = l at *
      have HS3 := Lib.hid (HS2.out.below Hb.out)
      have HR3 := Lib.hid (StrRow.of_own Hown.out)
      have k0 := HS3.out.name
      clear Hown Hb HS2 hlt hk hfu
      go_wp2_with fail
      clear k0
      go_loopg [39] (l.length + 1) (fun f i wr => ∃ k : Nat, k ≤ l.length ∧ i = .int .i64 k ∧ l.length - k < f ∧ Hid (SIn w wr B ML ME L tv t cs x (addE es ((l.take k).flatMap fun s => if hasS t s 8 x.name then [] else putS t x.name s [8]))) ∧ Hid (StrRow wr oa' l))
      case atStart => exact ⟨0, by omega, rfl, by omega, HS3, HR3⟩
      case round =>
        obtain ⟨k, hk, rfl, hfu, HSk, HRk⟩ := hrel
        clear HS3 HR3
        by_cases hlt : k < l.length
        · obtain ⟨b, o, rfl, hcc⟩ := HRk.out k hlt
          obtain ⟨y, hy⟩ : ∃ y, y = l[k] := ⟨_, rfl⟩
          rw [← hy] at hcc
          have i5 : (k : Int) < (l.length : Int) := by omega
          have k0 := HSk.out.name
          have hltL := lt_heap HSk.out.box
          have hsn : (l.take (k + 1)).flatMap (fun s => if hasS t s 8 x.name then [] else putS t x.name s [8]) = (l.take k).flatMap (fun s => if hasS t s 8 x.name then [] else putS t x.name s [8]) ++ (if hasS t y 8 x.name then [] else putS t x.name y [8]) := by
            rw [List.take_succ_eq_append_getElem hlt, List.flatMap_append, hy]; simp
          have HSN := Lib.hid hsn
          generalize (l.take k).flatMap (fun s => if hasS t s 8 x.name then [] else putS t x.name s [8]) = pre at *
          have HH := Lib.hid (mhas_any B ML ME tv t (addE es pre) y x.name 8 wr HSk.out.mkr HSk.out.tab (hasS t y 8 x.name) rfl)
          clear hsn hy
          go_wp2_with fail
          refine HH.out.mono ?_
          rintro e w5 ⟨rfl, hb5⟩
          have HS5 := Lib.hid (HSk.out.below hb5)
          have HR5 := Lib.hid (HRk.out.below hb5)
          have k0 := HS5.out.name
          have hltL := lt_heap HS5.out.box
          clear hb5 HH HSk HRk hcc
          cases hq : hasS t y 8 x.name with
          | true =>
            have HNN := Lib.hid (show addE es ((l.take (k + 1)).flatMap fun s => if hasS t s 8 x.name then [] else putS t x.name s [8]) = addE es pre by rw [HSN.out, hq]; simp)
            clear hq
            go_wp2_with fail
            go_roundg (gk - 1)
            case measure => omega
            case rel => exact ⟨k + 1, by omega, by go_num, by omega, by rw [HNN.out]; exact HS5, HR5⟩
          | false =>
            have HNN := Lib.hid (show addE es ((l.take (k + 1)).flatMap fun s => if hasS t s 8 x.name then [] else putS t x.name s [8]) = addE (addE es pre) (putS t x.name y [8]) by rw [HSN.out, hq, addE_append]; simp)
            clear hq
            have HP := Lib.hid (show Calls Tryz.prog 50 #[.pointer (some ⟨B, 0, none⟩), .string ⟨x.name.toArray⟩, .string ⟨y.toArray⟩, .slice (some ⟨w5.heap.size, 0, none⟩) 1 1] (w5.alloc (.cells #[.int .i64 8] 3)) fun e w' => PutTo (w5.alloc (.cells #[.int .i64 8] 3)) B ML ME tv (addE (addE es pre) (putS t x.name y [8])) e w' from
              mput_any B ML ME tv t (addE es pre) x.name y [8] w5.heap.size _ (HS5.out.alloc _).mkr (HS5.out.alloc _).tab (ints_row w5 [8] 3) (by simp) _ rfl)
            have HS6 := Lib.hid (HS5.out.alloc (.cells #[.int .i64 8] 3))
            have HR6 := Lib.hid (HR5.out.below ((Below.refl _ _).alloc (Nat.le_refl _) (.cells #[.int .i64 8] 3)))
            go_wp2_with fail
            refine HP.out.mono ?_
            rintro e w6 hp
            have HS7 := Lib.hid (HS6.out.put hp)
            have HR7 := Lib.hid (show StrRow w6 (some ⟨b, o, none⟩) l by
              obtain ⟨-, -, hf⟩ := hp
              obtain ⟨es0, c0, hb0, _⟩ := HS6.out.mkr.set
              exact HR6.out.frm hb0 hf)
            obtain ⟨rfl, -, -⟩ := hp
            clear HP HS5 HS6 HR5 HR6
            go_wp2_with fail
            go_roundg (gk - 1)
            case measure => omega
            case rel => exact ⟨k + 1, by omega, by go_num, by omega, by rw [HNN.out]; exact HS7, HR7⟩
        · have HS8 := Lib.hid (show SIn w wr B ML ME L tv t cs x es' by
            have := HSk.out
            rwa [List.take_of_length_le (by omega), HE.out] at this)
          have hge : ¬ ((k : Int) < (l.length : Int)) := by omega
          clear hfu HSk
          go_wp2_with fail
          refine bodyPost_ret (results_none rfl _ _ _) rfl ?_
          exact ⟨rfl, HS8.out.mkr, HS8.out.fr⟩
end Go.Proofs.YtcaamakodneplaaGreat

/-
  Package graph: the maker's standard.
-/
namespace Go.Proofs.YtcaamakodneplaaGreat
open Go Go.RowKit
set_option linter.unusedVariables false
set_option maxRecDepth 100000

set_option maxHeartbeats 1000000 in
theorem standard_any (B ML ME : Nat) (tv : List (Str × Value)) (t : List LdS) (es : List EdgeS) (cs : Array Value) (x : LdS) (w : World) (hM : Mk w B ML ME tv es) (hT : TabRd w tv t) (hL : LdRd w cs x) (hm : MaxAt w) (es' : List EdgeS) (he : addE es (standardS t x) = es') :
    Calls Tryz.prog 30 #[.pointer (some ⟨B, 0, none⟩), .agg cs] w fun e w' => PutTo w B ML ME tv es' e w' := by
  unfold standardS at he
  have HS := Lib.hid (SIn.start hM hT hL hm)
  have hsm := hL.small
  have hnm := hsm.name
  have k0 := HS.out.name
  have HK := Lib.hid (show Calls Tryz.prog 48 #[.string ⟨x.name.toArray⟩] (w.alloc (.cells cs 53)) fun e w'' => e = .returned (.int .i64 (kindS x.name : Nat)) ∧ Below (w.alloc (.cells cs 53)).heap.size (w.alloc (.cells cs 53)) w'' from kind_any ⟨x.name.toArray⟩ _ (by show x.name.toArray.size < _; simp; omega) HS.out.max (kindS x.name) (by simp))
  have HZ := Lib.hid hL.size
  clear hM hT hL hm hsm
  generalize kindS x.name = kk at *
  by_cases h4 : kk = 4
  · subst h4
    have HE := Lib.hid (show addE es (gathersS t x) = es' by rw [← he]; rfl)
    clear he
    go_enter Tryz.func30, Tryz.ntmps30
    go_wp2_with fail
    generalize w.alloc (.cells cs 53) = w1 at *
    generalize hL0 : w.heap.size = L at *
    have HL0 := Lib.hid hL0; clear hL0 k0
    refine HK.out.mono ?_
    rintro e w2 ⟨rfl, hb⟩
    have HS2 := Lib.hid (HS.out.below hb)
    have k0 := HS2.out.name
    have hltL := lt_heap HS2.out.box
    clear hb HK HS
    have HBX := Lib.hid HS2.out.box
    have HG := Lib.hid (gathers_any B ML ME tv t es cs x w2 HS2.out.mkr HS2.out.tab HS2.out.ld HS2.out.max es' HE.out)
    go_wp2_with (refine l_load rfl 53 _ L cs 53 _ rfl rfl HBX.out rfl rfl (by rw [HZ.out]; rfl) ?_)
    refine HG.out.mono ?_
    rintro e w3 hp
    have HS3 := Lib.hid (HS2.out.put hp)
    obtain ⟨rfl, -, -⟩ := hp
    go_wp2_with fail
    refine bodyPost_ret (results_none rfl _ _ _) rfl ?_
    exact ⟨rfl, HS3.out.mkr, HS3.out.fr⟩
  · have q4 : ((kk : Int) == 4) = false := by rw [beq_eq_false_iff_ne]; omega
    rw [if_neg h4] at he
    by_cases h1 : kk = 1
    · subst h1
      have HE := Lib.hid (show addE (addE (addE es (putS t x.name sFirst [1])) (putS t x.name sFirst [8])) (putS t x.name sLast [6, 7]) = es' by rw [← he, if_pos rfl, addE_append, addE_append])
      clear he
      go_enter Tryz.func30, Tryz.ntmps30
      go_wp2_with fail
      generalize w.alloc (.cells cs 53) = w1 at *
      generalize hL0 : w.heap.size = L at *
      have HL0 := Lib.hid hL0; clear hL0 k0
      refine HK.out.mono ?_
      rintro e w2 ⟨rfl, hb⟩
      have HS2 := Lib.hid (HS.out.below hb)
      have k0 := HS2.out.name
      have hltL := lt_heap HS2.out.box
      clear hb HK HS
      have HP := Lib.hid (show Calls Tryz.prog 50 #[.pointer (some ⟨B, 0, none⟩), .string ⟨x.name.toArray⟩, .string ⟨sFirst.toArray⟩, .slice (some ⟨w2.heap.size, 0, none⟩) 1 1] (w2.alloc (.cells #[.int .i64 1] 3)) fun e w' => PutTo (w2.alloc (.cells #[.int .i64 1] 3)) B ML ME tv (addE es (putS t x.name sFirst [1])) e w' from
        mput_any B ML ME tv t es x.name sFirst [1] w2.heap.size _ (HS2.out.alloc _).mkr (HS2.out.alloc _).tab (ints_row w2 [1] 3) (by simp) _ rfl)
      have HA := Lib.hid (HS2.out.alloc (.cells #[.int .i64 1] 3))
      go_wp2_with fail
      refine HP.out.mono ?_
      rintro e w3 hp
      have HS3 := Lib.hid (HA.out.put hp)
      have k0 := HS3.out.name
      have hltL := lt_heap HS3.out.box
      obtain ⟨rfl, -, -⟩ := hp
      clear HP HA HS2
      have HP := Lib.hid (show Calls Tryz.prog 50 #[.pointer (some ⟨B, 0, none⟩), .string ⟨x.name.toArray⟩, .string ⟨sFirst.toArray⟩, .slice (some ⟨w3.heap.size, 0, none⟩) 1 1] (w3.alloc (.cells #[.int .i64 8] 3)) fun e w' => PutTo (w3.alloc (.cells #[.int .i64 8] 3)) B ML ME tv (addE (addE es (putS t x.name sFirst [1])) (putS t x.name sFirst [8])) e w' from
        mput_any B ML ME tv t (addE es (putS t x.name sFirst [1])) x.name sFirst [8] w3.heap.size _ (HS3.out.alloc _).mkr (HS3.out.alloc _).tab (ints_row w3 [8] 3) (by simp) _ rfl)
      have HA := Lib.hid (HS3.out.alloc (.cells #[.int .i64 8] 3))
      go_wp2_with fail
      refine HP.out.mono ?_
      rintro e w4 hp
      have HS4 := Lib.hid (HA.out.put hp)
      have k0 := HS4.out.name
      have hltL := lt_heap HS4.out.box
      obtain ⟨rfl, -, -⟩ := hp
      clear HP HA HS3
      have HP := Lib.hid (show Calls Tryz.prog 50 #[.pointer (some ⟨B, 0, none⟩), .string ⟨x.name.toArray⟩, .string ⟨sLast.toArray⟩, .slice (some ⟨w4.heap.size, 0, none⟩) 2 2] (w4.alloc (.cells #[.int .i64 6, .int .i64 7] 3)) fun e w' => PutTo (w4.alloc (.cells #[.int .i64 6, .int .i64 7] 3)) B ML ME tv (addE (addE (addE es (putS t x.name sFirst [1])) (putS t x.name sFirst [8])) (putS t x.name sLast [6, 7])) e w' from
        mput_any B ML ME tv t (addE (addE es (putS t x.name sFirst [1])) (putS t x.name sFirst [8])) x.name sLast [6, 7] w4.heap.size _ (HS4.out.alloc _).mkr (HS4.out.alloc _).tab (ints_row w4 [6, 7] 3) (by simp) _ rfl)
      have HA := Lib.hid (HS4.out.alloc (.cells #[.int .i64 6, .int .i64 7] 3))
      go_wp2_with fail
      refine HP.out.mono ?_
      rintro e w5 hp
      have HS5 := Lib.hid (HA.out.put hp)
      have k0 := HS5.out.name
      have hltL := lt_heap HS5.out.box
      obtain ⟨rfl, -, -⟩ := hp
      clear HP HA HS4
      go_wp2_with fail
      refine bodyPost_ret (results_none rfl _ _ _) rfl ?_
      exact ⟨rfl, by rw [← HE.out]; exact HS5.out.mkr, HS5.out.fr⟩
    · have q1 : ((kk : Int) == 1) = false := by rw [beq_eq_false_iff_ne]; omega
      have HE := Lib.hid (show addE (addE es (putS t x.name sFirst [8])) (putS t x.name sLast [6, 7]) = es' by rw [← he, if_neg h1, List.nil_append, addE_append])
      clear he
      go_enter Tryz.func30, Tryz.ntmps30
      go_wp2_with fail
      generalize w.alloc (.cells cs 53) = w1 at *
      generalize hL0 : w.heap.size = L at *
      have HL0 := Lib.hid hL0; clear hL0 k0
      refine HK.out.mono ?_
      rintro e w2 ⟨rfl, hb⟩
      have HS2 := Lib.hid (HS.out.below hb)
      have k0 := HS2.out.name
      have hltL := lt_heap HS2.out.box
      clear hb HK HS
      have HP := Lib.hid (show Calls Tryz.prog 50 #[.pointer (some ⟨B, 0, none⟩), .string ⟨x.name.toArray⟩, .string ⟨sFirst.toArray⟩, .slice (some ⟨w2.heap.size, 0, none⟩) 1 1] (w2.alloc (.cells #[.int .i64 8] 3)) fun e w' => PutTo (w2.alloc (.cells #[.int .i64 8] 3)) B ML ME tv (addE es (putS t x.name sFirst [8])) e w' from
        mput_any B ML ME tv t es x.name sFirst [8] w2.heap.size _ (HS2.out.alloc _).mkr (HS2.out.alloc _).tab (ints_row w2 [8] 3) (by simp) _ rfl)
      have HA := Lib.hid (HS2.out.alloc (.cells #[.int .i64 8] 3))
      go_wp2_with fail
      refine HP.out.mono ?_
      rintro e w4 hp
      have HS4 := Lib.hid (HA.out.put hp)
      have k0 := HS4.out.name
      have hltL := lt_heap HS4.out.box
      obtain ⟨rfl, -, -⟩ := hp
      clear HP HA HS2
      have HP := Lib.hid (show Calls Tryz.prog 50 #[.pointer (some ⟨B, 0, none⟩), .string ⟨x.name.toArray⟩, .string ⟨sLast.toArray⟩, .slice (some ⟨w4.heap.size, 0, none⟩) 2 2] (w4.alloc (.cells #[.int .i64 6, .int .i64 7] 3)) fun e w' => PutTo (w4.alloc (.cells #[.int .i64 6, .int .i64 7] 3)) B ML ME tv (addE (addE es (putS t x.name sFirst [8])) (putS t x.name sLast [6, 7])) e w' from
        mput_any B ML ME tv t (addE es (putS t x.name sFirst [8])) x.name sLast [6, 7] w4.heap.size _ (HS4.out.alloc _).mkr (HS4.out.alloc _).tab (ints_row w4 [6, 7] 3) (by simp) _ rfl)
      have HA := Lib.hid (HS4.out.alloc (.cells #[.int .i64 6, .int .i64 7] 3))
      go_wp2_with fail
      refine HP.out.mono ?_
      rintro e w5 hp
      have HS5 := Lib.hid (HA.out.put hp)
      have k0 := HS5.out.name
      have hltL := lt_heap HS5.out.box
      obtain ⟨rfl, -, -⟩ := hp
      clear HP HA HS4
      go_wp2_with fail
      refine bodyPost_ret (results_none rfl _ _ _) rfl ?_
      exact ⟨rfl, by rw [← HE.out]; exact HS5.out.mkr, HS5.out.fr⟩
end Go.Proofs.YtcaamakodneplaaGreat

/-
  Plain law of putting a text into its place; steps of a region that append. No program in sight.
-/
namespace Go.Proofs.YtcaamakodneplaaGreat
open Go Go.RowKit
set_option linter.unusedVariables false

theorem insL_at {α : Type} [DecidableEq α] {lt : α → α → Bool} (h : STO lt) (s : α) : ∀ (l : List α) (k : Nat), k ≤ l.length → (∀ j (hj : j < l.length), j < k → lt l[j] s = true) → (∀ hk : k < l.length, lt l[k] s = false) →
    insL lt s l = l.take k ++ (if l[k]? = some s then l.drop k else s :: l.drop k)
  | [], k, hk, _, _ => by
    have : k = 0 := by simpa using hk
    subst this; simp [insL]
  | x :: r, 0, _, _, h2 => by
    have hx := h2 (by simp)
    simp only [List.getElem_cons_zero] at hx
    unfold insL
    rw [if_neg (by rw [hx]; decide)]
    by_cases e : x = s
    · subst e; simp [h.irrefl]
    · have : lt s x = true := by
        cases q : lt s x with
        | true => rfl
        | false => exact absurd (h.tri _ _ hx q) e
      rw [if_pos this]; simp [e]
  | x :: r, k + 1, hk, h1, h2 => by
    have hx := h1 0 (by simp) (by omega)
    simp only [List.getElem_cons_zero] at hx
    unfold insL
    rw [if_pos hx, insL_at h s r k (by simpa using hk) (fun j hj hjk => h1 (j + 1) (by simpa using hj) (by omega)) (fun hk => h2 (by simpa using hk))]
    simp

theorem StrRow.drop {w : World} {b o : Nat} {l : List (List UInt8)} (h : StrRow w (some ⟨b, o, none⟩) l) (k : Nat) : StrRow w (some ⟨b, o + k, none⟩) (l.drop k) := by
  intro i hi
  obtain ⟨b', o', e, hc⟩ := h (k + i) (by simp at hi; omega)
  injection e with e; injection e with e1 e2
  subst e1; subst e2
  exact ⟨b, o + k, rfl, by rw [Nat.add_assoc]; simpa using hc⟩
theorem step_append_rows {P : Program} {ops : Array Oper} {o : Oper} {a : Act} {w : World} {K : Act → World → Prop} {Q : Exit → Act → World → Prop} {E : Prop}
    (hg : o.guard = none) (s x : Operand) (t : TypeId) (hop : o.op = Op.call { callee := Callee.builtin Builtin.append, args := #[s, x], argTypes := #[t, t] })
    (base e : TypeId) (i : TypeInfo) (z : Value) (size bytes : Nat) (ht : P.underlying t = some (.slice e)) (hi : P.info? e = some i) (hz : i.zero = some z)
    (hsize : i.size = size) (hby : i.bytes = bytes) (hzs : z.cells.size = size) (hsz : 0 < size)
    (v : Value) (n : Nat) (xs : List Value) (hs : a.eval s = v) (hown : w.ownsRow base e size v n xs) (oa : Option Addr) (m c : Nat) (news : List Value) (hx : a.eval x = .slice oa m c) (hl : news.length = m * size)
    (hc : ∀ j u, news[j]? = some u → ∃ b o, oa = some ⟨b, o, none⟩ ∧ w.cell? ⟨b, o + j, none⟩ = some u) (h1 : ∀ u ∈ news, u.oneCell' = true)
    (h63 : n + m ≤ maxLen) (hbytes : (n + m) * bytes ≤ 140737488355328) (hbase : base ≤ w.heap.size)
    (hK : ∀ v' w', w'.ownsRow base e size v' (n + m) (xs ++ news) → w.grownBy w' v.ownBlock → K (a.put o.dst v') w') :
    if Region.wanted o (yielded ops a.tmps) = true then Oper.wp P o a w K Q else E := by
  have hw : Region.wanted o (yielded ops a.tmps) = true := by simp [Region.wanted, hg]
  rw [if_pos hw]
  obtain ⟨v', w', hrun, r1, r2⟩ := append_rows (P := P) base t o.type e i z size bytes ht hi hz hsize hby hzs hsz v n xs hown oa m c news hl hc h1 h63 hbytes hbase
  unfold Oper.wp
  simp [execOp, hop, resolve, invoke, builtin, hs, hx, hrun, Result.andThen]
  exact hK v' w' r1 r2
theorem own_built (w : World) (x : Value) (T : TypeId) : (w.alloc (.cells #[x] T)).ownsRow w.heap.size T 1 (.slice (some ⟨w.heap.size, 0, none⟩) 1 1) 1 [x] :=
  ⟨rfl, .inr ⟨w.heap.size, 1, #[x], rfl, Nat.le_refl _, heap_alloc_new _ _, Nat.le_refl _, by decide, rfl, rfl⟩⟩
theorem own_open {w : World} {base : Nat} {e : TypeId} {v : Value} {n : Nat} {xs : List Value} (h : w.ownsRow base e 1 v n xs) (hn : 0 < n) :
    ∃ g cap, v = .slice (some ⟨g, 0, none⟩) n cap ∧ (∀ j u, xs[j]? = some u → w.cell? ((⟨g, 0, none⟩ : Addr).add j) = some u) ∧ base ≤ g ∧ g < w.heap.size := by
  rcases h.2 with ⟨_, h0⟩ | ⟨g, cap, cur, hv, hb, hg, hnc, hcm, hs, ht⟩
  · omega
  · refine ⟨g, cap, hv, fun j u hu => ?_, hb, lt_heap hg⟩
    rw [show (⟨g, 0, none⟩ : Addr).add j = ⟨g, j, none⟩ by unfold Addr.add; split <;> simp_all]
    have hj : j < xs.length := by
      rcases Nat.lt_or_ge j xs.length with q | q
      · exact q
      · rw [List.getElem?_eq_none q] at hu; cases hu
    rw [h.1] at hj
    rw [← ht, List.getElem?_take_of_lt hj] at hu
    simp only [World.cell?, hg]
    simpa using hu
theorem StrRow.holds {w : World} {b o : Nat} {l : List (List UInt8)} (h : StrRow w (some ⟨b, o, none⟩) l) : ∀ b', (some (⟨b, o, none⟩ : Addr)) = some b' → ∀ j u, (strVals l)[j]? = some u → w.cell? (b'.add j) = some u := by
  intro b' e j u hu
  injection e with e
  subst e
  obtain ⟨b1, o1, e1, hc⟩ := h.cells j u hu
  injection e1 with e1; injection e1 with e2 e3
  subst e2; subst e3
  rw [show (⟨b, o, none⟩ : Addr).add j = ⟨b, o + j, none⟩ by unfold Addr.add; split <;> simp_all]
  exact hc
end Go.Proofs.YtcaamakodneplaaGreat

/-
  Package graph: what nodes walks over; plain laws and steps.
-/
namespace Go.Proofs.YtcaamakodneplaaGreat
open Go Go.RowKit
set_option linter.unusedVariables false
set_option maxRecDepth 100000

theorem firstsR_append (a b acc : List LdS) : firstsR (a ++ b) acc = firstsR b (firstsR a acc) := by
  induction a generalizing acc with
  | nil => rfl
  | cons x r ih =>
    simp only [List.cons_append, firstsR]
    split
    · exact ih acc
    · exact ih _
theorem firstsR_step (l : List LdS) (k : Nat) (h : k < l.length) : firstsR (l.take (k + 1)) [] = (if (firstsR (l.take k) []).any (fun y => y.name == l[k].name) || kindS l[k].name == 0 then firstsR (l.take k) [] else firstsR (l.take k) [] ++ [l[k]]) := by
  rw [List.take_succ_eq_append_getElem h, firstsR_append]
  simp only [firstsR]
theorem firstsR_len (l acc : List LdS) : (firstsR l acc).length ≤ acc.length + l.length := by
  induction l generalizing acc with
  | nil => simp [firstsR]
  | cons x r ih =>
    simp only [firstsR]
    split
    · have := ih acc; simp; omega
    · have := ih (acc ++ [x]); simp at this ⊢; omega
theorem look_adj (acc : List LdS) (s : Str) : (lookS (acc.map adjS) s).isSome = acc.any (fun y => y.name == s) := by
  unfold lookS
  rw [List.find?_map, Option.isSome_map, Bool.eq_iff_iff, List.find?_isSome, List.any_eq_true]
  rfl

/-- The rows of loaded units that came in. -/
def LdsRd (w : World) (oa : Option Addr) (l : List LdS) : Prop :=
  ∀ i (h : i < l.length), ∃ b o cs, oa = some ⟨b, o, none⟩ ∧ b < w.heap.size ∧ (∀ j v, cs[j]? = some v → w.cell? ⟨b, o + i * 42 + j, none⟩ = some v) ∧ LdRd w cs l[i]
theorem LdsRd.below {w w' : World} {oa : Option Addr} {l : List LdS} (h : LdsRd w oa l) (hb : Below w.heap.size w w') : LdsRd w' oa l := by
  intro i hi
  obtain ⟨b, o, cs, e, hlt, hc, hr⟩ := h i hi
  exact ⟨b, o, cs, e, Nat.lt_of_lt_of_le hlt hb.size, fun j v hj => by rw [hb.cell hlt]; exact hc j v hj, hr.below hb⟩
theorem LdsRd.frm {w w' : World} {ME : Nat} {es : Array MapEntry} {c : Nat} {oa : Option Addr} {l : List LdS} (h : LdsRd w oa l) (hm : w.heap[ME]? = some (.map es c)) (hf : Fr (fun k => k = ME) w w') : LdsRd w' oa l := by
  intro i hi
  obtain ⟨b, o, cs, e, hlt, hc, hr⟩ := h i hi
  exact ⟨b, o, cs, e, Nat.lt_of_lt_of_le hlt hf.size, fun j v hj => cell_frm hm hf (hc j v hj), hr.frm hm hf⟩

/-- Looking a unit up, in every world that goes on from here. -/
theorem mlook_all {w : World} {B ML ME : Nat} {tv : List (Str × Value)} {t : List LdS} {es : List EdgeS} (hM : Mk w B ML ME tv es) (hT : TabRd w tv t) (s : Str) (c : Bool) :
    ∃ cs b, (∀ W, Below w.heap.size w W → (Instr.lookup 66 (.map (some ML)) (.string ⟨s.toArray⟩) c).run Tryz.prog W = .ok (if c then .tuple #[.agg cs, .bool b] else .agg cs) W) ∧ cs.size = 42 ∧ (cs.all fun v => v.oneCell') = true ∧
      ((b = false ∧ lookS t s = none ∧ cs = loadedZero) ∨ ∃ x, b = true ∧ lookS t s = some x ∧ LdRd w cs x ∧ x.name = s) := by
  have K : KeyLaws Tryz.prog 9 strKey := strKeys Tryz.underlying9
  rcases hT.look s with ⟨h1, h2⟩ | ⟨x, cs, h1, h2, h3, h4⟩
  · exact ⟨loadedZero, false, fun W hW => look_none K Tryz.underlying66 (hM.below hW).tab s h2 (zero_loaded W) c, rfl, zero_one, .inl ⟨rfl, h1, rfl⟩⟩
  · exact ⟨cs, true, fun W hW => look_some K Tryz.underlying66 (hM.below hW).tab h2 c, h3.size, h3.one, .inr ⟨x, rfl, h1, h3, h4⟩⟩

theorem oper_alloc {P : Program} {K : Act → World → Prop} {Q : Exit → Act → World → Prop} {a : Act} {w : World} {o : Oper} (t : TypeId) (Z : Array Value) (ho : o.op = Op.alloc t)
    (hr : (Instr.alloc t true (.tuple #[])).run P w = .ok (.pointer (some ⟨w.heap.size, 0, none⟩)) (w.alloc (.cells Z t)))
    (h : ∀ w3 : World, w3.heap[w.heap.size]? = some (.cells Z t (0, 0)) → Below w.heap.size w w3 → w.heap.size < w3.heap.size → K (a.put o.dst (.pointer (some ⟨w.heap.size, 0, none⟩))) w3) : Oper.wp P o a w K Q := by
  unfold Oper.wp
  have : Sem.run P (execOp a.eval o) w = .ok (Next.value (.pointer (some ⟨w.heap.size, 0, none⟩))) (w.alloc (.cells Z t)) := by
    unfold execOp
    simp only [ho, Sem.run_bind, hr]
    rfl
  rw [this, Oper.upon_value]
  exact h _ (heap_alloc_new _ _) ((Below.refl _ _).alloc (Nat.le_refl _) _) (by simp)
theorem oper_alloc_at {P : Program} {K : Act → World → Prop} {Q : Exit → Act → World → Prop} {a : Act} {w : World} {o : Oper} (n : Nat) (hn : w.heap.size = n) (t : TypeId) (Z : Array Value) (ho : o.op = Op.alloc t)
    (hr : (Instr.alloc t true (.tuple #[])).run P w = .ok (.pointer (some ⟨w.heap.size, 0, none⟩)) (w.alloc (.cells Z t)))
    (h : ∀ w3 : World, w3.heap[n]? = some (.cells Z t (0, 0)) → Below n w w3 → n < w3.heap.size → K (a.put o.dst (.pointer (some ⟨n, 0, none⟩))) w3) : Oper.wp P o a w K Q := by
  subst hn
  exact oper_alloc t Z ho hr h
theorem l_load_at {P : Program} {w : World} {ops : Array Oper} {rest : List Oper} {o : Oper} {a : Act} {Q : Exit → Act → World → Prop} (hg : o.guard = none) (t : TypeId) (x : Operand) (b n : Nat) (part : Array Value) (d : TypeDesc) (ho : o.op = Op.load t x)
    (hx : a.eval x = .pointer (some ⟨b, n, none⟩)) (hp : ∀ j v, part[j]? = some v → w.cell? ⟨b, n + j, none⟩ = some v) (hd : P.underlying t = some d) (hr : d.isRow = true) (hi : (P.info? t).map (·.size) = some part.size)
    (h : wpList P ops Q rest (a.put o.dst (.agg part)) w) : wpList P ops Q (o :: rest) a w := by
  refine wpList_of_oper hg fun K hK => ?_
  refine wp_load_mid t x ho b n hx part.toList d ?_ hd hr (by simpa using hi) (by simpa using hK _ _ h)
  intro j v hv
  exact hp j v (by simpa using hv)

theorem own_keeps {w w' : World} {B e size n : Nat} {v : Value} {xs : List Value} (h : w.ownsRow B e size v n xs) (hb : Below w.heap.size w w') : w'.ownsRow B e size v n xs := by
  refine ⟨h.1, ?_⟩
  rcases h.2 with hn | ⟨g, cap, cur, rfl, hg, hgg, rest⟩
  · exact .inl hn
  · exact .inr ⟨g, cap, cur, rfl, hg, by rw [hb.block g (lt_heap hgg)]; exact hgg, rest⟩

theorem exec_load_all {P : Program} {a : Act} {w : World} {o : Oper} (t : TypeId) (x : Operand) (b : Nat) (cells : Array Value) (T : TypeId) (d : TypeDesc) (ho : o.op = Op.load t x)
    (hx : a.eval x = .pointer (some ⟨b, 0, none⟩)) (hw : w.heap[b]? = some (.cells cells T (0, 0))) (hd : P.underlying t = some d) (hr : d.isRow = true) (hi : (P.info? t).map (·.size) = some cells.size) : (execOp a.eval o).run P w = .ok (.value (.agg cells)) w := by
  have h := loadAt_all (P := P) t d hd hr hi hw
  unfold execOp
  simp only [ho, hx, Sem.run_bind, h]
  rfl
theorem infoNode : (Tryz.prog.info? 32).map (fun i => (i.zero, i.size, i.bytes)) = some (some (.agg #[.string ⟨#[]⟩, .int .i64 0, .int .i64 0]), 3, 32) := by kernel_rfl
theorem LdRd.setState {w : World} {cs : Array Value} {x : LdS} (h : LdRd w cs x) (n : Int) : LdRd w (cs.setIfInBounds 1 (.int .i64 n)) { x with state := n } := by
  have g : ∀ (j : Nat) (v : Value), j ≠ 1 → cs[j]? = some v → (cs.setIfInBounds 1 (.int .i64 n))[j]? = some v := fun j v hj hv => by
    rw [Array.getElem?_setIfInBounds, if_neg (by omega)]; exact hv
  obtain ⟨v1, a1, b1⟩ := h.rels
  obtain ⟨v2, a2, b2⟩ := h.socks
  obtain ⟨v3, a3, b3⟩ := h.wants
  obtain ⟨v4, a4, b4⟩ := h.reqs
  exact ⟨by simp [h.size], one_set h.one 1 _ rfl, g _ _ (by omega) h.name, by rw [Array.getElem?_setIfInBounds, if_pos rfl, if_pos (by rw [h.size]; omega)], g _ _ (by omega) h.uname, g _ _ (by omega) h.ukind, g _ _ (by omega) h.dflt,
    ⟨v1, g _ _ (by omega) a1, b1⟩, ⟨v2, g _ _ (by omega) a2, b2⟩, g _ _ (by omega) h.unit, ⟨v3, g _ _ (by omega) a3, b3⟩, ⟨v4, g _ _ (by omega) a4, b4⟩,
    ⟨h.small.name, h.small.uname, h.small.unit, h.small.rels, h.small.socks, h.small.wants, h.small.reqs, h.small.rel, h.small.sock, h.small.want, h.small.req⟩⟩
theorem adj_same {x : LdS} (h : ¬ (x.state < 1 ∨ 4 < x.state)) : adjS x = x := by
  unfold adjS; rw [if_neg h]
theorem adj_four {x : LdS} (h : x.state < 1 ∨ 4 < x.state) : adjS x = { x with state := 4 } := by
  unfold adjS; rw [if_pos h]

theorem TabRd.snoc {w : World} {tv : List (Str × Value)} {t : List LdS} (h : TabRd w tv t) {cs : Array Value} {y : LdS} (hy : LdRd w cs y) : TabRd w (tv ++ [(y.name, .agg cs)]) (t ++ [y]) := by
  have hl := h.len
  refine ⟨by simp [h.keys], fun i h1 h2 => ?_⟩
  by_cases hi : i < t.length
  · obtain ⟨c, e, r⟩ := h.vals i hi (by omega)
    refine ⟨c, ?_, ?_⟩
    · rw [List.getElem_append_left (by omega)]; exact e
    · rw [List.getElem_append_left hi]; exact r
  · have hi2 : i = t.length := by simp at h1; omega
    subst hi2
    refine ⟨cs, ?_, ?_⟩
    · rw [List.getElem_append_right (by omega)]; simp [hl]
    · rw [List.getElem_append_right (by omega)]; simpa using hy
theorem own_not_box {w : World} {base e size n X : Nat} {v : Value} {xs : List Value} (h : w.ownsRow base e size v n xs) {cs : Array Value} {T : TypeId} {fz : Nat × Nat} (hx : w.heap[X]? = some (.cells cs T fz)) (hT : T ≠ e) : some X ≠ v.ownBlock := by
  rcases h.2 with ⟨rfl, _⟩ | ⟨g, cap, cur, rfl, hg, hgg, rest⟩
  · simp [Value.ownBlock]
  · simp only [Value.ownBlock]
    intro e2
    injection e2 with e2
    subst e2
    rw [hgg] at hx
    injection hx with hx
    injection hx with h1 h2
    exact hT h2.symm
theorem own_slice_len {w : World} {base e size n m : Nat} {oa : Option Addr} {c : Nat} {xs : List Value} (h : w.ownsRow base e size (.slice oa m c) n xs) : m = n := by
  rcases h.2 with ⟨h1, h2⟩ | ⟨g, cap, cur, h1, _⟩
  · injection h1 with h1 h3 h4; omega
  · injection h1

/-- How nodes stands, as it goes. -/
structure NdIn (w wr : World) (B ML ME : Nat) (oa : Option Addr) (l : List LdS) (tv : List (Str × Value)) (t : List LdS) (ns : List NodeS) (v : Value) : Prop where
  fr : Fr (fun k => k = ML) w wr
  mkr : Mk wr B ML ME tv []
  tab0 : TabRd w tv t
  rd0 : LdsRd w oa l
  max0 : MaxAt w
  map0 : ∃ es c, w.heap[ML]? = some (.map es c)
  own : wr.ownsRow w.heap.size 32 3 v ns.length (flatL encN ns)
  old : B < w.heap.size ∧ ML < w.heap.size ∧ ME < w.heap.size
section
variable {w wr wr2 : World} {B ML ME : Nat} {oa : Option Addr} {l : List LdS} {tv : List (Str × Value)} {t : List LdS} {ns : List NodeS} {v : Value}
theorem NdIn.tab (h : NdIn w wr B ML ME oa l tv t ns v) : TabRd wr tv t := by obtain ⟨es, c, hb⟩ := h.map0; exact h.tab0.frm hb h.fr
theorem NdIn.rd (h : NdIn w wr B ML ME oa l tv t ns v) : LdsRd wr oa l := by obtain ⟨es, c, hb⟩ := h.map0; exact h.rd0.frm hb h.fr
theorem NdIn.max (h : NdIn w wr B ML ME oa l tv t ns v) : MaxAt wr := by obtain ⟨es, c, hb⟩ := h.map0; exact h.max0.frm hb h.fr
theorem NdIn.ld (h : NdIn w wr B ML ME oa l tv t ns v) {cs : Array Value} {y : LdS} (hy : LdRd w cs y) : LdRd wr cs y := by obtain ⟨es, c, hb⟩ := h.map0; exact hy.frm hb h.fr
theorem NdIn.below (h : NdIn w wr B ML ME oa l tv t ns v) (hb : Below wr.heap.size wr wr2) : NdIn w wr2 B ML ME oa l tv t ns v :=
  ⟨h.fr.trans (Fr.of_below hb _), h.mkr.below hb, h.tab0, h.rd0, h.max0, h.map0, own_keeps h.own hb, h.old⟩
/-- A unit is put into the table. -/
theorem NdIn.put (h : NdIn w wr B ML ME oa l tv t ns v) {cs : Array Value} {y : LdS} (hy : LdRd w cs y) (hf : Fr (fun k => k = ML) wr wr2) (hm : MapOf strKey wr2 ML (tv ++ [(y.name, .agg cs)])) : NdIn w wr2 B ML ME oa l (tv ++ [(y.name, .agg cs)]) (t ++ [y]) ns v := by
  refine ⟨h.fr.trans hf, ⟨hf.heap h.mkr.box h.mkr.ne.2.2, hm, h.mkr.set.fr hf (fun e => h.mkr.ne.2.1 e.symm), h.mkr.ne⟩, TabRd.snoc h.tab0 hy, h.rd0, h.max0, h.map0, ?_, h.old⟩
  refine ⟨h.own.1, ?_⟩
  rcases h.own.2 with hn | ⟨g, cap, cur, rfl, hg, hgg, rest⟩
  · exact .inl hn
  · exact .inr ⟨g, cap, cur, rfl, hg, hf.heap hgg (fun e => by have := h.old; omega), rest⟩
/-- The node is appended. -/
theorem NdIn.grow (h : NdIn w wr B ML ME oa l tv t ns v) {n : NodeS} {v' : Value} (hown : wr2.ownsRow w.heap.size 32 3 v' (ns.length + 1) (flatL encN ns ++ encN n)) (hg : wr.grownBy wr2 v.ownBlock) : NdIn w wr2 B ML ME oa l tv t (ns ++ [n]) v' := by
  have hb : ∀ g, v.ownBlock = some g → w.heap.size ≤ g := fun g e => (h.own.lt g e).1
  have hf : Fr (fun k => v.ownBlock = some k) wr wr2 := Fr.grown (Fr.refl _ wr) hg (fun k hk _ => hk)
  have ho := h.old
  refine ⟨Fr.grown h.fr hg (fun k hk h2 => by have := hb k hk; omega), h.mkr.fr hf (fun e => by have := hb _ e; omega) (fun e => by have := hb _ e; omega) (fun e => by have := hb _ e; omega), h.tab0, h.rd0, h.max0, h.map0, ?_, ho⟩
  rw [List.length_append]
  unfold flatL at *
  rw [List.flatMap_append]
  simpa using hown
/-- The nodes are sorted. -/
theorem NdIn.resort (h : NdIn w wr B ML ME oa l tv t ns v) {ns' : List NodeS} (hown : wr2.ownsRow w.heap.size 32 3 v ns'.length (flatL encN ns')) (hf : Fr (fun k => v.ownBlock = some k) wr wr2) : NdIn w wr2 B ML ME oa l tv t ns' v := by
  have hb : ∀ g, v.ownBlock = some g → w.heap.size ≤ g := fun g e => (h.own.lt g e).1
  have ho := h.old
  exact ⟨Fr.then' h.fr hf (fun k hk h2 => by have := hb k h2; omega), h.mkr.fr hf (fun e => by have := hb _ e; omega) (fun e => by have := hb _ e; omega) (fun e => by have := hb _ e; omega), h.tab0, h.rd0, h.max0, h.map0, hown, ho⟩
end
end Go.Proofs.YtcaamakodneplaaGreat

/-
  Plain laws: the document's graph is the program's. No program in sight.
-/
namespace Go.Proofs.YtcaamakodneplaaGreat
set_option linter.unusedVariables false

theorem firstsR_spec : ∀ (l acc : List LdS), (acc.map (·.name)).Nodup → (∀ x ∈ acc, kindS x.name ≠ 0) →
    ((firstsR l acc).map (·.name)).Nodup ∧ (∀ x ∈ firstsR l acc, kindS x.name ≠ 0) ∧ (∀ x, x ∈ firstsR l acc → x ∈ acc ∨ x ∈ l) ∧
    (∀ x ∈ acc, x ∈ firstsR l acc) ∧ (∀ x ∈ l, kindS x.name ≠ 0 → x.name ∈ (firstsR l acc).map (·.name))
  | [], acc, h1, h2 => ⟨h1, h2, fun x hx => .inl hx, fun x hx => hx, by simp⟩
  | x :: r, acc, h1, h2 => by
    unfold firstsR
    by_cases hc : (acc.any (fun y => y.name == x.name) || kindS x.name == 0) = true
    · rw [if_pos hc]
      obtain ⟨a, b, c, d, e⟩ := firstsR_spec r acc h1 h2
      refine ⟨a, b, fun y hy => (c y hy).imp id (by simp +contextual), d, fun y hy hk => ?_⟩
      rcases List.mem_cons.1 hy with rfl | hy
      · simp only [Bool.or_eq_true, List.any_eq_true, beq_iff_eq] at hc
        rcases hc with ⟨z, hz, e⟩ | h0
        · rw [← e]; exact List.mem_map.2 ⟨z, d z hz, rfl⟩
        · exact absurd h0 hk
      · exact e y hy hk
    · rw [if_neg hc]
      simp only [Bool.or_eq_true, List.any_eq_true, beq_iff_eq, not_or, not_exists, not_and] at hc
      obtain ⟨a, b, c, d, e⟩ := firstsR_spec r (acc ++ [x]) (by
        rw [List.map_append, List.nodup_append]
        refine ⟨h1, by simp, ?_⟩
        intro s hs t ht e
        simp at ht
        subst ht
        obtain ⟨z, hz, e2⟩ := List.mem_map.1 hs
        exact hc.1 z hz (e2.trans e)) (by
        intro y hy
        rcases List.mem_append.1 hy with hy | hy
        · exact h2 y hy
        · simp at hy; subst hy; exact hc.2)
      refine ⟨a, b, fun y hy => ?_, fun y hy => d y (by simp [hy]), fun y hy hk => ?_⟩
      · rcases c y hy with h | h
        · rcases List.mem_append.1 h with h | h
          · exact .inl h
          · simp at h; subst h; simp
        · simp [h]
      · rcases List.mem_cons.1 hy with rfl | hy
        · exact List.mem_map.2 ⟨y, d y (by simp), rfl⟩
        · exact e y hy hk
theorem firsts_names (l : List LdS) : (firstsS l).map (·.name) = (firstsR l []).map (·.name) := by
  simp [firstsS, Function.comp_def, adjS]
theorem firsts_nodup (l : List LdS) : ((firstsS l).map (·.name)).Nodup := by
  rw [firsts_names]; exact (firstsR_spec l [] (by simp) (by simp)).1
theorem firsts_kind (l : List LdS) : ∀ x ∈ firstsS l, kindS x.name ≠ 0 := by
  intro x hx
  obtain ⟨y, hy, rfl⟩ := List.mem_map.1 hx
  exact (firstsR_spec l [] (by simp) (by simp)).2.1 y hy
theorem find_name {l : List LdS} (h : (l.map (·.name)).Nodup) {x : LdS} (hx : x ∈ l) : (l.find? fun y => y.name == x.name) = some x := by
  induction l with
  | nil => cases hx
  | cons a r ih =>
    simp only [List.map_cons, List.nodup_cons] at h
    rcases List.mem_cons.1 hx with rfl | hx
    · simp
    · have : a.name ≠ x.name := fun e => h.1 (e ▸ List.mem_map.2 ⟨x, hx, rfl⟩)
      rw [List.find?_cons_of_neg (by simpa using this)]
      exact ih h.2 hx
theorem find_none {l : List LdS} {s : Str} (h : s ∉ l.map (·.name)) : (l.find? fun y => y.name == s) = none := by
  rw [List.find?_eq_none]
  intro x hx
  simp
  exact fun e => h (e ▸ List.mem_map.2 ⟨x, hx, rfl⟩)
theorem mem_names {l : List LdS} {s : Str} (h : s ∈ namesS l) : s ∈ (firstsS l).map (·.name) := (mem_sortL stoS _ _).1 (List.mem_of_mem_take h)
theorem names_rises (l : List LdS) : Rises ltS (namesS l) := (rises_sortL stoS _).sublist (List.take_sublist _ _)
theorem names_nodup (l : List LdS) : (namesS l).Nodup := rises_nodup stoS (names_rises l)
theorem table_names (l : List LdS) : (tableS l).map (·.name) = namesS l := by
  unfold tableS
  have : ∀ ns : List Str, (∀ s ∈ ns, s ∈ (firstsS l).map (·.name)) → (ns.filterMap fun n => (firstsS l).find? fun x => x.name == n).map (·.name) = ns := by
    intro ns
    induction ns with
    | nil => intro _; rfl
    | cons s r ih =>
      intro h
      obtain ⟨x, hx, rfl⟩ := List.mem_map.1 (h s (by simp))
      rw [List.filterMap_cons, find_name (firsts_nodup l) hx]
      simp only [List.map_cons]
      rw [ih (fun t ht => h t (by simp [ht]))]
  exact this _ fun s hs => mem_names hs
theorem mem_table {l : List LdS} {x : LdS} : x ∈ tableS l ↔ x ∈ firstsS l ∧ x.name ∈ namesS l := by
  unfold tableS
  rw [List.mem_filterMap]
  constructor
  · rintro ⟨n, hn, h⟩
    have h1 := List.mem_of_find?_eq_some h
    have h2 : x.name = n := by have := List.find?_some h; simpa using this
    exact ⟨h1, h2 ▸ hn⟩
  · rintro ⟨h1, h2⟩
    exact ⟨x.name, h2, find_name (firsts_nodup l) h1⟩
theorem table_nodup (l : List LdS) : ((tableS l).map (·.name)).Nodup := by rw [table_names]; exact names_nodup l
theorem look_of {l : List LdS} {x : LdS} (h : x ∈ tableS l) : lookS (tableS l) x.name = some x := find_name (table_nodup l) h
theorem look_isSome {l : List LdS} {s : Str} : (lookS (tableS l) s).isSome = true ↔ s ∈ namesS l := by
  rw [← table_names]
  constructor
  · intro h
    obtain ⟨x, hx⟩ := Option.isSome_iff_exists.1 h
    have h2 : x.name = s := by have := List.find?_some hx; simpa using this
    exact List.mem_map.2 ⟨x, List.mem_of_find?_eq_some hx, h2⟩
  · intro h
    obtain ⟨x, hx, rfl⟩ := List.mem_map.1 h
    rw [look_of hx]; rfl
theorem look_none_of {l : List LdS} {s : Str} (h : s ∉ namesS l) : lookS (tableS l) s = none := by
  cases hq : lookS (tableS l) s with
  | none => rfl
  | some x => exact absurd (look_isSome.1 (by rw [hq]; rfl)) h

/-- The document's way to it. -/
def edgeR (ns : List Str) (src dst : Str) (rel : Int) : List EdgeS := if dst ∈ ns ∧ src ≠ dst then [⟨src, dst, rel⟩] else []
def wakesR (x : LdS) : Str := wakesU x.ukind x.uname x.unit
def behindR (all : List LdS) (s to : Str) : Bool :=
  match all.find? (fun y => y.name == s) with
  | some y => y.rels.any fun r => y.state == 1 && r == ⟨8, to⟩
  | none => false
def targetR (ns : List Str) (all : List LdS) (x : LdS) : List EdgeS :=
  (someS x).flatMap fun s => if behindR all s x.name then [] else edgeR ns x.name s 8
def ownR (ns : List Str) (all : List LdS) (x : LdS) : List EdgeS :=
  (x.rels.flatMap fun r => if 1 ≤ r.kind ∧ r.kind ≤ 9 then edgeR ns x.name r.name r.kind else []) ++
  ((x.wants.flatMap fun s => edgeR ns x.name s 2) ++
  ((x.reqs.flatMap fun s => edgeR ns x.name s 1) ++
  ((if kindS x.name = 2 ∨ kindS x.name = 3 then edgeR ns x.name (wakesR x) 10 ++ edgeR ns x.name (wakesR x) 7 else []) ++
  ((if kindS x.name = 1 then x.socks.flatMap fun s => edgeR ns x.name s 2 ++ edgeR ns x.name s 8 else []) ++
  (if x.dflt then
    (if kindS x.name = 1 then edgeR ns x.name sFirst 1 else []) ++
    ((if kindS x.name = 1 ∨ kindS x.name = 2 ∨ kindS x.name = 3 then edgeR ns x.name sFirst 8 ++ (edgeR ns x.name sLast 6 ++ edgeR ns x.name sLast 7) else []) ++
    (if kindS x.name = 4 then targetR ns all x else []))
  else [])))))
/-- Of each node in its order what it adds. -/
def rawR (l : List LdS) : List EdgeS := (tableS l).flatMap fun x => if x.state = 1 then ownR (namesS l) (firstsR l []) x else []
def edgesR (l : List LdS) : List EdgeS := sortL ltE (rawR l)
def soundS (l : List LdS) : Prop := ∀ x ∈ l, x.state = 1 → x.uname = x.name ∧ x.ukind = (kindS x.name : Int)

theorem put_one (l : List LdS) (a b : Str) (r : Int) : putS (tableS l) a b [r] = edgeR (namesS l) a b r := by
  unfold putS edgeR
  by_cases h : b ∈ namesS l ∧ a ≠ b
  · rw [if_pos ⟨look_isSome.2 h.1, h.2⟩, if_pos h]; rfl
  · rw [if_neg (fun q => h ⟨look_isSome.1 q.1, q.2⟩), if_neg h]
theorem put_two (l : List LdS) (a b : Str) (r q : Int) : putS (tableS l) a b [r, q] = edgeR (namesS l) a b r ++ edgeR (namesS l) a b q := by
  unfold putS edgeR
  by_cases h : b ∈ namesS l ∧ a ≠ b
  · rw [if_pos ⟨look_isSome.2 h.1, h.2⟩, if_pos h, if_pos h]; rfl
  · rw [if_neg (fun q => h ⟨look_isSome.1 q.1, q.2⟩), if_neg h, if_neg h]; rfl
theorem kind_four (s : Str) : kindS s = 0 ∨ kindS s = 1 ∨ kindS s = 2 ∨ kindS s = 3 ∨ kindS s = 4 := by have := kindS_le s; omega
theorem edge_nil (l : List LdS) (a : Str) (r : Int) : edgeR (namesS l) a [] r = [] := by
  unfold edgeR
  rw [if_neg]
  rintro ⟨h, _⟩
  obtain ⟨x, hx, e⟩ := List.mem_map.1 (mem_names h)
  exact firsts_kind l x hx (by rw [e]; decide)
theorem adj_one {x : LdS} (h : (adjS x).state = 1) : adjS x = x ∧ x.state = 1 := by
  obtain ⟨a, b, c, d, e, f, g, i, j, k⟩ := x
  simp only [adjS] at h ⊢
  by_cases hb : b < 1 ∨ 4 < b
  · rw [if_pos hb] at h; omega
  · rw [if_neg hb] at h
    subst h
    simp
theorem has_behind {l : List LdS} {s to : Str} (hs : s ∈ namesS l) : hasS (tableS l) s 8 to = behindR (firstsR l []) s to := by
  have h1 := mem_names hs
  rw [firsts_names] at h1
  obtain ⟨x, hx, rfl⟩ := List.mem_map.1 h1
  have hnd := (firstsR_spec l [] (by simp) (by simp)).1
  have h2 : adjS x ∈ tableS l := mem_table.2 ⟨List.mem_map.2 ⟨x, hx, rfl⟩, hs⟩
  have h3 := look_of h2
  have e : (adjS x).name = x.name := rfl
  rw [e] at h3
  unfold hasS behindR
  rw [h3, find_name hnd hx]
  simp only
  have h4 : ((adjS x).state == 1) = (x.state == 1) := by
    unfold adjS
    simp only
    by_cases hb : x.state < 1 ∨ 4 < x.state
    · rw [if_pos hb]
      have : (x.state == 1) = false := by rw [beq_eq_false_iff_ne]; omega
      rw [this]; rfl
    · rw [if_neg hb]
  rw [h4]
  cases hst : (x.state == 1) with
  | false => simp
  | true =>
    simp only [Bool.true_and]
    rw [Bool.eq_iff_iff, List.contains_iff_mem, List.any_eq_true]
    constructor
    · intro h; exact ⟨_, h, by simp⟩
    · rintro ⟨r, hr, e⟩; rw [eq_of_beq e] at hr; exact hr
theorem gathers_target (l : List LdS) (x : LdS) : gathersS (tableS l) x = targetR (namesS l) (firstsR l []) x := by
  unfold gathersS targetR
  congr 1
  funext s
  by_cases hs : s ∈ namesS l
  · rw [has_behind hs, put_one]
  · have : edgeR (namesS l) x.name s 8 = [] := by unfold edgeR; rw [if_neg (fun h => hs h.1)]
    rw [put_one, this]
    split <;> split <;> rfl
theorem own_same {l : List LdS} {x : LdS} (hx : x ∈ tableS l) (hst : x.state = 1) (hs : x.uname = x.name ∧ x.ukind = (kindS x.name : Int)) (y : EdgeS) :
    y ∈ ownS (tableS l) x ↔ y ∈ ownR (namesS l) (firstsR l []) x := by
  have hw : wakesS x = wakesR x := by unfold wakesS wakesR; rw [hs.1, hs.2]
  have hk := firsts_kind l x (mem_table.1 hx).1
  unfold ownS ownR saidS standardS
  rw [if_pos hst]
  simp only [put_one, put_two, gathers_target]
  rw [hw]
  rcases kind_four x.name with h | h | h | h | h
  · exact absurd h hk
  · rw [h]
    have e : wakesR x = [] := by rw [← hw]; unfold wakesS wakesU; rw [h]; rfl
    cases hd : x.dflt <;> simp [e]
  · rw [h]
    by_cases e : wakesR x = [] <;> cases hd : x.dflt <;> simp [e, edge_nil]
  · rw [h]
    by_cases e : wakesR x = [] <;> cases hd : x.dflt <;> simp [e, edge_nil]
  · rw [h]
    have e : wakesR x = [] := by rw [← hw]; unfold wakesS wakesU; rw [h]; rfl
    cases hd : x.dflt <;> simp [e]
theorem table_sound {l : List LdS} (h : soundS l) : ∀ x ∈ tableS l, x.state = 1 → x.uname = x.name ∧ x.ukind = (kindS x.name : Int) := by
  intro x hx h1
  obtain ⟨y, hy, rfl⟩ := List.mem_map.1 (mem_table.1 hx).1
  obtain ⟨e, e2⟩ := adj_one h1
  rw [e]
  rcases (firstsR_spec l [] (by simp) (by simp)).2.2.1 y hy with h3 | h3
  · cases h3
  · exact h y h3 e2
/-- The document's edges are the program's. -/
theorem edges_same {l : List LdS} (h : soundS l) : edgesR l = edgesS l := by
  refine sortL_congr stoE fun y => ?_
  unfold rawR rawS
  rw [List.mem_flatMap, List.mem_flatMap]
  constructor
  · rintro ⟨x, hx, hy⟩
    by_cases hst : x.state = 1
    · rw [if_pos hst] at hy
      exact ⟨x, hx, (own_same hx hst (table_sound h x hx hst) y).2 hy⟩
    · rw [if_neg hst] at hy; cases hy
  · rintro ⟨x, hx, hy⟩
    refine ⟨x, hx, ?_⟩
    by_cases hst : x.state = 1
    · rw [if_pos hst]
      exact (own_same hx hst (table_sound h x hx hst) y).1 hy
    · unfold ownS at hy; rw [if_neg hst] at hy; cases hy
end Go.Proofs.YtcaamakodneplaaGreat

/-
  Package graph: plain laws of nodes: what the sorted row and the table's keys are.
-/
namespace Go.Proofs.YtcaamakodneplaaGreat
open Go Go.RowKit
set_option linter.unusedVariables false

/-- The names of a sorted row of nodes. -/
theorem sorted_names {l : List LdS} {ns : List NodeS} (hp : ns.Perm ((firstsS l).map nodeS)) (hs : ns.Pairwise fun a b => ltN b a = false) : ns.map (·.name) = sortL ltS ((firstsS l).map (·.name)) := by
  have hpn : (ns.map (·.name)).Perm ((firstsS l).map (·.name)) := by
    have := hp.map (·.name)
    rwa [List.map_map, show ((fun n : NodeS => n.name) ∘ nodeS) = fun x : LdS => x.name from rfl] at this
  have hnd : (ns.map (·.name)).Nodup := hpn.nodup_iff.2 (firsts_nodup l)
  refine sortL_eq stoS ?_ (fun y => hpn.mem_iff)
  unfold Rises
  rw [List.pairwise_map]
  have h2 := List.pairwise_map.1 hnd
  refine (hs.and h2).imp ?_
  rintro a b ⟨h3, h4⟩
  cases hq : ltS a.name b.name with
  | true => rfl
  | false => exact absurd (stoS.tri _ _ hq h3) h4
theorem sorted_nodes {l : List LdS} {ns : List NodeS} (hp : ns.Perm ((firstsS l).map nodeS)) (hs : ns.Pairwise fun a b => ltN b a = false) : ns.take 64 = nodesS l := by
  have hn := sorted_names hp hs
  have hm : ∀ n ∈ ns, ((firstsS l).find? fun x => x.name == n.name).map nodeS = some n := by
    intro n h
    obtain ⟨x, hx, rfl⟩ := List.mem_map.1 (hp.mem_iff.1 h)
    have := find_name (firsts_nodup l) hx
    rw [show (nodeS x).name = x.name from rfl, this]; rfl
  unfold nodesS tableS namesS
  rw [← hn, ← List.map_take, List.map_filterMap, List.filterMap_map]
  have : ∀ r : List NodeS, (∀ n ∈ r, n ∈ ns) → r.filterMap ((fun n => ((firstsS l).find? fun x => x.name == n).map nodeS) ∘ fun x => x.name) = r := by
    intro r
    induction r with
    | nil => intro _; rfl
    | cons n r ih =>
      intro h
      rw [List.filterMap_cons]
      simp only [Function.comp]
      rw [hm n (h n (by simp))]
      simp only [List.cons.injEq, true_and]
      exact ih fun m h2 => h m (by simp [h2])
  exact (this _ fun n h => List.mem_of_mem_take h).symm
/-- The table that is left. -/
def keptS (l : List LdS) (ns : List NodeS) : List LdS := (firstsS l).filter fun x => decide (x.name ∈ ns.map (·.name))
theorem kept_look {l : List LdS} {ns : List NodeS} (hp : ns.Perm ((firstsS l).map nodeS)) (hs : ns.Pairwise fun a b => ltN b a = false) (s : Str) : lookS (keptS l (ns.take 64)) s = lookS (tableS l) s := by
  have hn := sorted_names hp hs
  have hk : (ns.take 64).map (·.name) = namesS l := by rw [List.map_take, hn]; rfl
  have hmem : ∀ x, x ∈ keptS l (ns.take 64) ↔ x ∈ tableS l := fun x => by
    unfold keptS
    rw [List.mem_filter, hk, mem_table]; simp
  have hnd : ((keptS l (ns.take 64)).map (·.name)).Nodup := List.Nodup.sublist (List.Sublist.map _ List.filter_sublist) (firsts_nodup l)
  cases hq : lookS (tableS l) s with
  | none =>
    refine find_none fun h => ?_
    obtain ⟨x, hx, rfl⟩ := List.mem_map.1 h
    rw [look_of ((hmem x).1 hx)] at hq
    cases hq
  | some x =>
    have hx := List.mem_of_find?_eq_some hq
    have h2 : x.name = s := by have := List.find?_some hq; simpa using this
    subst h2
    exact find_name hnd ((hmem x).2 hx)
theorem kept_all {l : List LdS} {ns : List NodeS} (hp : ns.Perm ((firstsS l).map nodeS)) : keptS l ns = firstsS l := by
  unfold keptS
  rw [List.filter_eq_self]
  intro x hx
  have : nodeS x ∈ ns := hp.mem_iff.2 (List.mem_map.2 ⟨x, hx, rfl⟩)
  simpa using ⟨nodeS x, this, rfl⟩
/-- One name less. -/
theorem kept_less {ns : List NodeS} {m : Nat} (hnd : (ns.map (·.name)).Nodup) (hm : m < ns.length) : ∀ s : Str, decide (s ∈ (ns.take m).map (·.name)) = (decide (s ∈ (ns.take (m + 1)).map (·.name)) && decide (s ≠ ns[m].name)) := by
  intro s
  have h1 : ns.take (m + 1) = ns.take m ++ [ns[m]] := List.take_succ_eq_append_getElem hm
  have h2 : ((ns.take (m + 1)).map (·.name)).Nodup := List.Nodup.sublist (List.Sublist.map _ (List.take_sublist _ _)) hnd
  rw [h1, List.map_append, List.nodup_append] at h2
  rw [h1, List.map_append]
  have h3 : ns[m].name ∉ (ns.take m).map (·.name) := fun h => h2.2.2 _ h _ (by simp) rfl
  by_cases hs : s = ns[m].name
  · subst hs; rw [decide_eq_false h3]; simp
  · simp [hs]

theorem TabRd.filter {w : World} {f : Str → Bool} : ∀ {tv : List (Str × Value)} {t : List LdS}, TabRd w tv t → TabRd w (tv.filter fun p => f p.1) (t.filter fun x => f x.name)
  | [], [], h => h
  | [], y :: t, h => by have := h.keys; simp at this
  | p :: tv, [], h => by have := h.keys; simp at this
  | p :: tv, y :: t, h => by
    have hk := h.keys
    simp only [List.map_cons, List.cons.injEq] at hk
    have ht : TabRd w tv t := ⟨hk.2, fun i h1 h2 => by
      have := h.vals (i + 1) (by simpa using h1) (by simpa using h2)
      simpa using this⟩
    have ih := TabRd.filter (f := f) ht
    rw [List.filter_cons, List.filter_cons, hk.1]
    split
    · refine ⟨by simp [hk.1, ih.keys], fun i h1 h2 => ?_⟩
      cases i with
      | zero => exact h.vals 0 (by simp) (by simp)
      | succ i =>
        have := ih.vals i (by simpa using h1) (by simpa using h2)
        simpa using this
    · exact ih
theorem own_take {w : World} {base e size n m c : Nat} {oa : Option Addr} {xs : List Value} (h : w.ownsRow base e size (.slice oa n c) n xs) (hm : m ≤ n) : w.ownsRow base e size (.slice oa m c) m (xs.take (m * size)) := by
  have hle : m * size ≤ n * size := Nat.mul_le_mul_right _ hm
  refine ⟨by rw [List.length_take, h.1]; omega, ?_⟩
  rcases h.2 with ⟨h1, h2⟩ | ⟨g, cap, cur, h1, hg, hgg, hnc, hcm, hs, ht⟩
  · injection h1 with h1 h3 h4
    subst h1; subst h4
    exact .inl ⟨by rw [show m = 0 by omega], by omega⟩
  · injection h1 with h1 h3 h4
    subst h1; subst h4
    refine .inr ⟨g, c, cur, rfl, hg, hgg, by omega, hcm, hs, ?_⟩
    rw [← ht, List.take_take, Nat.min_eq_left hle]
theorem flatL_take {α : Type} {enc : α → List Value} {k : Nat} (hk : ∀ x, (enc x).length = k) : ∀ (l : List α) (m : Nat), (flatL enc l).take (m * k) = flatL enc (l.take m)
  | [], m => by simp [flatL]
  | a :: r, 0 => by simp [flatL]
  | a :: r, m + 1 => by
    have := flatL_take hk r m
    unfold flatL at *
    rw [List.flatMap_cons, List.take_succ_cons, List.flatMap_cons, Nat.succ_mul, Nat.add_comm, List.take_append, hk]
    rw [List.take_of_length_le (by rw [hk]; omega), Nat.add_sub_cancel_left, this]
theorem kept_step {l : List LdS} {ns : List NodeS} {m : Nat} (hnd : (ns.map (·.name)).Nodup) (hm : m < ns.length) : (keptS l (ns.take (m + 1))).filter (fun x => decide (x.name ≠ ns[m].name)) = keptS l (ns.take m) := by
  unfold keptS
  rw [List.filter_filter]
  congr 1
  funext x
  rw [kept_less hnd hm, Bool.and_comm]
theorem keys_step (tv : List (Str × Value)) {ns : List NodeS} {m : Nat} (hnd : (ns.map (·.name)).Nodup) (hm : m < ns.length) : (tv.filter fun p => decide (p.1 ∈ (ns.take (m + 1)).map (·.name))).filter (fun p => decide (p.1 ≠ ns[m].name)) = tv.filter fun p => decide (p.1 ∈ (ns.take m).map (·.name)) := by
  rw [List.filter_filter]
  congr 1
  funext x
  rw [kept_less hnd hm, Bool.and_comm]
theorem keys_all {w : World} {tv : List (Str × Value)} {t : List LdS} {ns : List NodeS} (h : TabRd w tv t) (hn : ∀ x ∈ t, x.name ∈ ns.map (·.name)) : (tv.filter fun p => decide (p.1 ∈ ns.map (·.name))) = tv := by
  rw [List.filter_eq_self]
  intro p hp
  have : p.1 ∈ t.map (·.name) := by rw [← h.keys]; exact List.mem_map.2 ⟨p, hp, rfl⟩
  obtain ⟨x, hx, e⟩ := List.mem_map.1 this
  rw [← e]
  exact decide_eq_true (hn x hx)
theorem oper_delete {P : Program} {o : Oper} {a : Act} {w : World} {K : Act → World → Prop} {Q : Exit → Act → World → Prop} (x y : Operand) (ats : Array TypeId) (hop : o.op = Op.call { callee := Callee.builtin Builtin.delete, args := #[x, y], argTypes := ats })
    {mv kv : Value} {w' : World} (hx : a.eval x = mv) (hy : a.eval y = kv) (hrun : (Builtin.delete_ ats o.type #[mv, kv]).run P w = .ok (.tuple #[]) w') (h : K (a.put o.dst (.tuple #[])) w') : Oper.wp P o a w K Q := by
  unfold Oper.wp
  simp [execOp, hop, resolve, invoke, builtin, hx, hy, hrun, Result.andThen]
  exact h
/-- The last name is struck. -/
theorem NdIn.strike {w wr wr2 : World} {B ML ME : Nat} {oa : Option Addr} {l : List LdS} {tv : List (Str × Value)} {t : List LdS} {ns : List NodeS} {v : Value} (h : NdIn w wr B ML ME oa l tv t ns v) (s : Str) (f : Str → Bool) (hf1 : ∀ x, f x = decide (x ≠ s))
    (hf : Fr (fun k => k = ML) wr wr2) (hm : MapOf strKey wr2 ML (tv.filter fun p => decide (p.1 ≠ s))) : NdIn w wr2 B ML ME oa l (tv.filter fun p => f p.1) (t.filter fun x => f x.name) ns v := by
  have e : (fun p : Str × Value => f p.1) = fun p => decide (p.1 ≠ s) := by funext p; exact hf1 _
  refine ⟨h.fr.trans hf, ⟨hf.heap h.mkr.box h.mkr.ne.2.2, by rw [e]; exact hm, h.mkr.set.fr hf (fun e => h.mkr.ne.2.1 e.symm), h.mkr.ne⟩, h.tab0.filter, h.rd0, h.max0, h.map0, ?_, h.old⟩
  refine ⟨h.own.1, ?_⟩
  rcases h.own.2 with hn | ⟨g, cap, cur, rfl, hg, hgg, rest⟩
  · exact .inl hn
  · exact .inr ⟨g, cap, cur, rfl, hg, hf.heap hgg (fun e => by have := h.old; omega), rest⟩
/-- The row is cut. -/
theorem NdIn.cut {w wr : World} {B ML ME : Nat} {oa oa' : Option Addr} {c : Nat} {l : List LdS} {tv : List (Str × Value)} {t : List LdS} {ns : List NodeS} (h : NdIn w wr B ML ME oa l tv t ns (.slice oa' ns.length c)) (m : Nat) (hm : m ≤ ns.length) : NdIn w wr B ML ME oa l tv t (ns.take m) (.slice oa' m c) := by
  refine ⟨h.fr, h.mkr, h.tab0, h.rd0, h.max0, h.map0, ?_, h.old⟩
  have := own_take h.own hm
  rw [flatL_take (enc := encN) (k := 3) (fun _ => rfl)] at this
  rwa [List.length_take, Nat.min_eq_left hm]
end Go.Proofs.YtcaamakodneplaaGreat
