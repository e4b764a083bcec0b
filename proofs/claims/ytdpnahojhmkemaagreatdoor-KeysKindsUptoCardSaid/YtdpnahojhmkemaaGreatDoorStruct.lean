/-
  Operations on great structs, where the walk stands still: build, alloc, load and store of a whole one.
-/
import Derived.Test.YtdpnahojhmkemaaGreatDoorBase
import Derived.Deep.MidRow
import Derived.Deep.QuietTactic
namespace Go.Proofs.YtdpnahojhmkemaaGreatDoor
open Go Go.RowKit
set_option linter.unusedVariables false
set_option maxRecDepth 100000

theorem oper_build {P : Program} {K : Act → World → Prop} {Q : Exit → Act → World → Prop} {a : Act} {w : World} {o : Oper} (t : TypeId) (parts : Array (Nat × Operand)) (vs : Array (Nat × Value)) (cells : Array Value) (ho : o.op = Op.build t parts)
    (hv : (parts.map fun x => (x.1, a.eval x.2)) = vs)
    (hb : (Instr.build t vs).run P w = .ok (.agg cells) w) (h : K (a.put o.dst (.agg cells)) w) : Oper.wp P o a w K Q := by
  unfold Oper.wp
  have : Sem.run P (execOp a.eval o) w = .ok (Next.value (.agg cells)) w := by
    unfold execOp
    simp only [ho]
    have hv' : (Array.map (fun x : Nat × Operand => match x with | (i, x) => (i, a.eval x)) parts) = vs := by rw [← hv]
    rw [hv']
    simp only [Sem.run_bind, hb]
    rfl
  rw [this, Oper.upon_value]
  exact h

theorem set_mid (l cs : List Value) (v : Value) (off : Nat) (h : off < cs.length) : (cs.set off v).take (off + 1) ++ l ++ (cs.set off v).drop (off + 1 + l.length) = cs.take off ++ (v :: l) ++ cs.drop (off + (v :: l).length) := by
  have e : cs = cs.take off ++ cs[off] :: cs.drop (off + 1) := by
    conv => lhs; rw [← List.take_append_drop off cs, List.drop_eq_getElem_cons h]
  have hA : (cs.take off).length = off := by rw [List.length_take]; omega
  generalize cs.take off = A at e hA
  generalize cs[off] = c at e
  generalize cs.drop (off + 1) = B at e
  subst e hA
  simp [List.take_append, List.drop_append]
  rw [List.take_of_length_le (by omega), List.drop_eq_nil_of_le (by omega)]
  simp only [List.nil_append]
  rw [show A.length + 1 + l.length - A.length = l.length + 1 by omega, @List.drop_eq_nil_of_le _ A (A.length + (l.length + 1)) (by omega)]
  simp

theorem heap_setCells {b : Nat} {T : TypeId} {fz : Nat × Nat} : ∀ (l : List Value) (off : Nat) {w : World} {cs : Array Value}, w.heap[b]? = some (.cells cs T fz) → off + l.length ≤ cs.size →
    (w.setCells b off l).heap[b]? = some (.cells (cs.toList.take off ++ l ++ cs.toList.drop (off + l.length)).toArray T fz)
  | [], off, w, cs, h, _ => by
    rw [World.setCells, h]
    simp
  | v :: l, off, w, cs, h, hl => by
    rw [World.setCells]
    rw [heap_setCells l (off + 1) (heap_setCell h off v) (by simp at hl ⊢; omega)]
    have ho : off < cs.toList.length := by simp at hl ⊢; omega
    rw [Array.toList_setIfInBounds, set_mid l cs.toList v off ho]

theorem Fr.setCells {M : Nat → Prop} {a : World} {b : Nat} (hb : b < a.heap.size → M b) : ∀ (l : List Value) (off : Nat) {w : World}, Fr M a w → Fr M a (w.setCells b off l)
  | [], _, _, h => h
  | v :: l, off, w, h => by
    rw [World.setCells]
    exact Fr.setCells hb l (off + 1) (h.setCell hb v)

/-- A whole struct is stored over another one: the world behind it by what it says. -/
theorem oper_store_all {P : Program} {K : Act → World → Prop} {Q : Exit → Act → World → Prop} {a : Act} {w : World} {o : Oper} (t : TypeId) (x y : Operand) (b : Nat) (cells old : Array Value) (T : TypeId) (ho : o.op = Op.store t x y)
    (hx : a.eval x = .pointer (some ⟨b, 0, none⟩)) (hy : a.eval y = .agg cells) (hw : w.heap[b]? = some (.cells old T (0, 0))) (hs : old.size = cells.size) (hi : (P.info? t).map (·.size) = some cells.size)
    (h1 : (cells.all fun x => x.oneCell') = true) (h : ∀ w3 : World, w3.heap[b]? = some (.cells cells T (0, 0)) → Fr (· = b) w w3 → K (a.put o.dst undef) w3) : Oper.wp P o a w K Q := by
  refine wp_store_mid t x y ho b 0 cells hx hy ?_ hi h1 (h _ ?_ ?_)
  · intro j hj
    obtain ⟨h1, h2, _, _⟩ := rd hw
    refine ⟨?_, h2 _⟩
    rw [h1]
    simp [hs, hj]
  · have := heap_setCells cells.toList 0 hw (by simp [hs])
    rw [this, List.drop_eq_nil_of_le (by simp [hs])]
    simp
  · exact Fr.setCells (M := fun x => x = b) (fun _ => rfl) _ _ (Fr.refl _ _)

theorem oper_load_all {P : Program} {K : Act → World → Prop} {Q : Exit → Act → World → Prop} {a : Act} {w : World} {o : Oper} (t : TypeId) (x : Operand) (b : Nat) (cells : Array Value) (T : TypeId) (d : TypeDesc) (ho : o.op = Op.load t x)
    (hx : a.eval x = .pointer (some ⟨b, 0, none⟩)) (hw : w.heap[b]? = some (.cells cells T (0, 0))) (hd : P.underlying t = some d) (hr : d.isRow = true) (hi : (P.info? t).map (·.size) = some cells.size)
    (h : K (a.put o.dst (.agg cells)) w) : Oper.wp P o a w K Q := by
  refine wp_load_mid t x ho b 0 hx cells.toList d ?_ hd hr (by simpa using hi) (by simpa using h)
  intro j v hv
  rw [(rd hw).1, Nat.zero_add]
  simpa using hv

/-- What a walk needs where it stores a whole struct over another one, or loads it. -/
theorem store_all {P : Program} {w : World} {b : Nat} {old : Array Value} {T : TypeId} (cells : Array Value) (hw : w.heap[b]? = some (.cells old T (0, 0))) (hs : old.size = cells.size) (h1 : ∀ v, v ∈ cells.toList → v.oneCell' = true) :
    ∃ w3, (storeCells ⟨b, 0, none⟩ cells.toList).run P w = .ok () w3 ∧ w3.heap[b]? = some (.cells cells T (0, 0)) ∧ Fr (· = b) w w3 := by
  obtain ⟨r1, r2, _, _⟩ := rd hw
  refine ⟨_, run_storeCells_cells b 0 cells.toList 0 w ?_ ?_ h1, ?_, ?_⟩
  · intro j hj
    rw [r1]
    simp at hj ⊢
    omega
  · intro j hj
    exact r2 _
  · have := heap_setCells cells.toList (0 + 0) hw (by simp [hs])
    rw [this, List.drop_eq_nil_of_le (by simp [hs])]
    simp
  · exact Fr.setCells (M := fun x => x = b) (fun _ => rfl) _ _ (Fr.refl _ _)
theorem load_all {P : Program} {w : World} {b : Nat} {cells : Array Value} {T : TypeId} (n : Nat) (hn : cells.size = n) (hw : w.heap[b]? = some (.cells cells T (0, 0))) :
    (loadCells ⟨b, 0, none⟩ n).run P w = .ok cells w := by
  subst hn
  have := run_loadCells_list (P := P) w ⟨b, 0, none⟩ cells.toList (by
    intro j v hv
    rw [Addr.add_mid, (rd hw).1, Nat.zero_add]
    simpa using hv)
  simpa using this
theorem loadAt_all {P : Program} {w : World} {b : Nat} {cells : Array Value} {T : TypeId} (t : TypeId) (d : TypeDesc) (hd : P.underlying t = some d) (hr : d.isRow = true) (hi : (P.info? t).map (·.size) = some cells.size) (hw : w.heap[b]? = some (.cells cells T (0, 0))) :
    (Instr.loadAt t (.pointer (some ⟨b, 0, none⟩))).run P w = .ok (.agg cells) w := by
  have := run_loadAt_mid (P := P) w b 0 t cells.toList d (by
    intro j v hv
    rw [(rd hw).1, Nat.zero_add]
    simpa using hv) hd hr (by simpa using hi)
  simpa using this

theorem wpList_of_oper {P : Program} {w : World} {ops : Array Oper} {rest : List Oper} {o : Oper} {a : Act} {Q : Exit → Act → World → Prop} (hg : o.guard = none)
    (h : ∀ K : Act → World → Prop, (∀ a' w', wpList P ops Q rest a' w' → K a' w') → Oper.wp P o a w K Q) : wpList P ops Q (o :: rest) a w := by
  refine wpList_step fun K hK => ?_
  rw [if_pos (by unfold Region.wanted; rw [hg])]
  exact h K hK

theorem l_build {P : Program} {w : World} {ops : Array Oper} {rest : List Oper} {o : Oper} {a : Act} {Q : Exit → Act → World → Prop} (hg : o.guard = none) (t : TypeId) (parts : Array (Nat × Operand)) (vs : Array (Nat × Value)) (cells : Array Value) (ho : o.op = Op.build t parts)
    (hv : (parts.map fun x => (x.1, a.eval x.2)) = vs) (hb : (Instr.build t vs).run P w = .ok (.agg cells) w) (h : wpList P ops Q rest (a.put o.dst (.agg cells)) w) : wpList P ops Q (o :: rest) a w :=
  wpList_of_oper hg fun K hK => oper_build t parts vs cells ho hv hb (hK _ _ h)

theorem l_store {P : Program} {w : World} {ops : Array Oper} {rest : List Oper} {o : Oper} {a : Act} {Q : Exit → Act → World → Prop} (hg : o.guard = none) (t : TypeId) (x y : Operand) (b : Nat) (cells old : Array Value) (T : TypeId) (ho : o.op = Op.store t x y)
    (hx : a.eval x = .pointer (some ⟨b, 0, none⟩)) (hy : a.eval y = .agg cells) (hw : w.heap[b]? = some (.cells old T (0, 0))) (hs : old.size = cells.size) (hi : (P.info? t).map (·.size) = some cells.size)
    (h1 : (cells.all fun x => x.oneCell') = true) (h : ∀ w3 : World, w3.heap[b]? = some (.cells cells T (0, 0)) → Fr (· = b) w w3 → wpList P ops Q rest (a.put o.dst undef) w3) : wpList P ops Q (o :: rest) a w :=
  wpList_of_oper hg fun K hK => oper_store_all t x y b cells old T ho hx hy hw hs hi h1 fun w3 a1 a2 => hK _ _ (h w3 a1 a2)

theorem l_load {P : Program} {w : World} {ops : Array Oper} {rest : List Oper} {o : Oper} {a : Act} {Q : Exit → Act → World → Prop} (hg : o.guard = none) (t : TypeId) (x : Operand) (b : Nat) (cells : Array Value) (T : TypeId) (d : TypeDesc) (ho : o.op = Op.load t x)
    (hx : a.eval x = .pointer (some ⟨b, 0, none⟩)) (hw : w.heap[b]? = some (.cells cells T (0, 0))) (hd : P.underlying t = some d) (hr : d.isRow = true) (hi : (P.info? t).map (·.size) = some cells.size)
    (h : wpList P ops Q rest (a.put o.dst (.agg cells)) w) : wpList P ops Q (o :: rest) a w :=
  wpList_of_oper hg fun K hK => oper_load_all t x b cells T d ho hx hw hd hr hi (hK _ _ h)

theorem l_alloc {P : Program} {w : World} {ops : Array Oper} {rest : List Oper} {o : Oper} {a : Act} {Q : Exit → Act → World → Prop} (hg : o.guard = none) (t : TypeId) (Z : Array Value) (ho : o.op = Op.alloc t)
    (hr : (Instr.alloc t true (.tuple #[])).run P w = .ok (.pointer (some ⟨w.heap.size, 0, none⟩)) (w.alloc (.cells Z t)))
    (h : ∀ w3 : World, w3.heap[w.heap.size]? = some (.cells Z t (0, 0)) → Below w.heap.size w w3 → wpList P ops Q rest (a.put o.dst (.pointer (some ⟨w.heap.size, 0, none⟩))) w3) : wpList P ops Q (o :: rest) a w := by
  refine wpList_of_oper hg fun K hK => ?_
  unfold Oper.wp
  have : Sem.run P (execOp a.eval o) w = .ok (Next.value (.pointer (some ⟨w.heap.size, 0, none⟩))) (w.alloc (.cells Z t)) := by
    unfold execOp
    simp only [ho, Sem.run_bind, hr]
    rfl
  rw [this, Oper.upon_value]
  exact hK _ _ (h _ (heap_alloc_new _ _) ((Below.refl _ _).alloc (Nat.le_refl _) _))

/-- A field of a great struct is written anew. -/
theorem l_store_int {P : Program} {w : World} {ops : Array Oper} {rest : List Oper} {o : Oper} {a : Act} {Q : Exit → Act → World → Prop} (hg : o.guard = none) (t : TypeId) (x y : Operand) (b j : Nat) (k : IntKind) (n : Int) (old : Array Value) (T : TypeId) (ho : o.op = Op.store t x y)
    (hx : a.eval x = .pointer (some ⟨b, j, none⟩)) (hy : a.eval y = .int k n) (hw : w.heap[b]? = some (.cells old T (0, 0))) (hs : j < old.size) (i : TypeInfo) (hi : P.info? t = some i) (h1 : i.size = 1)
    (h : ∀ w3 : World, w3.heap[b]? = some (.cells (old.setIfInBounds j (.int k n)) T (0, 0)) → Fr (· = b) w w3 → wpList P ops Q rest (a.put o.dst undef) w3) : wpList P ops Q (o :: rest) a w := by
  refine wpList_of_oper hg fun K hK => ?_
  unfold Oper.wp
  have : Sem.run P (execOp a.eval o) w = .ok Next.skip (w.setCell ⟨b, j, none⟩ (.int k n)) := by
    unfold execOp
    simp only [ho, hx, hy]
    have hr : Sem.run P (Instr.storeAt t (.pointer (some ⟨b, j, none⟩)) (.int k n)) w = .ok () (w.setCell ⟨b, j, none⟩ (.int k n)) := by
      obtain ⟨r1, r2, _⟩ := rd hw
      unfold Instr.storeAt
      have hc := run_storeCells_cells (P := P) b j [.int k n] 0 w (by intro q hq; rw [r1]; simp at hq; subst hq; simp [hs]) (by intro q hq; exact r2 _) (by simp [Value.oneCell'])
      unfold Instr.sureAddr storeVar
      have h2 : (Value.int k n).cells = #[.int k n] := rfl
      simp only [Sem.run_bind, Sem.run_pure, Result.andThen_ok, run_sizeOf w hi, show P.cellsOf t = 1 by (simp [Program.cellsOf, hi, h1]), h2]
      simpa [World.setCells] using hc
    simp only [Sem.run_bind, hr]
    rfl
  rw [this, Oper.upon_skip]
  exact hK _ _ (h _ (heap_setCell hw j _) (Fr.setCell (M := fun x => x = b) (Fr.refl _ _) (fun _ => rfl) _))

theorem loadVar_all {P : Program} {w : World} {b : Nat} {cells : Array Value} {T : TypeId} (t : TypeId) (d : TypeDesc) (hd : P.underlying t = some d) (hr : d.isRow = true) (hi : (P.info? t).map (·.size) = some cells.size) (hw : w.heap[b]? = some (.cells cells T (0, 0))) :
    (loadVar t ⟨b, 0, none⟩).run P w = .ok (.agg cells) w := by
  have := run_loadVar_mid (P := P) w b 0 t cells.toList d (by
    intro j v hv
    rw [(rd hw).1, Nat.zero_add]
    simpa using hv) hd hr (by simpa using hi)
  simpa using this

/-- A single result that lies in a variable of its own. -/
theorem res_cell {P : Program} {w : World} {fn : Func} {tmps : Array Value} (a : Nat) (t : TypeId) (b : Nat) (v : Value) (hf : fn.results = #[.cell a t]) (ha : tmps.getD a undef = .pointer (some ⟨b, 0, none⟩)) (hl : (loadVar t ⟨b, 0, none⟩).run P w = .ok v w) :
    Sem.run P (results fn tmps) w = .ok v w := by
  unfold results
  have hA : (asAddr (.pointer (some ⟨b, 0, none⟩))).run P w = .ok ⟨b, 0, none⟩ w := rfl
  rw [hf]
  simp only [List.mapM_toArray, List.mapM_cons, List.mapM_nil, ha, Sem.run_bind, hA, hl, Sem.run_pure, Result.andThen_ok, map_eq_pure_bind]
  rfl

theorem post_cell {P : Program} {w : World} {fn : Func} {R : Ending → World → Prop} {x : Act} (a : Nat) (t : TypeId) (b : Nat) (v : Value) (hf : fn.results = #[.cell a t]) (hd : x.defers = []) (ha : x.tmps.getD a undef = .pointer (some ⟨b, 0, none⟩)) (hl : (loadVar t ⟨b, 0, none⟩).run P w = .ok v w) (h : R (.returned v) w) :
    bodyPost P fn R .ret x w :=
  ⟨hd, v, res_cell a t b v hf ha hl, h⟩
end Go.Proofs.YtdpnahojhmkemaaGreatDoor
