/-
  Rows of structs of any size in memory, read and owned. (What the graph seat's texts say of them, without the graph.)
-/
import Derived.Test.YtdpnahojhmkemaaGreatDoorBase
import Derived.Test.YtdpnahojhmkemaaGreatDoorStruct
import Derived.Test.YtdpnahojhmkemaaGreatDoorDrawT
import Derived.Test.YtdpnahojhmkemaaGreatDoorWordsS
import Derived.Deep.RegionLawGrows
import Derived.Deep.LoopGhost
import Derived.IntWalk
import Derived.Lib.QuietBelow
namespace Go.Proofs.YtdpnahojhmkemaaGreatDoor
open Go Go.RowKit
set_option linter.unusedVariables false
set_option maxRecDepth 100000

def flatL {α : Type} (enc : α → List Value) (l : List α) : List Value := l.flatMap enc
theorem flatL_length {α : Type} {enc : α → List Value} {k : Nat} (hk : ∀ x, (enc x).length = k) : ∀ l : List α, (flatL enc l).length = l.length * k
  | [] => by simp [flatL]
  | x :: r => by
    have := flatL_length hk r
    unfold flatL at *
    rw [List.flatMap_cons, List.length_append, hk, this, List.length_cons, Nat.add_mul]; omega
theorem flatL_get {α : Type} {enc : α → List Value} {k : Nat} (hk : ∀ x, (enc x).length = k) : ∀ (l : List α) (i j : Nat) (hi : i < l.length), j < k → (flatL enc l)[i * k + j]? = (enc l[i])[j]?
  | [], i, j, hi, _ => absurd hi (by simp)
  | x :: r, 0, j, _, hj => by
    unfold flatL
    rw [List.flatMap_cons, Nat.zero_mul, Nat.zero_add, List.getElem?_append_left (by rw [hk]; exact hj)]
    rfl
  | x :: r, i + 1, j, hi, hj => by
    have := flatL_get hk r i j (by simpa using hi) hj
    unfold flatL at *
    rw [List.flatMap_cons, List.getElem?_append_right (by rw [hk, Nat.add_mul]; omega), hk]
    rw [show (i + 1) * k + j - k = i * k + j by rw [Nat.add_mul]; omega, this]
    rfl
theorem flatL_append {α : Type} (enc : α → List Value) (a b : List α) : flatL enc (a ++ b) = flatL enc a ++ flatL enc b := by simp [flatL]
theorem flatL_one {α : Type} (enc : α → List Value) (a : α) : flatL enc [a] = enc a := by simp [flatL]
theorem flatL_oneCell {α : Type} {enc : α → List Value} (h1 : ∀ x, ∀ v ∈ enc x, v.oneCell' = true) (l : List α) : ∀ v ∈ flatL enc l, v.oneCell' = true := by
  intro v hv
  obtain ⟨x, _, hx⟩ := List.mem_flatMap.1 hv
  exact h1 x v hx
/-- Element i's cells in a row that is owned. -/
theorem own_cell {α : Type} {enc : α → List Value} {k : Nat} (hk : ∀ x, (enc x).length = k) {w : World} {B : Nat} {T : TypeId} {oa : Option Addr} {n cap : Nat} {l : List α} (h : w.ownsRow B T k (.slice oa n cap) n (flatL enc l)) (hn : n = l.length)
    {i : Nat} (hi : i < l.length) : ∃ g, oa = some ⟨g, 0, none⟩ ∧ B ≤ g ∧ g < w.heap.size ∧ n ≤ cap ∧ ∀ j v, (enc l[i])[j]? = some v → w.cell? ⟨g, i * k + j, none⟩ = some v := by
  subst hn
  rcases h.2 with ⟨_, h0⟩ | ⟨g, cap', cur, hv, hb, hg, hnc, hcm, hsz, ht⟩
  · omega
  · injection hv with e1 e2 e3
    subst e1
    subst e3
    refine ⟨g, rfl, hb, lt_heap hg, hnc, fun j v hj => ?_⟩
    have hjk : j < k := by
      rcases Nat.lt_or_ge j k with q | q
      · exact q
      · rw [List.getElem?_eq_none (by rw [hk]; exact q)] at hj; cases hj
    have h1 := flatL_get hk l i j hi hjk
    rw [hj, ← ht] at h1
    have hlt : i * k + j < l.length * k := by
      have := Nat.mul_le_mul_right k (show i + 1 ≤ l.length from hi); rw [Nat.add_mul, Nat.one_mul] at this; omega
    rw [List.getElem?_take_of_lt hlt] at h1
    simp only [World.cell?, hg]
    simpa using h1

/-- Of a slice of structs that begins at oa the structs. -/
def RowRd {α : Type} (enc : α → List Value) (k : Nat) (w : World) (oa : Option Addr) (l : List α) : Prop :=
  ∀ i (h : i < l.length), ∃ b o, oa = some ⟨b, o, none⟩ ∧ b < w.heap.size ∧ ∀ j v, (enc l[i])[j]? = some v → w.cell? ⟨b, o + i * k + j, none⟩ = some v
theorem RowRd.below {α : Type} {enc : α → List Value} {k : Nat} {w w' : World} {oa : Option Addr} {l : List α} (h : RowRd enc k w oa l) (hb : Below w.heap.size w w') : RowRd enc k w' oa l := by
  intro i hi
  obtain ⟨b, o, e, hlt, hc⟩ := h i hi
  exact ⟨b, o, e, Nat.lt_of_lt_of_le hlt hb.size, fun j v hj => (hb.cell (p := ⟨b, o + i * k + j, none⟩) hlt).trans (hc j v hj)⟩
theorem RowRd.of_own {α : Type} {enc : α → List Value} {k : Nat} (hk : ∀ x, (enc x).length = k) {w : World} {B : Nat} {T : TypeId} {oa : Option Addr} {cap : Nat} {l : List α} (h : w.ownsRow B T k (.slice oa l.length cap) l.length (flatL enc l)) : RowRd enc k w oa l := by
  intro i hi
  obtain ⟨g, e, hb, hlt, _, hc⟩ := own_cell hk h rfl hi
  exact ⟨g, 0, e, hlt, fun j v hj => by rw [Nat.zero_add]; exact hc j v hj⟩
theorem RowRd.nil {α : Type} (enc : α → List Value) (k : Nat) (w : World) (oa : Option Addr) : RowRd enc k w oa ([] : List α) := fun i h => absurd h (by simp)
theorem flatL_at {α : Type} {enc : α → List Value} {k : Nat} (hk : ∀ x, (enc x).length = k) (h0 : 0 < k) {l : List α} {j : Nat} {u : Value} (h : (flatL enc l)[j]? = some u) :
    ∃ i r, ∃ hi : i < l.length, r < k ∧ j = i * k + r ∧ (enc l[i])[r]? = some u := by
  have hj : j < (flatL enc l).length := (List.getElem?_eq_some_iff.1 h).1
  rw [flatL_length hk] at hj
  have hi : j / k < l.length := (Nat.div_lt_iff_lt_mul h0).2 hj
  have hr := Nat.mod_lt j h0
  have e : j = j / k * k + j % k := by have := Nat.div_add_mod j k; rw [Nat.mul_comm] at this; exact this.symm
  refine ⟨j / k, j % k, hi, hr, e, ?_⟩
  rw [← flatL_get hk l (j / k) (j % k) hi hr, ← e]; exact h
section
variable {α : Type} {enc : α → List Value} {k : Nat} {w w' : World} {oa : Option Addr} {l : List α}
theorem RowRd.flat (hk : ∀ x, (enc x).length = k) (h0 : 0 < k) (h : RowRd enc k w oa l) : ∀ j u, (flatL enc l)[j]? = some u → ∃ b o, oa = some ⟨b, o, none⟩ ∧ w.cell? ⟨b, o + j, none⟩ = some u := by
  intro j u hj
  obtain ⟨i, r, hi, hr, rfl, hu⟩ := flatL_at hk h0 hj
  obtain ⟨b, o, e, _, hc⟩ := h i hi
  exact ⟨b, o, e, by rw [← Nat.add_assoc]; exact hc r u hu⟩
theorem RowRd.take (h : RowRd enc k w oa l) (n : Nat) : RowRd enc k w oa (l.take n) := by
  intro i hi
  obtain ⟨b, o, e, hl, hc⟩ := h i (by simp at hi; omega)
  exact ⟨b, o, e, hl, by rw [List.getElem_take]; exact hc⟩
theorem RowRd.drop {b o : Nat} (h : RowRd enc k w (some ⟨b, o, none⟩) l) (n : Nat) : RowRd enc k w (some ⟨b, o + n * k, none⟩) (l.drop n) := by
  intro i hi
  obtain ⟨b1, o1, e, hl, hc⟩ := h (n + i) (by simp at hi; omega)
  injection e with e; injection e with e1 e2
  subst e1; subst e2
  refine ⟨b, o + n * k, rfl, hl, fun j v hj => ?_⟩
  rw [List.getElem_drop] at hj
  have := hc j v hj
  rwa [Nat.add_mul, ← Nat.add_assoc] at this
/-- As step_append_grows asks for it. -/
theorem RowRd.holds {b o : Nat} (hk : ∀ x, (enc x).length = k) (h0 : 0 < k) (h : RowRd enc k w (some ⟨b, o, none⟩) l) : ∀ b', (some (⟨b, o, none⟩ : Addr)) = some b' → ∀ j u, (flatL enc l)[j]? = some u → w.cell? (b'.add j) = some u := by
  intro b' e j u hu
  injection e with e
  subst e
  obtain ⟨b1, o1, e1, hc⟩ := h.flat hk h0 j u hu
  injection e1 with e1; injection e1 with e2 e3
  subst e2; subst e3
  rw [show (⟨b, o, none⟩ : Addr).add j = ⟨b, o + j, none⟩ by unfold Addr.add; split <;> simp_all]
  exact hc
end
theorem own_openK {w : World} {base k : Nat} {e : TypeId} {v : Value} {n : Nat} {xs : List Value} (h : w.ownsRow base e k v n xs) (hn : 0 < n) :
    ∃ g cap, v = .slice (some ⟨g, 0, none⟩) n cap ∧ (∀ j u, xs[j]? = some u → w.cell? ((⟨g, 0, none⟩ : Addr).add j) = some u) ∧ base ≤ g ∧ g < w.heap.size := by
  rcases h.2 with ⟨_, h0⟩ | ⟨g, cap, cur, hv, hb, hg, hnc, hcm, hs, ht⟩
  · omega
  · refine ⟨g, cap, hv, fun j u hu => ?_, hb, lt_heap hg⟩
    rw [show (⟨g, 0, none⟩ : Addr).add j = ⟨g, j, none⟩ by unfold Addr.add; split <;> simp_all]
    have hj : j < xs.length := (List.getElem?_eq_some_iff.1 hu).1
    rw [h.1] at hj
    rw [← ht, List.getElem?_take_of_lt hj] at hu
    simp only [World.cell?, hg]
    simpa using hu
theorem own_built3 (w : World) (x y z : Value) (T : TypeId) : (w.alloc (.cells #[x, y, z] T)).ownsRow w.heap.size T 3 (.slice (some ⟨w.heap.size, 0, none⟩) 1 1) 1 [x, y, z] :=
  ⟨rfl, .inr ⟨w.heap.size, 1, #[x, y, z], rfl, Nat.le_refl _, heap_alloc_new _ _, Nat.le_refl _, by decide, rfl, rfl⟩⟩

/-- Rows that came in, or were made: a slice that reads as l. -/
structure RArg {α : Type} (enc : α → List Value) (k : Nat) (w : World) (oa : Option Addr) (cap : Nat) (l : List α) : Prop where
  row : RowRd enc k w oa l
  fit : l.length ≤ cap
  isnil : oa = none → cap = 0
  form : ∀ a, oa = some a → ∃ b o, a = ⟨b, o, none⟩
section
variable {α : Type} {enc : α → List Value} {k : Nat} {w w' : World} {oa : Option Addr} {cap : Nat} {l : List α}
theorem RArg.below (h : RArg enc k w oa cap l) (hb : Below w.heap.size w w') : RArg enc k w' oa cap l := ⟨h.row.below hb, h.fit, h.isnil, h.form⟩
theorem RArg.none : RArg enc k w none 0 [] := ⟨fun i h => absurd h (by simp), Nat.le_refl _, fun _ => rfl, fun a e => by cases e⟩
theorem RArg.of_own (hk : ∀ x, (enc x).length = k) {B : Nat} {T : TypeId} (h : w.ownsRow B T k (.slice oa l.length cap) l.length (flatL enc l)) : RArg enc k w oa cap l := by
  refine ⟨RowRd.of_own hk h, ?_, ?_, ?_⟩
  · rcases h.2 with ⟨hv, h0⟩ | ⟨g, cap', cur, hv, hb, hg, hnc, _⟩
    · omega
    · injection hv with _ _ e3; omega
  · rintro rfl
    rcases h.2 with ⟨hv, h0⟩ | ⟨g, cap', cur, hv, _⟩
    · injection hv
    · injection hv with e1; cases e1
  · rintro a rfl
    rcases h.2 with ⟨hv, h0⟩ | ⟨g, cap', cur, hv, _⟩
    · injection hv with e1; cases e1
    · injection hv with e1; injection e1 with e1; exact ⟨g, 0, e1⟩
end

theorem heap_below {w w' : World} {b : Nat} {o : Obj} (h : w.heap[b]? = some o) (hb : Below w.heap.size w w') : w'.heap[b]? = some o := (hb.block b (lt_heap h)).trans h
theorem cells2 {w : World} {b : Nat} {x y : Value} {T : TypeId} (h : w.heap[b]? = some (.cells #[x, y] T (0, 0))) : w.cell? ⟨b, 0, none⟩ = some x ∧ w.cell? ⟨b, 1, none⟩ = some y :=
  ⟨by rw [(rd h).1]; rfl, by rw [(rd h).1]; rfl⟩
theorem cells3 {w : World} {b : Nat} {x y z : Value} {T : TypeId} (h : w.heap[b]? = some (.cells #[x, y, z] T (0, 0))) : w.cell? ⟨b, 0, none⟩ = some x ∧ w.cell? ⟨b, 1, none⟩ = some y ∧ w.cell? ⟨b, 2, none⟩ = some z :=
  ⟨by rw [(rd h).1]; rfl, by rw [(rd h).1]; rfl, by rw [(rd h).1]; rfl⟩

theorem cells2_alloc {w : World} {b : Nat} {x y : Value} {T : TypeId} (h : w.heap[b]? = some (.cells #[x, y] T (0, 0))) (o : Obj) : (w.alloc o).cell? ⟨b, 0, none⟩ = some x ∧ (w.alloc o).cell? ⟨b, 1, none⟩ = some y :=
  cells2 (heap_below h ((Below.refl w.heap.size w).alloc (Nat.le_refl _) o))
theorem below_le {B : Nat} {w w' : World} (h : Below B w w') (hB : w.heap.size = B) : B ≤ w'.heap.size := by subst hB; exact h.size
theorem row_one (w : World) (s : Str) (T : TypeId) : StrRow (w.alloc (.cells #[.string ⟨s.toArray⟩] T)) (some ⟨w.heap.size, 0, none⟩) [s] ∧ Below w.heap.size w (w.alloc (.cells #[.string ⟨s.toArray⟩] T)) := by
  have hb := (Below.refl w.heap.size w).alloc (Nat.le_refl _) (.cells #[.string ⟨s.toArray⟩] T)
  refine ⟨fun i hi => ⟨w.heap.size, 0, rfl, ?_⟩, hb⟩
  have hi0 : i = 0 := by simp at hi; omega
  subst hi0
  rw [(rd (heap_alloc_new w (.cells #[.string ⟨s.toArray⟩] T))).1]
  rfl
theorem StrRow.drop {w : World} {b o : Nat} {l : List (List UInt8)} (h : StrRow w (some ⟨b, o, none⟩) l) (k : Nat) : StrRow w (some ⟨b, o + k, none⟩) (l.drop k) := by
  intro i hi
  obtain ⟨b', o', e, hc⟩ := h (k + i) (by simp at hi; omega)
  injection e with e; injection e with e1 e2
  subst e1; subst e2
  exact ⟨b, o + k, rfl, by rw [Nat.add_assoc]; simpa using hc⟩
theorem step_append_rows {P : Program} {ops : Array Oper} {o : Oper} {a : Act} {w : World} {K : Act → World → Prop} {Q : Exit → Act → World → Prop} {E : Prop}
    (hg : o.guard = none) (s x : Operand) (t : TypeId) (hop : o.op = Op.call { callee := Callee.builtin Builtin.append, args := #[s, x], argTypes := #[t, t] })
    (base e : TypeId) (i : TypeInfo) (z : Value) (size bytes : Nat) (ht : P.underlying t = some (.slice e)) (hi : P.info? e = some i) (hz : i.zero = some z)
    (hsize : i.size = size) (hby : i.bytes = bytes) (hzs : z.cells.size = size) (hsz : 0 < size)
    (v : Value) (n : Nat) (xs : List Value) (hs : a.eval s = v) (hown : w.ownsRow base e size v n xs) (oa : Option Addr) (m c : Nat) (news : List Value) (hx : a.eval x = .slice oa m c) (hl : news.length = m * size)
    (hc : ∀ j u, news[j]? = some u → ∃ b o, oa = some ⟨b, o, none⟩ ∧ w.cell? ⟨b, o + j, none⟩ = some u) (h1 : ∀ u ∈ news, u.oneCell' = true)
    (h63 : n + m ≤ maxLen) (hbytes : (n + m) * bytes ≤ 140737488355328) (hbase : base ≤ w.heap.size)
    (hK : ∀ v' w', w'.ownsRow base e size v' (n + m) (xs ++ news) → w.grownBy w' v.ownBlock → K (a.put o.dst v') w') :
    if Region.wanted o (yielded ops a.tmps) = true then Oper.wp P o a w K Q else E := by
  have hw : Region.wanted o (yielded ops a.tmps) = true := by simp [Region.wanted, hg]
  rw [if_pos hw]
  obtain ⟨v', w', hrun, r1, r2⟩ := append_rows (P := P) base t o.type e i z size bytes ht hi hz hsize hby hzs hsz v n xs hown oa m c news hl hc h1 h63 hbytes hbase
  unfold Oper.wp
  simp [execOp, hop, resolve, invoke, builtin, hs, hx, hrun, Result.andThen]
  exact hK v' w' r1 r2
theorem own_built (w : World) (x : Value) (T : TypeId) : (w.alloc (.cells #[x] T)).ownsRow w.heap.size T 1 (.slice (some ⟨w.heap.size, 0, none⟩) 1 1) 1 [x] :=
  ⟨rfl, .inr ⟨w.heap.size, 1, #[x], rfl, Nat.le_refl _, heap_alloc_new _ _, Nat.le_refl _, by decide, rfl, rfl⟩⟩
theorem oper_alloc {P : Program} {K : Act → World → Prop} {Q : Exit → Act → World → Prop} {a : Act} {w : World} {o : Oper} (t : TypeId) (Z : Array Value) (ho : o.op = Op.alloc t)
    (hr : (Instr.alloc t true (.tuple #[])).run P w = .ok (.pointer (some ⟨w.heap.size, 0, none⟩)) (w.alloc (.cells Z t)))
    (h : ∀ w3 : World, w3.heap[w.heap.size]? = some (.cells Z t (0, 0)) → Below w.heap.size w w3 → w.heap.size < w3.heap.size → K (a.put o.dst (.pointer (some ⟨w.heap.size, 0, none⟩))) w3) : Oper.wp P o a w K Q := by
  unfold Oper.wp
  have : Sem.run P (execOp a.eval o) w = .ok (Next.value (.pointer (some ⟨w.heap.size, 0, none⟩))) (w.alloc (.cells Z t)) := by
    unfold execOp
    simp only [ho, Sem.run_bind, hr]
    rfl
  rw [this, Oper.upon_value]
  exact h _ (heap_alloc_new _ _) ((Below.refl _ _).alloc (Nat.le_refl _) _) (by simp)
theorem oper_alloc_at {P : Program} {K : Act → World → Prop} {Q : Exit → Act → World → Prop} {a : Act} {w : World} {o : Oper} (n : Nat) (hn : w.heap.size = n) (t : TypeId) (Z : Array Value) (ho : o.op = Op.alloc t)
    (hr : (Instr.alloc t true (.tuple #[])).run P w = .ok (.pointer (some ⟨w.heap.size, 0, none⟩)) (w.alloc (.cells Z t)))
    (h : ∀ w3 : World, w3.heap[n]? = some (.cells Z t (0, 0)) → Below n w w3 → n < w3.heap.size → K (a.put o.dst (.pointer (some ⟨n, 0, none⟩))) w3) : Oper.wp P o a w K Q := by
  subst hn
  exact oper_alloc t Z ho hr h
theorem l_load_at {P : Program} {w : World} {ops : Array Oper} {rest : List Oper} {o : Oper} {a : Act} {Q : Exit → Act → World → Prop} (hg : o.guard = none) (t : TypeId) (x : Operand) (b n : Nat) (part : Array Value) (d : TypeDesc) (ho : o.op = Op.load t x)
    (hx : a.eval x = .pointer (some ⟨b, n, none⟩)) (hp : ∀ j v, part[j]? = some v → w.cell? ⟨b, n + j, none⟩ = some v) (hd : P.underlying t = some d) (hr : d.isRow = true) (hi : (P.info? t).map (·.size) = some part.size)
    (h : wpList P ops Q rest (a.put o.dst (.agg part)) w) : wpList P ops Q (o :: rest) a w := by
  refine wpList_of_oper hg fun K hK => ?_
  refine wp_load_mid t x ho b n hx part.toList d ?_ hd hr (by simpa using hi) (by simpa using hK _ _ h)
  intro j v hv
  exact hp j v (by simpa using hv)
theorem own_keeps {w w' : World} {B e size n : Nat} {v : Value} {xs : List Value} (h : w.ownsRow B e size v n xs) (hb : Below w.heap.size w w') : w'.ownsRow B e size v n xs := by
  refine ⟨h.1, ?_⟩
  rcases h.2 with hn | ⟨g, cap, cur, rfl, hg, hgg, rest⟩
  · exact .inl hn
  · exact .inr ⟨g, cap, cur, rfl, hg, by rw [hb.block g (lt_heap hgg)]; exact hgg, rest⟩
theorem exec_load_all {P : Program} {a : Act} {w : World} {o : Oper} (t : TypeId) (x : Operand) (b : Nat) (cells : Array Value) (T : TypeId) (d : TypeDesc) (ho : o.op = Op.load t x)
    (hx : a.eval x = .pointer (some ⟨b, 0, none⟩)) (hw : w.heap[b]? = some (.cells cells T (0, 0))) (hd : P.underlying t = some d) (hr : d.isRow = true) (hi : (P.info? t).map (·.size) = some cells.size) : (execOp a.eval o).run P w = .ok (.value (.agg cells)) w := by
  have h := loadAt_all (P := P) t d hd hr hi hw
  unfold execOp
  simp only [ho, hx, Sem.run_bind, h]
  rfl
theorem own_not_box {w : World} {base e size n X : Nat} {v : Value} {xs : List Value} (h : w.ownsRow base e size v n xs) {cs : Array Value} {T : TypeId} {fz : Nat × Nat} (hx : w.heap[X]? = some (.cells cs T fz)) (hT : T ≠ e) : some X ≠ v.ownBlock := by
  rcases h.2 with ⟨rfl, _⟩ | ⟨g, cap, cur, rfl, hg, hgg, rest⟩
  · simp [Value.ownBlock]
  · simp only [Value.ownBlock]
    intro e2
    injection e2 with e2
    subst e2
    rw [hgg] at hx
    injection hx with hx
    injection hx with h1 h2
    exact hT h2.symm
theorem own_slice_len {w : World} {base e size n m : Nat} {oa : Option Addr} {c : Nat} {xs : List Value} (h : w.ownsRow base e size (.slice oa m c) n xs) : m = n := by
  rcases h.2 with ⟨h1, h2⟩ | ⟨g, cap, cur, h1, _⟩
  · injection h1 with h1 h3 h4; omega
  · injection h1
theorem exec_load_mid {P : Program} {a : Act} {w : World} {o : Oper} (t : TypeId) (x : Operand) (b n : Nat) (part : Array Value) (d : TypeDesc) (ho : o.op = Op.load t x)
    (hx : a.eval x = .pointer (some ⟨b, n, none⟩)) (hp : ∀ j v, part[j]? = some v → w.cell? ⟨b, n + j, none⟩ = some v) (hd : P.underlying t = some d) (hr : d.isRow = true) (hi : (P.info? t).map (·.size) = some part.size) : (execOp a.eval o).run P w = .ok (.value (.agg part)) w := by
  have h := run_loadAt_mid (P := P) w b n t part.toList d (by
    intro j v hv
    exact hp j v (by simpa using hv)) hd hr (by simpa using hi)
  unfold execOp
  simp only [ho, hx, Sem.run_bind, h]
  rfl
theorem l_load_at_w {P : Program} {w : World} {ops : Array Oper} {rest : List Oper} {o : Oper} {a : Act} {Q : Exit → Act → World → Prop} (hg : Region.wanted o (yielded ops a.tmps) = true) (t : TypeId) (x : Operand) (b n : Nat) (part : Array Value) (d : TypeDesc) (ho : o.op = Op.load t x)
    (hx : a.eval x = .pointer (some ⟨b, n, none⟩)) (hp : ∀ j v, part[j]? = some v → w.cell? ⟨b, n + j, none⟩ = some v) (hd : P.underlying t = some d) (hr : d.isRow = true) (hi : (P.info? t).map (·.size) = some part.size)
    (h : wpList P ops Q rest (a.put o.dst (.agg part)) w) : wpList P ops Q (o :: rest) a w := by
  refine wpList_step fun K hK => ?_
  rw [if_pos hg]
  refine wp_load_mid t x ho b n hx part.toList d ?_ hd hr (by simpa using hi) (by simpa using hK _ _ h)
  intro j v hv
  exact hp j v (by simpa using hv)
structure RowArg {α : Type} (enc : α → List Value) (k : Nat) (w : World) (v : Value) (l : List α) : Prop where
  ex : ∃ oa cap, v = .slice oa l.length cap ∧ RowRd enc k w oa l
theorem RowArg.below {α : Type} {enc : α → List Value} {k : Nat} {w w' : World} {v : Value} {l : List α} (h : RowArg enc k w v l) (hb : Below w.heap.size w w') : RowArg enc k w' v l := by
  obtain ⟨oa, cap, e, hr⟩ := h.ex
  exact ⟨oa, cap, e, hr.below hb⟩
structure TxtArg (w : World) (v : Value) (l : List Str) : Prop where
  ex : ∃ oa cap, v = .slice oa l.length cap ∧ StrRow w oa l
theorem TxtArg.below {w w' : World} {v : Value} {l : List Str} (h : TxtArg w v l) (hb : Below w.heap.size w w') : TxtArg w' v l := by
  obtain ⟨oa, cap, e, hr⟩ := h.ex
  exact ⟨oa, cap, e, hr.below hb⟩

theorem row_of_own {w : World} {B : Nat} {T : TypeId} {v : Value} {l : List Str} (h : w.ownsRow B T 1 v l.length (strVals l)) : ∃ oa cap, v = .slice oa l.length cap ∧ StrRow w oa l := by
  obtain ⟨oa, cap, rfl⟩ := ownsRow_form h
  exact ⟨oa, cap, rfl, StrRow.of_own h⟩

end Go.Proofs.YtdpnahojhmkemaaGreatDoor
