import Derived.Laws.StructEq
import Derived.Deep.QuietTactic
import Derived.BigQuiet
import Derived.Test.YtdjkedcpehhmnaaGreatDoorUS1
import Derived.Test.YtdjkedcpehhmnaaGreatDoorUS4
import Derived.Test.YtdjkedcpehhmnaaGreatDoorUS10
import Derived.Test.YtdjkedcpehhmnaaGreatDoorUS15
import Derived.Test.YtdjkedcpehhmnaaGreatDoorUS31
namespace Go.Proofs.YtdjkedcpehhmnaaGreatDoor
open Go Go.RowKit
set_option linter.unusedVariables false
set_option linter.unusedSimpArgs false
set_option maxRecDepth 100000
theorem append_where {P : Program} {w w' : World} (base : Nat) (t ty e : TypeId) (i : TypeInfo) (z : Value) (size bytes : Nat) (ht : P.underlying t = some (.slice e)) (hi : P.info? e = some i) (hz : i.zero = some z)
  (hsize : i.size = size) (hby : i.bytes = bytes) (hzs : z.cells.size = size) (hsz : 0 < size)
  (v v' : Value) (n : Nat) (xs : List Value) (hown : w.ownsRow base e size v n xs) (oa : Option Addr) (m c : Nat) (news : List Value) (hl : news.length = m * size)
  (hc : ∀ j u, news[j]? = some u → ∃ b o, oa = some ⟨b, o, none⟩ ∧ w.cell? ⟨b, o + j, none⟩ = some u) (h1 : ∀ u ∈ news, u.oneCell' = true)
  (h63 : n + m ≤ maxLen) (hbytes : (n + m) * bytes ≤ 140737488355328) (hr : (Builtin.append_ #[t, t] ty #[v, .slice oa m c]).run P w = .ok v' w') :
  v'.ownBlock = v.ownBlock ∨ v'.ownBlock = some w.heap.size := by
 have hsmall : n + m ≤ 9223372036854775807 := by simp only [maxLen] at h63; omega
 by_cases hm : news = []
 ·subst hm
  have hm0 : m = 0 := by
   rcases Nat.eq_zero_or_pos m with h | h
   ·exact h
   ·have := Nat.mul_pos h hsz; simp at hl; omega
  subst hm0
  left
  rcases hown.2 with ⟨rfl, rfl⟩ | ⟨g, cap, cur, rfl, _, hg, hnc, hcm, hcs, ht'⟩
  ·cases oa with
   | none =>
    rw [run_append_none0 base t ty e i size ht hi _ _ xs hown c] at hr
    injection hr with hr _; rw [← hr]
   | some a =>
    have : (Builtin.append_ #[t, t] ty #[.slice none 0 0, .slice (some a) 0 c]).run P w = .ok (.slice none 0 0) w := by
     simp [Builtin.append_, run_underlying ht, sizeOf, typeInfo, hi, Builtin.lenOf, Builtin.firstCells, loadCells, loadCellsFrom]
    rw [this] at hr
    injection hr with hr _; rw [← hr]
  ·cases oa with
   | none =>
    rw [run_append_none0 base t ty e i size ht hi _ _ xs hown c] at hr
    injection hr with hr _; rw [← hr]
   | some a =>
    subst hsize
    have := run_append_room (P := P) w t ty e i ht hi g n cap cur hg a 0 c [] (by simp) (by simp) (by simp) (by omega) (by simp; rw [hcs]; exact Nat.mul_le_mul_right _ hnc)
    rw [this] at hr
    injection hr with hr _; rw [← hr]; rfl
 ·obtain ⟨u, r, rfl⟩ : ∃ u r, news = u :: r := by
   cases news with
   | nil => exact absurd rfl hm
   | cons u r => exact ⟨u, r, rfl⟩
  obtain ⟨b, o, e1, _⟩ := hc 0 u rfl
  subst e1
  have hadd : ∀ j, (⟨b, o, none⟩ : Addr).add j = ⟨b, o + j, none⟩ := by intro j; unfold Addr.add; split <;> simp_all
  have hnews : ∀ j x, (u :: r)[j]? = some x → w.cell? ((⟨b, o, none⟩ : Addr).add j) = some x := by
   intro j x hx
   obtain ⟨b', o', e2, h5⟩ := hc j x hx
   injection e2 with e2; injection e2 with e3 e4; subst e3; subst e4
   rw [hadd]; exact h5
  have hmp : 0 < m := by
   rcases Nat.eq_zero_or_pos m with h | h
   ·subst h; simp at hl
   ·exact h
  subst hsize
  subst hby
  rcases hown.2 with ⟨rfl, rfl⟩ | ⟨g, cap, cur, rfl, _, hg, hnc, hcm, hcs, htake⟩
  ·have := run_append_nil (P := P) w t ty e i z ht hi hz ⟨b, o, none⟩ m c (u :: r) hl hnews (by omega) (by omega) (by have hb := hbytes; simp only [Nat.zero_add] at hb; omega)
   rw [this] at hr
   injection hr with hr _; rw [← hr]
   right; rfl
  ·by_cases hroom : n + m ≤ cap
   ·have hfit : n * i.size + (u :: r).length ≤ cur.size := by rw [hl, hcs, ← Nat.add_mul]; exact Nat.mul_le_mul_right _ hroom
    have := run_append_room (P := P) w t ty e i ht hi g n cap cur hg ⟨b, o, none⟩ m c (u :: r) hl hnews h1 hroom hfit
    rw [this] at hr
    injection hr with hr _; rw [← hr]
    left; rfl
   ·have holds : ∀ j x, xs[j]? = some x → w.cell? ((⟨g, 0, none⟩ : Addr).add j) = some x := hown.cells (g := g) rfl
    have := run_append_grow (P := P) w t ty e i z ht hi hz ⟨g, 0, none⟩ n cap xs hown.1 holds ⟨b, o, none⟩ m c (u :: r) hl hnews (by omega) (by omega) (growslice_fits (by omega) hbytes)
    rw [this] at hr
    injection hr with hr _; rw [← hr]
    right; rfl
def intVals (l : List Int) : List Value := l.map fun n => .int .i64 n
theorem intVals_length (l : List Int) : (intVals l).length = l.length := by simp [intVals]
theorem intVals_one (l : List Int) : ∀ u ∈ intVals l, u.oneCell' = true := by
 intro u hu
 obtain ⟨x, _, rfl⟩ := List.mem_map.1 hu
 rfl
def encL (r : Int × Str) : List Value := [.int .i64 r.1, .string ⟨r.2.toArray⟩]
theorem encL_one (k : Int × Str) : ∀ v ∈ encL k, v.oneCell' = true := by intro v hv; simp [encL] at hv; rcases hv with rfl | rfl <;> rfl
structure CmdV where
 dash : Bool
 wa : Option Addr
 wn : Nat
 wc : Nat
def encX (x : CmdV) : List Value := [.bool x.dash, .slice x.wa x.wn x.wc]
theorem encX_one (k : CmdV) : ∀ v ∈ encX k, v.oneCell' = true := by intro v hv; simp [encX] at hv; rcases hv with rfl | rfl <;> rfl
structure CmdAt (w : World) (F : Nat → Prop) (x : CmdV) (c : CmdS) : Prop where
 dash : x.dash = c.1
 wn : x.wn = c.2.length
 row : w.ownsRow 0 9 1 (.slice x.wa x.wn x.wc) x.wn (strVals c.2)
 inF : ∀ g, (Value.slice x.wa x.wn x.wc).ownBlock = some g → F g
def UcAt (w : World) (F : Nat → Prop) : UC → Value → Prop
 | .s x, v => v = .string ⟨x.toArray⟩
 | .n x, v => v = .int .i64 x
 | .b x, v => v = .bool x
 | .ss l, v => w.ownsRow 0 9 1 v l.length (strVals l) ∧ ∀ g, v.ownBlock = some g → F g
 | .ns l, v => w.ownsRow 0 3 1 v l.length (intVals l) ∧ ∀ g, v.ownBlock = some g → F g
 | .rs l, v => w.ownsRow 0 54 2 v l.length (flatL encL l) ∧ ∀ g, v.ownBlock = some g → F g
 | .ps l, v => w.ownsRow 0 58 2 v l.length (flatL encP l) ∧ ∀ g, v.ownBlock = some g → F g
 | .cs l, v => ∃ xs : List CmdV, xs.length = l.length ∧ w.ownsRow 0 56 2 v l.length (flatL encX xs) ∧ (∀ g, v.ownBlock = some g → F g) ∧ ∀ i (h1 : i < xs.length) (h2 : i < l.length), CmdAt w F xs[i] l[i]
theorem own_fr {w w' : World} {B k n : Nat} {e : TypeId} {v : Value} {xs : List Value} {M F : Nat → Prop} (h : w.ownsRow B e k v n xs) (hF : ∀ g, v.ownBlock = some g → F g) (hf : Fr M w w') (hM : ∀ g, F g → ¬ M g) : w'.ownsRow B e k v n xs :=
 ownsRow_fr h hf fun g hg _ => hM g (hF g hg)
theorem CmdAt.fr {w w' : World} {F M : Nat → Prop} {x : CmdV} {c : CmdS} (h : CmdAt w F x c) (hf : Fr M w w') (hM : ∀ g, F g → ¬ M g) : CmdAt w' F x c :=
 ⟨h.dash, h.wn, own_fr h.row h.inF hf hM, h.inF⟩
theorem CmdAt.mono {w : World} {F F' : Nat → Prop} {x : CmdV} {c : CmdS} (h : CmdAt w F x c) (hM : ∀ g, F g → F' g) : CmdAt w F' x c :=
 ⟨h.dash, h.wn, h.row, fun g hg => hM g (h.inF g hg)⟩
theorem UcAt.fr {w w' : World} {F M : Nat → Prop} : ∀ {c : UC} {v : Value}, UcAt w F c v → Fr M w w' → (∀ g, F g → ¬ M g) → UcAt w' F c v
 | .s _, _, h, _, _ => h
 | .n _, _, h, _, _ => h
 | .b _, _, h, _, _ => h
 | .ss _, _, h, hf, hM => ⟨own_fr h.1 h.2 hf hM, h.2⟩
 | .ns _, _, h, hf, hM => ⟨own_fr h.1 h.2 hf hM, h.2⟩
 | .rs _, _, h, hf, hM => ⟨own_fr h.1 h.2 hf hM, h.2⟩
 | .ps _, _, h, hf, hM => ⟨own_fr h.1 h.2 hf hM, h.2⟩
 | .cs _, _, ⟨xs, a, b, c, d⟩, hf, hM => ⟨xs, a, own_fr b c hf hM, c, fun i h1 h2 => (d i h1 h2).fr hf hM⟩
theorem UcAt.mono {w : World} {F F' : Nat → Prop} : ∀ {c : UC} {v : Value}, UcAt w F c v → (∀ g, F g → F' g) → UcAt w F' c v
 | .s _, _, h, _ => h
 | .n _, _, h, _ => h
 | .b _, _, h, _ => h
 | .ss _, _, h, hM => ⟨h.1, fun g hg => hM g (h.2 g hg)⟩
 | .ns _, _, h, hM => ⟨h.1, fun g hg => hM g (h.2 g hg)⟩
 | .rs _, _, h, hM => ⟨h.1, fun g hg => hM g (h.2 g hg)⟩
 | .ps _, _, h, hM => ⟨h.1, fun g hg => hM g (h.2 g hg)⟩
 | .cs _, _, ⟨xs, a, b, c, d⟩, hM => ⟨xs, a, b, fun g hg => hM g (c g hg), fun i h1 h2 => (d i h1 h2).mono hM⟩
structure UnitOwn (w : World) (U : Nat) (cs : Array Value) (F : Nat → Nat → Prop) (u : UV) : Prop where
 box : w.heap[U]? = some (.cells cs 30 (0, 0))
 size : cs.size = 35
 fld : ∀ j v, cs[j]? = some v → UcAt w (F j) (u j) v
 apart : ∀ i j k, F i k → F j k → i = j
 notU : ∀ j, ¬ F j U
 lt : ∀ j k, F j k → U < k ∧ k < w.heap.size
def PutAt (w w' : World) (U : Nat) (cs : Array Value) (j : Nat) (Fj : Nat → Prop) (c : UC) : Prop :=
 ∃ v F', w'.heap[U]? = some (.cells (cs.setIfInBounds j v) 30 (0, 0)) ∧ UcAt w' F' c v ∧ Fr (fun k => k = U ∨ Fj k) w w' ∧ ∀ k, F' k → (Fj k ∨ w.heap.size ≤ k) ∧ k < w'.heap.size
theorem UnitOwn.put {w w' : World} {U : Nat} {cs : Array Value} {F : Nat → Nat → Prop} {u : UV} {j : Nat} {c : UC} (h : UnitOwn w U cs F u) (hj : j < 35) (hp : PutAt w w' U cs j (F j) c) :
  ∃ cs' F', UnitOwn w' U cs' F' (u.upd j c) ∧ Fr (fun k => k = U ∨ U < k) w w' ∧ cs'[0]? = (if j = 0 then cs'[0]? else cs[0]?) ∧ cs'[1]? = (if j = 1 then cs'[1]? else cs[1]?) := by
 obtain ⟨v, Fj, h1, h2, h3, h4⟩ := hp
 have hU := lt_heap h.box
 refine ⟨cs.setIfInBounds j v, fun i => if i = j then Fj else F i, ⟨h1, by simp [h.size], ?_, ?_, ?_, ?_⟩, ?_, ?_, ?_⟩
 ·intro i x hx
  by_cases e : i = j
  ·subst e
   rw [Array.getElem?_setIfInBounds_self_of_lt (by rw [h.size]; exact hj)] at hx
   injection hx with hx
   subst hx
   rw [UV.upd_at, if_pos rfl]
   exact h2
  ·rw [Array.getElem?_setIfInBounds_ne (fun x => e x.symm)] at hx
   rw [UV.upd_ne _ _ e, if_neg e]
   refine (h.fld i x hx).fr h3 ?_
   rintro g hg (rfl | hg2)
   ·exact h.notU i hg
   ·exact e (h.apart i j g hg hg2)
 ·intro i k q hi hk
  by_cases e1 : i = j
  ·subst e1
   by_cases e2 : k = i
   ·exact e2.symm
   ·rw [if_pos rfl] at hi
    rw [if_neg e2] at hk
    rcases (h4 q hi).1 with h5 | h5
    ·exact h.apart i k q h5 hk
    ·have := (h.lt k q hk).2; omega
  ·rw [if_neg e1] at hi
   by_cases e2 : k = j
   ·subst e2
    rw [if_pos rfl] at hk
    rcases (h4 q hk).1 with h5 | h5
    ·exact h.apart i k q hi h5
    ·have := (h.lt i q hi).2; omega
   ·rw [if_neg e2] at hk
    exact h.apart i k q hi hk
 ·intro i hi
  by_cases e1 : i = j
  ·subst e1
   rw [if_pos rfl] at hi
   rcases (h4 U hi).1 with h5 | h5
   ·exact h.notU i h5
   ·omega
  ·rw [if_neg e1] at hi
   exact h.notU i hi
 ·intro i k hk
  by_cases e1 : i = j
  ·subst e1
   rw [if_pos rfl] at hk
   refine ⟨?_, (h4 k hk).2⟩
   rcases (h4 k hk).1 with h5 | h5
   ·exact (h.lt i k h5).1
   ·omega
  ·rw [if_neg e1] at hk
   exact ⟨(h.lt i k hk).1, Nat.lt_of_lt_of_le (h.lt i k hk).2 h3.size⟩
 ·refine h3.mono ?_
  rintro k hk (rfl | h5)
  ·exact .inl rfl
  ·exact .inr (h.lt j k h5).1
 ·by_cases e : j = 0
  ·rw [if_pos e]
  ·rw [if_neg e, Array.getElem?_setIfInBounds_ne e]
 ·by_cases e : j = 1
  ·rw [if_pos e]
  ·rw [if_neg e, Array.getElem?_setIfInBounds_ne e]
theorem UnitOwn.fr {w w' : World} {U : Nat} {cs : Array Value} {F : Nat → Nat → Prop} {u : UV} {M : Nat → Prop} (h : UnitOwn w U cs F u) (hf : Fr M w w') (hU : ¬ M U) (hM : ∀ j k, F j k → ¬ M k) : UnitOwn w' U cs F u :=
 ⟨hf.heap h.box hU, h.size, fun j v hv => (h.fld j v hv).fr hf (hM j), h.apart, h.notU, fun j k hk => ⟨(h.lt j k hk).1, Nat.lt_of_lt_of_le (h.lt j k hk).2 hf.size⟩⟩
theorem UnitOwn.below {w w' : World} {U : Nat} {cs : Array Value} {F : Nat → Nat → Prop} {u : UV} (h : UnitOwn w U cs F u) (hb : Below w.heap.size w w') : UnitOwn w' U cs F u :=
 h.fr (M := fun _ => False) (Fr.of_below hb _) (fun e => e) (fun _ _ _ e => e)
theorem PutAt.below {w w1 w' : World} {U : Nat} {cs : Array Value} {j : Nat} {Fj : Nat → Prop} {c : UC} (hb : Below w.heap.size w w1) (h : PutAt w1 w' U cs j Fj c) : PutAt w w' U cs j Fj c := by
 obtain ⟨v, F', h1, h2, h3, h4⟩ := h
 refine ⟨v, F', h1, h2, (Fr.of_below hb _).trans h3, fun k hk => ⟨(h4 k hk).1.imp id (fun h => Nat.le_trans hb.size h), (h4 k hk).2⟩⟩
theorem PutAt.after {w w1 w' : World} {U : Nat} {cs : Array Value} {j : Nat} {Fj : Nat → Prop} {c : UC} (h : PutAt w w1 U cs j Fj c) (hb : Below w1.heap.size w1 w') : PutAt w w' U cs j Fj c := by
 obtain ⟨v, F', h1, h2, h3, h4⟩ := h
 refine ⟨v, F', heap_below h1 hb, h2.fr (M := fun _ => False) (Fr.of_below hb _) (fun _ _ e => e), h3.trans (Fr.of_below hb _), fun k hk => ⟨(h4 k hk).1, Nat.lt_of_lt_of_le (h4 k hk).2 hb.size⟩⟩
theorem eqR2 (x y : Int × Str) (w : World) : (Op.equalIn 10000 54 (.agg #[.int .i64 x.1, .string ⟨x.2.toArray⟩]) (.agg #[.int .i64 y.1, .string ⟨y.2.toArray⟩])).run Tryz.prog w = .ok (decide (x = y)) w := by
 have u3 := Tryz.underlying3
 have u9 := Tryz.underlying9
 have a3 := Tryz.isAgg3
 have z3 := Tryz.sizeOf3
 have a9 := Tryz.isAgg9
 have z9 := Tryz.sizeOf9
 have hS : Tryz.prog.underlying 54 = some (.struct (Tryz.prog.fieldsOf 54)) := by kernel_rfl
 have hp : Tryz.prog.stoodInHeld 54 = false := by kernel_rfl
 rw [show (10000 : Nat) = 9999 + 1 from rfl, run_equalIn_agg w 9999 54 _ _ hS hp]
 simp only [Program.fieldsOf, Tryz.underlying54]
 go_simp
 obtain ⟨x1, x2⟩ := x
 obtain ⟨y1, y2⟩ := y
 by_cases h1 : x1 = y1 <;> by_cases h2 : x2 = y2 <;> simp [h1, h2]
theorem run_eql_R2 (x y : Int × Str) (b : Bool) (h : decide (x = y) = b) (w : World) : (binOp .eql 54 (.agg #[.int .i64 x.1, .string ⟨x.2.toArray⟩]) (.agg #[.int .i64 y.1, .string ⟨y.2.toArray⟩])).run Tryz.prog w = .ok (.bool b) w := by
 rw [run_eql_struct, eqR2, h]; rfl
theorem run_neq_R2 (x y : Int × Str) (b : Bool) (h : decide (x = y) = b) (w : World) : (binOp .neq 54 (.agg #[.int .i64 x.1, .string ⟨x.2.toArray⟩]) (.agg #[.int .i64 y.1, .string ⟨y.2.toArray⟩])).run Tryz.prog w = .ok (.bool !b) w := by
 rw [run_neq_struct, eqR2, h]; rfl
theorem guardR2 : Tryz.prog.eqGuardType Tryz.prog.depth 54 = false := by kernel_rfl
theorem run_guard_R2 (op : BinOp) (x y : Operand) (xs ys : Array Value) (w : World) : (eqGuard op 54 x y (.agg xs) (.agg ys)).run Tryz.prog w = .ok () w := run_eqGuard_agg w op _ x y xs ys guardR2
def IdxTo2 (w : World) (b : Bool) (e : Ending) (w' : World) : Prop := ∃ i : Int, e = .returned (.int .i64 i) ∧ decide (0 ≤ i) = b ∧ Below w.heap.size w w'
set_option maxHeartbeats 1000000 in
theorem indexR_any2 (v : Value) (l : List (Int × Str)) (x : Int × Str) (w : World) (hr : RowArg encL 2 w v l) (hl : l.length < 4611686018427387904) (b : Bool) (hb : l.contains x = b) :
  Calls Tryz.prog 183 #[v, .agg #[.int .i64 x.1, .string ⟨x.2.toArray⟩]] w fun e w' => IdxTo2 w b e w' := by
 obtain ⟨oa, cap, rfl, hrow⟩ := hr.ex
 have HB0 := h_ ((Below.refl w.heap.size w).alloc (Nat.le_refl _) (.cells #[.int .i64 x.1, .string ⟨x.2.toArray⟩] 54))
 have HX := h_ (heap_alloc_new w (.cells #[.int .i64 x.1, .string ⟨x.2.toArray⟩] 54))
 have HR := h_ hrow
 have HC := h_ hb
 clear hr hrow hb
 go_enter Tryz.func183, Tryz.ntmps183
 go_wp2_with fail
 generalize w.alloc (.cells #[.int .i64 x.1, .string ⟨x.2.toArray⟩] 54) = w1 at *
 go_loopg [8] (l.length + 1) (fun f i wr => ∃ k : Nat, k ≤ l.length ∧ i = .int .i64 k ∧ l.length - k < f ∧ Hid ((l.take k).contains x = false) ∧ ∃ n, wr = w1.drewN n)
 case atStart => exact ⟨0, by omega, rfl, by omega, h_ (by simp), 0, rfl⟩
 case round =>
  obtain ⟨k, hk, rfl, hf, Hno, n, rfl⟩ := hrel
  by_cases hlt : k < l.length
  ·obtain ⟨b1, o1, rfl, hlt1, hcc⟩ := (HR.out.below HB0.out) k hlt
   obtain ⟨y, hy⟩ : ∃ y, y = l[k] := ⟨_, rfl⟩
   rw [← hy] at hcc
   have d0 := hcc 0 _ rfl; have d1 := hcc 1 _ rfl
   simp only [Nat.add_zero] at d0
   obtain ⟨cc, -, -, -⟩ := rd HX.out
   have c0 := cc 0; have c1 := cc 1
   simp only [List.getElem?_toArray, List.getElem?_cons_zero, List.getElem?_cons_succ] at c0 c1
   have i5 : (k : Int) < (l.length : Int) := by omega
   have hgd := run_guard_R2
   cases hq : decide (x = y) with
   | true =>
    have hrun := run_eql_R2 x y true hq
    have HT := h_ (show b = true by
     rw [← HC.out, List.contains_iff_mem, of_decide_eq_true hq, hy]; exact List.getElem_mem _)
    have HB1 := h_ (fun n => HB0.out.trans (below_dn (B := w.heap.size) (a := w1) (b := w1.drewN n) ⟨n, rfl⟩))
    clear hq hy hcc cc
    go_wp2_with fail
    go_quiet (fail)
    go_wp2_with fail
    go_ret
    exact ⟨_, rfl, by rw [HT.out]; simp, by first | exact HB1.out _ | (rw [dn2]; exact HB1.out _)⟩
   | false =>
    have hrun := run_eql_R2 x y false hq
    have HN := h_ (show (l.take (k + 1)).contains x = false by
     rw [List.take_succ_eq_append_getElem hlt, List.contains_append, Hno.out, ← hy]
     simp
     exact of_decide_eq_false hq)
    clear hq hy hcc cc
    go_wp2_with fail
    go_quiet (fail)
    go_wp2_with fail
    go_roundg (l.length - k)
    case measure => omega
    case rel => exact ⟨k + 1, by omega, by go_num, by omega, HN, by first | exact dn0 _ | exact dn_trans (dn _ _) | exact dn _ _⟩
  ·have HT := h_ (show b = false by
    have := Hno.out
    rw [List.take_of_length_le (by omega)] at this
    rw [← HC.out, this])
   have HB1 := h_ (HB0.out.trans (below_dn (B := w.heap.size) (a := w1) (b := w1.drewN n) ⟨n, rfl⟩))
   go_wp2_with fail
   go_ret
   exact ⟨_, rfl, by rw [HT.out]; rfl, HB1.out⟩
theorem containsR_any2 (v : Value) (l : List (Int × Str)) (x : Int × Str) (w : World) (hr : RowArg encL 2 w v l) (hl : l.length < 4611686018427387904) (b : Bool) (hb : l.contains x = b) :
  Calls Tryz.prog 146 #[v, .agg #[.int .i64 x.1, .string ⟨x.2.toArray⟩]] w fun e w' => e = .returned (.bool b) ∧ Below w.heap.size w w' := by
 have hB := (Below.refl w.heap.size w).alloc (Nat.le_refl _) (.cells #[.int .i64 x.1, .string ⟨x.2.toArray⟩] 54)
 have HI := h_ (indexR_any2 v l x _ (hr.below hB) hl b hb)
 have HB := h_ hB
 obtain ⟨cc, -, -, -⟩ := rd (heap_alloc_new w (.cells #[.int .i64 x.1, .string ⟨x.2.toArray⟩] 54))
 have c0 := cc 0; have c1 := cc 1
 simp only [List.getElem?_toArray, List.getElem?_cons_zero, List.getElem?_cons_succ] at c0 c1
 obtain ⟨oa, cap, rfl, -⟩ := hr.ex
 clear cc hb hB hr
 go_enter Tryz.func146, Tryz.ntmps146
 go_wp2_with fail
 refine HI.out.mono ?_
 rintro e w' ⟨i, rfl, hi, hb1⟩
 have H2 := h_ (HB.out.trans (hb1.mono HB.out.size))
 clear hb1
 go_wp2_with fail
 go_ret
 exact ⟨by first | rfl | (rw [← hi]; rfl), H2.out⟩
def unitZero : Array Value := #[.string ⟨#[]⟩, .int .i64 0, .string ⟨#[]⟩, .bool false, .slice none 0 0, .int .i64 0, .int .i64 0, .int .i64 0, .slice none 0 0, .slice none 0 0, .slice none 0 0, .slice none 0 0, .slice none 0 0, .bool false, .int .i64 0, .int .i64 0, .int .i64 0, .int .i64 0, .slice none 0 0, .slice none 0 0, .slice none 0 0, .slice none 0 0, .int .i64 0, .string ⟨#[]⟩, .string ⟨#[]⟩, .slice none 0 0, .slice none 0 0, .slice none 0 0, .slice none 0 0, .bool false, .slice none 0 0, .slice none 0 0, .slice none 0 0, .slice none 0 0, .string ⟨#[]⟩]
def newK (s : Str) (k : Int) : Array Value := #[.string ⟨s.toArray⟩, .int .i64 k, .string ⟨#[]⟩, .bool true, .slice none 0 0, .int .i64 10, .int .i64 5, .int .i64 0, .slice none 0 0, .slice none 0 0, .slice none 0 0, .slice none 0 0, .slice none 0 0, .bool false, .int .i64 0, .int .i64 0, .int .i64 0, .int .i64 0, .slice none 0 0, .slice none 0 0, .slice none 0 0, .slice none 0 0, .int .i64 0, .string ⟨#[]⟩, .string ⟨#[]⟩, .slice none 0 0, .slice none 0 0, .slice none 0 0, .slice none 0 0, .bool false, .slice none 0 0, .slice none 0 0, .slice none 0 0, .slice none 0 0, .string ⟨#[]⟩]
def newK1 (s : Str) : Array Value := #[.string ⟨s.toArray⟩, .int .i64 1, .string ⟨#[]⟩, .bool true, .slice none 0 0, .int .i64 10, .int .i64 5, .int .i64 1, .slice none 0 0, .slice none 0 0, .slice none 0 0, .slice none 0 0, .slice none 0 0, .bool false, .int .i64 1, .int .i64 0, .int .i64 90, .int .i64 90, .slice none 0 0, .slice none 0 0, .slice none 0 0, .slice none 0 0, .int .i64 0, .string ⟨#[]⟩, .string ⟨#[]⟩, .slice none 0 0, .slice none 0 0, .slice none 0 0, .slice none 0 0, .bool false, .slice none 0 0, .slice none 0 0, .slice none 0 0, .slice none 0 0, .string ⟨#[]⟩]
def newK2 (s : Str) : Array Value := #[.string ⟨s.toArray⟩, .int .i64 2, .string ⟨#[]⟩, .bool true, .slice none 0 0, .int .i64 10, .int .i64 5, .int .i64 0, .slice none 0 0, .slice none 0 0, .slice none 0 0, .slice none 0 0, .slice none 0 0, .bool false, .int .i64 0, .int .i64 0, .int .i64 0, .int .i64 0, .slice none 0 0, .slice none 0 0, .slice none 0 0, .slice none 0 0, .int .i64 16, .string ⟨#[]⟩, .string ⟨#[]⟩, .slice none 0 0, .slice none 0 0, .slice none 0 0, .slice none 0 0, .bool false, .slice none 0 0, .slice none 0 0, .slice none 0 0, .slice none 0 0, .string ⟨#[]⟩]
def valC : UC → Value
 | .s x => .string ⟨x.toArray⟩
 | .n x => .int .i64 x
 | .b x => .bool x
 | _ => .slice none 0 0
def valsU (u : UV) : Array Value := ((List.range 35).map fun j => valC (u j)).toArray
theorem valC_at (w : World) (c : UC) (h : c.len = 0) : UcAt w (fun _ => False) c (valC c) := by
 have hn : ∀ g, (Value.slice none 0 0).ownBlock = some g → False := fun g hg => by simp [Value.ownBlock] at hg
 cases c with
 | s x => rfl
 | n x => rfl
 | b x => rfl
 | ss l => obtain rfl : l = [] := List.eq_nil_of_length_eq_zero h; exact ⟨World.ownsRow_nil _ _ _ _, hn⟩
 | ns l => obtain rfl : l = [] := List.eq_nil_of_length_eq_zero h; exact ⟨World.ownsRow_nil _ _ _ _, hn⟩
 | rs l => obtain rfl : l = [] := List.eq_nil_of_length_eq_zero h; exact ⟨World.ownsRow_nil _ _ _ _, hn⟩
 | ps l => obtain rfl : l = [] := List.eq_nil_of_length_eq_zero h; exact ⟨World.ownsRow_nil _ _ _ _, hn⟩
 | cs l => obtain rfl : l = [] := List.eq_nil_of_length_eq_zero h; exact ⟨[], rfl, World.ownsRow_nil _ _ _ _, hn, fun i h1 h2 => absurd h1 (by simp)⟩
theorem vals_zero : valsU zeroU = unitZero := rfl
theorem new0_eq (s : Str) (h : kindS s = 0) : valsU (newU s) = unitZero := by unfold newU; rw [if_pos h]; rfl
theorem newKb_eq (s : Str) (k : Nat) (h : kindS s = k) (h0 : k ≠ 0) (h1 : k ≠ 1) (h2 : k ≠ 2) : valsU (newU s) = newK s k := by
 unfold newU; rw [h, if_neg h0]; simp only; rw [if_neg h1, if_neg h2]; rfl
theorem newK1_eq (s : Str) (h : kindS s = 1) : valsU (newU s) = newK1 s := by
 unfold newU; rw [h, if_neg (by decide)]; simp only; rw [if_pos (by decide)]; rfl
theorem newK2_eq (s : Str) (h : kindS s = 2) : valsU (newU s) = newK2 s := by
 unfold newU; rw [h, if_neg (by decide)]; simp only; rw [if_neg (by decide), if_pos (by decide)]; rfl
theorem run_alloc_unit (w : World) : (Instr.alloc 30 true (.tuple #[])).run Tryz.prog w = .ok (.pointer (some ⟨w.heap.size, 0, none⟩)) (w.alloc (.cells unitZero 30)) := rfl
theorem build_new (s : Str) (k : Int) (w : World) : (Instr.build 30 #[(0, .string ⟨s.toArray⟩), (1, .int .i64 k), (3, .bool true), (5, .int .i64 10), (6, .int .i64 5)]).run Tryz.prog w = .ok (.agg (newK s k)) w :=
 run_build w _ _ _ rfl
theorem build_zero (w : World) : (Instr.build 30 #[]).run Tryz.prog w = .ok (.agg unitZero) w := run_build w _ _ _ rfl
theorem one_zero : (unitZero.all fun x => x.oneCell') = true := by rw [← Array.all_toList]; rfl
theorem one_newK (s : Str) (k : Int) : ((newK s k).all fun x => x.oneCell') = true := by rw [← Array.all_toList]; rfl
theorem one_newK1 (s : Str) : ((newK1 s).all fun x => x.oneCell') = true := by rw [← Array.all_toList]; rfl
theorem one_newK2 (s : Str) : ((newK2 s).all fun x => x.oneCell') = true := by rw [← Array.all_toList]; rfl
set_option maxHeartbeats 4000000 in
theorem new_0 (s : Str) (w : World) (hs : s.length < 4294967281) (hm : MaxAt w) (hk : kindS s = 0) :
  Calls Tryz.prog 17 #[.string ⟨s.toArray⟩] w fun e w' => e = .returned (.agg (valsU (newU s))) ∧ Below w.heap.size w w' := by
 rw [new0_eq s hk]
 have HK := h_ (fun w' (h : Below w.heap.size w w') => show Calls Tryz.prog 39 #[.string ⟨s.toArray⟩] w' fun e w'' => e = .returned (.int .i64 0) ∧ Below w'.heap.size w' w'' from kind_any ⟨s.toArray⟩ w' (by show s.toArray.size < _; simpa using hs) (hm.below h) 0 hk)
 have HB := h_ (build_new s 0)
 clear hk
 have Z0 := h_ (one_newK s 0)
 have Z1 := h_ one_zero
 go_enter Tryz.func17, Tryz.ntmps17
 go_wp2_with (refine l_alloc rfl _ unitZero rfl (run_alloc_unit _) ?_; intro w1 h1 hb1)
 refine (HK.out _ hb1).mono ?_
 rintro e w2 ⟨rfl, hb2⟩
 have hb12 := h_ (Below.more hb1 hb2)
 have h1' := h_ ((hb2.block _ (lt_heap h1)).trans h1)
 have hl1 : w.heap.size < w2.heap.size := lt_heap h1'.out
 have hz2 : ∀ w3 w4 : World, w3.heap[w2.heap.size]? = some (.cells unitZero 30 (0, 0)) → Below w2.heap.size w2 w3 → Fr (fun x => x = w2.heap.size) w3 w4 → w4.heap[w.heap.size]? = some (.cells unitZero 30 (0, 0)) ∧ Below w.heap.size w w4 := by
  intro w3 w4 h3 hb3 hf4
  have hne : w.heap.size ≠ w2.heap.size := by omega
  have e3 := (hb3.block _ hl1).trans h1'.out
  have e4 : w4.heap[w.heap.size]? = _ := (hf4.block _ (lt_heap e3) hne).trans e3
  refine ⟨e4, ?_⟩
  refine hb12.out.trans ?_
  exact (hb3.mono (by omega)).trans (hf4.below _ (Nat.le_of_lt (Nat.lt_of_lt_of_le hl1 hb3.size)) (fun k hk e => by omega))
 replace hz2 := h_ hz2
 have HZ := h_ (show (newK s 0).size = 35 from rfl)
 clear hb1 hb2 h1
 go_wp2_with (first
  | (refine l_build rfl _ #[] #[] _ rfl (by simp) (build_zero _) ?_)
  | (refine l_build rfl _ _ #[(0, .string ⟨s.toArray⟩), (1, .int .i64 0), (3, .bool true), (5, .int .i64 10), (6, .int .i64 5)] _ rfl (by (simp [Act.eval]; done)) (HB.out _) ?_)
  | (refine l_alloc rfl _ unitZero rfl (run_alloc_unit _) ?_; intro w3 h3 hb3)
  | (refine l_store rfl 30 _ _ w2.heap.size (newK s 0) unitZero 30 rfl rfl rfl h3 rfl rfl Z0.out ?_; intro w4 h4 hf4; have hc1 : w4.cell? ⟨w2.heap.size, 1, none⟩ = some (.int .i64 0) := (rd h4).1 1)
  | (refine l_store_int rfl 3 _ _ w2.heap.size _ .i64 _ _ _ rfl rfl rfl h4 (by simp [HZ.out]) _ rfl rfl ?_; intro w5 h5 hf5; replace h4 := h5; replace hf4 := hf4.trans hf5)
  | (refine l_load rfl 30 _ w2.heap.size _ 30 _ rfl rfl h4 rfl rfl rfl ?_)
  | (refine l_store rfl 30 _ _ w.heap.size unitZero unitZero 30 rfl rfl rfl (hz2.out _ _ h3 hb3 hf4).1 rfl rfl Z1.out ?_; intro w9 h9 hf9))
 ·have hb := hz2.out _ _ h3 hb3 hf4
  refine post_cell 2 30 w.heap.size _ rfl rfl rfl (loadVar_all 30 _ rfl rfl rfl h9) ⟨rfl, ?_⟩
  exact hb.2.trans (hf9.below _ hb.2.size (fun k hk e => by omega))
set_option maxHeartbeats 4000000 in
theorem new_1 (s : Str) (w : World) (hs : s.length < 4294967281) (hm : MaxAt w) (hk : kindS s = 1) :
  Calls Tryz.prog 17 #[.string ⟨s.toArray⟩] w fun e w' => e = .returned (.agg (valsU (newU s))) ∧ Below w.heap.size w w' := by
 rw [newK1_eq s hk]
 have HK := h_ (fun w' (h : Below w.heap.size w w') => show Calls Tryz.prog 39 #[.string ⟨s.toArray⟩] w' fun e w'' => e = .returned (.int .i64 1) ∧ Below w'.heap.size w' w'' from kind_any ⟨s.toArray⟩ w' (by show s.toArray.size < _; simpa using hs) (hm.below h) 1 hk)
 have HB := h_ (build_new s 1)
 clear hk
 have Z0 := h_ (one_newK s 1)
 have Z1 := h_ (one_newK1 s)
 go_enter Tryz.func17, Tryz.ntmps17
 go_wp2_with (refine l_alloc rfl _ unitZero rfl (run_alloc_unit _) ?_; intro w1 h1 hb1)
 refine (HK.out _ hb1).mono ?_
 rintro e w2 ⟨rfl, hb2⟩
 have hb12 := h_ (Below.more hb1 hb2)
 have h1' := h_ ((hb2.block _ (lt_heap h1)).trans h1)
 have hl1 : w.heap.size < w2.heap.size := lt_heap h1'.out
 have hz2 : ∀ w3 w4 : World, w3.heap[w2.heap.size]? = some (.cells unitZero 30 (0, 0)) → Below w2.heap.size w2 w3 → Fr (fun x => x = w2.heap.size) w3 w4 → w4.heap[w.heap.size]? = some (.cells unitZero 30 (0, 0)) ∧ Below w.heap.size w w4 := by
  intro w3 w4 h3 hb3 hf4
  have hne : w.heap.size ≠ w2.heap.size := by omega
  have e3 := (hb3.block _ hl1).trans h1'.out
  have e4 : w4.heap[w.heap.size]? = _ := (hf4.block _ (lt_heap e3) hne).trans e3
  refine ⟨e4, ?_⟩
  refine hb12.out.trans ?_
  exact (hb3.mono (by omega)).trans (hf4.below _ (Nat.le_of_lt (Nat.lt_of_lt_of_le hl1 hb3.size)) (fun k hk e => by omega))
 replace hz2 := h_ hz2
 have HZ := h_ (show (newK s 1).size = 35 from rfl)
 clear hb1 hb2 h1
 go_wp2_with (first
  | (refine l_build rfl _ #[] #[] _ rfl (by simp) (build_zero _) ?_)
  | (refine l_build rfl _ _ #[(0, .string ⟨s.toArray⟩), (1, .int .i64 1), (3, .bool true), (5, .int .i64 10), (6, .int .i64 5)] _ rfl (by (simp [Act.eval]; done)) (HB.out _) ?_)
  | (refine l_alloc rfl _ unitZero rfl (run_alloc_unit _) ?_; intro w3 h3 hb3)
  | (refine l_store rfl 30 _ _ w2.heap.size (newK s 1) unitZero 30 rfl rfl rfl h3 rfl rfl Z0.out ?_; intro w4 h4 hf4; have hc1 : w4.cell? ⟨w2.heap.size, 1, none⟩ = some (.int .i64 1) := (rd h4).1 1)
  | (refine l_store_int rfl 3 _ _ w2.heap.size _ .i64 _ _ _ rfl rfl rfl h4 (by simp [HZ.out]) _ rfl rfl ?_; intro w5 h5 hf5; replace h4 := h5; replace hf4 := hf4.trans hf5)
  | (refine l_load rfl 30 _ w2.heap.size _ 30 _ rfl rfl h4 rfl rfl rfl ?_)
  | (refine l_store rfl 30 _ _ w.heap.size (newK1 s) unitZero 30 rfl rfl rfl (hz2.out _ _ h3 hb3 hf4).1 rfl rfl Z1.out ?_; intro w9 h9 hf9))
 ·have hb := hz2.out _ _ h3 hb3 hf4
  refine post_cell 2 30 w.heap.size _ rfl rfl rfl (loadVar_all 30 _ rfl rfl rfl h9) ⟨rfl, ?_⟩
  exact hb.2.trans (hf9.below _ hb.2.size (fun k hk e => by omega))
set_option maxHeartbeats 4000000 in
theorem new_2 (s : Str) (w : World) (hs : s.length < 4294967281) (hm : MaxAt w) (hk : kindS s = 2) :
  Calls Tryz.prog 17 #[.string ⟨s.toArray⟩] w fun e w' => e = .returned (.agg (valsU (newU s))) ∧ Below w.heap.size w w' := by
 rw [newK2_eq s hk]
 have HK := h_ (fun w' (h : Below w.heap.size w w') => show Calls Tryz.prog 39 #[.string ⟨s.toArray⟩] w' fun e w'' => e = .returned (.int .i64 2) ∧ Below w'.heap.size w' w'' from kind_any ⟨s.toArray⟩ w' (by show s.toArray.size < _; simpa using hs) (hm.below h) 2 hk)
 have HB := h_ (build_new s 2)
 clear hk
 have Z0 := h_ (one_newK s 2)
 have Z1 := h_ (one_newK2 s)
 go_enter Tryz.func17, Tryz.ntmps17
 go_wp2_with (refine l_alloc rfl _ unitZero rfl (run_alloc_unit _) ?_; intro w1 h1 hb1)
 refine (HK.out _ hb1).mono ?_
 rintro e w2 ⟨rfl, hb2⟩
 have hb12 := h_ (Below.more hb1 hb2)
 have h1' := h_ ((hb2.block _ (lt_heap h1)).trans h1)
 have hl1 : w.heap.size < w2.heap.size := lt_heap h1'.out
 have hz2 : ∀ w3 w4 : World, w3.heap[w2.heap.size]? = some (.cells unitZero 30 (0, 0)) → Below w2.heap.size w2 w3 → Fr (fun x => x = w2.heap.size) w3 w4 → w4.heap[w.heap.size]? = some (.cells unitZero 30 (0, 0)) ∧ Below w.heap.size w w4 := by
  intro w3 w4 h3 hb3 hf4
  have hne : w.heap.size ≠ w2.heap.size := by omega
  have e3 := (hb3.block _ hl1).trans h1'.out
  have e4 : w4.heap[w.heap.size]? = _ := (hf4.block _ (lt_heap e3) hne).trans e3
  refine ⟨e4, ?_⟩
  refine hb12.out.trans ?_
  exact (hb3.mono (by omega)).trans (hf4.below _ (Nat.le_of_lt (Nat.lt_of_lt_of_le hl1 hb3.size)) (fun k hk e => by omega))
 replace hz2 := h_ hz2
 have HZ := h_ (show (newK s 2).size = 35 from rfl)
 clear hb1 hb2 h1
 go_wp2_with (first
  | (refine l_build rfl _ #[] #[] _ rfl (by simp) (build_zero _) ?_)
  | (refine l_build rfl _ _ #[(0, .string ⟨s.toArray⟩), (1, .int .i64 2), (3, .bool true), (5, .int .i64 10), (6, .int .i64 5)] _ rfl (by (simp [Act.eval]; done)) (HB.out _) ?_)
  | (refine l_alloc rfl _ unitZero rfl (run_alloc_unit _) ?_; intro w3 h3 hb3)
  | (refine l_store rfl 30 _ _ w2.heap.size (newK s 2) unitZero 30 rfl rfl rfl h3 rfl rfl Z0.out ?_; intro w4 h4 hf4; have hc1 : w4.cell? ⟨w2.heap.size, 1, none⟩ = some (.int .i64 2) := (rd h4).1 1)
  | (refine l_store_int rfl 3 _ _ w2.heap.size _ .i64 _ _ _ rfl rfl rfl h4 (by simp [HZ.out]) _ rfl rfl ?_; intro w5 h5 hf5; replace h4 := h5; replace hf4 := hf4.trans hf5)
  | (refine l_load rfl 30 _ w2.heap.size _ 30 _ rfl rfl h4 rfl rfl rfl ?_)
  | (refine l_store rfl 30 _ _ w.heap.size (newK2 s) unitZero 30 rfl rfl rfl (hz2.out _ _ h3 hb3 hf4).1 rfl rfl Z1.out ?_; intro w9 h9 hf9))
 ·have hb := hz2.out _ _ h3 hb3 hf4
  refine post_cell 2 30 w.heap.size _ rfl rfl rfl (loadVar_all 30 _ rfl rfl rfl h9) ⟨rfl, ?_⟩
  exact hb.2.trans (hf9.below _ hb.2.size (fun k hk e => by omega))
set_option maxHeartbeats 4000000 in
theorem new_3 (s : Str) (w : World) (hs : s.length < 4294967281) (hm : MaxAt w) (hk : kindS s = 3) :
  Calls Tryz.prog 17 #[.string ⟨s.toArray⟩] w fun e w' => e = .returned (.agg (valsU (newU s))) ∧ Below w.heap.size w w' := by
 rw [newKb_eq s 3 hk (by decide) (by decide) (by decide)]
 have HK := h_ (fun w' (h : Below w.heap.size w w') => show Calls Tryz.prog 39 #[.string ⟨s.toArray⟩] w' fun e w'' => e = .returned (.int .i64 3) ∧ Below w'.heap.size w' w'' from kind_any ⟨s.toArray⟩ w' (by show s.toArray.size < _; simpa using hs) (hm.below h) 3 hk)
 have HB := h_ (build_new s 3)
 clear hk
 have Z0 := h_ (one_newK s 3)
 have Z1 := h_ (one_newK s 3)
 go_enter Tryz.func17, Tryz.ntmps17
 go_wp2_with (refine l_alloc rfl _ unitZero rfl (run_alloc_unit _) ?_; intro w1 h1 hb1)
 refine (HK.out _ hb1).mono ?_
 rintro e w2 ⟨rfl, hb2⟩
 have hb12 := h_ (Below.more hb1 hb2)
 have h1' := h_ ((hb2.block _ (lt_heap h1)).trans h1)
 have hl1 : w.heap.size < w2.heap.size := lt_heap h1'.out
 have hz2 : ∀ w3 w4 : World, w3.heap[w2.heap.size]? = some (.cells unitZero 30 (0, 0)) → Below w2.heap.size w2 w3 → Fr (fun x => x = w2.heap.size) w3 w4 → w4.heap[w.heap.size]? = some (.cells unitZero 30 (0, 0)) ∧ Below w.heap.size w w4 := by
  intro w3 w4 h3 hb3 hf4
  have hne : w.heap.size ≠ w2.heap.size := by omega
  have e3 := (hb3.block _ hl1).trans h1'.out
  have e4 : w4.heap[w.heap.size]? = _ := (hf4.block _ (lt_heap e3) hne).trans e3
  refine ⟨e4, ?_⟩
  refine hb12.out.trans ?_
  exact (hb3.mono (by omega)).trans (hf4.below _ (Nat.le_of_lt (Nat.lt_of_lt_of_le hl1 hb3.size)) (fun k hk e => by omega))
 replace hz2 := h_ hz2
 have HZ := h_ (show (newK s 3).size = 35 from rfl)
 clear hb1 hb2 h1
 go_wp2_with (first
  | (refine l_build rfl _ #[] #[] _ rfl (by simp) (build_zero _) ?_)
  | (refine l_build rfl _ _ #[(0, .string ⟨s.toArray⟩), (1, .int .i64 3), (3, .bool true), (5, .int .i64 10), (6, .int .i64 5)] _ rfl (by (simp [Act.eval]; done)) (HB.out _) ?_)
  | (refine l_alloc rfl _ unitZero rfl (run_alloc_unit _) ?_; intro w3 h3 hb3)
  | (refine l_store rfl 30 _ _ w2.heap.size (newK s 3) unitZero 30 rfl rfl rfl h3 rfl rfl Z0.out ?_; intro w4 h4 hf4; have hc1 : w4.cell? ⟨w2.heap.size, 1, none⟩ = some (.int .i64 3) := (rd h4).1 1)
  | (refine l_store_int rfl 3 _ _ w2.heap.size _ .i64 _ _ _ rfl rfl rfl h4 (by simp [HZ.out]) _ rfl rfl ?_; intro w5 h5 hf5; replace h4 := h5; replace hf4 := hf4.trans hf5)
  | (refine l_load rfl 30 _ w2.heap.size _ 30 _ rfl rfl h4 rfl rfl rfl ?_)
  | (refine l_store rfl 30 _ _ w.heap.size (newK s 3) unitZero 30 rfl rfl rfl (hz2.out _ _ h3 hb3 hf4).1 rfl rfl Z1.out ?_; intro w9 h9 hf9))
 ·have hb := hz2.out _ _ h3 hb3 hf4
  refine post_cell 2 30 w.heap.size _ rfl rfl rfl (loadVar_all 30 _ rfl rfl rfl h9) ⟨rfl, ?_⟩
  exact hb.2.trans (hf9.below _ hb.2.size (fun k hk e => by omega))
set_option maxHeartbeats 4000000 in
theorem new_4 (s : Str) (w : World) (hs : s.length < 4294967281) (hm : MaxAt w) (hk : kindS s = 4) :
  Calls Tryz.prog 17 #[.string ⟨s.toArray⟩] w fun e w' => e = .returned (.agg (valsU (newU s))) ∧ Below w.heap.size w w' := by
 rw [newKb_eq s 4 hk (by decide) (by decide) (by decide)]
 have HK := h_ (fun w' (h : Below w.heap.size w w') => show Calls Tryz.prog 39 #[.string ⟨s.toArray⟩] w' fun e w'' => e = .returned (.int .i64 4) ∧ Below w'.heap.size w' w'' from kind_any ⟨s.toArray⟩ w' (by show s.toArray.size < _; simpa using hs) (hm.below h) 4 hk)
 have HB := h_ (build_new s 4)
 clear hk
 have Z0 := h_ (one_newK s 4)
 have Z1 := h_ (one_newK s 4)
 go_enter Tryz.func17, Tryz.ntmps17
 go_wp2_with (refine l_alloc rfl _ unitZero rfl (run_alloc_unit _) ?_; intro w1 h1 hb1)
 refine (HK.out _ hb1).mono ?_
 rintro e w2 ⟨rfl, hb2⟩
 have hb12 := h_ (Below.more hb1 hb2)
 have h1' := h_ ((hb2.block _ (lt_heap h1)).trans h1)
 have hl1 : w.heap.size < w2.heap.size := lt_heap h1'.out
 have hz2 : ∀ w3 w4 : World, w3.heap[w2.heap.size]? = some (.cells unitZero 30 (0, 0)) → Below w2.heap.size w2 w3 → Fr (fun x => x = w2.heap.size) w3 w4 → w4.heap[w.heap.size]? = some (.cells unitZero 30 (0, 0)) ∧ Below w.heap.size w w4 := by
  intro w3 w4 h3 hb3 hf4
  have hne : w.heap.size ≠ w2.heap.size := by omega
  have e3 := (hb3.block _ hl1).trans h1'.out
  have e4 : w4.heap[w.heap.size]? = _ := (hf4.block _ (lt_heap e3) hne).trans e3
  refine ⟨e4, ?_⟩
  refine hb12.out.trans ?_
  exact (hb3.mono (by omega)).trans (hf4.below _ (Nat.le_of_lt (Nat.lt_of_lt_of_le hl1 hb3.size)) (fun k hk e => by omega))
 replace hz2 := h_ hz2
 have HZ := h_ (show (newK s 4).size = 35 from rfl)
 clear hb1 hb2 h1
 go_wp2_with (first
  | (refine l_build rfl _ #[] #[] _ rfl (by simp) (build_zero _) ?_)
  | (refine l_build rfl _ _ #[(0, .string ⟨s.toArray⟩), (1, .int .i64 4), (3, .bool true), (5, .int .i64 10), (6, .int .i64 5)] _ rfl (by (simp [Act.eval]; done)) (HB.out _) ?_)
  | (refine l_alloc rfl _ unitZero rfl (run_alloc_unit _) ?_; intro w3 h3 hb3)
  | (refine l_store rfl 30 _ _ w2.heap.size (newK s 4) unitZero 30 rfl rfl rfl h3 rfl rfl Z0.out ?_; intro w4 h4 hf4; have hc1 : w4.cell? ⟨w2.heap.size, 1, none⟩ = some (.int .i64 4) := (rd h4).1 1)
  | (refine l_store_int rfl 3 _ _ w2.heap.size _ .i64 _ _ _ rfl rfl rfl h4 (by simp [HZ.out]) _ rfl rfl ?_; intro w5 h5 hf5; replace h4 := h5; replace hf4 := hf4.trans hf5)
  | (refine l_load rfl 30 _ w2.heap.size _ 30 _ rfl rfl h4 rfl rfl rfl ?_)
  | (refine l_store rfl 30 _ _ w.heap.size (newK s 4) unitZero 30 rfl rfl rfl (hz2.out _ _ h3 hb3 hf4).1 rfl rfl Z1.out ?_; intro w9 h9 hf9))
 ·have hb := hz2.out _ _ h3 hb3 hf4
  refine post_cell 2 30 w.heap.size _ rfl rfl rfl (loadVar_all 30 _ rfl rfl rfl h9) ⟨rfl, ?_⟩
  exact hb.2.trans (hf9.below _ hb.2.size (fun k hk e => by omega))
theorem new_any (s : Str) (w : World) (hs : s.length < 4294967281) (hm : MaxAt w) :
  Calls Tryz.prog 17 #[.string ⟨s.toArray⟩] w fun e w' => e = .returned (.agg (valsU (newU s))) ∧ Below w.heap.size w w' := by
 have h4 := kindS_le s
 obtain h | h | h | h | h : kindS s = 0 ∨ kindS s = 1 ∨ kindS s = 2 ∨ kindS s = 3 ∨ kindS s = 4 := by omega
 ·exact new_0 s w hs hm h
 ·exact new_1 s w hs hm h
 ·exact new_2 s w hs hm h
 ·exact new_3 s w hs hm h
 ·exact new_4 s w hs hm h
theorem valsU_own {w : World} {U : Nat} (u : UV) (h : ∀ j, (u j).len = 0) (hb : w.heap[U]? = some (.cells (valsU u) 30 (0, 0))) : UnitOwn w U (valsU u) (fun _ _ => False) u := by
 refine ⟨hb, by simp [valsU], fun j v hv => ?_, fun _ _ _ e => e.elim, fun _ e => e, fun _ _ e => e.elim⟩
 have hj : j < 35 := by have := (Array.getElem?_eq_some_iff.1 hv).1; simpa [valsU] using this
 have : v = valC (u j) := by
  simp only [valsU, List.getElem?_toArray, List.getElem?_map, List.getElem?_range hj, Option.map_some] at hv
  injection hv with hv; exact hv.symm
 rw [this]
 exact valC_at w _ (h j)
theorem zeroU_len (j : Nat) : (zeroU j).len = 0 := by
 unfold zeroU
 repeat' split
 all_goals rfl
theorem newU_len (s : Str) (j : Nat) : (newU s j).len = 0 := by
 have hu : ∀ (u : UV) (i : Nat) (c : UC), (∀ j, (u j).len = 0) → c.len = 0 → ∀ j, ((u.upd i c) j).len = 0 := fun u i c h1 h2 j => by
  unfold UV.upd; split
  ·exact h2
  ·exact h1 j
 unfold newU
 split
 ·exact zeroU_len j
 ·simp only
  split
  ·exact hu _ _ _ (hu _ _ _ (hu _ _ _ (hu _ _ _ (hu _ _ _ (hu _ _ _ (hu _ _ _ (hu _ _ _ (hu _ _ _ zeroU_len rfl) rfl) rfl) rfl) rfl) rfl) rfl) rfl) rfl j
  ·split
   ·exact hu _ _ _ (hu _ _ _ (hu _ _ _ (hu _ _ _ (hu _ _ _ (hu _ _ _ zeroU_len rfl) rfl) rfl) rfl) rfl) rfl j
   ·exact hu _ _ _ (hu _ _ _ (hu _ _ _ (hu _ _ _ (hu _ _ _ zeroU_len rfl) rfl) rfl) rfl) rfl j
end Go.Proofs.YtdjkedcpehhmnaaGreatDoor
