import Derived.Test.YtdjkedcpehhmnaaGreatDoorUS4
import Derived.Test.YtdjkedcpehhmnaaGreatDoorUS41
import Derived.Test.YtdjkedcpehhmnaaGreatDoorUS48
namespace Go.Proofs.YtdjkedcpehhmnaaGreatDoor
open Go Go.RowKit
set_option linter.unusedVariables false
set_option linter.unusedSimpArgs false
set_option maxRecDepth 100000
section
variable {P : Program} {ops : Array Oper} {Q : Exit → Act → World → Prop}
structure InvAt (ops : Array Oper) (a0 : Act) (Ψ : (Nat → Bool) → (Nat → Value) → World → Prop) (D : Nat → Bool) (V : Nat → Value) (a : Act) (w : World) : Prop where
 tsz : a.tmps.size = a0.tmps.size
 dfr : a.defers = a0.defers
 out : ∀ k, (∀ (i : Nat) (o : Oper), ops[i]? = some o → o.dst ≠ some k) → a.tmps[k]? = a0.tmps[k]?
 slot : ∀ (i : Nat) (o : Oper) (d : Nat), ops[i]? = some o → o.dst = some d → D i = true → a.tmps[d]? = some (V i)
 inv : Ψ D V w
end
def rowTys : List TypeId := [9, 3, 54, 58, 56]
theorem own_typed {w : World} {B e k n : Nat} {v : Value} {xs : List Value} (h : w.ownsRow B e k v n xs) (g : Nat) (hg : v.ownBlock = some g) : ∃ cur, w.heap[g]? = some (.cells cur e (0, 0)) := by
 rcases h.2 with ⟨rfl, _⟩ | ⟨g', cap, cur, rfl, _, h3, _⟩
 ·cases hg
 ·injection hg with hg
  exact ⟨cur, by rw [← hg]; exact h3⟩
theorem UcAt.typed {w : World} {F : Nat → Prop} : ∀ {c : UC} {v : Value}, UcAt w F c v → UcAt w (fun g => ∃ cur e, w.heap[g]? = some (.cells cur e (0, 0)) ∧ e ∈ rowTys) c v
 | .s _, _, h => h
 | .n _, _, h => h
 | .b _, _, h => h
 | .ss l, v, h => ⟨h.1, fun g hg => let ⟨cur, e⟩ := own_typed h.1 g hg; ⟨cur, _, e, by decide⟩⟩
 | .ns l, v, h => ⟨h.1, fun g hg => let ⟨cur, e⟩ := own_typed h.1 g hg; ⟨cur, _, e, by decide⟩⟩
 | .rs l, v, h => ⟨h.1, fun g hg => let ⟨cur, e⟩ := own_typed h.1 g hg; ⟨cur, _, e, by decide⟩⟩
 | .ps l, v, h => ⟨h.1, fun g hg => let ⟨cur, e⟩ := own_typed h.1 g hg; ⟨cur, _, e, by decide⟩⟩
 | .cs l, v, h => by
  obtain ⟨xs, a, b, c, d⟩ := h
  refine ⟨xs, a, b, fun g hg => let ⟨cur, e⟩ := own_typed b g hg; ⟨cur, _, e, by decide⟩, fun i h1 h2 => ?_⟩
  have q := d i h1 h2
  exact ⟨q.dash, q.wn, q.row, fun g hg => let ⟨cur, e⟩ := own_typed q.row g hg; ⟨cur, _, e, by decide⟩⟩
theorem oper_val {P : Program} {K : Act → World → Prop} {Q : Exit → Act → World → Prop} {a : Act} {w w' : World} {o : Oper} (v : Value) (hr : (execOp a.eval o).run P w = .ok (.value v) w') (h : K (a.put o.dst v) w') : Oper.wp P o a w K Q := by
 unfold Oper.wp
 rw [hr, Oper.upon_value]
 exact h
theorem InvAt.at {ops : Array Oper} {a0 : Act} {Ψ : (Nat → Bool) → (Nat → Value) → World → Prop} {D : Nat → Bool} {V : Nat → Value} {a : Act} {w : World} (h : InvAt ops a0 Ψ D V a w) (k : Nat) (hk : (ops.all fun o => !(o.dst == some k)) = true) : a.tmps[k]? = a0.tmps[k]? := by
 refine h.out k fun i o ho e => ?_
 rw [Array.all_eq_true] at hk
 obtain ⟨hi, he⟩ := Array.getElem?_eq_some_iff.1 ho
 have := hk i hi
 rw [he, e] at this
 simp at this
theorem foldl_set {f : Nat → Value} : ∀ (L : List Nat) (t : Array Value), (L.foldl (fun t k => t.setIfInBounds k (f k)) t).size = t.size ∧ ∀ k, (L.foldl (fun t k => t.setIfInBounds k (f k)) t)[k]? = if k ∈ L ∧ k < t.size then some (f k) else t[k]?
 | [], t => ⟨rfl, fun k => by simp⟩
 | x :: L, t => by
  obtain ⟨h1, h2⟩ := foldl_set (f := f) L (t.setIfInBounds x (f x))
  refine ⟨by rw [List.foldl_cons, h1]; simp, fun k => ?_⟩
  rw [List.foldl_cons, h2 k]
  simp only [Array.size_setIfInBounds]
  by_cases hk : k ∈ L ∧ k < t.size
  ·rw [if_pos hk, if_pos ⟨List.mem_cons_of_mem _ hk.1, hk.2⟩]
  ·rw [if_neg hk]
   by_cases hx : k = x
   ·subst hx
    by_cases hl : k < t.size
    ·rw [if_pos ⟨by simp, hl⟩, Array.getElem?_setIfInBounds_self_of_lt hl]
    ·rw [if_neg (fun h => hl h.2), Array.getElem?_eq_none (by simp; omega), Array.getElem?_eq_none (by omega)]
   ·rw [Array.getElem?_setIfInBounds_ne (Ne.symm hx)]
    by_cases hm : k ∈ x :: L ∧ k < t.size
    ·exact absurd ⟨(List.mem_cons.1 hm.1).resolve_left hx, hm.2⟩ hk
    ·rw [if_neg hm]
theorem InvAt.form {ops : Array Oper} {a0 : Act} {Ψ : (Nat → Bool) → (Nat → Value) → World → Prop} {D : Nat → Bool} {V : Nat → Value} {a : Act} {w : World} (h : InvAt ops a0 Ψ D V a w) (L : List Nat)
  (hL : (ops.all fun o => match o.dst with | some d => L.contains d | none => true) = true) : a = ⟨L.foldl (fun t k => t.setIfInBounds k (a.tmps.getD k undef)) a0.tmps, a0.defers⟩ := by
 obtain ⟨t, d⟩ := a
 have hd : d = a0.defers := h.dfr
 subst hd
 congr 1
 obtain ⟨h1, h2⟩ := foldl_set (f := fun k => t.getD k undef) L a0.tmps
 apply Array.ext_getElem?
 intro k
 rw [h2 k]
 have hs : t.size = a0.tmps.size := h.tsz
 by_cases hk : k ∈ L
 ·by_cases hl : k < a0.tmps.size
  ·rw [if_pos ⟨hk, hl⟩, Array.getElem?_eq_getElem (by omega)]
   simp [Array.getD, show k < t.size by omega]
  ·rw [if_neg (fun h => hl h.2), Array.getElem?_eq_none (by omega), Array.getElem?_eq_none (by omega)]
 ·rw [if_neg (fun h => hk h.1)]
  refine h.out k fun i o ho e => ?_
  rw [Array.all_eq_true] at hL
  obtain ⟨hi, he⟩ := Array.getElem?_eq_some_iff.1 ho
  have := hL i hi
  rw [he, e] at this
  exact hk (by simpa using this)
theorem getD_of {t : Array Value} {k : Nat} {v : Value} (h : t[k]? = some v) : t.getD k undef = v := by
 rw [Array.getD_eq_getD_getElem?, h]; rfl
abbrev LineT : TypeId := 43
structure Lst (nm : Str) (l : List Ln) (e : Ln) (wc : World) (u2 : UV) (c2 a2 : Int) (oa : Option Addr) (ca : Nat) (D : Nat → Bool) (V : Nat → Value) (W : World) : Prop where
 bel : Below wc.heap.size wc W
 c65 : D 6 = true → D 5 = true
 c126 : D 12 = true → D 6 = true
 c1312 : D 13 = true → D 12 = true
 c76 : D 7 = true → D 6 = true
 c87 : D 8 = true → D 7 = true
 c1210 : D 12 = true → D 10 = true
 c1311 : D 13 = true → D 11 = true
 f0 : D 0 = true → V 0 = .string ⟨nm.toArray⟩
 f1 : D 1 = true → V 1 = .slice oa l.length ca
 f2 : D 2 = true → D 5 = false → W.ownsRow wc.heap.size LineT 4 (V 2) l.length (flatL encLn l)
 f3 : D 3 = true → V 3 = .agg (encLn e).toArray
 f4 : D 4 = true → D 5 = false → ∃ b, V 4 = .slice (some ⟨b, 0, none⟩) 1 1 ∧ W.heap[b]? = some (.cells (encLn e).toArray LineT (0, 0))
 f5 : D 5 = true → D 6 = false → ∃ o cap, V 5 = .slice o (l.length + 1) cap ∧ RowRd encLn 4 W o (l ++ [e])
 f6 : D 6 = true → ∃ cs, V 6 = .tuple #[.agg cs, .agg #[.int .i64 c2, .int .i64 a2]] ∧ UnitRd W cs u2
 f7 : D 7 = true → V 7 = V 6
 f8 : D 8 = true → ∃ cs, V 6 = .tuple #[.agg cs, .agg #[.int .i64 c2, .int .i64 a2]] ∧ V 8 = .agg cs
 f9 : D 9 = true → V 9 = .agg #[.int .i64 c2, .int .i64 a2]
 f10 : D 10 = true → ∃ b X, V 10 = .pointer (some ⟨b, 0, none⟩) ∧ wc.heap.size ≤ b ∧ W.heap[b]? = some (.cells X 30 (0, 0)) ∧ (D 12 = false → X = unitZero) ∧ (D 12 = true → V 6 = .tuple #[.agg X, .agg #[.int .i64 c2, .int .i64 a2]])
 f11 : D 11 = true → ∃ b X, V 11 = .pointer (some ⟨b, 0, none⟩) ∧ wc.heap.size ≤ b ∧ W.heap[b]? = some (.cells X 33 (0, 0)) ∧ (D 13 = false → X = #[.int .i64 0, .int .i64 0]) ∧ (D 13 = true → X = #[.int .i64 c2, .int .i64 a2])
section
variable {nm : Str} {l : List Ln} {e : Ln} {wc : World} {u2 : UV} {c2 a2 : Int} {oa : Option Addr} {ca : Nat} {D : Nat → Bool} {V : Nat → Value} {W : World}
theorem Lst.below {W' : World} (h : Lst nm l e wc u2 c2 a2 oa ca D V W) (hb : Below W.heap.size W W') : Lst nm l e wc u2 c2 a2 oa ca D V W' where
 bel := h.bel.trans (hb.mono h.bel.size)
 c65 := h.c65
 c126 := h.c126
 c1312 := h.c1312
 c76 := h.c76
 c87 := h.c87
 c1210 := h.c1210
 c1311 := h.c1311
 f0 := h.f0
 f1 := h.f1
 f2 := fun d d5 => own_keeps (h.f2 d d5) hb
 f3 := h.f3
 f4 := fun d d5 => let ⟨b, x, y⟩ := h.f4 d d5; ⟨b, x, heap_below y hb⟩
 f5 := fun d d6 => let ⟨o, cap, x, y⟩ := h.f5 d d6; ⟨o, cap, x, y.below hb⟩
 f6 := fun d => let ⟨cs, x, y⟩ := h.f6 d; ⟨cs, x, y.below hb⟩
 f7 := h.f7
 f8 := h.f8
 f9 := h.f9
 f10 := fun d => let ⟨b, X, p, q, r, s⟩ := h.f10 d; ⟨b, X, p, q, heap_below r hb, s⟩
 f11 := fun d => let ⟨b, X, p, q, r, s⟩ := h.f11 d; ⟨b, X, p, q, heap_below r hb, s⟩
theorem ne_types {w : World} {a b : Nat} {X Y : Array Value} {S T : TypeId} (ha : w.heap[a]? = some (.cells X S (0, 0))) (hb : w.heap[b]? = some (.cells Y T (0, 0))) (h : S ≠ T) : a ≠ b := by
 rintro rfl
 rw [ha] at hb
 injection hb with hb
 injection hb with _ hb _
 exact h hb
end
def nodupB : List Nat → Bool
 | [] => true
 | x :: t => !(t.contains x) && nodupB t
def afterB : Nat → List Oper → Bool
 | _, [] => true
 | n, o :: t => (o.after.all fun e => !Region.binds .any e || decide (e.on < n)) && afterB (n + 1) t
def invOkL (N : Nat) (L : List Nat) (ops : Array Oper) : Bool := (ops.toList.map (·.dst) == L.map some) && (nodupB L && (L.all (fun d => decide (d < N)) && afterB 0 ops.toList))
theorem nodupB_spec : ∀ (L : List Nat), nodupB L = true → ∀ (i j d : Nat), L[i]? = some d → L[j]? = some d → i = j
 | [], _, i, j, d, h, _ => by simp at h
 | x :: t, hn, i, j, d, hi, hj => by
  rw [nodupB, Bool.and_eq_true] at hn
  have hx : x ∉ t := by simpa using hn.1
  rcases i with _ | i <;> rcases j with _ | j
  ·rfl
  ·simp at hi hj; subst hi; exact absurd (List.mem_of_getElem? hj) hx
  ·simp at hi hj; subst hj; exact absurd (List.mem_of_getElem? hi) hx
  ·rw [nodupB_spec t hn.2 i j d (by simpa using hi) (by simpa using hj)]
theorem afterB_spec : ∀ (l : List Oper) (n : Nat), afterB n l = true → ∀ (i : Nat) (o : Oper), l[i]? = some o → ∀ e ∈ o.after, Region.binds .any e = true → e.on < n + i
 | [], _, _, i, o, h => by simp at h
 | x :: t, n, hb, i, o, h => by
  rw [afterB, Bool.and_eq_true] at hb
  rcases i with _ | i
  ·simp at h; subst h
   intro e he hbe
   have h1 := hb.1
   rw [Array.all_eq_true'] at h1
   have := h1 e he
   rw [hbe] at this
   exact of_decide_eq_true (by simpa using this)
  ·intro e he hbe
   have := afterB_spec t (n + 1) hb.2 i o (by simpa using h) e he hbe
   omega
section
variable {P : Program} {ops : Array Oper} {Q : Exit → Act → World → Prop}
theorem invOkL_spec {N : Nat} {L : List Nat} (h : invOkL N L ops = true) {i : Nat} {o : Oper} (ho : ops[i]? = some o) : (∀ e ∈ o.after, Region.binds .any e = true → e.on < i) ∧ (∃ d, o.dst = some d ∧ d < N) ∧ ∀ j oj d, ops[j]? = some oj → o.dst = some d → oj.dst = some d → i = j := by
 unfold invOkL at h
 simp only [Bool.and_eq_true] at h
 obtain ⟨h1, h2, h3, h4⟩ := h
 have h1 := eq_of_beq h1
 have get : ∀ (i : Nat) (o : Oper), ops[i]? = some o → ∃ d, L[i]? = some d ∧ o.dst = some d := fun i o ho => by
  have e : (ops.toList.map (·.dst))[i]? = some o.dst := by simp [ho]
  rw [h1] at e
  simp at e
  obtain ⟨d, hd, he⟩ := e
  exact ⟨d, hd, he.symm⟩
 obtain ⟨d0, hd0, he0⟩ := get i o ho
 refine ⟨fun e he hb => ?_, ⟨d0, he0, of_decide_eq_true (List.all_eq_true.1 h3 d0 (List.mem_of_getElem? hd0))⟩, fun j oj d hj hd hd2 => ?_⟩
 ·have := afterB_spec ops.toList 0 h4 i o (by simpa using ho) e he hb
  omega
 ·obtain ⟨d1, hd1, he1⟩ := get j oj hj
  rw [hd] at he0; injection he0 with he0
  rw [hd2] at he1; injection he1 with he1
  exact nodupB_spec L h2 i j d (by rw [he0]; exact hd0) (by rw [he1]; exact hd1)
def StepV (P : Program) (ops : Array Oper) (Q : Exit → Act → World → Prop) (F : Act → Prop) (S : World → Prop) (val : Nat → Value) (i : Nat) (o : Oper) : Prop :=
 ∀ (a : Act) (w : World), S w → F a → (∀ e ∈ o.after, Region.binds .any e = true → ∀ oj d, ops[e.on]? = some oj → oj.dst = some d → a.tmps[d]? = some (val e.on)) →
  if Region.wanted o (yielded ops a.tmps) = true then Oper.wp P o a w (fun a' w' => a' = a.put o.dst (val i) ∧ S w') Q else val i = undef
theorem vals_any {a0 : Act} {N : Nat} {F : Act → Prop} {S : World → Prop} {val : Nat → Value} {L : List Nat} (hok : invOkL N L ops = true) (hN : a0.tmps.size = N)
  (hF : ∀ a : Act, (∀ k, (∀ (i : Nat) (o : Oper), ops[i]? = some o → o.dst ≠ some k) → a.tmps[k]? = a0.tmps[k]?) → F a)
  (hstep : ∀ (i : Nat) (o : Oper), ops[i]? = some o → StepV P ops Q F S val i o)
  (hend : ∀ (a : Act) (w : World), S w → a.tmps.size = a0.tmps.size → a.defers = a0.defers → (∀ k, (∀ (i : Nat) (o : Oper), ops[i]? = some o → o.dst ≠ some k) → a.tmps[k]? = a0.tmps[k]?) →
   (∀ (i : Nat) (o : Oper) (d : Nat), ops[i]? = some o → o.dst = some d → a.tmps[d]? = some (val i)) → Q .normal a w) :
  ∀ (f : Nat) (L : List Nat) (b : Array Bool) (a : Act) (w : World), L.length ≤ f → b.size = ops.size → (∀ i, i < ops.size → b.getD i false = false → i ∈ L) → S w → a.tmps.size = a0.tmps.size → a.defers = a0.defers →
   (∀ k, (∀ (i : Nat) (o : Oper), ops[i]? = some o → o.dst ≠ some k) → a.tmps[k]? = a0.tmps[k]?) → (∀ (i : Nat) (o : Oper) (d : Nat), ops[i]? = some o → o.dst = some d → b.getD i false = true → a.tmps[d]? = some (val i)) → wpAny P .any ops Q f b a w := by
 have hall : ∀ (b : Array Bool), b.size = ops.size → Region.ready .any ops b = [] → ∀ i, i < ops.size → b.getD i false = true := by
  intro b hb hr i
  induction i using Nat.strongRecOn with
  | _ i ih =>
   intro hi
   cases hq : b.getD i false with
   | true => rfl
   | false =>
    have hm : i ∈ Region.ready .any ops b := by
     refine mem_ready.2 ⟨?_, _, Array.getElem?_eq_getElem hi, fun e he hb => ?_⟩
     ·simp [Array.getD, hb, hi] at hq ⊢; exact hq
     ·have := (invOkL_spec hok (Array.getElem?_eq_getElem hi)).1 e he hb
      exact ih _ this (by omega)
    rw [hr] at hm; cases hm
 intro f
 induction f with
 | zero =>
  intro L b a w hL hb hm hS h1 h2 h3 h4
  have hL0 : L = [] := List.eq_nil_of_length_eq_zero (by omega)
  subst hL0
  have ha : ∀ i, i < ops.size → b.getD i false = true := fun i hi => by
   cases hq : b.getD i false with
   | true => rfl
   | false => have := hm i hi hq; cases this
  refine ⟨?_, hend a w hS h1 h2 h3 (fun i o d ho hd => h4 i o d ho hd (ha i (Array.getElem?_eq_some_iff.1 ho).1))⟩
  rw [List.eq_nil_iff_forall_not_mem]
  intro i hi
  obtain ⟨h1, o, ho, _⟩ := mem_ready.1 hi
  have hil : i < ops.size := (Array.getElem?_eq_some_iff.1 ho).1
  have := ha i hil
  simp [Array.getD, hb, hil] at h1 this
  rw [this] at h1; cases h1
 | succ f ih =>
  intro L b a w hL hb hm hS h1 h2 h3 h4
  refine ⟨fun hr => hend a w hS h1 h2 h3 (fun i o d ho hd => h4 i o d ho hd (hall b hb hr i (Array.getElem?_eq_some_iff.1 ho).1)), fun i hi => ?_⟩
  obtain ⟨hr1, o, ho, hdep⟩ := mem_ready.1 hi
  have hil : i < ops.size := (Array.getElem?_eq_some_iff.1 ho).1
  have hi0 : b.getD i false = false := by
   simp [Array.getD, hb, hil] at hr1 ⊢; exact hr1
  obtain ⟨_, ⟨di, hdi, hdN⟩, hinj⟩ := invOkL_spec hok ho
  have hw := hstep i o ho a w hS (hF a h3) (fun e he hb oj d hj hd => h4 e.on oj d hj hd (hdep e he hb))
  have next : ∀ w', S w' → wpAny P .any ops Q f (b.setIfInBounds i true) (a.put o.dst (val i)) w' := by
   intro w' hS'
   have hset : ∀ j, j ≠ i → (b.setIfInBounds i true).getD j false = b.getD j false := fun j e => getD_set_ne false (Ne.symm e)
   rw [hdi]
   refine ih (L.erase i) _ _ w' ?_ (by simp [hb]) (fun j hj hq => ?_) hS' (by rw [← h1]; simp [Act.put]) (by rw [← h2]; simp [Act.put]) (fun k hk => ?_) (fun j oj d hj hd hq => ?_)
   ·have := List.length_erase_of_mem (hm i hil hi0)
    have h0 : 0 < L.length := List.length_pos_of_mem (hm i hil hi0)
    omega
   ·by_cases e : j = i
    ·subst e; simp [Array.getD, hb, hil] at hq
    ·rw [hset j e] at hq
     exact (List.mem_erase_of_ne e).2 (hm j hj hq)
   ·rw [← h3 k hk]
    exact put_ne _ (fun e => hk i o ho (by rw [hdi, e]))
   ·by_cases e : j = i
    ·subst e
     rw [ho] at hj; injection hj with hj; subst hj
     rw [hdi] at hd; injection hd with hd; subst hd
     exact put_self _ (by rw [h1, hN]; exact hdN)
    ·rw [hset j e] at hq
     rw [← h4 j oj d hj hd hq]
     exact put_ne _ (fun e2 => e (hinj j oj di hj hdi (by rw [hd, e2])).symm)
  unfold wpOp
  simp only [ho]
  by_cases hwd : Region.wanted o (yielded ops a.tmps) = true
  ·rw [if_pos hwd] at hw ⊢
   refine .inl (Oper.wp_mono ?_ hw)
   rintro a' w' ⟨rfl, hS'⟩
   exact next w' hS'
  ·rw [if_neg hwd] at hw ⊢
   rw [← hw]
   exact next w hS
theorem wp_region_vals {id : Nat} {a : Act} {w : World} {N : Nat} (F : Act → Prop) (S : World → Prop) (val : Nat → Value) (L : List Nat) (hm : P.follows .mixedOrders = true) (hok : invOkL N L ops = true) (hN : a.tmps.size = N) (h0 : S w.drew)
  (hF : ∀ a' : Act, (∀ k, (∀ (i : Nat) (o : Oper), ops[i]? = some o → o.dst ≠ some k) → a'.tmps[k]? = a.tmps[k]?) → F a')
  (hstep : ∀ (i : Nat) (o : Oper), ops[i]? = some o → StepV P ops Q F S val i o)
  (hend : ∀ (a' : Act) (w' : World), S w' → a'.tmps.size = a.tmps.size → a'.defers = a.defers → (∀ k, (∀ (i : Nat) (o : Oper), ops[i]? = some o → o.dst ≠ some k) → a'.tmps[k]? = a.tmps[k]?) →
   (∀ (i : Nat) (o : Oper) (d : Nat), ops[i]? = some o → o.dst = some d → a'.tmps[d]? = some (val i)) → Q .normal a' w') : (Code.region id ops true).wp P Q a w := by
 refine wp_region_any hm ?_
 refine vals_any hok hN hF hstep hend ops.size (List.range ops.size) _ a _ (by simp) (by simp) (fun i hi _ => List.mem_range.2 hi) h0 rfl rfl (fun _ _ => rfl) (fun i o d ho hd h => ?_)
 rw [getD_replicate_false] at h; cases h
def AllFrom (p : Nat → Oper → Prop) : Nat → List Oper → Prop
 | _, [] => True
 | n, o :: t => p n o ∧ AllFrom p (n + 1) t
theorem allFrom_get {p : Nat → Oper → Prop} : ∀ (l : List Oper) (n : Nat), AllFrom p n l → ∀ (i : Nat) (o : Oper), l[i]? = some o → p (n + i) o
 | [], _, _, i, o, h => by simp at h
 | x :: t, n, ⟨h, ht⟩, 0, o, e => by simp at e; rw [← e]; exact h
 | x :: t, n, ⟨h, ht⟩, i + 1, o, e => by
  have := allFrom_get t (n + 1) ht i o (by simpa using e)
  rw [show n + (i + 1) = n + 1 + i by omega]; exact this
theorem ops_all {p : Nat → Oper → Prop} (h : AllFrom p 0 ops.toList) : ∀ (i : Nat) (o : Oper), ops[i]? = some o → p i o := fun i o ho => by
 have := allFrom_get ops.toList 0 h i o (by simpa using ho)
 rw [Nat.zero_add] at this; exact this
theorem allFrom7 {p : Nat → Oper → Prop} {i : Nat} {o1 o2 o3 o4 o5 o6 o7 : Oper} {rest : List Oper} (h : p i o1 ∧ p (i + 1) o2 ∧ p (i + 2) o3 ∧ p (i + 3) o4 ∧ p (i + 4) o5 ∧ p (i + 5) o6 ∧ p (i + 6) o7) (hr : AllFrom p (i + 7) rest) : AllFrom p i (o1 :: o2 :: o3 :: o4 :: o5 :: o6 :: o7 :: rest) :=
 ⟨h.1, h.2.1, h.2.2.1, h.2.2.2.1, h.2.2.2.2.1, h.2.2.2.2.2.1, h.2.2.2.2.2.2, hr⟩
def waits (o : Oper) (j : Nat) : Prop := ∃ e ∈ o.after, Region.binds .any e = true ∧ e.on = j
variable {F : Act → Prop} {S : World → Prop} {val : Nat → Value}
theorem stepV_plain {i : Nat} {o : Oper} (hg : o.guard = none) (h : ∀ (a : Act) (w : World), S w → F a → (∀ j oj d, waits o j → ops[j]? = some oj → oj.dst = some d → a.tmps[d]? = some (val j)) → Oper.wp P o a w (fun a' w' => a' = a.put o.dst (val i) ∧ S w') Q) : StepV P ops Q F S val i o := by
 intro a w hS hF hd
 rw [if_pos (wanted_none hg)]
 exact h a w hS hF (fun j oj d ⟨e, he, hb, hj⟩ ho hdst => by subst hj; exact hd e he hb oj d ho hdst)
theorem stepV_guard {i g k : Nat} {og o : Oper} {acc : Bool} (hg : o.guard = some (g, true)) (hog : ops[g]? = some og) (hk : og.dst = some k) (hwt : waits o g) (hv : val g = .bool acc) (hn : acc = false → val i = undef)
  (h : acc = true → ∀ (a : Act) (w : World), S w → F a → (∀ j oj d, waits o j → ops[j]? = some oj → oj.dst = some d → a.tmps[d]? = some (val j)) → Oper.wp P o a w (fun a' w' => a' = a.put o.dst (val i) ∧ S w') Q) : StepV P ops Q F S val i o := by
 intro a w hS hF hd
 have hd2 : ∀ j oj d, waits o j → ops[j]? = some oj → oj.dst = some d → a.tmps[d]? = some (val j) := fun j oj d ⟨e, he, hb, hj⟩ ho hdst => by subst hj; exact hd e he hb oj d ho hdst
 have hflag := hd2 g og k hwt hog hk
 rw [hv] at hflag
 have hgb : (ops[g]?).bind (·.dst) = some k := by rw [hog]; exact hk
 cases acc with
 | true =>
  rw [if_pos (wanted_yes hg hgb hflag)]
  exact h rfl a w hS hF hd2
 | false =>
  rw [if_neg (wanted_no hg hgb hflag)]
  exact hn rfl
theorem call_block7 (ops : Array Oper) (i g k d7 : Nat) {og o1 o2 o3 o4 o5 o6 o7 : Oper} (acc t : Bool) {pA pB : Value} (pA' pB' vx vy : Value) (hFA : ∀ a, F a → a.tmps[2]? = some pA ∧ a.tmps[3]? = some pB) (v0 : val g = .bool acc)
  (x2 : ∀ (a' : Act) (w : World), S w → a'.tmps[k + 1]? = some pA' → (execOp a'.eval o2).run P w = .ok (.value vx) w) (x4 : ∀ (a' : Act) (w : World), S w → a'.tmps[k + 3]? = some pB' → (execOp a'.eval o4).run P w = .ok (.value vy) w)
  (x5 : ∀ (a' : Act) (w : World) (K : Act → World → Prop), S w → a'.tmps[k + 2]? = some vx → a'.tmps[k + 4]? = some vy → (∀ w', S w' → K (a'.put (some (k + 5)) (.bool t)) w') → Oper.wp P o5 a' w K Q)
  (ho : ops[g]? = some og := by exact rfl) (hk : og.dst = some k := by exact rfl) (e1 : ops[i]? = some o1 := by exact rfl) (e2 : ops[i + 1]? = some o2 := by exact rfl) (e3 : ops[i + 2]? = some o3 := by exact rfl) (e4 : ops[i + 3]? = some o4 := by exact rfl) (e5 : ops[i + 4]? = some o5 := by exact rfl) (e6 : ops[i + 5]? = some o6 := by exact rfl)
  (d1 : o1.dst = some (k + 1) := by exact rfl) (d2 : o2.dst = some (k + 2) := by exact rfl) (d3 : o3.dst = some (k + 3) := by exact rfl) (d4 : o4.dst = some (k + 4) := by exact rfl) (d5 : o5.dst = some (k + 5) := by exact rfl) (d6 : o6.dst = some (k + 6) := by exact rfl) (d7' : o7.dst = some d7 := by exact rfl)
  (g1 : o1.guard = some (g, true) := by exact rfl) (g2 : o2.guard = some (g, true) := by exact rfl) (g3 : o3.guard = some (g, true) := by exact rfl) (g4 : o4.guard = some (g, true) := by exact rfl) (g5 : o5.guard = some (g, true) := by exact rfl) (g6 : o6.guard = none := by exact rfl) (g7 : o7.guard = none := by exact rfl)
  (m1 : waits o1 g := by exact ⟨⟨_, .guard⟩, by simp, rfl, rfl⟩) (m2 : waits o2 g ∧ waits o2 i := by exact ⟨⟨⟨_, .guard⟩, by simp, rfl, rfl⟩, ⟨⟨_, .data⟩, by simp, rfl, rfl⟩⟩) (m3 : waits o3 g := by exact ⟨⟨_, .guard⟩, by simp, rfl, rfl⟩) (m4 : waits o4 g ∧ waits o4 (i + 2) := by exact ⟨⟨⟨_, .guard⟩, by simp, rfl, rfl⟩, ⟨⟨_, .data⟩, by simp, rfl, rfl⟩⟩)
  (m5 : waits o5 g ∧ waits o5 (i + 1) ∧ waits o5 (i + 3) := by exact ⟨⟨⟨_, .guard⟩, by simp, rfl, rfl⟩, ⟨⟨_, .data⟩, by simp, rfl, rfl⟩, ⟨⟨_, .data⟩, by simp, rfl, rfl⟩⟩) (m6 : waits o6 g ∧ waits o6 (i + 4) := by exact ⟨⟨⟨_, .data⟩, by simp, rfl, rfl⟩, ⟨⟨_, .data⟩, by simp, rfl, rfl⟩⟩) (m7 : waits o7 (i + 5) := by exact ⟨⟨_, .data⟩, by simp, rfl, rfl⟩)
  (v1 : val i = if acc then pA' else undef := by exact rfl) (v2 : val (i + 1) = if acc then vx else undef := by exact rfl) (v3 : val (i + 2) = if acc then pB' else undef := by exact rfl) (v4 : val (i + 3) = if acc then vy else undef := by exact rfl) (v5 : val (i + 4) = if acc then .bool t else undef := by exact rfl) (v6 : val (i + 5) = .bool (acc && t) := by exact rfl) (v7 : val (i + 6) = .bool (acc && t) := by exact rfl)
  (x1 : ∀ (a' : Act) (w : World), S w → a'.tmps[2]? = some pA → (execOp a'.eval o1).run P w = .ok (.value pA') w := by (intro a' W hI h; obtain ⟨y0, z0⟩ := ev_of h; go_simp)) (x3 : ∀ (a' : Act) (w : World), S w → a'.tmps[3]? = some pB → (execOp a'.eval o3).run P w = .ok (.value pB') w := by (intro a' W hI h; obtain ⟨y0, z0⟩ := ev_of h; go_simp))
  (x6 : ∀ (a' : Act) (w : World) (c' : Bool) (v : Value), a'.tmps[k]? = some (.bool c') → a'.tmps[k + 5]? = some v → (execOp a'.eval o6).run P w = .ok (.value (if c' then v else .bool false)) w := by (intro a' W c' v h1 h2; obtain ⟨y0, z0⟩ := ev_of h1; obtain ⟨y1, z1⟩ := ev_of h2; cases c' <;> go_simp))
  (x7 : ∀ (a' : Act) (w : World) (v : Value), a'.tmps[k + 6]? = some v → (execOp a'.eval o7).run P w = .ok (.value v) w := by (intro a' W v h; obtain ⟨y0, z0⟩ := ev_of h; go_simp)) :
  StepV P ops Q F S val i o1 ∧ StepV P ops Q F S val (i + 1) o2 ∧ StepV P ops Q F S val (i + 2) o3 ∧ StepV P ops Q F S val (i + 3) o4 ∧ StepV P ops Q F S val (i + 4) o5 ∧ StepV P ops Q F S val (i + 5) o6 ∧ StepV P ops Q F S val (i + 6) o7 := by
 have no : ∀ {j : Nat} {v : Value}, val j = (if acc then v else undef) → acc = false → val j = undef := fun h e => by rw [h, e]; rfl
 have ye : ∀ {j : Nat} {v : Value}, val j = (if acc then v else undef) → acc = true → val j = v := fun h e => by rw [h, e]; rfl
 refine ⟨stepV_guard g1 ho hk m1 v0 (no v1) fun ha a w hS hF hs => ?_, stepV_guard g2 ho hk m2.1 v0 (no v2) fun ha a w hS hF hs => ?_, stepV_guard g3 ho hk m3 v0 (no v3) fun ha a w hS hF hs => ?_, stepV_guard g4 ho hk m4.1 v0 (no v4) fun ha a w hS hF hs => ?_, stepV_guard g5 ho hk m5.1 v0 (no v5) fun ha a w hS hF hs => ?_, stepV_plain g6 fun a w hS hF hs => ?_, stepV_plain g7 fun a w hS hF hs => ?_⟩
 ·exact oper_val pA' (x1 a w hS (hFA a hF).1) ⟨by rw [ye v1 ha], hS⟩
 ·have s := hs i o1 _ m2.2 e1 d1
  rw [ye v1 ha] at s
  exact oper_val vx (x2 a w hS s) ⟨by rw [ye v2 ha], hS⟩
 ·exact oper_val pB' (x3 a w hS (hFA a hF).2) ⟨by rw [ye v3 ha], hS⟩
 ·have s := hs (i + 2) o3 _ m4.2 e3 d3
  rw [ye v3 ha] at s
  exact oper_val vy (x4 a w hS s) ⟨by rw [ye v4 ha], hS⟩
 ·have s := hs (i + 1) o2 _ m5.2.1 e2 d2
  have s' := hs (i + 3) o4 _ m5.2.2 e4 d4
  rw [ye v2 ha] at s
  rw [ye v4 ha] at s'
  exact x5 a w _ hS s s' (fun w' hS' => ⟨by rw [ye v5 ha, d5], hS'⟩)
 ·have s := hs g og _ m6.1 ho hk
  have s' := hs (i + 4) o5 _ m6.2 e5 d5
  rw [v0] at s
  refine oper_val _ (x6 a w acc _ s s') ⟨?_, hS⟩
  rw [v6, v5]
  cases acc <;> rfl
 ·have s := hs (i + 5) o6 _ m7 e6 d6
  exact oper_val _ (x7 a w _ s) ⟨by rw [v7, v6], hS⟩
end
end Go.Proofs.YtdjkedcpehhmnaaGreatDoor
