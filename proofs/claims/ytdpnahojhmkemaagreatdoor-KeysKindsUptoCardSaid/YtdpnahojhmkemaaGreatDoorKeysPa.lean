import Derived.RangeFuncNested
import Derived.RangeFuncBound
import Derived.RangeFuncCalls
import Derived.RangeFuncLeaves
import Derived.Test.YtdpnahojhmkemaaGreatDoorRowM
import Derived.Test.YtdpnahojhmkemaaGreatDoorWordsS
import Derived.Lib.Bytealg
import Derived.Lib.SplitLaws
import Derived.Test.YtdpnahojhmkemaaGreatDoorShelf
import Derived.Shelf.Abstract
import Derived.Shelf.RegionOpen
import Derived.WalkKit
import Derived.OwnWalkIn
import Derived.TacticsInMore
import Derived.LoopNIn
import Derived.LoopIn
import Derived.Sort.LoopGhostIn
import Derived.Test.YtdpnahojhmkemaaGreatDoorNumS
import Derived.Test.YtdpnahojhmkemaaGreatDoorLong
import Derived.Lib.IndexMore
import Derived.Test.YtdpnahojhmkemaaGreatDoorNum
import Derived.Test.YtdpnahojhmkemaaGreatDoorStruct
import Derived.Test.YtdpnahojhmkemaaGreatDoorMaxAt
import Derived.Test.YtdpnahojhmkemaaGreatDoorDrawT
import Derived.Lib.SlBy
import Derived.Deep.LoopGhost
import Derived.Lib.IndexBytes
import Derived.Deep.CutRange
import Derived.Test.YtdpnahojhmkemaaGreatDoorKeys12
import Derived.Test.YtdpnahojhmkemaaGreatDoorSpan
import Derived.Test.YtdpnahojhmkemaaGreatDoorEnv
import Derived.Test.YtdpnahojhmkemaaGreatDoorRows
import Derived.Test.YtdpnahojhmkemaaGreatDoorBase
import Derived.ProofKit
import Derived.OpenShut
import Derived.JoinedCond
import Derived.SliceStrings
import Derived.SevenTiedAt
import Derived.Deep.DeepHandedRow
import Derived.Lay
import Derived.LaidMore
import Derived.Stop.Joined
import Derived.Test.YtdpnahojhmkemaaGreatDoorLinesS
import Derived.Deep.Slices
import Derived.Deep.Fields
import Derived.ChangeSame

/-
  A range over an iterator that keeps its own place in a box: what the iterator owes, what the caller owes. No program in sight.
-/
namespace Go.Proofs.YtdpnahojhmkemaaGreatDoor
open Go Go.RowKit
set_option linter.unusedVariables false

/-- J does not mind what befalls block b, nor new blocks. -/
def Mild {β : Type} (b : Nat) (J : β → World → Prop) : Prop := ∀ s A B, J s A → A.grownBy B (some b) → J s B
/-- .. nor what befalls blocks from B0 on that hold no cells. -/
def Soft {β : Type} (B0 b : Nat) (J : β → World → Prop) : Prop :=
  ∀ s A B row, J s A → A.grownBy B row → (∀ r, row = some r → r = b ∨ (B0 ≤ r ∧ ∃ o : Obj, A.heap[r]? = some o ∧ o.isCells = false)) → J s B
/-- An iterator with its place in block b: it hands out xs, one by one; a round that goes on keeps Kp. -/
def SeqBox {α : Type} (n : Nat) (P : Program) (g : Nat) (lb : Array Value) (enc : α → Value) (b : Nat) (Kp : World → World → Prop) (xs : List α) (w : World) : Prop :=
  ∀ (l : Nat) (J Jx : List α → World → Prop) (W : World), Kp w W → Mild b J →
    (∀ pre x post W1, xs = pre ++ x :: post → J pre W1 → YieldAt Fence.wide (n - 1) P l #[enc x] W1 fun e W' =>
      (e = .returned (.bool true) ∧ J (pre ++ [x]) W' ∧ Kp W1 W') ∨ (e = .returned (.bool false) ∧ Jx (pre ++ [x]) W')) →
    J [] W →
    CallsIn Fence.wide n P g (#[.func (.yield l) #[] #[]] ++ lb) W fun e W' => (∃ v, e = .returned v) ∧ (J xs W' ∨ ∃ pre, Jx pre W')

theorem grown_none {A B : World} (h : A.grownBy B none) (b : Nat) : A.grownBy B (some b) := ⟨h.os, h.tape, h.output, h.size, fun k hk _ => h.block k hk (by simp)⟩
theorem keep_at {A B : World} {b k : Nat} {o : Obj} (h : A.grownBy B (some b)) (hk : A.heap[k]? = some o) (hne : k ≠ b) : B.heap[k]? = some o :=
  (h.block k (lt_heap hk) (fun e => hne (by injection e))).trans hk

theorem wp_rangeBox {α : Type} {n : Nat} {P : Program} {g : Operand} {ps : Array Tmp} {assign body : Code} {Q : Exit → Act → World → Prop} {a : Act} {w : World} {gf : Nat} {lb : Array Value} (hg : a.eval g = .func (.func gf) #[] lb)
    (eg : ∀ args w, (callFunc gf args).run P w = .ok (.enter gf args) w) {enc : α → Value} {b : Nat} {Kp : World → World → Prop} {xs : List α} (hseq : SeqBox (n - 1) P gf lb enc b Kp xs w) (hb : b < w.heap.size)
    (hKn : ∀ A o, w.heap.size ≤ A.heap.size → Kp A (A.alloc o)) (hKt : ∀ {A B C : World}, Kp A B → Kp B C → Kp A C) (hKb : ∀ (W : World) (l : Nat) (o : Obj), w.heap.size ≤ l → Kp W (W.putObj l o)) (hps : ps.size = 1)
    (I : List α → World → Prop) (Ix : Code → List α → World → Prop) (hI : Soft w.heap.size b I) (hIx : ∀ c, Soft w.heap.size b (Ix c)) (h0 : I [] w) (a₁ : α → Act)
    (hassign : ∀ (l : Nat) (x : α) (W : World) (K : Act → World → Prop), K (a₁ x) W →
      assign.wpIn (Fence.wide.inRound l) (n - 1 - 1) P (Exit.then K (fun _ _ _ => False)) { tmps := (ps.zip #[enc x]).foldl (fun t (p, v) => t.setIfInBounds p v) a.tmps, defers := [] } W)
    (hbody : ∀ (l : Nat) (pre : List α) (x : α) (post : List α) (W : World), xs = pre ++ x :: post → I pre W → body.wpIn (Fence.wide.inRound l) (n - 1 - 1) P (ownPostG w.heap.size Kp I Ix (pre ++ [x]) W) (a₁ x) W)
    (hdone : ∀ (D : Nat) (W : World), w.heap.size ≤ D → I xs W → W.heap[D]? = some (.deferred (some [])) → Q .normal { a with defers := { target := .collected D, args := #[] } :: a.defers } W)
    (hstop : ∀ (D : Nat) (c : Code) (pre : List α) (W : World), w.heap.size ≤ D → Ix c pre W → W.heap[D]? = some (.deferred (some [])) → c.wpIn Fence.wide n P Q { a with defers := { target := .collected D, args := #[] } :: a.defers } W) :
    (Code.rangeFunc g ps assign body).wpIn Fence.wide n P Q a w := by
  refine wpIn_rangeFunc (fun fn hfn => ?_)
  -- the loop's record lies at D + 1, the block for deferred calls at D
  obtain ⟨D, hD⟩ : ∃ D, D = w.heap.size := ⟨_, rfl⟩
  let rec_ : LoopState → Option Code → Loop := fun st pe => { state := st, pending := pe, fn, tmps := a.tmps, params := ps, assign, body, defers := w.heap.size }
  let w1 := (w.alloc (.deferred (some []))).alloc (.loop (rec_ .ready none))
  have z1 : (w.alloc (.deferred (some []))).heap.size = D + 1 := by rw [hD]; simp
  have hL : w1.heap[D + 1]? = some (.loop (rec_ .ready none)) := by rw [← z1]; exact World.alloc_heap_new _ _
  have hdf : w1.heap[D]? = some (.deferred (some [])) := by rw [hD]; exact heap_alloc (World.alloc_heap_new w _) _
  have soft_new : ∀ A o, I [] A → I [] (A.alloc o) := fun A o h => hI [] A _ none h (World.grownBy_alloc A o none) (fun r e => by cases e)
  have hI1 : I [] w1 := soft_new _ _ (soft_new _ _ h0)
  have hK1 : Kp w w1 := hKt (hKn w _ (Nat.le_refl _)) (hKn _ _ (by simp))
  have hbD : b ≠ D := by omega
  have hbD1 : b ≠ D + 1 := by omega
  refine ⟨D + 1, [{ target := .collected D, args := #[] }], w1, { target := .fn (.func gf) lb, args := #[.func (.yield (D + 1)) #[] #[]] }, w1, gf, #[.func (.yield (D + 1)) #[] #[]] ++ lb, w1, ?_, ?_, ?_, ?_, ?_, ?_⟩
  · rw [hD]; exact run_enterLoop_outer _ _ _ _ _
  · simp only [resolve, hg]
    simp [go_sem]
  · intro f' hf'; trivial
  · simp [invoke, go_sem, eg]
  · intro h; exact absurd h (by simp [Fence.wide])
  -- what the caller holds between two rounds, and where a round has left
  refine (hseq (D + 1) (fun pre W => I pre W ∧ W.heap[D + 1]? = some (.loop (rec_ .ready none)) ∧ W.heap[D]? = some (.deferred (some [])))
    (fun pre W => ∃ c, Ix c pre W ∧ W.heap[D + 1]? = some (.loop (rec_ .done (some c))) ∧ W.heap[D]? = some (.deferred (some []))) w1 hK1
    (fun s A B ⟨i1, i2, i3⟩ hgr => ⟨hI s A B _ i1 hgr (fun r e => .inl (by injection e with e; exact e.symm)), keep_at hgr i2 (Ne.symm hbD1), keep_at hgr i3 (Ne.symm hbD)⟩) ?_ ⟨hI1, hL, hdf⟩).mono ?_
  · rintro pre x post W hx ⟨i1, i2, i3⟩
    have hlt : D + 1 < W.heap.size := lt_heap i2
    refine ⟨fn, _, assign, body, run_yield (P := P) (args := #[enc x]) i2 (by rw [hps]; rfl), roundIn_of_wpIn hfn (hassign _ x W _ ⟨_, run_beginRound i2 rfl, ?_⟩)⟩
    -- the round is under way
    let w2 := W.putObj (D + 1) (.loop { rec_ .ready none with state := .busy })
    have j2 : w2.heap[D + 1]? = some (.loop { rec_ .ready none with state := .busy }) := World.putObj_heap_same hlt
    have j3 : w2.heap[D]? = some (.deferred (some [])) := (World.putObj_heap_other (by omega)).trans i3
    have soft_put : ∀ (J : List α → World → Prop) (s : List α) (A : World) (o o' : Obj), Soft w.heap.size b J → A.heap[D + 1]? = some o → o.isCells = false → J s A → J s (A.putObj (D + 1) o') := fun J s A o o' hJ h1 h2 h3 =>
      hJ s A _ (some (D + 1)) h3 (grownBy_putObj' A (D + 1) o') (fun r e => by cases e; exact .inr ⟨by omega, o, h1, h2⟩)
    refine wpIn_mono (hbody (D + 1) pre x post w2 hx (soft_put I pre W _ _ hI i2 rfl i1)) ?_
    have fin : ∀ (jump : Option Code) (V : World), KeepsFrom w.heap.size w2 V → (Instr.endRound (D + 1) jump).run P V = .ok (.bool jump.isNone) (V.putObj (D + 1) (.loop (rec_ (if jump.isNone then .ready else .done) jump))) ∧
        V.heap[D + 1]? = some (.loop { rec_ .ready none with state := .busy }) ∧ (V.putObj (D + 1) (.loop (rec_ (if jump.isNone then .ready else .done) jump))).heap[D + 1]? = some (.loop (rec_ (if jump.isNone then .ready else .done) jump)) ∧
        (V.putObj (D + 1) (.loop (rec_ (if jump.isNone then .ready else .done) jump))).heap[D]? = some (.deferred (some [])) := by
      intro jump V hk
      have k2 := hk.same _ _ (by omega) j2 rfl
      have k3 := hk.same _ _ (by omega) j3 rfl
      exact ⟨run_endRound jump k2, k2, World.putObj_heap_same (lt_heap k2), (World.putObj_heap_other (by omega)).trans k3⟩
    rintro e a3 V hp
    cases e with
    | normal =>
      obtain ⟨p1, p2, p3⟩ := hp
      obtain ⟨f1, f2, f3, f4⟩ := fin none V p1
      exact ⟨_, _, f1, .inl ⟨rfl, ⟨soft_put I _ V _ _ hI f2 rfl p3, f3, f4⟩, hKt (hKb W _ _ (by omega)) (hKt p2 (hKb V _ _ (by omega)))⟩⟩
    | ret =>
      obtain ⟨p1, p3⟩ := hp
      obtain ⟨f1, f2, f3, f4⟩ := fin (some .ret) V p1
      exact ⟨_, _, f1, .inr ⟨rfl, .ret, soft_put _ _ V _ _ (hIx _) f2 rfl p3, f3, f4⟩⟩
    | exit id =>
      obtain ⟨p1, p3⟩ := hp
      obtain ⟨f1, f2, f3, f4⟩ := fin (some (.exit id)) V p1
      exact ⟨_, _, f1, .inr ⟨rfl, .exit id, soft_put _ _ V _ _ (hIx _) f2 rfl p3, f3, f4⟩⟩
    | goto t =>
      obtain ⟨p1, p3⟩ := hp
      obtain ⟨f1, f2, f3, f4⟩ := fin (some (.goto t)) V p1
      exact ⟨_, _, f1, .inr ⟨rfl, .goto t, soft_put _ _ V _ _ (hIx _) f2 rfl p3, f3, f4⟩⟩
    | panic ch => exact hp.elim
    | outgrown => exact hp.elim
  · have soft_put : ∀ (J : List α → World → Prop) (s : List α) (A : World) (o o' : Obj), Soft w.heap.size b J → A.heap[D + 1]? = some o → o.isCells = false → J s A → J s (A.putObj (D + 1) o') := fun J s A o o' hJ h1 h2 h3 =>
      hJ s A _ (some (D + 1)) h3 (grownBy_putObj' A (D + 1) o') (fun r e => by cases e; exact .inr ⟨by omega, o, h1, h2⟩)
    rintro e W2 ⟨⟨v, rfl⟩, ⟨i1, i2, i3⟩ | ⟨pre, c, i1, i2, i3⟩⟩
    · exact ⟨none, _, run_endLoop (P := P) i2 (by simp [rec_]), hdone D _ (by omega) (soft_put I _ W2 _ _ hI i2 rfl i1) ((World.putObj_heap_other (by omega)).trans i3)⟩
    · exact ⟨some c, _, run_endLoop (P := P) i2 (by simp [rec_]), hstop D c pre _ (by omega) (soft_put _ _ W2 _ _ (hIx c) i2 rfl i1) ((World.putObj_heap_other (by omega)).trans i3)⟩
end Go.Proofs.YtdpnahojhmkemaaGreatDoor

/-
  A text parted at each of a byte. No program in sight.
-/
namespace Go.Proofs.YtdpnahojhmkemaaGreatDoor
open Go
set_option linter.unusedVariables false
set_option linter.unusedSimpArgs false

def consHd (x : UInt8) : List Str → List Str
  | [] => [[x]]
  | h :: r => (x :: h) :: r
def splitC (c : UInt8) : Str → List Str
  | [] => [[]]
  | x :: t => if x = c then [] :: splitC c t else consHd x (splitC c t)
theorem splitC_ne (c : UInt8) : ∀ s : Str, splitC c s ≠ []
  | [] => by simp [splitC]
  | x :: t => by
    unfold splitC
    split
    · simp
    · unfold consHd; split <;> simp
theorem splitC_app (c : UInt8) : ∀ (a b : Str), (∀ x ∈ a, x ≠ c) → splitC c (a ++ c :: b) = a :: splitC c b
  | [], b, _ => by simp [splitC]
  | x :: t, b, h => by
    rw [List.cons_append, splitC, if_neg (h x (by simp)), splitC_app c t b (fun y hy => h y (by simp [hy]))]
    rfl
theorem splitC_one (c : UInt8) : ∀ (a : Str), (∀ x ∈ a, x ≠ c) → splitC c a = [a]
  | [], _ => rfl
  | x :: t, h => by
    rw [splitC, if_neg (h x (by simp)), splitC_one c t (fun y hy => h y (by simp [hy]))]
    rfl
theorem ib_cases (c : UInt8) : ∀ s : Str, (Lib.indexByte s c = -1 ∧ ∀ x ∈ s, x ≠ c) ∨ ∃ (i : Nat) (a b : Str), Lib.indexByte s c = i ∧ s = a ++ c :: b ∧ a.length = i ∧ ∀ x ∈ a, x ≠ c
  | [] => .inl ⟨rfl, by simp⟩
  | x :: t => by
    by_cases hx : x = c
    · subst hx
      exact .inr ⟨0, [], t, by simp [Lib.indexByte], rfl, rfl, by simp⟩
    · rcases ib_cases c t with ⟨h1, h2⟩ | ⟨i, a, b, h1, h2, h3, h4⟩
      · exact .inl ⟨by simp [Lib.indexByte, hx, h1], by
          intro y hy
          rcases List.mem_cons.1 hy with rfl | hy
          · exact hx
          · exact h2 y hy⟩
      · refine .inr ⟨i + 1, x :: a, b, ?_, by rw [h2]; rfl, by simp [h3], ?_⟩
        · have hne : ¬ ((i : Int) = -1) := by omega
          simp [Lib.indexByte, hx, h1, hne]
        · intro y hy
          rcases List.mem_cons.1 hy with rfl | hy
          · exact hx
          · exact h4 y hy
theorem splitC_mem (c : UInt8) : ∀ (s : Str) x, x ∈ splitC c s → x.length ≤ s.length
  | [], x, h => by simp [splitC] at h; subst h; simp
  | y :: t, x, h => by
    unfold splitC at h
    split at h
    · rcases List.mem_cons.1 h with rfl | h
      · simp
      · have := splitC_mem c t x h; simp; omega
    · have ih := splitC_mem c t
      cases hs : splitC c t with
      | nil => exact absurd hs (splitC_ne c t)
      | cons a r =>
        rw [hs] at h ih
        simp only [consHd] at h
        rcases List.mem_cons.1 h with rfl | h
        · have := ih a (by simp); simp; omega
        · have := ih x (by simp [h]); simp; omega
theorem splitC_len (c : UInt8) : ∀ (s : Str), (splitC c s).length ≤ s.length + 1
  | [] => by simp [splitC]
  | y :: t => by
    have ih := splitC_len c t
    unfold splitC
    split
    · simp; omega
    · cases hs : splitC c t with
      | nil => exact absurd hs (splitC_ne c t)
      | cons a r => rw [hs] at ih; simp [consHd] at ih ⊢; omega
end Go.Proofs.YtdpnahojhmkemaaGreatDoor

/-
  strings.SplitSeq at one byte: it hands out what stands between.
-/
namespace Go.Proofs.YtdpnahojhmkemaaGreatDoor
open Go Go.RowKit Go.Shelf
set_option linter.unusedVariables false
set_option linter.unusedSimpArgs false
set_option maxRecDepth 100000
attribute [local go_sem] Oper.semAt_some

/-- The iterator's three boxes lie as they lay. -/
def KpB (b : Nat) (W W' : World) : Prop := W.heap.size ≤ W'.heap.size ∧ ∀ k, k = b ∨ k = b + 1 ∨ k = b + 2 → W'.heap[k]? = W.heap[k]?
theorem KpB.trans {b : Nat} {A B C : World} (h : KpB b A B) (k : KpB b B C) : KpB b A C := ⟨Nat.le_trans h.1 k.1, fun i hi => (k.2 i hi).trans (h.2 i hi)⟩
theorem KpB.of_below {b : Nat} {A B : World} (h : Below A.heap.size A B) (hb : b + 2 < A.heap.size) : KpB b A B := ⟨h.size, fun i hi => h.block i (by omega)⟩
theorem KpB.of_fr {b : Nat} {M : Nat → Prop} {A B : World} (h : Fr M A B) (hb : b + 2 < A.heap.size) (h0 : ¬ M b) (h1 : ¬ M (b + 1)) (h2 : ¬ M (b + 2)) : KpB b A B :=
  ⟨h.size, fun i hi => h.block i (by omega) (by rcases hi with rfl | rfl | rfl <;> assumption)⟩

/-- The place of the iterator: what is still to come. -/
structure Place (W : World) (b : Nat) (c : UInt8) (r : Str) : Prop where
  s : W.heap[b]? = some (.cells #[.string ⟨r.toArray⟩] 9 (0, 0))
  sep : W.heap[b + 1]? = some (.cells #[.string ⟨#[c]⟩] 9 (0, 0))
  save : W.heap[b + 2]? = some (.cells #[.int .i64 0] 3 (0, 0))
theorem Place.kept {W W' : World} {b : Nat} {c : UInt8} {r : Str} (h : Place W b c r) (k : KpB b W W') : Place W' b c r :=
  ⟨(k.2 b (.inl rfl)).trans h.s, (k.2 (b + 1) (.inr (.inl rfl))).trans h.sep, (k.2 (b + 2) (.inr (.inr rfl))).trans h.save⟩
theorem Place.moved {W : World} {b : Nat} {c : UInt8} {r r' : Str} (h : Place W b c r) : Place (W.setCell ⟨b, 0, none⟩ (.string ⟨r'.toArray⟩)) b c r' :=
  ⟨by have := heap_setCell h.s 0 (.string ⟨r'.toArray⟩); exact this, heap_other h.sep (a := ⟨b, 0, none⟩) (by show b + 1 ≠ b; omega) _, heap_other h.save (a := ⟨b, 0, none⟩) (by show b + 2 ≠ b; omega) _⟩

theorem ext_from2 (s : Str) (k n : Nat) (hn : n = s.length) : (⟨s.toArray⟩ : ByteArray).extract k n = ⟨(s.drop k).toArray⟩ := by
  subst hn
  apply ByteArray.ext
  apply Array.ext'
  have := Lib.extract_to_end (⟨s.toArray⟩ : ByteArray) k
  simpa [ByteArray.size] using this
theorem ext_to2 (s : Str) (k : Nat) : (⟨s.toArray⟩ : ByteArray).extract 0 k = ⟨(s.take k).toArray⟩ := by
  apply ByteArray.ext
  apply Array.ext'
  rw [Lib.extract_data]; simp

set_option maxHeartbeats 4000000 in
theorem splitSeq1_any (n l b : Nat) (hn1 : 1 ≤ n) (c : UInt8) (xs : List Str) (J Jx : List Str → World → Prop) (s : Str) (W : World) (hp : Place W b c s) (hs : s.length ≤ 1000000000) (hxs : splitC c s = xs) (hJ : Mild b J)
    (hY : ∀ pre x post W1, xs = pre ++ x :: post → J pre W1 → YieldAt Fence.wide (n - 1) Tryz.prog l #[.string ⟨x.toArray⟩] W1 fun e W' =>
      (e = .returned (.bool true) ∧ J (pre ++ [x]) W' ∧ KpB b W1 W') ∨ (e = .returned (.bool false) ∧ Jx (pre ++ [x]) W')) (h0 : J [] W) :
    CallsIn Fence.wide n Tryz.prog 159 #[.func (.yield l) #[] #[], .pointer (some ⟨b + 1, 0, none⟩), .pointer (some ⟨b, 0, none⟩), .pointer (some ⟨b + 2, 0, none⟩)] W fun e W' => (∃ v, e = .returned v) ∧ (J xs W' ∨ ∃ pre, Jx pre W') := by
  have HP := Lib.hid hp; have HXS := Lib.hid hxs; have HJ := Lib.hid hJ; have HY := Lib.hid hY; have H0 := Lib.hid h0
  have e1 := (rd hp.sep).1 0
  simp only [List.getElem?_toArray, List.getElem?_cons_zero] at e1
  clear hp hxs hJ hY h0
  have hF : Fence.wide.fn 108 := trivial
  refine callsIn_of_wp Tryz.func159 rfl trivial ?_ rfl
  simp only [Tryz.ntmps159, List.size_toArray, List.length_cons, List.length_nil, Nat.reduceAdd, Nat.reduceSub, Array.replicate_succ, Array.replicate_zero, List.push_toArray, List.append_toArray, List.nil_append, List.cons_append]
  gi_wp2
  gi_loopg [] (s.length + 1) (fun f wr => ∃ (done : List Str) (r : Str), r.length < f ∧ r.length ≤ s.length ∧ Hid (Place wr b c r) ∧ Hid (done ++ splitC c r = xs) ∧ Hid (J done wr))
  case atStart => exact ⟨[], s, by omega, by omega, HP, HXS, H0⟩
  case round =>
    obtain ⟨done, r, hf, hrl, HPr, HD, HJr⟩ := hrel
    obtain ⟨c0, f0, s0, l0⟩ := rd HPr.out.s
    obtain ⟨c1, f1, s1, l1⟩ := rd HPr.out.sep
    obtain ⟨c2, f2, s2, l2⟩ := rd HPr.out.save
    have d0 := c0 0; have d1 := c1 0; have d2 := c2 0; have g0 := f0 0
    simp only [List.getElem?_toArray, List.getElem?_cons_zero] at d0 d1 d2
    clear c0 c1 c2 f0 f1 f2 s0 s1 s2 e1
    rcases ib_cases c r with ⟨h1, h2⟩ | ⟨i, a, t, h1, h2, h3, h4⟩
    · have hx : xs = done ++ r :: [] := by rw [← HD.out, splitC_one c r h2]
      have HX := Lib.hid hx
      have HI := Lib.hid (fun V => Tryz.strings_Index_one ⟨r.toArray⟩ c V)
      change Hid (∀ V, Calls _ _ _ V fun e w' => e = .returned (.int .i64 (Lib.indexByte r c)) ∧ _) at HI
      rw [h1] at HI
      obtain ⟨fn, tmps, assign, body, hy, hR⟩ := HY.out done r [] wr hx HJr.out
      have HRR := Lib.hid hR
      clear hx hR h1 h2 HY
      gi_wp2_with (gi_at_call 108; refine (callsIn_wide.2 (HI.out _)).mono ?_; rintro e w' ⟨rfl, rfl⟩)
      refine HRR.out.mono ?_
      rintro e W3 (⟨rfl, hJ3, hk3⟩ | ⟨rfl, hJx3⟩)
      · have HJ3 := Lib.hid (show J xs W3 from by rw [HX.out]; exact hJ3)
        clear hJ3 hk3 HX
        gi_wp2
        refine ⟨rfl, _, results_none rfl _ _ _, ?_⟩
        exact ⟨⟨_, rfl⟩, .inl HJ3.out⟩
      · have HJ3 := Lib.hid hJx3
        clear hJx3
        gi_wp2
        refine ⟨rfl, _, results_none rfl _ _ _, ?_⟩
        exact ⟨⟨_, rfl⟩, .inr ⟨_, HJ3.out⟩⟩
    · have hx : xs = done ++ a :: splitC c t := by rw [← HD.out, h2, splitC_app c a t h4]
      have HX := Lib.hid (show (done ++ [a]) ++ splitC c t = xs from by rw [hx]; simp)
      have HI := Lib.hid (fun V => Tryz.strings_Index_one ⟨r.toArray⟩ c V)
      change Hid (∀ V, Calls _ _ _ V fun e w' => e = .returned (.int .i64 (Lib.indexByte r c)) ∧ _) at HI
      rw [h1] at HI
      have hil : i + 1 ≤ r.length := by rw [h2, ← h3]; simp
      have hrs : (⟨r.toArray⟩ : ByteArray).size = r.length := by simp [ByteArray.size]
      have ea : (⟨r.toArray⟩ : ByteArray).extract 0 i = ⟨a.toArray⟩ := by rw [ext_to2, h2, ← h3]; simp
      have et : (⟨r.toArray⟩ : ByteArray).extract (i + 1) (⟨r.toArray⟩ : ByteArray).size = ⟨t.toArray⟩ := by
        rw [hrs, ext_from2 r (i + 1) r.length rfl, h2, ← h3]; simp
      have htl : t.length + (i + 1) = r.length := by rw [h2, ← h3]; simp; omega
      have HEA := Lib.hid ea; have HET := Lib.hid et
      obtain ⟨fn, tmps, assign, body, hy, hR⟩ := HY.out done a (splitC c t) wr hx HJr.out
      rw [← ea] at hy
      have HRR := Lib.hid hR
      have iz0 : ¬ ((i : Int) < 0) := by omega
      have iz1 : (i : Int) ≤ ((⟨r.toArray⟩ : ByteArray).size : Int) := by rw [hrs]; omega
      have iz2 : (i : Int) + 1 ≤ ((⟨r.toArray⟩ : ByteArray).size : Int) := by rw [hrs]; omega
      have iz3 : i ≤ 1000000000 := by omega
      have HTL := Lib.hid htl
      clear hx hR h1 h2 h3 h4 ea et HD htl hrs hil
      have hP1 : ∀ V, KpB b wr V → Place V b c r := fun V hk => HPr.out.kept hk
      have HP1 := Lib.hid hP1
      clear hP1 HPr
      generalize hRd : (⟨r.toArray⟩ : ByteArray) = R at *
      have HRd := Lib.hid hRd
      clear hRd
      gi_wp2_with (gi_at_call 108; refine (callsIn_wide.2 (HI.out _)).mono ?_; rintro e w' ⟨rfl, rfl⟩)
      refine HRR.out.mono ?_
      rintro e W3 (⟨rfl, hJ3, hk3⟩ | ⟨rfl, hJx3⟩)
      · have hP3 := HP1.out _ hk3
        have HJ4 := Lib.hid (HJ.out _ _ _ hJ3 (grownBy_setCell' W3 b (.string ⟨t.toArray⟩)))
        have HP4 := Lib.hid (hP3.moved (r' := t))
        obtain ⟨c0, f0, s0, l0'⟩ := rd hP3.s
        obtain ⟨c1, f1, s1, l1'⟩ := rd hP3.sep
        have q0 := c0 0; have q1 := c1 0; have p0 := f0 0
        simp only [List.getElem?_toArray, List.getElem?_cons_zero] at q0 q1
        rw [HRd.out] at q0
        clear c0 c1 f0 f1 s0 s1 hJ3 hk3 hP3 l0 l1 l2 HJr HP1 hy d0 d1 d2 g0 HI
        gi_wp2
        gi_roundg (r.length - i)
        case measure => omega
        case rel => exact ⟨done ++ [a], t, by have := HTL.out; omega, by have := HTL.out; omega, by rw [← HET.out] at HP4; exact HP4, HX, by rw [← HET.out] at HJ4; exact HJ4⟩
      · have HJ3 := Lib.hid hJx3
        clear hJx3
        gi_wp2
        refine bodyPost_ret (results_none rfl _ _ _) rfl ?_
        exact ⟨⟨_, rfl⟩, .inr ⟨_, HJ3.out⟩⟩

theorem split_stops (n b : Nat) (hn1 : 1 ≤ n) (c : UInt8) (s : Str) (w : World) (hp : Place w b c s) (hs : s.length ≤ 1000000000) :
    SeqBox n Tryz.prog 159 #[.pointer (some ⟨b + 1, 0, none⟩), .pointer (some ⟨b, 0, none⟩), .pointer (some ⟨b + 2, 0, none⟩)] (fun x : Str => .string ⟨x.toArray⟩) b (KpB b) (splitC c s) w :=
  fun l J Jx W hW hJ hY h0 => splitSeq1_any n l b hn1 c _ J Jx s W (hp.kept hW) hs rfl hJ hY h0
theorem enters_split1 : ∀ args w, (callFunc 159 args).run Tryz.prog w = .ok (.enter 159 args) w := enters_of Tryz.func159 (by kernel_rfl) rfl

/-- The world in which the iterator has been made. -/
def splitW (w : World) (c : UInt8) (s : Str) : World := ((w.alloc (.cells #[.string ⟨s.toArray⟩] 9)).alloc (.cells #[.string ⟨#[c]⟩] 9)).alloc (.cells #[.int .i64 0] 3)
theorem splitSeq_any (c : UInt8) (s : Str) (w : World) : Calls Tryz.prog 106 #[.string ⟨s.toArray⟩, .string ⟨#[c]⟩] w fun e w' =>
    e = .returned (.func (.func 159) #[] #[.pointer (some ⟨w.heap.size + 1, 0, none⟩), .pointer (some ⟨w.heap.size, 0, none⟩), .pointer (some ⟨w.heap.size + 2, 0, none⟩)]) ∧ w' = splitW w c s := by
  have H : Calls Tryz.prog 135 #[.string ⟨s.toArray⟩, .string ⟨#[c]⟩, .int .i64 0] w fun e w' =>
    e = .returned (.func (.func 159) #[] #[.pointer (some ⟨w.heap.size + 1, 0, none⟩), .pointer (some ⟨w.heap.size, 0, none⟩), .pointer (some ⟨w.heap.size + 2, 0, none⟩)]) ∧ w' = splitW w c s := by
    go_enter Tryz.func135, Tryz.ntmps135
    go_wp2
    go_ret
    exact ⟨rfl, rfl⟩
  have HH := Lib.hid H
  clear H
  go_enter Tryz.func106, Tryz.ntmps106
  go_wp2_with fail
  refine HH.out.mono ?_
  rintro e w1 ⟨rfl, rfl⟩
  go_wp2
  go_ret
  exact ⟨rfl, rfl⟩
theorem splitW_place (w : World) (c : UInt8) (s : Str) : Place (splitW w c s) w.heap.size c s ∧ Below w.heap.size w (splitW w c s) ∧ (splitW w c s).heap.size = w.heap.size + 3 := by
  have z1 : (w.alloc (.cells #[.string ⟨s.toArray⟩] 9)).heap.size = w.heap.size + 1 := by simp
  have z2 : ((w.alloc (.cells #[.string ⟨s.toArray⟩] 9)).alloc (.cells #[.string ⟨#[c]⟩] 9)).heap.size = w.heap.size + 2 := by simp
  refine ⟨⟨heap_alloc (heap_alloc (heap_alloc_new w _) _) _, ?_, ?_⟩, (((Below.refl _ _).alloc (Nat.le_refl _) _).alloc (by simp) _).alloc (by simp; omega) _, by simp [splitW]⟩
  · rw [← z1]; exact heap_alloc (heap_alloc_new _ _) _
  · rw [← z2]; exact heap_alloc_new _ _
end Go.Proofs.YtdpnahojhmkemaaGreatDoor

/-
  Calendars of a text, plain. No program in sight.
-/
namespace Go.Proofs.YtdpnahojhmkemaaGreatDoor
open Go
set_option linter.unusedVariables false

structure PartS where
  from_ : Int
  to_ : Int
  step : Int
deriving DecidableEq
/-- What number says. -/
def numC (s : Str) : Int × Bool := if longB s 4 isDigit = true then ((decS s : Nat), true) else (0, false)
/-- What is ahead of a part's step. -/
def bodyS (b : Str) (st : Int) : Option PartS :=
  if b = [42] then some ⟨-1, -1, st⟩
  else if (numC (Lib.cut b [46, 46]).1).2 = false then none
  else if (Lib.cut b [46, 46]).2.2 = true then (if (numC (Lib.cut b [46, 46]).2.1).2 = true then some ⟨(numC (Lib.cut b [46, 46]).1).1, (numC (Lib.cut b [46, 46]).2.1).1, st⟩ else none)
  else some ⟨(numC (Lib.cut b [46, 46]).1).1, -1, st⟩
/-- A part that a text says. -/
def partS (s : Str) : Option PartS :=
  if (Lib.cut s [47]).2.2 = true then
    (if (numC (Lib.cut s [47]).2.1).2 = false ∨ (numC (Lib.cut s [47]).2.1).1 = 0 then none else bodyS (Lib.cut s [47]).1 (numC (Lib.cut s [47]).2.1).1)
  else bodyS (Lib.cut s [47]).1 0
def partsL : List Str → Option (List PartS)
  | [] => some []
  | x :: t => match partS x with
    | none => none
    | some p => (partsL t).map fun r => p :: r
/-- Parts that a text says. -/
def ptsS (s : Str) : Option (List PartS) := partsL (splitC 44 s)
end Go.Proofs.YtdpnahojhmkemaaGreatDoor

/-
  Package cal: number, part.
-/
namespace Go.Proofs.YtdpnahojhmkemaaGreatDoor
open Go Go.RowKit
set_option linter.unusedVariables false
set_option linter.unusedSimpArgs false
set_option maxRecDepth 100000

set_option maxHeartbeats 1000000 in
theorem calNumber_any (s : ByteArray) (w : World) (h63 : s.size ≤ 9223372036854775807) (v : Int) (b : Bool) (hv : numC s.data.toList = (v, b)) :
    Calls Tryz.prog 164 #[.string s] w fun e w' => e = .returned (.tuple #[.int .i64 v, .bool b]) ∧ Below w.heap.size w w' := by
  unfold numC at hv
  cases hl : longB s.data.toList 4 isDigit with
  | false =>
    rw [hl, if_neg (by simp)] at hv
    obtain ⟨rfl, rfl⟩ : 0 = v ∧ false = b := by simpa using hv
    have HL := Lib.hid (long_any s 4 101 #[] #[] isDigit false w h63 enters_digit (fun c => digit_any c w) hl)
    clear hv hl
    go_enter Tryz.func164, Tryz.ntmps164
    go_wp2_with fail
    refine HL.out.mono ?_
    rintro e w1 ⟨rfl, rfl⟩
    go_wp2_with fail
    go_ret2
    exact ⟨rfl, Below.refl _ _⟩
  | true =>
    rw [hl, if_pos rfl] at hv
    have HL := Lib.hid (long_any s 4 101 #[] #[] isDigit true w h63 enters_digit (fun c => digit_any c w) hl)
    obtain ⟨h0, h5, hd⟩ := longB_true (n := 4) hl
    have hsz : s.data.toList.length = s.size := by simp
    obtain ⟨n, hn⟩ : ∃ n, decS s.data.toList = n := ⟨_, rfl⟩
    have HA := Lib.hid (atoi_any s w h0 (by omega) hd n hn)
    rw [hn] at hv
    obtain ⟨rfl, rfl⟩ : (n : Int) = v ∧ true = b := by simpa using hv
    clear hl h0 h5 hd hn hsz hv
    go_enter Tryz.func164, Tryz.ntmps164
    go_wp2_with fail
    refine HL.out.mono ?_
    rintro e w1 ⟨rfl, rfl⟩
    go_wp2_with fail
    refine HA.out.mono ?_
    rintro e w2 ⟨rfl, hb⟩
    have HB := Lib.hid hb; clear hb
    go_wp2_with fail
    go_quiet (fail)
    go_wp2
    go_ret2
    exact ⟨rfl, HB.out.trans (below_dn ⟨_, rfl⟩)⟩

/-- A part, as cells. -/
def encPt (p : PartS) : List Value := [.int .i64 p.from_, .int .i64 p.to_, .int .i64 p.step]
theorem encPt_one (k : PartS) : ∀ v ∈ encPt k, v.oneCell' = true := by intro v hv; simp [encPt] at hv; rcases hv with rfl | rfl | rfl <;> rfl
/-- What part gives back. -/
def PartOut (w : World) (s : Str) (e : Ending) (w' : World) : Prop :=
  ∃ p : PartS, e = .returned (.tuple #[.agg #[.int .i64 p.from_, .int .i64 p.to_, .int .i64 p.step], .bool (partS s).isSome]) ∧ (∀ q, partS s = some q → p = q) ∧ Below w.heap.size w w'
theorem cut_len2 (l c : Str) : (Lib.cut l c).1.length ≤ l.length ∧ (Lib.cut l c).2.1.length ≤ l.length := by
  unfold Lib.cut
  split
  · exact ⟨by rw [List.length_take]; exact Nat.min_le_right _ _, by rw [List.length_drop]; omega⟩
  · simp
theorem cells_of3 {w : World} {b : Nat} {x y z : Value} {T : TypeId} (h : w.heap[b]? = some (.cells #[x, y, z] T (0, 0))) :
    w.cell? ⟨b, 0, none⟩ = some x ∧ w.cell? ⟨b, 1, none⟩ = some y ∧ w.cell? ⟨b, 2, none⟩ = some z ∧ w.frozen? ⟨b, 0, none⟩ = false ∧ w.frozen? ⟨b, 1, none⟩ = false ∧ w.frozen? ⟨b, 2, none⟩ = false := by
  obtain ⟨c, f, _, _⟩ := rd h
  exact ⟨by rw [c]; rfl, by rw [c]; rfl, by rw [c]; rfl, f 0, f 1, f 2⟩

set_option maxHeartbeats 8000000 in
theorem part_any (s : Str) (w : World) (hs : s.length ≤ 1000000000) (hM : MaxAt w) : Calls Tryz.prog 137 #[.string ⟨s.toArray⟩] w fun e w' => PartOut w s e w' := by
  have HM := Lib.hid (fun V (h : Below w.heap.size w V) => hM.below h)
  have HCUT := Lib.hid (fun (t : Str) (c : ByteArray) V (ht : t.length ≤ 1000000000) (h : MaxAt V) => show Calls Tryz.prog 91 #[.string ⟨t.toArray⟩, .string c] V fun e w' =>
      e = .returned (.tuple #[.string ⟨(Lib.cut t c.data.toList).1.toArray⟩, .string ⟨(Lib.cut t c.data.toList).2.1.toArray⟩, .bool (Lib.cut t c.data.toList).2.2]) ∧ ∃ n, w' = V.drewN n by
    obtain ⟨m, hm⟩ := h
    exact Tryz.strings_Cut ⟨t.toArray⟩ c m V (by show t.toArray.size < _; simp; omega) hm)
  have HNUM := Lib.hid (fun (t : Str) V (ht : t.length ≤ 1000000000) => calNumber_any ⟨t.toArray⟩ V (by show t.toArray.size ≤ _; simp; omega) (numC t).1 (numC t).2 rfl)
  obtain ⟨c1, c2, q, hcut⟩ : ∃ c1 c2 q, Lib.cut s [47] = (c1, c2, q) := ⟨_, _, _, rfl⟩
  have hcl := cut_len2 s [47]
  rw [hcut] at hcl
  simp only at hcl
  have HC1 := Lib.hid (HCUT.out s ⟨#[47]⟩)
  change Hid (∀ V, _ → MaxAt V → Calls _ _ _ V fun e w' => e = .returned (.tuple #[.string ⟨(Lib.cut s [47]).1.toArray⟩, .string ⟨(Lib.cut s [47]).2.1.toArray⟩, .bool (Lib.cut s [47]).2.2]) ∧ _) at HC1
  rw [hcut] at HC1
  have hl1 : c1.length ≤ 1000000000 := by omega
  have hl2 : c2.length ≤ 1000000000 := by omega
  have HPS := Lib.hid (show partS s = if q = true then (if (numC c2).2 = false ∨ (numC c2).1 = 0 then none else bodyS c1 (numC c2).1) else bodyS c1 0 by unfold partS; rw [hcut])
  let w0 := (w.alloc (.cells #[.int .i64 0, .int .i64 0, .int .i64 0] 115)).alloc (.cells #[.int .i64 (-1), .int .i64 (-1), .int .i64 0] 115)
  have hB0 : Below w.heap.size w w0 := ((Below.refl _ _).alloc (Nat.le_refl _) _).alloc (by simp) _
  have HX0 := Lib.hid (show w0.heap[w.heap.size]? = some (.cells #[.int .i64 0, .int .i64 0, .int .i64 0] 115 (0, 0)) from heap_alloc (heap_alloc_new w _) _)
  have HP0 := Lib.hid (show w0.heap[w.heap.size + 1]? = some (.cells #[.int .i64 (-1), .int .i64 (-1), .int .i64 0] 115 (0, 0)) from by
    have := heap_alloc_new (w.alloc (.cells #[.int .i64 0, .int .i64 0, .int .i64 0] 115)) (.cells #[.int .i64 (-1), .int .i64 (-1), .int .i64 0] 115)
    rw [show (w.alloc (.cells #[.int .i64 0, .int .i64 0, .int .i64 0] 115)).heap.size = w.heap.size + 1 by simp] at this
    exact this)
  have HB0 := Lib.hid hB0
  unfold PartOut
  clear hB0 hcut hcl hM
  go_enter Tryz.func137, Tryz.ntmps137
  go_wp2_with fail
  refine (HC1.out w0 hs (HM.out _ HB0.out)).mono ?_
  rintro e w1 ⟨rfl, n1, rfl⟩
  have HB1 := Lib.hid (HB0.out.trans (show Below w.heap.size w0 (w0.drewN n1) from below_dn ⟨_, rfl⟩))
  have HX1 := Lib.hid (show (w0.drewN n1).heap[w.heap.size]? = _ from HX0.out)
  have HP1 := Lib.hid (show (w0.drewN n1).heap[w.heap.size + 1]? = _ from HP0.out)
  clear HB0 HX0 HP0 HC1
  generalize w0.drewN n1 = w1 at *
  clear w0
  cases q with
  | false =>
    have HPB := Lib.hid (show partS s = bodyS c1 0 by rw [HPS.out]; simp)
    clear HPS
    obtain ⟨x0, x1, x2, y0, y1, y2⟩ := cells_of3 HX1.out
    obtain ⟨p0, p1, p2, r0, r1, r2⟩ := cells_of3 HP1.out
    cases hst : (c1 == [42]) with
    | true =>
      have HR := Lib.hid (show partS s = some ⟨-1, -1, 0⟩ by rw [HPB.out]; unfold bodyS; rw [if_pos (eq_of_beq hst)])
      clear HPB
      go_wp2_with fail
      refine bodyPost_ret (v := .tuple #[.agg #[.int .i64 (-1), .int .i64 (-1), .int .i64 0], .bool (partS s).isSome]) ?_ rfl ⟨⟨(-1), (-1), 0⟩, rfl, ?_, ?_⟩
      · rw [HR.out]
        simp [results, Tryz.results137, go_sem, x0, x1, x2, p0, p1, p2]
      · rw [HR.out]; intro q hq; first | (cases hq; done) | (injection hq)
      · exact (HB1.out.setCell (Nat.le_refl _) _).setCell (Nat.le_refl _) _ |>.setCell (Nat.le_refl _) _
    | false =>
      obtain ⟨d1, d2, g, hd⟩ : ∃ d1 d2 g, Lib.cut c1 [46, 46] = (d1, d2, g) := ⟨_, _, _, rfl⟩
      have hdl := cut_len2 c1 [46, 46]
      rw [hd] at hdl
      simp only at hdl
      have HC2 := Lib.hid (HCUT.out c1 ⟨#[46, 46]⟩)
      change Hid (∀ V, _ → MaxAt V → Calls _ _ _ V fun e w' => e = .returned (.tuple #[.string ⟨(Lib.cut c1 [46, 46]).1.toArray⟩, .string ⟨(Lib.cut c1 [46, 46]).2.1.toArray⟩, .bool (Lib.cut c1 [46, 46]).2.2]) ∧ _) at HC2
      rw [hd] at HC2
      have hne : ¬ c1 = [42] := by rw [beq_eq_false_iff_ne] at hst; exact hst
      have HPC := Lib.hid (show partS s = if (numC d1).2 = false then none else if g = true then (if (numC d2).2 = true then some ⟨(numC d1).1, (numC d2).1, 0⟩ else none) else some ⟨(numC d1).1, -1, 0⟩ by rw [HPB.out]; unfold bodyS; rw [if_neg hne, hd])
      have HN1 := Lib.hid (fun V => HNUM.out d1 V (by omega))
      have HN2 := Lib.hid (fun V => HNUM.out d2 V (by omega))
      obtain ⟨v1, b1, hv1⟩ : ∃ v b, numC d1 = (v, b) := ⟨_, _, rfl⟩
      obtain ⟨v2, b2, hv2⟩ : ∃ v b, numC d2 = (v, b) := ⟨_, _, rfl⟩
      rw [hv1] at HN1 HPC
      rw [hv2] at HN2 HPC
      clear hd hdl hne hv1 hv2 HPB
      go_wp2_with fail
      refine (HC2.out w1 hl1 (HM.out _ HB1.out)).mono ?_
      rintro e w2 ⟨rfl, n2, rfl⟩
      have HB2 := Lib.hid (HB1.out.trans (show Below w.heap.size w1 (w1.drewN n2) from below_dn ⟨_, rfl⟩))
      have HX2 := Lib.hid (show (w1.drewN n2).heap[w.heap.size]? = _ from HX1.out)
      have HP2 := Lib.hid (show (w1.drewN n2).heap[w.heap.size + 1]? = _ from HP1.out)
      clear HC2 HX1 HP1 HB1
      clear x0 x1 x2 y0 y1 y2 p0 p1 p2 r0 r1 r2
      generalize w1.drewN n2 = w2 at *
      go_wp2_with fail
      refine (HN1.out w2).mono ?_
      rintro e w3 ⟨rfl, hb3⟩
      have HB3 := Lib.hid (HB2.out.trans (hb3.mono HB2.out.size))
      have HX3 := Lib.hid (heap_below HX2.out hb3)
      have HP3 := Lib.hid (heap_below HP2.out hb3)
      clear hb3 HX2 HP2 HB2 HN1
      obtain ⟨x0, x1, x2, y0, y1, y2⟩ := cells_of3 HX3.out
      obtain ⟨p0, p1, p2, r0, r1, r2⟩ := cells_of3 HP3.out
      cases b1 with
      | false =>
        have HR := Lib.hid (show partS s = none by rw [HPC.out]; simp)
        clear HPC
        go_wp2_with fail
        refine bodyPost_ret (v := .tuple #[.agg #[.int .i64 v1, .int .i64 (-1), .int .i64 0], .bool (partS s).isSome]) ?_ rfl ⟨⟨v1, (-1), 0⟩, rfl, ?_, ?_⟩
        · rw [HR.out]
          simp [results, Tryz.results137, go_sem, x0, x1, x2, p0, p1, p2]
        · rw [HR.out]; intro q hq; first | (cases hq; done) | (injection hq)
        · exact ((HB3.out.setCell (p := ⟨w.heap.size + 1, 0, none⟩) (by simp) _).setCell (Nat.le_refl _) _).setCell (Nat.le_refl _) _ |>.setCell (Nat.le_refl _) _
      | true =>
        cases g with
        | false =>
          have HR := Lib.hid (show partS s = some ⟨v1, -1, 0⟩ by rw [HPC.out]; simp)
          clear HPC
          go_wp2_with fail
          refine bodyPost_ret (v := .tuple #[.agg #[.int .i64 v1, .int .i64 (-1), .int .i64 0], .bool (partS s).isSome]) ?_ rfl ⟨⟨v1, (-1), 0⟩, rfl, ?_, ?_⟩
          · rw [HR.out]
            simp [results, Tryz.results137, go_sem, x0, x1, x2, p0, p1, p2]
          · rw [HR.out]; intro q hq; first | (cases hq; done) | (injection hq)
          · exact ((HB3.out.setCell (p := ⟨w.heap.size + 1, 0, none⟩) (by simp) _).setCell (Nat.le_refl _) _).setCell (Nat.le_refl _) _ |>.setCell (Nat.le_refl _) _
        | true =>
          have hW := HB3.out.setCell (p := ⟨w.heap.size + 1, 0, none⟩) (by simp) (.int .i64 v1)
          have hX := heap_other HX3.out (a := ⟨w.heap.size + 1, 0, none⟩) (by simp) (.int .i64 v1)
          have hP := heap_setCell HP3.out 0 (.int .i64 v1)
          have HWk := Lib.hid hW; have HXk := Lib.hid hX
          have HPk := Lib.hid (show (w3.setCell ⟨w.heap.size + 1, 0, none⟩ (.int .i64 v1)).heap[w.heap.size + 1]? = some (.cells #[.int .i64 v1, .int .i64 (-1), .int .i64 0] 115 (0, 0)) from hP)
          clear hW hX hP
          go_wp2_with fail
          refine (HN2.out (w3.setCell ⟨w.heap.size + 1, 0, none⟩ (.int .i64 v1))).mono ?_
          rintro e w4 ⟨rfl, hb4⟩
          have HB4 := Lib.hid (HWk.out.trans (hb4.mono HWk.out.size))
          have HX4 := Lib.hid (heap_below HXk.out hb4)
          have HP4 := Lib.hid (heap_below HPk.out hb4)
          clear x0 x1 x2 y0 y1 y2 p0 p1 p2 r0 r1 r2
          clear hb4 HX3 HP3 HB3 HN2 HWk HXk HPk
          obtain ⟨x0, x1, x2, y0, y1, y2⟩ := cells_of3 HX4.out
          obtain ⟨p0, p1, p2, r0, r1, r2⟩ := cells_of3 HP4.out
          cases b2 with
          | false =>
            have HR := Lib.hid (show partS s = none by rw [HPC.out]; simp)
            clear HPC
            go_wp2_with fail
            refine bodyPost_ret (v := .tuple #[.agg #[.int .i64 v1, .int .i64 v2, .int .i64 0], .bool (partS s).isSome]) ?_ rfl ⟨⟨v1, v2, 0⟩, rfl, ?_, ?_⟩
            · rw [HR.out]
              simp [results, Tryz.results137, go_sem, x0, x1, x2, p0, p1, p2]
            · rw [HR.out]; intro q hq; first | (cases hq; done) | (injection hq)
            · exact ((HB4.out.setCell (p := ⟨w.heap.size + 1, 1, none⟩) (by simp) _).setCell (Nat.le_refl _) _).setCell (Nat.le_refl _) _ |>.setCell (Nat.le_refl _) _
          | true =>
            have HR := Lib.hid (show partS s = some ⟨v1, v2, 0⟩ by rw [HPC.out]; simp)
            clear HPC
            go_wp2_with fail
            refine bodyPost_ret (v := .tuple #[.agg #[.int .i64 v1, .int .i64 v2, .int .i64 0], .bool (partS s).isSome]) ?_ rfl ⟨⟨v1, v2, 0⟩, rfl, ?_, ?_⟩
            · rw [HR.out]
              simp [results, Tryz.results137, go_sem, x0, x1, x2, p0, p1, p2]
            · rw [HR.out]; intro q hq; first | (cases hq; done) | (injection hq)
            · exact ((HB4.out.setCell (p := ⟨w.heap.size + 1, 1, none⟩) (by simp) _).setCell (Nat.le_refl _) _).setCell (Nat.le_refl _) _ |>.setCell (Nat.le_refl _) _
  | true =>
    have HN0 := Lib.hid (fun V => HNUM.out c2 V hl2)
    obtain ⟨v0, b0, hv0⟩ : ∃ v b, numC c2 = (v, b) := ⟨_, _, rfl⟩
    rw [hv0] at HN0 HPS
    clear hv0
    go_wp2_with fail
    refine (HN0.out w1).mono ?_
    rintro e w2 ⟨rfl, hb2⟩
    have HB2 := Lib.hid (HB1.out.trans (hb2.mono HB1.out.size))
    have HX2 := Lib.hid (heap_below HX1.out hb2)
    have HP2 := Lib.hid (heap_below HP1.out hb2)
    clear hb2 HX1 HP1 HB1 HN0
    obtain ⟨x0, x1, x2, y0, y1, y2⟩ := cells_of3 HX2.out
    obtain ⟨p0, p1, p2, r0, r1, r2⟩ := cells_of3 HP2.out
    cases b0 with
    | false =>
      have HR := Lib.hid (show partS s = none by rw [HPS.out]; simp)
      clear HPS
      go_wp2_with fail
      refine bodyPost_ret (v := .tuple #[.agg #[.int .i64 (-1), .int .i64 (-1), .int .i64 v0], .bool (partS s).isSome]) ?_ rfl ⟨⟨(-1), (-1), v0⟩, rfl, ?_, ?_⟩
      · rw [HR.out]
        simp [results, Tryz.results137, go_sem, x0, x1, x2, p0, p1, p2]
      · rw [HR.out]; intro q hq; first | (cases hq; done) | (injection hq)
      · exact ((HB2.out.setCell (p := ⟨w.heap.size + 1, 2, none⟩) (by simp) _).setCell (Nat.le_refl _) _).setCell (Nat.le_refl _) _ |>.setCell (Nat.le_refl _) _
    | true =>
      by_cases hz : v0 = 0
      · subst hz
        have HR := Lib.hid (show partS s = none by rw [HPS.out]; simp)
        clear HPS
        go_wp2_with fail
        refine bodyPost_ret (v := .tuple #[.agg #[.int .i64 (-1), .int .i64 (-1), .int .i64 0], .bool (partS s).isSome]) ?_ rfl ⟨⟨(-1), (-1), 0⟩, rfl, ?_, ?_⟩
        · rw [HR.out]
          simp [results, Tryz.results137, go_sem, x0, x1, x2, p0, p1, p2]
        · rw [HR.out]; intro q hq; first | (cases hq; done) | (injection hq)
        · exact ((HB2.out.setCell (p := ⟨w.heap.size + 1, 2, none⟩) (by simp) _).setCell (Nat.le_refl _) _).setCell (Nat.le_refl _) _ |>.setCell (Nat.le_refl _) _
      · have hzb : (v0 == 0) = false := by rw [beq_eq_false_iff_ne]; exact hz
        have HPB := Lib.hid (show partS s = bodyS c1 v0 by rw [HPS.out]; simp [hz])
        clear HPS
        have hW := HB2.out.setCell (p := ⟨w.heap.size + 1, 2, none⟩) (by simp) (.int .i64 v0)
        have hX := heap_other HX2.out (a := ⟨w.heap.size + 1, 2, none⟩) (by simp) (.int .i64 v0)
        have hP := heap_setCell HP2.out 2 (.int .i64 v0)
        have HB3 := Lib.hid hW; have HX3 := Lib.hid hX
        have HP3 := Lib.hid (show (w2.setCell ⟨w.heap.size + 1, 2, none⟩ (.int .i64 v0)).heap[w.heap.size + 1]? = some (.cells #[.int .i64 (-1), .int .i64 (-1), .int .i64 v0] 115 (0, 0)) from hP)
        clear hW hX hP
        cases hst : (c1 == [42]) with
        | true =>
          have HR := Lib.hid (show partS s = some ⟨-1, -1, v0⟩ by rw [HPB.out]; unfold bodyS; rw [if_pos (eq_of_beq hst)])
          clear HPB
          go_wp2_with fail
          refine bodyPost_ret (v := .tuple #[.agg #[.int .i64 (-1), .int .i64 (-1), .int .i64 v0], .bool (partS s).isSome]) ?_ rfl ⟨⟨(-1), (-1), v0⟩, rfl, ?_, ?_⟩
          · rw [HR.out]
            simp [results, Tryz.results137, go_sem, x0, x1, x2, p0, p1, p2]
          · rw [HR.out]; intro q hq; first | (cases hq; done) | (injection hq)
          · exact (HB3.out.setCell (Nat.le_refl _) _).setCell (Nat.le_refl _) _ |>.setCell (Nat.le_refl _) _
        | false =>
          obtain ⟨d1, d2, g, hd⟩ : ∃ d1 d2 g, Lib.cut c1 [46, 46] = (d1, d2, g) := ⟨_, _, _, rfl⟩
          have hdl := cut_len2 c1 [46, 46]
          rw [hd] at hdl
          simp only at hdl
          have HC2 := Lib.hid (HCUT.out c1 ⟨#[46, 46]⟩)
          change Hid (∀ V, _ → MaxAt V → Calls _ _ _ V fun e w' => e = .returned (.tuple #[.string ⟨(Lib.cut c1 [46, 46]).1.toArray⟩, .string ⟨(Lib.cut c1 [46, 46]).2.1.toArray⟩, .bool (Lib.cut c1 [46, 46]).2.2]) ∧ _) at HC2
          rw [hd] at HC2
          have hne : ¬ c1 = [42] := by rw [beq_eq_false_iff_ne] at hst; exact hst
          have HPC := Lib.hid (show partS s = if (numC d1).2 = false then none else if g = true then (if (numC d2).2 = true then some ⟨(numC d1).1, (numC d2).1, v0⟩ else none) else some ⟨(numC d1).1, -1, v0⟩ by rw [HPB.out]; unfold bodyS; rw [if_neg hne, hd])
          have HN1 := Lib.hid (fun V => HNUM.out d1 V (by omega))
          have HN2 := Lib.hid (fun V => HNUM.out d2 V (by omega))
          obtain ⟨v1, b1, hv1⟩ : ∃ v b, numC d1 = (v, b) := ⟨_, _, rfl⟩
          obtain ⟨v2, b2, hv2⟩ : ∃ v b, numC d2 = (v, b) := ⟨_, _, rfl⟩
          rw [hv1] at HN1 HPC
          rw [hv2] at HN2 HPC
          clear hd hdl hne hv1 hv2 HPB
          go_wp2_with fail
          refine (HC2.out (w2.setCell ⟨w.heap.size + 1, 2, none⟩ (.int .i64 v0)) hl1 (HM.out _ HB3.out)).mono ?_
          rintro e w4 ⟨rfl, n4, rfl⟩
          have HB4 := Lib.hid (HB3.out.trans (show Below w.heap.size (w2.setCell ⟨w.heap.size + 1, 2, none⟩ (.int .i64 v0)) ((w2.setCell ⟨w.heap.size + 1, 2, none⟩ (.int .i64 v0)).drewN n4) from below_dn ⟨_, rfl⟩))
          have HX4 := Lib.hid (show ((w2.setCell ⟨w.heap.size + 1, 2, none⟩ (.int .i64 v0)).drewN n4).heap[w.heap.size]? = _ from HX3.out)
          have HP4 := Lib.hid (show ((w2.setCell ⟨w.heap.size + 1, 2, none⟩ (.int .i64 v0)).drewN n4).heap[w.heap.size + 1]? = _ from HP3.out)
          clear HC2 HX3 HP3 HB3
          clear x0 x1 x2 y0 y1 y2 p0 p1 p2 r0 r1 r2
          generalize (w2.setCell ⟨w.heap.size + 1, 2, none⟩ (.int .i64 v0)).drewN n4 = w4 at *
          go_wp2_with fail
          refine (HN1.out w4).mono ?_
          rintro e w5 ⟨rfl, hb5⟩
          have HB5 := Lib.hid (HB4.out.trans (hb5.mono HB4.out.size))
          have HX5 := Lib.hid (heap_below HX4.out hb5)
          have HP5 := Lib.hid (heap_below HP4.out hb5)
          clear hb5 HX4 HP4 HB4 HN1
          obtain ⟨x0, x1, x2, y0, y1, y2⟩ := cells_of3 HX5.out
          obtain ⟨p0, p1, p2, r0, r1, r2⟩ := cells_of3 HP5.out
          cases b1 with
          | false =>
            have HR := Lib.hid (show partS s = none by rw [HPC.out]; simp)
            clear HPC
            go_wp2_with fail
            refine bodyPost_ret (v := .tuple #[.agg #[.int .i64 v1, .int .i64 (-1), .int .i64 v0], .bool (partS s).isSome]) ?_ rfl ⟨⟨v1, (-1), v0⟩, rfl, ?_, ?_⟩
            · rw [HR.out]
              simp [results, Tryz.results137, go_sem, x0, x1, x2, p0, p1, p2]
            · rw [HR.out]; intro q hq; first | (cases hq; done) | (injection hq)
            · exact ((HB5.out.setCell (p := ⟨w.heap.size + 1, 0, none⟩) (by simp) _).setCell (Nat.le_refl _) _).setCell (Nat.le_refl _) _ |>.setCell (Nat.le_refl _) _
          | true =>
            cases g with
            | false =>
              have HR := Lib.hid (show partS s = some ⟨v1, -1, v0⟩ by rw [HPC.out]; simp)
              clear HPC
              go_wp2_with fail
              refine bodyPost_ret (v := .tuple #[.agg #[.int .i64 v1, .int .i64 (-1), .int .i64 v0], .bool (partS s).isSome]) ?_ rfl ⟨⟨v1, (-1), v0⟩, rfl, ?_, ?_⟩
              · rw [HR.out]
                simp [results, Tryz.results137, go_sem, x0, x1, x2, p0, p1, p2]
              · rw [HR.out]; intro q hq; first | (cases hq; done) | (injection hq)
              · exact ((HB5.out.setCell (p := ⟨w.heap.size + 1, 0, none⟩) (by simp) _).setCell (Nat.le_refl _) _).setCell (Nat.le_refl _) _ |>.setCell (Nat.le_refl _) _
            | true =>
              have hW := HB5.out.setCell (p := ⟨w.heap.size + 1, 0, none⟩) (by simp) (.int .i64 v1)
              have hX := heap_other HX5.out (a := ⟨w.heap.size + 1, 0, none⟩) (by simp) (.int .i64 v1)
              have hP := heap_setCell HP5.out 0 (.int .i64 v1)
              have HWk := Lib.hid hW; have HXk := Lib.hid hX
              have HPk := Lib.hid (show (w5.setCell ⟨w.heap.size + 1, 0, none⟩ (.int .i64 v1)).heap[w.heap.size + 1]? = some (.cells #[.int .i64 v1, .int .i64 (-1), .int .i64 v0] 115 (0, 0)) from hP)
              clear hW hX hP
              go_wp2_with fail
              refine (HN2.out (w5.setCell ⟨w.heap.size + 1, 0, none⟩ (.int .i64 v1))).mono ?_
              rintro e w6 ⟨rfl, hb6⟩
              have HB6 := Lib.hid (HWk.out.trans (hb6.mono HWk.out.size))
              have HX6 := Lib.hid (heap_below HXk.out hb6)
              have HP6 := Lib.hid (heap_below HPk.out hb6)
              clear x0 x1 x2 y0 y1 y2 p0 p1 p2 r0 r1 r2
              clear hb6 HX5 HP5 HB5 HN2 HWk HXk HPk
              obtain ⟨x0, x1, x2, y0, y1, y2⟩ := cells_of3 HX6.out
              obtain ⟨p0, p1, p2, r0, r1, r2⟩ := cells_of3 HP6.out
              cases b2 with
              | false =>
                have HR := Lib.hid (show partS s = none by rw [HPC.out]; simp)
                clear HPC
                go_wp2_with fail
                refine bodyPost_ret (v := .tuple #[.agg #[.int .i64 v1, .int .i64 v2, .int .i64 v0], .bool (partS s).isSome]) ?_ rfl ⟨⟨v1, v2, v0⟩, rfl, ?_, ?_⟩
                · rw [HR.out]
                  simp [results, Tryz.results137, go_sem, x0, x1, x2, p0, p1, p2]
                · rw [HR.out]; intro q hq; first | (cases hq; done) | (injection hq)
                · exact ((HB6.out.setCell (p := ⟨w.heap.size + 1, 1, none⟩) (by simp) _).setCell (Nat.le_refl _) _).setCell (Nat.le_refl _) _ |>.setCell (Nat.le_refl _) _
              | true =>
                have HR := Lib.hid (show partS s = some ⟨v1, v2, v0⟩ by rw [HPC.out]; simp)
                clear HPC
                go_wp2_with fail
                refine bodyPost_ret (v := .tuple #[.agg #[.int .i64 v1, .int .i64 v2, .int .i64 v0], .bool (partS s).isSome]) ?_ rfl ⟨⟨v1, v2, v0⟩, rfl, ?_, ?_⟩
                · rw [HR.out]
                  simp [results, Tryz.results137, go_sem, x0, x1, x2, p0, p1, p2]
                · rw [HR.out]; intro q hq; first | (cases hq; done) | (injection hq)
                · exact ((HB6.out.setCell (p := ⟨w.heap.size + 1, 1, none⟩) (by simp) _).setCell (Nat.le_refl _) _).setCell (Nat.le_refl _) _ |>.setCell (Nat.le_refl _) _
end Go.Proofs.YtdpnahojhmkemaaGreatDoor

/-
  Package cal: parts.
-/
namespace Go.Proofs.YtdpnahojhmkemaaGreatDoor
open Go Go.RowKit Go.Shelf
set_option linter.unusedVariables false
set_option linter.unusedSimpArgs false
set_option maxRecDepth 100000
attribute [local go_sem] Oper.semAt_some

theorem infoPart : (Tryz.prog.info? 115).map (fun i => (i.zero, i.size, i.bytes)) = some (some (.agg #[.int .i64 0, .int .i64 0, .int .i64 0]), 3, 24) := by kernel_rfl
theorem partsL_snoc : ∀ (l : List Str) (x : Str), partsL (l ++ [x]) = match partsL l with
    | none => none
    | some r => (partS x).map fun p => r ++ [p]
  | [], x => by
    simp only [List.nil_append, partsL]
    cases partS x <;> rfl
  | y :: t, x => by
    rw [List.cons_append, partsL, partsL_snoc t x, partsL]
    cases partS y with
    | none => rfl
    | some p =>
      cases partsL t with
      | none => rfl
      | some r => cases partS x <;> rfl
theorem partsL_none : ∀ (l m : List Str), partsL l = none → partsL (l ++ m) = none
  | [], m, h => by simp [partsL] at h
  | y :: t, m, h => by
    rw [List.cons_append, partsL]
    rw [partsL] at h
    cases hp : partS y with
    | none => rfl
    | some p =>
      rw [hp] at h
      simp only at h ⊢
      rw [partsL_none t m (by cases ht : partsL t with | none => rfl | some r => rw [ht] at h; simp at h)]
      rfl
theorem partsL_len : ∀ (l : List Str) ps, partsL l = some ps → ps.length = l.length
  | [], ps, h => by simp [partsL] at h; subst h; rfl
  | y :: t, ps, h => by
    rw [partsL] at h
    cases hp : partS y with
    | none => rw [hp] at h; simp at h
    | some p =>
      rw [hp] at h
      cases hr : partsL t with
      | none => rw [hr] at h; simp at h
      | some r => rw [hr] at h; simp at h; subst h; simp [partsL_len t r hr]

/-- An append in a round, whose run is known. -/
theorem lIn_append_run {F : Fence} {n : Nat} {P : Program} {w : World} {ops : Array Oper} {rest : List Oper} {o : Oper} {a : Act} {Q : Exit → Act → World → Prop} (hg : o.guard = none) (s x : Operand) (t : TypeId)
    (hop : o.op = Op.call { callee := Callee.builtin Builtin.append, args := #[s, x], argTypes := #[t, t] }) {v xv v' : Value} {w' : World} (hrun : (Builtin.append_ #[t, t] o.type #[v, xv]).run P w = .ok v' w') (hs : a.eval s = v) (hx : a.eval x = xv)
    (h : wpListIn F n P ops Q rest (a.put o.dst v') w') : wpListIn F n P ops Q (o :: rest) a w := by
  refine wpListIn_plain hg fun K hK' => ?_
  unfold Oper.wpIn
  refine ⟨?_, ?_⟩
  · simp [Oper.about, hop, resolve, Target.leads, Sem.run_pure]
  · rw [Oper.semAt_plain F _ _ (by rw [hop]; intro c hc'; cases hc')]
    simp [execOp, hop, resolve, invoke, builtin, hs, hx, hrun, Result.andThen]
    exact hK' _ _ h
theorem keeps_of_below {W W' : World} (h : Below W.heap.size W W') (N : Nat) : KeepsFrom N W W' := ⟨h.size, fun k o _ hk _ => (h.block k (lt_heap hk)).trans hk⟩
theorem own_built3' (w : World) (p : PartS) : (w.alloc (.cells #[.int .i64 p.from_, .int .i64 p.to_, .int .i64 p.step] 115)).ownsRow w.heap.size 115 3 (.slice (some ⟨w.heap.size, 0, none⟩) 1 1) 1 (encPt p) :=
  own_built3 w _ _ _ _
/-- Between two rounds. -/
structure InP (w : World) (B N : Nat) (pre : List Str) (W : World) : Prop where
  r0 : W.heap[B]? = some (.cells #[.slice none 0 0] 65 (0, 0))
  r1 : W.heap[B + 1]? = some (.cells #[.bool false] 4 (0, 0))
  out : ∃ v ps, W.heap[B + 2]? = some (.cells #[v] 65 (0, 0)) ∧ partsL pre = some ps ∧ W.ownsRow N 115 3 v ps.length (flatL encPt ps)
  below : Below B w W
  big : N ≤ W.heap.size
/-- Where a round has left. -/
structure ExP (w : World) (B : Nat) (xs : List Str) (c : Code) (W : World) : Prop where
  jump : c = .ret
  r0 : W.heap[B]? = some (.cells #[.slice none 0 0] 65 (0, 0))
  r1 : W.heap[B + 1]? = some (.cells #[.bool false] 4 (0, 0))
  none_ : partsL xs = none
  below : Below B w W
theorem soft_cell {A B : World} {row : Option Nat} {N b k : Nat} {o : Obj} (hg : A.grownBy B row) (hr : ∀ r, row = some r → r = b ∨ (N ≤ r ∧ ∃ o : Obj, A.heap[r]? = some o ∧ o.isCells = false)) (hk : A.heap[k]? = some o) (hc : o.isCells = true) (hb : k ≠ b) : B.heap[k]? = some o := by
  refine (hg.block k (lt_heap hk) (fun e => ?_)).trans hk
  rcases hr k e.symm with h | ⟨_, o', h1, h2⟩
  · exact hb h
  · rw [hk] at h1; cases h1; rw [hc] at h2; cases h2
theorem soft_own {A B : World} {row : Option Nat} {N b e size n : Nat} {v : Value} {xs : List Value} (hg : A.grownBy B row) (hr : ∀ r, row = some r → r = b ∨ (N ≤ r ∧ ∃ o : Obj, A.heap[r]? = some o ∧ o.isCells = false)) (h : A.ownsRow N e size v n xs) (hb : b < N) : B.ownsRow N e size v n xs := by
  refine ⟨h.1, ?_⟩
  rcases h.2 with hn | ⟨g, cap, cur, rfl, hgN, hgg, rest⟩
  · exact .inl hn
  · exact .inr ⟨g, cap, cur, rfl, hgN, soft_cell hg hr hgg rfl (by omega), rest⟩
theorem soft_below {w A B : World} {row : Option Nat} {N b C : Nat} (hg : A.grownBy B row) (hr : ∀ r, row = some r → r = b ∨ (N ≤ r ∧ ∃ o : Obj, A.heap[r]? = some o ∧ o.isCells = false)) (h : Below C w A) (hb : C ≤ b) (hN : C ≤ N) (hC : C ≤ A.heap.size) : Below C w B :=
  h.grown hg hC (fun k e => by rcases hr k e with h | ⟨h, _⟩ <;> omega)
theorem soft_InP (w : World) (B N b : Nat) (hw : B = w.heap.size) (hb : B + 2 < b) (hN : b < N) : Soft N b (InP w B N) := fun s X Y row h hg hr =>
  { r0 := soft_cell hg hr h.r0 rfl (by omega)
    r1 := soft_cell hg hr h.r1 rfl (by omega)
    out := by obtain ⟨v, ps, h1, h2, h3⟩ := h.out; exact ⟨v, ps, soft_cell hg hr h1 rfl (by omega), h2, soft_own hg hr h3 hN⟩
    below := soft_below hg hr h.below (by omega) (by omega) (by have := h.below.size; omega)
    big := Nat.le_trans h.big hg.size }
theorem soft_ExP (w : World) (B N b : Nat) (xs : List Str) (c : Code) (hw : B = w.heap.size) (hb : B + 2 < b) (hN : b < N) : Soft N b (fun (_ : List Str) => ExP w B xs c) := fun s X Y row h hg hr =>
  { jump := h.jump
    r0 := soft_cell hg hr h.r0 rfl (by omega)
    r1 := soft_cell hg hr h.r1 rfl (by omega)
    none_ := h.none_
    below := soft_below hg hr h.below (by omega) (by omega) (by have := h.below.size; omega) }

/-- What parts gives back. -/
def PartsOut (w : World) (s : Str) (e : Ending) (w' : World) : Prop :=
  ∃ v, e = .returned (.tuple #[v, .bool (ptsS s).isSome]) ∧ w'.ownsRow w.heap.size 115 3 v ((ptsS s).getD []).length (flatL encPt ((ptsS s).getD [])) ∧ Below w.heap.size w w'

set_option maxHeartbeats 8000000 in
theorem pts_any (s : Str) (w : World) (hs : s.length ≤ 100000000) (hM : MaxAt w) : Calls Tryz.prog 111 #[.string ⟨s.toArray⟩] w fun e w' => PartsOut w s e w' := by
  have HM := Lib.hid (fun V (h : Below w.heap.size w V) => hM.below h)
  have HLN := Lib.hid (splitC_len 44 s)
  have HMEM := Lib.hid (splitC_mem 44 s)
  let w0 := ((w.alloc (.cells #[.slice none 0 0] 65)).alloc (.cells #[.bool false] 4)).alloc (.cells #[.slice none 0 0] 65)
  have hz0 : w0.heap.size = w.heap.size + 3 := by simp [w0]
  have hB0 : Below w.heap.size w w0 := (((Below.refl _ _).alloc (Nat.le_refl _) _).alloc (by simp) _).alloc (by simp; omega) _
  have a0 : w0.heap[w.heap.size]? = some (.cells #[.slice none 0 0] 65 (0, 0)) := heap_alloc (heap_alloc (heap_alloc_new w _) _) _
  have a1 : w0.heap[w.heap.size + 1]? = some (.cells #[.bool false] 4 (0, 0)) := by
    rw [← show (w.alloc (.cells #[.slice none 0 0] 65)).heap.size = w.heap.size + 1 by simp]; exact heap_alloc (heap_alloc_new _ _) _
  have a2 : w0.heap[w.heap.size + 2]? = some (.cells #[.slice none 0 0] 65 (0, 0)) := by
    rw [← show ((w.alloc (.cells #[.slice none 0 0] 65)).alloc (.cells #[.bool false] 4)).heap.size = w.heap.size + 2 by simp]; exact heap_alloc_new _ _
  have HSQ := Lib.hid (splitSeq_any 44 s w0)
  obtain ⟨pl, hbs, hzs⟩ := splitW_place w0 44 s
  have HPL := Lib.hid pl
  have HI0 := Lib.hid (show InP w w.heap.size (splitW w0 44 s).heap.size [] (splitW w0 44 s) from
    { r0 := heap_below a0 hbs, r1 := heap_below a1 hbs, out := ⟨_, [], heap_below a2 hbs, rfl, World.ownsRow_nil _ _ _ _⟩, below := hB0.trans (hbs.mono (by omega)), big := Nat.le_refl _ })
  clear a0 a1 a2 pl hbs hB0 hM
  have HZ0 := Lib.hid hz0
  refine (callsIn_wide (n := 9)).1 ?_
  have hF : Fence.wide.fn 106 := trivial
  have hF2 : Fence.wide.fn 137 := trivial
  refine callsIn_of_wp_marks Tryz.func111 rfl trivial ?_ rfl
  simp only [Tryz.ntmps111, List.size_toArray, List.length_cons, List.length_nil, Nat.reduceAdd, Nat.reduceSub, Array.replicate_succ, Array.replicate_zero, List.push_toArray, List.append_toArray, List.nil_append, List.cons_append]
  gi_wp2_with (gi_at_call 106; refine (callsIn_wide.2 HSQ.out).mono ?_; rintro e w' ⟨rfl, rfl⟩)
  refine wp_rangeBox (n := 9) (gf := 159) (lb := #[.pointer (some ⟨w.heap.size + 3 + 1, 0, none⟩), .pointer (some ⟨w.heap.size + 3, 0, none⟩), .pointer (some ⟨w.heap.size + 3 + 2, 0, none⟩)]) rfl enters_split1
    (split_stops 8 (w.heap.size + 3) (by decide) 44 s (splitW w0 44 s) (by rw [← hz0]; exact HPL.out) (by omega)) (by omega)
    (fun A o h => KpB.of_below ((Below.refl _ A).alloc (Nat.le_refl _) o) (by omega)) (fun h k => KpB.trans h k)
    (fun W l o h => ⟨by simp, fun k hk => World.putObj_heap_other (by omega)⟩) rfl
    (InP w w.heap.size (splitW w0 44 s).heap.size) (fun c _ => ExP w w.heap.size (splitC 44 s) c)
    (soft_InP w w.heap.size _ (w.heap.size + 3) rfl (by omega) (by omega)) (fun c => soft_ExP w w.heap.size _ (w.heap.size + 3) _ c rfl (by omega) (by omega)) HI0.out
    (fun x => { tmps := #[.string ⟨s.toArray⟩, undef, .pointer (some ⟨w.heap.size, 0, none⟩), .pointer (some ⟨w.heap.size + 1, 0, none⟩), .pointer (some ⟨w.heap.size + 1 + 1, 0, none⟩), .string ⟨x.toArray⟩, undef, undef, .string ⟨s.toArray⟩,
      .func (.func 159) #[] #[.pointer (some ⟨w.heap.size + 3 + 1, 0, none⟩), .pointer (some ⟨w.heap.size + 3, 0, none⟩), .pointer (some ⟨w.heap.size + 3 + 2, 0, none⟩)], .string ⟨x.toArray⟩, undef, undef, undef, undef, undef, undef, undef, undef, undef, undef, undef, undef], defers := [] }) ?assign ?body ?done ?stop
  case assign =>
    intro l x W K hK
    gi_wp2
    exact hK
  case body =>
    rintro l pre x post W hx hI
    have hF3 : (Fence.wide.inRound l).fn 137 := trivial
    have hxl : x.length ≤ s.length := HMEM.out x (by rw [hx]; simp)
    have HPT := Lib.hid (part_any x W (by omega) (HM.out W hI.below))
    have HI := Lib.hid hI; have HX := Lib.hid hx
    obtain ⟨N, hN⟩ : ∃ N, N = (splitW w0 44 s).heap.size := ⟨_, rfl⟩
    rw [← hN] at HI ⊢
    have HNw := Lib.hid (show N = w.heap.size + 6 by omega)
    have HWS := Lib.hid (fun V (h : InP w w.heap.size N pre V) => show N ≤ V.heap.size from h.big)
    clear hI hx hN hzs HPL HI0 HSQ hz0 HZ0
    gi_wp2_with fail
    refine (CallsIn.inRound l (callsIn_wide.2 HPT.out)).mono ?_
    rintro e W1 ⟨⟨pf, pt, pst⟩, rfl, hp, hb1⟩
    have r0 := heap_below HI.out.r0 hb1; have r1 := heap_below HI.out.r1 hb1
    obtain ⟨v, ps, h2, hpl, hown⟩ := HI.out.out
    have r2 := heap_below h2 hb1
    have HOW := Lib.hid (own_keeps hown hb1)
    have HBW := Lib.hid (HI.out.below.trans (hb1.mono HI.out.below.size))
    have HKP := Lib.hid (show KpB (w.heap.size + 3) W W1 from KpB.of_below hb1 (by have := HI.out.below.size; have := lt_heap h2; have := HWS.out W HI.out; have := HNw.out; omega))
    have HKF := Lib.hid (keeps_of_below hb1 N)
    have HSN := Lib.hid (partsL_snoc pre x)
    have HR0 := Lib.hid r0; have HR1 := Lib.hid r1; have HR2 := Lib.hid r2
    have HLT := Lib.hid (show N ≤ W1.heap.size from Nat.le_trans (HWS.out W HI.out) hb1.size)
    obtain ⟨a0, a1, a2, a3⟩ := rd r0; obtain ⟨b0, b1, b2, b3⟩ := rd r1; obtain ⟨d0, d1, d2, d3⟩ := rd r2
    have a00 := a0 0; have b00 := b0 0; have d00 := d0 0; have a10 := a1 0; have b10 := b1 0; have d10 := d1 0
    simp only [List.getElem?_toArray, List.getElem?_cons_zero] at a00 b00 d00
    clear r0 r1 r2 a0 a1 a2 b0 b1 b2 d0 d1 d2 h2 hown hb1 HPT
    cases hps : partS x with
    | none =>
      have HNO := Lib.hid (show partsL (splitC 44 s) = none by
        rw [HX.out, show pre ++ x :: post = (pre ++ [x]) ++ post by simp]
        refine partsL_none _ _ ?_
        rw [HSN.out, hpl, hps]; rfl)
      clear hps hp hpl
      simp only [Option.isSome_none]
      have q0 := HR0.out; have q1 := HR1.out
      let V2 := (W1.setCell ⟨w.heap.size, 0, none⟩ (.slice none 0 0)).setCell ⟨w.heap.size + 1, 0, none⟩ (.bool false)
      have hV2 : V2.heap.size = W1.heap.size := by simp [V2]
      have HFIN := Lib.hid (show KeepsFrom N W (V2.alloc (.cells #[.int .i64 pf, .int .i64 pt, .int .i64 pst] 115)) ∧ ExP w w.heap.size (splitC 44 s) .ret (V2.alloc (.cells #[.int .i64 pf, .int .i64 pt, .int .i64 pst] 115)) from
        ⟨HKF.out.trans ((((KeepsOthers.setCell _ _ _).trans (KeepsOthers.setCell _ _ _)).trans (KeepsOthers.alloc _ _)).from N),
          { jump := rfl
            r0 := heap_alloc (heap_other (heap_setCell q0 0 (.slice none 0 0)) (a := ⟨w.heap.size + 1, 0, none⟩) (by simp) _) _
            r1 := heap_alloc (heap_setCell (heap_other q1 (a := ⟨w.heap.size, 0, none⟩) (by simp) _) 0 (.bool false)) _
            none_ := HNO.out
            below := ((HBW.out.setCell (p := ⟨w.heap.size, 0, none⟩) (Nat.le_refl _) _).setCell (p := ⟨w.heap.size + 1, 0, none⟩) (by simp) _).alloc (by have := HBW.out.size; simp; omega) _ }⟩)
      clear q0 q1 hV2
      gi_wp2_with fail
      exact HFIN.out
    | some q =>
      obtain rfl := hp q hps
      obtain ⟨i0, hi0, hz0, hz1, hz2⟩ := info_parts infoPart
      obtain ⟨oa, cap, rfl⟩ := ownsRow_form HOW.out
      have hpn : ps.length ≤ 100000001 := by
        rw [partsL_len _ _ hpl]
        have h1 := HLN.out
        rw [HX.out] at h1
        simp at h1
        omega
      let V1 := (W1.alloc (.cells #[.int .i64 pf, .int .i64 pt, .int .i64 pst] 115)).alloc (.cells #[.int .i64 pf, .int .i64 pt, .int .i64 pst] 115)
      have hB1 : Below W1.heap.size W1 V1 := ((Below.refl _ _).alloc (Nat.le_refl _) _).alloc (by simp) _
      have hbl := RowRd.of_own (enc := encPt) (k := 3) (l := [⟨pf, pt, pst⟩]) (oa := some ⟨W1.heap.size + 1, 0, none⟩) (cap := 1) (fun _ => rfl) (by
        have := own_built3' (W1.alloc (.cells #[.int .i64 pf, .int .i64 pt, .int .i64 pst] 115)) ⟨pf, pt, pst⟩
        rw [show (W1.alloc (.cells #[.int .i64 pf, .int .i64 pt, .int .i64 pst] 115)).heap.size = W1.heap.size + 1 by simp] at this
        exact this)
      obtain ⟨v', w4, hrun, hown4, hgrow⟩ := append_rows (P := Tryz.prog) N 65 65 115 i0 (.agg #[.int .i64 0, .int .i64 0, .int .i64 0]) 3 24 Tryz.underlying65 hi0 hz0 hz1 hz2 (by rfl) (by decide) _ _ _ (own_keeps HOW.out hB1) (some ⟨W1.heap.size + 1, 0, none⟩) 1 1 (flatL encPt [⟨pf, pt, pst⟩]) rfl (RowRd.flat (enc := encPt) (k := 3) (fun _ => rfl) (by omega) hbl) (flatL_oneCell encPt_one _) (by unfold maxLen; omega) (by omega) (Nat.le_trans HLT.out hB1.size)
      have HRUN := Lib.hid hrun
      obtain ⟨oa3, cap3, rfl⟩ := ownsRow_form hown4
      have hge : ∀ g, (Value.slice oa ps.length cap).ownBlock = some g → N ≤ g := fun g hg => (HOW.out.lt g hg).1
      have hat : ∀ k o, k < N → W1.heap[k]? = some o → w4.heap[k]? = some o := fun k o hk ho => (hgrow.block k (lt_heap (heap_below ho hB1)) (fun e => by have := hge k e.symm; omega)).trans (heap_below ho hB1)
      have hNw := HNw.out
      have q0 := hat _ _ (by omega) HR0.out; have q1 := hat _ _ (by omega) HR1.out; have q2 := hat _ _ (by omega) HR2.out
      have HC2 := Lib.hid (heap_setCell q2 0 (.slice oa3 (ps.length + 1) cap3))
      have hbel : Below w.heap.size w w4 := (HBW.out.trans (hB1.mono HBW.out.size)).grown hgrow (by have := HLT.out; have := hB1.size; omega) (fun g hg => by have := hge g hg; omega)
      have hkf : KeepsFrom N W w4 := HKF.out.trans ((keeps_of_below hB1 N).trans ((KeepsOthers.of_grownBy hgrow (fun k o hk ho => by
        rcases (own_keeps HOW.out hB1).2 with ⟨hv, _⟩ | ⟨g, cp, cur, hv, _, hgg, _⟩
        · rw [hv] at hk; simp [Value.ownBlock] at hk
        · rw [hv] at hk; simp [Value.ownBlock] at hk; subst hk; rw [hgg] at ho; cases ho; rfl)).from N))
      have hkp : KpB (w.heap.size + 3) W w4 := HKP.out.trans ((KpB.of_below hB1 (by have := HLT.out; omega)).trans ⟨hgrow.size, fun k hk => hgrow.block k (by have := HLT.out; have := hB1.size; omega) (fun e => by have := hge k e.symm; omega)⟩)
      have HFIN := Lib.hid (show KeepsFrom N W (w4.setCell ⟨w.heap.size + 2, 0, none⟩ (.slice oa3 (ps.length + 1) cap3)) ∧ KpB (w.heap.size + 3) W (w4.setCell ⟨w.heap.size + 2, 0, none⟩ (.slice oa3 (ps.length + 1) cap3)) ∧ InP w w.heap.size N (pre ++ [x]) (w4.setCell ⟨w.heap.size + 2, 0, none⟩ (.slice oa3 (ps.length + 1) cap3)) from
        ⟨hkf.trans ((KeepsOthers.setCell _ _ _).from N), hkp.trans ⟨by simp, fun k hk => Below.heap_setCell _ _ _ k (by show k ≠ w.heap.size + 2; omega)⟩,
          { r0 := heap_other q0 (a := ⟨w.heap.size + 2, 0, none⟩) (by simp) _
            r1 := heap_other q1 (a := ⟨w.heap.size + 2, 0, none⟩) (by simp) _
            out := ⟨_, ps ++ [⟨pf, pt, pst⟩], HC2.out, by rw [HSN.out, hpl, hps]; rfl, by
              rw [List.length_append, flatL_append]
              exact ownsRow_fr hown4 (M := fun k => k = w.heap.size + 2) (Fr.setCell (M := fun k => k = w.heap.size + 2) (p := ⟨w.heap.size + 2, 0, none⟩) (Fr.refl _ _) (fun _ => rfl) _) (fun k hk hr => by
                rintro rfl
                obtain ⟨cs, fz, h5⟩ := hr
                rw [q2] at h5
                simp at h5)⟩
            below := hbel.setCell (p := ⟨w.heap.size + 2, 0, none⟩) (by simp) _
            big := by have := HLT.out; have := hB1.size; have := hgrow.size; simp; omega }⟩)
      obtain ⟨e0, e1, e2, e3⟩ := rd q2
      have e00 := e0 0; have e10 := e1 0
      simp only [List.getElem?_toArray, List.getElem?_cons_zero] at e00
      clear hps hp hbel hkf hkp hge hat q0 q1 q2 hrun hown4 hgrow hbl hpl hB1 e0 e1 e2 HC2
      simp only [Option.isSome_some]
      gi_wp2_with (gi_at_builtin; refine lIn_append_run rfl _ _ 65 rfl HRUN.out rfl rfl ?_)
      exact HFIN.out
  case done =>
    rintro D W hD hI hK
    obtain ⟨v, ps, h2, hpl, hown⟩ := hI.out
    obtain ⟨oa, cap, rfl⟩ := ownsRow_form hown
    have hr : ptsS s = some ps := hpl
    have hNw : (splitW w0 44 s).heap.size = w.heap.size + 6 := by omega
    obtain ⟨N, hN⟩ : ∃ N, N = (splitW w0 44 s).heap.size := ⟨_, rfl⟩
    rw [← hN] at hown hD hI hNw
    obtain ⟨a0, a1, a2, a3⟩ := rd hI.r0; obtain ⟨b0, b1, b2, b3⟩ := rd hI.r1; obtain ⟨d0, d1, d2, d3⟩ := rd h2
    have a00 := a0 0; have b00 := b0 0; have d00 := d0 0; have a10 := a1 0; have b10 := b1 0; have d10 := d1 0
    simp only [List.getElem?_toArray, List.getElem?_cons_zero] at a00 b00 d00
    let V := (W.setCell ⟨w.heap.size, 0, none⟩ (.slice oa ps.length cap)).setCell ⟨w.heap.size + 1, 0, none⟩ (.bool true)
    have hKV : V.heap[D]? = some (.deferred (some [])) := by
      show ((W.setCell ⟨w.heap.size, 0, none⟩ (.slice oa ps.length cap)).setCell ⟨w.heap.size + 1, 0, none⟩ (.bool true)).heap[D]? = _
      rw [Below.heap_setCell _ _ _ D (by show D ≠ w.heap.size + 1; omega), Below.heap_setCell _ _ _ D (by show D ≠ w.heap.size; omega)]
      exact hK
    have f0 : V.heap[w.heap.size]? = some (.cells #[.slice oa ps.length cap] 65 (0, 0)) := heap_other (heap_setCell hI.r0 0 (.slice oa ps.length cap)) (a := ⟨w.heap.size + 1, 0, none⟩) (by simp) _
    have f1 : V.heap[w.heap.size + 1]? = some (.cells #[.bool true] 4 (0, 0)) := heap_setCell (heap_other hI.r1 (a := ⟨w.heap.size, 0, none⟩) (by simp) _) 0 (.bool true)
    have hbV : Below w.heap.size w V := (hI.below.setCell (p := ⟨w.heap.size, 0, none⟩) (Nat.le_refl _) _).setCell (p := ⟨w.heap.size + 1, 0, none⟩) (by simp) _
    have hoV : V.ownsRow N 115 3 (.slice oa ps.length cap) ps.length (flatL encPt ps) := by
      refine ownsRow_fr hown (M := fun k => k = w.heap.size ∨ k = w.heap.size + 1) (Fr.setCell (M := fun k => k = w.heap.size ∨ k = w.heap.size + 1) (p := ⟨w.heap.size + 1, 0, none⟩) (Fr.setCell (M := fun k => k = w.heap.size ∨ k = w.heap.size + 1) (p := ⟨w.heap.size, 0, none⟩) (Fr.refl _ _) (fun _ => .inl rfl) _) (fun _ => .inr rfl) _) ?_
      rintro g hg - (rfl | rfl)
      · have := (hown.lt _ hg).1; omega
      · have := (hown.lt _ hg).1; omega
    have g0 : (V.putObj D (.deferred none)).heap[w.heap.size]? = some (.cells #[.slice oa ps.length cap] 65 (0, 0)) := (World.putObj_heap_other (by omega)).trans f0
    have g1 : (V.putObj D (.deferred none)).heap[w.heap.size + 1]? = some (.cells #[.bool true] 4 (0, 0)) := (World.putObj_heap_other (by omega)).trans f1
    have HG0 := Lib.hid g0; have HG1 := Lib.hid g1; have HKV := Lib.hid hKV
    have HEND := Lib.hid (show Below w.heap.size w (V.putObj D (.deferred none)) ∧ (V.putObj D (.deferred none)).ownsRow w.heap.size 115 3 (.slice oa ps.length cap) ps.length (flatL encPt ps) from
      ⟨hbV.grown (grownBy_putObj' V D _) (by have := hI.below.size; simp [V]; omega) (fun k e => by cases e; omega), by
        have := ownsRow_putObj hoV (.deferred none) hKV rfl
        refine ⟨this.1, ?_⟩
        rcases this.2 with hn | ⟨g, cp, cur, hv, hb, rest⟩
        · exact .inl hn
        · exact .inr ⟨g, cp, cur, hv, by omega, rest⟩⟩)
    have HR := Lib.hid hr
    clear hK hKV f0 f1 hbV hoV g0 g1 hown h2 hI hr a0 a1 a2 b0 b1 b2 d0 d1 d2 hpl HI0 HPL HSQ
    gi_wp2_with fail
    refine ⟨by simp, .inl ⟨_, _, rfl, run_takeDeferred HKV.out, ?_⟩⟩
    obtain ⟨c0, -, -, -⟩ := rd HG0.out; obtain ⟨c1, -, -, -⟩ := rd HG1.out
    have c00 := c0 0; have c10 := c1 0
    simp only [List.getElem?_toArray, List.getElem?_cons_zero, V] at c00 c10
    refine ⟨.tuple #[.slice oa ps.length cap, .bool true], ?_, ?_⟩
    · simp [results, Tryz.results111, go_sem, c00, c10]
    · exact ⟨_, by rw [HR.out]; rfl, by rw [HR.out]; exact HEND.out.2, HEND.out.1⟩
  case stop =>
    rintro D c pre W hD hE hK
    obtain rfl := hE.jump
    have hr : ptsS s = none := hE.none_
    have hNw : (splitW w0 44 s).heap.size = w.heap.size + 6 := by omega
    have hblt := lt_heap hK
    have g0 : (W.putObj D (.deferred none)).heap[w.heap.size]? = some (.cells #[.slice none 0 0] 65 (0, 0)) := (World.putObj_heap_other (by omega)).trans hE.r0
    have g1 : (W.putObj D (.deferred none)).heap[w.heap.size + 1]? = some (.cells #[.bool false] 4 (0, 0)) := (World.putObj_heap_other (by omega)).trans hE.r1
    have HG0 := Lib.hid g0; have HG1 := Lib.hid g1; have HKV := Lib.hid hK; have HR := Lib.hid hr
    have HEND := Lib.hid (show Below w.heap.size w (W.putObj D (.deferred none)) from hE.below.grown (grownBy_putObj' W D _) (by have := hE.below.size; omega) (fun k e => by cases e; omega))
    clear hK g0 g1 hE hr
    gi_wp2_with fail
    refine ⟨by simp, .inl ⟨_, _, rfl, run_takeDeferred HKV.out, ?_⟩⟩
    obtain ⟨c0, -, -, -⟩ := rd HG0.out; obtain ⟨c1, -, -, -⟩ := rd HG1.out
    have c00 := c0 0; have c10 := c1 0
    simp only [List.getElem?_toArray, List.getElem?_cons_zero] at c00 c10
    refine ⟨.tuple #[.slice none 0 0, .bool false], ?_, ?_⟩
    · simp [results, Tryz.results111, go_sem, c00, c10]
    · exact ⟨_, by rw [HR.out]; rfl, by rw [HR.out]; exact World.ownsRow_nil _ _ _ _, HEND.out⟩
end Go.Proofs.YtdpnahojhmkemaaGreatDoor

/-
  Package cal: lists, fill.
-/
namespace Go.Proofs.YtdpnahojhmkemaaGreatDoor
open Go Go.RowKit
set_option linter.unusedVariables false
set_option linter.unusedSimpArgs false
set_option maxRecDepth 100000

theorem own_base' {w : World} {B B' e size n : Nat} {v : Value} {xs : List Value} (h : w.ownsRow B e size v n xs) (hB : B' ≤ B) : w.ownsRow B' e size v n xs := by
  refine ⟨h.1, ?_⟩
  rcases h.2 with hn | ⟨g, cap, cur, rfl, hb, rest⟩
  · exact .inl hn
  · exact .inr ⟨g, cap, cur, rfl, Nat.le_trans hB hb, rest⟩
def listV (C : Nat) : Value := .agg #[.pointer (some ⟨C, 1, none⟩), .pointer (some ⟨C, 2, none⟩), .pointer (some ⟨C, 3, none⟩), .pointer (some ⟨C, 4, none⟩), .pointer (some ⟨C, 5, none⟩), .pointer (some ⟨C, 6, none⟩)]
theorem idx6 (C k : Nat) (hk : k < 6) (W : World) : (Instr.index 143 (listV C) (.int .i64 k)).run Tryz.prog W = .ok (.pointer (some ⟨C, k + 1, none⟩)) W := by
  match k, hk with
  | 0, _ => rfl
  | 1, _ => rfl
  | 2, _ => rfl
  | 3, _ => rfl
  | 4, _ => rfl
  | 5, _ => rfl
set_option maxHeartbeats 4000000 in
theorem lists_any (C : Nat) (w : World) : Calls Tryz.prog 112 #[.pointer (some ⟨C, 0, none⟩)] w fun e w' => e = .returned (listV C) ∧ Below w.heap.size w w' := by
  unfold listV
  have h0 := heap_alloc_new w (.cells #[.pointer none, .pointer none, .pointer none, .pointer none, .pointer none, .pointer none] 143)
  have hB := (Below.refl w.heap.size w).alloc (Nat.le_refl _) (.cells #[.pointer none, .pointer none, .pointer none, .pointer none, .pointer none, .pointer none] 143)
  have H0 := Lib.hid h0; have HB := Lib.hid hB
  clear h0 hB
  go_enter Tryz.func112, Tryz.ntmps112
  go_wp2_with fail
  generalize w.alloc (.cells #[.pointer none, .pointer none, .pointer none, .pointer none, .pointer none, .pointer none] 143) = w1 at *
  obtain ⟨K, hK⟩ : ∃ K, K = w.heap.size := ⟨_, rfl⟩
  have HKw := Lib.hid hK
  rw [← hK] at H0 HB ⊢
  clear hK
  refine wp_region_drawT (S := fun V => True) 18 (by kernel_rfl) (by kernel_rfl) trivial (fun hHeld => ?_)
  try simp only [Act.put, List.setIfInBounds_toArray, List.set_cons_zero, List.set_cons_succ]
  refine drawT_take (i := 0) (v := .pointer (some ⟨C, 0, none⟩)) (List.getElem?_toArray.trans rfl) (by kernel_rfl) (by kernel_rfl) (by kernel_rfl) (by kernel_rfl) (fun _ _ _ h => h) (Or.inl ⟨by rfl, fun W hW => by clear hW; go_simp⟩) (by assumption) ?_
  try simp only [Act.put, List.setIfInBounds_toArray, List.set_cons_zero, List.set_cons_succ]
  refine drawT_take (i := 1) (v := .pointer (some ⟨C, 0, none⟩)) (List.getElem?_toArray.trans rfl) (by kernel_rfl) (by kernel_rfl) (by kernel_rfl) (by kernel_rfl) (fun _ _ _ h => h) (Or.inl ⟨by rfl, fun W hW => by clear hW; go_simp⟩) (by assumption) ?_
  try simp only [Act.put, List.setIfInBounds_toArray, List.set_cons_zero, List.set_cons_succ]
  refine drawT_take (i := 2) (v := .pointer (some ⟨C, 1, none⟩)) (List.getElem?_toArray.trans rfl) (by kernel_rfl) (by kernel_rfl) (by kernel_rfl) (by kernel_rfl) (fun _ _ _ h => h) (Or.inl ⟨by rfl, fun W hW => by clear hW; go_simp⟩) (by assumption) ?_
  try simp only [Act.put, List.setIfInBounds_toArray, List.set_cons_zero, List.set_cons_succ]
  refine drawT_take (i := 3) (v := .pointer (some ⟨C, 0, none⟩)) (List.getElem?_toArray.trans rfl) (by kernel_rfl) (by kernel_rfl) (by kernel_rfl) (by kernel_rfl) (fun _ _ _ h => h) (Or.inl ⟨by rfl, fun W hW => by clear hW; go_simp⟩) (by assumption) ?_
  try simp only [Act.put, List.setIfInBounds_toArray, List.set_cons_zero, List.set_cons_succ]
  refine drawT_take (i := 4) (v := .pointer (some ⟨C, 0, none⟩)) (List.getElem?_toArray.trans rfl) (by kernel_rfl) (by kernel_rfl) (by kernel_rfl) (by kernel_rfl) (fun _ _ _ h => h) (Or.inl ⟨by rfl, fun W hW => by clear hW; go_simp⟩) (by assumption) ?_
  try simp only [Act.put, List.setIfInBounds_toArray, List.set_cons_zero, List.set_cons_succ]
  refine drawT_take (i := 5) (v := .pointer (some ⟨C, 2, none⟩)) (List.getElem?_toArray.trans rfl) (by kernel_rfl) (by kernel_rfl) (by kernel_rfl) (by kernel_rfl) (fun _ _ _ h => h) (Or.inl ⟨by rfl, fun W hW => by clear hW; go_simp⟩) (by assumption) ?_
  try simp only [Act.put, List.setIfInBounds_toArray, List.set_cons_zero, List.set_cons_succ]
  refine drawT_take (i := 6) (v := .pointer (some ⟨C, 0, none⟩)) (List.getElem?_toArray.trans rfl) (by kernel_rfl) (by kernel_rfl) (by kernel_rfl) (by kernel_rfl) (fun _ _ _ h => h) (Or.inl ⟨by rfl, fun W hW => by clear hW; go_simp⟩) (by assumption) ?_
  try simp only [Act.put, List.setIfInBounds_toArray, List.set_cons_zero, List.set_cons_succ]
  refine drawT_take (i := 7) (v := .pointer (some ⟨C, 0, none⟩)) (List.getElem?_toArray.trans rfl) (by kernel_rfl) (by kernel_rfl) (by kernel_rfl) (by kernel_rfl) (fun _ _ _ h => h) (Or.inl ⟨by rfl, fun W hW => by clear hW; go_simp⟩) (by assumption) ?_
  try simp only [Act.put, List.setIfInBounds_toArray, List.set_cons_zero, List.set_cons_succ]
  refine drawT_take (i := 8) (v := .pointer (some ⟨C, 3, none⟩)) (List.getElem?_toArray.trans rfl) (by kernel_rfl) (by kernel_rfl) (by kernel_rfl) (by kernel_rfl) (fun _ _ _ h => h) (Or.inl ⟨by rfl, fun W hW => by clear hW; go_simp⟩) (by assumption) ?_
  try simp only [Act.put, List.setIfInBounds_toArray, List.set_cons_zero, List.set_cons_succ]
  refine drawT_take (i := 9) (v := .pointer (some ⟨C, 0, none⟩)) (List.getElem?_toArray.trans rfl) (by kernel_rfl) (by kernel_rfl) (by kernel_rfl) (by kernel_rfl) (fun _ _ _ h => h) (Or.inl ⟨by rfl, fun W hW => by clear hW; go_simp⟩) (by assumption) ?_
  try simp only [Act.put, List.setIfInBounds_toArray, List.set_cons_zero, List.set_cons_succ]
  refine drawT_take (i := 10) (v := .pointer (some ⟨C, 0, none⟩)) (List.getElem?_toArray.trans rfl) (by kernel_rfl) (by kernel_rfl) (by kernel_rfl) (by kernel_rfl) (fun _ _ _ h => h) (Or.inl ⟨by rfl, fun W hW => by clear hW; go_simp⟩) (by assumption) ?_
  try simp only [Act.put, List.setIfInBounds_toArray, List.set_cons_zero, List.set_cons_succ]
  refine drawT_take (i := 11) (v := .pointer (some ⟨C, 4, none⟩)) (List.getElem?_toArray.trans rfl) (by kernel_rfl) (by kernel_rfl) (by kernel_rfl) (by kernel_rfl) (fun _ _ _ h => h) (Or.inl ⟨by rfl, fun W hW => by clear hW; go_simp⟩) (by assumption) ?_
  try simp only [Act.put, List.setIfInBounds_toArray, List.set_cons_zero, List.set_cons_succ]
  refine drawT_take (i := 12) (v := .pointer (some ⟨C, 0, none⟩)) (List.getElem?_toArray.trans rfl) (by kernel_rfl) (by kernel_rfl) (by kernel_rfl) (by kernel_rfl) (fun _ _ _ h => h) (Or.inl ⟨by rfl, fun W hW => by clear hW; go_simp⟩) (by assumption) ?_
  try simp only [Act.put, List.setIfInBounds_toArray, List.set_cons_zero, List.set_cons_succ]
  refine drawT_take (i := 13) (v := .pointer (some ⟨C, 0, none⟩)) (List.getElem?_toArray.trans rfl) (by kernel_rfl) (by kernel_rfl) (by kernel_rfl) (by kernel_rfl) (fun _ _ _ h => h) (Or.inl ⟨by rfl, fun W hW => by clear hW; go_simp⟩) (by assumption) ?_
  try simp only [Act.put, List.setIfInBounds_toArray, List.set_cons_zero, List.set_cons_succ]
  refine drawT_take (i := 14) (v := .pointer (some ⟨C, 5, none⟩)) (List.getElem?_toArray.trans rfl) (by kernel_rfl) (by kernel_rfl) (by kernel_rfl) (by kernel_rfl) (fun _ _ _ h => h) (Or.inl ⟨by rfl, fun W hW => by clear hW; go_simp⟩) (by assumption) ?_
  try simp only [Act.put, List.setIfInBounds_toArray, List.set_cons_zero, List.set_cons_succ]
  refine drawT_take (i := 15) (v := .pointer (some ⟨C, 0, none⟩)) (List.getElem?_toArray.trans rfl) (by kernel_rfl) (by kernel_rfl) (by kernel_rfl) (by kernel_rfl) (fun _ _ _ h => h) (Or.inl ⟨by rfl, fun W hW => by clear hW; go_simp⟩) (by assumption) ?_
  try simp only [Act.put, List.setIfInBounds_toArray, List.set_cons_zero, List.set_cons_succ]
  refine drawT_take (i := 16) (v := .pointer (some ⟨C, 0, none⟩)) (List.getElem?_toArray.trans rfl) (by kernel_rfl) (by kernel_rfl) (by kernel_rfl) (by kernel_rfl) (fun _ _ _ h => h) (Or.inl ⟨by rfl, fun W hW => by clear hW; go_simp⟩) (by assumption) ?_
  try simp only [Act.put, List.setIfInBounds_toArray, List.set_cons_zero, List.set_cons_succ]
  refine drawT_take (i := 17) (v := .pointer (some ⟨C, 6, none⟩)) (List.getElem?_toArray.trans rfl) (by kernel_rfl) (by kernel_rfl) (by kernel_rfl) (by kernel_rfl) (fun _ _ _ h => h) (Or.inl ⟨by rfl, fun W hW => by clear hW; go_simp⟩) (by assumption) ?_
  try simp only [Act.put, List.setIfInBounds_toArray, List.set_cons_zero, List.set_cons_succ]
  refine drawT_done (by kernel_rfl) ?_
  clear hHeld
  have H1 := Lib.hid (show w1.drew.heap[K]? = _ from H0.out)
  have HB1 := Lib.hid (HB.out.trans (show Below K w1 w1.drew from below_dn ⟨1, rfl⟩))
  generalize w1.drew = w2 at *
  obtain ⟨c, f, -, -⟩ := rd H1.out
  have c0 := c 0; have c1 := c 1; have c2 := c 2; have c3 := c 3; have c4 := c 4; have c5 := c 5
  have f0 := f 0; have f1 := f 1; have f2 := f 2; have f3 := f 3; have f4 := f 4; have f5 := f 5
  simp only [List.getElem?_toArray, List.getElem?_cons_zero, List.getElem?_cons_succ] at c0 c1 c2 c3 c4 c5
  clear c f
  go_wp2_with fail
  refine bodyPost_ret (v := .agg #[.pointer (some ⟨C, 1, none⟩), .pointer (some ⟨C, 2, none⟩), .pointer (some ⟨C, 3, none⟩), .pointer (some ⟨C, 4, none⟩), .pointer (some ⟨C, 5, none⟩), .pointer (some ⟨C, 6, none⟩)]) ?_ rfl ⟨rfl, ?_⟩
  · simp [results, Tryz.results112, go_sem, c0, c1, c2, c3, c4, c5]
  · rw [← HKw.out]; exact (((((HB1.out.setCell (p := ⟨K, 0, none⟩) (Nat.le_refl _) _).setCell (p := ⟨K, 1, none⟩) (Nat.le_refl _) _).setCell (p := ⟨K, 2, none⟩) (Nat.le_refl _) _).setCell (p := ⟨K, 3, none⟩) (Nat.le_refl _) _).setCell (p := ⟨K, 4, none⟩) (Nat.le_refl _) _).setCell (p := ⟨K, 5, none⟩) (Nat.le_refl _) _

def fillS : List Str → Option (List (List PartS))
  | [] => some []
  | x :: t => match ptsS x with
    | none => none
    | some p => (fillS t).map fun r => p :: r
theorem fillS_snoc : ∀ (l : List Str) (x : Str), fillS (l ++ [x]) = match fillS l with
    | none => none
    | some r => (ptsS x).map fun p => r ++ [p]
  | [], x => by
    simp only [List.nil_append, fillS]
    cases ptsS x <;> rfl
  | y :: t, x => by
    rw [List.cons_append, fillS, fillS_snoc t x, fillS]
    cases ptsS y with
    | none => rfl
    | some p =>
      cases fillS t with
      | none => rfl
      | some r => cases ptsS x <;> rfl
theorem fillS_none : ∀ (l m : List Str), fillS l = none → fillS (l ++ m) = none
  | [], m, h => by simp [fillS] at h
  | y :: t, m, h => by
    rw [List.cons_append, fillS]
    rw [fillS] at h
    cases hp : ptsS y with
    | none => rfl
    | some p =>
      rw [hp] at h
      simp only at h ⊢
      rw [fillS_none t m (by cases ht : fillS t with | none => rfl | some r => rw [ht] at h; simp at h)]
      rfl
theorem fillS_len : ∀ (l : List Str) ps, fillS l = some ps → ps.length = l.length
  | [], ps, h => by simp [fillS] at h; subst h; rfl
  | y :: t, ps, h => by
    rw [fillS] at h
    cases hp : ptsS y with
    | none => rw [hp] at h; simp at h
    | some p =>
      rw [hp] at h
      cases hr : fillS t with
      | none => rw [hr] at h; simp at h
      | some r => rw [hr] at h; simp at h; subst h; simp [fillS_len t r hr]

/-- The calendar's cells cs' hold, from field first on, what was filled in. -/
structure Filled (W : World) (N first : Nat) (cs cs' : Array Value) (done : List (List PartS)) : Prop where
  size : cs'.size = cs.size
  other : ∀ j, (j < first + 1 ∨ first + 1 + done.length ≤ j) → cs'[j]? = cs[j]?
  got : ∀ i (h : i < done.length), ∃ v, cs'[first + 1 + i]? = some v ∧ W.ownsRow N 115 3 v done[i].length (flatL encPt done[i])
theorem Filled.below {W V : World} {N first : Nat} {cs cs' : Array Value} {done : List (List PartS)} (h : Filled W N first cs cs' done) (hb : Below W.heap.size W V) : Filled V N first cs cs' done :=
  ⟨h.size, h.other, fun i hi => by obtain ⟨v, h1, h2⟩ := h.got i hi; exact ⟨v, h1, own_keeps h2 hb⟩⟩
theorem Filled.fr {W V : World} {N first C : Nat} {cs cs' : Array Value} {done : List (List PartS)} (h : Filled W N first cs cs' done) (hf : Fr (fun k => k = C) W V) (hC : C < N) : Filled V N first cs cs' done :=
  ⟨h.size, h.other, fun i hi => by
    obtain ⟨v, h1, h2⟩ := h.got i hi
    exact ⟨v, h1, ownsRow_fr h2 hf (fun g hg _ e => by have := (h2.lt g hg).1; omega)⟩⟩
theorem Filled.more {W : World} {N first : Nat} {cs cs' : Array Value} {done : List (List PartS)} (h : Filled W N first cs cs' done) (p : List PartS) (v : Value) (ho : W.ownsRow N 115 3 v p.length (flatL encPt p)) (hs : first + 1 + done.length < cs.size) :
    Filled W N first cs (cs'.setIfInBounds (first + 1 + done.length) v) (done ++ [p]) := by
  refine ⟨by simp [h.size], fun j hj => ?_, fun i hi => ?_⟩
  · rw [List.length_append] at hj
    simp only [List.length_cons, List.length_nil] at hj
    rw [Array.getElem?_setIfInBounds_ne (by omega)]
    exact h.other j (by omega)
  · rw [List.length_append] at hi
    simp only [List.length_cons, List.length_nil] at hi
    by_cases hlt : i < done.length
    · obtain ⟨u, h1, h2⟩ := h.got i hlt
      refine ⟨u, by rw [Array.getElem?_setIfInBounds_ne (by omega)]; exact h1, ?_⟩
      rw [List.getElem_append_left hlt]; exact h2
    · obtain rfl : i = done.length := by omega
      refine ⟨v, by rw [Array.getElem?_setIfInBounds_self, if_pos (by rw [h.size]; exact hs)], ?_⟩
      rw [List.getElem_append_right (Nat.le_refl _)]
      simpa using ho

/-- What fill gives back. -/
def FillOut (w : World) (C first : Nat) (cs : Array Value) (texts : List Str) (e : Ending) (w' : World) : Prop :=
  e = .returned (.bool (fillS texts).isSome) ∧ Fr (fun k => k = C) w w' ∧ ∃ cs', w'.heap[C]? = some (.cells cs' 67 (0, 0)) ∧ cs'.size = 7 ∧ ∀ ls, fillS texts = some ls → Filled w' w.heap.size first cs cs' ls

set_option maxHeartbeats 8000000 in
theorem fill_any (C first : Nat) (hf : first = 0 ∨ first = 3) (cs : Array Value) (hcs : cs.size = 7) (texts : List Str) (ht : texts.length = 3) (oa : Option Addr) (cap : Nat) (w : World) (hC : w.heap[C]? = some (.cells cs 67 (0, 0))) (hr : StrRow w oa texts)
    (hne : ∀ b o, oa = some ⟨b, o, none⟩ → b ≠ C) (hm : ∀ V, Fr (fun k => k = C) w V → MaxAt V) (hx : ∀ x ∈ texts, x.length ≤ 100000000) :
    Calls Tryz.prog 85 #[.pointer (some ⟨C, 0, none⟩), .int .i64 first, .slice oa texts.length cap] w fun e w' => FillOut w C first cs texts e w' := by
  have HR := Lib.hid hr; have HN := Lib.hid hne; have HM := Lib.hid hm; have HX := Lib.hid hx
  have HF := Lib.hid hf
  have HI0 := Lib.hid (show Filled w w.heap.size first cs cs [] from ⟨rfl, fun _ _ => rfl, fun i h => absurd h (by simp)⟩)
  have HC0 := Lib.hid hC
  have hf3 : first ≤ 3 := by omega
  clear hr hne hm hx hC hf
  unfold FillOut
  rw [ht]
  go_enter Tryz.func85, Tryz.ntmps85
  go_wp2_with fail
  go_loopg [13] 4 (fun f i wr => ∃ (done : List (List PartS)) (cs' : Array Value), done.length ≤ 3 ∧ i = .int .i64 done.length ∧ 3 - done.length < f ∧ Hid (fillS (texts.take done.length) = some done) ∧ Hid (wr.heap[C]? = some (.cells cs' 67 (0, 0))) ∧ Hid (Filled wr w.heap.size first cs cs' done) ∧ Hid (Fr (fun k => k = C) w wr))
  case atStart => exact ⟨[], cs, by simp, rfl, by simp, rfl, HC0, HI0, Fr.refl _ _⟩
  case round =>
    obtain ⟨done, cs', hd3, rfl, hfu, HD, HC, HI, HFR⟩ := hrel
    by_cases hlt : done.length < 3
    · have hz : (done.length : Int) < 3 := by omega
      have hlt' : done.length < texts.length := by rw [ht]; exact hlt
      obtain ⟨x, hxx⟩ : ∃ x, x = texts[done.length] := ⟨_, rfl⟩
      obtain ⟨b, o, rfl, dw⟩ := HR.out done.length hlt'
      rw [← hxx] at dw
      have hbC := HN.out b o rfl
      have d0 : wr.cell? ⟨b, o + done.length, none⟩ = some (.string ⟨x.toArray⟩) := by
        unfold World.cell? at dw ⊢
        have hb : b < w.heap.size := by
          rcases Nat.lt_or_ge b w.heap.size with h | h
          · exact h
          · simp [Array.getElem?_eq_none h] at dw
        rw [HFR.out.block b hb hbC]; exact dw
      have hxl : x.length ≤ 100000000 := by rw [hxx]; exact HX.out _ (List.getElem_mem hlt')
      have HP := Lib.hid (pts_any x wr hxl (HM.out _ HFR.out))
      have HTK := Lib.hid (show texts.take (done.length + 1) = texts.take done.length ++ [x] by rw [List.take_succ_eq_append_getElem hlt', hxx])
      have HSN := Lib.hid (fillS_snoc (texts.take done.length) x)
      have HTD := Lib.hid (List.take_append_drop (done.length + 1) texts)
      clear dw hxx hlt' hxl
      unfold PartsOut at HP
      cases hp : ptsS x with
      | none =>
        rw [hp] at HP
        have HNO := Lib.hid (show fillS texts = none by
          rw [← HTD.out]
          refine fillS_none _ _ ?_
          rw [HTK.out, HSN.out, HD.out, hp]; rfl)
        clear hp
        go_wp2_with fail
        refine HP.out.mono ?_
        rintro e w2 ⟨v, rfl, hown, hb2⟩
        obtain ⟨oa2, cap2, rfl⟩ := ownsRow_form hown
        have HC2 := Lib.hid (heap_below HC.out hb2)
        have HF2 := Lib.hid (Fr.then' HFR.out (Fr.of_below hb2 (fun k => k = C)) (fun i _ h => h))
        have HS2 := Lib.hid (HI.out.size.trans hcs)
        clear hown hb2 HP
        simp only [Option.isSome_none, Option.getD_none, List.length_nil]
        go_wp2_with fail
        go_ret
        refine ⟨by rw [HNO.out]; rfl, HF2.out, cs', HC2.out, HS2.out, fun ls h => ?_⟩
        rw [HNO.out] at h; cases h
      | some p =>
        rw [hp] at HP
        have HYE := Lib.hid (show fillS (texts.take (done.length + 1)) = some (done ++ [p]) by rw [HTK.out, HSN.out, HD.out, hp]; rfl)
        clear hp
        go_wp2_with fail
        refine HP.out.mono ?_
        rintro e w2 ⟨v, rfl, hown, hb2⟩
        simp only [Option.isSome_some, Option.getD_some] at hown ⊢
        obtain ⟨oa2, cap2, rfl⟩ := ownsRow_form hown
        have HC2 := Lib.hid (heap_below HC.out hb2)
        have HF2 := Lib.hid (Fr.then' HFR.out (Fr.of_below hb2 (fun k => k = C)) (fun i _ h => h))
        have HI2 := Lib.hid (HI.out.below hb2)
        have HO2 := Lib.hid (own_base' hown HFR.out.size)
        have HL := Lib.hid (fun V => lists_any C V)
        clear hown hb2 HP HC HI HFR
        go_wp2_with fail
        refine (HL.out _).mono ?_
        rintro e w3 ⟨rfl, hb3⟩
        have hC3 := heap_below HC2.out hb3
        have hF3 := Fr.then' HF2.out (Fr.of_below hb3 (fun k => k = C)) (fun i _ h => h)
        have hO3 := own_keeps HO2.out hb3
        have hI3 := HI2.out.below hb3
        have hs7 : cs'.size = 7 := by rw [hI3.size]; exact hcs
        have hk6 : first + done.length < 6 := by omega
        have hk7 : first + 1 + done.length < cs'.size := by omega
        obtain ⟨j, hj⟩ : ∃ j, j = first + done.length := ⟨_, rfl⟩
        have hidx := idx6 C j (by omega) w3
        have HIX := Lib.hid hidx
        have hjz : (first : Int) + (done.length : Int) = (j : Int) := by omega
        obtain ⟨cc, cf, csh, cl⟩ := rd hC3
        have e0 := cc (j + 1)
        have hget : ∃ u, cs'[j + 1]? = some u := ⟨cs'[j + 1]'(by omega), Array.getElem?_eq_getElem (by omega)⟩
        obtain ⟨u, hu⟩ := hget
        rw [hu] at e0
        have e1 := cf (j + 1)
        have hC4 := heap_setCell hC3 (j + 1) (.slice oa2 p.length cap2)
        have hF4 := hF3.setCell (p := ⟨C, j + 1, none⟩) (fun _ => rfl) (.slice oa2 p.length cap2)
        have hW4 : Fr (fun k => k = C) w3 (w3.setCell ⟨C, j + 1, none⟩ (.slice oa2 p.length cap2)) := Fr.setCell (M := fun k => k = C) (p := ⟨C, j + 1, none⟩) (Fr.refl _ _) (fun _ => rfl) _
        have HC4 := Lib.hid hC4; have HF4 := Lib.hid hF4
        have HI4 := Lib.hid (show Filled (w3.setCell ⟨C, j + 1, none⟩ (.slice oa2 p.length cap2)) w.heap.size first cs (cs'.setIfInBounds (j + 1) (.slice oa2 p.length cap2)) (done ++ [p]) from by
          have := (hI3.more p _ hO3 (by omega)).fr hW4 (lt_heap HC0.out)
          rw [show first + 1 + done.length = j + 1 by omega] at this
          exact this)
        have hj6 : j < 6 := by omega
        clear hC3 hF3 hO3 hI3 hb3 hidx cc cf csh cl hu hC4 hF4 hW4 hj hk6 hk7 hs7 HL HC2 HF2 HI2 HO2
        have hidx := HIX.out
        unfold listV at *
        go_wp2_with fail
        clear hidx
        go_roundg (3 - done.length)
        case measure => omega
        case rel => exact ⟨done ++ [p], _, by simp; omega, by rw [List.length_append]; go_num, by simp; omega, by rw [List.length_append]; exact HYE, HC4, HI4, HF4⟩
    · have hz : ¬ ((done.length : Int) < 3) := by omega
      have HA := Lib.hid (show fillS texts = some done by have := HD.out; rw [List.take_of_length_le (by omega)] at this; exact this)
      go_wp2_with fail
      go_ret
      refine ⟨by rw [HA.out]; rfl, HFR.out, cs', HC.out, HI.out.size.trans hcs, fun ls h => ?_⟩
      rw [HA.out] at h; cases h; exact HI.out
end Go.Proofs.YtdpnahojhmkemaaGreatDoor

/-
  Package cal: take, named, bounds, mayPart; the kinds of words that Parse asks for.
-/
namespace Go.Proofs.YtdpnahojhmkemaaGreatDoor
open Go Go.RowKit
set_option linter.unusedVariables false
set_option linter.unusedSimpArgs false
set_option maxRecDepth 100000

/-- What take takes: the word, what is left, whether. -/
def takeS (p : Str → Bool) : List Str → Str × List Str × Bool
  | [] => ([], [], false)
  | x :: t => if p x = true then (x, t, true) else ([], x :: t, false)
def TakeOut (w : World) (oa0 : Option Addr) (p : Str → Bool) (l : List Str) (e : Ending) (w' : World) : Prop :=
  ∃ oa, e = .returned (.tuple #[.string ⟨(takeS p l).1.toArray⟩, .slice oa (takeS p l).2.1.length (takeS p l).2.1.length, .bool (takeS p l).2.2]) ∧ StrRow w oa (takeS p l).2.1 ∧ (∀ b o, oa = some ⟨b, o, none⟩ → ∃ o2, oa0 = some ⟨b, o2, none⟩) ∧ ∃ n, w' = w.drewN n

set_option maxHeartbeats 2000000 in
theorem take_any (g : FuncId) (eg : ∀ args w, (callFunc g args).run Tryz.prog w = .ok (.enter g args) w) (p : Str → Bool) (oa : Option Addr) (l : List Str) (w : World) (hr : StrRow w oa l) (hl : l.length ≤ 1000000000)
    (hp : ∀ x ∈ l, Calls Tryz.prog g #[.string ⟨x.toArray⟩] w fun e w' => e = .returned (.bool (p x)) ∧ w' = w) :
    Calls Tryz.prog 77 #[.slice oa l.length l.length, .func (.func g) #[] #[]] w fun e w' => TakeOut w oa p l e w' := by
  unfold TakeOut
  cases l with
  | nil =>
    go_enter Tryz.func77, Tryz.ntmps77
    go_wp2_with fail
    refine bodyPost_ret (v := .tuple #[.string ⟨([] : Str).toArray⟩, .slice oa 0 0, .bool false]) ?_ rfl ⟨oa, rfl, StrRow.nil _ _, fun b o h => ⟨o, h⟩, 0, rfl⟩
    simp [results, Tryz.results77, go_sem]
  | cons x t =>
    obtain ⟨b, o, rfl, d0⟩ := hr 0 (by simp)
    simp only [List.getElem_cons_zero, Nat.add_zero] at d0
    have HT := Lib.hid (show StrRow w (some ⟨b, o + 1, none⟩) t from by have := hr.drop 1; simpa using this)
    have HR := Lib.hid hr
    have HP := Lib.hid (hp x (by simp))
    have hln : (x :: t).length = t.length + 1 := by simp
    have hz0 : ¬ (((t.length + 1 : Nat) : Int) = 0) := by omega
    have hz1 : (((t.length + 1 : Nat) : Int) == 0) = false := by rw [beq_eq_false_iff_ne]; exact hz0
    have hz2 : (0 : Int) < ((t.length + 1 : Nat) : Int) := by omega
    have hz3 : 0 < t.length + 1 := by omega
    cases hpx : p x with
    | false =>
      have hts : takeS p (x :: t) = ([], x :: t, false) := by rw [takeS, if_neg (by simp [hpx])]
      rw [hts]
      rw [hpx] at HP
      simp only
      rw [hln] at *
      clear hpx hr hp hts
      go_enter Tryz.func77, Tryz.ntmps77
      go_wp2_with (go_at_fn g; refine HP.out.mono ?_; rintro e w' ⟨rfl, rfl⟩)
      refine bodyPost_ret (v := .tuple #[.string ⟨([] : Str).toArray⟩, .slice (some ⟨b, o, none⟩) (t.length + 1) (t.length + 1), .bool false]) ?_ rfl ⟨_, rfl, HR.out, fun b o h => ⟨o, h⟩, 0, rfl⟩
      simp [results, Tryz.results77, go_sem]
    | true =>
      have hts : takeS p (x :: t) = (x, t, true) := by rw [takeS, if_pos hpx]
      rw [hts]
      rw [hpx] at HP
      simp only
      have hz4 : (1 : Int) ≤ ((t.length + 1 : Nat) : Int) := by omega
      rw [hln] at *
      clear hpx hr hp hts
      go_enter Tryz.func77, Tryz.ntmps77
      go_wp2_with (go_at_fn g; refine HP.out.mono ?_; rintro e w' ⟨rfl, rfl⟩)
      by_cases ht0 : t.length = 0
      · have HT0 := Lib.hid (List.eq_nil_of_length_eq_zero ht0)
        rw [ht0] at *
        go_quiet (fail)
        go_wp2
        obtain rfl := HT0.out
        refine bodyPost_ret (v := .tuple #[.string ⟨x.toArray⟩, .slice (some ⟨b, o, none⟩) 0 0, .bool true]) ?_ rfl ⟨_, rfl, StrRow.nil _ _, (by first | exact fun b o h => ⟨o, h⟩ | (intros; simp_all; done) | (simp; done)), _, rfl⟩
        simp [results, Tryz.results77, go_sem]
      · have ht1 : ¬ (t.length + 1 = 1) := by omega
        have ht2 : ¬ ((t.length : Int) + 1 = 1) := by omega
        go_quiet (fail)
        go_wp2
        refine bodyPost_ret (v := .tuple #[.string ⟨x.toArray⟩, .slice (some ⟨b, o + 1, none⟩) t.length t.length, .bool true]) ?_ rfl ⟨_, rfl, HT.out, (by first | exact fun b' o' h => ⟨o, by cases h; rfl⟩ | (intros; simp_all; done) | (simp; done)), _, rfl⟩
        simp [results, Tryz.results77, go_sem]
-- GENERATED
def nmS (s : Str) : Str :=
  if s = [109, 105, 110, 117, 116, 101, 108, 121] then [42, 45, 42, 45, 42, 32, 42, 58, 42, 58, 48, 48] else
  if s = [104, 111, 117, 114, 108, 121] then [42, 45, 42, 45, 42, 32, 42, 58, 48, 48, 58, 48, 48] else
  if s = [100, 97, 105, 108, 121] then [42, 45, 42, 45, 42, 32, 48, 48, 58, 48, 48, 58, 48, 48] else
  if s = [119, 101, 101, 107, 108, 121] then [77, 111, 110, 32, 42, 45, 42, 45, 42, 32, 48, 48, 58, 48, 48, 58, 48, 48] else
  if s = [109, 111, 110, 116, 104, 108, 121] then [42, 45, 42, 45, 48, 49, 32, 48, 48, 58, 48, 48, 58, 48, 48] else
  if s = [121, 101, 97, 114, 108, 121] then [42, 45, 48, 49, 45, 48, 49, 32, 48, 48, 58, 48, 48, 58, 48, 48] else
  s
theorem nmS_len (s : Str) (h : s.length ≤ 400) : (nmS s).length ≤ 400 := by
  unfold nmS
  repeat' split
  all_goals first | exact h | simp
set_option maxHeartbeats 2000000 in
theorem named_any (s : Str) (w : World) : Calls Tryz.prog 76 #[.string ⟨s.toArray⟩] w fun e w' => e = .returned (.string ⟨(nmS s).toArray⟩) ∧ w' = w := by
  by_cases h0 : s = [109, 105, 110, 117, 116, 101, 108, 121]
  · subst h0
    go_enter Tryz.func76, Tryz.ntmps76
    go_wp2_with fail
    go_ret
    exact ⟨rfl, rfl⟩
  by_cases h1 : s = [104, 111, 117, 114, 108, 121]
  · subst h1
    go_enter Tryz.func76, Tryz.ntmps76
    go_wp2_with fail
    go_ret
    exact ⟨rfl, rfl⟩
  by_cases h2 : s = [100, 97, 105, 108, 121]
  · subst h2
    go_enter Tryz.func76, Tryz.ntmps76
    go_wp2_with fail
    go_ret
    exact ⟨rfl, rfl⟩
  by_cases h3 : s = [119, 101, 101, 107, 108, 121]
  · subst h3
    go_enter Tryz.func76, Tryz.ntmps76
    go_wp2_with fail
    go_ret
    exact ⟨rfl, rfl⟩
  by_cases h4 : s = [109, 111, 110, 116, 104, 108, 121]
  · subst h4
    go_enter Tryz.func76, Tryz.ntmps76
    go_wp2_with fail
    go_ret
    exact ⟨rfl, rfl⟩
  by_cases h5 : s = [121, 101, 97, 114, 108, 121]
  · subst h5
    go_enter Tryz.func76, Tryz.ntmps76
    go_wp2_with fail
    go_ret
    exact ⟨rfl, rfl⟩
  have b0 : (s == [109, 105, 110, 117, 116, 101, 108, 121]) = false := by rw [beq_eq_false_iff_ne]; exact h0
  have b1 : (s == [104, 111, 117, 114, 108, 121]) = false := by rw [beq_eq_false_iff_ne]; exact h1
  have b2 : (s == [100, 97, 105, 108, 121]) = false := by rw [beq_eq_false_iff_ne]; exact h2
  have b3 : (s == [119, 101, 101, 107, 108, 121]) = false := by rw [beq_eq_false_iff_ne]; exact h3
  have b4 : (s == [109, 111, 110, 116, 104, 108, 121]) = false := by rw [beq_eq_false_iff_ne]; exact h4
  have b5 : (s == [121, 101, 97, 114, 108, 121]) = false := by rw [beq_eq_false_iff_ne]; exact h5
  have HS := Lib.hid (show nmS s = s by unfold nmS; simp only [if_neg h0, if_neg h1, if_neg h2, if_neg h3, if_neg h4, if_neg h5])
  clear h0 h1 h2 h3 h4 h5
  go_enter Tryz.func76, Tryz.ntmps76
  go_wp2_with fail
  go_ret
  exact ⟨by rw [HS.out]; rfl, rfl⟩

/-- A field's least and greatest number. -/
def boundS (f : Nat) : Int × Int := if f = 0 then (2000, 2199) else if f = 1 then (1, 12) else if f = 2 then (1, 31) else if f = 3 then (0, 23) else (0, 59)
theorem bounds_any (f : Nat) (hf : f < 6) (w : World) : Calls Tryz.prog 139 #[.int .i64 f] w fun e w' => e = .returned (.tuple #[.int .i64 (boundS f).1, .int .i64 (boundS f).2]) ∧ w' = w := by
  match f, hf with
  | 0, _ =>
    go_enter Tryz.func139, Tryz.ntmps139
    go_wp2_with fail
    go_ret2
    exact ⟨rfl, rfl⟩
  | 1, _ =>
    go_enter Tryz.func139, Tryz.ntmps139
    go_wp2_with fail
    go_ret2
    exact ⟨rfl, rfl⟩
  | 2, _ =>
    go_enter Tryz.func139, Tryz.ntmps139
    go_wp2_with fail
    go_ret2
    exact ⟨rfl, rfl⟩
  | 3, _ =>
    go_enter Tryz.func139, Tryz.ntmps139
    go_wp2_with fail
    go_ret2
    exact ⟨rfl, rfl⟩
  | 4, _ =>
    go_enter Tryz.func139, Tryz.ntmps139
    go_wp2_with fail
    go_ret2
    exact ⟨rfl, rfl⟩
  | 5, _ =>
    go_enter Tryz.func139, Tryz.ntmps139
    go_wp2_with fail
    go_ret2
    exact ⟨rfl, rfl⟩

/-- May a part be one of a field? -/
def mayPtS (p : PartS) (f : Nat) : Bool :=
  if p.step < 0 ∨ 9999 < p.step then false
  else if p.from_ = -1 then p.to_ == -1
  else if p.from_ < (boundS f).1 ∨ (boundS f).2 < p.from_ then false
  else p.to_ == -1 || (decide (p.from_ ≤ p.to_) && decide (p.to_ ≤ (boundS f).2))
set_option maxHeartbeats 4000000 in
theorem mayPart_any (p : PartS) (f : Nat) (hf : f < 6) (w : World) (r : Bool) (hr : mayPtS p f = r) :
    Calls Tryz.prog 115 #[.agg #[.int .i64 p.from_, .int .i64 p.to_, .int .i64 p.step], .int .i64 f] w fun e w' => e = .returned (.bool r) ∧ Below w.heap.size w w' := by
  obtain ⟨pf, pt, ps⟩ := p
  have HB := Lib.hid (fun V => bounds_any f hf V)
  unfold mayPtS at hr
  simp only at hr ⊢
  obtain ⟨lo, hlo⟩ : ∃ lo, lo = (boundS f).1 := ⟨_, rfl⟩
  obtain ⟨hi, hhi⟩ : ∃ hi, hi = (boundS f).2 := ⟨_, rfl⟩
  rw [← hlo, ← hhi] at HB hr
  have HW := Lib.hid ((Below.refl w.heap.size w).alloc (Nat.le_refl _) (.cells #[.int .i64 pf, .int .i64 pt, .int .i64 ps] 115))
  clear hlo hhi
  by_cases h1 : ps < 0
  · have h1b : ¬ (9999 < ps) := by omega
    have HR := Lib.hid (show false = r by rw [← hr]; simp [h1])
    clear hr
    go_enter Tryz.func115, Tryz.ntmps115
    go_wp2_with (go_at_call 139; refine (HB.out _).mono ?_; rintro e w' ⟨rfl, rfl⟩)
    go_ret
    exact ⟨by first | rfl | (rw [← HR.out]; rfl) | (rw [← HR.out]; simp; done) | (rw [← HR.out]; simp; omega) | (rw [← HR.out]; simp [*]), HW.out⟩
  by_cases h2 : 9999 < ps
  · have HR := Lib.hid (show false = r by rw [← hr]; simp [h2])
    clear hr
    go_enter Tryz.func115, Tryz.ntmps115
    go_wp2_with (go_at_call 139; refine (HB.out _).mono ?_; rintro e w' ⟨rfl, rfl⟩)
    go_ret
    exact ⟨by first | rfl | (rw [← HR.out]; rfl) | (rw [← HR.out]; simp; done) | (rw [← HR.out]; simp; omega) | (rw [← HR.out]; simp [*]), HW.out⟩
  by_cases h3 : pf = -1
  · subst h3
    by_cases h4 : pt = -1
    · subst h4
      have HR := Lib.hid (show true = r by rw [← hr]; simp [h1, h2])
      clear hr
      go_enter Tryz.func115, Tryz.ntmps115
      go_wp2_with (go_at_call 139; refine (HB.out _).mono ?_; rintro e w' ⟨rfl, rfl⟩)
      go_ret
      exact ⟨by first | rfl | (rw [← HR.out]; rfl) | (rw [← HR.out]; simp; done) | (rw [← HR.out]; simp; omega) | (rw [← HR.out]; simp [*]), HW.out⟩
    · have h4b : (pt == -1) = false := by rw [beq_eq_false_iff_ne]; exact h4
      have HR := Lib.hid (show false = r by rw [← hr]; simp [h1, h2, h4])
      clear hr
      go_enter Tryz.func115, Tryz.ntmps115
      go_wp2_with (go_at_call 139; refine (HB.out _).mono ?_; rintro e w' ⟨rfl, rfl⟩)
      go_ret
      exact ⟨by first | rfl | (rw [← HR.out]; rfl) | (rw [← HR.out]; simp; done) | (rw [← HR.out]; simp; omega) | (rw [← HR.out]; simp [*]), HW.out⟩
  have h3b : (pf == -1) = false := by rw [beq_eq_false_iff_ne]; exact h3
  by_cases h5 : pf < lo
  · have HR := Lib.hid (show false = r by rw [← hr]; simp [h1, h2, h3, h5])
    clear hr
    go_enter Tryz.func115, Tryz.ntmps115
    go_wp2_with (go_at_call 139; refine (HB.out _).mono ?_; rintro e w' ⟨rfl, rfl⟩)
    go_ret
    exact ⟨by first | rfl | (rw [← HR.out]; rfl) | (rw [← HR.out]; simp; done) | (rw [← HR.out]; simp; omega) | (rw [← HR.out]; simp [*]), HW.out⟩
  by_cases h6 : hi < pf
  · have HR := Lib.hid (show false = r by rw [← hr]; simp [h1, h2, h3, h6])
    clear hr
    go_enter Tryz.func115, Tryz.ntmps115
    go_wp2_with (go_at_call 139; refine (HB.out _).mono ?_; rintro e w' ⟨rfl, rfl⟩)
    go_ret
    exact ⟨by first | rfl | (rw [← HR.out]; rfl) | (rw [← HR.out]; simp; done) | (rw [← HR.out]; simp; omega) | (rw [← HR.out]; simp [*]), HW.out⟩
  by_cases h7 : pt = -1
  · subst h7
    have HR := Lib.hid (show true = r by rw [← hr]; simp [h1, h2, h3, h5, h6])
    clear hr
    go_enter Tryz.func115, Tryz.ntmps115
    go_wp2_with (go_at_call 139; refine (HB.out _).mono ?_; rintro e w' ⟨rfl, rfl⟩)
    go_ret
    exact ⟨by first | rfl | (rw [← HR.out]; rfl) | (rw [← HR.out]; simp; done) | (rw [← HR.out]; simp; omega) | (rw [← HR.out]; simp [*]), HW.out⟩
  have h7b : (pt == -1) = false := by rw [beq_eq_false_iff_ne]; exact h7
  by_cases h8 : pf ≤ pt
  · have h8b : ¬ (pt < pf) := by omega
    by_cases h9 : pt ≤ hi
    · have HR := Lib.hid (show true = r by rw [← hr]; simp [h1, h2, h3, h5, h6, h7, h8, h9])
      clear hr
      go_enter Tryz.func115, Tryz.ntmps115
      go_wp2_with (go_at_call 139; refine (HB.out _).mono ?_; rintro e w' ⟨rfl, rfl⟩)
      go_ret
      exact ⟨by first | rfl | (rw [← HR.out]; rfl) | (rw [← HR.out]; simp; done) | (rw [← HR.out]; simp; omega) | (rw [← HR.out]; simp [*]), HW.out⟩
    · have HR := Lib.hid (show false = r by rw [← hr]; simp [h1, h2, h3, h5, h6, h7, h8, h9])
      clear hr
      go_enter Tryz.func115, Tryz.ntmps115
      go_wp2_with (go_at_call 139; refine (HB.out _).mono ?_; rintro e w' ⟨rfl, rfl⟩)
      go_ret
      exact ⟨by first | rfl | (rw [← HR.out]; rfl) | (rw [← HR.out]; simp; done) | (rw [← HR.out]; simp; omega) | (rw [← HR.out]; simp [*]), HW.out⟩
  · have h8b : pt < pf := by omega
    have HR := Lib.hid (show false = r by rw [← hr]; simp [h1, h2, h3, h5, h6, h7, h8])
    clear hr
    go_enter Tryz.func115, Tryz.ntmps115
    go_wp2_with (go_at_call 139; refine (HB.out _).mono ?_; rintro e w' ⟨rfl, rfl⟩)
    go_ret
    exact ⟨by first | rfl | (rw [← HR.out]; rfl) | (rw [← HR.out]; simp; done) | (rw [← HR.out]; simp; omega) | (rw [← HR.out]; simp [*]), HW.out⟩


/-- What words begin with a letter, have a byte. -/
def letP (s : Str) : Bool := match s with | [] => false | c :: _ => isLetter c
theorem parse1_any (s : Str) (w : World) : Calls Tryz.prog 78 #[.string ⟨s.toArray⟩] w fun e w' => e = .returned (.bool (letP s)) ∧ w' = w := by
  cases s with
  | nil =>
    go_enter Tryz.func78, Tryz.ntmps78
    go_wp2_with fail
    go_ret
    exact ⟨rfl, rfl⟩
  | cons c t =>
    obtain ⟨S, hS⟩ : ∃ S : ByteArray, S = ⟨(c :: t).toArray⟩ := ⟨_, rfl⟩
    have hsz : S.size ≠ 0 := by rw [hS]; simp [ByteArray.size]
    obtain ⟨n1, n2, n3, n4⟩ := str_ne hsz
    have h0 : S[0] = c := by subst hS; rfl
    have HL := Lib.hid (fun W => letter_any S[0] W)
    have HC := Lib.hid (show isLetter S[0] = letP (c :: t) from by rw [h0]; rfl)
    rw [← hS]
    clear hS h0 hsz
    go_enter Tryz.func78, Tryz.ntmps78
    go_wp2_with (go_at_call 79; refine (HL.out _).mono ?_; rintro e w' ⟨rfl, rfl⟩)
    go_ret
    exact ⟨by rw [← HC.out]; rfl, rfl⟩
def hasC (c : UInt8) (s : Str) : Bool := decide (0 ≤ Lib.indexByte s c)
theorem parse2_any (s : Str) (w : World) : Calls Tryz.prog 81 #[.string ⟨s.toArray⟩] w fun e w' => e = .returned (.bool (hasC 45 s)) ∧ w' = w := by
  have H := Lib.hid (fun W => Tryz.strings_Contains_one ⟨s.toArray⟩ 45 W)
  change Hid (∀ W, Calls Tryz.prog 82 #[.string ⟨s.toArray⟩, .string ⟨#[45]⟩] W fun e w' => e = .returned (.bool (hasC 45 s)) ∧ w' = W) at H
  go_enter Tryz.func81, Tryz.ntmps81
  go_wp2_with (go_at_call 82; refine (H.out _).mono ?_; rintro e w' ⟨rfl, rfl⟩)
  go_ret
  exact ⟨rfl, rfl⟩
theorem parse3_any (s : Str) (w : World) : Calls Tryz.prog 83 #[.string ⟨s.toArray⟩] w fun e w' => e = .returned (.bool (hasC 58 s)) ∧ w' = w := by
  have H := Lib.hid (fun W => Tryz.strings_Contains_one ⟨s.toArray⟩ 58 W)
  change Hid (∀ W, Calls Tryz.prog 82 #[.string ⟨s.toArray⟩, .string ⟨#[58]⟩] W fun e w' => e = .returned (.bool (hasC 58 s)) ∧ w' = W) at H
  go_enter Tryz.func83, Tryz.ntmps83
  go_wp2_with (go_at_call 82; refine (H.out _).mono ?_; rintro e w' ⟨rfl, rfl⟩)
  go_ret
  exact ⟨rfl, rfl⟩
theorem enters_parse1 : ∀ args w, (callFunc 78 args).run Tryz.prog w = .ok (.enter 78 args) w := enters_of Tryz.func78 (by kernel_rfl) rfl
theorem enters_parse2 : ∀ args w, (callFunc 81 args).run Tryz.prog w = .ok (.enter 81 args) w := enters_of Tryz.func81 (by kernel_rfl) rfl
theorem enters_parse3 : ∀ args w, (callFunc 83 args).run Tryz.prog w = .ok (.enter 83 args) w := enters_of Tryz.func83 (by kernel_rfl) rfl
end Go.Proofs.YtdpnahojhmkemaaGreatDoor

/-
  Package slices: IndexFunc, ContainsFunc of parts. Package cal: May.
-/
namespace Go.Proofs.YtdpnahojhmkemaaGreatDoor
open Go Go.RowKit
set_option linter.unusedVariables false
set_option linter.unusedSimpArgs false
set_option maxRecDepth 100000

instance : Inhabited PartS := ⟨⟨0, 0, 0⟩⟩
set_option maxHeartbeats 2000000 in
theorem indexPt_any (g : FuncId) (lb : Array Value) (eg : ∀ args w, (callFunc g args).run Tryz.prog w = .ok (.enter g args) w) (p : PartS → Bool) (oa : Option Addr) (cap : Nat) (l : List PartS) (w : World) (hr : RowRd encPt 3 w oa l) (hbig : l.length ≤ 1000000000)
    (hp : ∀ (W : World) j (h : j < l.length), Below w.heap.size w W → Calls Tryz.prog g (#[.agg (encPt l[j]).toArray] ++ lb) W fun e w' => e = .returned (.bool (p l[j])) ∧ Below w.heap.size w w') :
    Calls Tryz.prog 138 #[.slice oa l.length cap, .func (.func g) #[] lb] w fun e w' => e = .returned (.int .i64 (Lib.idxBy (fun _ y => p y) l default)) ∧ Below w.heap.size w w' := by
  have HP := Lib.hid hp; have HR := Lib.hid hr
  clear hp hr
  go_enter Tryz.func138, Tryz.ntmps138
  go_wp2
  go_loopg [5, 8] l.length (fun gg _ s8 wr => ∃ kk : Nat, kk ≤ l.length ∧ l.length - kk ≤ gg ∧ s8 = .int .i64 kk ∧ Hid (Below w.heap.size w wr) ∧ Hid (∀ j, j < kk → p l[j]! = false))
  case atStart => exact ⟨0, Nat.zero_le _, by omega, rfl, Below.refl _ w, fun j hj => absurd hj (Nat.not_lt_zero _)⟩
  case round =>
    obtain ⟨kk, hkk, hg, rfl, BW, A⟩ := hrel
    by_cases hlt : kk < l.length
    · have hltz : (kk : Int) < (l.length : Int) := by omega
      obtain ⟨b, o, rfl, -, hcc⟩ := (HR.out.below BW.out) kk hlt
      have d0 := hcc 0 _ rfl; have d1 := hcc 1 _ rfl; have d2 := hcc 2 _ rfl
      simp only [Nat.add_zero] at d0
      have hcall := HP.out wr kk hlt BW.out
      have B := Lib.hid (show l[kk]! = l[kk] from getElem!_pos l kk hlt)
      unfold encPt at hcall
      generalize l[kk] = y at d0 d1 d2 hcall B
      clear hcc
      cases hq : p y with
      | true =>
        rw [hq] at hcall
        have HQ := Lib.hid hq; clear hq
        have HCL := Lib.hid hcall; clear hcall
        go_wp2_with (go_at_fn g; refine HCL.out.mono ?_; rintro e w' ⟨rfl, hb'⟩)
        go_ret
        refine ⟨?_, hb'⟩
        have := Lib.idxBy_hit (fun _ y => p y) l l.length kk default hlt (Nat.le_refl _) (by show p l[kk]! = true; rw [B.out]; exact HQ.out) A.out
        rw [List.take_length] at this
        rw [this]
        rfl
      | false =>
        rw [hq] at hcall
        have HQ := Lib.hid hq; clear hq
        have HCL := Lib.hid hcall; clear hcall
        go_wp2_with (go_at_fn g; refine HCL.out.mono ?_; rintro e w' ⟨rfl, hb'⟩)
        go_roundg (l.length - (kk + 1))
        case measure => omega
        case rel =>
          refine ⟨kk + 1, by omega, by omega, by go_num, hb', (show Hid _ from fun j hj => ?_)⟩
          by_cases e : j = kk
          · subst e
            rw [B.out]; exact HQ.out
          · exact A.out j (by omega)
    · have hltz : ¬ (kk : Int) < (l.length : Int) := by omega
      have hkl : kk = l.length := by omega
      subst hkl
      go_wp2
      go_ret
      refine ⟨?_, BW.out⟩
      have := Lib.idxBy_miss (fun _ y => p y) l l.length default A.out
      rw [List.take_length] at this
      rw [this]
      rfl
theorem containsPt_any (g : FuncId) (lb : Array Value) (eg : ∀ args w, (callFunc g args).run Tryz.prog w = .ok (.enter g args) w) (p : PartS → Bool) (oa : Option Addr) (cap : Nat) (l : List PartS) (w : World) (hr : RowRd encPt 3 w oa l) (hbig : l.length ≤ 1000000000)
    (hp : ∀ (W : World) j (h : j < l.length), Below w.heap.size w W → Calls Tryz.prog g (#[.agg (encPt l[j]).toArray] ++ lb) W fun e w' => e = .returned (.bool (p l[j])) ∧ Below w.heap.size w w') :
    Calls Tryz.prog 113 #[.slice oa l.length cap, .func (.func g) #[] lb] w fun e w' => e = .returned (.bool (l.any p)) ∧ Below w.heap.size w w' := by
  have h0 : l.any p = decide (0 ≤ Lib.idxBy (fun _ y => p y) l default) := (Lib.idxBy_nonneg_iff (fun _ y => p y) l default).symm
  rw [h0]
  have H := Lib.hid (indexPt_any g lb eg p oa cap l w hr hbig hp)
  clear hp h0
  generalize Lib.idxBy (fun _ y => p y) l default = r at *
  go_enter Tryz.func113, Tryz.ntmps113
  go_wp2_with fail
  refine H.out.mono ?_
  rintro e w1 ⟨rfl, hb1⟩
  have HB := Lib.hid hb1; clear hb1
  go_wp2_with fail
  go_ret
  exact ⟨rfl, HB.out⟩

set_option maxHeartbeats 1000000 in
theorem may1_any (p : PartS) (f : Nat) (hf : f < 6) (bf : Nat) (W : World) (hc : W.cell? ⟨bf, 0, none⟩ = some (.int .i64 f)) :
    Calls Tryz.prog 114 #[.agg (encPt p).toArray, .pointer (some ⟨bf, 0, none⟩)] W fun e w' => e = .returned (.bool (!mayPtS p f)) ∧ Below W.heap.size W w' := by
  have hb : bf < W.heap.size := World.block_lt_of_cell? W _ hc
  have hne : bf ≠ W.heap.size := by omega
  have HM := Lib.hid (fun V => mayPart_any p f hf V _ rfl)
  have HB := Lib.hid ((Below.refl W.heap.size W).alloc (Nat.le_refl _) (.cells (encPt p).toArray 115))
  unfold encPt at *
  generalize mayPtS p f = q at *
  obtain ⟨pf, pt, ps⟩ := p
  go_enter Tryz.func114, Tryz.ntmps114
  go_wp2_with fail
  refine (HM.out _).mono ?_
  rintro e w1 ⟨rfl, hb1⟩
  have HB1 := Lib.hid (HB.out.trans (hb1.mono HB.out.size))
  clear hb1
  go_wp2_with fail
  go_ret
  exact ⟨rfl, HB1.out⟩

theorem enters_may1 : ∀ args w, (callFunc 114 args).run Tryz.prog w = .ok (.enter 114 args) w := enters_of Tryz.func114 (by kernel_rfl) rfl
def mayDays : Int → List Int → Bool
  | _, [] => true
  | last, d :: t => if d ≤ last ∨ 7 < d then false else mayDays d t
def mayField (l : List PartS) (f : Nat) : Bool := decide (1 ≤ l.length) && (decide (l.length ≤ 4) && l.all fun p => mayPtS p f)
def mayFrom (fs : List (List PartS)) : Nat → Nat → Bool
  | _, 0 => true
  | i, n + 1 => mayField (fs.getD i []) i && mayFrom fs (i + 1) n
/-- May a calendar be? -/
def mayCalS (days : List Int) (fs : List (List PartS)) : Bool := mayDays 0 days && mayFrom fs 0 6
/-- A calendar's seven cells read as days and fields. -/
structure CalRd (w : World) (cs : Array Value) (days : List Int) (fs : List (List PartS)) : Prop where
  size : cs.size = 7
  days : ∃ da dc, cs[0]? = some (.slice da days.length dc) ∧ RowRd (fun n : Int => [.int .i64 n]) 1 w da days
  fields : ∀ i, i < 6 → ∃ oa cap, cs[i + 1]? = some (.slice oa (fs.getD i []).length cap) ∧ RowRd encPt 3 w oa (fs.getD i [])
theorem CalRd.below {w w' : World} {cs : Array Value} {days : List Int} {fs : List (List PartS)} (h : CalRd w cs days fs) (hb : Below w.heap.size w w') : CalRd w' cs days fs :=
  ⟨h.size, by obtain ⟨a, b, c, d⟩ := h.days; exact ⟨a, b, c, d.below hb⟩, fun i hi => by obtain ⟨a, b, c, d⟩ := h.fields i hi; exact ⟨a, b, c, d.below hb⟩⟩

set_option maxHeartbeats 8000000 in
theorem calMay_any (cs : Array Value) (days : List Int) (fs : List (List PartS)) (w : World) (h : CalRd w cs days fs) (hd : days.length ≤ 1000000) (hf : ∀ i, (fs.getD i []).length ≤ 1000000000) (r : Bool) (hr : mayCalS days fs = r) :
    Calls Tryz.prog 86 #[.agg cs] w fun e w' => e = .returned (.bool r) ∧ Below w.heap.size w w' := by
  obtain ⟨c0, c1, c2, c3, c4, c5, c6, rfl⟩ : ∃ c0 c1 c2 c3 c4 c5 c6, cs = #[c0, c1, c2, c3, c4, c5, c6] := by
    obtain ⟨l⟩ := cs
    have := h.size
    match l, this with
    | [a0, a1, a2, a3, a4, a5, a6], _ => exact ⟨a0, a1, a2, a3, a4, a5, a6, rfl⟩
  obtain ⟨da, dc, hd0, hdr⟩ := h.days
  obtain rfl : c0 = .slice da days.length dc := by simpa using hd0
  obtain ⟨o1, k1, e1, r1⟩ := h.fields 0 (by omega)
  obtain ⟨o2, k2, e2, r2⟩ := h.fields 1 (by omega)
  obtain ⟨o3, k3, e3, r3⟩ := h.fields 2 (by omega)
  obtain ⟨o4, k4, e4, r4⟩ := h.fields 3 (by omega)
  obtain ⟨o5, k5, e5, r5⟩ := h.fields 4 (by omega)
  obtain ⟨o6, k6, e6, r6⟩ := h.fields 5 (by omega)
  obtain rfl : c1 = .slice o1 (fs.getD 0 []).length k1 := by simpa using e1
  obtain rfl : c2 = .slice o2 (fs.getD 1 []).length k2 := by simpa using e2
  obtain rfl : c3 = .slice o3 (fs.getD 2 []).length k3 := by simpa using e3
  obtain rfl : c4 = .slice o4 (fs.getD 3 []).length k4 := by simpa using e4
  obtain rfl : c5 = .slice o5 (fs.getD 4 []).length k5 := by simpa using e5
  obtain rfl : c6 = .slice o6 (fs.getD 5 []).length k6 := by simpa using e6
  clear hd0 e1 e2 e3 e4 e5 e6 r1 r2 r3 r4 r5 r6
  obtain ⟨n1, hn1⟩ : ∃ n, n = (fs.getD 0 []).length := ⟨_, rfl⟩
  obtain ⟨n2, hn2⟩ : ∃ n, n = (fs.getD 1 []).length := ⟨_, rfl⟩
  obtain ⟨n3, hn3⟩ : ∃ n, n = (fs.getD 2 []).length := ⟨_, rfl⟩
  obtain ⟨n4, hn4⟩ : ∃ n, n = (fs.getD 3 []).length := ⟨_, rfl⟩
  obtain ⟨n5, hn5⟩ : ∃ n, n = (fs.getD 4 []).length := ⟨_, rfl⟩
  obtain ⟨n6, hn6⟩ : ∃ n, n = (fs.getD 5 []).length := ⟨_, rfl⟩
  rw [← hn1, ← hn2, ← hn3, ← hn4, ← hn5, ← hn6] at h ⊢
  have HH := Lib.hid h; have HDR := Lib.hid hdr; have HF := Lib.hid hf; have HRR := Lib.hid hr
  let CV : Array Value := #[.slice da days.length dc, .slice o1 n1 k1, .slice o2 n2 k2, .slice o3 n3 k3, .slice o4 n4 k4, .slice o5 n5 k5, .slice o6 n6 k6]
  have HC := Lib.hid (show (w.alloc (.cells CV 67)).heap[w.heap.size]? = some (.cells CV 67 (0, 0)) from heap_alloc_new w _)
  have HB := Lib.hid ((Below.refl w.heap.size w).alloc (Nat.le_refl _) (.cells CV 67))
  clear h hdr hf hr hn1 hn2 hn3 hn4 hn5 hn6
  go_enter Tryz.func86, Tryz.ntmps86
  go_wp2_with fail
  obtain ⟨C, hCw⟩ : ∃ C, C = w.heap.size := ⟨_, rfl⟩
  have HCw := Lib.hid hCw
  change Hid ((w.alloc (.cells #[.slice da days.length dc, .slice o1 n1 k1, .slice o2 n2 k2, .slice o3 n3 k3, .slice o4 n4 k4, .slice o5 n5 k5, .slice o6 n6 k6] 67)).heap[w.heap.size]? = _) at HC
  change Hid (Below w.heap.size w (w.alloc (.cells #[.slice da days.length dc, .slice o1 n1 k1, .slice o2 n2 k2, .slice o3 n3 k3, .slice o4 n4 k4, .slice o5 n5 k5, .slice o6 n6 k6] 67))) at HB
  have HDR1 := Lib.hid (HDR.out.below HB.out); have HH1 := Lib.hid (HH.out.below HB.out)
  rw [← hCw] at HC ⊢
  clear HDR HH hCw
  generalize w.alloc (.cells #[.slice da days.length dc, .slice o1 n1 k1, .slice o2 n2 k2, .slice o3 n3 k3, .slice o4 n4 k4, .slice o5 n5 k5, .slice o6 n6 k6] 67) = w1 at *
  go_loopg [3, 11] (days.length + 1) (fun f last i wr => ∃ (k : Nat) (z : Int), k ≤ days.length ∧ last = .int .i64 z ∧ i = .int .i64 k ∧ days.length - k < f ∧ wr = w1 ∧ Hid (mayDays z (days.drop k) = mayDays 0 days))
  case atStart => exact ⟨0, 0, by omega, rfl, rfl, by omega, rfl, rfl⟩
  case round =>
    obtain ⟨k, z, hk, rfl, rfl, hfu, rfl, HMD⟩ := hrel
    by_cases hlt : k < days.length
    · have hz : (k : Int) < (days.length : Int) := by omega
      obtain ⟨b, o, rfl, -, hcc⟩ := HDR1.out k hlt
      have d0 := hcc 0 _ rfl
      simp only [Nat.add_zero, Nat.mul_one] at d0
      obtain ⟨d, hdd⟩ : ∃ d, d = days[k] := ⟨_, rfl⟩
      rw [← hdd] at d0
      have hdp : days.drop k = d :: days.drop (k + 1) := by rw [hdd]; exact List.drop_eq_getElem_cons hlt
      have hM := HMD.out
      rw [hdp, mayDays] at hM
      clear hcc hdd hdp HMD
      by_cases h1 : d ≤ z
      · rw [if_pos (.inl h1)] at hM
        have HR := Lib.hid (show false = r by rw [← HRR.out]; unfold mayCalS; rw [← hM]; rfl)
        clear hM
        go_wp2_with fail
        go_ret
        exact ⟨by rw [← HR.out]; rfl, HB.out⟩
      · by_cases h2 : 7 < d
        · rw [if_pos (.inr h2)] at hM
          have HR := Lib.hid (show false = r by rw [← HRR.out]; unfold mayCalS; rw [← hM]; rfl)
          clear hM
          go_wp2_with fail
          go_ret
          exact ⟨by rw [← HR.out]; rfl, HB.out⟩
        · rw [if_neg (by omega)] at hM
          have HM2 := Lib.hid hM
          clear hM
          go_wp2_with fail
          go_roundg (days.length - k)
          case measure => omega
          case rel => exact ⟨k + 1, d, by omega, rfl, by go_num, by omega, rfl, HM2⟩
    · have hz : ¬ ((k : Int) < (days.length : Int)) := by omega
      have hM : mayDays 0 days = true := by rw [← HMD.out, List.drop_eq_nil_of_le (by omega)]; rfl
      have HRF := Lib.hid (show mayFrom fs 0 6 = r by rw [← HRR.out]; unfold mayCalS; rw [hM]; rfl)
      have HL := Lib.hid (lists_any C wr)
      clear hM HMD HDR1 hfu hk hlt
      go_wp2_with fail
      refine HL.out.mono ?_
      rintro e w2 ⟨rfl, hb2⟩
      have HC2 := Lib.hid (heap_below HC.out hb2)
      have HH2 := Lib.hid (HH1.out.below hb2)
      have HB2 := Lib.hid (HB.out.trans (hb2.mono HB.out.size))
      clear hb2 HL HC HH1 HB
      unfold listV at *
      go_wp2_with fail
      go_loopg [25] 7 (fun f i wr => ∃ k : Nat, k ≤ 6 ∧ i = .int .i64 k ∧ 6 - k < f ∧ Hid (Below w2.heap.size w2 wr) ∧ Hid (mayFrom fs k (6 - k) = r))
      case atStart => exact ⟨0, by omega, rfl, by omega, Below.refl _ _, HRF⟩
      case round =>
        obtain ⟨k, hk, rfl, hfu, HBW, HMF⟩ := hrel
        clear HRF
        by_cases hlt : k < 6
        · have hz : (k : Int) < 6 := by omega
          have hidx := idx6 C k hlt wr
          unfold listV at hidx
          obtain ⟨oa, cap, hfk, hrow⟩ := HH2.out.fields k hlt
          have hC3 := heap_alloc (heap_below HC2.out HBW.out) (.cells #[.int .i64 k] 3)
          have hb3 : Below wr.heap.size wr (wr.alloc (.cells #[.int .i64 k] 3)) := (Below.refl _ _).alloc (Nat.le_refl _) _
          have HB3 := Lib.hid (HBW.out.trans (hb3.mono HBW.out.size))
          have hrow3 := hrow.below HB3.out
          have hmf : mayFrom fs k (6 - k) = (mayField (fs.getD k []) k && mayFrom fs (k + 1) (6 - (k + 1))) := by rw [show 6 - k = (6 - (k + 1)) + 1 by omega]; rfl
          have hM := HMF.out
          rw [hmf] at hM
          have hfl := HF.out k
          obtain ⟨l, hl⟩ : ∃ l, l = fs.getD k [] := ⟨_, rfl⟩
          rw [← hl] at hfk hrow3 hM hfl
          obtain ⟨cc, -, -, clt⟩ := rd hC3
          have d0 := cc (k + 1)
          rw [show CV[k + 1]? = _ from hfk] at d0
          have hcell : (wr.alloc (.cells #[.int .i64 k] 3)).cell? ⟨wr.heap.size, 0, none⟩ = some (.int .i64 k) := by simp
          have HCT := Lib.hid (containsPt_any 114 #[.pointer (some ⟨wr.heap.size, 0, none⟩)] enters_may1 (fun p => !mayPtS p k) oa cap l (wr.alloc (.cells #[.int .i64 k] 3)) hrow3 hfl (fun V j hj hV =>
            (may1_any l[j] k hlt wr.heap.size V ((hV.cell (p := ⟨wr.heap.size, 0, none⟩) (by simp)).trans hcell)).mono fun e w' ⟨a, q⟩ => ⟨a, hV.trans (q.mono hV.size)⟩))
          have hclt : C ≠ wr.heap.size := by have := lt_heap (heap_below HC2.out HBW.out); omega
          clear hC3 hb3 hrow3 hmf hfk hrow cc clt HMF hl hcell
          unfold mayField at hM
          have hany : (l.all fun p => mayPtS p k) = !(l.any fun p => !mayPtS p k) := by rw [List.all_eq_not_any_not]
          rw [hany] at hM
          generalize (l.any fun p => !mayPtS p k) = q at *
          generalize hn : l.length = n at *
          clear hany hn
          by_cases h1 : n < 1
          · have hz1 : (n : Int) < 1 := by omega
            have HR := Lib.hid (show false = r by rw [← hM]; simp; omega)
            clear hM HCT
            go_wp2_with fail
            go_ret
            exact ⟨by rw [← HR.out]; rfl, HB2.out.trans (HB3.out.mono HB2.out.size)⟩
          · have hz1 : ¬ ((n : Int) < 1) := by omega
            by_cases h2 : 4 < n
            · have hz2 : (n : Int) > 4 := by omega
              have hz3 : (4 : Int) < n := by omega
              have HR := Lib.hid (show false = r by rw [← hM]; simp; omega)
              clear hM HCT
              go_wp2_with fail
              go_ret
              exact ⟨by rw [← HR.out]; rfl, HB2.out.trans (HB3.out.mono HB2.out.size)⟩
            · have hz2 : ¬ ((n : Int) > 4) := by omega
              have hz3 : ¬ ((4 : Int) < n) := by omega
              have HM2 := Lib.hid (show (!q && mayFrom fs (k + 1) (6 - (k + 1))) = r by
                rw [← hM, decide_eq_true (show 1 ≤ n by omega), decide_eq_true (show n ≤ 4 by omega)]; simp)
              clear hM
              cases q with
              | true =>
                have HR := Lib.hid (show false = r by rw [← HM2.out]; rfl)
                go_wp2_with fail
                refine HCT.out.mono ?_
                rintro e w4 ⟨rfl, hb4⟩
                have HB4 := Lib.hid (HB3.out.trans (hb4.mono HB3.out.size))
                clear hb4 HCT
                go_wp2_with fail
                go_ret
                exact ⟨by rw [← HR.out]; rfl, HB2.out.trans (HB4.out.mono HB2.out.size)⟩
              | false =>
                have HM3 := Lib.hid (show mayFrom fs (k + 1) (6 - (k + 1)) = r by rw [← HM2.out]; rfl)
                go_wp2_with fail
                refine HCT.out.mono ?_
                rintro e w4 ⟨rfl, hb4⟩
                have HB4 := Lib.hid (HB3.out.trans (hb4.mono HB3.out.size))
                clear hb4 HCT
                go_wp2_with fail
                go_roundg (6 - k)
                case measure => omega
                case rel => exact ⟨k + 1, by omega, by go_num, by omega, HB4, HM3⟩
        · have hz : ¬ ((k : Int) < 6) := by omega
          have HR := Lib.hid (show true = r by rw [← HMF.out, show 6 - k = 0 by omega]; rfl)
          go_wp2_with fail
          go_ret
          exact ⟨by rw [← HR.out]; rfl, HB2.out.trans (HBW.out.mono HB2.out.size)⟩
end Go.Proofs.YtdpnahojhmkemaaGreatDoor

/-
  Weekdays of a text, plain. No program in sight.
-/
namespace Go.Proofs.YtdpnahojhmkemaaGreatDoor
open Go
set_option linter.unusedVariables false
set_option linter.unusedSimpArgs false

abbrev weekS : List Str := [[77, 111, 110], [84, 117, 101], [87, 101, 100], [84, 104, 117], [70, 114, 105], [83, 97, 116], [83, 117, 110]]
def dayFrom : List Str → Str → Nat → Int
  | [], _, _ => -1
  | d :: r, s, i => if d = s then (i : Int) else dayFrom r s (i + 1)
/-- Which weekday a word is; -1: none. -/
def dayIx (s : Str) : Int := dayFrom weekS s 0
theorem dayFrom_cases : ∀ (l : List Str) (s : Str) (i : Nat), dayFrom l s i = -1 ∨ ∃ n : Nat, dayFrom l s i = n ∧ n < i + l.length
  | [], s, i => .inl rfl
  | d :: r, s, i => by
    unfold dayFrom
    split
    · exact .inr ⟨i, rfl, by simp⟩
    · rcases dayFrom_cases r s (i + 1) with h | ⟨n, h1, h2⟩
      · exact .inl h
      · exact .inr ⟨n, h1, by simp; omega⟩
theorem dayIx_cases (s : Str) : dayIx s = -1 ∨ ∃ n : Nat, dayIx s = n ∧ n < 7 := by
  rcases dayFrom_cases weekS s 0 with h | ⟨n, h1, h2⟩
  · exact .inl h
  · exact .inr ⟨n, h1, by simpa using h2⟩
/-- The days of one word, first and last. -/
def dayRange (w : Str) : Option (Nat × Nat) :=
  if dayIx (Lib.cut w [46, 46]).1 < 0 ∨ dayIx (if (Lib.cut w [46, 46]).2.2 = true then (Lib.cut w [46, 46]).2.1 else (Lib.cut w [46, 46]).1) < dayIx (Lib.cut w [46, 46]).1 then none
  else some ((dayIx (Lib.cut w [46, 46]).1).toNat, (dayIx (if (Lib.cut w [46, 46]).2.2 = true then (Lib.cut w [46, 46]).2.1 else (Lib.cut w [46, 46]).1)).toNat)
/-- n days are marked, from d on. -/
def markN : List Bool → Nat → Nat → List Bool
  | m, _, 0 => m
  | m, d, n + 1 => markN (m.set (d + 1) true) (d + 1) n
theorem markN_len : ∀ (n d : Nat) (m : List Bool), (markN m d n).length = m.length
  | 0, d, m => rfl
  | n + 1, d, m => by rw [markN, markN_len n]; simp
def workL : List Str → List Bool → Option (List Bool)
  | [], m => some m
  | w :: t, m => match dayRange w with
    | none => none
    | some (f, l) => workL t (markN m f (l + 1 - f))
theorem workL_len : ∀ (l : List Str) (m r : List Bool), workL l m = some r → r.length = m.length
  | [], m, r, h => by simp [workL] at h; subst h; rfl
  | w :: t, m, r, h => by
    rw [workL] at h
    cases hd : dayRange w with
    | none => rw [hd] at h; simp at h
    | some p =>
      rw [hd] at h
      simp only at h
      rw [workL_len t _ r h, markN_len]
theorem workL_snoc : ∀ (l : List Str) (x : Str) (m : List Bool), workL (l ++ [x]) m = match workL l m with
    | none => none
    | some r => match dayRange x with
      | none => none
      | some (f, k) => some (markN r f (k + 1 - f))
  | [], x, m => by
    simp only [List.nil_append, workL]
  | w :: t, x, m => by
    rw [List.cons_append, workL, workL]
    cases dayRange w with
    | none => rfl
    | some p => exact workL_snoc t x _
theorem workL_none : ∀ (l k : List Str) (m : List Bool), workL l m = none → workL (l ++ k) m = none
  | [], k, m, h => by simp [workL] at h
  | w :: t, k, m, h => by
    rw [List.cons_append, workL]
    rw [workL] at h
    cases hd : dayRange w with
    | none => rfl
    | some p =>
      rw [hd] at h
      exact workL_none t k _ h
def noDays : List Bool := List.replicate 8 false
/-- The days that are marked, rising. -/
def daysOf (m : List Bool) : List Int := ((List.range 8).filter fun i => m.getD i false).map fun (i : Nat) => (i : Int)
/-- Weekdays that a text says. -/
def workS (s : Str) : Option (List Int) := (workL (splitC 44 s) noDays).map daysOf
def daysTo (m : List Bool) (k : Nat) : List Int := ((List.range k).filter fun i => m.getD i false).map fun (i : Nat) => (i : Int)
theorem daysTo_succ (m : List Bool) (k : Nat) : daysTo m (k + 1) = if m.getD k false = true then daysTo m k ++ [(k : Int)] else daysTo m k := by
  unfold daysTo
  rw [List.range_succ, List.filter_append, List.map_append]
  by_cases h : m.getD k false = true
  · rw [if_pos h]; simp [List.getD_eq_getElem?_getD] at h ⊢; simp [h]
  · rw [if_neg h]; simp [List.getD_eq_getElem?_getD] at h ⊢; simp [h]
theorem daysTo_len (m : List Bool) (k : Nat) : (daysTo m k).length ≤ k := by
  unfold daysTo
  rw [List.length_map]
  exact Nat.le_trans (List.length_filter_le _ _) (by simp)
end Go.Proofs.YtdpnahojhmkemaaGreatDoor

/-
  Package cal: weekdays, workdays.
-/
namespace Go.Proofs.YtdpnahojhmkemaaGreatDoor
open Go Go.RowKit Go.Shelf
set_option linter.unusedVariables false
set_option linter.unusedSimpArgs false
set_option maxRecDepth 100000
attribute [local go_sem] Oper.semAt_some

def weekV : Array Value := #[.string ⟨#[77, 111, 110]⟩, .string ⟨#[84, 117, 101]⟩, .string ⟨#[87, 101, 100]⟩, .string ⟨#[84, 104, 117]⟩, .string ⟨#[70, 114, 105]⟩, .string ⟨#[83, 97, 116]⟩, .string ⟨#[83, 117, 110]⟩]
theorem weekdays_any (w : World) : Calls Tryz.prog 107 #[] w fun e w' => e = .returned (.slice (some ⟨w.heap.size, 0, none⟩) 7 7) ∧ w' = w.alloc (.cells weekV 9) := by
  go_enter Tryz.func107, Tryz.ntmps107
  go_wp2
  go_ret
  exact ⟨rfl, rfl⟩
theorem idx_day (s : Str) : ∀ (l : List Str) (i : Nat), Lib.idxFromS (l.map fun d => (⟨d.toArray⟩ : ByteArray)) ⟨s.toArray⟩ i = dayFrom l s i
  | [], i => rfl
  | d :: r, i => by
    have he : ((⟨d.toArray⟩ : ByteArray) = ⟨s.toArray⟩) ↔ d = s := by
      constructor
      · intro h
        have := congrArg (fun x : ByteArray => x.data.toList) h
        simpa using this
      · rintro rfl; rfl
    rw [List.map_cons, Lib.idxFromS, dayFrom, idx_day s r (i + 1)]
    by_cases h : d = s
    · simp [h]
    · simp [h, he]
theorem index_week (A : Nat) (s : Str) (w : World) (h : w.heap[A]? = some (.cells weekV 9 (0, 0))) :
    Calls Tryz.prog 68 #[.slice (some ⟨A, 0, none⟩) 7 7, .string ⟨s.toArray⟩] w fun e w' => e = .returned (.int .i64 (dayIx s)) ∧ w' = w := by
  have := Tryz.slices_Index_string A 0 7 7 (weekS.map fun d => (⟨d.toArray⟩ : ByteArray)) ⟨s.toArray⟩ w (by simp) (by omega) (fun j hj => by
    rw [(rd h).1]
    have hj' : j < 7 := by simpa using hj
    match j, hj' with
    | 0, _ => rfl
    | 1, _ => rfl
    | 2, _ => rfl
    | 3, _ => rfl
    | 4, _ => rfl
    | 5, _ => rfl
    | 6, _ => rfl)
  rw [List.take_of_length_le (by simp), show Lib.idxOfS (weekS.map fun d => (⟨d.toArray⟩ : ByteArray)) ⟨s.toArray⟩ = dayIx s from idx_day s weekS 0] at this
  exact this

theorem infoInt : (Tryz.prog.info? 3).map (fun i => (i.zero, i.size, i.bytes)) = some (some (.int .i64 0), 1, 8) := by kernel_rfl
theorem idx8 (b0 b1 b2 b3 b4 b5 b6 b7 : Bool) (k : Nat) (hk : k < 8) (W : World) : (Instr.index 113 (.agg #[.bool b0, .bool b1, .bool b2, .bool b3, .bool b4, .bool b5, .bool b6, .bool b7]) (.int .i64 k)).run Tryz.prog W = .ok (.bool ([b0, b1, b2, b3, b4, b5, b6, b7].getD k false)) W := by
  match k, hk with
  | 0, _ => rfl
  | 1, _ => rfl
  | 2, _ => rfl
  | 3, _ => rfl
  | 4, _ => rfl
  | 5, _ => rfl
  | 6, _ => rfl
  | 7, _ => rfl
/-- Marks, as cells. -/
def markV (m : List Bool) : Array Value := (m.map Value.bool).toArray
theorem markV_set (m : List Bool) (i : Nat) : (markV m).setIfInBounds i (.bool true) = markV (m.set i true) := by
  unfold markV
  rw [List.setIfInBounds_toArray, List.map_set]
/-- Between two rounds. -/
structure InW (w : World) (B N : Nat) (pre : List Str) (W : World) : Prop where
  r0 : W.heap[B]? = some (.cells #[.slice none 0 0] 64 (0, 0))
  r1 : W.heap[B + 1]? = some (.cells #[.bool false] 4 (0, 0))
  out : ∃ m, workL pre noDays = some m ∧ W.heap[B + 2]? = some (.cells (markV m) 113 (0, 0))
  below : Below B w W
  big : N ≤ W.heap.size
structure ExW (w : World) (B : Nat) (xs : List Str) (c : Code) (W : World) : Prop where
  jump : c = .ret
  r0 : W.heap[B]? = some (.cells #[.slice none 0 0] 64 (0, 0))
  r1 : W.heap[B + 1]? = some (.cells #[.bool false] 4 (0, 0))
  none_ : workL xs noDays = none
  below : Below B w W
theorem soft_InW (w : World) (B N b : Nat) (hw : B = w.heap.size) (hb : B + 2 < b) (hN : b < N) : Soft N b (InW w B N) := fun s X Y row h hg hr =>
  { r0 := soft_cell hg hr h.r0 rfl (by omega)
    r1 := soft_cell hg hr h.r1 rfl (by omega)
    out := by obtain ⟨m, h1, h2⟩ := h.out; exact ⟨m, h1, soft_cell hg hr h2 rfl (by omega)⟩
    below := soft_below hg hr h.below (by omega) (by omega) (by have := h.below.size; omega)
    big := Nat.le_trans h.big hg.size }
theorem soft_ExW (w : World) (B N b : Nat) (xs : List Str) (c : Code) (hw : B = w.heap.size) (hb : B + 2 < b) (hN : b < N) : Soft N b (fun (_ : List Str) => ExW w B xs c) := fun s X Y row h hg hr =>
  { jump := h.jump
    r0 := soft_cell hg hr h.r0 rfl (by omega)
    r1 := soft_cell hg hr h.r1 rfl (by omega)
    none_ := h.none_
    below := soft_below hg hr h.below (by omega) (by omega) (by have := h.below.size; omega) }

/-- What workdays gives back. -/
def WorkOut (w : World) (s : Str) (e : Ending) (w' : World) : Prop :=
  ∃ v, e = .returned (.tuple #[v, .bool (workS s).isSome]) ∧ w'.ownsRow w.heap.size 3 1 v ((workS s).getD []).length (((workS s).getD []).map fun n => .int .i64 n) ∧ Below w.heap.size w w'

set_option maxHeartbeats 8000000 in
theorem work_any (s : Str) (w : World) (hs : s.length ≤ 100000000) (hM : MaxAt w) : Calls Tryz.prog 80 #[.string ⟨s.toArray⟩] w fun e w' => WorkOut w s e w' := by
  have HM := Lib.hid (fun V (h : Below w.heap.size w V) => hM.below h)
  have HMEM := Lib.hid (splitC_mem 44 s)
  have HCUT := Lib.hid (fun (t : Str) V (ht : t.length ≤ 100000000) (h : MaxAt V) => show Calls Tryz.prog 91 #[.string ⟨t.toArray⟩, .string ⟨#[46, 46]⟩] V fun e w' =>
      e = .returned (.tuple #[.string ⟨(Lib.cut t [46, 46]).1.toArray⟩, .string ⟨(Lib.cut t [46, 46]).2.1.toArray⟩, .bool (Lib.cut t [46, 46]).2.2]) ∧ ∃ n, w' = V.drewN n by
    obtain ⟨m, hm⟩ := h
    exact Tryz.strings_Cut ⟨t.toArray⟩ ⟨#[46, 46]⟩ m V (by show t.toArray.size < _; simp; omega) hm)
  let w0 := ((w.alloc (.cells #[.slice none 0 0] 64)).alloc (.cells #[.bool false] 4)).alloc (.cells #[.bool false, .bool false, .bool false, .bool false, .bool false, .bool false, .bool false, .bool false] 113)
  have hz0 : w0.heap.size = w.heap.size + 3 := by simp [w0]
  have hB0 : Below w.heap.size w w0 := (((Below.refl _ _).alloc (Nat.le_refl _) _).alloc (by simp) _).alloc (by simp; omega) _
  have a0 : w0.heap[w.heap.size]? = some (.cells #[.slice none 0 0] 64 (0, 0)) := heap_alloc (heap_alloc (heap_alloc_new w _) _) _
  have a1 : w0.heap[w.heap.size + 1]? = some (.cells #[.bool false] 4 (0, 0)) := by
    rw [← show (w.alloc (.cells #[.slice none 0 0] 64)).heap.size = w.heap.size + 1 by simp]; exact heap_alloc (heap_alloc_new _ _) _
  have a2 : w0.heap[w.heap.size + 2]? = some (.cells (markV noDays) 113 (0, 0)) := by
    rw [← show ((w.alloc (.cells #[.slice none 0 0] 64)).alloc (.cells #[.bool false] 4)).heap.size = w.heap.size + 2 by simp]; exact heap_alloc_new _ _
  have HSQ := Lib.hid (splitSeq_any 44 s w0)
  obtain ⟨pl, hbs, hzs⟩ := splitW_place w0 44 s
  have HPL := Lib.hid pl
  have HI0 := Lib.hid (show InW w w.heap.size (splitW w0 44 s).heap.size [] (splitW w0 44 s) from
    { r0 := heap_below a0 hbs, r1 := heap_below a1 hbs, out := ⟨_, rfl, heap_below a2 hbs⟩, below := hB0.trans (hbs.mono (by omega)), big := Nat.le_refl _ })
  clear a0 a1 a2 pl hbs hB0 hM
  have HZ0 := Lib.hid hz0
  refine (callsIn_wide (n := 9)).1 ?_
  have hF : Fence.wide.fn 106 := trivial
  refine callsIn_of_wp_marks Tryz.func80 rfl trivial ?_ rfl
  simp only [Tryz.ntmps80, List.size_toArray, List.length_cons, List.length_nil, Nat.reduceAdd, Nat.reduceSub, Array.replicate_succ, Array.replicate_zero, List.push_toArray, List.append_toArray, List.nil_append, List.cons_append]
  gi_wp2_with (gi_at_call 106; refine (callsIn_wide.2 HSQ.out).mono ?_; rintro e w' ⟨rfl, rfl⟩)
  refine wp_rangeBox (n := 9) (gf := 159) (lb := #[.pointer (some ⟨w.heap.size + 3 + 1, 0, none⟩), .pointer (some ⟨w.heap.size + 3, 0, none⟩), .pointer (some ⟨w.heap.size + 3 + 2, 0, none⟩)]) rfl enters_split1
    (split_stops 8 (w.heap.size + 3) (by decide) 44 s (splitW w0 44 s) (by rw [← hz0]; exact HPL.out) (by omega)) (by omega)
    (fun A o h => KpB.of_below ((Below.refl _ A).alloc (Nat.le_refl _) o) (by omega)) (fun h k => KpB.trans h k)
    (fun W l o h => ⟨by simp, fun k hk => World.putObj_heap_other (by omega)⟩) rfl
    (InW w w.heap.size (splitW w0 44 s).heap.size) (fun c _ => ExW w w.heap.size (splitC 44 s) c)
    (soft_InW w w.heap.size _ (w.heap.size + 3) rfl (by omega) (by omega)) (fun c => soft_ExW w w.heap.size _ (w.heap.size + 3) _ c rfl (by omega) (by omega)) HI0.out
    (fun x => { tmps := #[.string ⟨s.toArray⟩, undef, .pointer (some ⟨w.heap.size, 0, none⟩), .pointer (some ⟨w.heap.size + 1, 0, none⟩), .pointer (some ⟨w.heap.size + 1 + 1, 0, none⟩), .string ⟨x.toArray⟩, undef, undef, undef, undef, undef, undef, undef, undef, undef, .string ⟨s.toArray⟩, .func (.func 159) #[] #[.pointer (some ⟨w.heap.size + 3 + 1, 0, none⟩), .pointer (some ⟨w.heap.size + 3, 0, none⟩), .pointer (some ⟨w.heap.size + 3 + 2, 0, none⟩)], .string ⟨x.toArray⟩, undef, undef, undef, undef, undef, undef, undef, undef, undef, undef, undef, undef, undef, undef, undef, undef, undef, undef, undef, undef, undef, undef, undef, undef, undef, undef, undef, undef, undef, undef, undef, undef, undef, undef, undef, undef, undef, undef, undef, undef, undef, undef, undef], defers := [] }) ?assign ?body ?done ?stop
  case assign =>
    intro l x W K hK
    gi_wp2
    exact hK
  case body =>
    rintro l pre x post W hx hI
    have hF3 : Fence.wide.fn 91 := trivial
    have hF4 : Fence.wide.fn 107 := trivial
    have hF5 : Fence.wide.fn 68 := trivial
    have hxl : x.length ≤ s.length := HMEM.out x (by rw [hx]; simp)
    have HC := Lib.hid (HCUT.out x W (by omega) (HM.out W hI.below))
    have HX := Lib.hid hx
    obtain ⟨m, hwm, h2⟩ := hI.out
    obtain ⟨N, hN⟩ : ∃ N, N = (splitW w0 44 s).heap.size := ⟨_, rfl⟩
    rw [← hN] at hI ⊢
    have HNw := Lib.hid (show N = w.heap.size + 6 by omega)
    have HNO := Lib.hid (fun (h : dayRange x = none) => show workL (splitC 44 s) noDays = none by
      rw [HX.out, show pre ++ x :: post = (pre ++ [x]) ++ post by simp]
      refine workL_none _ _ _ ?_
      rw [workL_snoc, hwm, h])
    have HYE := Lib.hid (fun f k (h : dayRange x = some (f, k)) => show workL (pre ++ [x]) noDays = some (markN m f (k + 1 - f)) by rw [workL_snoc, hwm, h])
    have hml : m.length = 8 := by rw [workL_len _ _ _ hwm]; rfl
    obtain ⟨c1, c2, q, hcut⟩ : ∃ c1 c2 q, Lib.cut x [46, 46] = (c1, c2, q) := ⟨_, _, _, rfl⟩
    have hdr : dayRange x = if dayIx c1 < 0 ∨ dayIx (if q = true then c2 else c1) < dayIx c1 then none else some ((dayIx c1).toNat, (dayIx (if q = true then c2 else c1)).toNat) := by unfold dayRange; rw [hcut]
    rw [hcut] at HC
    have HDR := Lib.hid hdr
    have HR0 := Lib.hid hI.r0; have HR1 := Lib.hid hI.r1; have HR2 := Lib.hid h2; have HBW := Lib.hid hI.below; have HBG := Lib.hid hI.big
    clear hI hx hN hzs HPL HI0 HSQ hz0 HZ0 hwm h2 hdr hcut
    gi_wp2_with fail
    refine (CallsIn.inRound l (callsIn_wide.2 HC.out)).mono ?_
    rintro e W1 ⟨rfl, n1, rfl⟩
    clear HC
    have hb1 : Below W.heap.size W ((W.drewN n1).alloc (.cells weekV 9)) := (show Below W.heap.size W (W.drewN n1) from below_dn ⟨_, rfl⟩).alloc (Nat.le_refl _) _
    have hb2 : Below W.heap.size W (((W.drewN n1).alloc (.cells weekV 9)).alloc (.cells weekV 9)) := hb1.alloc (by simp) _
    have k1 : ((W.drewN n1).alloc (.cells weekV 9)).heap[W.heap.size]? = some (.cells weekV 9 (0, 0)) := heap_alloc_new (W.drewN n1) _
    have k2 : (((W.drewN n1).alloc (.cells weekV 9)).alloc (.cells weekV 9)).heap[W.heap.size + 1]? = some (.cells weekV 9 (0, 0)) := by
      have := heap_alloc_new ((W.drewN n1).alloc (.cells weekV 9)) (.cells weekV 9)
      rw [show ((W.drewN n1).alloc (.cells weekV 9)).heap.size = W.heap.size + 1 by simp] at this
      exact this
    have HS0 := Lib.hid (heap_below HR0.out hb2); have HS1 := Lib.hid (heap_below HR1.out hb2); have HS2 := Lib.hid (heap_below HR2.out hb2)
    have HSB := Lib.hid (HBW.out.trans (hb2.mono HBW.out.size))
    have HSK := Lib.hid (keeps_of_below hb2 N)
    have HSP := Lib.hid (KpB.of_below (b := w.heap.size + 3) hb2 (by have := HBG.out; have := HNw.out; omega))
    have HSG := Lib.hid (Nat.le_trans HBG.out hb2.size)
    have HI1 := Lib.hid (index_week W.heap.size c1 _ k1)
    have HW1 := Lib.hid (fun V => weekdays_any V)
    cases q with
    | true =>
      have HI2' := index_week (W.heap.size + 1) c2 _ k2
      obtain ⟨D2, hD2⟩ : ∃ D, D = dayIx c2 := ⟨_, rfl⟩
      rw [← hD2] at HI2'
      have HI2 := Lib.hid HI2'
      obtain ⟨D1, hD1⟩ : ∃ D, D = dayIx c1 := ⟨_, rfl⟩
      have HI1' := HI1.out
      rw [← hD1] at HI1'
      replace HI1 := Lib.hid HI1'
      have hq1 := dayIx_cases c1
      rw [← hD1] at hq1
      have hq2 := dayIx_cases c2
      rw [← hD2] at hq2
      have hdr2 : ∀ A1 A2, A1 = dayIx c1 → A2 = dayIx c2 → dayRange x = if A1 < 0 ∨ A2 < A1 then none else some (A1.toNat, A2.toNat) := by rintro _ _ rfl rfl; rw [HDR.out]; simp
      replace HDR := Lib.hid (hdr2 D1 D2 hD1 hD2)
      clear HI1' HI2' hdr2 hD1 hD2
      clear hb1 hb2 k1 k2
      gi_wp2_with (gi_at_call 107; refine (CallsIn.inRound l (callsIn_wide.2 (HW1.out _))).mono ?_; rintro e w' ⟨rfl, rfl⟩)
      refine (CallsIn.inRound l (callsIn_wide.2 HI1.out)).mono ?_
      rintro e w' ⟨rfl, rfl⟩
      gi_wp2_with (gi_at_call 107; refine (CallsIn.inRound l (callsIn_wide.2 (HW1.out _))).mono ?_; rintro e w' ⟨rfl, rfl⟩)
      refine (CallsIn.inRound l (callsIn_wide.2 HI2.out)).mono ?_
      rintro e w' ⟨rfl, rfl⟩
      clear HI1 HI2 HW1 HR0 HR1 HR2 HBW HBG
      generalize ((W.drewN n1).alloc (.cells weekV 9)).alloc (.cells weekV 9) = W2 at *
      obtain ⟨a0, a1, a2, a3⟩ := rd HS0.out; obtain ⟨b0, b1, b2, b3⟩ := rd HS1.out
      have a00 := a0 0; have b00 := b0 0; have a10 := a1 0; have b10 := b1 0
      simp only [List.getElem?_toArray, List.getElem?_cons_zero] at a00 b00
      clear a0 a1 a2 b0 b1 b2
      have HLV := Lib.hid (fun (h : dayRange x = none) => show KeepsFrom N W ((W2.setCell ⟨w.heap.size, 0, none⟩ (.slice none 0 0)).setCell ⟨w.heap.size + 1, 0, none⟩ (.bool false)) ∧ ExW w w.heap.size (splitC 44 s) .ret ((W2.setCell ⟨w.heap.size, 0, none⟩ (.slice none 0 0)).setCell ⟨w.heap.size + 1, 0, none⟩ (.bool false)) from
        ⟨HSK.out.trans (((KeepsOthers.setCell _ _ _).trans (KeepsOthers.setCell _ _ _)).from N),
          { jump := rfl
            r0 := heap_other (heap_setCell HS0.out 0 (.slice none 0 0)) (a := ⟨w.heap.size + 1, 0, none⟩) (by simp) _
            r1 := heap_setCell (heap_other HS1.out (a := ⟨w.heap.size, 0, none⟩) (by simp) _) 0 (.bool false)
            none_ := HNO.out h
            below := (HSB.out.setCell (p := ⟨w.heap.size, 0, none⟩) (Nat.le_refl _) _).setCell (p := ⟨w.heap.size + 1, 0, none⟩) (by simp) _ }⟩)
      rcases hq1 with hf | ⟨f, hf, hf7⟩
      · have HLV2 := Lib.hid (HLV.out (by rw [HDR.out, hf]; simp))
        rw [hf]
        clear HLV
        gi_wp2_with fail
        exact HLV2.out
      · have hf0 : ¬ ((f : Int) < 0) := by omega
        rcases hq2 with hk | ⟨k, hk, hk7⟩
        · have HLV2 := Lib.hid (HLV.out (by rw [HDR.out, hf, hk]; simp; omega))
          have hlt : (-1 : Int) < (f : Int) := by omega
          rw [hf, hk]
          clear HLV
          gi_wp2_with fail
          exact HLV2.out
        · by_cases hkf : k < f
          · have HLV2 := Lib.hid (HLV.out (by rw [HDR.out, hf, hk]; simp; omega))
            have hlt : (k : Int) < (f : Int) := by omega
            rw [hf, hk]
            clear HLV
            gi_wp2_with fail
            exact HLV2.out
          · have hlt : ¬ ((k : Int) < (f : Int)) := by omega
            have HMK := Lib.hid (HYE.out f k (by rw [HDR.out, hf, hk]; simp; omega))
            rw [hf, hk]
            clear HLV HNO HYE HDR hf hk a00 b00 a10 b10 a3 b3 HMEM HCUT HX
            gi_wp2_with fail
            gi_loopg [11] (k + 2) (fun fu d wr => ∃ (e : Nat) (m' : List Bool), e ≤ k + 1 ∧ f ≤ e ∧ d = .int .i64 e ∧ k + 1 - e < fu ∧ m'.length = 8 ∧ Hid (markN m' e (k + 1 - e) = markN m f (k + 1 - f)) ∧ Hid (wr.heap[w.heap.size]? = some (.cells #[.slice none 0 0] 64 (0, 0))) ∧ Hid (wr.heap[w.heap.size + 1]? = some (.cells #[.bool false] 4 (0, 0))) ∧
              Hid (wr.heap[w.heap.size + 2]? = some (.cells (markV m') 113 (0, 0))) ∧ Hid (KeepsFrom N W wr) ∧ Hid (KpB (w.heap.size + 3) W wr) ∧ Hid (Below w.heap.size w wr) ∧ Hid (N ≤ wr.heap.size))
            case atStart => exact ⟨f, m, by omega, by omega, rfl, by omega, hml, rfl, HS0, HS1, HS2, HSK, HSP, HSB, HSG⟩
            case round =>
              obtain ⟨e, m', he1, he2, rfl, hfu, hm8, HE, HT0, HT1, HT2, HTK, HTP, HTB, HTG⟩ := hrel
              by_cases hle : e ≤ k
              · have hz : (e : Int) ≤ (k : Int) := by omega
                have he8 : (e : Int) + 1 < 8 := by omega
                have he9 : e + 1 < 8 := by omega
                obtain ⟨d0, d1, d2, d3⟩ := rd HT2.out
                have dc := d0 (e + 1)
                have dd : (markV m')[e + 1]? = some (.bool (m'[e + 1]'(by omega))) := by
                  unfold markV
                  rw [List.getElem?_toArray, List.getElem?_map, List.getElem?_eq_getElem (by omega)]; rfl
                rw [dd] at dc
                have df := d1 (e + 1)
                have HT3 := Lib.hid (show (wr.setCell ⟨w.heap.size + 2, e + 1, none⟩ (.bool true)).heap[w.heap.size + 2]? = some (.cells (markV (m'.set (e + 1) true)) 113 (0, 0)) by
                  rw [← markV_set]; exact heap_setCell HT2.out (e + 1) (.bool true))
                have HE2 := Lib.hid (show markN (m'.set (e + 1) true) (e + 1) (k + 1 - (e + 1)) = markN m f (k + 1 - f) by
                  rw [← HE.out, show k + 1 - e = (k + 1 - (e + 1)) + 1 by omega]; rfl)
                clear d0 d1 d2 d3 dd
                gi_wp2_with fail
                gi_roundg (k + 1 - e)
                case measure => omega
                case rel => exact ⟨e + 1, m'.set (e + 1) true, by omega, by omega, by go_num, by omega, by simpa using hm8, HE2, heap_other HT0.out (a := ⟨w.heap.size + 2, e + 1, none⟩) (by simp) _, heap_other HT1.out (a := ⟨w.heap.size + 2, e + 1, none⟩) (by simp) _, HT3,
                    HTK.out.trans ((KeepsOthers.setCell _ _ _).from N), HTP.out.trans ⟨by simp, fun i hi => Below.heap_setCell _ _ _ i (by show i ≠ w.heap.size + 2; omega)⟩, HTB.out.setCell (p := ⟨w.heap.size + 2, e + 1, none⟩) (by simp) _, (show N ≤ (wr.setCell _ _).heap.size from by simpa using HTG.out)⟩
              · have hz : ¬ ((e : Int) ≤ (k : Int)) := by omega
                have hmm : m' = markN m f (k + 1 - f) := by
                  have := HE.out
                  rw [show k + 1 - e = 0 by omega] at this
                  exact this
                have HFIN := Lib.hid (show KeepsFrom N W wr ∧ KpB (w.heap.size + 3) W wr ∧ InW w w.heap.size N (pre ++ [x]) wr from
                  ⟨HTK.out, HTP.out, { r0 := HT0.out, r1 := HT1.out, out := ⟨_, HMK.out, by rw [← hmm]; exact HT2.out⟩, below := HTB.out, big := HTG.out }⟩)
                clear hmm
                gi_wp2_with fail
                exact HFIN.out
    | false =>
      have HI2' := index_week (W.heap.size + 1) c1 _ k2
      obtain ⟨D2, hD2⟩ : ∃ D, D = dayIx c1 := ⟨_, rfl⟩
      rw [← hD2] at HI2'
      have HI2 := Lib.hid HI2'
      obtain ⟨D1, hD1⟩ : ∃ D, D = dayIx c1 := ⟨_, rfl⟩
      have HI1' := HI1.out
      rw [← hD1] at HI1'
      replace HI1 := Lib.hid HI1'
      have hq1 := dayIx_cases c1
      rw [← hD1] at hq1
      have hq2 := dayIx_cases c1
      rw [← hD2] at hq2
      have hdr2 : ∀ A1 A2, A1 = dayIx c1 → A2 = dayIx c1 → dayRange x = if A1 < 0 ∨ A2 < A1 then none else some (A1.toNat, A2.toNat) := by rintro _ _ rfl rfl; rw [HDR.out]; simp
      replace HDR := Lib.hid (hdr2 D1 D2 hD1 hD2)
      clear HI1' HI2' hdr2 hD1 hD2
      clear hb1 hb2 k1 k2
      gi_wp2_with (gi_at_call 107; refine (CallsIn.inRound l (callsIn_wide.2 (HW1.out _))).mono ?_; rintro e w' ⟨rfl, rfl⟩)
      refine (CallsIn.inRound l (callsIn_wide.2 HI1.out)).mono ?_
      rintro e w' ⟨rfl, rfl⟩
      gi_wp2_with (gi_at_call 107; refine (CallsIn.inRound l (callsIn_wide.2 (HW1.out _))).mono ?_; rintro e w' ⟨rfl, rfl⟩)
      refine (CallsIn.inRound l (callsIn_wide.2 HI2.out)).mono ?_
      rintro e w' ⟨rfl, rfl⟩
      clear HI1 HI2 HW1 HR0 HR1 HR2 HBW HBG
      generalize ((W.drewN n1).alloc (.cells weekV 9)).alloc (.cells weekV 9) = W2 at *
      obtain ⟨a0, a1, a2, a3⟩ := rd HS0.out; obtain ⟨b0, b1, b2, b3⟩ := rd HS1.out
      have a00 := a0 0; have b00 := b0 0; have a10 := a1 0; have b10 := b1 0
      simp only [List.getElem?_toArray, List.getElem?_cons_zero] at a00 b00
      clear a0 a1 a2 b0 b1 b2
      have HLV := Lib.hid (fun (h : dayRange x = none) => show KeepsFrom N W ((W2.setCell ⟨w.heap.size, 0, none⟩ (.slice none 0 0)).setCell ⟨w.heap.size + 1, 0, none⟩ (.bool false)) ∧ ExW w w.heap.size (splitC 44 s) .ret ((W2.setCell ⟨w.heap.size, 0, none⟩ (.slice none 0 0)).setCell ⟨w.heap.size + 1, 0, none⟩ (.bool false)) from
        ⟨HSK.out.trans (((KeepsOthers.setCell _ _ _).trans (KeepsOthers.setCell _ _ _)).from N),
          { jump := rfl
            r0 := heap_other (heap_setCell HS0.out 0 (.slice none 0 0)) (a := ⟨w.heap.size + 1, 0, none⟩) (by simp) _
            r1 := heap_setCell (heap_other HS1.out (a := ⟨w.heap.size, 0, none⟩) (by simp) _) 0 (.bool false)
            none_ := HNO.out h
            below := (HSB.out.setCell (p := ⟨w.heap.size, 0, none⟩) (Nat.le_refl _) _).setCell (p := ⟨w.heap.size + 1, 0, none⟩) (by simp) _ }⟩)
      rcases hq1 with hf | ⟨f, hf, hf7⟩
      · have HLV2 := Lib.hid (HLV.out (by rw [HDR.out, hf]; simp))
        rw [hf]
        clear HLV
        gi_wp2_with fail
        exact HLV2.out
      · have hf0 : ¬ ((f : Int) < 0) := by omega
        rcases hq2 with hk | ⟨k, hk, hk7⟩
        · have HLV2 := Lib.hid (HLV.out (by rw [HDR.out, hf, hk]; simp; omega))
          have hlt : (-1 : Int) < (f : Int) := by omega
          rw [hf, hk]
          clear HLV
          gi_wp2_with fail
          exact HLV2.out
        · by_cases hkf : k < f
          · have HLV2 := Lib.hid (HLV.out (by rw [HDR.out, hf, hk]; simp; omega))
            have hlt : (k : Int) < (f : Int) := by omega
            rw [hf, hk]
            clear HLV
            gi_wp2_with fail
            exact HLV2.out
          · have hlt : ¬ ((k : Int) < (f : Int)) := by omega
            have HMK := Lib.hid (HYE.out f k (by rw [HDR.out, hf, hk]; simp; omega))
            rw [hf, hk]
            clear HLV HNO HYE HDR hf hk a00 b00 a10 b10 a3 b3 HMEM HCUT HX
            gi_wp2_with fail
            gi_loopg [11] (k + 2) (fun fu d wr => ∃ (e : Nat) (m' : List Bool), e ≤ k + 1 ∧ f ≤ e ∧ d = .int .i64 e ∧ k + 1 - e < fu ∧ m'.length = 8 ∧ Hid (markN m' e (k + 1 - e) = markN m f (k + 1 - f)) ∧ Hid (wr.heap[w.heap.size]? = some (.cells #[.slice none 0 0] 64 (0, 0))) ∧ Hid (wr.heap[w.heap.size + 1]? = some (.cells #[.bool false] 4 (0, 0))) ∧
              Hid (wr.heap[w.heap.size + 2]? = some (.cells (markV m') 113 (0, 0))) ∧ Hid (KeepsFrom N W wr) ∧ Hid (KpB (w.heap.size + 3) W wr) ∧ Hid (Below w.heap.size w wr) ∧ Hid (N ≤ wr.heap.size))
            case atStart => exact ⟨f, m, by omega, by omega, rfl, by omega, hml, rfl, HS0, HS1, HS2, HSK, HSP, HSB, HSG⟩
            case round =>
              obtain ⟨e, m', he1, he2, rfl, hfu, hm8, HE, HT0, HT1, HT2, HTK, HTP, HTB, HTG⟩ := hrel
              by_cases hle : e ≤ k
              · have hz : (e : Int) ≤ (k : Int) := by omega
                have he8 : (e : Int) + 1 < 8 := by omega
                have he9 : e + 1 < 8 := by omega
                obtain ⟨d0, d1, d2, d3⟩ := rd HT2.out
                have dc := d0 (e + 1)
                have dd : (markV m')[e + 1]? = some (.bool (m'[e + 1]'(by omega))) := by
                  unfold markV
                  rw [List.getElem?_toArray, List.getElem?_map, List.getElem?_eq_getElem (by omega)]; rfl
                rw [dd] at dc
                have df := d1 (e + 1)
                have HT3 := Lib.hid (show (wr.setCell ⟨w.heap.size + 2, e + 1, none⟩ (.bool true)).heap[w.heap.size + 2]? = some (.cells (markV (m'.set (e + 1) true)) 113 (0, 0)) by
                  rw [← markV_set]; exact heap_setCell HT2.out (e + 1) (.bool true))
                have HE2 := Lib.hid (show markN (m'.set (e + 1) true) (e + 1) (k + 1 - (e + 1)) = markN m f (k + 1 - f) by
                  rw [← HE.out, show k + 1 - e = (k + 1 - (e + 1)) + 1 by omega]; rfl)
                clear d0 d1 d2 d3 dd
                gi_wp2_with fail
                gi_roundg (k + 1 - e)
                case measure => omega
                case rel => exact ⟨e + 1, m'.set (e + 1) true, by omega, by omega, by go_num, by omega, by simpa using hm8, HE2, heap_other HT0.out (a := ⟨w.heap.size + 2, e + 1, none⟩) (by simp) _, heap_other HT1.out (a := ⟨w.heap.size + 2, e + 1, none⟩) (by simp) _, HT3,
                    HTK.out.trans ((KeepsOthers.setCell _ _ _).from N), HTP.out.trans ⟨by simp, fun i hi => Below.heap_setCell _ _ _ i (by show i ≠ w.heap.size + 2; omega)⟩, HTB.out.setCell (p := ⟨w.heap.size + 2, e + 1, none⟩) (by simp) _, (show N ≤ (wr.setCell _ _).heap.size from by simpa using HTG.out)⟩
              · have hz : ¬ ((e : Int) ≤ (k : Int)) := by omega
                have hmm : m' = markN m f (k + 1 - f) := by
                  have := HE.out
                  rw [show k + 1 - e = 0 by omega] at this
                  exact this
                have HFIN := Lib.hid (show KeepsFrom N W wr ∧ KpB (w.heap.size + 3) W wr ∧ InW w w.heap.size N (pre ++ [x]) wr from
                  ⟨HTK.out, HTP.out, { r0 := HT0.out, r1 := HT1.out, out := ⟨_, HMK.out, by rw [← hmm]; exact HT2.out⟩, below := HTB.out, big := HTG.out }⟩)
                clear hmm
                gi_wp2_with fail
                exact HFIN.out
  case done =>
    rintro D W hD hI hK
    obtain ⟨m, hwm, h2⟩ := hI.out
    have hr : workS s = some (daysOf m) := by unfold workS; rw [hwm]; rfl
    have hml : m.length = 8 := by rw [workL_len _ _ _ hwm]; rfl
    have hNw : (splitW w0 44 s).heap.size = w.heap.size + 6 := by omega
    obtain ⟨N, hN⟩ : ∃ N, N = (splitW w0 44 s).heap.size := ⟨_, rfl⟩
    rw [← hN] at hD hI hNw
    have HT0 := Lib.hid hI.r0; have HT1 := Lib.hid hI.r1; have HTB := Lib.hid hI.below; have HTG := Lib.hid hI.big; have HTD := Lib.hid hK; have HR := Lib.hid hr
    obtain ⟨b0, b1, b2, b3, b4, b5, b6, b7, rfl⟩ : ∃ b0 b1 b2 b3 b4 b5 b6 b7, m = [b0, b1, b2, b3, b4, b5, b6, b7] := by
      match m, hml with
      | [b0, b1, b2, b3, b4, b5, b6, b7], _ => exact ⟨b0, b1, b2, b3, b4, b5, b6, b7, rfl⟩
    obtain ⟨m, hmd⟩ : ∃ m, m = [b0, b1, b2, b3, b4, b5, b6, b7] := ⟨_, rfl⟩
    obtain ⟨cc, cf, -, -⟩ := rd h2
    have g0 := cc 0; have g1 := cc 1; have g2 := cc 2; have g3 := cc 3; have g4 := cc 4; have g5 := cc 5; have g6 := cc 6; have g7 := cc 7
    simp only [markV, List.map_cons, List.map_nil, List.getElem?_toArray, List.getElem?_cons_zero, List.getElem?_cons_succ] at g0 g1 g2 g3 g4 g5 g6 g7
    rw [← hmd] at HR
    have HNw := Lib.hid hNw; have HD := Lib.hid hD; have HMD := Lib.hid hmd
    clear hI hK hr hwm h2 hN cc cf HI0 HPL HSQ hzs hz0 HZ0 hNw hD HMEM HCUT HM hmd
    obtain ⟨i0, hi0, hz0, hz1, hz2⟩ := info_parts infoInt
    gi_wp2_with fail
    gi_loopg [12, 50] 9 (fun fu v d wr => ∃ k : Nat, k ≤ 8 ∧ d = .int .i64 k ∧ 8 - k < fu ∧ Hid (wr.ownsRow W.heap.size 3 1 v (daysTo m k).length ((daysTo m k).map fun n => .int .i64 n)) ∧ Hid (Below W.heap.size W wr))
    case atStart => exact ⟨0, by omega, rfl, by omega, World.ownsRow_nil _ _ _ _, Below.refl _ _⟩
    case round =>
      obtain ⟨k, hk, rfl, hfu, HO, HB⟩ := hrel
      obtain ⟨oa, cap, rfl⟩ := ownsRow_form HO.out
      clear g0 g1 g2 g3 g4 g5 g6 g7
      by_cases hlt : k < 8
      · have hz : (k : Int) < 8 := by omega
        have HS := Lib.hid (daysTo_succ m k)
        have hql : (daysTo m k).length ≤ 8 := Nat.le_trans (daysTo_len m k) (by omega)
        have hq : ∃ q, m.getD k false = q := ⟨_, rfl⟩
        obtain ⟨q, hq⟩ := hq
        have hix := idx8 b0 b1 b2 b3 b4 b5 b6 b7 k hlt wr
        rw [← HMD.out, hq] at hix
        rw [hq] at HS
        clear hq
        cases q with
        | false =>
          have HS2 := Lib.hid (show daysTo m (k + 1) = daysTo m k by rw [HS.out, if_neg (by simp)])
          clear HS
          gi_wp2_with fail
          gi_roundg (8 - k)
          case measure => omega
          case rel => exact ⟨k + 1, by omega, by go_num, by omega, by rw [HS2.out]; exact HO, HB⟩
        | true =>
          have HS2 := Lib.hid (show daysTo m (k + 1) = daysTo m k ++ [(k : Int)] by rw [HS.out, if_pos rfl])
          have hB1 : Below wr.heap.size wr (wr.alloc (.cells #[.int .i64 k] 3)) := (Below.refl _ _).alloc (Nat.le_refl _) _
          obtain ⟨v', w4, hrun, hown4, hgrow, -⟩ := run_append_own (P := Tryz.prog) (wr.alloc (.cells #[.int .i64 k] 3)) W.heap.size 64 64 3 i0 (.int .i64 0) 1 8 Tryz.underlying64 hi0 hz0 hz1 hz2 rfl (by decide) _ _ _ (HO.out.alloc _) ⟨wr.heap.size, 0, none⟩ 1 1 [.int .i64 k] rfl (cell_one_new _ _ _) (by simp [Value.oneCell']) (by unfold maxLen; omega) (by omega) (by have := HB.out.size; simp; omega)
          have HRUN := Lib.hid hrun
          have HB4 := Lib.hid ((HB.out.trans (hB1.mono HB.out.size)).grown hgrow (by have := HB.out.size; simp; omega) (fun g hg => (HO.out.lt g hg).1))
          have HO4 := Lib.hid (show w4.ownsRow W.heap.size 3 1 v' (daysTo m (k + 1)).length ((daysTo m (k + 1)).map fun n => .int .i64 n) by
            rw [HS2.out, List.length_append, List.map_append]; exact hown4)
          obtain ⟨oa3, cap3, rfl⟩ := ownsRow_form HO4.out
          clear HS hrun hown4 hgrow hB1
          gi_wp2_with (gi_at_builtin; refine lIn_append_run rfl _ _ 64 rfl HRUN.out rfl rfl ?_)
          gi_roundg (8 - k)
          case measure => omega
          case rel => exact ⟨k + 1, by omega, by go_num, by omega, HO4, HB4⟩
      · have hz : ¬ ((k : Int) < 8) := by omega
        obtain rfl : k = 8 := by omega
        have q0 := heap_below HT0.out HB.out; have q1 := heap_below HT1.out HB.out
        have qD := heap_below HTD.out HB.out
        obtain ⟨a0, a1, a2, a3⟩ := rd q0; obtain ⟨e0, e1, e2, e3⟩ := rd q1
        have a00 := a0 0; have e00 := e0 0; have a10 := a1 0; have e10 := e1 0
        simp only [List.getElem?_toArray, List.getElem?_cons_zero] at a00 e00
        obtain ⟨ds, hds⟩ : ∃ ds, ds = daysTo m 8 := ⟨_, rfl⟩
        have HR2 := Lib.hid (show workS s = some ds by rw [HR.out, hds]; rfl)
        rw [← hds] at HO ⊢
        clear hds
        have hNw := HNw.out; have hD := HD.out; have hlD := lt_heap HTD.out
        let V := (wr.setCell ⟨w.heap.size, 0, none⟩ (.slice oa ds.length cap)).setCell ⟨w.heap.size + 1, 0, none⟩ (.bool true)
        have hKV : V.heap[D]? = some (.deferred (some [])) := by
          show ((wr.setCell ⟨w.heap.size, 0, none⟩ (.slice oa ds.length cap)).setCell ⟨w.heap.size + 1, 0, none⟩ (.bool true)).heap[D]? = _
          rw [Below.heap_setCell _ _ _ D (by show D ≠ w.heap.size + 1; omega), Below.heap_setCell _ _ _ D (by show D ≠ w.heap.size; omega)]
          exact qD
        have f0 : V.heap[w.heap.size]? = some (.cells #[.slice oa ds.length cap] 64 (0, 0)) := heap_other (heap_setCell q0 0 (.slice oa ds.length cap)) (a := ⟨w.heap.size + 1, 0, none⟩) (by simp) _
        have f1 : V.heap[w.heap.size + 1]? = some (.cells #[.bool true] 4 (0, 0)) := heap_setCell (heap_other q1 (a := ⟨w.heap.size, 0, none⟩) (by simp) _) 0 (.bool true)
        have hbV : Below w.heap.size w V := ((HTB.out.trans (HB.out.mono HTB.out.size)).setCell (p := ⟨w.heap.size, 0, none⟩) (Nat.le_refl _) _).setCell (p := ⟨w.heap.size + 1, 0, none⟩) (by simp) _
        have hoV : V.ownsRow W.heap.size 3 1 (.slice oa ds.length cap) ds.length (ds.map fun n => .int .i64 n) := by
          refine ownsRow_fr HO.out (M := fun k => k = w.heap.size ∨ k = w.heap.size + 1) (Fr.setCell (M := fun k => k = w.heap.size ∨ k = w.heap.size + 1) (p := ⟨w.heap.size + 1, 0, none⟩) (Fr.setCell (M := fun k => k = w.heap.size ∨ k = w.heap.size + 1) (p := ⟨w.heap.size, 0, none⟩) (Fr.refl _ _) (fun _ => .inl rfl) _) (fun _ => .inr rfl) _) ?_
          rintro g hg - (rfl | rfl)
          · have := (HO.out.lt _ hg).1; omega
          · have := (HO.out.lt _ hg).1; omega
        have g0 : (V.putObj D (.deferred none)).heap[w.heap.size]? = some (.cells #[.slice oa ds.length cap] 64 (0, 0)) := (World.putObj_heap_other (by omega)).trans f0
        have g1 : (V.putObj D (.deferred none)).heap[w.heap.size + 1]? = some (.cells #[.bool true] 4 (0, 0)) := (World.putObj_heap_other (by omega)).trans f1
        have HG0 := Lib.hid g0; have HG1 := Lib.hid g1; have HKV := Lib.hid hKV
        have HEND := Lib.hid (show Below w.heap.size w (V.putObj D (.deferred none)) ∧ (V.putObj D (.deferred none)).ownsRow w.heap.size 3 1 (.slice oa ds.length cap) ds.length (ds.map fun n => .int .i64 n) from
          ⟨hbV.grown (grownBy_putObj' V D _) (by have := hbV.size; omega) (fun k e => by cases e; omega), by
            have := ownsRow_putObj hoV (.deferred none) hKV rfl
            refine ⟨this.1, ?_⟩
            rcases this.2 with hn | ⟨g, cp, cur, hv, hb, rest⟩
            · exact .inl hn
            · exact .inr ⟨g, cp, cur, hv, by omega, rest⟩⟩)
        clear hKV f0 f1 hbV hoV g0 g1 q0 q1 qD a0 a1 a2 e0 e1 e2 HT0 HT1 HTD HO HB
        gi_wp2_with fail
        refine ⟨by simp, .inl ⟨_, _, rfl, run_takeDeferred HKV.out, ?_⟩⟩
        obtain ⟨c0, -, -, -⟩ := rd HG0.out; obtain ⟨c1, -, -, -⟩ := rd HG1.out
        have c00 := c0 0; have c10 := c1 0
        simp only [List.getElem?_toArray, List.getElem?_cons_zero, V] at c00 c10
        refine ⟨.tuple #[.slice oa ds.length cap, .bool true], ?_, ?_⟩
        · simp [results, Tryz.results80, go_sem, c00, c10]
        · exact ⟨_, by rw [HR2.out]; rfl, by rw [HR2.out]; exact HEND.out.2, HEND.out.1⟩
  case stop =>
    rintro D c pre W hD hE hK
    obtain rfl := hE.jump
    have hr : workS s = none := by unfold workS; rw [hE.none_]; rfl
    have hNw : (splitW w0 44 s).heap.size = w.heap.size + 6 := by omega
    have hblt := lt_heap hK
    have g0 : (W.putObj D (.deferred none)).heap[w.heap.size]? = some (.cells #[.slice none 0 0] 64 (0, 0)) := (World.putObj_heap_other (by omega)).trans hE.r0
    have g1 : (W.putObj D (.deferred none)).heap[w.heap.size + 1]? = some (.cells #[.bool false] 4 (0, 0)) := (World.putObj_heap_other (by omega)).trans hE.r1
    have HG0 := Lib.hid g0; have HG1 := Lib.hid g1; have HKV := Lib.hid hK; have HR := Lib.hid hr
    have HEND := Lib.hid (show Below w.heap.size w (W.putObj D (.deferred none)) from hE.below.grown (grownBy_putObj' W D _) (by have := hE.below.size; omega) (fun k e => by cases e; omega))
    clear hK g0 g1 hE hr
    gi_wp2_with fail
    refine ⟨by simp, .inl ⟨_, _, rfl, run_takeDeferred HKV.out, ?_⟩⟩
    obtain ⟨c0, -, -, -⟩ := rd HG0.out; obtain ⟨c1, -, -, -⟩ := rd HG1.out
    have c00 := c0 0; have c10 := c1 0
    simp only [List.getElem?_toArray, List.getElem?_cons_zero] at c00 c10
    refine ⟨.tuple #[.slice none 0 0, .bool false], ?_, ?_⟩
    · simp [results, Tryz.results80, go_sem, c00, c10]
    · exact ⟨_, by rw [HR.out]; rfl, by rw [HR.out]; exact World.ownsRow_nil _ _ _ _, HEND.out⟩
end Go.Proofs.YtdpnahojhmkemaaGreatDoor

/-
  strings.Split at one byte.
-/
namespace Go.Proofs.YtdpnahojhmkemaaGreatDoor
open Go Go.RowKit
set_option linter.unusedVariables false
set_option linter.unusedSimpArgs false
set_option maxRecDepth 100000

theorem splitK_one (c : UInt8) : ∀ (k : Nat) (s : Str), s.count c = k → Lib.splitK [c] 0 k s = splitC c s
  | 0, s, h => by
    have : ∀ x ∈ s, x ≠ c := by
      rintro x hx rfl
      exact absurd h (by rw [List.count_eq_zero]; exact fun h => h hx)
    rw [splitC_one c s this]; rfl
  | k + 1, s, h => by
    rcases ib_cases c s with ⟨h1, h2⟩ | ⟨i, a, b, h1, h2, h3, h4⟩
    · have : s.count c = 0 := by rw [List.count_eq_zero]; exact fun hx => h2 c hx rfl
      omega
    · have hix : Lib.index s [c] = (i : Int) := by rw [Lib.index_one]; exact h1
      have hne : ¬ (Lib.index s [c] == -1) = true := by rw [hix]; simp
      have hcb : b.count c = k := by
        rw [h2, List.count_append, List.count_cons] at h
        have h0 : a.count c = 0 := by rw [List.count_eq_zero]; exact fun hx => h4 c hx rfl
        simp at h
        omega
      unfold Lib.splitK
      rw [if_neg hne, hix]
      have e1 : s.take ((i : Int).toNat + 0) = a := by rw [h2]; simp [← h3]
      have e2 : s.drop ((i : Int).toNat + [c].length) = b := by rw [h2]; simp [← h3]
      rw [e1, e2, splitK_one c k b hcb, h2, splitC_app c a b h4]
theorem splitB_one (c : UInt8) (s : ByteArray) : (Lib.splitB ⟨#[c]⟩ 0 (Lib.countB s ⟨#[c]⟩) s).map Value.string = strVals (splitC c s.data.toList) ∧ Lib.countB s ⟨#[c]⟩ + 1 = (splitC c s.data.toList).length := by
  have hcb : Lib.countB s ⟨#[c]⟩ = s.data.toList.count c := by
    rw [← Lib.count_one c]
  have hd := Lib.splitB_data ⟨#[c]⟩ 0 (Lib.countB s ⟨#[c]⟩) s
  rw [show (⟨#[c]⟩ : ByteArray).data.toList = [c] from rfl, splitK_one c _ _ hcb.symm] at hd
  refine ⟨?_, ?_⟩
  · rw [← hd]
    unfold strVals
    rw [List.map_map]
    rfl
  · have := Lib.splitB_all ⟨#[c]⟩ (by show 1 ≤ 1; omega) 0 _ s rfl
    rw [← this, ← hd, List.length_map]
theorem splitStr_any (c : UInt8) (s : Str) (w : World) (hs : s.length ≤ 1000000000) (hM : MaxAt w) :
    Calls Tryz.prog 75 #[.string ⟨s.toArray⟩, .string ⟨#[c]⟩] w fun e w' => e = .returned (.slice (some ⟨w.heap.size, 0, none⟩) (splitC c s).length (splitC c s).length) ∧ w' = w.alloc (.cells (strVals (splitC c s)).toArray 9) := by
  obtain ⟨m, hm⟩ := hM
  have h1 := Tryz.strings_Split ⟨s.toArray⟩ ⟨#[c]⟩ m w (by show s.toArray.size < _; simp; omega) hm (by show 1 ≤ 1; omega)
  obtain ⟨h2, h3⟩ := splitB_one c ⟨s.toArray⟩
  have e : (⟨s.toArray⟩ : ByteArray).data.toList = s := rfl
  rw [e] at h2 h3
  refine h1.mono ?_
  rintro e w' ⟨rfl, rfl⟩
  exact ⟨by rw [h3], by rw [h2]⟩
theorem splitStr_row (w : World) (l : List Str) : StrRow (w.alloc (.cells (strVals l).toArray 9)) (some ⟨w.heap.size, 0, none⟩) l := by
  intro i hi
  refine ⟨w.heap.size, 0, rfl, ?_⟩
  rw [(rd (heap_alloc_new w (.cells (strVals l).toArray 9))).1, List.getElem?_toArray, strVals, List.getElem?_map, Nat.zero_add, List.getElem?_eq_getElem hi]
  rfl
end Go.Proofs.YtdpnahojhmkemaaGreatDoor

/-
  A calendar of a text, plain. No program in sight (but for the names of its parts).
-/
namespace Go.Proofs.YtdpnahojhmkemaaGreatDoor
set_option linter.unusedVariables false

def cDate (t : Str × List Str × Bool) : Str := if t.2.2 = true then t.1 else [42, 45, 42, 45, 42]
def cClock (t : Str × List Str × Bool) : Str := if t.2.2 = true then (if Go.Lib.countByte t.1 58 = 1 then t.1 ++ [58, 48, 48] else t.1) else [48, 48, 58, 48, 48, 58, 48, 48]
def cDays (t : Str × List Str × Bool) : Option (List Int) := if t.2.2 = true then workS t.1 else some []
/-- Of its pieces. -/
def calOf (ds : Option (List Int)) (rest : List Str) (d t : List Str) : Option (List Int × List (List PartS)) :=
  match ds with
  | none => none
  | some days =>
    if 0 < rest.length then none
    else if d.length ≠ 3 then none
    else if t.length ≠ 3 then none
    else match fillS d with
      | none => none
      | some fd => match fillS t with
        | none => none
        | some ft => if mayCalS days (fd ++ ft) = true then some (days, fd ++ ft) else none
/-- The calendar that a text says: its days, its fields. -/
def calS (s : Str) : Option (List Int × List (List PartS)) :=
  if 400 < s.length then none
  else calOf (cDays (takeS letP (splitC 32 (nmS s)))) (takeS (hasC 58) (takeS (hasC 45) (takeS letP (splitC 32 (nmS s))).2.1).2.1).2.1
    (splitC 45 (cDate (takeS (hasC 45) (takeS letP (splitC 32 (nmS s))).2.1))) (splitC 58 (cClock (takeS (hasC 58) (takeS (hasC 45) (takeS letP (splitC 32 (nmS s))).2.1).2.1)))
theorem takeS_cons (p : Str → Bool) (x : Str) (t : List Str) : takeS p (x :: t) = if p x = true then (x, t, true) else ([], x :: t, false) := rfl
theorem takeS_no (p : Str → Bool) (l : List Str) (h : (takeS p l).2.2 = false) : (takeS p l).2.1 = l := by
  cases l with
  | nil => rfl
  | cons x t =>
    rw [takeS_cons] at h ⊢
    cases hp : p x with
    | true => rw [hp] at h; simp at h
    | false => simp
theorem takeS_mem (p : Str → Bool) (l : List Str) (n : Nat) (h : ∀ x ∈ l, x.length ≤ n) : (takeS p l).1.length ≤ n ∧ (∀ x ∈ (takeS p l).2.1, x.length ≤ n) ∧ (takeS p l).2.1.length ≤ l.length := by
  cases l with
  | nil => exact ⟨by simp [takeS], by simp [takeS], by simp [takeS]⟩
  | cons x t =>
    rw [takeS_cons]
    cases hp : p x with
    | true => exact ⟨h x (by simp), fun y hy => h y (List.mem_cons_of_mem _ hy), by simp⟩
    | false => exact ⟨by simp, h, Nat.le_refl _⟩
theorem fillS_each (n : Nat) : ∀ (l : List Str) (ps : List (List PartS)), fillS l = some ps → (∀ x ∈ l, x.length ≤ n) → ∀ p ∈ ps, p.length ≤ n + 1
  | [], ps, h, hm, p, hp => by simp [fillS] at h; subst h; simp at hp
  | x :: t, ps, h, hm, p, hp => by
    rw [fillS] at h
    cases hx : ptsS x with
    | none => rw [hx] at h; simp at h
    | some q =>
      rw [hx] at h
      cases hr : fillS t with
      | none => rw [hr] at h; simp at h
      | some r =>
        rw [hr] at h
        simp at h
        subst h
        rcases List.mem_cons.1 hp with rfl | hp
        · have := partsL_len _ _ hx
          have h2 := splitC_len 44 x
          have h3 := hm x (by simp)
          omega
        · exact fillS_each n t r hr (fun y hy => hm y (List.mem_cons_of_mem _ hy)) p hp
theorem fill2_each (n : Nat) (a b : List Str) (fa fb : List (List PartS)) (ha : fillS a = some fa) (hb : fillS b = some fb) (hm : ∀ x ∈ a, x.length ≤ n) (hk : ∀ x ∈ b, x.length ≤ n) (i : Nat) : ((fa ++ fb).getD i []).length ≤ n + 1 := by
  rw [List.getD_eq_getElem?_getD]
  cases h : (fa ++ fb)[i]? with
  | none => simp
  | some p =>
    rcases List.mem_append.1 (List.mem_of_getElem? h) with h1 | h1
    · exact fillS_each n a fa ha hm p h1
    · exact fillS_each n b fb hb hk p h1
theorem workS_len (s : Str) (l : List Int) (h : workS s = some l) : l.length ≤ 8 := by
  unfold workS at h
  cases hw : workL (splitC 44 s) noDays with
  | none => rw [hw] at h; simp at h
  | some m => rw [hw] at h; simp at h; subst h; exact daysTo_len m 8
theorem cDays_len (t : Str × List Str × Bool) (l : List Int) (h : cDays t = some l) : l.length ≤ 8 := by
  unfold cDays at h
  split at h
  · exact workS_len _ _ h
  · cases h; simp
end Go.Proofs.YtdpnahojhmkemaaGreatDoor

/-
  Package cal: Parse.
-/
namespace Go.Proofs.YtdpnahojhmkemaaGreatDoor
open Go Go.RowKit
set_option linter.unusedVariables false
set_option linter.unusedSimpArgs false
set_option maxRecDepth 100000

def nilS : Value := .slice none 0 0
/-- While a calendar is read: the result R, the calendar C. -/
structure PW (w W : World) (R C : Nat) (dv : Value) (ds : Option (List Int)) : Prop where
  below : Below R w W
  res : W.heap[R]? = some (.cells #[.slice none 0 0, .slice none 0 0, .slice none 0 0, .slice none 0 0, .slice none 0 0, .slice none 0 0, .slice none 0 0] 67 (0, 0))
  cal : W.heap[C]? = some (.cells #[dv, .slice none 0 0, .slice none 0 0, .slice none 0 0, .slice none 0 0, .slice none 0 0, .slice none 0 0] 67 (0, 0))
  days : ∀ l, ds = some l → ∃ da dc, dv = .slice da l.length dc ∧ W.ownsRow (C + 1) 3 1 dv l.length (l.map fun n => .int .i64 n)
  dvs : ∃ a b c, dv = .slice a b c
theorem PW.go {w W V : World} {R C : Nat} {dv : Value} {ds : Option (List Int)} (h : PW w W R C dv ds) (hb : Below W.heap.size W V) (hR : R ≤ W.heap.size) : PW w V R C dv ds :=
  ⟨h.below.trans (hb.mono hR), heap_below h.res hb, heap_below h.cal hb, fun l hl => by obtain ⟨a, b, c, d⟩ := h.days l hl; exact ⟨a, b, c, own_keeps d hb⟩, h.dvs⟩
theorem StrRow.set {w : World} {oa : Option Addr} {l : List Str} (h : StrRow w oa l) (C j : Nat) (v : Value) (hne : ∀ b o, oa = some ⟨b, o, none⟩ → b ≠ C) : StrRow (w.setCell ⟨C, j, none⟩ v) oa l := by
  intro i hi
  obtain ⟨b, o, e, hc⟩ := h i hi
  refine ⟨b, o, e, ?_⟩
  unfold World.cell? at hc ⊢
  rw [Below.heap_setCell _ _ _ b (by show b ≠ C; exact hne b o e)]
  exact hc

/-- What Parse gives back. -/
def CalOut (w : World) (s : Str) (e : Ending) (w' : World) : Prop :=
  ∃ cs, e = .returned (.tuple #[.agg cs, .bool (calS s).isSome]) ∧ cs.size = 7 ∧ (∀ ds fs, calS s = some (ds, fs) → CalRd w' cs ds fs) ∧ Below w.heap.size w w'
theorem concat_ok3 (a b : ByteArray) (h : a.size + b.size < 4611686018427387904) : Op.stringOp .add a b = pure (.string (a ++ b)) := by
  have : ¬ ((a.size + b.size : Nat) : Int) > IntKind.i64.max := by simp [IntKind.max, IntKind.bits, IntKind.signed]; omega
  simp only [Op.stringOp, if_neg this]
def encN1 (n : Int) : List Value := [.int .i64 n]
theorem encN1_flat (l : List Int) : flatL encN1 l = l.map fun n => .int .i64 n := by
  induction l with
  | nil => rfl
  | cons x r ih => unfold flatL at *; rw [List.flatMap_cons, ih]; rfl
/-- A calendar's cells, its rows owned. -/
structure CalOwn (W : World) (N : Nat) (cs : Array Value) (days : List Int) (fs : List (List PartS)) : Prop where
  size : cs.size = 7
  days : ∃ v, cs[0]? = some v ∧ W.ownsRow N 3 1 v days.length (flatL encN1 days)
  fields : ∀ i, i < 6 → ∃ v, cs[i + 1]? = some v ∧ W.ownsRow N 115 3 v (fs.getD i []).length (flatL encPt (fs.getD i []))
theorem CalOwn.rd {W : World} {N : Nat} {cs : Array Value} {days : List Int} {fs : List (List PartS)} (h : CalOwn W N cs days fs) : CalRd W cs days fs :=
  { size := h.size
    days := by
      obtain ⟨v, h1, h2⟩ := h.days
      obtain ⟨oa, cap, rfl⟩ := ownsRow_form h2
      exact ⟨oa, cap, h1, RowRd.of_own (enc := encN1) (fun _ => rfl) h2⟩
    fields := fun i hi => by
      obtain ⟨v, h1, h2⟩ := h.fields i hi
      obtain ⟨oa, cap, rfl⟩ := ownsRow_form h2
      exact ⟨oa, cap, h1, RowRd.of_own (enc := encPt) (fun _ => rfl) h2⟩ }
theorem CalOwn.below {W V : World} {N : Nat} {cs : Array Value} {days : List Int} {fs : List (List PartS)} (h : CalOwn W N cs days fs) (hb : Below W.heap.size W V) : CalOwn V N cs days fs :=
  ⟨h.size, by obtain ⟨v, h1, h2⟩ := h.days; exact ⟨v, h1, own_keeps h2 hb⟩, fun i hi => by obtain ⟨v, h1, h2⟩ := h.fields i hi; exact ⟨v, h1, own_keeps h2 hb⟩⟩
theorem CalOwn.fr {W V : World} {N R : Nat} {cs : Array Value} {days : List Int} {fs : List (List PartS)} (h : CalOwn W N cs days fs) (hf : Fr (fun k => k = R) W V) (hR : R < N) : CalOwn V N cs days fs :=
  ⟨h.size, by obtain ⟨v, h1, h2⟩ := h.days; exact ⟨v, h1, ownsRow_fr h2 hf (fun g hg _ e => by have := (h2.lt g hg).1; omega)⟩,
    fun i hi => by obtain ⟨v, h1, h2⟩ := h.fields i hi; exact ⟨v, h1, ownsRow_fr h2 hf (fun g hg _ e => by have := (h2.lt g hg).1; omega)⟩⟩
def put7 (W : World) (R : Nat) (a b c d e f g : Value) : World := ((((((W.setCell ⟨R, 0, none⟩ a).setCell ⟨R, 1, none⟩ b).setCell ⟨R, 2, none⟩ c).setCell ⟨R, 3, none⟩ d).setCell ⟨R, 4, none⟩ e).setCell ⟨R, 5, none⟩ f).setCell ⟨R, 6, none⟩ g
theorem put7_heap {W : World} {R : Nat} {T : TypeId} {z0 z1 z2 z3 z4 z5 z6 : Value} (h : W.heap[R]? = some (.cells #[z0, z1, z2, z3, z4, z5, z6] T (0, 0))) (a b c d e f g : Value) : (put7 W R a b c d e f g).heap[R]? = some (.cells #[a, b, c, d, e, f, g] T (0, 0)) := by
  have h0 : (W.setCell ⟨R, 0, none⟩ a).heap[R]? = some (.cells #[a, z1, z2, z3, z4, z5, z6] T (0, 0)) := by
    have := heap_setCell h 0 a
    simpa using this
  have h1 : ((W.setCell ⟨R, 0, none⟩ a).setCell ⟨R, 1, none⟩ b).heap[R]? = some (.cells #[a, b, z2, z3, z4, z5, z6] T (0, 0)) := by
    have := heap_setCell h0 1 b
    simpa using this
  have h2 : (((W.setCell ⟨R, 0, none⟩ a).setCell ⟨R, 1, none⟩ b).setCell ⟨R, 2, none⟩ c).heap[R]? = some (.cells #[a, b, c, z3, z4, z5, z6] T (0, 0)) := by
    have := heap_setCell h1 2 c
    simpa using this
  have h3 : ((((W.setCell ⟨R, 0, none⟩ a).setCell ⟨R, 1, none⟩ b).setCell ⟨R, 2, none⟩ c).setCell ⟨R, 3, none⟩ d).heap[R]? = some (.cells #[a, b, c, d, z4, z5, z6] T (0, 0)) := by
    have := heap_setCell h2 3 d
    simpa using this
  have h4 : (((((W.setCell ⟨R, 0, none⟩ a).setCell ⟨R, 1, none⟩ b).setCell ⟨R, 2, none⟩ c).setCell ⟨R, 3, none⟩ d).setCell ⟨R, 4, none⟩ e).heap[R]? = some (.cells #[a, b, c, d, e, z5, z6] T (0, 0)) := by
    have := heap_setCell h3 4 e
    simpa using this
  have h5 : ((((((W.setCell ⟨R, 0, none⟩ a).setCell ⟨R, 1, none⟩ b).setCell ⟨R, 2, none⟩ c).setCell ⟨R, 3, none⟩ d).setCell ⟨R, 4, none⟩ e).setCell ⟨R, 5, none⟩ f).heap[R]? = some (.cells #[a, b, c, d, e, f, z6] T (0, 0)) := by
    have := heap_setCell h4 5 f
    simpa using this
  have h6 : (((((((W.setCell ⟨R, 0, none⟩ a).setCell ⟨R, 1, none⟩ b).setCell ⟨R, 2, none⟩ c).setCell ⟨R, 3, none⟩ d).setCell ⟨R, 4, none⟩ e).setCell ⟨R, 5, none⟩ f).setCell ⟨R, 6, none⟩ g).heap[R]? = some (.cells #[a, b, c, d, e, f, g] T (0, 0)) := by
    have := heap_setCell h5 6 g
    simpa using this
  exact h6
theorem put7_fr (W : World) (R : Nat) (a b c d e f g : Value) : Fr (fun k => k = R) W (put7 W R a b c d e f g) :=
  (((((((Fr.refl (fun k => k = R) W).setCell (p := ⟨R, 0, none⟩) (fun _ => rfl) _).setCell (p := ⟨R, 1, none⟩) (fun _ => rfl) _).setCell (p := ⟨R, 2, none⟩) (fun _ => rfl) _).setCell (p := ⟨R, 3, none⟩) (fun _ => rfl) _).setCell (p := ⟨R, 4, none⟩) (fun _ => rfl) _).setCell (p := ⟨R, 5, none⟩) (fun _ => rfl) _).setCell (p := ⟨R, 6, none⟩) (fun _ => rfl) _
theorem put7_below {w W : World} {R : Nat} (h : Below R w W) (hR : R ≤ W.heap.size) (a b c d e f g : Value) : Below R w (put7 W R a b c d e f g) :=
  h.trans ((put7_fr W R a b c d e f g).below R hR (fun k hk e => by omega))
theorem bodyYes {w V : World} {s : Str} {cs : Array Value} {ds : List Int} {fs : List (List PartS)} (h : calS s = some (ds, fs)) (hc : cs.size = 7) (hr : CalRd V cs ds fs) (hb : Below w.heap.size w V) : CalOut w s (.returned (.tuple #[.agg cs, .bool true])) V :=
  ⟨_, by rw [h]; rfl, hc, (fun ds' fs' h2 => by rw [h] at h2; cases h2; exact hr), hb⟩
/-- What is left to know at a return of no calendar. -/
structure NoW (w W : World) (R : Nat) : Prop where
  below : Below R w W
  res : W.heap[R]? = some (.cells #[.slice none 0 0, .slice none 0 0, .slice none 0 0, .slice none 0 0, .slice none 0 0, .slice none 0 0, .slice none 0 0] 67 (0, 0))
theorem StrRow.fr {C : Nat} {w V : World} {oa : Option Addr} {l : List Str} (h : StrRow w oa l) (hf : Fr (fun k => k = C) w V) (hne : ∀ b o, oa = some ⟨b, o, none⟩ → b ≠ C ∧ b < w.heap.size) : StrRow V oa l := by
  intro i hi
  obtain ⟨b, o, e, hc⟩ := h i hi
  refine ⟨b, o, e, ?_⟩
  unfold World.cell? at hc ⊢
  rw [hf.block b (hne b o e).2 (hne b o e).1]
  exact hc
theorem bodyNo {w V : World} {s : Str} {cs : Array Value} (h : calS s = none) (hc : cs.size = 7) (hb : Below w.heap.size w V) : CalOut w s (.returned (.tuple #[.agg cs, .bool false])) V :=
  ⟨_, by rw [h]; rfl, hc, (fun ds fs h2 => by rw [h] at h2; cases h2), hb⟩


set_option maxHeartbeats 8000000 in
theorem calParse_any (s : Str) (w : World) (hs : s.length ≤ 9000000000000000000) (hM : MaxAt w) : Calls Tryz.prog 49 #[.string ⟨s.toArray⟩] w fun e w' => CalOut w s e w' := by
  unfold CalOut
  have hsz : (⟨s.toArray⟩ : ByteArray).size = s.length := by simp [ByteArray.size]
  by_cases hlong : 400 < s.length
  · have hz : ((⟨s.toArray⟩ : ByteArray).size : Int) > 400 := by rw [hsz]; omega
    have hz2 : (400 : Int) < ((⟨s.toArray⟩ : ByteArray).size : Int) := hz
    have HR := Lib.hid (show calS s = none by unfold calS; rw [if_pos hlong])
    clear hsz hlong hs
    generalize (⟨s.toArray⟩ : ByteArray) = S at *
    go_enter Tryz.func49, Tryz.ntmps49
    go_wp2_with fail
    have H0 := heap_alloc_new w (.cells #[.slice none 0 0, .slice none 0 0, .slice none 0 0, .slice none 0 0, .slice none 0 0, .slice none 0 0, .slice none 0 0] 67)
    obtain ⟨c, -, -, -⟩ := rd H0
    have c0 := c 0; have c1 := c 1; have c2 := c 2; have c3 := c 3; have c4 := c 4; have c5 := c 5; have c6 := c 6
    simp only [List.getElem?_toArray, List.getElem?_cons_zero, List.getElem?_cons_succ] at c0 c1 c2 c3 c4 c5 c6
    refine bodyPost_ret (v := .tuple #[.agg #[.slice none 0 0, .slice none 0 0, .slice none 0 0, .slice none 0 0, .slice none 0 0, .slice none 0 0, .slice none 0 0], .bool false]) ?_ rfl ⟨_, by rw [HR.out]; rfl, rfl, (fun ds fs h => by rw [HR.out] at h; cases h), ?_⟩
    · simp [results, Tryz.results49, go_sem]
    · exact (Below.refl _ _).alloc (Nat.le_refl _) _
  · have hz : ¬ ((⟨s.toArray⟩ : ByteArray).size : Int) > 400 := by rw [hsz]; omega
    have hz2 : ¬ (400 : Int) < ((⟨s.toArray⟩ : ByteArray).size : Int) := hz
    have hsl : s.length ≤ 400 := by omega
    have HCS := Lib.hid (show calS s = calOf (cDays (takeS letP (splitC 32 (nmS s)))) (takeS (hasC 58) (takeS (hasC 45) (takeS letP (splitC 32 (nmS s))).2.1).2.1).2.1
      (splitC 45 (cDate (takeS (hasC 45) (takeS letP (splitC 32 (nmS s))).2.1))) (splitC 58 (cClock (takeS (hasC 58) (takeS (hasC 45) (takeS letP (splitC 32 (nmS s))).2.1).2.1))) by unfold calS; rw [if_neg hlong])
    have HNM := Lib.hid (fun V => named_any s V)
    have hnl := nmS_len s hsl
    obtain ⟨l0, hl0⟩ : ∃ l, l = splitC 32 (nmS s) := ⟨_, rfl⟩
    have hm0 : ∀ x ∈ l0, x.length ≤ 400 := by rw [hl0]; intro x hx; have := splitC_mem 32 _ x hx; omega
    have hn0 : l0.length ≤ 401 := by rw [hl0]; have := splitC_len 32 (nmS s); omega
    have HSP := Lib.hid (fun V h => splitStr_any 32 (nmS s) V (by omega) h)
    rw [← hl0] at HCS HSP
    obtain ⟨x1, l1, q1, h1⟩ : ∃ x1 l1 q1, takeS letP l0 = (x1, l1, q1) := ⟨_, _, _, rfl⟩
    obtain ⟨mx1, mm1, mn1⟩ := takeS_mem letP l0 400 hm0
    have hno1 := takeS_no letP l0
    rw [h1] at HCS mx1 mm1 mn1 hno1
    simp only at HCS mx1 mm1 mn1 hno1
    obtain ⟨x2, l2, q2, h2⟩ : ∃ x2 l2 q2, takeS (hasC 45) l1 = (x2, l2, q2) := ⟨_, _, _, rfl⟩
    obtain ⟨mx2, mm2, mn2⟩ := takeS_mem (hasC 45) l1 400 mm1
    have hno2 := takeS_no (hasC 45) l1
    rw [h2] at HCS mx2 mm2 mn2 hno2
    simp only at HCS mx2 mm2 mn2 hno2
    obtain ⟨x3, l3, q3, h3⟩ : ∃ x3 l3 q3, takeS (hasC 58) l2 = (x3, l3, q3) := ⟨_, _, _, rfl⟩
    obtain ⟨mx3, mm3, mn3⟩ := takeS_mem (hasC 58) l2 400 mm2
    have hno3 := takeS_no (hasC 58) l2
    rw [h3] at HCS mx3 mm3 mn3 hno3
    simp only at HCS mx3 mm3 mn3 hno3
    have HT1 := Lib.hid (fun V oa (hr : StrRow V oa l0) => show Calls Tryz.prog 77 #[.slice oa l0.length l0.length, .func (.func 78) #[] #[]] V fun e w' => ∃ oa', e = .returned (.tuple #[.string ⟨x1.toArray⟩, .slice oa' l1.length l1.length, .bool q1]) ∧ StrRow V oa' l1 ∧ (∀ b o, oa' = some ⟨b, o, none⟩ → ∃ o2, oa = some ⟨b, o2, none⟩) ∧ ∃ n, w' = V.drewN n by
      have := take_any 78 enters_parse1 letP oa l0 V hr (by omega) (fun x _ => parse1_any x V)
      unfold TakeOut at this
      rw [h1] at this
      exact this)
    have HT2 := Lib.hid (fun V oa (hr : StrRow V oa l1) => show Calls Tryz.prog 77 #[.slice oa l1.length l1.length, .func (.func 81) #[] #[]] V fun e w' => ∃ oa', e = .returned (.tuple #[.string ⟨x2.toArray⟩, .slice oa' l2.length l2.length, .bool q2]) ∧ StrRow V oa' l2 ∧ (∀ b o, oa' = some ⟨b, o, none⟩ → ∃ o2, oa = some ⟨b, o2, none⟩) ∧ ∃ n, w' = V.drewN n by
      have := take_any 81 enters_parse2 (hasC 45) oa l1 V hr (by omega) (fun x _ => parse2_any x V)
      unfold TakeOut at this
      rw [h2] at this
      exact this)
    have HT3 := Lib.hid (fun V oa (hr : StrRow V oa l2) => show Calls Tryz.prog 77 #[.slice oa l2.length l2.length, .func (.func 83) #[] #[]] V fun e w' => ∃ oa', e = .returned (.tuple #[.string ⟨x3.toArray⟩, .slice oa' l3.length l3.length, .bool q3]) ∧ StrRow V oa' l3 ∧ (∀ b o, oa' = some ⟨b, o, none⟩ → ∃ o2, oa = some ⟨b, o2, none⟩) ∧ ∃ n, w' = V.drewN n by
      have := take_any 83 enters_parse3 (hasC 58) oa l2 V hr (by omega) (fun x _ => parse3_any x V)
      unfold TakeOut at this
      rw [h3] at this
      exact this)
    have HWK := Lib.hid (fun V (h : MaxAt V) => work_any x1 V (by omega) h)
    have HMX := Lib.hid (fun V (h : Below w.heap.size w V) => hM.below h)
    have HNO1 := Lib.hid hno1; have HNO2 := Lib.hid hno2; have HNO3 := Lib.hid hno3
    let w0 := (w.alloc (.cells #[.slice none 0 0, .slice none 0 0, .slice none 0 0, .slice none 0 0, .slice none 0 0, .slice none 0 0, .slice none 0 0] 67)).alloc (.cells #[.slice none 0 0, .slice none 0 0, .slice none 0 0, .slice none 0 0, .slice none 0 0, .slice none 0 0, .slice none 0 0] 67)
    have hz0 : w0.heap.size = w.heap.size + 2 := by simp [w0]
    have HPW := Lib.hid (show PW w w0 w.heap.size (w.heap.size + 1) (.slice none 0 0) (some []) from
      { below := ((Below.refl _ _).alloc (Nat.le_refl _) _).alloc (by simp) _
        res := heap_alloc (heap_alloc_new w _) _
        cal := by
          rw [← show (w.alloc (.cells #[.slice none 0 0, .slice none 0 0, .slice none 0 0, .slice none 0 0, .slice none 0 0, .slice none 0 0, .slice none 0 0] 67)).heap.size = w.heap.size + 1 by simp]
          exact heap_alloc_new _ _
        days := fun l hl => ⟨none, 0, by cases hl; rfl, by cases hl; exact World.ownsRow_nil _ _ _ _⟩
        dvs := ⟨_, _, _, rfl⟩ })
    clear hsz hlong hs hl0 hm0 h1 h2 h3 hno1 hno2 hno3 hnl hM mm1 mm2 mm3
    generalize hSS : (⟨s.toArray⟩ : ByteArray) = S at *
    have HSS := Lib.hid hSS
    clear hSS
    go_enter Tryz.func49, Tryz.ntmps49
    go_wp2_with fail
    refine (HNM.out w0).mono ?_
    rintro e w1 ⟨rfl, rfl⟩
    go_wp2_with fail
    refine (HSP.out w0 (HMX.out _ HPW.out.below)).mono ?_
    rintro e w1 ⟨rfl, rfl⟩
    have HR0 := Lib.hid (splitStr_row w0 l0)
    have hb1 : Below w0.heap.size w0 (w0.alloc (.cells (strVals l0).toArray 9)) := (Below.refl _ _).alloc (Nat.le_refl _) _
    have HP1 := Lib.hid (HPW.out.go hb1 (by omega))
    have HZ1 := Lib.hid (show w.heap.size + 3 ≤ (w0.alloc (.cells (strVals l0).toArray 9)).heap.size by simp; omega)
    rw [hz0] at HR0 ⊢
    clear hb1 HSP HNM HPW hz0
    generalize w0.alloc (.cells (strVals l0).toArray 9) = w1 at *
    go_wp2_with fail
    refine (HT1.out w1 _ HR0.out).mono ?_
    rintro e w2 ⟨oa1, rfl, hr1, hn1, n2, rfl⟩
    have hb2 : Below w1.heap.size w1 (w1.drewN n2) := below_dn ⟨_, rfl⟩
    have HP2 := Lib.hid (HP1.out.go hb2 (by have := HZ1.out; omega))
    have HR1 := Lib.hid (hr1.below hb2)
    have HR02 := Lib.hid (HR0.out.below hb2)
    have HN1 := Lib.hid (show ∀ b o, oa1 = some ⟨b, o, none⟩ → w.heap.size + 2 ≤ b from fun b o h => by obtain ⟨o2, e2⟩ := hn1 b o h; injection e2 with e2; injection e2 with e3; omega)
    have HZ2 := Lib.hid (show w.heap.size + 3 ≤ (w1.drewN n2).heap.size from HZ1.out)
    clear hb2 hr1 hn1 HP1 HR0 HZ1 HT1
    generalize w1.drewN n2 = w2 at *
    go_upto_if 33 with fail
    obtain ⟨ds, hds⟩ : ∃ ds, ds = cDays (x1, l1, q1) := ⟨_, rfl⟩
    have HDS := Lib.hid hds
    rw [← hds] at HCS
    clear hds
    go_cut [5, 6] from 20 (fun s5 s6 w' => ∃ oa dv, s5 = .slice oa l1.length l1.length ∧ s6 = .bool ds.isSome ∧ Hid (StrRow w' oa l1) ∧ Hid (∀ b o, oa = some ⟨b, o, none⟩ → w.heap.size + 2 ≤ b) ∧ Hid (PW w w' w.heap.size (w.heap.size + 1) dv ds) ∧ Hid (w.heap.size + 3 ≤ w'.heap.size))
    case first =>
      cases q1 with
      | false =>
        obtain rfl : l1 = l0 := HNO1.out rfl
        have hde : ds = some [] := HDS.out
        subst hde
        go_wp2_with fail
        go_meet
        case rel => exact ⟨_, _, rfl, rfl, HR02, fun b o h => by cases h; omega, HP2, HZ2⟩
      | true =>
        have hde : ds = workS x1 := HDS.out
        subst hde
        go_wp2_with fail
        refine (HWK.out w2 (HMX.out _ HP2.out.below)).mono ?_
        rintro e w3 ⟨v, rfl, hown, hb3⟩
        obtain ⟨da, dc, rfl⟩ := ownsRow_form hown
        have hP3 := HP2.out.go hb3 (by have := HZ2.out; omega)
        have hR3 := HR1.out.below hb3
        obtain ⟨cc, cf, -, -⟩ := rd hP3.cal
        have c0 := cc 0; have f0 := cf 0
        simp only [List.getElem?_toArray, List.getElem?_cons_zero] at c0
        have HPW := Lib.hid (show PW w (w3.setCell ⟨w.heap.size + 1, 0, none⟩ (.slice da ((workS x1).getD []).length dc)) w.heap.size (w.heap.size + 1) (.slice da ((workS x1).getD []).length dc) (workS x1) from
          { below := hP3.below.setCell (p := ⟨w.heap.size + 1, 0, none⟩) (by simp) _
            res := heap_other hP3.res (a := ⟨w.heap.size + 1, 0, none⟩) (by simp) _
            cal := heap_setCell hP3.cal 0 _
            days := fun l hl => by
              rw [hl] at hown ⊢
              refine ⟨da, dc, rfl, ?_⟩
              exact ownsRow_fr (own_base' hown (show w.heap.size + 1 + 1 ≤ w2.heap.size by have := HZ2.out; omega)) (M := fun k => k = w.heap.size + 1) (Fr.setCell (M := fun k => k = w.heap.size + 1) (p := ⟨w.heap.size + 1, 0, none⟩) (Fr.refl _ _) (fun _ => rfl) _) (fun k hk hr => by
                rintro rfl
                obtain ⟨cs, fz, h5⟩ := hr
                rw [hP3.cal] at h5
                simp at h5)
            dvs := ⟨_, _, _, rfl⟩ })
        have HRS := Lib.hid (hR3.set (w.heap.size + 1) 0 (.slice da ((workS x1).getD []).length dc) (fun b o h => by have := HN1.out b o h; omega))
        have HZ3 := Lib.hid (show w.heap.size + 3 ≤ (w3.setCell ⟨w.heap.size + 1, 0, none⟩ (.slice da ((workS x1).getD []).length dc)).heap.size by have := HZ2.out; have := hb3.size; simp; omega)
        clear hown hb3 hP3 hR3 cc cf
        generalize ((workS x1).getD []).length = n at *
        generalize (workS x1).isSome = b at *
        go_wp2_with fail
        go_meet
        case rel => exact ⟨_, _, rfl, rfl, HRS, HN1, HPW, HZ3⟩
    case rest =>
      obtain ⟨oa, dv, rfl, rfl, HRa, HNa, HPa, HZa⟩ := hcut
      have HDL := Lib.hid (show ∀ l, ds = some l → l.length ≤ 8 from fun l h => cDays_len _ l (HDS.out.symm.trans h))
      clear HR1 HR02 HN1 HP2 HZ2 HDS HWK HNO1
      go_wp2_with fail
      refine (HT2.out wc _ HRa.out).mono ?_
      rintro e w4 ⟨oa1, rfl, hr1, hn1, n4, rfl⟩
      have hb4 : Below wc.heap.size wc (wc.drewN n4) := below_dn ⟨_, rfl⟩
      have HP4 := Lib.hid (HPa.out.go hb4 (by have := HZa.out; omega))
      have HR4 := Lib.hid (hr1.below hb4)
      have HR40 := Lib.hid (HRa.out.below hb4)
      have HN4 := Lib.hid (show ∀ b o, oa1 = some ⟨b, o, none⟩ → w.heap.size + 2 ≤ b from fun b o h => by obtain ⟨o2, e2⟩ := hn1 b o h; exact HNa.out b o2 e2)
      have HZ4 := Lib.hid (show w.heap.size + 3 ≤ (wc.drewN n4).heap.size from HZa.out)
      clear hb4 hr1 hn1 HPa HRa HZa HT2
      generalize wc.drewN n4 = w4 at *
      go_upto_if 47 with fail
      obtain ⟨d, hd⟩ : ∃ d, d = cDate (x2, l2, q2) := ⟨_, rfl⟩
      rw [← hd] at HCS
      have HD := Lib.hid hd
      clear hd
      go_cut [5, 10] from 20 (fun s5 s10 w' => ∃ oa, s5 = .slice oa l2.length l2.length ∧ s10 = .string ⟨d.toArray⟩ ∧ Hid (StrRow w' oa l2) ∧ Hid (∀ b o, oa = some ⟨b, o, none⟩ → w.heap.size + 2 ≤ b) ∧ Hid (PW w w' w.heap.size (w.heap.size + 1) dv ds) ∧ Hid (w.heap.size + 3 ≤ w'.heap.size))
      case first =>
        cases q2 with
        | false =>
          obtain rfl : l2 = l1 := HNO2.out rfl
          have hde : d = [42, 45, 42, 45, 42] := HD.out
          subst hde
          go_wp2_with fail
          go_meet
          case rel => exact ⟨_, rfl, rfl, HR40, HNa, HP4, HZ4⟩
        | true =>
          have hde : d = x2 := HD.out
          subst hde
          go_wp2_with fail
          go_meet
          case rel => exact ⟨_, rfl, rfl, HR4, HN4, HP4, HZ4⟩
      case rest =>
        have hdl : d.length ≤ 400 := by
          have := HD.out
          rw [this]; unfold cDate
          cases q2
          · simp
          · exact mx2
        clear HR4 HR40 HN4 HP4 HZ4 HD HNO2 oa HNa
        obtain ⟨oa, rfl, rfl, HRa, HNa, HPa, HZa⟩ := hcut
        go_wp2_with fail
        refine (HT3.out wc _ HRa.out).mono ?_
        rintro e w4 ⟨oa1, rfl, hr1, hn1, n4, rfl⟩
        have hb4 : Below wc.heap.size wc (wc.drewN n4) := below_dn ⟨_, rfl⟩
        have HP4 := Lib.hid (HPa.out.go hb4 (by have := HZa.out; omega))
        have HZ4 := Lib.hid (show w.heap.size + 3 ≤ (wc.drewN n4).heap.size from HZa.out)
        clear hb4 hr1 hn1 HPa HRa HZa HT3
        generalize wc.drewN n4 = w4 at *
        go_upto_if 56 with fail
        obtain ⟨t, ht⟩ : ∃ t, t = cClock (x3, l3, q3) := ⟨_, rfl⟩
        rw [← ht] at HCS
        have HD := Lib.hid ht
        clear ht
        go_cut [5, 11] from 20 (fun s5 s11 w' => ∃ oa, s5 = .slice oa l3.length l3.length ∧ s11 = .string ⟨t.toArray⟩ ∧ Hid (PW w w' w.heap.size (w.heap.size + 1) dv ds) ∧ Hid (w.heap.size + 3 ≤ w'.heap.size))
        case first =>
          cases q3 with
          | false =>
            obtain rfl : l3 = l2 := HNO3.out rfl
            have hde : t = [48, 48, 58, 48, 48, 58, 48, 48] := HD.out
            subst hde
            go_wp2_with fail
            go_meet
            case rel => exact ⟨_, rfl, rfl, HP4, HZ4⟩
          | true =>
            have HC1 := Lib.hid (fun V => Tryz.strings_Count_one ⟨x3.toArray⟩ 58 V)
            have hsz3 : (⟨x3.toArray⟩ : ByteArray).size = x3.length := by simp [ByteArray.size]
            have HC2 := Lib.hid (concat_ok3 ⟨x3.toArray⟩ ⟨#[58, 48, 48]⟩ (by rw [show (⟨#[58, 48, 48]⟩ : ByteArray).size = 3 from rfl]; omega))
            have HC3 := Lib.hid (show (⟨x3.toArray⟩ ++ ⟨#[58, 48, 48]⟩ : ByteArray) = ⟨(x3 ++ [58, 48, 48]).toArray⟩ from by
              rw [ByteArray.ext_iff]; simp)
            have hde : t = if Go.Lib.countByte x3 58 = 1 then x3 ++ [58, 48, 48] else x3 := HD.out
            by_cases hc : Go.Lib.countByte x3 58 = 1
            · rw [if_pos hc] at hde
              subst hde
              have hcat := HC2.out
              have e3 := HC3.out
              generalize (⟨(x3 ++ [58, 48, 48]).toArray⟩ : ByteArray) = R3 at *
              rw [e3] at hcat
              have hcz : ((Go.Lib.countByte x3 58 : Nat) : Int) = 1 := by omega
              go_wp2_with fail
              refine (HC1.out w4).mono ?_
              rintro e w5 ⟨rfl, rfl⟩
              rw [hcz]
              go_wp2_with fail
              go_meet
              case rel => exact ⟨_, rfl, rfl, HP4, HZ4⟩
            · rw [if_neg hc] at hde
              subst hde
              have hcz : ¬ ((Go.Lib.countByte t 58 : Nat) : Int) = 1 := by omega
              go_wp2_with fail
              refine (HC1.out w4).mono ?_
              rintro e w5 ⟨rfl, rfl⟩
              generalize ((Go.Lib.countByte t 58 : Nat) : Int) = z at *
              go_wp2_with fail
              go_meet
              case rel => exact ⟨_, rfl, rfl, HP4, HZ4⟩
        case rest =>
          have htl : t.length ≤ 403 := by
            have := HD.out
            rw [this]; unfold cClock
            cases q3
            · simp
            · show List.length (if Go.Lib.countByte x3 58 = 1 then x3 ++ [58, 48, 48] else x3) ≤ 403
              split
              · simp; omega
              · omega
          clear HD HP4 HZ4 HNO3 HNa
          obtain ⟨oa, rfl, rfl, HPa, HZa⟩ := hcut
          have HS1 := Lib.hid (fun V (h : MaxAt V) => splitStr_any 45 d V (by omega) h)
          have HS2 := Lib.hid (fun V (h : MaxAt V) => splitStr_any 58 t V (by omega) h)
          obtain ⟨dd, hdd⟩ : ∃ dd, dd = splitC 45 d := ⟨_, rfl⟩
          obtain ⟨tt, htt⟩ : ∃ tt, tt = splitC 58 t := ⟨_, rfl⟩
          have HXd := Lib.hid (show ∀ x ∈ dd, x.length ≤ 100000000 from fun x hx => by rw [hdd] at hx; have := splitC_mem 45 _ x hx; omega)
          have HXt := Lib.hid (show ∀ x ∈ tt, x.length ≤ 100000000 from fun x hx => by rw [htt] at hx; have := splitC_mem 58 _ x hx; omega)
          rw [← hdd] at HS1 HCS
          rw [← htt] at HS2 HCS
          have hzd : dd.length ≤ 401 := by rw [hdd]; have := splitC_len 45 d; omega
          have hzt : tt.length ≤ 404 := by rw [htt]; have := splitC_len 58 t; omega
          clear hdd htt hn0 mn1 mn2
          go_wp2_with fail
          refine (HS1.out wc (HMX.out _ (HPa.out.below))).mono ?_
          rintro e w5 ⟨rfl, rfl⟩
          have hb5 : Below wc.heap.size wc (wc.alloc (.cells (strVals dd).toArray 9)) := (Below.refl _ _).alloc (Nat.le_refl _) _
          have HR5 := Lib.hid (splitStr_row wc dd)
          have HP5 := Lib.hid (HPa.out.go hb5 (by have := HZa.out; omega))
          have HZ5 := Lib.hid (show wc.heap.size < (wc.alloc (.cells (strVals dd).toArray 9)).heap.size by simp)
          generalize wc.alloc (.cells (strVals dd).toArray 9) = w5 at *
          clear hb5 HPa
          go_wp2_with fail
          refine (HS2.out w5 (HMX.out _ (HP5.out.below))).mono ?_
          rintro e w6 ⟨rfl, rfl⟩
          have hb6 : Below w5.heap.size w5 (w5.alloc (.cells (strVals tt).toArray 9)) := (Below.refl _ _).alloc (Nat.le_refl _) _
          have HRt := Lib.hid (splitStr_row w5 tt)
          have HRd := Lib.hid (HR5.out.below hb6)
          have HP6 := Lib.hid (HP5.out.go hb6 (by have := HZa.out; have := HZ5.out; omega))
          have HZ6 := Lib.hid (show w5.heap.size < (w5.alloc (.cells (strVals tt).toArray 9)).heap.size by simp)
          generalize w5.alloc (.cells (strVals tt).toArray 9) = w6 at *
          have HB1 := Lib.hid (show w.heap.size + 3 ≤ wc.heap.size ∧ wc.heap.size < w5.heap.size ∧ w5.heap.size < w6.heap.size from ⟨HZa.out, HZ5.out, HZ6.out⟩)
          clear hb6 HP5 HR5 HZ6 HZ5 HZa HS1 HS2
          generalize w5.heap.size = B2 at *
          generalize wc.heap.size = B1 at *
          have HW6 := Lib.hid (show NoW w w6 w.heap.size from ⟨HP6.out.below, HP6.out.res⟩)
          cases ds with
          | none =>
            have HN := Lib.hid (show calS s = none from HCS.out)
            obtain ⟨c, f, -, hltR⟩ := rd HW6.out.res
            have c0 := c 0; have c1 := c 1; have c2 := c 2; have c3 := c 3; have c4 := c 4; have c5 := c 5; have c6 := c 6
            have f0 := f 0; have f1 := f 1; have f2 := f 2; have f3 := f 3; have f4 := f 4; have f5 := f 5; have f6 := f 6
            simp only [List.getElem?_toArray, List.getElem?_cons_zero, List.getElem?_cons_succ] at c0 c1 c2 c3 c4 c5 c6
            clear c f
            go_wp2_with fail
            have HV7 := put7_heap HW6.out.res nilS nilS nilS nilS nilS nilS nilS
            obtain ⟨c, -, -, -⟩ := rd HV7
            have d0 := c 0; have d1 := c 1; have d2 := c 2; have d3 := c 3; have d4 := c 4; have d5 := c 5; have d6 := c 6
            simp only [List.getElem?_toArray, List.getElem?_cons_zero, List.getElem?_cons_succ, put7, nilS] at d0 d1 d2 d3 d4 d5 d6
            refine bodyPost_ret (v := .tuple #[.agg #[nilS, nilS, nilS, nilS, nilS, nilS, nilS], .bool false]) ?_ rfl (bodyNo HN.out rfl ?_)
            · simp [results, Tryz.results49, go_sem, d0, d1, d2, d3, d4, d5, d6, nilS]
            · exact put7_below HW6.out.below (Nat.le_of_lt hltR) nilS nilS nilS nilS nilS nilS nilS
          | some days =>
            obtain ⟨da, dc, hdv, hown0⟩ := HP6.out.days days rfl
            have hdl8 := HDL.out days rfl
            subst hdv
            have HOD := Lib.hid (show w6.ownsRow (w.heap.size + 2) 3 1 (.slice da days.length dc) days.length (flatL encN1 days) from by rw [encN1_flat]; exact hown0)
            have HC6 := Lib.hid HP6.out.cal
            clear hown0 HP6 HDL
            by_cases h0 : 0 < l3.length
            · have HN := Lib.hid (show calS s = none from by rw [HCS.out]; unfold calOf; simp only [if_pos h0])
              have hz5 : (0 : Int) < (l3.length : Int) := by omega
              have hz6 : (l3.length : Int) > 0 := hz5
              obtain ⟨c, f, -, hltR⟩ := rd HW6.out.res
              have c0 := c 0; have c1 := c 1; have c2 := c 2; have c3 := c 3; have c4 := c 4; have c5 := c 5; have c6 := c 6
              have f0 := f 0; have f1 := f 1; have f2 := f 2; have f3 := f 3; have f4 := f 4; have f5 := f 5; have f6 := f 6
              simp only [List.getElem?_toArray, List.getElem?_cons_zero, List.getElem?_cons_succ] at c0 c1 c2 c3 c4 c5 c6
              clear c f
              go_wp2_with fail
              have HV7 := put7_heap HW6.out.res nilS nilS nilS nilS nilS nilS nilS
              obtain ⟨c, -, -, -⟩ := rd HV7
              have d0 := c 0; have d1 := c 1; have d2 := c 2; have d3 := c 3; have d4 := c 4; have d5 := c 5; have d6 := c 6
              simp only [List.getElem?_toArray, List.getElem?_cons_zero, List.getElem?_cons_succ, put7, nilS] at d0 d1 d2 d3 d4 d5 d6
              refine bodyPost_ret (v := .tuple #[.agg #[nilS, nilS, nilS, nilS, nilS, nilS, nilS], .bool false]) ?_ rfl (bodyNo HN.out rfl ?_)
              · simp [results, Tryz.results49, go_sem, d0, d1, d2, d3, d4, d5, d6, nilS]
              · exact put7_below HW6.out.below (Nat.le_of_lt hltR) nilS nilS nilS nilS nilS nilS nilS
            · have h00 : l3.length = 0 := by omega
              have HCS2 := Lib.hid (show calS s = calOf (some days) [] dd tt from by rw [HCS.out]; unfold calOf; simp only [h00, List.length_nil])
              clear HCS h0
              rw [h00]
              by_cases hd3 : dd.length = 3
              · rw [hd3]
                by_cases ht3 : tt.length = 3
                · rw [ht3]
                  have HF1 := Lib.hid (show Calls Tryz.prog 85 #[.pointer (some ⟨w.heap.size + 1, 0, none⟩), .int .i64 0, .slice (some ⟨B1, 0, none⟩) 3 3] w6 fun e w' => FillOut w6 (w.heap.size + 1) 0 #[.slice da days.length dc, .slice none 0 0, .slice none 0 0, .slice none 0 0, .slice none 0 0, .slice none 0 0, .slice none 0 0] dd e w' from by
                    have := fill_any (w.heap.size + 1) 0 (.inl rfl) #[.slice da days.length dc, .slice none 0 0, .slice none 0 0, .slice none 0 0, .slice none 0 0, .slice none 0 0, .slice none 0 0] rfl dd hd3 (some ⟨B1, 0, none⟩) 3 w6 HC6.out HRd.out (fun b o h => by cases h; have := HB1.out; omega)
                      (fun V hf => HMX.out V ((HW6.out.below.mono (Nat.le_refl _)).trans (hf.below w.heap.size (by have := HB1.out; omega) (fun k hk e => by omega)))) HXd.out
                    rw [hd3] at this
                    exact this)
                  go_wp2_with fail
                  refine HF1.out.mono ?_
                  rintro e w7 ⟨rfl, hf7, cs1, hC7, hs7, hg7⟩
                  have HW7 := Lib.hid (show NoW w w7 w.heap.size from ⟨HW6.out.below.trans (hf7.below w.heap.size (by have := HB1.out; omega) (fun k hk e => by omega)), hf7.heap HW6.out.res (by omega)⟩)
                  cases hfd : fillS dd with
                  | none =>
                    have HN := Lib.hid (show calS s = none from by rw [HCS2.out]; unfold calOf; simp [hd3, ht3, hfd])
                    rw [show (none : Option (List (List PartS))).isSome = false from rfl]
                    clear hg7
                    obtain ⟨c, f, -, hltR⟩ := rd HW7.out.res
                    have c0 := c 0; have c1 := c 1; have c2 := c 2; have c3 := c 3; have c4 := c 4; have c5 := c 5; have c6 := c 6
                    have f0 := f 0; have f1 := f 1; have f2 := f 2; have f3 := f 3; have f4 := f 4; have f5 := f 5; have f6 := f 6
                    simp only [List.getElem?_toArray, List.getElem?_cons_zero, List.getElem?_cons_succ] at c0 c1 c2 c3 c4 c5 c6
                    clear c f
                    go_wp2_with fail
                    have HV7 := put7_heap HW7.out.res nilS nilS nilS nilS nilS nilS nilS
                    obtain ⟨c, -, -, -⟩ := rd HV7
                    have d0 := c 0; have d1 := c 1; have d2 := c 2; have d3 := c 3; have d4 := c 4; have d5 := c 5; have d6 := c 6
                    simp only [List.getElem?_toArray, List.getElem?_cons_zero, List.getElem?_cons_succ, put7, nilS] at d0 d1 d2 d3 d4 d5 d6
                    refine bodyPost_ret (v := .tuple #[.agg #[nilS, nilS, nilS, nilS, nilS, nilS, nilS], .bool false]) ?_ rfl (bodyNo HN.out rfl ?_)
                    · simp [results, Tryz.results49, go_sem, d0, d1, d2, d3, d4, d5, d6, nilS]
                    · exact put7_below HW7.out.below (Nat.le_of_lt hltR) nilS nilS nilS nilS nilS nilS nilS
                  | some fd =>
                    rw [show (some fd).isSome = true from rfl]
                    have HG7 := Lib.hid (hg7 fd hfd)
                    have hz7 := hf7.size
                    have HRt7 := Lib.hid (HRt.out.fr hf7 (fun b o h => by cases h; have := HB1.out; omega))
                    have HOD7 := Lib.hid (ownsRow_fr HOD.out hf7 (fun g hg _ e => by have := (HOD.out.lt g hg).1; omega))
                    have HFD := Lib.hid hfd
                    have HF2 := Lib.hid (show Calls Tryz.prog 85 #[.pointer (some ⟨w.heap.size + 1, 0, none⟩), .int .i64 3, .slice (some ⟨B2, 0, none⟩) 3 3] w7 fun e w' => FillOut w7 (w.heap.size + 1) 3 cs1 tt e w' from by
                      have := fill_any (w.heap.size + 1) 3 (.inr rfl) cs1 hs7 tt ht3 (some ⟨B2, 0, none⟩) 3 w7 hC7 HRt7.out (fun b o h => by cases h; have := HB1.out; omega)
                        (fun V hf => HMX.out V (HW7.out.below.trans (hf.below w.heap.size (by have := HB1.out; omega) (fun k hk e => by omega)))) HXt.out
                      rw [ht3] at this
                      exact this)
                    clear hg7 hfd HF1 hf7
                    go_wp2_with fail
                    refine HF2.out.mono ?_
                    rintro e w8 ⟨rfl, hf8, cs2, hC8, hs8, hg8⟩
                    have HW8 := Lib.hid (show NoW w w8 w.heap.size from ⟨HW7.out.below.trans (hf8.below w.heap.size (by have := HB1.out; omega) (fun k hk e => by omega)), hf8.heap HW7.out.res (by omega)⟩)
                    cases hft : fillS tt with
                    | none =>
                      have HN := Lib.hid (show calS s = none from by rw [HCS2.out]; unfold calOf; simp [hd3, ht3, HFD.out, hft])
                      rw [show (none : Option (List (List PartS))).isSome = false from rfl]
                      clear hg8
                      obtain ⟨c, f, -, hltR⟩ := rd HW8.out.res
                      have c0 := c 0; have c1 := c 1; have c2 := c 2; have c3 := c 3; have c4 := c 4; have c5 := c 5; have c6 := c 6
                      have f0 := f 0; have f1 := f 1; have f2 := f 2; have f3 := f 3; have f4 := f 4; have f5 := f 5; have f6 := f 6
                      simp only [List.getElem?_toArray, List.getElem?_cons_zero, List.getElem?_cons_succ] at c0 c1 c2 c3 c4 c5 c6
                      clear c f
                      go_wp2_with fail
                      have HV7 := put7_heap HW8.out.res nilS nilS nilS nilS nilS nilS nilS
                      obtain ⟨c, -, -, -⟩ := rd HV7
                      have d0 := c 0; have d1 := c 1; have d2 := c 2; have d3 := c 3; have d4 := c 4; have d5 := c 5; have d6 := c 6
                      simp only [List.getElem?_toArray, List.getElem?_cons_zero, List.getElem?_cons_succ, put7, nilS] at d0 d1 d2 d3 d4 d5 d6
                      refine bodyPost_ret (v := .tuple #[.agg #[nilS, nilS, nilS, nilS, nilS, nilS, nilS], .bool false]) ?_ rfl (bodyNo HN.out rfl ?_)
                      · simp [results, Tryz.results49, go_sem, d0, d1, d2, d3, d4, d5, d6, nilS]
                      · exact put7_below HW8.out.below (Nat.le_of_lt hltR) nilS nilS nilS nilS nilS nilS nilS
                    | some ft =>
                      rw [show (some ft).isSome = true from rfl]
                      have HG8 := hg8 ft hft
                      have hz8 := hf8.size
                      have HG78 := HG7.out.fr hf8 (by have := HB1.out; omega)
                      have HOD8 := ownsRow_fr HOD7.out hf8 (fun g hg _ e => by have := (HOD7.out.lt g hg).1; omega)
                      have hfdl := fillS_len dd fd HFD.out
                      have hftl := fillS_len tt ft hft
                      obtain ⟨e0, e1, e2, e3, e4, e5, e6, rfl⟩ : ∃ c0 c1 c2 c3 c4 c5 c6, cs2 = #[c0, c1, c2, c3, c4, c5, c6] := by
                        obtain ⟨l⟩ := cs2
                        have := hs8
                        match l, this with
                        | [a0, a1, a2, a3, a4, a5, a6], _ => exact ⟨a0, a1, a2, a3, a4, a5, a6, rfl⟩
                      have HOWN := Lib.hid (show CalOwn w8 (w.heap.size + 2) #[e0, e1, e2, e3, e4, e5, e6] days (fd ++ ft) from
                        { size := rfl
                          days := by
                            refine ⟨_, ?_, HOD8⟩
                            rw [HG8.other 0 (.inl (by omega)), HG78.other 0 (.inl (by omega))]
                            rfl
                          fields := fun i hi => by
                            by_cases h3 : i < 3
                            · obtain ⟨v, h1, h2⟩ := HG78.got i (by omega)
                              refine ⟨v, ?_, ?_⟩
                              · rw [HG8.other (i + 1) (.inl (by omega)), ← h1, show 0 + 1 + i = i + 1 by omega]
                              · rw [List.getD_eq_getElem?_getD, List.getElem?_append_left (by omega), List.getElem?_eq_getElem (by omega)]
                                exact own_base' h2 (by have := HB1.out; omega)
                            · obtain ⟨v, h1, h2⟩ := HG8.got (i - 3) (by omega)
                              refine ⟨v, ?_, ?_⟩
                              · rw [← h1, show 3 + 1 + (i - 3) = i + 1 by omega]
                              · rw [List.getD_eq_getElem?_getD, List.getElem?_append_right (by omega), hfdl, hd3, List.getElem?_eq_getElem (by omega)]
                                exact own_base' h2 (by have := HB1.out; omega) })
                      have hbnd := fill2_each 100000000 dd tt fd ft HFD.out hft HXd.out HXt.out
                      have HMY := Lib.hid (fun r hr => calMay_any #[e0, e1, e2, e3, e4, e5, e6] days (fd ++ ft) w8 HOWN.out.rd (by omega) (fun i => by have := hbnd i; omega) r hr)
                      have HCS3 := Lib.hid (show calS s = if mayCalS days (fd ++ ft) = true then some (days, fd ++ ft) else none from by rw [HCS2.out]; unfold calOf; simp [hd3, ht3, HFD.out, hft])
                      have HC8 := Lib.hid hC8
                      clear HG8 HG78 HOD8 hfdl hftl hg8 hbnd HF2 hft hf8 hs8
                      obtain ⟨c, -, -, -⟩ := rd hC8
                      have k0 := c 0; have k1 := c 1; have k2 := c 2; have k3 := c 3; have k4 := c 4; have k5 := c 5; have k6 := c 6
                      simp only [List.getElem?_toArray, List.getElem?_cons_zero, List.getElem?_cons_succ] at k0 k1 k2 k3 k4 k5 k6
                      clear c
                      cases hmy : mayCalS days (fd ++ ft) with
                      | false =>
                        have HN := Lib.hid (show calS s = none from by rw [HCS3.out, hmy]; rfl)
                        have HMY2 := Lib.hid (HMY.out false hmy)
                        go_wp2_with fail
                        refine HMY2.out.mono ?_
                        rintro e w9 ⟨rfl, hb9⟩
                        have HW9 := Lib.hid (show NoW w w9 w.heap.size from ⟨HW8.out.below.trans (hb9.mono (Nat.le_of_lt (lt_heap HW8.out.res))), heap_below HW8.out.res hb9⟩)
                        clear k0 k1 k2 k3 k4 k5 k6
                        obtain ⟨c, f, -, hltR⟩ := rd HW9.out.res
                        have c0 := c 0; have c1 := c 1; have c2 := c 2; have c3 := c 3; have c4 := c 4; have c5 := c 5; have c6 := c 6
                        have f0 := f 0; have f1 := f 1; have f2 := f 2; have f3 := f 3; have f4 := f 4; have f5 := f 5; have f6 := f 6
                        simp only [List.getElem?_toArray, List.getElem?_cons_zero, List.getElem?_cons_succ] at c0 c1 c2 c3 c4 c5 c6
                        clear c f
                        go_wp2_with fail
                        have HV7 := put7_heap HW9.out.res nilS nilS nilS nilS nilS nilS nilS
                        obtain ⟨c, -, -, -⟩ := rd HV7
                        have d0 := c 0; have d1 := c 1; have d2 := c 2; have d3 := c 3; have d4 := c 4; have d5 := c 5; have d6 := c 6
                        simp only [List.getElem?_toArray, List.getElem?_cons_zero, List.getElem?_cons_succ, put7, nilS] at d0 d1 d2 d3 d4 d5 d6
                        refine bodyPost_ret (v := .tuple #[.agg #[nilS, nilS, nilS, nilS, nilS, nilS, nilS], .bool false]) ?_ rfl (bodyNo HN.out rfl ?_)
                        · simp [results, Tryz.results49, go_sem, d0, d1, d2, d3, d4, d5, d6, nilS]
                        · exact put7_below HW9.out.below (Nat.le_of_lt hltR) nilS nilS nilS nilS nilS nilS nilS
                      | true =>
                        have HY := Lib.hid (show calS s = some (days, fd ++ ft) from by rw [HCS3.out, hmy]; rfl)
                        have HMY2 := Lib.hid (HMY.out true hmy)
                        go_wp2_with fail
                        refine HMY2.out.mono ?_
                        rintro e w9 ⟨rfl, hb9⟩
                        have HW9 := Lib.hid (show NoW w w9 w.heap.size from ⟨HW8.out.below.trans (hb9.mono (Nat.le_of_lt (lt_heap HW8.out.res))), heap_below HW8.out.res hb9⟩)
                        have HC9 := Lib.hid (heap_below HC8.out hb9)
                        have HOWN9 := Lib.hid (HOWN.out.below hb9)
                        obtain ⟨p0, n0, m0, rfl⟩ : ∃ a n m, e0 = .slice a n m := by
                          obtain ⟨v, h1, h2⟩ := HOWN9.out.days
                          obtain ⟨a, b, rfl⟩ := ownsRow_form h2
                          simp only [List.getElem?_toArray, List.getElem?_cons_zero, List.getElem?_cons_succ, Option.some.injEq] at h1
                          exact ⟨_, _, _, h1⟩
                        obtain ⟨p1, n1, m1, rfl⟩ : ∃ a n m, e1 = .slice a n m := by
                          obtain ⟨v, h1, h2⟩ := HOWN9.out.fields 0 (by omega)
                          obtain ⟨a, b, rfl⟩ := ownsRow_form h2
                          simp only [List.getElem?_toArray, List.getElem?_cons_zero, List.getElem?_cons_succ, Option.some.injEq] at h1
                          exact ⟨_, _, _, h1⟩
                        obtain ⟨p2, n2, m2, rfl⟩ : ∃ a n m, e2 = .slice a n m := by
                          obtain ⟨v, h1, h2⟩ := HOWN9.out.fields 1 (by omega)
                          obtain ⟨a, b, rfl⟩ := ownsRow_form h2
                          simp only [List.getElem?_toArray, List.getElem?_cons_zero, List.getElem?_cons_succ, Option.some.injEq] at h1
                          exact ⟨_, _, _, h1⟩
                        obtain ⟨p3, n3, m3, rfl⟩ : ∃ a n m, e3 = .slice a n m := by
                          obtain ⟨v, h1, h2⟩ := HOWN9.out.fields 2 (by omega)
                          obtain ⟨a, b, rfl⟩ := ownsRow_form h2
                          simp only [List.getElem?_toArray, List.getElem?_cons_zero, List.getElem?_cons_succ, Option.some.injEq] at h1
                          exact ⟨_, _, _, h1⟩
                        obtain ⟨p4, n4, m4, rfl⟩ : ∃ a n m, e4 = .slice a n m := by
                          obtain ⟨v, h1, h2⟩ := HOWN9.out.fields 3 (by omega)
                          obtain ⟨a, b, rfl⟩ := ownsRow_form h2
                          simp only [List.getElem?_toArray, List.getElem?_cons_zero, List.getElem?_cons_succ, Option.some.injEq] at h1
                          exact ⟨_, _, _, h1⟩
                        obtain ⟨p5, n5, m5, rfl⟩ : ∃ a n m, e5 = .slice a n m := by
                          obtain ⟨v, h1, h2⟩ := HOWN9.out.fields 4 (by omega)
                          obtain ⟨a, b, rfl⟩ := ownsRow_form h2
                          simp only [List.getElem?_toArray, List.getElem?_cons_zero, List.getElem?_cons_succ, Option.some.injEq] at h1
                          exact ⟨_, _, _, h1⟩
                        obtain ⟨p6, n6, m6, rfl⟩ : ∃ a n m, e6 = .slice a n m := by
                          obtain ⟨v, h1, h2⟩ := HOWN9.out.fields 5 (by omega)
                          obtain ⟨a, b, rfl⟩ := ownsRow_form h2
                          simp only [List.getElem?_toArray, List.getElem?_cons_zero, List.getElem?_cons_succ, Option.some.injEq] at h1
                          exact ⟨_, _, _, h1⟩
                        clear k0 k1 k2 k3 k4 k5 k6
                        obtain ⟨c, f, -, hltR⟩ := rd HW9.out.res
                        have c0 := c 0; have c1 := c 1; have c2 := c 2; have c3 := c 3; have c4 := c 4; have c5 := c 5; have c6 := c 6
                        have f0 := f 0; have f1 := f 1; have f2 := f 2; have f3 := f 3; have f4 := f 4; have f5 := f 5; have f6 := f 6
                        simp only [List.getElem?_toArray, List.getElem?_cons_zero, List.getElem?_cons_succ] at c0 c1 c2 c3 c4 c5 c6
                        clear c f
                        obtain ⟨c, -, -, -⟩ := rd HC9.out
                        have k0 := c 0; have k1 := c 1; have k2 := c 2; have k3 := c 3; have k4 := c 4; have k5 := c 5; have k6 := c 6
                        simp only [List.getElem?_toArray, List.getElem?_cons_zero, List.getElem?_cons_succ] at k0 k1 k2 k3 k4 k5 k6
                        clear c
                        go_wp2_with fail
                        have HV7 := put7_heap HW9.out.res (.slice p0 n0 m0) (.slice p1 n1 m1) (.slice p2 n2 m2) (.slice p3 n3 m3) (.slice p4 n4 m4) (.slice p5 n5 m5) (.slice p6 n6 m6)
                        obtain ⟨c, -, -, -⟩ := rd HV7
                        have d0 := c 0; have d1 := c 1; have d2 := c 2; have d3 := c 3; have d4 := c 4; have d5 := c 5; have d6 := c 6
                        simp only [List.getElem?_toArray, List.getElem?_cons_zero, List.getElem?_cons_succ, put7] at d0 d1 d2 d3 d4 d5 d6
                        refine bodyPost_ret (v := .tuple #[.agg #[(.slice p0 n0 m0), (.slice p1 n1 m1), (.slice p2 n2 m2), (.slice p3 n3 m3), (.slice p4 n4 m4), (.slice p5 n5 m5), (.slice p6 n6 m6)], .bool true]) ?_ rfl (bodyYes HY.out rfl ?_ ?_)
                        · simp [results, Tryz.results49, go_sem, d0, d1, d2, d3, d4, d5, d6]
                        · exact (HOWN9.out.fr (put7_fr _ w.heap.size (.slice p0 n0 m0) (.slice p1 n1 m1) (.slice p2 n2 m2) (.slice p3 n3 m3) (.slice p4 n4 m4) (.slice p5 n5 m5) (.slice p6 n6 m6)) (by omega)).rd
                        · exact put7_below HW9.out.below (Nat.le_of_lt hltR) (.slice p0 n0 m0) (.slice p1 n1 m1) (.slice p2 n2 m2) (.slice p3 n3 m3) (.slice p4 n4 m4) (.slice p5 n5 m5) (.slice p6 n6 m6)
                · have HN := Lib.hid (show calS s = none from by rw [HCS2.out]; unfold calOf; simp [hd3, ht3])
                  have hz5 : ¬ (tt.length : Int) = 3 := by omega
                  obtain ⟨c, f, -, hltR⟩ := rd HW6.out.res
                  have c0 := c 0; have c1 := c 1; have c2 := c 2; have c3 := c 3; have c4 := c 4; have c5 := c 5; have c6 := c 6
                  have f0 := f 0; have f1 := f 1; have f2 := f 2; have f3 := f 3; have f4 := f 4; have f5 := f 5; have f6 := f 6
                  simp only [List.getElem?_toArray, List.getElem?_cons_zero, List.getElem?_cons_succ] at c0 c1 c2 c3 c4 c5 c6
                  clear c f
                  go_wp2_with fail
                  have HV7 := put7_heap HW6.out.res nilS nilS nilS nilS nilS nilS nilS
                  obtain ⟨c, -, -, -⟩ := rd HV7
                  have d0 := c 0; have d1 := c 1; have d2 := c 2; have d3 := c 3; have d4 := c 4; have d5 := c 5; have d6 := c 6
                  simp only [List.getElem?_toArray, List.getElem?_cons_zero, List.getElem?_cons_succ, put7, nilS] at d0 d1 d2 d3 d4 d5 d6
                  refine bodyPost_ret (v := .tuple #[.agg #[nilS, nilS, nilS, nilS, nilS, nilS, nilS], .bool false]) ?_ rfl (bodyNo HN.out rfl ?_)
                  · simp [results, Tryz.results49, go_sem, d0, d1, d2, d3, d4, d5, d6, nilS]
                  · exact put7_below HW6.out.below (Nat.le_of_lt hltR) nilS nilS nilS nilS nilS nilS nilS
              · have HN := Lib.hid (show calS s = none from by rw [HCS2.out]; unfold calOf; simp [hd3])
                have hz5 : ¬ (dd.length : Int) = 3 := by omega
                obtain ⟨c, f, -, hltR⟩ := rd HW6.out.res
                have c0 := c 0; have c1 := c 1; have c2 := c 2; have c3 := c 3; have c4 := c 4; have c5 := c 5; have c6 := c 6
                have f0 := f 0; have f1 := f 1; have f2 := f 2; have f3 := f 3; have f4 := f 4; have f5 := f 5; have f6 := f 6
                simp only [List.getElem?_toArray, List.getElem?_cons_zero, List.getElem?_cons_succ] at c0 c1 c2 c3 c4 c5 c6
                clear c f
                go_wp2_with fail
                have HV7 := put7_heap HW6.out.res nilS nilS nilS nilS nilS nilS nilS
                obtain ⟨c, -, -, -⟩ := rd HV7
                have d0 := c 0; have d1 := c 1; have d2 := c 2; have d3 := c 3; have d4 := c 4; have d5 := c 5; have d6 := c 6
                simp only [List.getElem?_toArray, List.getElem?_cons_zero, List.getElem?_cons_succ, put7, nilS] at d0 d1 d2 d3 d4 d5 d6
                refine bodyPost_ret (v := .tuple #[.agg #[nilS, nilS, nilS, nilS, nilS, nilS, nilS], .bool false]) ?_ rfl (bodyNo HN.out rfl ?_)
                · simp [results, Tryz.results49, go_sem, d0, d1, d2, d3, d4, d5, d6, nilS]
                · exact put7_below HW6.out.below (Nat.le_of_lt hltR) nilS nilS nilS nilS nilS nilS nilS
end Go.Proofs.YtdpnahojhmkemaaGreatDoor

/-
  Package keys: right at every form; Value, Line, Check at every key.
-/
namespace Go.Proofs.YtdpnahojhmkemaaGreatDoor
open Go Go.RowKit
set_option linter.unusedVariables false
set_option linter.unusedSimpArgs false
set_option maxRecDepth 100000

abbrev yesS : List Str := [[121, 101, 115], [116, 114, 117, 101], [49], [110, 111], [102, 97, 108, 115, 101], [48]]
def numB (x : Str) : Bool := (numK x).2
/-- right's answer. -/
def rightS (form : Int) (ws : List Str) (v : Str) : Bool :=
  if form = 1 then true
  else if form = 2 then yesS.contains v
  else if form = 3 then numB v
  else if form = 11 then eachB numB (blanksS v)
  else if form = 4 then (spanS v).2
  else if form = 9 then (calS v).isSome
  else if form = 5 then unitB v
  else if form = 6 then eachB unitB (blanksS v)
  else if form = 7 then (execS v).isSome
  else if form = 8 then (envS v).2
  else if form = 10 then ws.contains v
  else false
theorem strRow_new (w : World) (l : List Str) : StrRow (w.alloc (.cells (strVals l).toArray 9)) (some ⟨w.heap.size, 0, none⟩) l := splitStr_row w l
set_option maxHeartbeats 2000000 in
theorem right_text (kv : KeyV) (v : Str) (w : World) (hf : kv.form = 1) :
    Calls Tryz.prog 29 #[.agg (encK kv).toArray, .string ⟨v.toArray⟩] w fun e w' => e = .returned (.bool true) ∧ Below w.heap.size w w' := by
  obtain ⟨sec, name, form, list, kinds, wa, wn, wc⟩ := kv
  unfold encK
  simp only at *
  subst hf
  have hvz : (⟨v.toArray⟩ : ByteArray).size = v.length := by simp [ByteArray.size]
  have hB := (Below.refl w.heap.size w).alloc (Nat.le_refl _) (.cells #[.string ⟨sec.toArray⟩, .string ⟨name.toArray⟩, .int .i64 1, .bool list, .int .i64 kinds, .slice wa wn wc] 28)
  have HB := Lib.hid hB
  clear hB
  go_enter Tryz.func29, Tryz.ntmps29
  go_wp2_with fail
  go_ret
  exact ⟨rfl, HB.out⟩
set_option maxHeartbeats 2000000 in
theorem right_num (kv : KeyV) (v : Str) (w : World) (hf : kv.form = 3) (hl : v.length ≤ 1000000000) (m : Bool) (hm : numB v = m) :
    Calls Tryz.prog 29 #[.agg (encK kv).toArray, .string ⟨v.toArray⟩] w fun e w' => e = .returned (.bool m) ∧ Below w.heap.size w w' := by
  obtain ⟨sec, name, form, list, kinds, wa, wn, wc⟩ := kv
  unfold encK
  simp only at *
  subst hf
  have hvz : (⟨v.toArray⟩ : ByteArray).size = v.length := by simp [ByteArray.size]
  have hB := (Below.refl w.heap.size w).alloc (Nat.le_refl _) (.cells #[.string ⟨sec.toArray⟩, .string ⟨name.toArray⟩, .int .i64 3, .bool list, .int .i64 kinds, .slice wa wn wc] 28)
  have HB := Lib.hid hB
  have H := Lib.hid (keysnum_any ⟨v.toArray⟩ (w.alloc (.cells #[.string ⟨sec.toArray⟩, .string ⟨name.toArray⟩, .int .i64 3, .bool list, .int .i64 kinds, .slice wa wn wc] 28)) (by rw [hvz]; omega) m hm)
  clear hB hm
  go_enter Tryz.func29, Tryz.ntmps29
  go_wp2_with fail
  refine H.out.mono ?_
  rintro e w1 ⟨rfl, hb1⟩
  go_wp2_with fail
  go_ret
  exact ⟨rfl, HB.out.trans (hb1.mono HB.out.size)⟩
set_option maxHeartbeats 2000000 in
theorem right_span (kv : KeyV) (v : Str) (w : World) (hf : kv.form = 4) (hl : v.length ≤ 1000000000) (m : Bool) (hm : (spanS v).2 = m) :
    Calls Tryz.prog 29 #[.agg (encK kv).toArray, .string ⟨v.toArray⟩] w fun e w' => e = .returned (.bool m) ∧ Below w.heap.size w w' := by
  obtain ⟨sec, name, form, list, kinds, wa, wn, wc⟩ := kv
  unfold encK
  simp only at *
  subst hf
  have hvz : (⟨v.toArray⟩ : ByteArray).size = v.length := by simp [ByteArray.size]
  have hB := (Below.refl w.heap.size w).alloc (Nat.le_refl _) (.cells #[.string ⟨sec.toArray⟩, .string ⟨name.toArray⟩, .int .i64 4, .bool list, .int .i64 kinds, .slice wa wn wc] 28)
  have HB := Lib.hid hB
  obtain ⟨n, b, hv⟩ : ∃ n b, spanS v = (n, b) := ⟨_, _, rfl⟩
  obtain rfl : b = m := by rw [hv] at hm; exact hm
  have H := Lib.hid (spanParse_any ⟨v.toArray⟩ (w.alloc (.cells #[.string ⟨sec.toArray⟩, .string ⟨name.toArray⟩, .int .i64 4, .bool list, .int .i64 kinds, .slice wa wn wc] 28)) (by rw [hvz]; omega) n b hv)
  clear hB hm hv
  go_enter Tryz.func29, Tryz.ntmps29
  go_wp2_with fail
  refine H.out.mono ?_
  rintro e w1 ⟨rfl, hb1⟩
  go_wp2_with fail
  go_ret
  exact ⟨rfl, HB.out.trans (hb1.mono HB.out.size)⟩
set_option maxHeartbeats 2000000 in
theorem right_name (kv : KeyV) (v : Str) (w : World) (hf : kv.form = 5) (hl : v.length ≤ 1000000000) (hM : MaxAt w) (m : Bool) (hm : unitB v = m) :
    Calls Tryz.prog 29 #[.agg (encK kv).toArray, .string ⟨v.toArray⟩] w fun e w' => e = .returned (.bool m) ∧ Below w.heap.size w w' := by
  obtain ⟨sec, name, form, list, kinds, wa, wn, wc⟩ := kv
  unfold encK
  simp only at *
  subst hf
  have hvz : (⟨v.toArray⟩ : ByteArray).size = v.length := by simp [ByteArray.size]
  have hB := (Below.refl w.heap.size w).alloc (Nat.le_refl _) (.cells #[.string ⟨sec.toArray⟩, .string ⟨name.toArray⟩, .int .i64 5, .bool list, .int .i64 kinds, .slice wa wn wc] 28)
  have HB := Lib.hid hB
  have H := Lib.hid (unit_any ⟨v.toArray⟩ (w.alloc (.cells #[.string ⟨sec.toArray⟩, .string ⟨name.toArray⟩, .int .i64 5, .bool list, .int .i64 kinds, .slice wa wn wc] 28)) (by rw [hvz]; omega) (hM.below hB) m hm)
  clear hB hm hM
  go_enter Tryz.func29, Tryz.ntmps29
  go_wp2_with fail
  refine H.out.mono ?_
  rintro e w1 ⟨rfl, hb1⟩
  go_wp2_with fail
  go_ret
  exact ⟨rfl, HB.out.trans (hb1.mono HB.out.size)⟩
set_option maxHeartbeats 2000000 in
theorem right_cal (kv : KeyV) (v : Str) (w : World) (hf : kv.form = 9) (hl : v.length ≤ 1000000000) (hM : MaxAt w) (m : Bool) (hm : (calS v).isSome = m) :
    Calls Tryz.prog 29 #[.agg (encK kv).toArray, .string ⟨v.toArray⟩] w fun e w' => e = .returned (.bool m) ∧ Below w.heap.size w w' := by
  obtain ⟨sec, name, form, list, kinds, wa, wn, wc⟩ := kv
  unfold encK
  simp only at *
  subst hf
  have hvz : (⟨v.toArray⟩ : ByteArray).size = v.length := by simp [ByteArray.size]
  have hB := (Below.refl w.heap.size w).alloc (Nat.le_refl _) (.cells #[.string ⟨sec.toArray⟩, .string ⟨name.toArray⟩, .int .i64 9, .bool list, .int .i64 kinds, .slice wa wn wc] 28)
  have HB := Lib.hid hB
  have H := Lib.hid (calParse_any v (w.alloc (.cells #[.string ⟨sec.toArray⟩, .string ⟨name.toArray⟩, .int .i64 9, .bool list, .int .i64 kinds, .slice wa wn wc] 28)) (by omega) (hM.below hB))
  unfold CalOut at H
  rw [hm] at H
  clear hB hm hM
  go_enter Tryz.func29, Tryz.ntmps29
  go_wp2_with fail
  refine H.out.mono ?_
  rintro e w1 ⟨cs, rfl, -, -, hb1⟩
  go_wp2_with fail
  go_ret
  exact ⟨rfl, HB.out.trans (hb1.mono HB.out.size)⟩
set_option maxHeartbeats 2000000 in
theorem right_env (kv : KeyV) (v : Str) (w : World) (hf : kv.form = 8) (hl : v.length ≤ 1000000000) (hM : MaxAt w) (m : Bool) (hm : (envS v).2 = m) :
    Calls Tryz.prog 29 #[.agg (encK kv).toArray, .string ⟨v.toArray⟩] w fun e w' => e = .returned (.bool m) ∧ Below w.heap.size w w' := by
  obtain ⟨sec, name, form, list, kinds, wa, wn, wc⟩ := kv
  unfold encK
  simp only at *
  subst hf
  have hvz : (⟨v.toArray⟩ : ByteArray).size = v.length := by simp [ByteArray.size]
  have hB := (Below.refl w.heap.size w).alloc (Nat.le_refl _) (.cells #[.string ⟨sec.toArray⟩, .string ⟨name.toArray⟩, .int .i64 8, .bool list, .int .i64 kinds, .slice wa wn wc] 28)
  have HB := Lib.hid hB
  obtain ⟨ps, b, hv⟩ : ∃ ps b, envS v = (ps, b) := ⟨_, _, rfl⟩
  obtain rfl : b = m := by rw [hv] at hm; exact hm
  have H := Lib.hid (env_any ⟨v.toArray⟩ (w.alloc (.cells #[.string ⟨sec.toArray⟩, .string ⟨name.toArray⟩, .int .i64 8, .bool list, .int .i64 kinds, .slice wa wn wc] 28)) (by rw [hvz]; omega) (hM.below hB) ps b hv)
  clear hB hm hv hM
  go_enter Tryz.func29, Tryz.ntmps29
  go_wp2_with fail
  refine H.out.mono ?_
  rintro e w1 ⟨hb1, u, rfl, hown⟩
  obtain ⟨oa, cap, rfl⟩ := ownsRow_form hown
  go_wp2_with fail
  go_ret
  exact ⟨rfl, HB.out.trans (hb1.mono HB.out.size)⟩
set_option maxHeartbeats 2000000 in
theorem right_exec (kv : KeyV) (v : Str) (w : World) (hf : kv.form = 7) (hl : v.length ≤ 1000000000) (m : Bool) (hm : (execS v).isSome = m) :
    Calls Tryz.prog 29 #[.agg (encK kv).toArray, .string ⟨v.toArray⟩] w fun e w' => e = .returned (.bool m) ∧ Below w.heap.size w w' := by
  obtain ⟨sec, name, form, list, kinds, wa, wn, wc⟩ := kv
  unfold encK
  simp only at *
  subst hf
  have hvz : (⟨v.toArray⟩ : ByteArray).size = v.length := by simp [ByteArray.size]
  have hB := (Below.refl w.heap.size w).alloc (Nat.le_refl _) (.cells #[.string ⟨sec.toArray⟩, .string ⟨name.toArray⟩, .int .i64 7, .bool list, .int .i64 kinds, .slice wa wn wc] 28)
  have HB := Lib.hid hB
  have H := Lib.hid (exec_any ⟨v.toArray⟩ (w.alloc (.cells #[.string ⟨sec.toArray⟩, .string ⟨name.toArray⟩, .int .i64 7, .bool list, .int .i64 kinds, .slice wa wn wc] 28)) (by rw [hvz]; omega))
  unfold ExecOut at H
  rw [show (⟨v.toArray⟩ : ByteArray).data.toList = v from rfl] at H
  clear hB
  cases hx : execS v with
  | none =>
    rw [hx] at H hm
    obtain rfl : false = m := hm
    simp only at H
    clear hx
    go_enter Tryz.func29, Tryz.ntmps29
    go_wp2_with fail
    refine H.out.mono ?_
    rintro e w1 ⟨hb1, rfl⟩
    go_wp2_with fail
    go_ret
    exact ⟨rfl, HB.out.trans (hb1.mono HB.out.size)⟩
  | some p =>
    obtain ⟨d, l⟩ := p
    rw [hx] at H hm
    obtain rfl : true = m := hm
    simp only at H
    clear hx
    go_enter Tryz.func29, Tryz.ntmps29
    go_wp2_with fail
    refine H.out.mono ?_
    rintro e w1 ⟨hb1, wa2, wc2, rfl, -⟩
    go_wp2_with fail
    go_ret
    exact ⟨rfl, HB.out.trans (hb1.mono HB.out.size)⟩
set_option maxHeartbeats 2000000 in
theorem right_bool (kv : KeyV) (v : Str) (w : World) (hf : kv.form = 2) (m : Bool) (hm : yesS.contains v = m) :
    Calls Tryz.prog 29 #[.agg (encK kv).toArray, .string ⟨v.toArray⟩] w fun e w' => e = .returned (.bool m) ∧ Below w.heap.size w w' := by
  obtain ⟨sec, name, form, list, kinds, wa, wn, wc⟩ := kv
  unfold encK
  simp only at *
  subst hf
  have hvz : (⟨v.toArray⟩ : ByteArray).size = v.length := by simp [ByteArray.size]
  have hB := (Below.refl w.heap.size w).alloc (Nat.le_refl _) (.cells #[.string ⟨sec.toArray⟩, .string ⟨name.toArray⟩, .int .i64 2, .bool list, .int .i64 kinds, .slice wa wn wc] 28)
  have HB := Lib.hid hB
  have H := Lib.hid (show Calls Tryz.prog 44 #[.slice (some ⟨w.heap.size + 1, 0, none⟩) 6 6, .string ⟨v.toArray⟩] ((w.alloc (.cells #[.string ⟨sec.toArray⟩, .string ⟨name.toArray⟩, .int .i64 2, .bool list, .int .i64 kinds, .slice wa wn wc] 28)).alloc (.cells #[.string ⟨#[121, 101, 115]⟩, .string ⟨#[116, 114, 117, 101]⟩, .string ⟨#[49]⟩, .string ⟨#[110, 111]⟩, .string ⟨#[102, 97, 108, 115, 101]⟩, .string ⟨#[48]⟩] 9)) fun e w' => e = .returned (.bool m) ∧ w' = ((w.alloc (.cells #[.string ⟨sec.toArray⟩, .string ⟨name.toArray⟩, .int .i64 2, .bool list, .int .i64 kinds, .slice wa wn wc] 28)).alloc (.cells #[.string ⟨#[121, 101, 115]⟩, .string ⟨#[116, 114, 117, 101]⟩, .string ⟨#[49]⟩, .string ⟨#[110, 111]⟩, .string ⟨#[102, 97, 108, 115, 101]⟩, .string ⟨#[48]⟩] 9)) from by
    have := hasS_any (some ⟨(w.alloc (.cells #[.string ⟨sec.toArray⟩, .string ⟨name.toArray⟩, .int .i64 2, .bool list, .int .i64 kinds, .slice wa wn wc] 28)).heap.size, 0, none⟩) 6 yesS v ((w.alloc (.cells #[.string ⟨sec.toArray⟩, .string ⟨name.toArray⟩, .int .i64 2, .bool list, .int .i64 kinds, .slice wa wn wc] 28)).alloc (.cells (strVals yesS).toArray 9)) (by decide) (strRow_new (w.alloc (.cells #[.string ⟨sec.toArray⟩, .string ⟨name.toArray⟩, .int .i64 2, .bool list, .int .i64 kinds, .slice wa wn wc] 28)) yesS)
    rw [hm, show (w.alloc (.cells #[.string ⟨sec.toArray⟩, .string ⟨name.toArray⟩, .int .i64 2, .bool list, .int .i64 kinds, .slice wa wn wc] 28)).heap.size = w.heap.size + 1 by simp] at this
    exact this)
  have HB2 := Lib.hid ((Below.refl (w.alloc (.cells #[.string ⟨sec.toArray⟩, .string ⟨name.toArray⟩, .int .i64 2, .bool list, .int .i64 kinds, .slice wa wn wc] 28)).heap.size (w.alloc (.cells #[.string ⟨sec.toArray⟩, .string ⟨name.toArray⟩, .int .i64 2, .bool list, .int .i64 kinds, .slice wa wn wc] 28))).alloc (Nat.le_refl _) (.cells #[.string ⟨#[121, 101, 115]⟩, .string ⟨#[116, 114, 117, 101]⟩, .string ⟨#[49]⟩, .string ⟨#[110, 111]⟩, .string ⟨#[102, 97, 108, 115, 101]⟩, .string ⟨#[48]⟩] 9))
  clear hB hm
  go_enter Tryz.func29, Tryz.ntmps29
  go_wp2_with fail
  refine H.out.mono ?_
  rintro e w1 ⟨rfl, rfl⟩
  go_wp2_with fail
  go_ret
  exact ⟨rfl, HB.out.trans (HB2.out.mono HB.out.size)⟩
set_option maxHeartbeats 2000000 in
theorem right_ints (kv : KeyV) (v : Str) (w : World) (hf : kv.form = 11) (hl : v.length < 4294967281) (hM : MaxAt w) (m : Bool) (hm : eachB numB (blanksS v) = m) :
    Calls Tryz.prog 29 #[.agg (encK kv).toArray, .string ⟨v.toArray⟩] w fun e w' => e = .returned (.bool m) ∧ Below w.heap.size w w' := by
  obtain ⟨sec, name, form, list, kinds, wa, wn, wc⟩ := kv
  unfold encK
  simp only at *
  subst hf
  have hvz : (⟨v.toArray⟩ : ByteArray).size = v.length := by simp [ByteArray.size]
  have hB := (Below.refl w.heap.size w).alloc (Nat.le_refl _) (.cells #[.string ⟨sec.toArray⟩, .string ⟨name.toArray⟩, .int .i64 11, .bool list, .int .i64 kinds, .slice wa wn wc] 28)
  have HB := Lib.hid hB
  have HW := Lib.hid (charsWords_any ⟨v.toArray⟩ (w.alloc (.cells #[.string ⟨sec.toArray⟩, .string ⟨name.toArray⟩, .int .i64 11, .bool list, .int .i64 kinds, .slice wa wn wc] 28)) (by rw [hvz]; omega))
  have hln := blanksS_len v []
  have hmem := fldS_mem v.length v [] (by simp)
  have HE := Lib.hid (fun (A : Nat) (W : World) (hA : A < W.heap.size) (h1 : MaxAt W) (h2 : StrAt W A 0 (blanksS v)) =>
    each_any 45 enters_keysnum numB A 0 (blanksS v).length (blanksS v) W hA (by unfold blanksS; omega) h1 (fun W2 j hj hM2 => keysnum_any _ W2 (by
      have : (blanksS v)[j].length ≤ v.length := hmem _ (List.getElem_mem hj)
      show (blanksS v)[j].toArray.size ≤ _
      simp; omega) _ rfl) h2 m hm)
  have HM := Lib.hid (hM.below hB)
  clear hln hmem hB hM hl hm hvz
  go_enter Tryz.func29, Tryz.ntmps29
  go_wp2_with fail
  refine HW.out.mono ?_
  rintro e w1 ⟨A, rfl, hA, hA2, hs, hb1⟩
  have hh := HE.out A w1 hA2 (HM.out.below hb1) hs
  have HH := Lib.hid hh
  have HB1 := Lib.hid (HB.out.trans (hb1.mono HB.out.size))
  clear hA hA2 hs hb1 hh HE HW HM HB
  simp only
  generalize (blanksS v).length = n at *
  go_wp2_with fail
  refine HH.out.mono ?_
  rintro e w2 ⟨rfl, hb2⟩
  have HB2 := Lib.hid (HB1.out.trans (hb2.mono HB1.out.size))
  clear hb2
  go_wp2_with fail
  go_ret
  exact ⟨rfl, HB2.out⟩
set_option maxHeartbeats 2000000 in
theorem right_else (kv : KeyV) (v : Str) (w : World) (h1 : ¬ kv.form = 1) (h2 : ¬ kv.form = 2) (h3 : ¬ kv.form = 3) (h11 : ¬ kv.form = 11) (h4 : ¬ kv.form = 4) (h9 : ¬ kv.form = 9) (h5 : ¬ kv.form = 5) (h6 : ¬ kv.form = 6) (h7 : ¬ kv.form = 7) (h8 : ¬ kv.form = 8) (h10 : ¬ kv.form = 10) :
    Calls Tryz.prog 29 #[.agg (encK kv).toArray, .string ⟨v.toArray⟩] w fun e w' => e = .returned (.bool false) ∧ Below w.heap.size w w' := by
  obtain ⟨sec, name, form, list, kinds, wa, wn, wc⟩ := kv
  unfold encK
  simp only at *
  have HB := Lib.hid ((Below.refl w.heap.size w).alloc (Nat.le_refl _) (.cells #[.string ⟨sec.toArray⟩, .string ⟨name.toArray⟩, .int .i64 form, .bool list, .int .i64 kinds, .slice wa wn wc] 28))
  go_enter Tryz.func29, Tryz.ntmps29
  go_wp2_with fail
  go_ret
  exact ⟨rfl, HB.out⟩
/-- right at any key. -/
theorem right_any (kv : KeyV) (ws : List Str) (v : Str) (w : World) (hn : kv.wn = ws.length) (hl : ws.length ≤ 4294967296) (hw : StrRow w kv.wa ws) (hv : v.length ≤ 1000000000) (hM : MaxAt w) :
    Calls Tryz.prog 29 #[.agg (encK kv).toArray, .string ⟨v.toArray⟩] w fun e w' => e = .returned (.bool (rightS kv.form ws v)) ∧ Below w.heap.size w w' := by
  unfold rightS
  by_cases h1 : kv.form = 1
  · rw [if_pos h1]; exact right_text kv v w h1
  rw [if_neg h1]
  by_cases h2 : kv.form = 2
  · rw [if_pos h2]; exact right_bool kv v w h2 _ rfl
  rw [if_neg h2]
  by_cases h3 : kv.form = 3
  · rw [if_pos h3]; exact right_num kv v w h3 hv _ rfl
  rw [if_neg h3]
  by_cases h11 : kv.form = 11
  · rw [if_pos h11]; exact right_ints kv v w h11 (by omega) hM _ rfl
  rw [if_neg h11]
  by_cases h4 : kv.form = 4
  · rw [if_pos h4]; exact right_span kv v w h4 hv _ rfl
  rw [if_neg h4]
  by_cases h9 : kv.form = 9
  · rw [if_pos h9]; exact right_cal kv v w h9 hv hM _ rfl
  rw [if_neg h9]
  by_cases h5 : kv.form = 5
  · rw [if_pos h5]; exact right_name kv v w h5 hv hM _ rfl
  rw [if_neg h5]
  by_cases h6 : kv.form = 6
  · rw [if_pos h6]; exact right_names kv v w h6 (by omega) hM _ rfl
  rw [if_neg h6]
  by_cases h7 : kv.form = 7
  · rw [if_pos h7]; exact right_exec kv v w h7 hv _ rfl
  rw [if_neg h7]
  by_cases h8 : kv.form = 8
  · rw [if_pos h8]; exact right_env kv v w h8 hv hM _ rfl
  rw [if_neg h8]
  by_cases h10 : kv.form = 10
  · rw [if_pos h10]; exact right_word kv ws v w h10 hn hl hw _ rfl
  rw [if_neg h10]
  exact right_else kv v w h1 h2 h3 h11 h4 h9 h5 h6 h7 h8 h10

def valS (v : Str) (k : KeyS) : Int := valE k.form k.list v (rightS k.form k.words v)
def lnS (kind : Int) (x : Ln) : Int := lineE (valS x.val) kind x.sec x.key
theorem value_key (k : KeyS) (kv : KeyV) (v : Str) (w : World) (hk : KvRd w kv k) (hw : k.words.length ≤ 4294967296) (hl : v.length ≤ 1000000000) (hM : MaxAt w) :
    Calls Tryz.prog 15 #[.agg (encK kv).toArray, .string ⟨v.toArray⟩] w fun e w' => e = .returned (.int .i64 (valS v k)) ∧ Below w.heap.size w w' := by
  refine value_any kv v w (rightS k.form k.words v) (fun W hW => ?_) _ (by unfold valS; rw [hk.form, hk.list])
  have := right_any kv k.words v W hk.wl hw (hk.row.below hW) hl (hM.below hW)
  rw [hk.form] at this
  exact this
theorem words_few0 : (allKeys.all fun k => decide (k.words.length ≤ 100)) = true := by kernel_rfl
theorem words_few : ∀ k ∈ allKeys, k.words.length ≤ 100 := fun k hk => of_decide_eq_true (List.all_eq_true.1 words_few0 k hk)
theorem find_mem (sec name : Str) (k : KeyS) (h : findKey sec name = some k) : k ∈ allKeys := by
  unfold findKey at h
  exact List.mem_of_find?_eq_some h
theorem line_key (kind : Int) (x : Ln) (w : World) (hM : MaxAt w) (hl : x.val.length ≤ 1000000000) :
    Calls Tryz.prog 38 #[.int .i64 kind, .agg (encLn x).toArray] w fun e w' => e = .returned (.int .i64 (lnS kind x)) ∧ Below w.heap.size w w' :=
  line_any (valS x.val) kind x.sec x.key x.val x.at_ w hM (fun k kv W hk hkv hM2 => value_key k kv x.val W hkv (Nat.le_trans (words_few k (find_mem _ _ k hk)) (by decide)) hl hM2) _ rfl
theorem check_key (kind : Int) (l : List Ln) (oa : Option Addr) (cap : Nat) (w : World) (hl : l.length ≤ 4294967296) (hM : MaxAt w) (hr : RowRd encLn 4 w oa l)
    (hf : ∀ x ∈ l, x.val.length ≤ 1000000000) (c a : Int) (hc : checkS (lnS kind) l = (c, a)) :
    Calls Tryz.prog 17 #[.int .i64 kind, .slice oa l.length cap] w fun e w' => e = .returned (.agg #[.int .i64 c, .int .i64 a]) ∧ Below w.heap.size w w' :=
  check_any (lnS kind) kind l oa cap w hl hM hr (fun i h W hW => line_key kind l[i] W hW (hf _ (List.getElem_mem h))) c a hc
end Go.Proofs.YtdpnahojhmkemaaGreatDoor

/-
  matinslaw8: shown.
-/
namespace Go.Proofs.YtdpnahojhmkemaaGreatDoor
open Go Go.RowKit
set_option linter.unusedVariables false
set_option linter.unusedSimpArgs false
set_option maxRecDepth 100000

set_option maxHeartbeats 4000000 in
theorem shown_any (w : World) (hM : MaxAt w) : Calls Tryz.prog 9 #[] w fun e w' => e = .returned (.bool true) ∧ Below w.heap.size w w' := by
  have HM := Lib.hid hM
  have HF := Lib.hid (find_any nService nType w)
  clear hM
  go_enter Tryz.func9, Tryz.ntmps9
  go_wp2_with fail
  refine HF.out.mono ?_
  rintro e w1 ⟨⟨sec, name, form, list, kinds, wa, wn, wc⟩, rfl, hkv, hb1⟩
  rw [find_type] at hkv ⊢
  have hkv' : KvRd w1 ⟨sec, name, form, list, kinds, wa, wn, wc⟩ keyType := hkv
  obtain rfl : form = 10 := hkv'.form
  obtain rfl : list = false := hkv'.list
  obtain rfl : wn = 3 := hkv'.wl
  simp only [Option.isSome_some]
  let a1 := w1.alloc (.cells #[.string ⟨sec.toArray⟩, .string ⟨name.toArray⟩, .int .i64 10, .bool false, .int .i64 kinds, .slice wa 3 wc] 28)
  let a2 := a1.alloc (.cells #[.string ⟨nUnit.toArray⟩, .string ⟨nAfter.toArray⟩, .string ⟨vAService.toArray⟩, .int .i64 2, .string ⟨nService.toArray⟩, .string ⟨nType.toArray⟩, .string ⟨vOdd.toArray⟩, .int .i64 4] 44)
  have hB2 : Below w.heap.size w a2 := hb1.trans ((((Below.refl w1.heap.size w1).alloc (Nat.le_refl _) _).alloc (by simp) _).mono hb1.size)
  have hz1 : a1.heap.size = w1.heap.size + 1 := by simp [a1]
  have hrow : RowRd encLn 4 a2 (some ⟨w1.heap.size + 1, 0, none⟩) shLines := by
    intro i hi
    refine ⟨w1.heap.size + 1, 0, rfl, by simp [a2, hz1], fun j v hj => ?_⟩
    have hg : a2.heap[w1.heap.size + 1]? = some (.cells #[.string ⟨nUnit.toArray⟩, .string ⟨nAfter.toArray⟩, .string ⟨vAService.toArray⟩, .int .i64 2, .string ⟨nService.toArray⟩, .string ⟨nType.toArray⟩, .string ⟨vOdd.toArray⟩, .int .i64 4] 44 (0, 0)) := by rw [← hz1]; exact heap_alloc_new a1 _
    rw [(rd hg).1]
    rcases (show i = 0 ∨ i = 1 by have : shLines.length = 2 := rfl; omega) with rfl | rfl
    · rcases j with _ | _ | _ | _ | j
      · exact hj
      · exact hj
      · exact hj
      · exact hj
      · exact absurd hj (by simp [encLn])
    · rcases j with _ | _ | _ | _ | j
      · exact hj
      · exact hj
      · exact hj
      · exact hj
      · exact absurd hj (by simp [encLn])
  have hval := value_w keyType ⟨sec, name, 10, false, kinds, wa, 3, wc⟩ nnotify a2 (hkv'.below ((((Below.refl w1.heap.size w1).alloc (Nat.le_refl _) _).alloc (by simp) _))) (.inr rfl) (by decide) (by decide) (HM.out.below hB2)
  rw [val_type] at hval
  have HVL := Lib.hid hval
  have HB2 := Lib.hid hB2
  have HRW := Lib.hid hrow
  clear hkv hkv' hb1 HF hB2 hz1 hrow hval
  unfold encK at *
  go_wp2_with fail
  refine HVL.out.mono ?_
  rintro e w3 ⟨rfl, hb3⟩
  have HB3 := Lib.hid (HB2.out.trans (hb3.mono HB2.out.size))
  have HR3 := Lib.hid (HRW.out.below hb3)
  have HC1 := Lib.hid (check_w 1 shLines _ 2 w3 (by decide) (HM.out.below HB3.out) HR3.out sh_forms 12 4 check1)
  clear hb3 HVL HRW HB2
  go_wp2_with fail
  refine HC1.out.mono ?_
  rintro e w4 ⟨rfl, hb4⟩
  have HB4 := Lib.hid (HB3.out.trans (hb4.mono HB3.out.size))
  have HR4 := Lib.hid (HR3.out.below hb4)
  have HC2 := Lib.hid (check_w 4 shLines _ 2 w4 (by decide) (HM.out.below HB4.out) HR4.out sh_forms 10 4 check4)
  clear hb4 HC1 HR3 HB3
  go_wp2_with fail
  refine HC2.out.mono ?_
  rintro e w5 ⟨rfl, hb5⟩
  have HB5 := Lib.hid (HB4.out.trans (hb5.mono HB4.out.size))
  have HA := Lib.hid (keysAll_any w5)
  clear hb5 HC2 HR4 HB4
  go_wp2_with fail
  refine HA.out.mono ?_
  rintro e w6 ⟨oa, cap, vs, rfl, -, -, hb6⟩
  have HB6 := Lib.hid (HB5.out.trans (hb6.mono HB5.out.size))
  clear hb6 HA HB5
  go_wp2_with fail
  go_ret
  exact ⟨rfl, HB6.out⟩
end Go.Proofs.YtdpnahojhmkemaaGreatDoor

/-
  KeysFirst walked.
-/
namespace Go.Proofs.YtdpnahojhmkemaaGreatDoor
open Go Go.RowKit Go.Sort Go.BigFrame
set_option linter.unusedVariables false
set_option linter.unusedSimpArgs false
set_option maxRecDepth 100000

theorem infoLn : (Tryz.prog.info? 44).map (fun i => (i.zero, i.size, i.bytes)) = some (some (.agg #[.string ⟨#[]⟩, .string ⟨#[]⟩, .string ⟨#[]⟩, .int .i64 0]), 4, 56) := by kernel_rfl
theorem encLn_len (x : Ln) : (encLn x).length = 4 := rfl
theorem encLn_one (x : Ln) : ∀ v ∈ encLn x, v.oneCell' = true := by
  intro v hv
  simp [encLn] at hv
  rcases hv with rfl | rfl | rfl | rfl <;> rfl
theorem checkS_app (ln : Ln → Int) : ∀ (a b : List Ln), checkS ln (a ++ b) = if (checkS ln a).1 = 0 then checkS ln b else checkS ln a
  | [], b => rfl
  | x :: t, b => by
    rw [List.cons_append, checkS, checkS]
    by_cases h : ln x = 0
    · rw [if_pos h, if_pos h]; exact checkS_app ln t b
    · rw [if_neg h, if_neg h, if_neg h]

set_option maxHeartbeats 8000000 in
theorem first_any (kind : Int) (la lb : List Ln) (oa ob : Option Addr) (ca cb : Nat) (w : World) (hM : MaxAt w) (ha : RowRd encLn 4 w oa la) (hb : RowRd encLn 4 w ob lb) (za : la.length ≤ 1048576) (zb : lb.length ≤ 1048576)
    (xa : ∀ x ∈ la, x.val.length ≤ 1000000000) (xb : ∀ x ∈ lb, x.val.length ≤ 1000000000) :
    Calls Tryz.prog 6 #[.int .i64 kind, .slice oa la.length ca, .slice ob lb.length cb] w fun e w' => e = .returned (.bool true) ∧ Below w.heap.size w w' := by
  have HSH := Lib.hid (shown_any w hM)
  have HM := Lib.hid (fun W (h : Below w.heap.size w W) => hM.below h)
  have HRA := Lib.hid (fun W (h : Below w.heap.size w W) => ha.below h)
  have HRB := Lib.hid (fun W (h : Below w.heap.size w W) => hb.below h)
  obtain ⟨c1, a1, h1⟩ : ∃ c a, checkS (lnS kind) la = (c, a) := ⟨_, _, rfl⟩
  obtain ⟨c2, a2, h2⟩ : ∃ c a, checkS (lnS kind) lb = (c, a) := ⟨_, _, rfl⟩
  obtain ⟨c, a, h3⟩ : ∃ c a, checkS (lnS kind) (la ++ lb) = (c, a) := ⟨_, _, rfl⟩
  have HA := Lib.hid (fun W (h : Below w.heap.size w W) => check_key kind la oa ca W (by omega) (HM.out W h) (HRA.out W h) xa c1 a1 h1)
  have HB := Lib.hid (fun W (h : Below w.heap.size w W) => check_key kind lb ob cb W (by omega) (HM.out W h) (HRB.out W h) xb c2 a2 h2)
  have HC := Lib.hid (fun W (h : MaxAt W) o cap (hr : RowRd encLn 4 W o (la ++ lb)) => check_key kind (la ++ lb) o cap W (by rw [List.length_append]; omega) h hr (fun x hx => (List.mem_append.1 hx).elim (xa x) (xb x)) c a h3)
  have HL := Lib.hid (show (c, a) = if c1 = 0 then (c2, a2) else (c1, a1) from by rw [← h3, checkS_app, h1, h2])
  clear hM ha hb xa xb h1 h2 h3
  go_enter Tryz.func6, Tryz.ntmps6
  go_wp2_with fail
  refine HSH.out.mono ?_
  rintro e w1 ⟨rfl, hb1⟩
  have HB1 := Lib.hid hb1
  clear hb1 HSH
  go_wp2_with fail
  refine (HA.out w1 HB1.out).mono ?_
  rintro e w2 ⟨rfl, hb2⟩
  have HB2 := Lib.hid (HB1.out.trans (hb2.mono HB1.out.size))
  clear hb2 HB1 HA
  go_upto_if 15 with fail
  go_cut [7] from 8 (fun s7 w' => s7 = .pointer (some ⟨w2.heap.size, 0, none⟩) ∧ Hid (Below w.heap.size w w') ∧ Hid (w'.heap[w2.heap.size]? = some (.cells #[.int .i64 c, .int .i64 a] 37 (0, 0))))
  case first =>
    by_cases h0 : c1 = 0
    · have hl := HL.out
      rw [if_pos h0] at hl
      injection hl with e1 e2
      subst e1; subst e2; subst h0
      have hBw : Below w.heap.size w (w2.alloc (.cells #[.int .i64 0, .int .i64 a1] 37)) := HB2.out.alloc HB2.out.size _
      have hHw := heap_alloc_new w2 (.cells #[.int .i64 0, .int .i64 a1] 37)
      have HBw := Lib.hid hBw; have HHw := Lib.hid hHw
      clear hBw hHw
      go_wp2_with fail
      refine (HB.out _ HBw.out).mono ?_
      rintro e w3 ⟨rfl, hb3⟩
      have hh3 := heap_below HHw.out hb3
      have HB3 := Lib.hid (HBw.out.trans (hb3.mono HBw.out.size))
      obtain ⟨cc, ff, -, -⟩ := rd hh3
      have k0 := cc 0; have k1 := cc 1; have f0 := ff 0; have f1 := ff 1
      simp only [List.getElem?_toArray, List.getElem?_cons_zero, List.getElem?_cons_succ] at k0 k1
      have HH3 := Lib.hid hh3
      clear cc ff hb3 hh3
      go_wp2_with fail
      go_meet
      case rel =>
        refine ⟨rfl, Lib.hid ?_, Lib.hid ?_⟩
        · exact (HB3.out.setCell (p := ⟨w2.heap.size, 0, none⟩) HB2.out.size _).setCell (p := ⟨w2.heap.size, 1, none⟩) HB2.out.size _
        · have q := heap_setCell (heap_setCell HH3.out 0 (.int .i64 c)) 1 (.int .i64 a)
          simpa using q
    · have hl := HL.out
      rw [if_neg h0] at hl
      injection hl with e1 e2
      subst e1; subst e2
      have hz : ¬ (c = 0) := h0
      go_wp2_with fail
      go_meet
      case rel => exact ⟨rfl, HB2.out.alloc HB2.out.size _, heap_alloc_new w2 _⟩
  case rest =>
    obtain ⟨rfl, HBc, HFc⟩ := hcut
    have HN := Lib.hid (show World.ownsRow wc wc.heap.size 44 4 (.slice none 0 0) 0 [] from World.ownsRow_nil _ _ _ _)
    have HFW := Lib.hid (fun W (h : Below wc.heap.size wc W) => heap_below HFc.out h)
    obtain ⟨i0, hi0, hz0, hz1, hz2⟩ := info_parts infoLn
    have HFR := Lib.hid ((HRA.out wc HBc.out).flat encLn_len (by decide))
    have HFQ := Lib.hid (fun W (h : Below wc.heap.size wc W) => ((HRB.out wc HBc.out).below h).flat encLn_len (by decide))
    go_wp2_with fail
    refine wp_region_held_drew (S := fun V => Below wc.heap.size wc V) (by kernel_rfl) (below_dn ⟨1, rfl⟩) (fun hHeld => ?_)
    try simp only [Act.put, List.setIfInBounds_toArray, List.set_cons_zero, List.set_cons_succ]
    refine wpAnyH_take (i := 0) (v := .int .i64 kind) (List.getElem?_toArray.trans rfl) (by kernel_rfl) (by kernel_rfl) (by kernel_rfl) (fun _ _ _ h => h) (Or.inl ⟨by rfl, fun W hW => by clear hW; go_simp⟩) (by assumption) ?_
    try simp only [Act.put, List.setIfInBounds_toArray, List.set_cons_zero, List.set_cons_succ]
    refine wpAnyH_take (i := 1) (v := .slice oa la.length ca) (List.getElem?_toArray.trans rfl) (by kernel_rfl) (by kernel_rfl) (by kernel_rfl) (fun _ _ _ h => h) (Or.inl ⟨by rfl, fun W hW => by clear hW; go_simp⟩) (by assumption) ?_
    try simp only [Act.put, List.setIfInBounds_toArray, List.set_cons_zero, List.set_cons_succ]
    refine wpAnyH_take (i := 3) (v := .slice ob lb.length cb) (List.getElem?_toArray.trans rfl) (by kernel_rfl) (by kernel_rfl) (by kernel_rfl) (fun _ _ _ h => h) (Or.inl ⟨by rfl, fun W hW => by clear hW; go_simp⟩) (by assumption) ?_
    try simp only [Act.put, List.setIfInBounds_toArray, List.set_cons_zero, List.set_cons_succ]
    refine wpAnyH_take (i := 6) (v := .agg #[.int .i64 c, .int .i64 a]) (List.getElem?_toArray.trans rfl) (by kernel_rfl) (by kernel_rfl) (by kernel_rfl) (fun _ _ _ h => h) (Or.inl ⟨by rfl, fun W hW => by have q := HFW.out W hW; obtain ⟨cc, -, -, -⟩ := rd q; have k0 := cc 0; have k1 := cc 1; simp only [List.getElem?_toArray, List.getElem?_cons_zero, List.getElem?_cons_succ] at k0 k1; clear hW q cc; go_simp⟩) (by assumption) ?_
    try simp only [Act.put, List.setIfInBounds_toArray, List.set_cons_zero, List.set_cons_succ]
    have HNd := Lib.hid (own_keeps HN.out (below_dn (B := wc.heap.size) ⟨1, rfl⟩))
    have HFd := Lib.hid (((HRA.out wc HBc.out).below (below_dn (B := wc.heap.size) (b := wc.drew) ⟨1, rfl⟩)).flat encLn_len (by decide))
    have hv0 := Lib.hid hHeld
    refine wpAnyH_ready (rs := [2]) (by kernel_rfl) (by simp) (AllReadyH.cons (List.getElem?_toArray.trans rfl) (fun K hK => ?_) (AllReadyH.nil))
    clear hHeld
    refine step_append_rows (by rfl) (.const (.slice none 0 0)) (.tmp 20) 35 (by rfl) wc.heap.size 44 i0 (.agg #[.string ⟨#[]⟩, .string ⟨#[]⟩, .string ⟨#[]⟩, .int .i64 0]) 4 56 Tryz.underlying35 hi0 hz0 hz1 hz2 (by rfl) (by decide) (.slice none 0 0) 0 [] (by rfl) HNd.out oa la.length ca (flatL encLn la) (by rfl) (flatL_length encLn_len la) HFd.out (flatL_oneCell encLn_one la) (by unfold maxLen; omega) (by omega) hv0.out.size ?_
    intro v4 w4 hown4 hgrow4
    have HB4 := Lib.hid (hv0.out.grown hgrow4 hv0.out.size (fun k hk => by cases hk))
    rw [Nat.zero_add, List.nil_append] at hown4
    have HO4 := Lib.hid hown4
    clear hown4 hgrow4
    refine hK.out _ _ HB4.out (fun hHeld => ?_)
    clear hK K
    try simp only [Act.put, List.setIfInBounds_toArray, List.set_cons_zero, List.set_cons_succ]
    refine wpAnyH_ready (rs := [4]) (by kernel_rfl) (by simp) (AllReadyH.cons (List.getElem?_toArray.trans rfl) (fun K hK => ?_) (AllReadyH.nil))
    clear hHeld
    refine step_append_rows (by rfl) (.tmp 21) (.tmp 22) 35 (by rfl) wc.heap.size 44 i0 (.agg #[.string ⟨#[]⟩, .string ⟨#[]⟩, .string ⟨#[]⟩, .int .i64 0]) 4 56 Tryz.underlying35 hi0 hz0 hz1 hz2 (by rfl) (by decide) v4 la.length (flatL encLn la) (by rfl) HO4.out ob lb.length cb (flatL encLn lb) (by rfl) (flatL_length encLn_len lb) (HFQ.out _ HB4.out) (flatL_oneCell encLn_one lb) (by unfold maxLen; omega) (by omega) HB4.out.size ?_
    intro v5 w5 hown5 hgrow5
    have HB5 := Lib.hid (HB4.out.grown hgrow5 HB4.out.size (fun k hk => (HO4.out.lt k hk).1))
    obtain ⟨o5, cap5, rfl⟩ := ownsRow_form hown5
    have HO5 := Lib.hid (show RowRd encLn 4 w5 o5 (la ++ lb) from RowRd.of_own (T := 44) (B := wc.heap.size) (cap := cap5) encLn_len (by rw [flatL_append, List.length_append]; exact hown5))
    have HC5 := Lib.hid (HC.out w5 (HM.out w5 (HBc.out.trans (HB5.out.mono HBc.out.size))) o5 cap5 HO5.out)
    rw [List.length_append] at HC5
    clear hown5 hgrow5
    refine hK.out _ _ HB5.out (fun hHeld => ?_)
    clear hK K
    try simp only [Act.put, List.setIfInBounds_toArray, List.set_cons_zero, List.set_cons_succ]
    refine wpAnyH_ready (rs := [5]) (by kernel_rfl) (by simp) (AllReadyH.cons (List.getElem?_toArray.trans rfl) (fun K hK => ?_) (AllReadyH.nil))
    clear hHeld
    rw [if_pos (by rfl)]
    go_simp
    refine (HC5.out).mono ?_
    rintro e w6 ⟨rfl, hb6⟩
    have HB6 := Lib.hid (HB5.out.trans (hb6.mono HB5.out.size))
    clear hb6
    refine hK.out _ _ HB6.out (fun hHeld => ?_)
    clear hK K
    try simp only [Act.put, List.setIfInBounds_toArray, List.set_cons_zero, List.set_cons_succ]
    refine wpAnyH_take (i := 7) (v := .bool true) (List.getElem?_toArray.trans rfl) (by kernel_rfl) (by kernel_rfl) (by kernel_rfl) (fun _ _ _ h => h) (Or.inl ⟨by rfl, fun W hW => by clear hW; go_simp⟩) (by assumption) ?_
    try simp only [Act.put, List.setIfInBounds_toArray, List.set_cons_zero, List.set_cons_succ]
    refine wpAnyH_take (i := 8) (v := .bool true) (List.getElem?_toArray.trans rfl) (by kernel_rfl) (by kernel_rfl) (by kernel_rfl) (fun _ _ _ h => h) (Or.inl ⟨by rfl, fun W hW => by clear hW; go_simp⟩) (by assumption) ?_
    try simp only [Act.put, List.setIfInBounds_toArray, List.set_cons_zero, List.set_cons_succ]
    refine wpAnyH_done (by kernel_rfl) ?_ _
    clear hHeld
    go_wp2_with fail
    go_ret
    exact ⟨rfl, HBc.out.trans (HB6.out.mono HBc.out.size)⟩
end Go.Proofs.YtdpnahojhmkemaaGreatDoor

/-
  From a walk to a row: what every law's proof ends with. The arguments are read, the law is called, they read as they did.
-/
namespace Go.Proofs.YtdpnahojhmkemaaGreatDoor
open Go Go.RowKit Go.ChangeShapes Go.WideShapes Go.ChangeAt
set_option linter.unusedVariables false
set_option maxRecDepth 100000

theorem own : ownKnob Tryz.prog.godebug = none := by kernel_rfl
theorem laidOut : laidOutB Tryz.prog = true := by kernel_rfl

theorem trodAll_below {H : Type} {enc : TypeId × Value → H} {W W' : World} (hb : Below W.heap.size W W') : ∀ {ts : List TypeId} {vs : List Value} {ds : List (DataW H)} {p : List MemPlace},
    (∀ t ∈ ts, Tryz.prog.readableRec t = true ∧ t < Tryz.prog.types.size) → DataW.TrodAll enc Tryz.prog W 0 (fun _ => true) true ts vs ds p → (∀ x ∈ p, x.block < W.heap.size) →
    DataW.TrodAll enc Tryz.prog W' 0 (fun b => decide (b < W.heap.size)) true ts vs ds p
  | [], vs, ds, p, _, h, _ => by
    obtain ⟨rfl, rfl, rfl⟩ := trodAll_nil h
    exact trodAll_mk0
  | t :: ts, vs, ds, p, ht, h, hp => by
    obtain ⟨v, vs', d, ds', p1, q1, rfl, rfl, rfl, h1, h2⟩ := trodAll_cons h
    exact trodAll_cons_mk (Below.trod laidOut (ht t (by simp)).1 (ht t (by simp)).2 h1 hb (fun x hx => hp x (by simp [hx])))
      (trodAll_below hb (fun t h => ht t (by simp [h])) h2 (fun x hx => hp x (by simp [hx])))

/-- The end of every law: it answered true, and below the heap's end the world is as it was. -/
theorem law_post {H : Type} {enc : TypeId × Value → H} {f : Func} {s : ChangeSpec} {W W' : World} {args : Array Value} {ds gs : List (DataW H)} {before : List MemPlace}
    (hW : DataW.Whole enc Tryz.prog f.params.toList s.vars false W args.toList ds gs before) (hb : Below W.heap.size W W') (hv : s.vars = []) (hrt : f.resultTypes = #[4])
    (hts : ∀ t ∈ f.params.toList, Tryz.prog.readableRec t = true ∧ t < Tryz.prog.types.size)
    (hres : (s.fn H (ds ++ gs)).results = [.lit (.bool true)]) (hargs : (s.fn H (ds ++ gs)).args = ds) (hvs : (s.fn H (ds ++ gs)).vars = []) :
    ∃ v, Ending.returned (.bool true) = .returned v ∧ s.post enc Tryz.prog f false true false false W args v W' := by
  have hlt := hW.lt
  have hW' := hW
  obtain ⟨p, q, hA, hV, rfl, _, _⟩ := hW
  rw [hv] at hV
  obtain ⟨rfl, rfl⟩ := trodVars_none hV
  refine ⟨_, rfl, ds, [], p ++ [], [], p, [], hW', ?_, ?_, ?_, ?_, fun h => by cases h⟩
  · rw [hrt, hres]
    exact trodAll_cons_mk (shut_bool Tryz.underlying4 true) trodAll_mk0
  · rw [hargs]
    exact trodAll_below hb hts hA (fun x hx => hlt x (by simp [hx]))
  · rw [hv, hvs]; rfl
  · exact hb.frame _

theorem bulk_one {H : Type} (d : DataW H) : 1 ≤ Rows.uptoBulk d := by
  cases d with
  | lit l => cases l <;> simp [Rows.uptoBulk]
  | nil => simp [Rows.uptoBulk]
  | ptr d => simp [Rows.uptoBulk]
  | slice elems spare => simp [Rows.uptoBulk]
  | agg parts => simp [Rows.uptoBulk]
  | iface t d => simp [Rows.uptoBulk]
  | map entries => simp [Rows.uptoBulk]
  | held h => simp [Rows.uptoBulk]
theorem bulk_part {H : Type} {d : DataW H} {l : List (DataW H)} (h : d ∈ l) : Rows.uptoBulk d ≤ Rows.uptoBulkAll l := by
  induction l with
  | nil => cases h
  | cons x r ih =>
    simp only [Rows.uptoBulkAll]
    cases List.mem_cons.1 h with
    | inl e => subst e; omega
    | inr e => have := ih e; omega
theorem bulk_len {H : Type} (l : List (DataW H)) : l.length ≤ Rows.uptoBulkAll l := by
  induction l with
  | nil => simp [Rows.uptoBulkAll]
  | cons x r ih => have := bulk_one x; simp only [Rows.uptoBulkAll, List.length_cons]; omega

/-- A slice of strings, opened. -/
theorem open_strs {H : Type} {enc : TypeId × Value → H} {W : World} {base : Nat} {v : Value} {d : DataW H} {ps : List MemPlace} (hval : Value.okWide Tryz.prog W .any base 26 v)
    (h : DataW.Trod enc Tryz.prog W 0 (fun _ => true) true 26 v d ps) :
    ∃ oa cap l, v = .slice oa (List.length l) cap ∧ StrRow W oa l ∧ l.length ≤ maxLen ∧ (∀ x ∈ l, List.length x < Rows.uptoBulk d) ∧ l.length < Rows.uptoBulk d := by
  obtain ⟨a0, len, cap, rfl⟩ := okWide_slice Tryz.underlying26 hval
  obtain ⟨fuel, hf⟩ := h
  rcases open_strings Tryz.underlying26 Tryz.underlying9 (by kernel_rfl) hf with ⟨hcs, hx⟩ | ⟨a, len', cap', ss, hcs, _, hl, hm, hz, hx, hcell, hws⟩
  · simp [Value.cells] at hcs
    obtain ⟨rfl, rfl, rfl⟩ := hcs
    simp only [Prod.mk.injEq] at hx
    obtain ⟨rfl, rfl⟩ := hx
    exact ⟨none, 0, [], rfl, StrRow.nil _ _, by simp [maxLen], by simp, by simp [Rows.uptoBulk]⟩
  · simp [Value.cells] at hcs
    obtain ⟨rfl, rfl, rfl⟩ := hcs
    simp only [Prod.mk.injEq] at hx
    obtain ⟨rfl, rfl⟩ := hx
    simp only [if_true] at hz
    refine ⟨some a, cap, (ss.take len).map (·.data.toList), ?_, ?_, ?_, ?_, ?_⟩
    · simp; omega
    · intro i hi
      simp at hi
      have hc := hcell i (by omega)
      obtain ⟨b, o, sp⟩ := a
      by_cases h0 : i = 0
      · subst h0
        have e : (⟨b, o, sp⟩ : Addr).add 0 = ⟨b, o, sp⟩ := rfl
        rw [e] at hc
        have hsp : sp = none := by
          cases sp with
          | none => rfl
          | some x => simp [World.cell?] at hc; split at hc <;> simp at hc
        subst hsp
        exact ⟨b, o, rfl, by simpa [List.getD_eq_getElem?_getD, (by omega : 0 < ss.length)] using hc⟩
      · have hc0 := hcell 0 (by omega)
        have e : (⟨b, o, sp⟩ : Addr).add 0 = ⟨b, o, sp⟩ := rfl
        rw [e] at hc0
        have hsp : sp = none := by
          cases sp with
          | none => rfl
          | some x => simp [World.cell?] at hc0; split at hc0 <;> simp at hc0
        subst hsp
        have e2 : (⟨b, o, none⟩ : Addr).add i = ⟨b, o + i, none⟩ := by unfold Addr.add; rw [if_neg h0]
        rw [e2] at hc
        exact ⟨b, o, rfl, by simpa [List.getD_eq_getElem?_getD, (by omega : i < ss.length)] using hc⟩
    · simp; omega
    · intro x hx
      obtain ⟨y, hy, rfl⟩ := List.mem_map.1 hx
      have h1 : (strs (H := H) (ss.take len)) = (ss.take len).map fun s => .lit (.string s.data.toList) := rfl
      have h2 := bulk_part (H := H) (d := .lit (.string y.data.toList)) (l := strs (ss.take len)) (by rw [h1]; exact List.mem_map_of_mem hy)
      simp only [Rows.uptoBulk] at h2 ⊢
      omega
    · have h1 : (strs (H := H) (ss.take len)).length = ((ss.take len).map (·.data.toList)).length := by simp [strs]
      have h2 := bulk_len (strs (H := H) (ss.take len))
      simp only [Rows.uptoBulk]
      omega
end Go.Proofs.YtdpnahojhmkemaaGreatDoor

/-
  From a walk to a row that lists variables: a witness, a slice of lines opened.
-/
namespace Go.Proofs.YtdpnahojhmkemaaGreatDoor
open Go Go.RowKit Go.ChangeShapes Go.WideShapes Go.ChangeAt
set_option linter.unusedVariables false
set_option maxRecDepth 100000

/-- There is an input that fits: a world that is written out, and its shape. -/
theorem witness_card {H : Type} {enc : TypeId × Value → H} {C : Checked} {os : Os} {f : FuncId} {fn : Func} {s : OpenSpec} {conds : List PathCond} {apart : Bool} {laid : List (String × DataW Unit)} (w0 : World) (args : Array Value) (hos : w0.os = os)
    (hsh : (w0.forCall (fun _ _ => 0) ⟨#[], args, []⟩).Shaped C.prog)
    (hok : Input.okWideB C.prog (w0.forCall (fun _ _ => 0) ⟨#[], args, []⟩) f ⟨#[], args, []⟩ = true)
    (hrow : s.preRow enc C.prog fn conds apart laid (w0.forCall (fun _ _ => 0) ⟨#[], args, []⟩).memory args) :
    ∃ (w : World) (tape : Tape) (i : Input), w.os = os ∧ (w.forCall tape i).Shaped C.prog ∧ i.vars = [] ∧ Input.okWide C.prog (w.forCall tape i) .any w.heap.size f i ∧
      s.preRow enc C.prog fn conds apart laid (w.forCall tape i).memory i.args ∧ ({} : Assume).holds C.prog (lone (Frame.enter C.prog f i.args .normal) [] (w.forCall tape i)) :=
  ⟨w0, fun _ _ => 0, ⟨#[], args, []⟩, hos, hsh, (Input.okWide_of_okWideB (base := 0) hok).1, (Input.okWide_of_okWideB hok).2, hrow, by
    simp only [Assume.holds]
    exact ⟨by simp, by simp, by simp, by simp, by simp⟩⟩

/-- No parameter wants a stand-in; the program's own looks are off: what a card asks. -/
theorem plain_of {q : Bool} {name : String} {k : FuncId} {F : Func} (hn : Tryz.prog.funcNamed name = some k) (hk : Tryz.prog.funcs[k]? = some F) (hl : q = Tryz.pinned.checked.prog.looks []) (ts : List TypeId) (hp : F.params.toList = ts) (hall : (ts.all fun u => !Tryz.prog.wantsStandIn u) = true)
    (f : FuncId) (fn : Func) (hf : Tryz.pinned.checked.prog.funcNamed name = some f) (hfn : Tryz.pinned.checked.prog.funcs[f]? = some fn) :
    q = Tryz.pinned.checked.prog.looks [] ∧ ∀ (j : Nat) t, fn.params[j]? = some t → Tryz.pinned.checked.prog.wantsStandIn t = false := by
  obtain rfl : k = f := Option.some.inj (hn.symm.trans hf)
  obtain rfl : F = fn := Option.some.inj (hk.symm.trans hfn)
  refine ⟨hl, fun j t ht => ?_⟩
  have hm : t ∈ ts := by rw [← hp]; simpa using Array.mem_of_getElem? ht
  exact (show Tryz.prog.wantsStandIn t = false by simpa using List.all_eq_true.1 hall t hm)

end Go.Proofs.YtdpnahojhmkemaaGreatDoor

/-
  A slice of lines that came in as an argument, opened (the keys seat's: no package lines here).
-/
namespace Go.Proofs.YtdpnahojhmkemaaGreatDoor
open Go Go.RowKit Go.ChangeShapes Go.WideShapes Go.Deep
set_option linter.unusedVariables false
set_option maxRecDepth 100000

section
variable {H : Type} {enc : TypeId × Value → H} {P : Program} {w : World} {base : Nat} {spare : Nat → Bool} {held : Bool}
theorem open_slice_fields {t e : TypeId} {fs : Array Field} {fuel : Nat} {cs : List Value} {x : DataW H × List MemPlace} (ht : P.underlying t = some (.slice e)) (he : P.underlying e = some (.struct fs))
    (hone : oneCellFields P fs = true) (hC : P.cellsOf e = fs.size) (h : DataW.trod enc P w base spare held fuel t cs = some x) :
    (cs = [.slice none 0 0] ∧ x = (.nil, [])) ∨
    ∃ (a : Addr) (len cap m : Nat) (D : Nat → DataW H) (Pl : Nat → List MemPlace), cs = [.slice (some a) len cap] ∧ base ≤ a.block ∧ len ≤ cap ∧ cap ≤ maxLen ∧ m = (if spare a.block then cap else len) ∧
      x = (.slice ((List.range len).map D) ((List.range (m - len)).map fun j => D (len + j)), MemPlace.row a (m * fs.size) ++ (List.range m).flatMap Pl) ∧
      ∀ i, i < m → ∃ (ys : List (DataW H × List MemPlace)) (n : Nat), D i = .agg (ys.map (·.1)) ∧ Pl i = ys.flatMap (·.2) ∧ ys.length = fs.size ∧
        ∀ (j : Nat) (f : Field), fs[j]? = some f → ∃ (v : Value) (y : DataW H × List MemPlace), w.cell? (a.add (i * fs.size + j)) = some v ∧ ys[j]? = some y ∧ DataW.trod enc P w base spare held n f.type [v] = some y := by
  rcases open_slice ht h with h0 | ⟨a, len, cap, m, n, D, Pl, hcs, hb, hl, hm, hmm, hx, hi⟩
  · exact .inl h0
  · refine .inr ⟨a, len, cap, m, D, Pl, hcs, hb, hl, hm, hmm, by rw [hC] at hx; exact hx, fun i him => ?_⟩
    obtain ⟨cs', hc, ht'⟩ := hi i him
    rw [hC] at hc
    obtain ⟨ys, n', hn', hy, hlen, hyl, hf⟩ := DataW.trod_struct he ht'
    obtain ⟨_, hcl, hat⟩ := World.cells?_some hc
    simp only [Prod.mk.injEq] at hy
    refine ⟨ys, n', hy.1, hy.2, hyl, fun j f hj => ?_⟩
    obtain ⟨ho, hk⟩ := hone_of hone j f hj
    have hjl : j < fs.size := (Array.getElem?_eq_some_iff.1 hj).1
    have hcell := hat j hjl
    have hv : cs'[j]? = some (cs'[j]'(by omega)) := List.getElem?_eq_getElem (by omega)
    have h1 := hf j f hj
    rw [ho, hk] at h1
    have hone' : (cs'.drop j).take 1 = [cs'[j]'(by omega)] := by
      rw [List.drop_eq_getElem_cons (by omega)]
      rfl
    rw [hone'] at h1
    have hys : ys[j]? = some (ys[j]'(by omega)) := List.getElem?_eq_getElem (by omega)
    refine ⟨_, _, ?_, hys, h1.trans hys⟩
    rw [← Go.Deep.add_add, hcell, hv]
end

def LnRow (w : World) (oa : Option Addr) (l : List Ln) : Prop :=
  ∀ i (h : i < l.length), ∃ b o, oa = some ⟨b, o, none⟩ ∧ w.cell? ⟨b, o + i * 4, none⟩ = some (.string ⟨l[i].sec.toArray⟩) ∧ w.cell? ⟨b, o + i * 4 + 1, none⟩ = some (.string ⟨l[i].key.toArray⟩) ∧
    w.cell? ⟨b, o + i * 4 + 2, none⟩ = some (.string ⟨l[i].val.toArray⟩) ∧ w.cell? ⟨b, o + i * 4 + 3, none⟩ = some (.int .i64 l[i].at_)
theorem LnRow.nil (w : World) (oa : Option Addr) : LnRow w oa [] := fun i hi => absurd hi (by simp)
def sumLn : List Ln → Nat
  | [] => 0
  | x :: r => x.sec.length + x.key.length + x.val.length + 5 + sumLn r
theorem sumLn_mem {l : List Ln} {x : Ln} (h : x ∈ l) : x.sec.length + x.key.length + x.val.length + 5 ≤ sumLn l := by
  induction l with
  | nil => cases h
  | cons a r ih =>
    simp only [sumLn]
    rcases List.mem_cons.1 h with rfl | h
    · omega
    · have := ih h; omega
theorem sumLn_len : ∀ (l : List Ln), l.length ≤ sumLn l
  | [] => by simp [sumLn]
  | x :: r => by have := sumLn_len r; simp [sumLn]; omega
theorem list_of {α : Type} (P : Nat → α → Prop) : ∀ (n : Nat), (∀ i, i < n → ∃ x, P i x) → ∃ l : List α, l.length = n ∧ ∀ i (h : i < l.length), P i l[i]
  | 0, _ => ⟨[], rfl, fun i h => absurd h (by simp)⟩
  | n + 1, h => by
    obtain ⟨l, hl, hP⟩ := list_of P n (fun i hi => h i (by omega))
    obtain ⟨x, hx⟩ := h n (by omega)
    refine ⟨l ++ [x], by simp [hl], fun i hi => ?_⟩
    by_cases e : i < l.length
    · rw [List.getElem_append_left e]; exact hP i e
    · simp at hi
      have : i = l.length := by omega
      subst this
      rw [List.getElem_concat_length rfl, hl]
      exact hx
/-- A line's datum. -/
def lnData {H : Type} (x : Ln) : DataW H := .agg [.lit (.string x.sec), .lit (.string x.key), .lit (.string x.val), .lit (.int .i64 x.at_)]
theorem bulk_lns {H : Type} : ∀ (l : List Ln), sumLn l = Rows.uptoBulkAll (l.map (lnData (H := H)))
  | [] => by simp [sumLn, Rows.uptoBulkAll]
  | x :: r => by
    have := bulk_lns (H := H) r
    simp only [List.map_cons, sumLn, Rows.uptoBulkAll, lnData, Rows.uptoBulk]
    omega
theorem add_none {b o : Nat} {sp : Option Nat} {k : Nat} {w : World} {v : Value} (h : w.cell? ((⟨b, o, sp⟩ : Addr).add 0) = some v) : sp = none := by
  have e : (⟨b, o, sp⟩ : Addr).add 0 = ⟨b, o, sp⟩ := rfl
  rw [e] at h
  cases sp with
  | none => rfl
  | some x => simp [World.cell?] at h; split at h <;> simp at h
theorem add_off (b o k : Nat) : (⟨b, o, none⟩ : Addr).add k = ⟨b, o + k, none⟩ := by unfold Addr.add; split <;> simp_all

/-- A slice of lines, opened. -/
theorem open_lns2 {H : Type} {enc : TypeId × Value → H} {W : World} {base : Nat} {v : Value} {d : DataW H} {ps : List MemPlace} (hval : Value.okWide Tryz.prog W .any base 35 v)
    (h : DataW.Trod enc Tryz.prog W 0 (fun _ => true) true 35 v d ps) :
    ∃ oa cap l, v = .slice oa (List.length l) cap ∧ LnRow W oa l ∧ List.length l ≤ cap ∧ sumLn l ≤ Rows.uptoBulk d := by
  obtain ⟨a0, len, cap, rfl⟩ := okWide_slice Tryz.underlying35 hval
  obtain ⟨fuel, hf⟩ := h
  rcases open_slice_fields Tryz.underlying35 Tryz.underlying44 (by kernel_rfl) (by kernel_rfl) hf with ⟨hcs, hx⟩ | ⟨a, len', cap', m, D, Pl, hcs, _, hl, hm, hmm, hx, hi⟩
  · simp [Value.cells] at hcs
    obtain ⟨rfl, rfl, rfl⟩ := hcs
    exact ⟨none, 0, [], rfl, LnRow.nil _ _, Nat.zero_le _, by simp [sumLn]⟩
  · simp [Value.cells] at hcs
    obtain ⟨rfl, rfl, rfl⟩ := hcs
    simp only [Prod.mk.injEq] at hx
    obtain ⟨rfl, rfl⟩ := hx
    simp only [if_true] at hmm
    obtain ⟨b, o, sp⟩ := a
    obtain ⟨l, hll, hP⟩ := list_of (fun i (x : Ln) => (∃ h0 : sp = none, W.cell? ⟨b, o + i * 4, none⟩ = some (.string ⟨x.sec.toArray⟩) ∧ W.cell? ⟨b, o + i * 4 + 1, none⟩ = some (.string ⟨x.key.toArray⟩) ∧ W.cell? ⟨b, o + i * 4 + 2, none⟩ = some (.string ⟨x.val.toArray⟩) ∧ W.cell? ⟨b, o + i * 4 + 3, none⟩ = some (.int .i64 x.at_)) ∧ D i = lnData x) len (by
      intro i him
      have hsp : sp = none := by
        obtain ⟨ys, n, hD, _, hys, hf⟩ := hi 0 (by omega)
        obtain ⟨v0, y0, hc0, hy0, ht0⟩ := hf 0 _ rfl
        exact add_none (k := 0) hc0
      subst hsp
      obtain ⟨ys, n, hD, _, hys, hf⟩ := hi i (by omega)
      obtain ⟨v0, y0, hc0, hy0, ht0⟩ := hf 0 _ rfl
      obtain ⟨v1, y1, hc1, hy1, ht1⟩ := hf 1 _ rfl
      obtain ⟨v2, y2, hc2, hy2, ht2⟩ := hf 2 _ rfl
      obtain ⟨v3, y3, hc3, hy3, ht3⟩ := hf 3 _ rfl
      obtain ⟨s0, e0, x0, _⟩ := DataW.trod_string Tryz.underlying9 ht0
      obtain ⟨s1, e1, x1, _⟩ := DataW.trod_string Tryz.underlying9 ht1
      obtain ⟨s2, e2, x2, _⟩ := DataW.trod_string Tryz.underlying9 ht2
      obtain ⟨n3, e3, x3, _⟩ := DataW.trod_int Tryz.underlying3 ht3
      injection e0 with e0; injection e1 with e1; injection e2 with e2; injection e3 with e3
      subst e0; subst e1; subst e2; subst e3
      rw [add_off] at hc0 hc1 hc2 hc3
      refine ⟨⟨s0.data.toList, s1.data.toList, s2.data.toList, n3⟩, ⟨rfl, hc0, ?_, ?_, ?_⟩, ?_⟩
      · rw [← Nat.add_assoc] at hc1; exact hc1
      · rw [← Nat.add_assoc] at hc2; exact hc2
      · rw [← Nat.add_assoc] at hc3; exact hc3
      · rw [hD]
        have h4 : ys.length = 4 := hys
        rcases ys with _ | ⟨a, _ | ⟨b, _ | ⟨c, _ | ⟨d, _ | ⟨e, r⟩⟩⟩⟩⟩
        · simp at h4
        · simp at h4
        · simp at h4
        · simp at h4
        · simp at hy0 hy1 hy2 hy3
          subst hy0; subst hy1; subst hy2; subst hy3
          simp [lnData, x0, x1, x2, x3]
        · simp at h4)
    subst hll
    refine ⟨some ⟨b, o, sp⟩, cap, l, rfl, ?_, hl, ?_⟩
    · intro i him
      obtain ⟨⟨h0, h1, h2, h3, h4⟩, _⟩ := hP i him
      subst h0
      exact ⟨b, o, rfl, h1, h2, h3, h4⟩
    · rw [bulk_lns (H := H)]
      have he : (List.range l.length).map D = l.map lnData := by
        apply List.ext_getElem
        · simp
        · intro i h1 h2
          simp at h1
          simp [(hP i h1).2]
      simp only [Rows.uptoBulk, he]
      omega
theorem open_lns {H : Type} {enc : TypeId × Value → H} {W : World} {base : Nat} {v : Value} {d : DataW H} {ps : List MemPlace} (hval : Value.okWide Tryz.prog W .any base 35 v)
    (h : DataW.Trod enc Tryz.prog W 0 (fun _ => true) true 35 v d ps) :
    ∃ oa cap l, v = .slice oa (List.length l) cap ∧ LnRow W oa l ∧ sumLn l ≤ Rows.uptoBulk d := by
  obtain ⟨oa, cap, l, h1, h2, _, h4⟩ := open_lns2 hval h
  exact ⟨oa, cap, l, h1, h2, h4⟩
end Go.Proofs.YtdpnahojhmkemaaGreatDoor

/-
  KeysFirst at rows that came in as arguments.
-/
namespace Go.Proofs.YtdpnahojhmkemaaGreatDoor
open Go Go.RowKit
set_option linter.unusedVariables false
set_option maxRecDepth 100000

theorem LnRow.rd {w : World} {oa : Option Addr} {l : List Ln} (h : LnRow w oa l) : RowRd encLn 4 w oa l := by
  intro i hi
  obtain ⟨b, o, e, h0, h1, h2, h3⟩ := h i hi
  refine ⟨b, o, e, World.block_lt_of_cell? w _ h0, fun j v hj => ?_⟩
  rcases j with _ | _ | _ | _ | j
  · simp [encLn] at hj; subst hj; exact h0
  · simp [encLn] at hj; subst hj; exact h1
  · simp [encLn] at hj; subst hj; exact h2
  · simp [encLn] at hj; subst hj; exact h3
  · simp [encLn] at hj
theorem first_law (kind : Int) (la lb : List Ln) (oa ob : Option Addr) (ca cb : Nat) (w : World) (hM : MaxAt w) (ha : LnRow w oa la) (hb : LnRow w ob lb) (za : sumLn la ≤ 1048576) (zb : sumLn lb ≤ 1048576) :
    Calls Tryz.prog 6 #[.int .i64 kind, .slice oa la.length ca, .slice ob lb.length cb] w fun e w' => e = .returned (.bool true) ∧ Below w.heap.size w w' :=
  first_any kind la lb oa ob ca cb w hM ha.rd hb.rd (by have := sumLn_len la; omega) (by have := sumLn_len lb; omega) (fun x hx => by have := sumLn_mem hx; omega) (fun x hx => by have := sumLn_mem hx; omega)
end Go.Proofs.YtdpnahojhmkemaaGreatDoor
