import Derived.Test.YtcaamakodneplaaGreatGraphPack1
import Derived.Test.YtcaamakodneplaaGreatGraphPack3
import Derived.Deep.QuietTactic
import Derived.BigQuiet
import Derived.Deep.RegionHeld3
import Derived.Test.YtcaamakodneplaaGreatGraphPack2
import Derived.Lib.QuietBelow

/-
  Plain functions and laws: what the reference's Of, Make, Change compute. No program in sight.
-/
namespace Go.Proofs.YtcaamakodneplaaGreat
set_option linter.unusedVariables false

structure CutS where
  kind : Nat
  pre : Str
  inst : Str
  at_ : Bool
deriving DecidableEq
def cutZ : CutS := ⟨0, [], [], false⟩
/-- A name's pieces. -/
def ofS (s : Str) : CutS := if kindS s = 0 then cutZ else ⟨kindS s, (cutAt (cutPt s).1).1, (cutAt (cutPt s).1).2.1, (cutAt (cutPt s).1).2.2⟩
def makeS (c : CutS) (k : Nat) : Str := (if c.at_ then c.pre ++ 64 :: c.inst else c.pre) ++ 46 :: sufS k

theorem ofS_kind (s : Str) : (ofS s).kind = kindS s := by
  unfold ofS
  by_cases h : kindS s = 0
  · rw [if_pos h, h]; rfl
  · rw [if_neg h]
theorem cutAt_join : ∀ s : Str, (if (cutAt s).2.2 then (cutAt s).1 ++ 64 :: (cutAt s).2.1 else (cutAt s).1) = s
  | [] => rfl
  | c :: r => by
    have := cutAt_join r
    unfold cutAt
    by_cases h : (c == 64) = true
    · rw [if_pos h]; simp; exact (eq_of_beq h).symm
    · rw [if_neg h]
      simp only
      cases hq : (cutAt r).2.2 <;> simp [hq] at this ⊢ <;> exact this
theorem cutAt_none {s : Str} (h : (cutAt s).2.2 = false) : (cutAt s).1 = s ∧ (cutAt s).2.1 = [] := by
  have h1 := cutAt_join s
  rw [h] at h1
  refine ⟨by simpa using h1, ?_⟩
  clear h1
  induction s with
  | nil => rfl
  | cons c r ih =>
    unfold cutAt at h ⊢
    by_cases hc : (c == 64) = true
    · rw [if_pos hc] at h; cases h
    · rw [if_neg hc] at h ⊢; exact ih h
theorem kindOf_iff (t : Str) (k : Nat) (h1 : 1 ≤ k) (h4 : k ≤ 4) : kindOf t = k ↔ t = sufS k := by
  constructor
  · intro h
    unfold kindOf at h
    split at h
    · subst h; assumption
    split at h
    · subst h; assumption
    split at h
    · subst h; assumption
    split at h
    · subst h; assumption
    · omega
  · rintro rfl
    match k, h1, h4 with
    | 1, _, _ => decide
    | 2, _, _ => decide
    | 3, _, _ => decide
    | 4, _, _ => decide
theorem suf_nodot (k : Nat) : (sufS k).contains 46 = false := by
  unfold sufS; repeat' split <;> first | decide | skip
theorem suf_len (k : Nat) : (sufS k).length ≤ 7 := by
  unfold sufS; repeat' split <;> first | decide | skip
theorem cutPt_app (a : Str) (k : Nat) : cutPt (a ++ 46 :: sufS k) = (a, sufS k) := by
  unfold cutPt; rw [lastPt_app _ (suf_nodot k)]; rfl
theorem of_match {s : Str} {k : Nat} (h1 : 1 ≤ k) (h4 : k ≤ 4) (hn : (cutPt s).1 ≠ []) (hk : kindOf (cutPt s).2 = k) : s = (cutPt s).1 ++ 46 :: sufS k := by
  rw [kindOf_iff _ k h1 h4] at hk
  rw [← hk]
  unfold cutPt at *
  rcases lastPt_cases s with ⟨h, _⟩ | ⟨a, b, h, h2, _⟩
  · rw [h] at hn; exact absurd rfl hn
  · rw [h]; exact h2
theorem of_nomatch {s : Str} {k : Nat} (h1 : 1 ≤ k) (h4 : k ≤ 4) (h : ¬ ((cutPt s).1 ≠ [] ∧ kindOf (cutPt s).2 = k)) (hl : (sufS k).length + 1 < s.length) (n : Nat) (hn : n + ((sufS k).length + 1) = s.length) : s.drop n ≠ 46 :: sufS k := by
  intro e
  apply h
  have hs : s = s.take n ++ 46 :: sufS k := by rw [← e, List.take_append_drop]
  rw [hs, cutPt_app]
  refine ⟨?_, (kindOf_iff _ k h1 h4).2 rfl⟩
  intro e2
  have : (s.take n).length = 0 := by rw [show s.take n = [] from e2]; rfl
  rw [List.length_take] at this
  omega
/-- What the search over the kinds has found, from 1 up to k. -/
def kR (s : Str) (k : Nat) : Nat := if (cutPt s).1 ≠ [] ∧ kindOf (cutPt s).2 ≠ 0 ∧ kindOf (cutPt s).2 < k then kindOf (cutPt s).2 else 0
def rR (s : Str) (k : Nat) : Str := if (cutPt s).1 ≠ [] ∧ kindOf (cutPt s).2 ≠ 0 ∧ kindOf (cutPt s).2 < k then (cutPt s).1 else []
theorem kR_one (s : Str) : kR s 1 = 0 ∧ rR s 1 = [] := by
  unfold kR rR
  rw [if_neg (by omega), if_neg (by omega)]; exact ⟨rfl, rfl⟩
theorem kR_match {s : Str} {k : Nat} (h1 : 1 ≤ k) (hn : (cutPt s).1 ≠ []) (hk : kindOf (cutPt s).2 = k) : kR s (k + 1) = k ∧ rR s (k + 1) = (cutPt s).1 := by
  unfold kR rR
  rw [if_pos ⟨hn, by omega, by omega⟩, if_pos ⟨hn, by omega, by omega⟩]; exact ⟨hk, rfl⟩
theorem kR_no {s : Str} {k : Nat} (h : ¬ ((cutPt s).1 ≠ [] ∧ kindOf (cutPt s).2 = k)) : kR s (k + 1) = kR s k ∧ rR s (k + 1) = rR s k := by
  unfold kR rR
  have : ((cutPt s).1 ≠ [] ∧ kindOf (cutPt s).2 ≠ 0 ∧ kindOf (cutPt s).2 < k + 1) ↔ ((cutPt s).1 ≠ [] ∧ kindOf (cutPt s).2 ≠ 0 ∧ kindOf (cutPt s).2 < k) := by
    constructor
    · rintro ⟨a, b, c⟩
      refine ⟨a, b, ?_⟩
      have : kindOf (cutPt s).2 ≠ k := fun e => h ⟨a, e⟩
      omega
    · rintro ⟨a, b, c⟩; exact ⟨a, b, by omega⟩
  constructor <;> (split <;> split <;> first | rfl | (rename_i a b; exact absurd (this.1 a) b) | (rename_i a b; exact absurd (this.2 b) a))
/-- The end of the search. -/
theorem kR_end (s : Str) : (kR s 5 = 0 ∧ kindS s = 0) ∨ (kR s 5 ≠ 0 ∧ kR s 5 = kindOf (cutPt s).2 ∧ rR s 5 = (cutPt s).1) := by
  by_cases h : (cutPt s).1 ≠ [] ∧ kindOf (cutPt s).2 ≠ 0
  · have h5 : kindOf (cutPt s).2 < 5 := by have := kindOf_le (cutPt s).2; omega
    refine .inr ?_
    unfold kR rR
    rw [if_pos ⟨h.1, h.2, h5⟩, if_pos ⟨h.1, h.2, h5⟩]
    exact ⟨h.2, rfl, rfl⟩
  · refine .inl ⟨?_, ?_⟩
    · unfold kR; rw [if_neg (fun q => h ⟨q.1, q.2.1⟩)]
    · unfold kindS
      split
      · rename_i hc
        by_cases h0 : (cutPt s).1 = []
        · rw [h0] at hc; exact absurd rfl hc.2.1
        · by_cases h2 : kindOf (cutPt s).2 = 0
          · exact h2
          · exact absurd ⟨h0, h2⟩ h
      · rfl
theorem of_end {s : Str} (hl : s.length ≤ 60) (hk : kR s 5 ≠ 0) (he : kR s 5 = kindOf (cutPt s).2) (p i : Str) (f : Bool) (hp : cutAt (cutPt s).1 = (p, i, f)) :
    (p = [] ∨ nameB (p ++ i) = false → ofS s = cutZ) ∧ (p ≠ [] → nameB (p ++ i) = true → ofS s = ⟨kR s 5, p, i, f⟩) := by
  have hb : nameB (p ++ i) = (nameB p && nameB i) := by unfold nameB; rw [List.all_append]
  unfold ofS kindS
  rw [hp]
  simp only
  constructor
  · intro h
    rw [if_pos]
    rw [if_neg]
    rintro ⟨_, h1, h2, h3⟩
    rcases h with h | h
    · exact h1 h
    · rw [hb, h2, h3] at h; cases h
  · intro h1 h2
    rw [hb, Bool.and_eq_true] at h2
    have hc : (if s.length ≤ 60 ∧ p ≠ [] ∧ nameB p = true ∧ nameB i = true then kindOf (cutPt s).2 else 0) = kR s 5 := by
      rw [if_pos ⟨hl, h1, h2.1, h2.2⟩, he]
    rw [hc, if_neg hk]

/-- Where the first @ is looked for. -/
theorem cutAt_here (a b : Str) (h : a.contains 64 = false) : cutAt (a ++ 64 :: b) = (a, b, true) := by
  induction a with
  | nil => rfl
  | cons c r ih =>
    rw [List.contains_cons, Bool.or_eq_false_iff] at h
    have hc : (c == 64) = false := by rw [beq_eq_false_iff_ne] at h ⊢; exact fun e => h.1 e.symm
    rw [List.cons_append]
    unfold cutAt
    rw [if_neg (by rw [hc]; decide), ih h.2]
theorem cutAt_no (a : Str) (h : a.contains 64 = false) : cutAt a = (a, [], false) := by
  induction a with
  | nil => rfl
  | cons c r ih =>
    rw [List.contains_cons, Bool.or_eq_false_iff] at h
    have hc : (c == 64) = false := by rw [beq_eq_false_iff_ne] at h ⊢; exact fun e => h.1 e.symm
    unfold cutAt
    rw [if_neg (by rw [hc]; decide), ih h.2]
theorem change_make {s : Str} (h : kindS s ≠ 0) (k : Nat) : makeS (ofS s) k = (cutPt s).1 ++ 46 :: sufS k := by
  unfold makeS ofS
  rw [if_neg h]
  simp only
  rw [cutAt_join]
end Go.Proofs.YtcaamakodneplaaGreat

/-
  The reference's Of, May.
-/
namespace Go.Proofs.YtcaamakodneplaaGreat
open Go Go.RowKit
set_option linter.unusedVariables false
set_option maxRecDepth 100000

/-- A cut's value. -/
def cutV (c : CutS) : Array Value := #[.int .i64 c.kind, .string ⟨c.pre.toArray⟩, .string ⟨c.inst.toArray⟩, .bool c.at_]
/-- The two blocks of Of's own. -/
structure RofIn (w wr : World) (cs : Array Value) : Prop where
  below : Below w.heap.size w wr
  zero : wr.heap[w.heap.size]? = some (.cells #[.int .i64 0, .string ⟨#[]⟩, .string ⟨#[]⟩, .bool false] 60 (0, 0))
  cut : wr.heap[w.heap.size + 1]? = some (.cells cs 60 (0, 0))
theorem RofIn.dn {w wr : World} {cs : Array Value} (h : RofIn w wr cs) (n : Nat) : RofIn w (wr.drewN n) cs := ⟨h.below.trans (below_dn ⟨n, rfl⟩), h.zero, h.cut⟩
theorem RofIn.set {w wr : World} {cs : Array Value} (h : RofIn w wr cs) (j : Nat) (v : Value) : RofIn w (wr.setCell ⟨w.heap.size + 1, j, none⟩ v) (cs.setIfInBounds j v) :=
  ⟨h.below.setCell (by simp) _, heap_other h.zero (by simp) _, heap_setCell h.cut j v⟩
theorem ext_str1 (s : ByteArray) (a b : Nat) (l : Str) (h : (s.extract a b).data.toList = l) : s.extract a b = ⟨l.toArray⟩ := by
  apply bytes_ext; rw [h]
theorem post_cut {w : World} {b : Nat} {x : Act} {R : Ending → World → Prop} {cs : Array Value} (h4 : cs.size = 4) (hd : x.defers = []) (ha : x.tmps.getD 2 undef = .pointer (some ⟨b, 0, none⟩)) (hw : w.heap[b]? = some (.cells cs 60 (0, 0))) (h : R (.returned (.agg cs)) w) :
    bodyPost Tryz.prog Tryz.f25 R .ret x w :=
  post_cell 2 60 b (.agg cs) rfl hd ha (loadVar_all 60 _ rfl rfl (by rw [h4]; rfl) hw) h

theorem of_long (s : ByteArray) (w : World) (h : 60 < s.size) : Calls Tryz.prog 25 #[.string s] w fun e w' => e = .returned (.agg (cutV cutZ)) ∧ Below w.heap.size w w' := by
  go_enter Tryz.func25, Tryz.ntmps25
  go_wp2_with fail
  exact post_cut rfl rfl rfl (heap_alloc_new _ _) ⟨rfl, (Below.refl _ _).alloc (Nat.le_refl _) _⟩

set_option maxHeartbeats 4000000 in
theorem of_short (s : ByteArray) (w : World) (h : s.size ≤ 60) : Calls Tryz.prog 25 #[.string s] w fun e w' => e = .returned (.agg (cutV (ofS s.data.toList))) ∧ Below w.heap.size w w' := by
  obtain ⟨z1, z2⟩ := kR_one s.data.toList
  have hin : RofIn w ((w.alloc (.cells #[.int .i64 0, .string ⟨#[]⟩, .string ⟨#[]⟩, .bool false] 60)).alloc (.cells #[.int .i64 0, .string ⟨#[]⟩, .string ⟨#[]⟩, .bool false] 60)) (cutV ⟨kR s.data.toList 1, [], [], false⟩) := by
    rw [z1]
    refine ⟨((Below.refl _ _).alloc (Nat.le_refl _) _).alloc (by simp) _, heap_alloc (heap_alloc_new _ _) _, ?_⟩
    rw [show w.heap.size + 1 = (w.alloc (.cells #[.int .i64 0, .string ⟨#[]⟩, .string ⟨#[]⟩, .bool false] 60)).heap.size by simp]
    exact heap_alloc_new _ _
  have HIN := Lib.hid hin; clear hin z1
  have Z2 := Lib.hid z2; clear z2
  go_enter Tryz.func25, Tryz.ntmps25
  go_wp2_with fail
  generalize (w.alloc (.cells #[.int .i64 0, .string ⟨#[]⟩, .string ⟨#[]⟩, .bool false] 60)).alloc (.cells #[.int .i64 0, .string ⟨#[]⟩, .string ⟨#[]⟩, .bool false] 60) = w1 at *
  go_loopg [4, 5] 6 (fun f rest i wr => ∃ k : Nat, 1 ≤ k ∧ k ≤ 5 ∧ 5 - k < f ∧ i = .int .i64 k ∧ rest = .string ⟨(rR s.data.toList k).toArray⟩ ∧ Hid (RofIn w wr (cutV ⟨kR s.data.toList k, [], [], false⟩)))
  case atStart => exact ⟨1, by omega, by omega, by omega, rfl, by rw [Z2.out], HIN⟩
  case round =>
    obtain ⟨k, h1k, hk5, hf, rfl, rfl, HI⟩ := hrel
    by_cases hk4 : k ≤ 4
    · obtain ⟨F, hF⟩ : ∃ F : ByteArray, F = ⟨(sufS k).toArray⟩ := ⟨_, rfl⟩
      have HS := Lib.hid (suffix1_any (k : Int) wr (sufS k) (sufJ_nat k))
      rw [← hF] at HS
      obtain ⟨E, hE⟩ : ∃ E : ByteArray, (⟨#[46]⟩ : ByteArray) ++ F = E := ⟨_, rfl⟩
      have hEd : E.data.toList = 46 :: sufS k := by rw [← hE, hF]; simp [ByteArray.data_append]
      have hEz : E.size = (sufS k).length + 1 := by
        have : E.data.toList.length = E.size := by simp
        rw [← this, hEd]; rfl
      have hsl := suf_len k
      have hsz : s.data.toList.length = s.size := by simp
      have hF0 := hF; clear hF
      by_cases hmt : (cutPt s.data.toList).1 ≠ [] ∧ kindOf (cutPt s.data.toList).2 = k
      · have hs := of_match h1k hk4 hmt.1 hmt.2
        obtain ⟨r1, r2⟩ := kR_match h1k hmt.1 hmt.2
        obtain ⟨hd, hhd⟩ : ∃ hd, hd = (cutPt s.data.toList).1 := ⟨_, rfl⟩
        rw [← hhd] at hs r2
        have hdn : 0 < hd.length := List.length_pos_iff.2 (by rw [hhd]; exact hmt.1)
        have hlen : hd.length + E.size = s.size := by rw [← hsz, hs, hEz]; simp
        have x1 : s.extract hd.length s.size = E := by
          apply bytes_ext; rw [Lib.extract_to_end, hs, hEd]; simp
        have x2 : s.extract 0 hd.length = ⟨hd.toArray⟩ := ext_str1 s 0 _ _ (by rw [Lib.extract_data, hs]; simp)
        have n1 : (s.size : Int) - (E.size : Int) = (hd.length : Int) := by omega
        have n2 : (E.size : Int) < (s.size : Int) := by omega
        have n3 : IntKind.i64.wrap (hd.length : Int) = (hd.length : Int) := IntWalk.i64_in _ (by omega)
        have n4 : (hd.length : Int) ≤ (s.size : Int) := by omega
        have X1 := Lib.hid x1; have X2 := Lib.hid x2
        have R1 := Lib.hid r1; have R2 := Lib.hid r2
        have hq : hd.length ≤ s.size := by omega
        have hFz : F.size ≤ 7 := by rw [hF0]; show (sufS k).toArray.size ≤ 7; simpa using hsl
        clear hs hmt hhd hsz hEd x1 x2 r1 r2 hEz hlen hF0
        have h63 : s.size < 100 := by omega
        have q1 : ((s.extract hd.length s.size).toList == E.toList) = true := by rw [X1.out]; simp
        go_wp2_with (go_at_call 43; refine HS.out.mono ?_; rintro e w' ⟨rfl, rfl⟩)
        have e1 := HI.out.cut
        obtain ⟨cc, fc, -, -⟩ := rd e1
        have c0 := cc 0; have f0 := fc 0
        simp only [cutV, List.getElem?_toArray, List.getElem?_cons_zero] at c0
        clear cc fc e1
        go_region_held3 (fun w' => w'.frozen? ⟨w.heap.size + 1, 0, none⟩ = false) (go_keep) (first | fail)
        have hI2 : RofIn w ((wr.setCell ⟨w.heap.size + 1, 0, none⟩ (.int .i64 k)).drew) (cutV ⟨kR s.data.toList (k + 1), [], [], false⟩) := by
          rw [R1.out]; exact (HI.out.set 0 (.int .i64 k)).dn 1
        have HI2 := Lib.hid hI2
        rename_i hHeld
        clear hI2 c0 f0 hHeld
        generalize (wr.setCell ⟨w.heap.size + 1, 0, none⟩ (.int .i64 k)).drew = w2 at *
        go_wp2_with fail
        go_roundg (gk - 1)
        case measure => omega
        case rel => exact ⟨k + 1, by omega, by omega, by omega, by go_num, by rw [X2.out, R2.out], HI2⟩
      · obtain ⟨r1, r2⟩ := kR_no hmt
        have hFz : F.size ≤ 7 := by rw [hF0]; show (sufS k).toArray.size ≤ 7; simpa using hsl
        have HI2 := Lib.hid (show RofIn w wr (cutV ⟨kR s.data.toList (k + 1), [], [], false⟩) by rw [r1]; exact HI.out)
        have R2 := Lib.hid r2
        have h63 : s.size < 100 := by omega
        by_cases hlt2 : E.size < s.size
        · obtain ⟨n, hn⟩ : ∃ n, n + E.size = s.size := ⟨s.size - E.size, by omega⟩
          have hne := of_nomatch h1k hk4 hmt (by rw [hsz]; omega) n (by rw [hsz]; omega)
          have q1 : ((s.extract n s.size).toList == E.toList) = false := by
            rw [beq_eq_false_iff_ne, ByteArray.toList_eq, ByteArray.toList_eq, Lib.extract_to_end, hEd]; exact hne
          have n1 : (s.size : Int) - (E.size : Int) = (n : Int) := by omega
          have n2 : (E.size : Int) < (s.size : Int) := by omega
          have n3 : IntKind.i64.wrap (n : Int) = (n : Int) := IntWalk.i64_in _ (by omega)
          have n4 : (n : Int) ≤ (s.size : Int) := by omega
          clear hmt hsz hEd r1 r2 hEz hne hF0 hn
          go_wp2_with (go_at_call 43; refine HS.out.mono ?_; rintro e w' ⟨rfl, rfl⟩)
          go_roundg (gk - 1)
          case measure => omega
          case rel => exact ⟨k + 1, by omega, by omega, by omega, by go_num, by rw [R2.out], HI2⟩
        · have n2 : ¬ (E.size : Int) < (s.size : Int) := by omega
          clear hmt hsz hEd r1 r2 hEz hF0
          go_wp2_with (go_at_call 43; refine HS.out.mono ?_; rintro e w' ⟨rfl, rfl⟩)
          go_roundg (gk - 1)
          case measure => omega
          case rel => exact ⟨k + 1, by omega, by omega, by omega, by go_num, by rw [R2.out], HI2⟩
    · have hke : k = 5 := by omega
      subst hke
      have hlen60 : s.data.toList.length ≤ 60 := by simpa using h
      rcases kR_end s.data.toList with ⟨k1, k2⟩ | ⟨k1, k2, k3⟩
      · have HZ := Lib.hid (show ofS s.data.toList = cutZ by unfold ofS; rw [if_pos k2])
        have hI := HI.out
        rw [k1] at hI
        obtain ⟨cc, -, -, -⟩ := rd hI.cut
        have c0 := cc 0
        obtain ⟨dd, ff, -, -⟩ := rd hI.zero
        have d0 := dd 0; have d1 := dd 1; have d2 := dd 2; have d3 := dd 3
        have f0 := ff 0; have f1 := ff 1; have f2 := ff 2; have f3 := ff 3
        simp only [cutV, List.getElem?_toArray, List.getElem?_cons_zero, List.getElem?_cons_succ] at c0 d0 d1 d2 d3
        have HI2 := Lib.hid hI
        clear cc dd ff hI k1 k2
        go_wp2_with fail
        refine post_cut rfl rfl rfl (heap_setCell (heap_setCell (heap_setCell (heap_setCell HI2.out.zero 0 _) 1 _) 2 _) 3 _) ⟨?_, ?_⟩
        · rw [HZ.out]; rfl
        · exact (((HI2.out.below.setCell (by simp) _).setCell (by simp) _).setCell (by simp) _).setCell (by simp) _
      · obtain ⟨RB, hRB⟩ : ∃ RB : ByteArray, (⟨(rR s.data.toList 5).toArray⟩ : ByteArray) = RB := ⟨_, rfl⟩
        have hRd : RB.data.toList = (cutPt s.data.toList).1 := by rw [← hRB, k3]
        have hRz : RB.size < 1000 := by
          have h1 : RB.data.toList.length = RB.size := by simp
          have h2 := (cutPt_len s.data.toList).1
          rw [← hRd, h1] at h2
          omega
        have HE := Lib.hid (fun p i f h => of_end hlen60 k1 k2 p i f h)
        have hI := HI.out
        obtain ⟨kd, hkd⟩ : ∃ kd, kd = kR s.data.toList 5 := ⟨_, rfl⟩
        rw [← hkd] at hI k1 HE
        have HRd := Lib.hid hRd
        rw [hRB]
        obtain ⟨cc, ff, -, -⟩ := rd hI.cut
        have c0 := cc 0; have c1 := cc 1; have f1 := ff 1
        simp only [cutV, List.getElem?_toArray, List.getElem?_cons_zero, List.getElem?_cons_succ] at c0 c1
        have k0 : ((kd : Int) == 0) = false := by rw [beq_eq_false_iff_ne]; omega
        have HI2 := Lib.hid (hI.set 1 (.string RB))
        clear cc ff hI k1 k2 k3 hRB hRd hkd HI
        go_wp2_with fail
        generalize wr.setCell ⟨w.heap.size + 1, 1, none⟩ (.string RB) = w2 at *
        have HI3 := Lib.hid (show RofIn w w2 #[.int .i64 kd, .string RB, .string ⟨#[]⟩, .bool false] from HI2.out)
        clear HI2 c0 c1 f1 k0
        go_loop [7] (fun i => ∃ k : Nat, k ≤ RB.size ∧ i = .int .i64 k ∧ Hid ((RB.data.toList.take k).contains 64 = false)) (fun i => RB.size - (intOf i).toNat)
        case atStart => exact ⟨0, Nat.zero_le _, rfl, Lib.hid (by simp)⟩
        case round =>
          clear hk4 h1k hk5 hf
          obtain ⟨k, hk, rfl, Hno⟩ := hrel
          by_cases hlt : k < RB.size
          · have hkl : k < RB.data.toList.length := by simpa using hlt
            have hsn := take_snoc RB.data.toList k hkl
            have hgk : RB.data.toList[k]'hkl = RB[k] := rfl
            rw [hgk] at hsn
            have i5 : (k : Int) < (RB.size : Int) := by omega
            cases hat : ((RB[k].toNat : Int) == 64) with
            | true =>
              have hc : RB[k] = 64 := by
                rw [← UInt8.toNat_inj]
                have := eq_of_beq hat
                have e2 : ((64 : UInt8).toNat : Int) = 64 := rfl
                omega
              have hs : RB.data.toList = RB.data.toList.take k ++ 64 :: RB.data.toList.drop (k + 1) := by
                conv => lhs; rw [← List.take_append_drop k RB.data.toList, List.drop_eq_getElem_cons hkl, hgk, hc]
              have hca := cutAt_here (RB.data.toList.take k) (RB.data.toList.drop (k + 1)) Hno.out
              rw [← hs, HRd.out] at hca
              have HE2 := Lib.hid (HE.out _ _ _ hca)
              obtain ⟨PB, hPB⟩ : ∃ PB : ByteArray, RB.extract 0 k = PB := ⟨_, rfl⟩
              obtain ⟨IB, hIB⟩ : ∃ IB : ByteArray, RB.extract (k + 1) RB.size = IB := ⟨_, rfl⟩
              have hPd : PB.data.toList = RB.data.toList.take k := by rw [← hPB, Lib.extract_data]; simp
              have hId : IB.data.toList = RB.data.toList.drop (k + 1) := by rw [← hIB, Lib.extract_to_end]
              have hPz : PB.size < 1000 := by
                have h1 : PB.data.toList.length = PB.size := by simp
                rw [← h1, hPd, List.length_take]; omega
              have hIz : IB.size < 1000 := by
                have h1 : IB.data.toList.length = IB.size := by simp
                have h2 : RB.data.toList.length = RB.size := by simp
                rw [← h1, hId, List.length_drop, h2]; omega
              rw [HRd.out] at hPd hId
              rw [← hPd, ← hId] at HE2
              have HPd := Lib.hid hPd; have HId := Lib.hid hId
              have i6 : IntKind.i64.wrap ((k : Int) + 1) = (k : Int) + 1 := IntWalk.i64_in _ (by omega)
              have i7 : 0 ≤ (k : Int) + 1 := by omega
              have i8 : ((k : Int) + 1).toNat = k + 1 := by omega
              have i9 : (k : Int) + 1 ≤ (RB.size : Int) := by omega
              have i10 : (k : Int) ≤ (RB.size : Int) := by omega
              obtain ⟨cc, ff, -, -⟩ := rd HI3.out.cut
              have f1 := ff 1; have f2 := ff 2; have f3 := ff 3
              have c1 := cc 1; have c2 := cc 2; have c3 := cc 3
              simp only [List.getElem?_toArray, List.getElem?_cons_zero, List.getElem?_cons_succ] at c1 c2 c3
              have HPB := Lib.hid hPB; have HIB := Lib.hid hIB
              clear cc ff hs hca hc hsn hgk hPd hId hPB hIB
              go_wp2_with fail
              go_region_held3 (fun w' => w'.frozen? ⟨w.heap.size + 1, 1, none⟩ = false ∧ w'.frozen? ⟨w.heap.size + 1, 2, none⟩ = false ∧ w'.frozen? ⟨w.heap.size + 1, 3, none⟩ = false) (go_keep) (first | fail)
              have hI5 : RofIn w (((w2.setCell ⟨w.heap.size + 1, 3, none⟩ (.bool true)).setCell ⟨w.heap.size + 1, 1, none⟩ (.string PB)).setCell ⟨w.heap.size + 1, 2, none⟩ (.string IB)).drew #[.int .i64 kd, .string PB, .string IB, .bool true] := (((HI3.out.set 3 (.bool true)).set 1 (.string PB)).set 2 (.string IB)).dn 1
              have HI5 := Lib.hid hI5
              rename_i hHeld
              clear hI5 hHeld c1 c2 c3 f1 f2 f3
              rw [HPB.out, HIB.out]
              clear HPB HIB
              generalize (((w2.setCell ⟨w.heap.size + 1, 3, none⟩ (.bool true)).setCell ⟨w.heap.size + 1, 1, none⟩ (.string PB)).setCell ⟨w.heap.size + 1, 2, none⟩ (.string IB)).drew = w5 at *
              obtain ⟨cc, -, -, -⟩ := rd HI5.out.cut
              have c0 := cc 0; have c1 := cc 1; have c2 := cc 2; have c3 := cc 3
              obtain ⟨dd, ff, -, -⟩ := rd HI5.out.zero
              have d0 := dd 0; have d1 := dd 1; have d2 := dd 2; have d3 := dd 3
              have f0 := ff 0; have f1 := ff 1; have f2 := ff 2; have f3 := ff 3
              simp only [List.getElem?_toArray, List.getElem?_cons_zero, List.getElem?_cons_succ] at c0 c1 c2 c3 d0 d1 d2 d3
              clear cc dd ff
              by_cases hP0 : PB.size = 0
              · have hPn := str_nil hP0
                have HZ := Lib.hid (show ofS s.data.toList = cutZ from HE2.out.1 (.inl (by rw [hPn])))
                subst hPn
                clear HE2 hP0
                go_wp2_with fail
                refine post_cut rfl rfl rfl (heap_setCell (heap_setCell (heap_setCell (heap_setCell HI5.out.zero 0 _) 1 _) 2 _) 3 _) ⟨?_, ?_⟩
                · rw [HZ.out]; rfl
                · exact (((HI5.out.below.setCell (by simp) _).setCell (by simp) _).setCell (by simp) _).setCell (by simp) _
              · obtain ⟨n1, n2, n3, n4⟩ := str_ne hP0
                have hPne : PB.data.toList ≠ [] := by rw [ByteArray.toList_eq] at n2; exact n2
                obtain ⟨AB, hAB⟩ : ∃ AB : ByteArray, PB ++ IB = AB := ⟨_, rfl⟩
                have hAd : AB.data.toList = PB.data.toList ++ IB.data.toList := by rw [← hAB]; simp [ByteArray.data_append]
                have hAz : AB.size < 2000 := by
                  have h1 : AB.size = PB.size + IB.size := by rw [← hAB, ByteArray.size_append]
                  omega
                have HE3 := Lib.hid (HE2.out.2 hPne)
                have HE4 := Lib.hid (fun q => HE2.out.1 (.inr q))
                rw [← hAd] at HE3 HE4
                clear HE2 hPne hAd
                go_wp2_with fail
                clear hAB
                go_loop [9] (fun i => ∃ j : Nat, j ≤ AB.size ∧ i = .int .i64 j ∧ Hid ((AB.data.toList.take j).all nameC = true)) (fun i => AB.size - (intOf i).toNat)
                case atStart => exact ⟨0, Nat.zero_le _, rfl, Lib.hid (by simp)⟩
                case round =>
                  obtain ⟨j, hj, rfl, Hall⟩ := hrel
                  by_cases hjl : j < AB.size
                  · have hjl2 : j < AB.data.toList.length := by simpa using hjl
                    have hsn := take_snoc AB.data.toList j hjl2
                    have hgj : AB.data.toList[j]'hjl2 = AB[j] := rfl
                    rw [hgj] at hsn
                    have j5 : (j : Int) < (AB.size : Int) := by omega
                    cases hnc : nameC AB[j] with
                    | true =>
                      have HN := Lib.hid (show (AB.data.toList.take (j + 1)).all nameC = true by rw [hsn, List.all_append, Hall.out]; simp [hnc])
                      have HC := Lib.hid (fun W => nameByte_any AB[j] W true hnc)
                      clear hsn hgj hnc
                      go_wp2_with (refine (HC.out _).mono ?_; rintro e w' ⟨rfl, rfl⟩)
                      go_round
                      case rel => exact ⟨j + 1, by omega, by go_num, HN⟩
                      case measure => simp [intOf]; omega
                    | false =>
                      have HZ := Lib.hid (show ofS s.data.toList = cutZ from HE4.out (by
                        unfold nameB; rw [List.all_eq_false]
                        exact ⟨AB[j], by rw [← hgj]; exact List.getElem_mem _, by simp [hnc]⟩))
                      have HC := Lib.hid (fun W => nameByte_any AB[j] W false hnc)
                      clear hsn hgj hnc
                      go_wp2_with (refine (HC.out _).mono ?_; rintro e w' ⟨rfl, rfl⟩)
                      refine post_cut rfl rfl rfl (heap_setCell (heap_setCell (heap_setCell (heap_setCell HI5.out.zero 0 _) 1 _) 2 _) 3 _) ⟨?_, ?_⟩
                      · rw [HZ.out]; rfl
                      · exact (((HI5.out.below.setCell (by simp) _).setCell (by simp) _).setCell (by simp) _).setCell (by simp) _
                  · have HO := Lib.hid (show ofS s.data.toList = _ from HE3.out (by
                      have := Hall.out
                      rw [List.take_of_length_le (by simp; omega)] at this
                      exact this))
                    go_wp2_with fail
                    refine post_cut rfl rfl rfl (heap_setCell (heap_setCell (heap_setCell (heap_setCell HI5.out.zero 0 _) 1 _) 2 _) 3 _) ⟨?_, ?_⟩
                    · rw [HO.out]; rfl
                    · exact (((HI5.out.below.setCell (by simp) _).setCell (by simp) _).setCell (by simp) _).setCell (by simp) _
            | false =>
              have hc : RB[k] ≠ 64 := by
                intro e; rw [e] at hat; exact absurd hat (by decide)
              have HN := Lib.hid (show (RB.data.toList.take (k + 1)).contains 64 = false by
                rw [hsn, List.contains_append, Hno.out]
                simp
                exact fun e => hc e.symm)
              clear hsn hgk hc
              go_wp2_with fail
              go_round
              case rel => exact ⟨k + 1, by omega, by go_num, HN⟩
              case measure => simp [intOf]; omega
          · have hca := cutAt_no RB.data.toList (by
              have := Hno.out
              rw [List.take_of_length_le (by simp; omega)] at this
              exact this)
            rw [HRd.out] at hca
            have HE2 := Lib.hid (HE.out _ _ _ hca)
            rw [← HRd.out] at HE2
            have HI5 := HI3
            clear hca HI3 HE
            obtain ⟨cc, -, -, -⟩ := rd HI5.out.cut
            have c0 := cc 0; have c1 := cc 1; have c2 := cc 2; have c3 := cc 3
            obtain ⟨dd, ff, -, -⟩ := rd HI5.out.zero
            have d0 := dd 0; have d1 := dd 1; have d2 := dd 2; have d3 := dd 3
            have f0 := ff 0; have f1 := ff 1; have f2 := ff 2; have f3 := ff 3
            simp only [List.getElem?_toArray, List.getElem?_cons_zero, List.getElem?_cons_succ] at c0 c1 c2 c3 d0 d1 d2 d3
            clear cc dd ff
            by_cases hP0 : RB.size = 0
            · have hPn := str_nil hP0
              have HZ := Lib.hid (show ofS s.data.toList = cutZ from HE2.out.1 (.inl (by rw [hPn])))
              subst hPn
              clear HE2 hP0
              go_wp2_with fail
              refine post_cut rfl rfl rfl (heap_setCell (heap_setCell (heap_setCell (heap_setCell HI5.out.zero 0 _) 1 _) 2 _) 3 _) ⟨?_, ?_⟩
              · rw [HZ.out]; rfl
              · exact (((HI5.out.below.setCell (by simp) _).setCell (by simp) _).setCell (by simp) _).setCell (by simp) _
            · obtain ⟨n1, n2, n3, n4⟩ := str_ne hP0
              have hPne : RB.data.toList ≠ [] := by rw [ByteArray.toList_eq] at n2; exact n2
              obtain ⟨AB, hAB⟩ : ∃ AB : ByteArray, RB ++ (⟨#[]⟩ : ByteArray) = AB := ⟨_, rfl⟩
              have hAd : AB.data.toList = RB.data.toList ++ [] := by rw [← hAB]; simp [ByteArray.data_append]
              have hAz : AB.size < 2000 := by
                have h1 : AB.size = RB.size + 0 := by rw [← hAB, ByteArray.size_append]; rfl
                omega
              have HE3 := Lib.hid (HE2.out.2 hPne)
              have HE4 := Lib.hid (fun q => HE2.out.1 (.inr q))
              rw [← hAd] at HE3 HE4
              clear HE2 hPne hAd
              go_wp2_with fail
              clear hAB
              go_loop [9] (fun i => ∃ j : Nat, j ≤ AB.size ∧ i = .int .i64 j ∧ Hid ((AB.data.toList.take j).all nameC = true)) (fun i => AB.size - (intOf i).toNat)
              case atStart => exact ⟨0, Nat.zero_le _, rfl, Lib.hid (by simp)⟩
              case round =>
                obtain ⟨j, hj, rfl, Hall⟩ := hrel
                by_cases hjl : j < AB.size
                · have hjl2 : j < AB.data.toList.length := by simpa using hjl
                  have hsn := take_snoc AB.data.toList j hjl2
                  have hgj : AB.data.toList[j]'hjl2 = AB[j] := rfl
                  rw [hgj] at hsn
                  have j5 : (j : Int) < (AB.size : Int) := by omega
                  cases hnc : nameC AB[j] with
                  | true =>
                    have HN := Lib.hid (show (AB.data.toList.take (j + 1)).all nameC = true by rw [hsn, List.all_append, Hall.out]; simp [hnc])
                    have HC := Lib.hid (fun W => nameByte_any AB[j] W true hnc)
                    clear hsn hgj hnc
                    go_wp2_with (refine (HC.out _).mono ?_; rintro e w' ⟨rfl, rfl⟩)
                    go_round
                    case rel => exact ⟨j + 1, by omega, by go_num, HN⟩
                    case measure => simp [intOf]; omega
                  | false =>
                    have HZ := Lib.hid (show ofS s.data.toList = cutZ from HE4.out (by
                      unfold nameB; rw [List.all_eq_false]
                      exact ⟨AB[j], by rw [← hgj]; exact List.getElem_mem _, by simp [hnc]⟩))
                    have HC := Lib.hid (fun W => nameByte_any AB[j] W false hnc)
                    clear hsn hgj hnc
                    go_wp2_with (refine (HC.out _).mono ?_; rintro e w' ⟨rfl, rfl⟩)
                    refine post_cut rfl rfl rfl (heap_setCell (heap_setCell (heap_setCell (heap_setCell HI5.out.zero 0 _) 1 _) 2 _) 3 _) ⟨?_, ?_⟩
                    · rw [HZ.out]; rfl
                    · exact (((HI5.out.below.setCell (by simp) _).setCell (by simp) _).setCell (by simp) _).setCell (by simp) _
                · have HO := Lib.hid (show ofS s.data.toList = _ from HE3.out (by
                    have := Hall.out
                    rw [List.take_of_length_le (by simp; omega)] at this
                    exact this))
                  go_wp2_with fail
                  refine post_cut rfl rfl rfl (heap_setCell (heap_setCell (heap_setCell (heap_setCell HI5.out.zero 0 _) 1 _) 2 _) 3 _) ⟨?_, ?_⟩
                  · rw [HO.out]; rfl
                  · exact (((HI5.out.below.setCell (by simp) _).setCell (by simp) _).setCell (by simp) _).setCell (by simp) _
end Go.Proofs.YtcaamakodneplaaGreat

/-
  The reference's May, Make, Change.
-/
namespace Go.Proofs.YtcaamakodneplaaGreat
open Go Go.RowKit
set_option linter.unusedVariables false
set_option maxRecDepth 100000

theorem concat_ok (a b : ByteArray) (h : a.size + b.size < 4611686018427387904) : Op.stringOp .add a b = pure (.string (a ++ b)) := by
  have : ¬ ((a.size + b.size : Nat) : Int) > IntKind.i64.max := by simp [IntKind.max, IntKind.bits, IntKind.signed]; omega
  simp only [Op.stringOp, if_neg this]
theorem of_any (s : ByteArray) (w : World) (c : CutS) (hc : ofS s.data.toList = c) : Calls Tryz.prog 25 #[.string s] w fun e w' => e = .returned (.agg #[.int .i64 c.kind, .string ⟨c.pre.toArray⟩, .string ⟨c.inst.toArray⟩, .bool c.at_]) ∧ Below w.heap.size w w' := by
  subst hc
  by_cases h : s.size ≤ 60
  · exact of_short s w h
  · have hz : ofS s.data.toList = cutZ := by
      have hl : ¬ s.data.toList.length ≤ 60 := by simpa using h
      have : kindS s.data.toList = 0 := by unfold kindS; rw [if_neg (fun q => hl q.1)]
      unfold ofS; rw [if_pos this]
    rw [hz]
    exact of_long s w (by omega)

theorem field_cut (a b c d : Value) (h : a.cells = #[a]) (W : World) : (Instr.field 60 (.agg #[a, b, c, d]) 0).run Tryz.prog W = .ok a W := by
  first | rfl | simp [Instr.field, go_sem, h]
theorem may1_any (s : ByteArray) (w : World) (b : Bool) (hb : decide (kindS s.data.toList ≠ 0) = b) :
    Calls Tryz.prog 24 #[.string s] w fun e w' => e = .returned (.bool b) ∧ Below w.heap.size w w' := by
  have HO := Lib.hid (of_any s w _ rfl)
  have hk := ofS_kind s.data.toList
  have hb' : decide (0 < (ofS s.data.toList).kind) = b := by
    rw [← hb, hk]
    by_cases h : kindS s.data.toList = 0
    · rw [h]; rfl
    · simp [h]; omega
  generalize ofS s.data.toList = c at HO hb'
  clear hb hk
  have hfl := field_cut (.int .i64 c.kind) (.string ⟨c.pre.toArray⟩) (.string ⟨c.inst.toArray⟩) (.bool c.at_) rfl
  go_enter Tryz.func24, Tryz.ntmps24
  go_wp2_with (refine HO.out.mono ?_; rintro e w' ⟨rfl, hb1⟩)
  go_ret
  exact ⟨rfl, hb1⟩

set_option maxHeartbeats 1000000 in
theorem make_any (k : Nat) (P I : ByteArray) (f : Bool) (w : World) (hP : P.size < 1000000) (hI : I.size < 1000000) (T : ByteArray) (hT : T.data.toList = (if f then P.data.toList ++ 64 :: I.data.toList else P.data.toList) ++ 46 :: sufS k) :
    Calls Tryz.prog 108 #[.agg #[.int .i64 k, .string P, .string I, .bool f]] w fun e w' => e = .returned (.string T) ∧ Below w.heap.size w w' := by
  obtain ⟨F, hF⟩ : ∃ F : ByteArray, F = ⟨(sufS k).toArray⟩ := ⟨_, rfl⟩
  have HS := Lib.hid (fun W => suffix1_any (k : Int) W (sufS k) (sufJ_nat k))
  rw [← hF] at HS
  have hFz : F.size ≤ 7 := by rw [hF]; show (sufS k).toArray.size ≤ 7; simpa using suf_len k
  have hFd : F.data.toList = sufS k := by rw [hF]
  have HB := Lib.hid ((Below.refl w.heap.size w).alloc (Nat.le_refl _) (.cells #[.int .i64 k, .string P, .string I, .bool f] 60))
  obtain ⟨cc, -, -, hlt⟩ := rd (heap_alloc_new w (.cells #[.int .i64 k, .string P, .string I, .bool f] 60))
  have c0 := cc 0; have c1 := cc 1; have c2 := cc 2; have c3 := cc 3
  simp only [List.getElem?_toArray, List.getElem?_cons_zero, List.getElem?_cons_succ] at c0 c1 c2 c3
  clear cc hF
  cases f with
  | true =>
    have e1 : P.size + 1 < 2000000 := by omega
    have HT := Lib.hid (show ((P ++ (⟨#[64]⟩ : ByteArray)) ++ I ++ (⟨#[46]⟩ : ByteArray)) ++ F = T by
      apply bytes_ext; rw [hT, ← hFd]; simp [ByteArray.data_append])
    clear hT hFd
    go_enter Tryz.func108, Tryz.ntmps108
    go_wp2_with fail
    generalize w.alloc (.cells #[.int .i64 k, .string P, .string I, .bool true] 60) = w1 at *
    refine region_still (by kernel_rfl) (by kernel_rfl) (fun w2 hw2 => ?_)
    have d0 : w2.cell? ⟨w.heap.size, 0, none⟩ = some (.int .i64 k) := by rw [hw2]; exact c0
    have d1 : w2.cell? ⟨w.heap.size, 1, none⟩ = some (.string P) := by rw [hw2]; exact c1
    have d2 : w2.cell? ⟨w.heap.size, 2, none⟩ = some (.string I) := by rw [hw2]; exact c2
    have HB2 := Lib.hid (show Below w.heap.size w w2 by rw [hw2]; exact HB.out.trans (below_dn ⟨1, rfl⟩))
    clear hw2 c0 c1 c2 c3
    have a1 := concat_ok P ⟨#[64]⟩ (by rw [show (⟨#[64]⟩ : ByteArray).size = 1 from rfl]; omega)
    have z1 : (P ++ (⟨#[64]⟩ : ByteArray)).size = P.size + 1 := by rw [ByteArray.size_append]; rfl
    have a2 := concat_ok (P ++ ⟨#[64]⟩) I (by omega)
    have z2 : ((P ++ (⟨#[64]⟩ : ByteArray)) ++ I).size = P.size + 1 + I.size := by rw [ByteArray.size_append, z1]
    have a3 := concat_ok (P ++ ⟨#[64]⟩ ++ I) ⟨#[46]⟩ (by rw [z2, show (⟨#[46]⟩ : ByteArray).size = 1 from rfl]; omega)
    have z3 : (((P ++ (⟨#[64]⟩ : ByteArray)) ++ I) ++ (⟨#[46]⟩ : ByteArray)).size = P.size + 1 + I.size + 1 := by rw [ByteArray.size_append, z2]; rfl
    have a4 := concat_ok (P ++ ⟨#[64]⟩ ++ I ++ ⟨#[46]⟩) F (by rw [z3]; omega)
    clear z1 z2 z3
    repeat (first
      | still_step
      | (refine wpStill_step (fun K hK => ?_); go_simp; (with_reducible refine ⟨_, Calls.still_of (HS.out _), hK _ ?_⟩); clear hK K))
    refine wpStill_nil ?_
    go_wp2_with fail
    go_ret
    exact ⟨by rw [← HT.out]; rfl, HB2.out⟩
  | false =>
    have HT := Lib.hid (show (P ++ (⟨#[46]⟩ : ByteArray)) ++ F = T by
      apply bytes_ext; rw [hT, ← hFd]; simp [ByteArray.data_append])
    clear hT hFd
    go_enter Tryz.func108, Tryz.ntmps108
    go_wp2_with fail
    generalize w.alloc (.cells #[.int .i64 k, .string P, .string I, .bool false] 60) = w1 at *
    refine region_still (by kernel_rfl) (by kernel_rfl) (fun w2 hw2 => ?_)
    have d0 : w2.cell? ⟨w.heap.size, 0, none⟩ = some (.int .i64 k) := by rw [hw2]; exact c0
    have d1 : w2.cell? ⟨w.heap.size, 1, none⟩ = some (.string P) := by rw [hw2]; exact c1
    have HB2 := Lib.hid (show Below w.heap.size w w2 by rw [hw2]; exact HB.out.trans (below_dn ⟨1, rfl⟩))
    clear hw2 c0 c1 c2 c3
    have a1 := concat_ok P ⟨#[46]⟩ (by rw [show (⟨#[46]⟩ : ByteArray).size = 1 from rfl]; omega)
    have z1 : (P ++ (⟨#[46]⟩ : ByteArray)).size = P.size + 1 := by rw [ByteArray.size_append]; rfl
    have a2 := concat_ok (P ++ ⟨#[46]⟩) F (by omega)
    clear z1
    repeat (first
      | still_step
      | (refine wpStill_step (fun K hK => ?_); go_simp; (with_reducible refine ⟨_, Calls.still_of (HS.out _), hK _ ?_⟩); clear hK K))
    refine wpStill_nil ?_
    go_wp2_with fail
    go_ret
    exact ⟨by rw [← HT.out]; rfl, HB2.out⟩

set_option maxHeartbeats 1000000 in
theorem change1_any (s : ByteArray) (k : Nat) (h1 : 1 ≤ k) (h4 : k ≤ 4) (w : World) (t : Str) (ht : changeS s.data.toList k = t) (hz : s.size < 1000000) :
    Calls Tryz.prog 84 #[.string s, .int .i64 k] w fun e w' => e = .returned (.string ⟨t.toArray⟩) ∧ Below w.heap.size w w' := by
  have HO := Lib.hid (of_any s w _ rfl)
  have hk := ofS_kind s.data.toList
  have hsuf : (sufS k) ≠ [] := by
    match k, h1, h4 with
    | 1, _, _ => decide
    | 2, _, _ => decide
    | 3, _, _ => decide
    | 4, _, _ => decide
  have hmk := fun h => change_make (s := s.data.toList) h k
  have hcl := (cutPt_len s.data.toList).1
  have hal := cutAt_len (cutPt s.data.toList).1
  have hl : s.data.toList.length = s.size := by simp
  unfold changeS at ht
  by_cases h0 : kindS s.data.toList = 0
  · rw [if_neg (fun q => q.1 h0)] at ht
    subst ht
    have e0 : ofS s.data.toList = cutZ := by unfold ofS; rw [if_pos h0]
    rw [e0] at HO
    unfold cutZ at HO
    clear hmk hk hal hcl h0 e0 hsuf
    go_enter Tryz.func84, Tryz.ntmps84
    go_wp2_with (refine HO.out.mono ?_; rintro e w' ⟨rfl, hb1⟩)
    go_ret
    exact ⟨rfl, hb1.alloc hb1.size _⟩
  · obtain ⟨PB, hPB⟩ : ∃ PB : ByteArray, PB = ⟨(ofS s.data.toList).pre.toArray⟩ := ⟨_, rfl⟩
    obtain ⟨IB, hIB⟩ : ∃ IB : ByteArray, IB = ⟨(ofS s.data.toList).inst.toArray⟩ := ⟨_, rfl⟩
    obtain ⟨T, hT⟩ : ∃ T : ByteArray, T = ⟨((cutPt s.data.toList).1 ++ 46 :: sufS k).toArray⟩ := ⟨_, rfl⟩
    have hof : ofS s.data.toList = ⟨kindS s.data.toList, (cutAt (cutPt s.data.toList).1).1, (cutAt (cutPt s.data.toList).1).2.1, (cutAt (cutPt s.data.toList).1).2.2⟩ := by unfold ofS; rw [if_neg h0]
    have zP : PB.size < 1000000 := by rw [hPB]; show (ofS s.data.toList).pre.toArray.size < _; rw [hof]; simp; omega
    have zI : IB.size < 1000000 := by rw [hIB]; show (ofS s.data.toList).inst.toArray.size < _; rw [hof]; simp; omega
    have hmk' := hmk h0
    unfold makeS at hmk'
    have HM := Lib.hid (fun W => make_any k PB IB (ofS s.data.toList).at_ W zP zI T (by rw [hT, hPB, hIB]; exact hmk'.symm))
    rw [← hPB, ← hIB] at HO
    rw [hk] at HO
    have HY := Lib.hid (fun W b hb => may1_any T W b hb)
    have hTd : T.data.toList = (cutPt s.data.toList).1 ++ 46 :: sufS k := by rw [hT]
    rw [hTd] at HY
    have k0 : ((kindS s.data.toList : Int) == 0) = false := by rw [beq_eq_false_iff_ne]; omega
    obtain ⟨F, hF⟩ : ∃ F : ByteArray, F = ⟨(sufS k).toArray⟩ := ⟨_, rfl⟩
    have HS := Lib.hid (fun W => suffix1_any (k : Int) W (sufS k) (sufJ_nat k))
    rw [← hF] at HS
    have hFn : F.size ≠ 0 := by
      rw [hF]; show (sufS k).toArray.size ≠ 0; simpa using hsuf
    obtain ⟨n1, n2, n3, n4⟩ := str_ne hFn
    generalize (ofS s.data.toList).at_ = fl at *
    generalize kindS s.data.toList = kd at *
    clear hmk hmk' hk hal hcl hPB hIB hof hsuf hF hl
    cases hmy : decide (kindS ((cutPt s.data.toList).1 ++ 46 :: sufS k) ≠ 0) with
    | false =>
      rw [if_neg (by rintro ⟨_, q⟩; simp at hmy; exact q hmy)] at ht
      subst ht
      have HY2 := Lib.hid (fun W => HY.out W false hmy)
      clear hmy HY hT hTd
      go_enter Tryz.func84, Tryz.ntmps84
      go_wp2_with fail
      refine HO.out.mono ?_
      rintro e w2 ⟨rfl, hb2⟩
      have HC := Lib.hid (heap_alloc_new w2 (.cells #[.int .i64 k, .string PB, .string IB, .bool fl] 60))
      have HB2 := Lib.hid (hb2.alloc hb2.size (.cells #[.int .i64 k, .string PB, .string IB, .bool fl] 60))
      clear hb2
      go_wp2_with ((with_reducible refine (HS.out _).mono ?_); rintro e w' ⟨rfl, rfl⟩)
      generalize w2.alloc (.cells #[.int .i64 k, .string PB, .string IB, .bool fl] 60) = w3 at *
      refine (HM.out _).mono ?_
      rintro e w4 ⟨rfl, hb4⟩
      have HB4 := Lib.hid (Below.more HB2.out hb4)
      have HC4 := Lib.hid ((hb4.block _ (lt_heap HC.out)).trans HC.out)
      clear hb4
      go_wp2_with fail
      refine (HY2.out _).mono ?_
      rintro e w5 ⟨rfl, hb5⟩
      have HB5 := Lib.hid (Below.more HB4.out hb5)
      have hC5 := (hb5.block _ (lt_heap HC4.out)).trans HC4.out
      clear hb5
      obtain ⟨cc, -, -, -⟩ := rd hC5
      have c0 := cc 0; have c1 := cc 1; have c2 := cc 2; have c3 := cc 3
      simp only [List.getElem?_toArray, List.getElem?_cons_zero, List.getElem?_cons_succ] at c0 c1 c2 c3
      clear cc hC5
      go_wp2_with fail
      go_ret
      exact ⟨rfl, HB5.out⟩
    | true =>
      rw [if_pos ⟨h0, by simpa using hmy⟩] at ht
      subst ht
      have HY2 := Lib.hid (fun W => HY.out W true hmy)
      have HT := Lib.hid hT
      clear hmy HY hT hTd
      go_enter Tryz.func84, Tryz.ntmps84
      go_wp2_with fail
      refine HO.out.mono ?_
      rintro e w2 ⟨rfl, hb2⟩
      have HC := Lib.hid (heap_alloc_new w2 (.cells #[.int .i64 k, .string PB, .string IB, .bool fl] 60))
      have HB2 := Lib.hid (hb2.alloc hb2.size (.cells #[.int .i64 k, .string PB, .string IB, .bool fl] 60))
      clear hb2
      go_wp2_with ((with_reducible refine (HS.out _).mono ?_); rintro e w' ⟨rfl, rfl⟩)
      generalize w2.alloc (.cells #[.int .i64 k, .string PB, .string IB, .bool fl] 60) = w3 at *
      refine (HM.out _).mono ?_
      rintro e w4 ⟨rfl, hb4⟩
      have HB4 := Lib.hid (Below.more HB2.out hb4)
      have HC4 := Lib.hid ((hb4.block _ (lt_heap HC.out)).trans HC.out)
      clear hb4
      go_wp2_with fail
      refine (HY2.out _).mono ?_
      rintro e w5 ⟨rfl, hb5⟩
      have HB5 := Lib.hid (Below.more HB4.out hb5)
      have hC5 := (hb5.block _ (lt_heap HC4.out)).trans HC4.out
      clear hb5
      obtain ⟨cc, -, -, -⟩ := rd hC5
      have c0 := cc 0; have c1 := cc 1; have c2 := cc 2; have c3 := cc 3
      simp only [List.getElem?_toArray, List.getElem?_cons_zero, List.getElem?_cons_succ] at c0 c1 c2 c3
      clear cc hC5
      go_wp2_with fail
      refine (HM.out _).mono ?_
      rintro e w6 ⟨rfl, hb6⟩
      have HB6 := Lib.hid (Below.more HB5.out hb6)
      clear hb6
      go_wp2_with fail
      go_ret
      refine ⟨?_, HB6.out⟩
      rw [← HT.out]; rfl
end Go.Proofs.YtcaamakodneplaaGreat

/-
  The reference's May of package matinsref15.
-/
namespace Go.Proofs.YtcaamakodneplaaGreat
open Go Go.RowKit Go.Sort
set_option linter.unusedVariables false
set_option maxRecDepth 100000

/-- What the loops know. -/
def RisesTo {α : Type} (lt : α → α → Bool) (l : List α) (k : Nat) : Prop := ∀ j (h : j + 1 < l.length), j + 1 < k → lt l[j] l[j + 1] = true
theorem RisesTo.one {α : Type} (lt : α → α → Bool) (l : List α) : RisesTo lt l 1 := fun j h h1 => by omega
theorem RisesTo.snoc {α : Type} {lt : α → α → Bool} {l : List α} {k : Nat} (h : RisesTo lt l k) (hk : k < l.length) (h0 : 0 < k) (hlt : lt (l[k - 1]'(by omega)) l[k] = true) : RisesTo lt l (k + 1) := by
  intro j hj hjk
  by_cases q : j + 1 < k
  · exact h j hj q
  · have : j = k - 1 := by omega
    subst this
    have e : k - 1 + 1 = k := by omega
    simp only [e]; exact hlt
theorem RisesTo.whole {α : Type} {lt : α → α → Bool} {l : List α} {k : Nat} (h : RisesTo lt l k) (hk : l.length ≤ k) : risesB lt l = true := (risesB_iff lt l).2 fun j hj => h j hj (by omega)
theorem rises_no {α : Type} {lt : α → α → Bool} {l : List α} {k : Nat} (hk : k < l.length) (h0 : 0 < k) (hlt : lt (l[k - 1]'(by omega)) l[k] = false) : risesB lt l = false := by
  cases hq : risesB lt l with
  | false => rfl
  | true =>
    have := (risesB_iff lt l).1 hq (k - 1) (by omega)
    have e : k - 1 + 1 = k := by omega
    simp only [e] at this
    rw [hlt] at this; cases this
theorem node_cases (x : NodeS) : (((kindS x.name : Int) != x.kind) = true ∧ mayNodeS x = false) ∨ (((kindS x.name : Int) != x.kind) = false ∧ ((x.kind == 0) = true ∧ mayNodeS x = false ∨ (x.kind == 0) = false ∧ (x.state < 1 ∧ mayNodeS x = false ∨ 1 ≤ x.state ∧ (4 < x.state ∧ mayNodeS x = false ∨ x.state ≤ 4 ∧ mayNodeS x = true)))) := by
  unfold mayNodeS
  cases h1 : ((kindS x.name : Int) != x.kind) with
  | true =>
    refine .inl ⟨rfl, ?_⟩
    have : (x.kind == (kindS x.name : Int)) = false := by rw [beq_eq_false_iff_ne]; rw [bne_iff_ne] at h1; exact fun e => h1 e.symm
    rw [this]; simp
  | false =>
    have e1 : (kindS x.name : Int) = x.kind := by simpa using h1
    refine .inr ⟨rfl, ?_⟩
    cases h2 : (x.kind == 0) with
    | true =>
      refine .inl ⟨rfl, ?_⟩
      have : kindS x.name = 0 := by have := eq_of_beq h2; omega
      simp [this]
    | false =>
      refine .inr ⟨rfl, ?_⟩
      have : kindS x.name ≠ 0 := by rw [beq_eq_false_iff_ne] at h2; omega
      by_cases h3 : x.state < 1
      · exact .inl ⟨h3, by simp [e1, this]; omega⟩
      · refine .inr ⟨by omega, ?_⟩
        by_cases h4 : 4 < x.state
        · exact .inl ⟨h4, by simp [e1, this]; omega⟩
        · exact .inr ⟨by omega, by simp [e1, this]; omega⟩
theorem edge_cases2 (ns : List NodeS) (e : EdgeS) : (nodeOf ns e.src = none ∧ mayEdgeS ns e = false) ∨ ∃ a, nodeOf ns e.src = some a ∧ ((nodeOf ns e.dst = none ∧ mayEdgeS ns e = false) ∨ ∃ b, nodeOf ns e.dst = some b ∧
    (((a.state != 1) = true ∧ mayEdgeS ns e = false) ∨ ((a.state != 1) = false ∧ ((e.src == e.dst) = true ∧ mayEdgeS ns e = false ∨ (e.src == e.dst) = false ∧
      (e.rel < 1 ∧ mayEdgeS ns e = false ∨ 1 ≤ e.rel ∧ (10 < e.rel ∧ mayEdgeS ns e = false ∨ e.rel ≤ 10 ∧ mayEdgeS ns e = true)))))) := by
  unfold mayEdgeS
  cases h1 : nodeOf ns e.src with
  | none => exact .inl ⟨rfl, rfl⟩
  | some a =>
    refine .inr ⟨a, rfl, ?_⟩
    cases h2 : nodeOf ns e.dst with
    | none => exact .inl ⟨rfl, by simp⟩
    | some b =>
      refine .inr ⟨b, rfl, ?_⟩
      cases h4 : (a.state != 1) with
      | true =>
        have : (a.state == 1) = false := by simp only [bne, Bool.not_eq_true'] at h4; exact h4
        exact .inl ⟨rfl, by simp [this]⟩
      | false =>
        have h4' : (a.state == 1) = true := by simp only [bne, Bool.not_eq_false'] at h4; exact h4
        refine .inr ⟨rfl, ?_⟩
        cases h3 : (e.src == e.dst) with
        | true => exact .inl ⟨rfl, by simp [bne, h3]⟩
        | false =>
          refine .inr ⟨rfl, ?_⟩
          by_cases h5 : e.rel < 1
          · exact .inl ⟨h5, by simp [bne, h3, h4']; omega⟩
          · refine .inr ⟨by omega, ?_⟩
            by_cases h6 : 10 < e.rel
            · exact .inl ⟨h6, by simp [bne, h3, h4']; omega⟩
            · exact .inr ⟨by omega, by simp [bne, h3, h4']; omega⟩
theorem not_lt_decide {a b : Int} (h : b ≤ a) : decide (a < b) = false := by simp; omega

theorem mayR_long (on oe : Option Addr) (cn ce : Nat) (ns : List NodeS) (es : List EdgeS) (w : World) (h64 : 64 < ns.length) :
    Calls Tryz.prog 17 #[.agg #[.slice on ns.length cn, .slice oe es.length ce]] w fun e w' => e = .returned (.bool false) ∧ Below w.heap.size w w' := by
  have HB := Lib.hid ((Below.refl w.heap.size w).alloc (Nat.le_refl _) (.cells #[.slice on ns.length cn, .slice oe es.length ce] 29))
  have h64' : 64 < (ns.length : Int) := by omega
  go_enter Tryz.func17, Tryz.ntmps17
  go_wp2_with fail
  go_ret
  exact ⟨rfl, HB.out⟩

set_option maxHeartbeats 4000000 in
theorem mayR_any (on oe : Option Addr) (cn ce : Nat) (ns : List NodeS) (es : List EdgeS) (w : World) (hm : MaxAt w) (hn : RowRd encN 3 w on ns) (he : RowRd encE 3 w oe es) (hle : es.length < 1073741824) (h64 : ns.length ≤ 64)
    (r : Bool) (hr : (risesB ltN ns && (risesB ltE es && (ns.all mayNodeS && es.all (mayEdgeS ns)))) = r) :
    Calls Tryz.prog 17 #[.agg #[.slice on ns.length cn, .slice oe es.length ce]] w fun e w' => e = .returned (.bool r) ∧ Below w.heap.size w w' := by
  have hB : Below w.heap.size w (w.alloc (.cells #[.slice on ns.length cn, .slice oe es.length ce] 29)) := (Below.refl _ _).alloc (Nat.le_refl _) _
  have hG : GIn w (w.alloc (.cells #[.slice on ns.length cn, .slice oe es.length ce] 29)) on oe cn ce ns es := ⟨hB, heap_alloc_new w _, hn.below hB, he.below hB, hm.below hB⟩
  have HR := Lib.hid hr
  clear hm hn he hB hr
  go_enter Tryz.func17, Tryz.ntmps17
  go_wp2_with fail
  generalize w.alloc (.cells #[.slice on ns.length cn, .slice oe es.length ce] 29) = w1 at *
  obtain ⟨e0, e1, hlt3⟩ := hG.cells
  have HG3 := Lib.hid hG; clear hG
  go_wp2_with fail
  go_loopg [18] (ns.length + 1) (fun f i wr => ∃ k : Nat, k ≤ ns.length ∧ i = .int .i64 k ∧ ns.length - k < f ∧ Hid ((ns.take k).all mayNodeS = true) ∧ Hid (RisesTo ltN ns k) ∧ Hid (GIn w wr on oe cn ce ns es))
  case atStart => exact ⟨0, by omega, rfl, by omega, Lib.hid (by simp), Lib.hid (fun j h h1 => by omega), HG3⟩
  case round =>
    obtain ⟨k, hk, rfl, hfu, Hall, Hri, HGr⟩ := hrel
    clear e0 e1 hlt3
    obtain ⟨e0, e1, hlt3⟩ := HGr.out.cells
    by_cases hlt : k < ns.length
    · obtain ⟨b, o, rfl, hblt, hcc⟩ := HGr.out.nodes k hlt
      obtain ⟨x, hx⟩ : ∃ x, x = ns[k] := ⟨_, rfl⟩
      rw [← hx] at hcc
      have d0 := hcc 0 _ rfl; have d1 := hcc 1 _ rfl; have d2 := hcc 2 _ rfl
      simp only [Nat.add_zero] at d0
      have i5 : (k : Int) < (ns.length : Int) := by omega
      have HG4 := Lib.hid (HGr.out.alloc (.cells #[.string ⟨x.name.toArray⟩, .int .i64 x.kind, .int .i64 x.state] 32))
      have hN := heap_alloc_new wr (.cells #[.string ⟨x.name.toArray⟩, .int .i64 x.kind, .int .i64 x.state] 32)
      have HN := Lib.hid hN; clear hN
      have HO := Lib.hid (fun W => of_any ⟨x.name.toArray⟩ W _ rfl)
      have hkn : (ofS x.name).kind = kindS x.name := ofS_kind _
      have hno : mayNodeS x = false → r = false := fun h => by
        rw [← HR.out, all_no mayNodeS ns k hlt (by rw [← hx]; exact h)]; simp
      have hyes : mayNodeS x = true → (ns.take (k + 1)).all mayNodeS = true := fun h => take_all_snoc _ ns k hlt Hall.out (by rw [← hx]; exact h)
      have Hno := Lib.hid hno; have Hyes := Lib.hid hyes
      have HC := Lib.hid (node_cases x)
      have hfield := fun W => field_cut (.int .i64 (kindS x.name)) (.string ⟨(ofS x.name).pre.toArray⟩) (.string ⟨(ofS x.name).inst.toArray⟩) (.bool (ofS x.name).at_) rfl W
      have hO : ∀ W : World, Calls Tryz.prog 25 #[.string ⟨x.name.toArray⟩] W fun e w' => e = .returned (.agg #[.int .i64 (kindS x.name), .string ⟨(ofS x.name).pre.toArray⟩, .string ⟨(ofS x.name).inst.toArray⟩, .bool (ofS x.name).at_]) ∧ Below W.heap.size W w' := fun W => by
        have := HO.out W
        rw [show ofS (⟨x.name.toArray⟩ : ByteArray).data.toList = ofS x.name from rfl, hkn] at this
        exact this
      replace HO := Lib.hid hO
      have HX := Lib.hid hx
      clear hno hyes hcc hO hkn hx
      go_wp2_with fail
      generalize hRe : wr.heap.size = RE at *
      generalize wr.alloc (.cells #[.string ⟨x.name.toArray⟩, .int .i64 x.kind, .int .i64 x.state] 32) = w4 at *
      obtain ⟨f, -, -, hltE⟩ := rd HN.out
      have f0 := f 0; have f1 := f 1; have f2 := f 2
      simp only [List.getElem?_toArray, List.getElem?_cons_zero, List.getElem?_cons_succ] at f0 f1 f2
      obtain ⟨g0, g1, -⟩ := HG4.out.cells
      have k0 := cell_regrown f0; have k1 := cell_regrown f1; have k2 := cell_regrown f2; have k3 := cell_regrown g0
      have cO : ∀ d os, Calls Tryz.prog 25 #[.string ⟨x.name.toArray⟩] (grow (redrawn w4 d) os) fun e w'' => e = .returned (.agg #[.int .i64 (kindS x.name), .string ⟨(ofS x.name).pre.toArray⟩, .string ⟨(ofS x.name).inst.toArray⟩, .bool (ofS x.name).at_]) ∧ ∃ p : Regrown, w'' = grow (redrawn w4 p.d) p.os := fun d os => Calls.regrown_of (HO.out _)
      clear f f0 f1 f2 g0 g1 e0 e1 d0 d1 d2 hRe
      generalize kindS x.name = kd at *
      generalize (ofS x.name).pre = p1 at *
      generalize (ofS x.name).inst = p2 at *
      generalize (ofS x.name).at_ = p3 at *
      rcases HC.out with ⟨h1, hr1⟩ | ⟨h1, ⟨h2, hr1⟩ | ⟨h2, ⟨h3, hr1⟩ | ⟨h3, ⟨h4, hr1⟩ | ⟨h4, hr1⟩⟩⟩⟩
      · have HF := Lib.hid (Hno.out hr1)
        clear HC Hno Hyes hr1
        refine wp_region_quiet_below (by kernel_rfl) (by kernel_rfl) ?_
        repeat (go_big_quiet_step (first | exact cO _ _))
        refine wpQuiet_nil ?_
        intro _ hw'
        obtain ⟨⟨dq, osq⟩, hw''⟩ := hw'
        subst hw''
        have HG5 := Lib.hid (HG4.out.more (below_regrown w4 dq osq))
        clear k0 k1 k2 k3 cO hfield
        generalize grow (redrawn w4 dq) osq = w5 at *
        go_wp2_with fail
        go_ret
        exact ⟨ret_bool HF.out.symm, HG5.out.below⟩
      · have HF := Lib.hid (Hno.out hr1)
        clear HC Hno Hyes hr1
        refine wp_region_quiet_below (by kernel_rfl) (by kernel_rfl) ?_
        repeat (go_big_quiet_step (first | exact cO _ _))
        refine wpQuiet_nil ?_
        intro _ hw'
        obtain ⟨⟨dq, osq⟩, hw''⟩ := hw'
        subst hw''
        have HG5 := Lib.hid (HG4.out.more (below_regrown w4 dq osq))
        clear k0 k1 k2 k3 cO hfield
        generalize grow (redrawn w4 dq) osq = w5 at *
        go_wp2_with fail
        go_ret
        exact ⟨ret_bool HF.out.symm, HG5.out.below⟩
      · have HF := Lib.hid (Hno.out hr1)
        have q3 : decide (x.state < 1) = true := by simpa using h3
        clear HC Hno Hyes hr1
        refine wp_region_quiet_below (by kernel_rfl) (by kernel_rfl) ?_
        repeat (go_big_quiet_step (first | exact cO _ _))
        refine wpQuiet_nil ?_
        intro _ hw'
        obtain ⟨⟨dq, osq⟩, hw''⟩ := hw'
        subst hw''
        have HG5 := Lib.hid (HG4.out.more (below_regrown w4 dq osq))
        clear k0 k1 k2 k3 cO hfield
        generalize grow (redrawn w4 dq) osq = w5 at *
        go_wp2_with fail
        go_ret
        exact ⟨ret_bool HF.out.symm, HG5.out.below⟩
      · have HF := Lib.hid (Hno.out hr1)
        have q3 : decide (x.state < 1) = false := by simp; omega
        have q4 : decide (4 < x.state) = true := by simpa using h4
        clear HC Hno Hyes hr1
        refine wp_region_quiet_below (by kernel_rfl) (by kernel_rfl) ?_
        repeat (go_big_quiet_step (first | exact cO _ _))
        refine wpQuiet_nil ?_
        intro _ hw'
        obtain ⟨⟨dq, osq⟩, hw''⟩ := hw'
        subst hw''
        have HG5 := Lib.hid (HG4.out.more (below_regrown w4 dq osq))
        clear k0 k1 k2 k3 cO hfield
        generalize grow (redrawn w4 dq) osq = w5 at *
        go_wp2_with fail
        go_ret
        exact ⟨ret_bool HF.out.symm, HG5.out.below⟩
      · have HF := Lib.hid (Hyes.out hr1)
        by_cases hk0 : k = 0
        · subst hk0
          have HRI := Lib.hid (RisesTo.one ltN ns)
          have q3 : decide (x.state < 1) = false := by simp; omega
          have q4 : decide (4 < x.state) = false := by simp; omega
          have q5 : decide ((0 : Int) < ((0 : Nat) : Int)) = false := by decide
          clear HC Hno Hyes hr1
          refine wp_region_quiet_below (by kernel_rfl) (by kernel_rfl) ?_
          repeat (go_big_quiet_step (first | exact cO _ _))
          refine wpQuiet_nil ?_
          intro _ hw'
          obtain ⟨⟨dq, osq⟩, hw''⟩ := hw'
          subst hw''
          have HG5 := Lib.hid (HG4.out.more (below_regrown w4 dq osq))
          clear k0 k1 k2 k3 cO hfield
          generalize grow (redrawn w4 dq) osq = w5 at *
          go_wp2_with fail
          go_roundg (gk - 1)
          case measure => omega
          case rel => exact ⟨1, by omega, by go_num, by omega, HF, HRI, HG5⟩
        · obtain ⟨b2, o2, e3, hblt2, hcc2⟩ := HG4.out.nodes (k - 1) (by omega)
          injection e3 with e3
          injection e3 with e4 e5 e6
          subst e4; subst e5
          obtain ⟨y, hy⟩ : ∃ y, y = ns[k - 1]'(by omega) := ⟨_, rfl⟩
          rw [← hy] at hcc2
          have p0 := hcc2 0 _ rfl
          simp only [Nat.add_zero] at p0
          have kp := cell_regrown p0
          clear hcc2 p0
          have q5 : decide ((0 : Int) < (k : Int)) = true := by simp; omega
          have q5n : decide (0 < k) = true := by simp; omega
          have j1 : IntKind.i64.wrap ((k : Int) - 1) = (k : Int) - 1 := IntWalk.i64_in _ (by omega)
          have j2 : 0 ≤ (k : Int) - 1 := by omega
          have j3 : ((k : Int) - 1).toNat = k - 1 := by omega
          have j4 : (k : Int) - 1 < (ns.length : Int) := by omega
          have q3 : decide (x.state < 1) = false := by simp; omega
          have q4 : decide (4 < x.state) = false := by simp; omega
          cases hyx : ltN y x with
          | true =>
            have HRI := Lib.hid (Hri.out.snoc hlt (by omega) (by rw [← hy, ← HX.out]; exact hyx))
            have q6 : Op.bytesLess y.name x.name = true := hyx
            clear HC Hno Hyes hr1 hy hyx
            refine wp_region_quiet_below (by kernel_rfl) (by kernel_rfl) ?_
            repeat (go_big_quiet_step (first | exact cO _ _))
            refine wpQuiet_nil ?_
            intro _ hw'
            obtain ⟨⟨dq, osq⟩, hw''⟩ := hw'
            subst hw''
            have HG5 := Lib.hid (HG4.out.more (below_regrown w4 dq osq))
            clear k0 k1 k2 k3 cO hfield
            generalize grow (redrawn w4 dq) osq = w5 at *
            go_wp2_with fail
            go_roundg (gk - 1)
            case measure => omega
            case rel => exact ⟨k + 1, by omega, by go_num, by omega, HF, HRI, HG5⟩
          | false =>
            replace HF := Lib.hid (show r = false by rw [← HR.out, rises_no hlt (by omega) (by rw [← hy, ← HX.out]; exact hyx)]; simp)
            have q6 : Op.bytesLess y.name x.name = false := hyx
            clear HC Hno Hyes hr1 hy hyx
            refine wp_region_quiet_below (by kernel_rfl) (by kernel_rfl) ?_
            repeat (go_big_quiet_step (first | exact cO _ _))
            refine wpQuiet_nil ?_
            intro _ hw'
            obtain ⟨⟨dq, osq⟩, hw''⟩ := hw'
            subst hw''
            have HG5 := Lib.hid (HG4.out.more (below_regrown w4 dq osq))
            clear k0 k1 k2 k3 cO hfield
            generalize grow (redrawn w4 dq) osq = w5 at *
            go_wp2_with fail
            go_ret
            exact ⟨ret_bool HF.out.symm, HG5.out.below⟩
    · have hke : k = ns.length := by omega
      have HA := Lib.hid (show (risesB ltE es && es.all (mayEdgeS ns)) = r by
        have h1 := Hall.out
        rw [List.take_of_length_le (by omega)] at h1
        rw [← HR.out, h1, Hri.out.whole (by omega)]; rfl)
      clear Hall HR hke Hri
      go_wp2_with fail
      clear e0 e1 hlt3
      go_loopg [65] (es.length + 1) (fun f i wr => ∃ k : Nat, k ≤ es.length ∧ i = .int .i64 k ∧ es.length - k < f ∧ Hid ((es.take k).all (mayEdgeS ns) = true) ∧ Hid (RisesTo ltE es k) ∧ Hid (GIn w wr on oe cn ce ns es))
      case atStart => exact ⟨0, by omega, rfl, by omega, Lib.hid (by simp), Lib.hid (fun j h h1 => by omega), HGr⟩
      case round =>
        clear hk hlt hfu HGr
        obtain ⟨k2, hk, rfl, hfu, Hall, Hri, HGr⟩ := hrel
        obtain ⟨e0, e1, hlt3⟩ := HGr.out.cells
        by_cases hlt : k2 < es.length
        · obtain ⟨b, o, rfl, hblt, hcc⟩ := HGr.out.edges k2 hlt
          obtain ⟨x, hx⟩ : ∃ x, x = es[k2] := ⟨_, rfl⟩
          rw [← hx] at hcc
          have d0 := hcc 0 _ rfl; have d1 := hcc 1 _ rfl; have d2 := hcc 2 _ rfl
          simp only [Nat.add_zero] at d0
          have i5 : (k2 : Int) < (es.length : Int) := by omega
          have HG4 := Lib.hid (HGr.out.alloc (.cells #[.string ⟨x.src.toArray⟩, .string ⟨x.dst.toArray⟩, .int .i64 x.rel] 58))
          have hE : (wr.alloc (.cells #[.string ⟨x.src.toArray⟩, .string ⟨x.dst.toArray⟩, .int .i64 x.rel] 58)).heap[wr.heap.size]? = some (.cells #[.string ⟨x.src.toArray⟩, .string ⟨x.dst.toArray⟩, .int .i64 x.rel] 58 (0, 0)) := heap_alloc_new wr _
          have HE := Lib.hid hE; clear hE
          have HN1 := Lib.hid (fun q (hq : nodeOf ns x.src = q) => nodeR_any on cn ns (.slice (some ⟨b, o, none⟩) es.length ce) rfl ⟨x.src.toArray⟩ (wr.alloc (.cells #[.string ⟨x.src.toArray⟩, .string ⟨x.dst.toArray⟩, .int .i64 x.rel] 58)) HG4.out.nodes (by omega) q hq)
          have HN2 := Lib.hid (fun q (hq : nodeOf ns x.dst = q) W (hW : RowRd encN 3 W on ns) => nodeR_any on cn ns (.slice (some ⟨b, o, none⟩) es.length ce) rfl ⟨x.dst.toArray⟩ W hW (by omega) q hq)
          have HC := Lib.hid (edge_cases2 ns x)
          have hno : mayEdgeS ns x = false → r = false := fun h => by
            rw [← HA.out, all_no _ es k2 hlt (by rw [← hx]; exact h)]; simp
          have hyes : mayEdgeS ns x = true → (es.take (k2 + 1)).all (mayEdgeS ns) = true := fun h => take_all_snoc _ es k2 hlt Hall.out (by rw [← hx]; exact h)
          have Hno := Lib.hid hno; have Hyes := Lib.hid hyes
          have HX := Lib.hid hx
          clear hno hyes hcc hx
          go_wp2_with fail
          generalize wr.alloc (.cells #[.string ⟨x.src.toArray⟩, .string ⟨x.dst.toArray⟩, .int .i64 x.rel] 58) = w4 at *
          generalize hRe : wr.heap.size = RE at *
          clear hRe
          rcases HC.out with ⟨h1, hr1⟩ | ⟨a, h1, ⟨h2, hr1⟩ | ⟨a2, h2, ⟨h3, hr1⟩ | ⟨h3, ⟨h4, hr1⟩ | ⟨h4, ⟨h5, hr1⟩ | ⟨h5, ⟨h6, hr1⟩ | ⟨h6, hr1⟩⟩⟩⟩⟩⟩
          · have HF := Lib.hid (Hno.out hr1)
            cases h2 : nodeOf ns x.dst with
            | none =>
              have HN1' := Lib.hid (show Calls Tryz.prog 15 #[.agg #[.slice on ns.length cn, .slice (some ⟨b, o, none⟩) es.length ce], .string ⟨x.src.toArray⟩] w4 fun e w' => e = .returned (.tuple #[.agg #[.string ⟨#[]⟩, .int .i64 0, .int .i64 0], .bool false]) ∧ Below w4.heap.size w4 w' from HN1.out _ h1)
              have HN2' := Lib.hid (fun W (hW : RowRd encN 3 W on ns) => show Calls Tryz.prog 15 #[.agg #[.slice on ns.length cn, .slice (some ⟨b, o, none⟩) es.length ce], .string ⟨x.dst.toArray⟩] W fun e w' => e = .returned (.tuple #[.agg #[.string ⟨#[]⟩, .int .i64 0, .int .i64 0], .bool false]) ∧ Below W.heap.size W w' from HN2.out _ h2 W hW)
              clear h1 h2 HC Hno Hyes HN1 HN2 hr1
              refine HN1'.out.mono ?_
              rintro e w5 ⟨rfl, hb5⟩
              have HG5 := Lib.hid ((HG4.out.more hb5).alloc (.cells #[.string ⟨#[]⟩, .int .i64 0, .int .i64 0] 32))
              have hE5 := heap_alloc ((hb5.block _ (lt_heap HE.out)).trans HE.out) (.cells #[.string ⟨#[]⟩, .int .i64 0, .int .i64 0] 32)
              have hN5 := heap_alloc_new w5 (.cells #[.string ⟨#[]⟩, .int .i64 0, .int .i64 0] 32)
              have HE5 := Lib.hid hE5; have HN5 := Lib.hid hN5
              obtain ⟨g0, g1, hlt5⟩ := (HG4.out.more hb5).cells
              obtain ⟨f, -, -, hltE⟩ := rd ((hb5.block _ (lt_heap HE.out)).trans HE.out)
              have f0 := f 0; have f1 := f 1; have f2 := f 2
              simp only [List.getElem?_toArray, List.getElem?_cons_zero, List.getElem?_cons_succ] at f0 f1 f2
              clear hb5 hE5 hN5 f
              go_wp2_with fail
              generalize hR5 : w5.heap.size = R5 at *
              clear hR5
              generalize w5.alloc (.cells #[.string ⟨#[]⟩, .int .i64 0, .int .i64 0] 32) = w6 at *
              clear g0 g1 f0 f1 f2
              refine (HN2'.out _ HG5.out.nodes).mono ?_
              rintro e w7 ⟨rfl, hb7⟩
              have HG7 := Lib.hid ((HG5.out.more hb7).alloc (.cells #[.string ⟨#[]⟩, .int .i64 0, .int .i64 0] 32))
              obtain ⟨f, -, -, hltE⟩ := rd (heap_alloc ((hb7.block _ (lt_heap HE5.out)).trans HE5.out) (.cells #[.string ⟨#[]⟩, .int .i64 0, .int .i64 0] 32))
              obtain ⟨g, -, -, hltN⟩ := rd (heap_alloc ((hb7.block _ (lt_heap HN5.out)).trans HN5.out) (.cells #[.string ⟨#[]⟩, .int .i64 0, .int .i64 0] 32))
              have f0 := f 0; have f1 := f 1; have f2 := f 2; have g2 := g 2
              simp only [List.getElem?_toArray, List.getElem?_cons_zero, List.getElem?_cons_succ] at f0 f1 f2 g2
              clear hb7 f g
              go_wp2_with fail
              generalize w7.alloc (.cells #[.string ⟨#[]⟩, .int .i64 0, .int .i64 0] 32) = w8 at *
              obtain ⟨g0, g1, -⟩ := HG7.out.cells
              have k0 := cell_regrown f0; have k1 := cell_regrown f1; have k2' := cell_regrown f2; have k3 := cell_regrown g2; have k4 := cell_regrown g1
              clear f0 f1 f2 g2 g0 g1
              refine wp_region_quiet_below (by kernel_rfl) (by kernel_rfl) ?_
              repeat (go_big_quiet_step (first | fail))
              refine wpQuiet_nil ?_
              intro _ hw'
              obtain ⟨⟨dq, osq⟩, hw''⟩ := hw'
              subst hw''
              have HG9 := Lib.hid (HG7.out.more (below_regrown w8 dq osq))
              clear k0 k1 k2' k3 k4 
              generalize grow (redrawn w8 dq) osq = w9 at *
              go_wp2_with fail
              go_ret
              exact ⟨ret_bool HF.out.symm, HG9.out.below⟩
            | some a2 =>
              have HN1' := Lib.hid (show Calls Tryz.prog 15 #[.agg #[.slice on ns.length cn, .slice (some ⟨b, o, none⟩) es.length ce], .string ⟨x.src.toArray⟩] w4 fun e w' => e = .returned (.tuple #[.agg #[.string ⟨#[]⟩, .int .i64 0, .int .i64 0], .bool false]) ∧ Below w4.heap.size w4 w' from HN1.out _ h1)
              have HN2' := Lib.hid (fun W (hW : RowRd encN 3 W on ns) => show Calls Tryz.prog 15 #[.agg #[.slice on ns.length cn, .slice (some ⟨b, o, none⟩) es.length ce], .string ⟨x.dst.toArray⟩] W fun e w' => e = .returned (.tuple #[.agg #[.string ⟨a2.name.toArray⟩, .int .i64 a2.kind, .int .i64 a2.state], .bool true]) ∧ Below W.heap.size W w' from HN2.out _ h2 W hW)
              clear h1 h2 HC Hno Hyes HN1 HN2 hr1
              refine HN1'.out.mono ?_
              rintro e w5 ⟨rfl, hb5⟩
              have HG5 := Lib.hid ((HG4.out.more hb5).alloc (.cells #[.string ⟨#[]⟩, .int .i64 0, .int .i64 0] 32))
              have hE5 := heap_alloc ((hb5.block _ (lt_heap HE.out)).trans HE.out) (.cells #[.string ⟨#[]⟩, .int .i64 0, .int .i64 0] 32)
              have hN5 := heap_alloc_new w5 (.cells #[.string ⟨#[]⟩, .int .i64 0, .int .i64 0] 32)
              have HE5 := Lib.hid hE5; have HN5 := Lib.hid hN5
              obtain ⟨g0, g1, hlt5⟩ := (HG4.out.more hb5).cells
              obtain ⟨f, -, -, hltE⟩ := rd ((hb5.block _ (lt_heap HE.out)).trans HE.out)
              have f0 := f 0; have f1 := f 1; have f2 := f 2
              simp only [List.getElem?_toArray, List.getElem?_cons_zero, List.getElem?_cons_succ] at f0 f1 f2
              clear hb5 hE5 hN5 f
              go_wp2_with fail
              generalize hR5 : w5.heap.size = R5 at *
              clear hR5
              generalize w5.alloc (.cells #[.string ⟨#[]⟩, .int .i64 0, .int .i64 0] 32) = w6 at *
              clear g0 g1 f0 f1 f2
              refine (HN2'.out _ HG5.out.nodes).mono ?_
              rintro e w7 ⟨rfl, hb7⟩
              have HG7 := Lib.hid ((HG5.out.more hb7).alloc (.cells #[.string ⟨a2.name.toArray⟩, .int .i64 a2.kind, .int .i64 a2.state] 32))
              obtain ⟨f, -, -, hltE⟩ := rd (heap_alloc ((hb7.block _ (lt_heap HE5.out)).trans HE5.out) (.cells #[.string ⟨a2.name.toArray⟩, .int .i64 a2.kind, .int .i64 a2.state] 32))
              obtain ⟨g, -, -, hltN⟩ := rd (heap_alloc ((hb7.block _ (lt_heap HN5.out)).trans HN5.out) (.cells #[.string ⟨a2.name.toArray⟩, .int .i64 a2.kind, .int .i64 a2.state] 32))
              have f0 := f 0; have f1 := f 1; have f2 := f 2; have g2 := g 2
              simp only [List.getElem?_toArray, List.getElem?_cons_zero, List.getElem?_cons_succ] at f0 f1 f2 g2
              clear hb7 f g
              go_wp2_with fail
              generalize w7.alloc (.cells #[.string ⟨a2.name.toArray⟩, .int .i64 a2.kind, .int .i64 a2.state] 32) = w8 at *
              obtain ⟨g0, g1, -⟩ := HG7.out.cells
              have k0 := cell_regrown f0; have k1 := cell_regrown f1; have k2' := cell_regrown f2; have k3 := cell_regrown g2; have k4 := cell_regrown g1
              clear f0 f1 f2 g2 g0 g1
              refine wp_region_quiet_below (by kernel_rfl) (by kernel_rfl) ?_
              repeat (go_big_quiet_step (first | fail))
              refine wpQuiet_nil ?_
              intro _ hw'
              obtain ⟨⟨dq, osq⟩, hw''⟩ := hw'
              subst hw''
              have HG9 := Lib.hid (HG7.out.more (below_regrown w8 dq osq))
              clear k0 k1 k2' k3 k4 
              generalize grow (redrawn w8 dq) osq = w9 at *
              go_wp2_with fail
              go_ret
              exact ⟨ret_bool HF.out.symm, HG9.out.below⟩
          · have HF := Lib.hid (Hno.out hr1)
            have HN1' := Lib.hid (show Calls Tryz.prog 15 #[.agg #[.slice on ns.length cn, .slice (some ⟨b, o, none⟩) es.length ce], .string ⟨x.src.toArray⟩] w4 fun e w' => e = .returned (.tuple #[.agg #[.string ⟨a.name.toArray⟩, .int .i64 a.kind, .int .i64 a.state], .bool true]) ∧ Below w4.heap.size w4 w' from HN1.out _ h1)
            have HN2' := Lib.hid (fun W (hW : RowRd encN 3 W on ns) => show Calls Tryz.prog 15 #[.agg #[.slice on ns.length cn, .slice (some ⟨b, o, none⟩) es.length ce], .string ⟨x.dst.toArray⟩] W fun e w' => e = .returned (.tuple #[.agg #[.string ⟨#[]⟩, .int .i64 0, .int .i64 0], .bool false]) ∧ Below W.heap.size W w' from HN2.out _ h2 W hW)
            clear h1 h2 HC Hno Hyes HN1 HN2 hr1
            refine HN1'.out.mono ?_
            rintro e w5 ⟨rfl, hb5⟩
            have HG5 := Lib.hid ((HG4.out.more hb5).alloc (.cells #[.string ⟨a.name.toArray⟩, .int .i64 a.kind, .int .i64 a.state] 32))
            have hE5 := heap_alloc ((hb5.block _ (lt_heap HE.out)).trans HE.out) (.cells #[.string ⟨a.name.toArray⟩, .int .i64 a.kind, .int .i64 a.state] 32)
            have hN5 := heap_alloc_new w5 (.cells #[.string ⟨a.name.toArray⟩, .int .i64 a.kind, .int .i64 a.state] 32)
            have HE5 := Lib.hid hE5; have HN5 := Lib.hid hN5
            obtain ⟨g0, g1, hlt5⟩ := (HG4.out.more hb5).cells
            obtain ⟨f, -, -, hltE⟩ := rd ((hb5.block _ (lt_heap HE.out)).trans HE.out)
            have f0 := f 0; have f1 := f 1; have f2 := f 2
            simp only [List.getElem?_toArray, List.getElem?_cons_zero, List.getElem?_cons_succ] at f0 f1 f2
            clear hb5 hE5 hN5 f
            go_wp2_with fail
            generalize hR5 : w5.heap.size = R5 at *
            clear hR5
            generalize w5.alloc (.cells #[.string ⟨a.name.toArray⟩, .int .i64 a.kind, .int .i64 a.state] 32) = w6 at *
            clear g0 g1 f0 f1 f2
            refine (HN2'.out _ HG5.out.nodes).mono ?_
            rintro e w7 ⟨rfl, hb7⟩
            have HG7 := Lib.hid ((HG5.out.more hb7).alloc (.cells #[.string ⟨#[]⟩, .int .i64 0, .int .i64 0] 32))
            obtain ⟨f, -, -, hltE⟩ := rd (heap_alloc ((hb7.block _ (lt_heap HE5.out)).trans HE5.out) (.cells #[.string ⟨#[]⟩, .int .i64 0, .int .i64 0] 32))
            obtain ⟨g, -, -, hltN⟩ := rd (heap_alloc ((hb7.block _ (lt_heap HN5.out)).trans HN5.out) (.cells #[.string ⟨#[]⟩, .int .i64 0, .int .i64 0] 32))
            have f0 := f 0; have f1 := f 1; have f2 := f 2; have g2 := g 2
            simp only [List.getElem?_toArray, List.getElem?_cons_zero, List.getElem?_cons_succ] at f0 f1 f2 g2
            clear hb7 f g
            go_wp2_with fail
            generalize w7.alloc (.cells #[.string ⟨#[]⟩, .int .i64 0, .int .i64 0] 32) = w8 at *
            obtain ⟨g0, g1, -⟩ := HG7.out.cells
            have k0 := cell_regrown f0; have k1 := cell_regrown f1; have k2' := cell_regrown f2; have k3 := cell_regrown g2; have k4 := cell_regrown g1
            clear f0 f1 f2 g2 g0 g1
            refine wp_region_quiet_below (by kernel_rfl) (by kernel_rfl) ?_
            repeat (go_big_quiet_step (first | fail))
            refine wpQuiet_nil ?_
            intro _ hw'
            obtain ⟨⟨dq, osq⟩, hw''⟩ := hw'
            subst hw''
            have HG9 := Lib.hid (HG7.out.more (below_regrown w8 dq osq))
            clear k0 k1 k2' k3 k4 
            generalize grow (redrawn w8 dq) osq = w9 at *
            go_wp2_with fail
            go_ret
            exact ⟨ret_bool HF.out.symm, HG9.out.below⟩
          · have HF := Lib.hid (Hno.out hr1)
            have HN1' := Lib.hid (show Calls Tryz.prog 15 #[.agg #[.slice on ns.length cn, .slice (some ⟨b, o, none⟩) es.length ce], .string ⟨x.src.toArray⟩] w4 fun e w' => e = .returned (.tuple #[.agg #[.string ⟨a.name.toArray⟩, .int .i64 a.kind, .int .i64 a.state], .bool true]) ∧ Below w4.heap.size w4 w' from HN1.out _ h1)
            have HN2' := Lib.hid (fun W (hW : RowRd encN 3 W on ns) => show Calls Tryz.prog 15 #[.agg #[.slice on ns.length cn, .slice (some ⟨b, o, none⟩) es.length ce], .string ⟨x.dst.toArray⟩] W fun e w' => e = .returned (.tuple #[.agg #[.string ⟨a2.name.toArray⟩, .int .i64 a2.kind, .int .i64 a2.state], .bool true]) ∧ Below W.heap.size W w' from HN2.out _ h2 W hW)
            clear h1 h2 HC Hno Hyes HN1 HN2 hr1
            refine HN1'.out.mono ?_
            rintro e w5 ⟨rfl, hb5⟩
            have HG5 := Lib.hid ((HG4.out.more hb5).alloc (.cells #[.string ⟨a.name.toArray⟩, .int .i64 a.kind, .int .i64 a.state] 32))
            have hE5 := heap_alloc ((hb5.block _ (lt_heap HE.out)).trans HE.out) (.cells #[.string ⟨a.name.toArray⟩, .int .i64 a.kind, .int .i64 a.state] 32)
            have hN5 := heap_alloc_new w5 (.cells #[.string ⟨a.name.toArray⟩, .int .i64 a.kind, .int .i64 a.state] 32)
            have HE5 := Lib.hid hE5; have HN5 := Lib.hid hN5
            obtain ⟨g0, g1, hlt5⟩ := (HG4.out.more hb5).cells
            obtain ⟨f, -, -, hltE⟩ := rd ((hb5.block _ (lt_heap HE.out)).trans HE.out)
            have f0 := f 0; have f1 := f 1; have f2 := f 2
            simp only [List.getElem?_toArray, List.getElem?_cons_zero, List.getElem?_cons_succ] at f0 f1 f2
            clear hb5 hE5 hN5 f
            go_wp2_with fail
            generalize hR5 : w5.heap.size = R5 at *
            clear hR5
            generalize w5.alloc (.cells #[.string ⟨a.name.toArray⟩, .int .i64 a.kind, .int .i64 a.state] 32) = w6 at *
            clear g0 g1 f0 f1 f2
            refine (HN2'.out _ HG5.out.nodes).mono ?_
            rintro e w7 ⟨rfl, hb7⟩
            have HG7 := Lib.hid ((HG5.out.more hb7).alloc (.cells #[.string ⟨a2.name.toArray⟩, .int .i64 a2.kind, .int .i64 a2.state] 32))
            obtain ⟨f, -, -, hltE⟩ := rd (heap_alloc ((hb7.block _ (lt_heap HE5.out)).trans HE5.out) (.cells #[.string ⟨a2.name.toArray⟩, .int .i64 a2.kind, .int .i64 a2.state] 32))
            obtain ⟨g, -, -, hltN⟩ := rd (heap_alloc ((hb7.block _ (lt_heap HN5.out)).trans HN5.out) (.cells #[.string ⟨a2.name.toArray⟩, .int .i64 a2.kind, .int .i64 a2.state] 32))
            have f0 := f 0; have f1 := f 1; have f2 := f 2; have g2 := g 2
            simp only [List.getElem?_toArray, List.getElem?_cons_zero, List.getElem?_cons_succ] at f0 f1 f2 g2
            clear hb7 f g
            go_wp2_with fail
            generalize w7.alloc (.cells #[.string ⟨a2.name.toArray⟩, .int .i64 a2.kind, .int .i64 a2.state] 32) = w8 at *
            obtain ⟨g0, g1, -⟩ := HG7.out.cells
            have k0 := cell_regrown f0; have k1 := cell_regrown f1; have k2' := cell_regrown f2; have k3 := cell_regrown g2; have k4 := cell_regrown g1
            clear f0 f1 f2 g2 g0 g1
            refine wp_region_quiet_below (by kernel_rfl) (by kernel_rfl) ?_
            repeat (go_big_quiet_step (first | fail))
            refine wpQuiet_nil ?_
            intro _ hw'
            obtain ⟨⟨dq, osq⟩, hw''⟩ := hw'
            subst hw''
            have HG9 := Lib.hid (HG7.out.more (below_regrown w8 dq osq))
            clear k0 k1 k2' k3 k4 
            generalize grow (redrawn w8 dq) osq = w9 at *
            go_wp2_with fail
            go_ret
            exact ⟨ret_bool HF.out.symm, HG9.out.below⟩
          · have HF := Lib.hid (Hno.out hr1)
            have HN1' := Lib.hid (show Calls Tryz.prog 15 #[.agg #[.slice on ns.length cn, .slice (some ⟨b, o, none⟩) es.length ce], .string ⟨x.src.toArray⟩] w4 fun e w' => e = .returned (.tuple #[.agg #[.string ⟨a.name.toArray⟩, .int .i64 a.kind, .int .i64 a.state], .bool true]) ∧ Below w4.heap.size w4 w' from HN1.out _ h1)
            have HN2' := Lib.hid (fun W (hW : RowRd encN 3 W on ns) => show Calls Tryz.prog 15 #[.agg #[.slice on ns.length cn, .slice (some ⟨b, o, none⟩) es.length ce], .string ⟨x.dst.toArray⟩] W fun e w' => e = .returned (.tuple #[.agg #[.string ⟨a2.name.toArray⟩, .int .i64 a2.kind, .int .i64 a2.state], .bool true]) ∧ Below W.heap.size W w' from HN2.out _ h2 W hW)
            clear h1 h2 HC Hno Hyes HN1 HN2 hr1
            refine HN1'.out.mono ?_
            rintro e w5 ⟨rfl, hb5⟩
            have HG5 := Lib.hid ((HG4.out.more hb5).alloc (.cells #[.string ⟨a.name.toArray⟩, .int .i64 a.kind, .int .i64 a.state] 32))
            have hE5 := heap_alloc ((hb5.block _ (lt_heap HE.out)).trans HE.out) (.cells #[.string ⟨a.name.toArray⟩, .int .i64 a.kind, .int .i64 a.state] 32)
            have hN5 := heap_alloc_new w5 (.cells #[.string ⟨a.name.toArray⟩, .int .i64 a.kind, .int .i64 a.state] 32)
            have HE5 := Lib.hid hE5; have HN5 := Lib.hid hN5
            obtain ⟨g0, g1, hlt5⟩ := (HG4.out.more hb5).cells
            obtain ⟨f, -, -, hltE⟩ := rd ((hb5.block _ (lt_heap HE.out)).trans HE.out)
            have f0 := f 0; have f1 := f 1; have f2 := f 2
            simp only [List.getElem?_toArray, List.getElem?_cons_zero, List.getElem?_cons_succ] at f0 f1 f2
            clear hb5 hE5 hN5 f
            go_wp2_with fail
            generalize hR5 : w5.heap.size = R5 at *
            clear hR5
            generalize w5.alloc (.cells #[.string ⟨a.name.toArray⟩, .int .i64 a.kind, .int .i64 a.state] 32) = w6 at *
            clear g0 g1 f0 f1 f2
            refine (HN2'.out _ HG5.out.nodes).mono ?_
            rintro e w7 ⟨rfl, hb7⟩
            have HG7 := Lib.hid ((HG5.out.more hb7).alloc (.cells #[.string ⟨a2.name.toArray⟩, .int .i64 a2.kind, .int .i64 a2.state] 32))
            obtain ⟨f, -, -, hltE⟩ := rd (heap_alloc ((hb7.block _ (lt_heap HE5.out)).trans HE5.out) (.cells #[.string ⟨a2.name.toArray⟩, .int .i64 a2.kind, .int .i64 a2.state] 32))
            obtain ⟨g, -, -, hltN⟩ := rd (heap_alloc ((hb7.block _ (lt_heap HN5.out)).trans HN5.out) (.cells #[.string ⟨a2.name.toArray⟩, .int .i64 a2.kind, .int .i64 a2.state] 32))
            have f0 := f 0; have f1 := f 1; have f2 := f 2; have g2 := g 2
            simp only [List.getElem?_toArray, List.getElem?_cons_zero, List.getElem?_cons_succ] at f0 f1 f2 g2
            clear hb7 f g
            go_wp2_with fail
            generalize w7.alloc (.cells #[.string ⟨a2.name.toArray⟩, .int .i64 a2.kind, .int .i64 a2.state] 32) = w8 at *
            obtain ⟨g0, g1, -⟩ := HG7.out.cells
            have k0 := cell_regrown f0; have k1 := cell_regrown f1; have k2' := cell_regrown f2; have k3 := cell_regrown g2; have k4 := cell_regrown g1
            clear f0 f1 f2 g2 g0 g1
            refine wp_region_quiet_below (by kernel_rfl) (by kernel_rfl) ?_
            repeat (go_big_quiet_step (first | fail))
            refine wpQuiet_nil ?_
            intro _ hw'
            obtain ⟨⟨dq, osq⟩, hw''⟩ := hw'
            subst hw''
            have HG9 := Lib.hid (HG7.out.more (below_regrown w8 dq osq))
            clear k0 k1 k2' k3 k4 
            generalize grow (redrawn w8 dq) osq = w9 at *
            go_wp2_with fail
            go_ret
            exact ⟨ret_bool HF.out.symm, HG9.out.below⟩
          · have HF := Lib.hid (Hno.out hr1)
            have HN1' := Lib.hid (show Calls Tryz.prog 15 #[.agg #[.slice on ns.length cn, .slice (some ⟨b, o, none⟩) es.length ce], .string ⟨x.src.toArray⟩] w4 fun e w' => e = .returned (.tuple #[.agg #[.string ⟨a.name.toArray⟩, .int .i64 a.kind, .int .i64 a.state], .bool true]) ∧ Below w4.heap.size w4 w' from HN1.out _ h1)
            have HN2' := Lib.hid (fun W (hW : RowRd encN 3 W on ns) => show Calls Tryz.prog 15 #[.agg #[.slice on ns.length cn, .slice (some ⟨b, o, none⟩) es.length ce], .string ⟨x.dst.toArray⟩] W fun e w' => e = .returned (.tuple #[.agg #[.string ⟨a2.name.toArray⟩, .int .i64 a2.kind, .int .i64 a2.state], .bool true]) ∧ Below W.heap.size W w' from HN2.out _ h2 W hW)
            have q5 : decide (x.rel < 1) = true := by simpa using h5
            clear h1 h2 HC Hno Hyes HN1 HN2 hr1
            refine HN1'.out.mono ?_
            rintro e w5 ⟨rfl, hb5⟩
            have HG5 := Lib.hid ((HG4.out.more hb5).alloc (.cells #[.string ⟨a.name.toArray⟩, .int .i64 a.kind, .int .i64 a.state] 32))
            have hE5 := heap_alloc ((hb5.block _ (lt_heap HE.out)).trans HE.out) (.cells #[.string ⟨a.name.toArray⟩, .int .i64 a.kind, .int .i64 a.state] 32)
            have hN5 := heap_alloc_new w5 (.cells #[.string ⟨a.name.toArray⟩, .int .i64 a.kind, .int .i64 a.state] 32)
            have HE5 := Lib.hid hE5; have HN5 := Lib.hid hN5
            obtain ⟨g0, g1, hlt5⟩ := (HG4.out.more hb5).cells
            obtain ⟨f, -, -, hltE⟩ := rd ((hb5.block _ (lt_heap HE.out)).trans HE.out)
            have f0 := f 0; have f1 := f 1; have f2 := f 2
            simp only [List.getElem?_toArray, List.getElem?_cons_zero, List.getElem?_cons_succ] at f0 f1 f2
            clear hb5 hE5 hN5 f
            go_wp2_with fail
            generalize hR5 : w5.heap.size = R5 at *
            clear hR5
            generalize w5.alloc (.cells #[.string ⟨a.name.toArray⟩, .int .i64 a.kind, .int .i64 a.state] 32) = w6 at *
            clear g0 g1 f0 f1 f2
            refine (HN2'.out _ HG5.out.nodes).mono ?_
            rintro e w7 ⟨rfl, hb7⟩
            have HG7 := Lib.hid ((HG5.out.more hb7).alloc (.cells #[.string ⟨a2.name.toArray⟩, .int .i64 a2.kind, .int .i64 a2.state] 32))
            obtain ⟨f, -, -, hltE⟩ := rd (heap_alloc ((hb7.block _ (lt_heap HE5.out)).trans HE5.out) (.cells #[.string ⟨a2.name.toArray⟩, .int .i64 a2.kind, .int .i64 a2.state] 32))
            obtain ⟨g, -, -, hltN⟩ := rd (heap_alloc ((hb7.block _ (lt_heap HN5.out)).trans HN5.out) (.cells #[.string ⟨a2.name.toArray⟩, .int .i64 a2.kind, .int .i64 a2.state] 32))
            have f0 := f 0; have f1 := f 1; have f2 := f 2; have g2 := g 2
            simp only [List.getElem?_toArray, List.getElem?_cons_zero, List.getElem?_cons_succ] at f0 f1 f2 g2
            clear hb7 f g
            go_wp2_with fail
            generalize w7.alloc (.cells #[.string ⟨a2.name.toArray⟩, .int .i64 a2.kind, .int .i64 a2.state] 32) = w8 at *
            obtain ⟨g0, g1, -⟩ := HG7.out.cells
            have k0 := cell_regrown f0; have k1 := cell_regrown f1; have k2' := cell_regrown f2; have k3 := cell_regrown g2; have k4 := cell_regrown g1
            clear f0 f1 f2 g2 g0 g1
            refine wp_region_quiet_below (by kernel_rfl) (by kernel_rfl) ?_
            repeat (go_big_quiet_step (first | fail))
            refine wpQuiet_nil ?_
            intro _ hw'
            obtain ⟨⟨dq, osq⟩, hw''⟩ := hw'
            subst hw''
            have HG9 := Lib.hid (HG7.out.more (below_regrown w8 dq osq))
            clear k0 k1 k2' k3 k4 
            generalize grow (redrawn w8 dq) osq = w9 at *
            go_wp2_with fail
            go_ret
            exact ⟨ret_bool HF.out.symm, HG9.out.below⟩
          · have HF := Lib.hid (Hno.out hr1)
            have HN1' := Lib.hid (show Calls Tryz.prog 15 #[.agg #[.slice on ns.length cn, .slice (some ⟨b, o, none⟩) es.length ce], .string ⟨x.src.toArray⟩] w4 fun e w' => e = .returned (.tuple #[.agg #[.string ⟨a.name.toArray⟩, .int .i64 a.kind, .int .i64 a.state], .bool true]) ∧ Below w4.heap.size w4 w' from HN1.out _ h1)
            have HN2' := Lib.hid (fun W (hW : RowRd encN 3 W on ns) => show Calls Tryz.prog 15 #[.agg #[.slice on ns.length cn, .slice (some ⟨b, o, none⟩) es.length ce], .string ⟨x.dst.toArray⟩] W fun e w' => e = .returned (.tuple #[.agg #[.string ⟨a2.name.toArray⟩, .int .i64 a2.kind, .int .i64 a2.state], .bool true]) ∧ Below W.heap.size W w' from HN2.out _ h2 W hW)
            have q5 : decide (x.rel < 1) = false := by simp; omega
            have q6 : decide (10 < x.rel) = true := by simpa using h6
            clear h1 h2 HC Hno Hyes HN1 HN2 hr1
            refine HN1'.out.mono ?_
            rintro e w5 ⟨rfl, hb5⟩
            have HG5 := Lib.hid ((HG4.out.more hb5).alloc (.cells #[.string ⟨a.name.toArray⟩, .int .i64 a.kind, .int .i64 a.state] 32))
            have hE5 := heap_alloc ((hb5.block _ (lt_heap HE.out)).trans HE.out) (.cells #[.string ⟨a.name.toArray⟩, .int .i64 a.kind, .int .i64 a.state] 32)
            have hN5 := heap_alloc_new w5 (.cells #[.string ⟨a.name.toArray⟩, .int .i64 a.kind, .int .i64 a.state] 32)
            have HE5 := Lib.hid hE5; have HN5 := Lib.hid hN5
            obtain ⟨g0, g1, hlt5⟩ := (HG4.out.more hb5).cells
            obtain ⟨f, -, -, hltE⟩ := rd ((hb5.block _ (lt_heap HE.out)).trans HE.out)
            have f0 := f 0; have f1 := f 1; have f2 := f 2
            simp only [List.getElem?_toArray, List.getElem?_cons_zero, List.getElem?_cons_succ] at f0 f1 f2
            clear hb5 hE5 hN5 f
            go_wp2_with fail
            generalize hR5 : w5.heap.size = R5 at *
            clear hR5
            generalize w5.alloc (.cells #[.string ⟨a.name.toArray⟩, .int .i64 a.kind, .int .i64 a.state] 32) = w6 at *
            clear g0 g1 f0 f1 f2
            refine (HN2'.out _ HG5.out.nodes).mono ?_
            rintro e w7 ⟨rfl, hb7⟩
            have HG7 := Lib.hid ((HG5.out.more hb7).alloc (.cells #[.string ⟨a2.name.toArray⟩, .int .i64 a2.kind, .int .i64 a2.state] 32))
            obtain ⟨f, -, -, hltE⟩ := rd (heap_alloc ((hb7.block _ (lt_heap HE5.out)).trans HE5.out) (.cells #[.string ⟨a2.name.toArray⟩, .int .i64 a2.kind, .int .i64 a2.state] 32))
            obtain ⟨g, -, -, hltN⟩ := rd (heap_alloc ((hb7.block _ (lt_heap HN5.out)).trans HN5.out) (.cells #[.string ⟨a2.name.toArray⟩, .int .i64 a2.kind, .int .i64 a2.state] 32))
            have f0 := f 0; have f1 := f 1; have f2 := f 2; have g2 := g 2
            simp only [List.getElem?_toArray, List.getElem?_cons_zero, List.getElem?_cons_succ] at f0 f1 f2 g2
            clear hb7 f g
            go_wp2_with fail
            generalize w7.alloc (.cells #[.string ⟨a2.name.toArray⟩, .int .i64 a2.kind, .int .i64 a2.state] 32) = w8 at *
            obtain ⟨g0, g1, -⟩ := HG7.out.cells
            have k0 := cell_regrown f0; have k1 := cell_regrown f1; have k2' := cell_regrown f2; have k3 := cell_regrown g2; have k4 := cell_regrown g1
            clear f0 f1 f2 g2 g0 g1
            refine wp_region_quiet_below (by kernel_rfl) (by kernel_rfl) ?_
            repeat (go_big_quiet_step (first | fail))
            refine wpQuiet_nil ?_
            intro _ hw'
            obtain ⟨⟨dq, osq⟩, hw''⟩ := hw'
            subst hw''
            have HG9 := Lib.hid (HG7.out.more (below_regrown w8 dq osq))
            clear k0 k1 k2' k3 k4 
            generalize grow (redrawn w8 dq) osq = w9 at *
            go_wp2_with fail
            go_ret
            exact ⟨ret_bool HF.out.symm, HG9.out.below⟩
          · have HF := Lib.hid (Hyes.out hr1)
            by_cases hk0 : k2 = 0
            · subst hk0
              have HRI := Lib.hid (RisesTo.one ltE es)
              have HN1' := Lib.hid (show Calls Tryz.prog 15 #[.agg #[.slice on ns.length cn, .slice (some ⟨b, o, none⟩) es.length ce], .string ⟨x.src.toArray⟩] w4 fun e w' => e = .returned (.tuple #[.agg #[.string ⟨a.name.toArray⟩, .int .i64 a.kind, .int .i64 a.state], .bool true]) ∧ Below w4.heap.size w4 w' from HN1.out _ h1)
              have HN2' := Lib.hid (fun W (hW : RowRd encN 3 W on ns) => show Calls Tryz.prog 15 #[.agg #[.slice on ns.length cn, .slice (some ⟨b, o, none⟩) es.length ce], .string ⟨x.dst.toArray⟩] W fun e w' => e = .returned (.tuple #[.agg #[.string ⟨a2.name.toArray⟩, .int .i64 a2.kind, .int .i64 a2.state], .bool true]) ∧ Below W.heap.size W w' from HN2.out _ h2 W hW)
              have q5 : decide (x.rel < 1) = false := by simp; omega
              have q6 : decide (10 < x.rel) = false := by simp; omega
              have q7 : decide ((0 : Int) < ((0 : Nat) : Int)) = false := by decide
              clear h1 h2 HC Hno Hyes HN1 HN2 hr1
              refine HN1'.out.mono ?_
              rintro e w5 ⟨rfl, hb5⟩
              have HG5 := Lib.hid ((HG4.out.more hb5).alloc (.cells #[.string ⟨a.name.toArray⟩, .int .i64 a.kind, .int .i64 a.state] 32))
              have hE5 := heap_alloc ((hb5.block _ (lt_heap HE.out)).trans HE.out) (.cells #[.string ⟨a.name.toArray⟩, .int .i64 a.kind, .int .i64 a.state] 32)
              have hN5 := heap_alloc_new w5 (.cells #[.string ⟨a.name.toArray⟩, .int .i64 a.kind, .int .i64 a.state] 32)
              have HE5 := Lib.hid hE5; have HN5 := Lib.hid hN5
              obtain ⟨g0, g1, hlt5⟩ := (HG4.out.more hb5).cells
              obtain ⟨f, -, -, hltE⟩ := rd ((hb5.block _ (lt_heap HE.out)).trans HE.out)
              have f0 := f 0; have f1 := f 1; have f2 := f 2
              simp only [List.getElem?_toArray, List.getElem?_cons_zero, List.getElem?_cons_succ] at f0 f1 f2
              clear hb5 hE5 hN5 f
              go_wp2_with fail
              generalize hR5 : w5.heap.size = R5 at *
              clear hR5
              generalize w5.alloc (.cells #[.string ⟨a.name.toArray⟩, .int .i64 a.kind, .int .i64 a.state] 32) = w6 at *
              clear g0 g1 f0 f1 f2
              refine (HN2'.out _ HG5.out.nodes).mono ?_
              rintro e w7 ⟨rfl, hb7⟩
              have HG7 := Lib.hid ((HG5.out.more hb7).alloc (.cells #[.string ⟨a2.name.toArray⟩, .int .i64 a2.kind, .int .i64 a2.state] 32))
              obtain ⟨f, -, -, hltE⟩ := rd (heap_alloc ((hb7.block _ (lt_heap HE5.out)).trans HE5.out) (.cells #[.string ⟨a2.name.toArray⟩, .int .i64 a2.kind, .int .i64 a2.state] 32))
              obtain ⟨g, -, -, hltN⟩ := rd (heap_alloc ((hb7.block _ (lt_heap HN5.out)).trans HN5.out) (.cells #[.string ⟨a2.name.toArray⟩, .int .i64 a2.kind, .int .i64 a2.state] 32))
              have f0 := f 0; have f1 := f 1; have f2 := f 2; have g2 := g 2
              simp only [List.getElem?_toArray, List.getElem?_cons_zero, List.getElem?_cons_succ] at f0 f1 f2 g2
              clear hb7 f g
              go_wp2_with fail
              generalize w7.alloc (.cells #[.string ⟨a2.name.toArray⟩, .int .i64 a2.kind, .int .i64 a2.state] 32) = w8 at *
              obtain ⟨g0, g1, -⟩ := HG7.out.cells
              have k0 := cell_regrown f0; have k1 := cell_regrown f1; have k2' := cell_regrown f2; have k3 := cell_regrown g2; have k4 := cell_regrown g1
              clear f0 f1 f2 g2 g0 g1
              refine wp_region_quiet_below (by kernel_rfl) (by kernel_rfl) ?_
              repeat (go_big_quiet_step (first | fail))
              refine wpQuiet_nil ?_
              intro _ hw'
              obtain ⟨⟨dq, osq⟩, hw''⟩ := hw'
              subst hw''
              have HG9 := Lib.hid (HG7.out.more (below_regrown w8 dq osq))
              clear k0 k1 k2' k3 k4 
              generalize grow (redrawn w8 dq) osq = w9 at *
              go_wp2_with fail
              go_roundg (gk - 1)
              case measure => omega
              case rel => exact ⟨1, by omega, by go_num, by omega, HF, HRI, HG9⟩
            · obtain ⟨y, hy⟩ : ∃ y, y = es[k2 - 1]'(by omega) := ⟨_, rfl⟩
              have HY := Lib.hid hy
              have q7 : decide ((0 : Int) < (k2 : Int)) = true := by simp; omega
              have q7n : decide (0 < k2) = true := by simp; omega
              have j1 : IntKind.i64.wrap ((k2 : Int) - 1) = (k2 : Int) - 1 := IntWalk.i64_in _ (by omega)
              have j2 : 0 ≤ (k2 : Int) - 1 := by omega
              have j3 : ((k2 : Int) - 1).toNat = k2 - 1 := by omega
              have j4 : (k2 : Int) - 1 < (es.length : Int) := by omega
              have q5 : decide (x.rel < 1) = false := by simp; omega
              have q6 : decide (10 < x.rel) = false := by simp; omega
              cases hyx : ltE y x with
              | true =>
                have HRI := Lib.hid (Hri.out.snoc hlt (by omega) (by rw [← hy, ← HX.out]; exact hyx))
                have HL := Lib.hid hyx
                have HN1' := Lib.hid (show Calls Tryz.prog 15 #[.agg #[.slice on ns.length cn, .slice (some ⟨b, o, none⟩) es.length ce], .string ⟨x.src.toArray⟩] w4 fun e w' => e = .returned (.tuple #[.agg #[.string ⟨a.name.toArray⟩, .int .i64 a.kind, .int .i64 a.state], .bool true]) ∧ Below w4.heap.size w4 w' from HN1.out _ h1)
                have HN2' := Lib.hid (fun W (hW : RowRd encN 3 W on ns) => show Calls Tryz.prog 15 #[.agg #[.slice on ns.length cn, .slice (some ⟨b, o, none⟩) es.length ce], .string ⟨x.dst.toArray⟩] W fun e w' => e = .returned (.tuple #[.agg #[.string ⟨a2.name.toArray⟩, .int .i64 a2.kind, .int .i64 a2.state], .bool true]) ∧ Below W.heap.size W w' from HN2.out _ h2 W hW)
                clear h1 h2 HC Hno Hyes HN1 HN2 hr1 hy hyx
                refine HN1'.out.mono ?_
                rintro e w5 ⟨rfl, hb5⟩
                have HG5 := Lib.hid ((HG4.out.more hb5).alloc (.cells #[.string ⟨a.name.toArray⟩, .int .i64 a.kind, .int .i64 a.state] 32))
                have hE5 := heap_alloc ((hb5.block _ (lt_heap HE.out)).trans HE.out) (.cells #[.string ⟨a.name.toArray⟩, .int .i64 a.kind, .int .i64 a.state] 32)
                have hN5 := heap_alloc_new w5 (.cells #[.string ⟨a.name.toArray⟩, .int .i64 a.kind, .int .i64 a.state] 32)
                have HE5 := Lib.hid hE5; have HN5 := Lib.hid hN5
                obtain ⟨g0, g1, hlt5⟩ := (HG4.out.more hb5).cells
                obtain ⟨f, -, -, hltE⟩ := rd ((hb5.block _ (lt_heap HE.out)).trans HE.out)
                have f0 := f 0; have f1 := f 1; have f2 := f 2
                simp only [List.getElem?_toArray, List.getElem?_cons_zero, List.getElem?_cons_succ] at f0 f1 f2
                clear hb5 hE5 hN5 f
                go_wp2_with fail
                generalize hR5 : w5.heap.size = R5 at *
                clear hR5
                generalize w5.alloc (.cells #[.string ⟨a.name.toArray⟩, .int .i64 a.kind, .int .i64 a.state] 32) = w6 at *
                clear g0 g1 f0 f1 f2
                refine (HN2'.out _ HG5.out.nodes).mono ?_
                rintro e w7 ⟨rfl, hb7⟩
                have HG7 := Lib.hid ((HG5.out.more hb7).alloc (.cells #[.string ⟨a2.name.toArray⟩, .int .i64 a2.kind, .int .i64 a2.state] 32))
                obtain ⟨f, -, -, hltE⟩ := rd (heap_alloc ((hb7.block _ (lt_heap HE5.out)).trans HE5.out) (.cells #[.string ⟨a2.name.toArray⟩, .int .i64 a2.kind, .int .i64 a2.state] 32))
                obtain ⟨g, -, -, hltN⟩ := rd (heap_alloc ((hb7.block _ (lt_heap HN5.out)).trans HN5.out) (.cells #[.string ⟨a2.name.toArray⟩, .int .i64 a2.kind, .int .i64 a2.state] 32))
                have f0 := f 0; have f1 := f 1; have f2 := f 2; have g2 := g 2
                simp only [List.getElem?_toArray, List.getElem?_cons_zero, List.getElem?_cons_succ] at f0 f1 f2 g2
                clear hb7 f g
                go_wp2_with fail
                generalize w7.alloc (.cells #[.string ⟨a2.name.toArray⟩, .int .i64 a2.kind, .int .i64 a2.state] 32) = w8 at *
                obtain ⟨g0, g1, -⟩ := HG7.out.cells
                have k0 := cell_regrown f0; have k1 := cell_regrown f1; have k2' := cell_regrown f2; have k3 := cell_regrown g2; have k4 := cell_regrown g1
                obtain ⟨b2, o2, e3, hblt2, hcc2⟩ := HG7.out.edges (k2 - 1) (by omega)
                injection e3 with e3
                injection e3 with e4 e5 e6
                subst e4; subst e5
                rw [← HY.out] at hcc2
                have p0 := cell_regrown (hcc2 0 _ rfl); have p1 := cell_regrown (hcc2 1 _ rfl); have p2 := cell_regrown (hcc2 2 _ rfl)
                simp only [Nat.add_zero] at p0
                clear hcc2
                have cL : ∀ d os, Calls Tryz.prog 41 #[.agg #[.string ⟨y.src.toArray⟩, .string ⟨y.dst.toArray⟩, .int .i64 y.rel], .agg #[.string ⟨x.src.toArray⟩, .string ⟨x.dst.toArray⟩, .int .i64 x.rel]] (grow (redrawn w8 d) os) fun e w'' => e = .returned (.bool true) ∧ ∃ p : Regrown, w'' = grow (redrawn w8 p.d) p.os := fun d os => Calls.regrown_of (less_any y x _ _ HL.out)
                clear f0 f1 f2 g2 g0 g1
                refine wp_region_quiet_below (by kernel_rfl) (by kernel_rfl) ?_
                repeat (go_big_quiet_step (first | exact cL _ _))
                refine wpQuiet_nil ?_
                intro _ hw'
                obtain ⟨⟨dq, osq⟩, hw''⟩ := hw'
                subst hw''
                have HG9 := Lib.hid (HG7.out.more (below_regrown w8 dq osq))
                clear k0 k1 k2' k3 k4 cL p0 p1 p2
                generalize grow (redrawn w8 dq) osq = w9 at *
                go_wp2_with fail
                go_roundg (gk - 1)
                case measure => omega
                case rel => exact ⟨k2 + 1, by omega, by go_num, by omega, HF, HRI, HG9⟩
              | false =>
                replace HF := Lib.hid (show r = false by rw [← HA.out, rises_no hlt (by omega) (by rw [← hy, ← HX.out]; exact hyx)]; simp)
                have HL := Lib.hid hyx
                have HN1' := Lib.hid (show Calls Tryz.prog 15 #[.agg #[.slice on ns.length cn, .slice (some ⟨b, o, none⟩) es.length ce], .string ⟨x.src.toArray⟩] w4 fun e w' => e = .returned (.tuple #[.agg #[.string ⟨a.name.toArray⟩, .int .i64 a.kind, .int .i64 a.state], .bool true]) ∧ Below w4.heap.size w4 w' from HN1.out _ h1)
                have HN2' := Lib.hid (fun W (hW : RowRd encN 3 W on ns) => show Calls Tryz.prog 15 #[.agg #[.slice on ns.length cn, .slice (some ⟨b, o, none⟩) es.length ce], .string ⟨x.dst.toArray⟩] W fun e w' => e = .returned (.tuple #[.agg #[.string ⟨a2.name.toArray⟩, .int .i64 a2.kind, .int .i64 a2.state], .bool true]) ∧ Below W.heap.size W w' from HN2.out _ h2 W hW)
                clear h1 h2 HC Hno Hyes HN1 HN2 hr1 hy hyx
                refine HN1'.out.mono ?_
                rintro e w5 ⟨rfl, hb5⟩
                have HG5 := Lib.hid ((HG4.out.more hb5).alloc (.cells #[.string ⟨a.name.toArray⟩, .int .i64 a.kind, .int .i64 a.state] 32))
                have hE5 := heap_alloc ((hb5.block _ (lt_heap HE.out)).trans HE.out) (.cells #[.string ⟨a.name.toArray⟩, .int .i64 a.kind, .int .i64 a.state] 32)
                have hN5 := heap_alloc_new w5 (.cells #[.string ⟨a.name.toArray⟩, .int .i64 a.kind, .int .i64 a.state] 32)
                have HE5 := Lib.hid hE5; have HN5 := Lib.hid hN5
                obtain ⟨g0, g1, hlt5⟩ := (HG4.out.more hb5).cells
                obtain ⟨f, -, -, hltE⟩ := rd ((hb5.block _ (lt_heap HE.out)).trans HE.out)
                have f0 := f 0; have f1 := f 1; have f2 := f 2
                simp only [List.getElem?_toArray, List.getElem?_cons_zero, List.getElem?_cons_succ] at f0 f1 f2
                clear hb5 hE5 hN5 f
                go_wp2_with fail
                generalize hR5 : w5.heap.size = R5 at *
                clear hR5
                generalize w5.alloc (.cells #[.string ⟨a.name.toArray⟩, .int .i64 a.kind, .int .i64 a.state] 32) = w6 at *
                clear g0 g1 f0 f1 f2
                refine (HN2'.out _ HG5.out.nodes).mono ?_
                rintro e w7 ⟨rfl, hb7⟩
                have HG7 := Lib.hid ((HG5.out.more hb7).alloc (.cells #[.string ⟨a2.name.toArray⟩, .int .i64 a2.kind, .int .i64 a2.state] 32))
                obtain ⟨f, -, -, hltE⟩ := rd (heap_alloc ((hb7.block _ (lt_heap HE5.out)).trans HE5.out) (.cells #[.string ⟨a2.name.toArray⟩, .int .i64 a2.kind, .int .i64 a2.state] 32))
                obtain ⟨g, -, -, hltN⟩ := rd (heap_alloc ((hb7.block _ (lt_heap HN5.out)).trans HN5.out) (.cells #[.string ⟨a2.name.toArray⟩, .int .i64 a2.kind, .int .i64 a2.state] 32))
                have f0 := f 0; have f1 := f 1; have f2 := f 2; have g2 := g 2
                simp only [List.getElem?_toArray, List.getElem?_cons_zero, List.getElem?_cons_succ] at f0 f1 f2 g2
                clear hb7 f g
                go_wp2_with fail
                generalize w7.alloc (.cells #[.string ⟨a2.name.toArray⟩, .int .i64 a2.kind, .int .i64 a2.state] 32) = w8 at *
                obtain ⟨g0, g1, -⟩ := HG7.out.cells
                have k0 := cell_regrown f0; have k1 := cell_regrown f1; have k2' := cell_regrown f2; have k3 := cell_regrown g2; have k4 := cell_regrown g1
                obtain ⟨b2, o2, e3, hblt2, hcc2⟩ := HG7.out.edges (k2 - 1) (by omega)
                injection e3 with e3
                injection e3 with e4 e5 e6
                subst e4; subst e5
                rw [← HY.out] at hcc2
                have p0 := cell_regrown (hcc2 0 _ rfl); have p1 := cell_regrown (hcc2 1 _ rfl); have p2 := cell_regrown (hcc2 2 _ rfl)
                simp only [Nat.add_zero] at p0
                clear hcc2
                have cL : ∀ d os, Calls Tryz.prog 41 #[.agg #[.string ⟨y.src.toArray⟩, .string ⟨y.dst.toArray⟩, .int .i64 y.rel], .agg #[.string ⟨x.src.toArray⟩, .string ⟨x.dst.toArray⟩, .int .i64 x.rel]] (grow (redrawn w8 d) os) fun e w'' => e = .returned (.bool false) ∧ ∃ p : Regrown, w'' = grow (redrawn w8 p.d) p.os := fun d os => Calls.regrown_of (less_any y x _ _ HL.out)
                clear f0 f1 f2 g2 g0 g1
                refine wp_region_quiet_below (by kernel_rfl) (by kernel_rfl) ?_
                repeat (go_big_quiet_step (first | exact cL _ _))
                refine wpQuiet_nil ?_
                intro _ hw'
                obtain ⟨⟨dq, osq⟩, hw''⟩ := hw'
                subst hw''
                have HG9 := Lib.hid (HG7.out.more (below_regrown w8 dq osq))
                clear k0 k1 k2' k3 k4 cL p0 p1 p2
                generalize grow (redrawn w8 dq) osq = w9 at *
                go_wp2_with fail
                go_ret
                exact ⟨ret_bool HF.out.symm, HG9.out.below⟩
        · have HB := Lib.hid (show r = true by
            have h1 := Hall.out
            rw [List.take_of_length_le (by omega)] at h1
            rw [← HA.out, h1, Hri.out.whole (by omega)]; rfl)
          go_wp2_with fail
          go_ret
          exact ⟨ret_bool HB.out.symm, HGr.out.below⟩
theorem gmayR_any (on oe : Option Addr) (cn ce : Nat) (ns : List NodeS) (es : List EdgeS) (w : World) (hm : MaxAt w) (hn : RowRd encN 3 w on ns) (he : RowRd encE 3 w oe es) (hle : es.length < 1073741824)
    (r : Bool) (hr : mayG ns es = r) :
    Calls Tryz.prog 17 #[.agg #[.slice on ns.length cn, .slice oe es.length ce]] w fun e w' => e = .returned (.bool r) ∧ Below w.heap.size w w' := by
  subst hr
  unfold mayG
  by_cases h64 : ns.length ≤ 64
  · rw [decide_eq_true h64]
    exact mayR_any on oe cn ce ns es w hm hn he hle h64 _ (by simp)
  · rw [decide_eq_false h64]
    exact mayR_long on oe cn ce ns es w (by omega)
end Go.Proofs.YtcaamakodneplaaGreat

/-
  Who has a relation is had by whom it has: the plain law.
-/
namespace Go.Proofs.YtcaamakodneplaaGreat
set_option linter.unusedVariables false

theorem rises_of_risesB {α : Type} {lt : α → α → Bool} (h : STO lt) : ∀ l : List α, risesB lt l = true → Rises lt l
  | [], _ => List.Pairwise.nil
  | [a], _ => by simp [Rises]
  | a :: b :: r, hr => by
    simp only [risesB, Bool.and_eq_true] at hr
    have ih := rises_of_risesB h (b :: r) hr.2
    refine List.pairwise_cons.2 ⟨fun y hy => ?_, ih⟩
    rcases List.mem_cons.1 hy with rfl | hy
    · exact hr.1
    · exact h.trans _ _ _ hr.1 ((List.pairwise_cons.1 ih).1 y hy)
theorem len_sortL {α : Type} {lt : α → α → Bool} (h : STO lt) {l : List α} (hn : l.Nodup) : (sortL lt l).length = l.length := by
  rw [← mergeSort_sortL h l hn, List.length_mergeSort]
theorem nodup_map_on {α β : Type} {f : α → β} {l : List α} (hn : l.Nodup) (hf : ∀ a ∈ l, ∀ b ∈ l, f a = f b → a = b) : (l.map f).Nodup := by
  unfold List.Nodup at hn ⊢
  rw [List.pairwise_map]
  exact hn.imp_of_mem fun ha hb hne e => hne (hf _ ha _ hb e)
theorem insL_len {α : Type} (lt : α → α → Bool) (e : α) : ∀ l : List α, (insL lt e l).length ≤ l.length + 1
  | [] => by simp [insL]
  | x :: r => by
    have := insL_len lt e r
    unfold insL
    split
    · simp; omega
    · split <;> simp
theorem foldl_len {α : Type} (lt : α → α → Bool) : ∀ (l acc : List α), (l.foldl (fun acc e => insL lt e acc) acc).length ≤ l.length + acc.length
  | [], acc => by simp
  | x :: r, acc => by
    have h1 := foldl_len lt r (insL lt x acc)
    have h2 := insL_len lt x acc
    simp only [List.foldl_cons, List.length_cons]
    omega
theorem sortL_len {α : Type} (lt : α → α → Bool) (l : List α) : (sortL lt l).length ≤ l.length := by
  have := foldl_len lt l []
  unfold sortL
  simpa using this
theorem rises_of_risesB' : ∀ l : List NodeS, risesB ltN l = true → Rises ltN l
  | [], _ => List.Pairwise.nil
  | [a], _ => by simp [Rises]
  | a :: b :: r, hr => by
    simp only [risesB, Bool.and_eq_true] at hr
    have ih := rises_of_risesB' (b :: r) hr.2
    refine List.pairwise_cons.2 ⟨fun y hy => ?_, ih⟩
    rcases List.mem_cons.1 hy with rfl | hy
    · exact hr.1
    · exact ltS_trans _ _ _ hr.1 ((List.pairwise_cons.1 ih).1 y hy)
theorem out_len {es : List EdgeS} (hn : es.Nodup) (s : Str) (r : Int) : (outS es s r).length = (es.filter fun e => e.src == s && e.rel == r).length := by
  unfold outS
  rw [len_sortL stoS, List.length_map]
  refine nodup_map_on (hn.sublist List.filter_sublist) fun a ha b hb e => ?_
  have h1 := (List.mem_filter.1 ha).2
  have h2 := (List.mem_filter.1 hb).2
  obtain ⟨a1, a2, a3⟩ := a
  obtain ⟨b1, b2, b3⟩ := b
  simp at h1 h2 e ⊢
  exact ⟨h1.1.trans h2.1.symm, e, h1.2.trans h2.2.symm⟩
theorem in_len {es : List EdgeS} (hn : es.Nodup) (s : Str) (r : Int) : (inS es s r).length = (es.filter fun e => e.dst == s && e.rel == r).length := by
  unfold inS
  rw [len_sortL stoS, List.length_map]
  refine nodup_map_on (hn.sublist List.filter_sublist) fun a ha b hb e => ?_
  have h1 := (List.mem_filter.1 ha).2
  have h2 := (List.mem_filter.1 hb).2
  obtain ⟨a1, a2, a3⟩ := a
  obtain ⟨b1, b2, b3⟩ := b
  simp at h1 h2 e ⊢
  exact ⟨e, h1.1.trans h2.1.symm, h1.2.trans h2.2.symm⟩
theorem sum_add {α : Type} (g h : α → Nat) : ∀ l : List α, (l.map fun n => g n + h n).sum = (l.map g).sum + (l.map h).sum
  | [] => rfl
  | a :: r => by simp only [List.map_cons, List.sum_cons, sum_add g h r]; omega
theorem sum_hit (x : Str) (c : Bool) : ∀ l : List Str, (l.map fun n => if (x == n && c) = true then 1 else 0).sum = if c = true then l.count x else 0
  | [] => by simp
  | a :: r => by
    simp only [List.map_cons, List.sum_cons, sum_hit x c r, List.count_cons]
    cases c
    · simp
    · by_cases e : x = a
      · subst e; simp; omega
      · have e2 : (a == x) = false := by simp; exact fun h => e h.symm
        simp [e, e2]
theorem sum_filter (f : EdgeS → Str) (r : Int) {names : List Str} (hn : names.Nodup) : ∀ es : List EdgeS, (∀ e ∈ es, f e ∈ names) →
    (names.map fun n => (es.filter fun e => f e == n && e.rel == r).length).sum = (es.filter fun e => e.rel == r).length
  | [], _ => by simp only [List.filter_nil, List.length_nil]; clear hn; induction names with | nil => rfl | cons a l ih => simp only [List.map_cons, List.sum_cons, ih (by simp)]
  | e :: es, h => by
    have ih := sum_filter f r hn es (fun x hx => h x (by simp [hx]))
    have h1 : ∀ n, ((e :: es).filter fun e => f e == n && e.rel == r).length = (if (f e == n && e.rel == r) = true then 1 else 0) + (es.filter fun e => f e == n && e.rel == r).length := by
      intro n
      rw [List.filter_cons]
      split <;> simp <;> omega
    simp only [h1]
    rw [sum_add, ih, sum_hit, List.filter_cons, hn.count, if_pos (h e (by simp))]
    split <;> simp; omega
def tallyS (ns : List NodeS) (es : List EdgeS) (r : Int) : Int := (ns.map fun n => ((outS es n.name r).length : Int) - ((inS es n.name r).length : Int)).sum
theorem tally_snoc (ns : List NodeS) (es : List EdgeS) (r : Int) (x : NodeS) : tallyS (ns ++ [x]) es r = tallyS ns es r + (outS es x.name r).length - (inS es x.name r).length := by
  unfold tallyS; simp; omega
theorem out_le (es : List EdgeS) (s : Str) (r : Int) : (outS es s r).length ≤ es.length := by
  unfold outS
  refine Nat.le_trans (sortL_len _ _) ?_
  rw [List.length_map]; exact List.length_filter_le ..
theorem in_le (es : List EdgeS) (s : Str) (r : Int) : (inS es s r).length ≤ es.length := by
  unfold inS
  refine Nat.le_trans (sortL_len _ _) ?_
  rw [List.length_map]; exact List.length_filter_le ..
theorem tally_bound (es : List EdgeS) (r : Int) : ∀ ns : List NodeS, -((ns.length * es.length : Nat) : Int) ≤ tallyS ns es r ∧ tallyS ns es r ≤ ((ns.length * es.length : Nat) : Int)
  | [] => by simp [tallyS]
  | x :: l => by
    have ih := tally_bound es r l
    have h1 := out_le es x.name r
    have h2 := in_le es x.name r
    have e : tallyS (x :: l) es r = ((outS es x.name r).length : Int) - ((inS es x.name r).length : Int) + tallyS l es r := rfl
    rw [e, List.length_cons, Nat.succ_mul]
    omega
theorem tally_eq (es : List EdgeS) (r : Int) : ∀ ns : List NodeS, tallyS ns es r = ((ns.map fun n => (outS es n.name r).length).sum : Nat) - ((ns.map fun n => (inS es n.name r).length).sum : Nat)
  | [] => rfl
  | x :: l => by
    have e : tallyS (x :: l) es r = ((outS es x.name r).length : Int) - ((inS es x.name r).length : Int) + tallyS l es r := rfl
    rw [e, tally_eq es r l]
    simp only [List.map_cons, List.sum_cons]
    omega
theorem nodeOf_name {ns : List NodeS} {s : Str} (h : (nodeOf ns s).isSome = true) : s ∈ ns.map (·.name) := by
  unfold nodeOf at h
  rw [List.find?_isSome] at h
  obtain ⟨x, hx, he⟩ := h
  exact List.mem_map.2 ⟨x, hx, by simpa using he⟩
theorem may_facts {ns : List NodeS} {es : List EdgeS} (h : mayG ns es = true) : ns.length ≤ 64 ∧ (ns.map (·.name)).Nodup ∧ es.Nodup ∧ (∀ e ∈ es, e.src ∈ ns.map (·.name)) ∧ (∀ e ∈ es, e.dst ∈ ns.map (·.name)) := by
  unfold mayG at h
  simp only [Bool.and_eq_true, decide_eq_true_eq, List.all_eq_true] at h
  obtain ⟨h1, h2, h3, h4, h5⟩ := h
  have hN : Rises ltN ns := by
    refine rises_of_risesB' ns h2
  refine ⟨h1, ?_, rises_nodup stoE (rises_of_risesB stoE es h3), fun e he => ?_, fun e he => ?_⟩
  · unfold List.Nodup
    rw [List.pairwise_map]
    exact hN.imp fun hab e => by unfold ltN at hab; rw [e, ltS_irrefl] at hab; cases hab
  · have := h5 e he
    unfold mayEdgeS at this
    split at this
    · rename_i a ha; exact nodeOf_name (by rw [ha]; rfl)
    · cases this
  · have := h5 e he
    unfold mayEdgeS at this
    split at this
    · simp only [Bool.and_eq_true] at this; exact nodeOf_name this.1
    · cases this
theorem tally_zero {ns : List NodeS} {es : List EdgeS} (h : mayG ns es = true) (r : Int) : tallyS ns es r = 0 := by
  obtain ⟨_, hn, he, hs, hd⟩ := may_facts h
  rw [tally_eq]
  have h1 := sum_filter (·.src) r hn es hs
  have h2 := sum_filter (·.dst) r hn es hd
  rw [List.map_map] at h1 h2
  have e1 : (ns.map fun n => (outS es n.name r).length) = ns.map ((fun n => (es.filter fun e => e.src == n && e.rel == r).length) ∘ (·.name)) := by
    refine List.map_congr_left fun n _ => ?_
    rw [out_len he]; rfl
  have e2 : (ns.map fun n => (inS es n.name r).length) = ns.map ((fun n => (es.filter fun e => e.dst == n && e.rel == r).length) ∘ (·.name)) := by
    refine List.map_congr_left fun n _ => ?_
    rw [in_len he]; rfl
  rw [e1, e2, h1, h2]
  omega
theorem mirror (es : List EdgeS) (s y : Str) (r : Int) (h : y ∈ outS es s r) : (inS es y r).contains s = true := by
  unfold outS at h
  rw [mem_sortL stoS, List.mem_map] at h
  obtain ⟨e, he, rfl⟩ := h
  obtain ⟨h1, h2⟩ := List.mem_filter.1 he
  simp only [Bool.and_eq_true, beq_iff_eq] at h2
  rw [List.contains_iff_mem]
  unfold inS
  rw [mem_sortL stoS, List.mem_map]
  exact ⟨e, List.mem_filter.2 ⟨h1, by simp [h2.2]⟩, h2.1⟩
end Go.Proofs.YtcaamakodneplaaGreat

/-
  matinslaw15: GraphAsks, walked.
-/
namespace Go.Proofs.YtcaamakodneplaaGreat
open Go Go.RowKit Go.Sort Go.BigFrame
set_option linter.unusedVariables false
set_option linter.unusedSimpArgs false
set_option maxRecDepth 100000

theorem outR_txt (oe : Option Addr) (cap : Nat) (es : List EdgeS) (nv : Value) (s : ByteArray) (rel : Int) (w : World) (hr : RowRd encE 3 w oe es) (hl : es.length < 1073741824) :
    Calls Tryz.prog 20 #[.agg #[nv, .slice oe es.length cap], .string s, .int .i64 rel] w fun e w' => TxtRet w (outS es s.data.toList rel) e w' :=
  (outR_any oe cap es nv s rel w hr hl).mono fun e w' ⟨oa, n, c, he, ha, hb⟩ => ⟨oa, c, by rw [he, ha.len], ha.row, hb⟩
theorem inR_txt (oe : Option Addr) (cap : Nat) (es : List EdgeS) (nv : Value) (s : ByteArray) (rel : Int) (w : World) (hr : RowRd encE 3 w oe es) (hl : es.length < 1073741824) :
    Calls Tryz.prog 22 #[.agg #[nv, .slice oe es.length cap], .string s, .int .i64 rel] w fun e w' => TxtRet w (inS es s.data.toList rel) e w' :=
  (inR_any oe cap es nv s rel w hr hl).mono fun e w' ⟨oa, n, c, he, ha, hb⟩ => ⟨oa, c, by rw [he, ha.len], ha.row, hb⟩
theorem nodeRes_form (q : Option NodeS) : ∃ (x : NodeS) (b : Bool), nodeRes q = .tuple #[.agg #[.string ⟨x.name.toArray⟩, .int .i64 x.kind, .int .i64 x.state], .bool b] := by
  cases q with
  | none => exact ⟨⟨[], 0, 0⟩, false, rfl⟩
  | some x => exact ⟨x, true, rfl⟩
set_option maxHeartbeats 2000000 in
theorem asks_walk (on oe : Option Addr) (cn ce : Nat) (ns : List NodeS) (es : List EdgeS) (s : ByteArray) (rel : Int) (w : World) (hm : MaxAt w) (hn : RowRd encN 3 w on ns) (he : RowRd encE 3 w oe es) (hln : ns.length ≤ 1048576) (hle : es.length ≤ 1048576)
    (hs : ∀ x ∈ ns, NodeSmall x) :
    Calls Tryz.prog 4 #[.agg #[.slice on ns.length cn, .slice oe es.length ce], .string s, .int .i64 rel] w fun e w' => e = .returned (.bool true) ∧ Below w.heap.size w w' := by
  have HM := Lib.hid hm; have HN := Lib.hid hn; have HE := Lib.hid he; have HS := Lib.hid hs
  have HL := Lib.hid (And.intro hln hle)
  clear hm hn he hs hln hle
  go_enter Tryz.func4, Tryz.ntmps4
  go_wp2_with fail
  have HG0 := Lib.hid (heap_alloc_new w (.cells #[.slice on ns.length cn, .slice oe es.length ce] 29))
  have HB0 := Lib.hid ((Below.refl w.heap.size w).alloc (Nat.le_refl _) (.cells #[.slice on ns.length cn, .slice oe es.length ce] 29))
  generalize w.alloc (.cells #[.slice on ns.length cn, .slice oe es.length ce] 29) = w0 at *
  generalize hB : w.heap.size = B at *
  have HBn := Lib.hid hB; clear hB
  refine (shown_any w0 (HM.out.below (by rw [HBn.out]; exact HB0.out))).mono ?_
  rintro e w1 ⟨rfl, hb1⟩
  have HG1 := Lib.hid (heap_below HG0.out hb1)
  have HB1 := Lib.hid (HB0.out.trans (hb1.mono (below_le HB0.out HBn.out)))
  clear hb1 HG0 HB0
  obtain ⟨c0, c1⟩ := cells2 HG1.out
  go_wp2_with fail
  obtain ⟨x, b, hx⟩ := nodeRes_form (nodeOf ns s.data.toList)
  have HX := Lib.hid hx; clear hx
  have HR := Lib.hid (fun V (h : Below B w V) => show RowRd encN 3 V on ns ∧ RowRd encE 3 V oe es ∧ MaxAt V from ⟨HN.out.below (by rw [HBn.out]; exact h), HE.out.below (by rw [HBn.out]; exact h), HM.out.below (by rw [HBn.out]; exact h)⟩)
  clear HN HE HM
  refine (node_any on cn ns _ rfl s w1 (HR.out w1 HB1.out).1 (by have := HL.out.1; omega) _ rfl).mono ?_
  rintro e w2 ⟨rfl, hb2⟩
  rw [HX.out]
  have HG2 := Lib.hid (heap_below HG1.out hb2)
  have HB2 := Lib.hid (HB1.out.trans (hb2.mono (below_le HB1.out HBn.out)))
  clear hb2 HG1 HB1 c0 c1
  obtain ⟨c0, c1⟩ := cells2 HG2.out
  obtain ⟨a0, a1⟩ := cells2_alloc HG2.out (.cells #[.string ⟨x.name.toArray⟩, .int .i64 x.kind, .int .i64 x.state] 32)
  go_wp2_with fail
  have HN1 := Lib.hid (heap_alloc_new w2 (.cells #[.string ⟨x.name.toArray⟩, .int .i64 x.kind, .int .i64 x.state] 32))
  have hb3 := (Below.refl w2.heap.size w2).alloc (Nat.le_refl _) (.cells #[.string ⟨x.name.toArray⟩, .int .i64 x.kind, .int .i64 x.state] 32)
  generalize w2.alloc (.cells #[.string ⟨x.name.toArray⟩, .int .i64 x.kind, .int .i64 x.state] 32) = w3 at *
  have HG3 := Lib.hid (heap_below HG2.out hb3)
  have HB3 := Lib.hid (HB2.out.trans (hb3.mono (below_le HB2.out HBn.out)))
  generalize w2.heap.size = N1 at *
  clear hb3 HG2 HB2 c0 c1 a0 a1
  refine (nodeR_any on cn ns _ rfl s w3 (HR.out w3 HB3.out).1 (by have := HL.out.1; omega) _ rfl).mono ?_
  rintro e w4 ⟨rfl, hb4⟩
  rw [HX.out]
  have HG4 := Lib.hid (heap_below HG3.out hb4)
  have HN4 := Lib.hid (heap_below HN1.out hb4)
  have HB4 := Lib.hid (HB3.out.trans (hb4.mono (below_le HB3.out HBn.out)))
  clear hb4 HG3 HB3 HN1
  go_wp2_with fail
  have HN5 := Lib.hid (heap_alloc_new w4 (.cells #[.string ⟨x.name.toArray⟩, .int .i64 x.kind, .int .i64 x.state] 32))
  have hb5 := (Below.refl w4.heap.size w4).alloc (Nat.le_refl _) (.cells #[.string ⟨x.name.toArray⟩, .int .i64 x.kind, .int .i64 x.state] 32)
  generalize w4.alloc (.cells #[.string ⟨x.name.toArray⟩, .int .i64 x.kind, .int .i64 x.state] 32) = w5 at *
  have HG5 := Lib.hid (heap_below HG4.out hb5)
  have HM5 := Lib.hid (heap_below HN4.out hb5)
  have HB5 := Lib.hid (HB4.out.trans (hb5.mono (below_le HB4.out HBn.out)))
  generalize w4.heap.size = N2 at *
  clear hb5 HG4 HB4 HN4
  obtain ⟨m, hmay⟩ : ∃ m, m = mayG ns es := ⟨_, rfl⟩
  have HMY := Lib.hid hmay; clear hmay
  have HC := Lib.hid (fun V (h : Below w5.heap.size w5 V) => HR.out V (HB5.out.trans (h.mono (below_le HB5.out HBn.out))))
  have k0 := cell_regrown (cells2 HG5.out).1
  have k1 := cell_regrown (cells2 HG5.out).2
  have cA : ∀ d os, Calls Tryz.prog 16 #[.agg #[.slice on ns.length cn, .slice oe es.length ce]] (grow (redrawn w5 d) os) fun e w'' => e = .returned (.bool m) ∧ ∃ p : Regrown, w'' = grow (redrawn w5 p.d) p.os := fun d os => Calls.regrown_of (gmay_any on oe cn ce ns es _ (HC.out _ (below_regrown w5 d os)).2.2 (HC.out _ (below_regrown w5 d os)).1 (HC.out _ (below_regrown w5 d os)).2.1 (by have := HL.out; omega) (by have := HL.out; omega) HS.out m HMY.out.symm)
  have cB : ∀ d os, Calls Tryz.prog 17 #[.agg #[.slice on ns.length cn, .slice oe es.length ce]] (grow (redrawn w5 d) os) fun e w'' => e = .returned (.bool m) ∧ ∃ p : Regrown, w'' = grow (redrawn w5 p.d) p.os := fun d os => Calls.regrown_of (gmayR_any on oe cn ce ns es _ (HC.out _ (below_regrown w5 d os)).2.2 (HC.out _ (below_regrown w5 d os)).1 (HC.out _ (below_regrown w5 d os)).2.1 (by have := HL.out; omega) m HMY.out.symm)
  have hmm : (m != m) = false := by simp
  refine wp_region_quiet_below (by kernel_rfl) (by kernel_rfl) ?_
  repeat (go_big_quiet_step (first | exact cA _ _ | exact cB _ _))
  refine wpQuiet_nil ?_
  intro _ hw'
  obtain ⟨⟨dq, osq⟩, hw''⟩ := hw'
  subst hw''
  have hb6 := below_regrown w5 dq osq
  clear k0 k1 cA cB
  generalize grow (redrawn w5 dq) osq = w6 at *
  have HG6 := Lib.hid (heap_below HG5.out hb6)
  have HM6 := Lib.hid (heap_below HM5.out hb6)
  have HN6 := Lib.hid (heap_below HN5.out hb6)
  have HB6 := Lib.hid (HB5.out.trans (hb6.mono (below_le HB5.out HBn.out)))
  clear hb6 HG5 HM5 HN5 HB5 HC
  obtain ⟨c0, c1⟩ := cells2 HG6.out
  go_wp2_with fail
  refine (gmayR_any on oe cn ce ns es w6 (HR.out w6 HB6.out).2.2 (HR.out w6 HB6.out).1 (HR.out w6 HB6.out).2.1 (by have := HL.out; omega) m HMY.out.symm).mono ?_
  rintro e w7 ⟨rfl, hb7⟩
  have HG7 := Lib.hid (heap_below HG6.out hb7)
  have HM7 := Lib.hid (heap_below HM6.out hb7)
  have HN7 := Lib.hid (heap_below HN6.out hb7)
  have HB7 := Lib.hid (HB6.out.trans (hb7.mono (below_le HB6.out HBn.out)))
  clear hb7 HG6 HM6 HN6 HB6 c0 c1 HMY
  cases m with
  | false =>
    go_wp2_with fail
    go_ret
    exact ⟨rfl, by rw [HBn.out]; exact HB7.out⟩
  | true =>
    go_wp2_with fail
    have HQ := Lib.hid (show ∀ V, Below w7.heap.size w7 V → V.cell? ⟨B, 0, none⟩ = some (.slice on ns.length cn) ∧ V.cell? ⟨B, 1, none⟩ = some (.slice oe es.length ce) ∧ V.cell? ⟨N1, 0, none⟩ = some (.string ⟨x.name.toArray⟩) ∧ V.cell? ⟨N1, 1, none⟩ = some (.int .i64 x.kind) ∧ V.cell? ⟨N1, 2, none⟩ = some (.int .i64 x.state) ∧ V.cell? ⟨N2, 0, none⟩ = some (.string ⟨x.name.toArray⟩) ∧ V.cell? ⟨N2, 1, none⟩ = some (.int .i64 x.kind) ∧ V.cell? ⟨N2, 2, none⟩ = some (.int .i64 x.state) from by
      intro V hV
      obtain ⟨a0, a1⟩ := cells2 (heap_below HG7.out hV)
      obtain ⟨b0, b1, b2⟩ := cells3 (heap_below HM7.out hV)
      obtain ⟨d0, d1, d2⟩ := cells3 (heap_below HN7.out hV)
      exact ⟨a0, a1, b0, b1, b2, d0, d1, d2⟩)
    have HE7 := Lib.hid (HR.out w7 HB7.out).2.1
    have hle := HL.out.2
    have HO1 := Lib.hid (fun V h => gout_txt oe ce es (.slice on ns.length cn) s rel V h (by omega))
    have HO2 := Lib.hid (fun V h => outR_txt oe ce es (.slice on ns.length cn) s rel V h (by omega))
    have HI1 := Lib.hid (fun V h => gin_txt oe ce es (.slice on ns.length cn) s rel V h (by omega))
    have HI2 := Lib.hid (fun V h => inR_txt oe ce es (.slice on ns.length cn) s rel V h (by omega))
    have HLO := Lib.hid (out_le es s.data.toList rel)
    have HLI := Lib.hid (in_le es s.data.toList rel)
    generalize outS es s.data.toList rel = LO at *
    generalize inS es s.data.toList rel = LI at *
    have HSO := Lib.hid (fun oa ob ca cb V h1 h2 => same_b oa ob ca cb LO LO V h1 h2 (by have := HLO.out; unfold maxLen; omega) (by have := HLO.out; unfold maxLen; omega) true (sameB_self LO))
    have HSI := Lib.hid (fun oa ob ca cb V h1 h2 => same_b oa ob ca cb LI LI V h1 h2 (by have := HLI.out; unfold maxLen; omega) (by have := HLI.out; unfold maxLen; omega) true (sameB_self LI))
    have e1 := run_eql_N x x true (by simp)
    have e2 := run_guard_N .eql
    refine wp_region_held_drew (S := fun V => Below w7.heap.size w7 V) (by kernel_rfl) (below_dn ⟨1, rfl⟩) (fun hHeld => ?_)
    try simp only [Act.put, List.setIfInBounds_toArray, List.set_cons_zero, List.set_cons_succ]
    generalize w7.drew = V0 at *
    have HV0 := Lib.hid hHeld
    refine wpAnyH_take (i := 0) (v := .agg #[.string ⟨x.name.toArray⟩, .int .i64 x.kind, .int .i64 x.state]) (List.getElem?_toArray.trans rfl) (by kernel_rfl) (by kernel_rfl) (by kernel_rfl) (fun _ _ _ h => h) (Or.inl ⟨by rfl, fun W hW => by obtain ⟨q0, q1, q2, q3, q4, q5, q6, q7⟩ := HQ.out W hW; clear hW; go_simp⟩) (by assumption) ?_
    try simp only [Act.put, List.setIfInBounds_toArray, List.set_cons_zero, List.set_cons_succ]
    refine wpAnyH_take (i := 1) (v := .agg #[.string ⟨x.name.toArray⟩, .int .i64 x.kind, .int .i64 x.state]) (List.getElem?_toArray.trans rfl) (by kernel_rfl) (by kernel_rfl) (by kernel_rfl) (fun _ _ _ h => h) (Or.inl ⟨by rfl, fun W hW => by obtain ⟨q0, q1, q2, q3, q4, q5, q6, q7⟩ := HQ.out W hW; clear hW; go_simp⟩) (by assumption) ?_
    try simp only [Act.put, List.setIfInBounds_toArray, List.set_cons_zero, List.set_cons_succ]
    refine wpAnyH_take (i := 2) (v := .bool true) (List.getElem?_toArray.trans rfl) (by kernel_rfl) (by kernel_rfl) (by kernel_rfl) (fun _ _ _ h => h) (Or.inl ⟨by rfl, fun W hW => by obtain ⟨q0, q1, q2, q3, q4, q5, q6, q7⟩ := HQ.out W hW; clear hW; go_simp⟩) (by assumption) ?_
    try simp only [Act.put, List.setIfInBounds_toArray, List.set_cons_zero, List.set_cons_succ]
    refine wpAnyH_take (i := 3) (v := .bool true) (List.getElem?_toArray.trans rfl) (by kernel_rfl) (by kernel_rfl) (by kernel_rfl) (fun _ _ _ h => h) (Or.inl ⟨by rfl, fun W hW => by obtain ⟨q0, q1, q2, q3, q4, q5, q6, q7⟩ := HQ.out W hW; clear hW; go_simp⟩) (by assumption) ?_
    try simp only [Act.put, List.setIfInBounds_toArray, List.set_cons_zero, List.set_cons_succ]
    refine wpAnyH_take (i := 4) (v := .bool b) (List.getElem?_toArray.trans rfl) (by kernel_rfl) (by kernel_rfl) (by kernel_rfl) (fun _ _ _ h => h) (Or.inl ⟨by rfl, fun W hW => by obtain ⟨q0, q1, q2, q3, q4, q5, q6, q7⟩ := HQ.out W hW; clear hW; go_simp⟩) (by assumption) ?_
    try simp only [Act.put, List.setIfInBounds_toArray, List.set_cons_zero, List.set_cons_succ]
    refine wpAnyH_take (i := 5) (v := .bool b) (List.getElem?_toArray.trans rfl) (by kernel_rfl) (by kernel_rfl) (by kernel_rfl) (fun _ _ _ h => h) (Or.inl ⟨by rfl, fun W hW => by obtain ⟨q0, q1, q2, q3, q4, q5, q6, q7⟩ := HQ.out W hW; clear hW; go_simp⟩) (by assumption) ?_
    try simp only [Act.put, List.setIfInBounds_toArray, List.set_cons_zero, List.set_cons_succ]
    refine wpAnyH_take (i := 6) (v := .bool true) (List.getElem?_toArray.trans rfl) (by kernel_rfl) (by kernel_rfl) (by kernel_rfl) (fun _ _ _ h => h) (Or.inl ⟨by rfl, fun W hW => by obtain ⟨q0, q1, q2, q3, q4, q5, q6, q7⟩ := HQ.out W hW; clear hW; go_simp⟩) (by assumption) ?_
    try simp only [Act.put, List.setIfInBounds_toArray, List.set_cons_zero, List.set_cons_succ]
    refine wpAnyH_take (i := 7) (v := .bool true) (List.getElem?_toArray.trans rfl) (by kernel_rfl) (by kernel_rfl) (by kernel_rfl) (fun _ _ _ h => h) (Or.inl ⟨by rfl, fun W hW => by obtain ⟨q0, q1, q2, q3, q4, q5, q6, q7⟩ := HQ.out W hW; clear hW; go_simp⟩) (by assumption) ?_
    try simp only [Act.put, List.setIfInBounds_toArray, List.set_cons_zero, List.set_cons_succ]
    refine wpAnyH_take (i := 8) (v := .bool true) (List.getElem?_toArray.trans rfl) (by kernel_rfl) (by kernel_rfl) (by kernel_rfl) (fun _ _ _ h => h) (Or.inl ⟨by rfl, fun W hW => by obtain ⟨q0, q1, q2, q3, q4, q5, q6, q7⟩ := HQ.out W hW; clear hW; go_simp⟩) (by assumption) ?_
    try simp only [Act.put, List.setIfInBounds_toArray, List.set_cons_zero, List.set_cons_succ]
    refine wpAnyH_take (i := 9) (v := .agg #[.slice on ns.length cn, .slice oe es.length ce]) (List.getElem?_toArray.trans rfl) (by kernel_rfl) (by kernel_rfl) (by kernel_rfl) (fun _ _ _ h => h) (Or.inl ⟨by rfl, fun W hW => by obtain ⟨q0, q1, q2, q3, q4, q5, q6, q7⟩ := HQ.out W hW; clear hW; go_simp⟩) (by assumption) ?_
    try simp only [Act.put, List.setIfInBounds_toArray, List.set_cons_zero, List.set_cons_succ]
    refine wpAnyH_take (i := 10) (v := .string s) (List.getElem?_toArray.trans rfl) (by kernel_rfl) (by kernel_rfl) (by kernel_rfl) (fun _ _ _ h => h) (Or.inl ⟨by rfl, fun W hW => by obtain ⟨q0, q1, q2, q3, q4, q5, q6, q7⟩ := HQ.out W hW; clear hW; go_simp⟩) (by assumption) ?_
    try simp only [Act.put, List.setIfInBounds_toArray, List.set_cons_zero, List.set_cons_succ]
    refine wpAnyH_take (i := 11) (v := .int .i64 rel) (List.getElem?_toArray.trans rfl) (by kernel_rfl) (by kernel_rfl) (by kernel_rfl) (fun _ _ _ h => h) (Or.inl ⟨by rfl, fun W hW => by obtain ⟨q0, q1, q2, q3, q4, q5, q6, q7⟩ := HQ.out W hW; clear hW; go_simp⟩) (by assumption) ?_
    try simp only [Act.put, List.setIfInBounds_toArray, List.set_cons_zero, List.set_cons_succ]
    refine wpAnyH_take (i := 13) (v := .agg #[.slice on ns.length cn, .slice oe es.length ce]) (List.getElem?_toArray.trans rfl) (by kernel_rfl) (by kernel_rfl) (by kernel_rfl) (fun _ _ _ h => h) (Or.inl ⟨by rfl, fun W hW => by obtain ⟨q0, q1, q2, q3, q4, q5, q6, q7⟩ := HQ.out W hW; clear hW; go_simp⟩) (by assumption) ?_
    try simp only [Act.put, List.setIfInBounds_toArray, List.set_cons_zero, List.set_cons_succ]
    refine wpAnyH_take (i := 14) (v := .string s) (List.getElem?_toArray.trans rfl) (by kernel_rfl) (by kernel_rfl) (by kernel_rfl) (fun _ _ _ h => h) (Or.inl ⟨by rfl, fun W hW => by obtain ⟨q0, q1, q2, q3, q4, q5, q6, q7⟩ := HQ.out W hW; clear hW; go_simp⟩) (by assumption) ?_
    try simp only [Act.put, List.setIfInBounds_toArray, List.set_cons_zero, List.set_cons_succ]
    refine wpAnyH_take (i := 15) (v := .int .i64 rel) (List.getElem?_toArray.trans rfl) (by kernel_rfl) (by kernel_rfl) (by kernel_rfl) (fun _ _ _ h => h) (Or.inl ⟨by rfl, fun W hW => by obtain ⟨q0, q1, q2, q3, q4, q5, q6, q7⟩ := HQ.out W hW; clear hW; go_simp⟩) (by assumption) ?_
    try simp only [Act.put, List.setIfInBounds_toArray, List.set_cons_zero, List.set_cons_succ]
    refine wpAnyH_ready (rs := [12]) (by kernel_rfl) (by simp) (AllReadyH.cons (List.getElem?_toArray.trans rfl) (fun K hK => ?_) (AllReadyH.nil))
    clear hHeld
    rw [if_pos (by rfl)]
    go_simp
    refine (HO1.out V0 (HE7.out.below HV0.out)).mono ?_
    rintro e V0a ⟨oA, kA, rfl, hA, hb⟩
    have HV0a := Lib.hid (HV0.out.trans (hb.mono HV0.out.size))
    have HrA := Lib.hid hA
    clear hA hb
    refine hK.out _ _ HV0a.out (fun hHeld => ?_)
    clear hK K
    try simp only [Act.put, List.setIfInBounds_toArray, List.set_cons_zero, List.set_cons_succ]
    refine wpAnyH_ready (rs := [16]) (by kernel_rfl) (by simp) (AllReadyH.cons (List.getElem?_toArray.trans rfl) (fun K hK => ?_) (AllReadyH.nil))
    clear hHeld
    rw [if_pos (by rfl)]
    go_simp
    refine (HO2.out V0a (HE7.out.below HV0a.out)).mono ?_
    rintro e V0b ⟨oB, kB, rfl, hB, hb⟩
    have HV0b := Lib.hid (HV0a.out.trans (hb.mono HV0a.out.size))
    have HrB := Lib.hid hB
    have HrA := Lib.hid (HrA.out.below hb)
    clear hB hb
    refine hK.out _ _ HV0b.out (fun hHeld => ?_)
    clear hK K
    try simp only [Act.put, List.setIfInBounds_toArray, List.set_cons_zero, List.set_cons_succ]
    refine wpAnyH_ready (rs := [17]) (by kernel_rfl) (by simp) (AllReadyH.cons (List.getElem?_toArray.trans rfl) (fun K hK => ?_) (AllReadyH.nil))
    clear hHeld
    rw [if_pos (by rfl)]
    go_simp
    refine (HSO.out oA oB kA kB V0b HrA.out HrB.out).mono ?_
    rintro e V1 ⟨rfl, hb⟩
    have HV1 := Lib.hid (HV0b.out.trans (hb.mono HV0b.out.size))
    clear hb HrA HrB
    refine hK.out _ _ HV1.out (fun hHeld => ?_)
    clear hK K
    try simp only [Act.put, List.setIfInBounds_toArray, List.set_cons_zero, List.set_cons_succ]
    refine wpAnyH_take (i := 18) (v := .bool true) (List.getElem?_toArray.trans rfl) (by kernel_rfl) (by kernel_rfl) (by kernel_rfl) (fun _ _ _ h => h) (Or.inl ⟨by rfl, fun W hW => by clear hW; go_simp⟩) (by assumption) ?_
    try simp only [Act.put, List.setIfInBounds_toArray, List.set_cons_zero, List.set_cons_succ]
    refine wpAnyH_take (i := 19) (v := .bool true) (List.getElem?_toArray.trans rfl) (by kernel_rfl) (by kernel_rfl) (by kernel_rfl) (fun _ _ _ h => h) (Or.inl ⟨by rfl, fun W hW => by clear hW; go_simp⟩) (by assumption) ?_
    try simp only [Act.put, List.setIfInBounds_toArray, List.set_cons_zero, List.set_cons_succ]
    refine wpAnyH_take (i := 20) (v := .agg #[.slice on ns.length cn, .slice oe es.length ce]) (List.getElem?_toArray.trans rfl) (by kernel_rfl) (by kernel_rfl) (by kernel_rfl) (fun _ _ _ h => h) (Or.inl ⟨by rfl, fun W hW => by obtain ⟨q0, q1, q2, q3, q4, q5, q6, q7⟩ := HQ.out W hW; clear hW; go_simp⟩) (by assumption) ?_
    try simp only [Act.put, List.setIfInBounds_toArray, List.set_cons_zero, List.set_cons_succ]
    refine wpAnyH_take (i := 21) (v := .string s) (List.getElem?_toArray.trans rfl) (by kernel_rfl) (by kernel_rfl) (by kernel_rfl) (fun _ _ _ h => h) (Or.inl ⟨by rfl, fun W hW => by obtain ⟨q0, q1, q2, q3, q4, q5, q6, q7⟩ := HQ.out W hW; clear hW; go_simp⟩) (by assumption) ?_
    try simp only [Act.put, List.setIfInBounds_toArray, List.set_cons_zero, List.set_cons_succ]
    refine wpAnyH_take (i := 22) (v := .int .i64 rel) (List.getElem?_toArray.trans rfl) (by kernel_rfl) (by kernel_rfl) (by kernel_rfl) (fun _ _ _ h => h) (Or.inl ⟨by rfl, fun W hW => by obtain ⟨q0, q1, q2, q3, q4, q5, q6, q7⟩ := HQ.out W hW; clear hW; go_simp⟩) (by assumption) ?_
    try simp only [Act.put, List.setIfInBounds_toArray, List.set_cons_zero, List.set_cons_succ]
    refine wpAnyH_take (i := 24) (v := .agg #[.slice on ns.length cn, .slice oe es.length ce]) (List.getElem?_toArray.trans rfl) (by kernel_rfl) (by kernel_rfl) (by kernel_rfl) (fun _ _ _ h => h) (Or.inl ⟨by rfl, fun W hW => by obtain ⟨q0, q1, q2, q3, q4, q5, q6, q7⟩ := HQ.out W hW; clear hW; go_simp⟩) (by assumption) ?_
    try simp only [Act.put, List.setIfInBounds_toArray, List.set_cons_zero, List.set_cons_succ]
    refine wpAnyH_take (i := 25) (v := .string s) (List.getElem?_toArray.trans rfl) (by kernel_rfl) (by kernel_rfl) (by kernel_rfl) (fun _ _ _ h => h) (Or.inl ⟨by rfl, fun W hW => by obtain ⟨q0, q1, q2, q3, q4, q5, q6, q7⟩ := HQ.out W hW; clear hW; go_simp⟩) (by assumption) ?_
    try simp only [Act.put, List.setIfInBounds_toArray, List.set_cons_zero, List.set_cons_succ]
    refine wpAnyH_take (i := 26) (v := .int .i64 rel) (List.getElem?_toArray.trans rfl) (by kernel_rfl) (by kernel_rfl) (by kernel_rfl) (fun _ _ _ h => h) (Or.inl ⟨by rfl, fun W hW => by obtain ⟨q0, q1, q2, q3, q4, q5, q6, q7⟩ := HQ.out W hW; clear hW; go_simp⟩) (by assumption) ?_
    try simp only [Act.put, List.setIfInBounds_toArray, List.set_cons_zero, List.set_cons_succ]
    refine wpAnyH_ready (rs := [23]) (by kernel_rfl) (by simp) (AllReadyH.cons (List.getElem?_toArray.trans rfl) (fun K hK => ?_) (AllReadyH.nil))
    clear hHeld
    rw [if_pos (by rfl)]
    go_simp
    refine (HI1.out V1 (HE7.out.below HV1.out)).mono ?_
    rintro e V1a ⟨oA, kA, rfl, hA, hb⟩
    have HV1a := Lib.hid (HV1.out.trans (hb.mono HV1.out.size))
    have HrA := Lib.hid hA
    clear hA hb
    refine hK.out _ _ HV1a.out (fun hHeld => ?_)
    clear hK K
    try simp only [Act.put, List.setIfInBounds_toArray, List.set_cons_zero, List.set_cons_succ]
    refine wpAnyH_ready (rs := [27]) (by kernel_rfl) (by simp) (AllReadyH.cons (List.getElem?_toArray.trans rfl) (fun K hK => ?_) (AllReadyH.nil))
    clear hHeld
    rw [if_pos (by rfl)]
    go_simp
    refine (HI2.out V1a (HE7.out.below HV1a.out)).mono ?_
    rintro e V1b ⟨oB, kB, rfl, hB, hb⟩
    have HV1b := Lib.hid (HV1a.out.trans (hb.mono HV1a.out.size))
    have HrB := Lib.hid hB
    have HrA := Lib.hid (HrA.out.below hb)
    clear hB hb
    refine hK.out _ _ HV1b.out (fun hHeld => ?_)
    clear hK K
    try simp only [Act.put, List.setIfInBounds_toArray, List.set_cons_zero, List.set_cons_succ]
    refine wpAnyH_ready (rs := [28]) (by kernel_rfl) (by simp) (AllReadyH.cons (List.getElem?_toArray.trans rfl) (fun K hK => ?_) (AllReadyH.nil))
    clear hHeld
    rw [if_pos (by rfl)]
    go_simp
    refine (HSI.out oA oB kA kB V1b HrA.out HrB.out).mono ?_
    rintro e V2 ⟨rfl, hb⟩
    have HV2 := Lib.hid (HV1b.out.trans (hb.mono HV1b.out.size))
    clear hb HrA HrB
    refine hK.out _ _ HV2.out (fun hHeld => ?_)
    clear hK K
    try simp only [Act.put, List.setIfInBounds_toArray, List.set_cons_zero, List.set_cons_succ]
    refine wpAnyH_take (i := 29) (v := .bool true) (List.getElem?_toArray.trans rfl) (by kernel_rfl) (by kernel_rfl) (by kernel_rfl) (fun _ _ _ h => h) (Or.inl ⟨by rfl, fun W hW => by clear hW; go_simp⟩) (by assumption) ?_
    try simp only [Act.put, List.setIfInBounds_toArray, List.set_cons_zero, List.set_cons_succ]
    refine wpAnyH_take (i := 30) (v := .bool true) (List.getElem?_toArray.trans rfl) (by kernel_rfl) (by kernel_rfl) (by kernel_rfl) (fun _ _ _ h => h) (Or.inl ⟨by rfl, fun W hW => by clear hW; go_simp⟩) (by assumption) ?_
    try simp only [Act.put, List.setIfInBounds_toArray, List.set_cons_zero, List.set_cons_succ]
    refine wpAnyH_done (by kernel_rfl) ?_ _
    clear hHeld
    go_wp2_with fail
    go_ret
    exact ⟨rfl, by rw [HBn.out]; exact HB7.out.trans (HV2.out.mono (below_le HB7.out HBn.out))⟩
end Go.Proofs.YtcaamakodneplaaGreat

/-
  matinslaw15: GraphMirror, walked.
-/
namespace Go.Proofs.YtcaamakodneplaaGreat
open Go Go.RowKit Go.Sort Go.BigFrame
set_option linter.unusedVariables false
set_option linter.unusedSimpArgs false
set_option maxRecDepth 100000

set_option maxHeartbeats 2000000 in
theorem mirror_walk (on oe : Option Addr) (cn ce : Nat) (ns : List NodeS) (es : List EdgeS) (rel : Int) (w : World) (hm : MaxAt w) (hn : RowRd encN 3 w on ns) (he : RowRd encE 3 w oe es) (hln : ns.length ≤ 1048576) (hle : es.length ≤ 1048576)
    (hs : ∀ x ∈ ns, NodeSmall x) :
    Calls Tryz.prog 5 #[.agg #[.slice on ns.length cn, .slice oe es.length ce], .int .i64 rel] w fun e w' => e = .returned (.bool true) ∧ Below w.heap.size w w' := by
  have HM := Lib.hid hm; have HN := Lib.hid hn; have HE := Lib.hid he; have HS := Lib.hid hs
  have HL := Lib.hid (And.intro hln hle)
  clear hm hn he hs hln hle
  go_enter Tryz.func5, Tryz.ntmps5
  go_wp2_with fail
  have HG0 := Lib.hid (heap_alloc_new w (.cells #[.slice on ns.length cn, .slice oe es.length ce] 29))
  have HB0 := Lib.hid ((Below.refl w.heap.size w).alloc (Nat.le_refl _) (.cells #[.slice on ns.length cn, .slice oe es.length ce] 29))
  generalize w.alloc (.cells #[.slice on ns.length cn, .slice oe es.length ce] 29) = w0 at *
  generalize hB : w.heap.size = B at *
  have HBn := Lib.hid hB; clear hB
  refine (shown_any w0 (HM.out.below (by rw [HBn.out]; exact HB0.out))).mono ?_
  rintro e w1 ⟨rfl, hb1⟩
  have HG1 := Lib.hid (heap_below HG0.out hb1)
  have HB1 := Lib.hid (HB0.out.trans (hb1.mono (below_le HB0.out HBn.out)))
  clear hb1 HG0 HB0
  obtain ⟨c0, c1⟩ := cells2 HG1.out
  go_wp2_with fail
  have HR := Lib.hid (fun V (h : Below B w V) => show RowRd encN 3 V on ns ∧ RowRd encE 3 V oe es ∧ MaxAt V from ⟨HN.out.below (by rw [HBn.out]; exact h), HE.out.below (by rw [HBn.out]; exact h), HM.out.below (by rw [HBn.out]; exact h)⟩)
  clear HN HE HM
  obtain ⟨m, hmay⟩ : ∃ m, mayG ns es = m := ⟨_, rfl⟩
  refine (gmay_any on oe cn ce ns es w1 (HR.out w1 HB1.out).2.2 (HR.out w1 HB1.out).1 (HR.out w1 HB1.out).2.1 (by have := HL.out; omega) (by have := HL.out; omega) HS.out m hmay).mono ?_
  rintro e w2 ⟨rfl, hb2⟩
  have HG2 := Lib.hid (heap_below HG1.out hb2)
  have HB2 := Lib.hid (HB1.out.trans (hb2.mono (below_le HB1.out HBn.out)))
  clear hb2 HG1 HB1 c0 c1
  cases m with
  | false =>
    clear hmay
    go_wp2_with fail
    go_ret
    exact ⟨rfl, by rw [HBn.out]; exact HB2.out⟩
  | true =>
    have HT := Lib.hid (tally_zero hmay rel)
    have h64 := (may_facts hmay).1
    clear hmay
    obtain ⟨c0, c1⟩ := cells2 HG2.out
    go_wp2_with fail
    have HQ := Lib.hid (show ∀ V, Below w2.heap.size w2 V → V.cell? ⟨B, 0, none⟩ = some (.slice on ns.length cn) ∧ V.cell? ⟨B, 1, none⟩ = some (.slice oe es.length ce) from fun V hV => cells2 (heap_below HG2.out hV))
    have HR2 := Lib.hid (fun V (h : Below w2.heap.size w2 V) => HR.out V (HB2.out.trans (h.mono (below_le HB2.out HBn.out))))
    have hle := HL.out.2
    clear HR HG2 c0 c1
    go_loopg [5, 18] (ns.length + 1) (fun f n i wr => ∃ k : Nat, k ≤ ns.length ∧ i = .int .i64 k ∧ n = .int .i64 (tallyS (ns.take k) es rel) ∧ ns.length - k < f ∧ Hid (Below w2.heap.size w2 wr))
    case atStart => exact ⟨0, by omega, rfl, rfl, by omega, Below.refl _ _⟩
    case round =>
      obtain ⟨k, hk, rfl, rfl, hfu, Hb⟩ := hrel
      by_cases hlt : k < ns.length
      · obtain ⟨b, o, rfl, hblt, hcc⟩ := (HR2.out wr Hb.out).1 k hlt
        obtain ⟨x, hx⟩ : ∃ x, x = ns[k] := ⟨_, rfl⟩
        have hsn : ns.take (k + 1) = ns.take k ++ [x] := by rw [List.take_succ_eq_append_getElem hlt, hx]
        have HTS := Lib.hid (tally_snoc (ns.take k) es rel x)
        rw [← hsn] at HTS
        have hbd := tally_bound es rel (ns.take k)
        rw [List.length_take, Nat.min_eq_left hk] at hbd
        have hmul : k * es.length ≤ 64 * 1048576 := Nat.mul_le_mul (by omega) hle
        rw [← hx] at hcc
        have d0 := hcc 0 _ rfl; have d1 := hcc 1 _ rfl; have d2 := hcc 2 _ rfl
        simp only [Nat.add_zero] at d0
        have i5 : (k : Int) < (ns.length : Int) := by omega
        obtain ⟨c0, c1⟩ := HQ.out wr Hb.out
        obtain ⟨a0, a1⟩ := HQ.out (wr.alloc (.cells #[.string ⟨x.name.toArray⟩, .int .i64 x.kind, .int .i64 x.state] 32)) (Hb.out.trans (((Below.refl wr.heap.size wr).alloc (Nat.le_refl _) (.cells #[.string ⟨x.name.toArray⟩, .int .i64 x.kind, .int .i64 x.state] 32)).mono Hb.out.size))
        clear hcc hx hsn
        generalize tallyS (ns.take k) es rel = T at *
        generalize hT2 : tallyS (ns.take (k + 1)) es rel = T2 at *
        have HTD := Lib.hid hT2; clear hT2
        obtain ⟨g1, rfl⟩ : ∃ g1, g1 = gk := ⟨gk, rfl⟩
        have HTB := Lib.hid (show -67108864 ≤ T ∧ T ≤ 67108864 by omega)
        clear hbd hmul
        go_wp2_with fail
        have hba := (Below.refl wr.heap.size wr).alloc (Nat.le_refl _) (.cells #[.string ⟨x.name.toArray⟩, .int .i64 x.kind, .int .i64 x.state] 32)
        have HXa := Lib.hid (heap_alloc_new wr (.cells #[.string ⟨x.name.toArray⟩, .int .i64 x.kind, .int .i64 x.state] 32))
        clear c0 c1 d0 d1 d2 a0 a1
        generalize wr.alloc (.cells #[.string ⟨x.name.toArray⟩, .int .i64 x.kind, .int .i64 x.state] 32) = wa at *
        have HBa := Lib.hid (Hb.out.trans (hba.mono Hb.out.size))
        clear hba Hb
        generalize wr.heap.size = X at *
        refine (gout_txt oe ce es _ ⟨x.name.toArray⟩ rel wa (HR2.out wa HBa.out).2.1 (by omega)).mono ?_
        rintro e w3 ⟨oa, ca, rfl, hr3, hb3⟩
        have hmir : ∀ y ∈ outS es x.name rel, (inS es y rel).contains x.name = true := fun y hy => mirror es x.name y rel hy
        have hol := out_le es x.name rel
        change StrRow w3 oa (outS es x.name rel) at hr3
        change ∀ y ∈ outS es (⟨x.name.toArray⟩ : ByteArray).data.toList rel, _ at hmir
        have HMI := Lib.hid hmir
        have HR3 := Lib.hid hr3
        have HTS2 := Lib.hid (show T2 = T + (outS es (⟨x.name.toArray⟩ : ByteArray).data.toList rel).length - (inS es x.name rel).length from HTS.out)
        clear hmir hr3 HTS
        change (outS es (⟨x.name.toArray⟩ : ByteArray).data.toList rel).length ≤ es.length at hol
        change Hid (StrRow w3 oa (outS es (⟨x.name.toArray⟩ : ByteArray).data.toList rel)) at HR3
        generalize outS es (⟨x.name.toArray⟩ : ByteArray).data.toList rel = LO at *
        have HX3 := Lib.hid (heap_below HXa.out hb3)
        have HB3 := Lib.hid (HBa.out.trans (hb3.mono HBa.out.size))
        clear hb3 HXa HBa
        have HQ3 := Lib.hid (show ∀ V, Below w3.heap.size w3 V → V.cell? ⟨B, 0, none⟩ = some (.slice (some ⟨b, o, none⟩) ns.length cn) ∧ V.cell? ⟨B, 1, none⟩ = some (.slice oe es.length ce) ∧ V.cell? ⟨X, 0, none⟩ = some (.string ⟨x.name.toArray⟩) from fun V hV => by
          have h1 := HQ.out V (HB3.out.trans (hV.mono HB3.out.size))
          exact ⟨h1.1, h1.2, (cells3 (heap_below HX3.out hV)).1⟩)
        have HE3 := Lib.hid (fun V (hV : Below w3.heap.size w3 V) => (HR2.out V (HB3.out.trans (hV.mono HB3.out.size))).2.1)
        clear HX3
        go_wp2_with fail
        go_loopg [5, 28] (LO.length + 1) (fun f n i wv => ∃ j : Nat, j ≤ LO.length ∧ i = .int .i64 j ∧ n = .int .i64 (T + (j : Int)) ∧ LO.length - j < f ∧ Hid (Below w3.heap.size w3 wv))
        case atStart => exact ⟨0, by omega, rfl, by simp, by omega, Below.refl _ _⟩
        case round =>
          obtain ⟨j, hj, rfl, rfl, hfv, Hv⟩ := hrel
          by_cases hjl : j < LO.length
          · obtain ⟨b2, o2, rfl, hc2⟩ := (HR3.out.below Hv.out) j hjl
            have hin := HMI.out _ (List.getElem_mem hjl)
            obtain ⟨y, hy⟩ : ∃ y, y = LO[j] := ⟨_, rfl⟩
            rw [← hy] at hc2 hin
            have HIN := Lib.hid hin
            have j5 : (j : Int) < (LO.length : Int) := by omega
            have htb := HTB.out
            have n1 : IntKind.i64.wrap (T + (j : Int) + 1) = T + (j : Int) + 1 := IntWalk.i64_in _ (by omega)
            clear hy hin
            go_wp2_with fail
            refine wp_region_held_drew (S := fun V => Below w3.heap.size w3 V) (by kernel_rfl) (Hv.out.trans (below_dn ⟨1, rfl⟩)) (fun hHeld => ?_)
            try simp only [Act.put, List.setIfInBounds_toArray, List.set_cons_zero, List.set_cons_succ]
            have hv1 := hHeld
            refine wpAnyH_take (i := 0) (v := .agg #[.slice (some ⟨b, o, none⟩) ns.length cn, .slice oe es.length ce]) (List.getElem?_toArray.trans rfl) (by kernel_rfl) (by kernel_rfl) (by kernel_rfl) (fun _ _ _ h => h) (Or.inl ⟨by rfl, fun W hW => by obtain ⟨q0, q1, q2⟩ := HQ3.out W hW; clear hW; go_simp⟩) (by assumption) ?_
            try simp only [Act.put, List.setIfInBounds_toArray, List.set_cons_zero, List.set_cons_succ]
            refine wpAnyH_take (i := 1) (v := .string ⟨y.toArray⟩) (List.getElem?_toArray.trans rfl) (by kernel_rfl) (by kernel_rfl) (by kernel_rfl) (fun _ _ _ h => h) (Or.inl ⟨by rfl, fun W hW => by obtain ⟨q0, q1, q2⟩ := HQ3.out W hW; clear hW; go_simp⟩) (by assumption) ?_
            try simp only [Act.put, List.setIfInBounds_toArray, List.set_cons_zero, List.set_cons_succ]
            refine wpAnyH_take (i := 2) (v := .int .i64 rel) (List.getElem?_toArray.trans rfl) (by kernel_rfl) (by kernel_rfl) (by kernel_rfl) (fun _ _ _ h => h) (Or.inl ⟨by rfl, fun W hW => by obtain ⟨q0, q1, q2⟩ := HQ3.out W hW; clear hW; go_simp⟩) (by assumption) ?_
            try simp only [Act.put, List.setIfInBounds_toArray, List.set_cons_zero, List.set_cons_succ]
            refine wpAnyH_take (i := 4) (v := .pointer (some ⟨X, 0, none⟩)) (List.getElem?_toArray.trans rfl) (by kernel_rfl) (by kernel_rfl) (by kernel_rfl) (fun _ _ _ h => h) (Or.inl ⟨by rfl, fun W hW => by obtain ⟨q0, q1, q2⟩ := HQ3.out W hW; clear hW; go_simp⟩) (by assumption) ?_
            try simp only [Act.put, List.setIfInBounds_toArray, List.set_cons_zero, List.set_cons_succ]
            refine wpAnyH_take (i := 5) (v := .string ⟨x.name.toArray⟩) (List.getElem?_toArray.trans rfl) (by kernel_rfl) (by kernel_rfl) (by kernel_rfl) (fun _ _ _ h => h) (Or.inl ⟨by rfl, fun W hW => by obtain ⟨q0, q1, q2⟩ := HQ3.out W hW; clear hW; go_simp⟩) (by assumption) ?_
            try simp only [Act.put, List.setIfInBounds_toArray, List.set_cons_zero, List.set_cons_succ]
            refine wpAnyH_ready (rs := [3]) (by kernel_rfl) (by simp) (AllReadyH.cons (List.getElem?_toArray.trans rfl) (fun K hK => ?_) (AllReadyH.nil))
            clear hHeld
            rw [if_pos (by rfl)]
            go_simp
            refine (gin_txt oe ce es _ ⟨y.toArray⟩ rel _ (HE3.out _ hv1) (by omega)).mono ?_
            rintro e wi ⟨oi, ci, rfl, hri, hbi⟩
            have HVi := Lib.hid (hv1.trans (hbi.mono hv1.size))
            have HRi := Lib.hid hri
            clear hri hbi
            refine hK.out _ _ HVi.out (fun hHeld => ?_)
            clear hK K
            try simp only [Act.put, List.setIfInBounds_toArray, List.set_cons_zero, List.set_cons_succ]
            refine wpAnyH_ready (rs := [6]) (by kernel_rfl) (by simp) (AllReadyH.cons (List.getElem?_toArray.trans rfl) (fun K hK => ?_) (AllReadyH.nil))
            clear hHeld
            rw [if_pos (by rfl)]
            go_simp
            refine (has7_any oi _ ci (inS es y rel) ⟨x.name.toArray⟩ wi HRi.out rfl (by have := in_le es y rel; omega) true HIN.out).mono ?_
            rintro e wk ⟨rfl, hwk⟩
            subst hwk
            refine hK.out _ _ HVi.out (fun hHeld => ?_)
            clear hK K
            try simp only [Act.put, List.setIfInBounds_toArray, List.set_cons_zero, List.set_cons_succ]
            refine wpAnyH_take (i := 7) (v := .bool false) (List.getElem?_toArray.trans rfl) (by kernel_rfl) (by kernel_rfl) (by kernel_rfl) (fun _ _ _ h => h) (Or.inl ⟨by rfl, fun W hW => by clear hW; go_simp⟩) (by assumption) ?_
            try simp only [Act.put, List.setIfInBounds_toArray, List.set_cons_zero, List.set_cons_succ]
            refine wpAnyH_done (by kernel_rfl) ?_ _
            clear hHeld
            go_wp2_with fail
            go_roundg (gk - 1)
            case measure => omega
            case rel => exact ⟨j + 1, by omega, by go_num, by push_cast; rw [Int.add_assoc], by omega, HVi⟩
          · have hj2 : j = LO.length := by omega
            subst hj2
            obtain ⟨c0, c1, c2⟩ := HQ3.out _ Hv.out
            go_wp2_with fail
            refine (gin_txt oe ce es _ ⟨x.name.toArray⟩ rel _ (HE3.out _ Hv.out) (by omega)).mono ?_
            rintro e w9 ⟨o9, c9, rfl, hr9, hb9⟩
            have HB9 := Lib.hid ((HB3.out.trans (Hv.out.mono HB3.out.size)).trans (hb9.mono (Nat.le_trans HB3.out.size Hv.out.size)))
            have hil := in_le es x.name rel
            have htb := HTB.out
            change (inS es (⟨x.name.toArray⟩ : ByteArray).data.toList rel).length ≤ es.length at hil
            have hts : T2 = T + LO.length - (inS es (⟨x.name.toArray⟩ : ByteArray).data.toList rel).length := HTS2.out
            clear hr9 hb9 HTS2
            generalize inS es (⟨x.name.toArray⟩ : ByteArray).data.toList rel = LI at *
            have n1 : IntKind.i64.wrap (T + (LO.length : Int) - (LI.length : Int)) = T + (LO.length : Int) - (LI.length : Int) := IntWalk.i64_in _ (by omega)
            rw [← hts] at n1
            have HT2 := Lib.hid hts; clear hts
            go_wp2_with fail
            go_roundg (g1 - 1)
            case measure => omega
            case rel => exact ⟨k + 1, by omega, by go_num, by rw [HTD.out, HT2.out], by omega, HB9⟩
      · have hk2 : k = ns.length := by omega
        subst hk2
        have ht0 : tallyS (ns.take ns.length) es rel = 0 := by rw [List.take_of_length_le (Nat.le_refl _)]; exact HT.out
        rw [ht0]
        clear ht0
        go_wp2_with fail
        go_ret
        exact ⟨rfl, by rw [HBn.out]; exact HB2.out.trans (Hb.out.mono (below_le HB2.out HBn.out))⟩
end Go.Proofs.YtcaamakodneplaaGreat
