import Derived.Deep.QuietTactic
import Derived.BigQuiet
import Derived.Deep.RegionHeld3
import Derived.Test.YtdpnahojhmkemaaGreatDoorKP2
import Derived.Test.YtdpnahojhmkemaaGreatDoorKP4
import Derived.Test.YtdpnahojhmkemaaGreatDoorKP6
import Derived.Test.YtdpnahojhmkemaaGreatDoorKP7
import Derived.Test.YtdpnahojhmkemaaGreatDoorKP10
import Derived.Test.YtdpnahojhmkemaaGreatDoorKP18
namespace Go.Proofs.YtdpnahojhmkemaaGreatDoor
set_option linter.unusedVariables false
structure CutS where
 kind : Nat
 pre : Str
 inst : Str
 at_ : Bool
deriving DecidableEq
def cutZ : CutS := ⟨0, [], [], false⟩
def ofS (s : Str) : CutS := if kindS s = 0 then cutZ else ⟨kindS s, (cutAt (cutPt s).1).1, (cutAt (cutPt s).1).2.1, (cutAt (cutPt s).1).2.2⟩
theorem ofS_kind (s : Str) : (ofS s).kind = kindS s := by
 unfold ofS
 by_cases h : kindS s = 0
 ·rw [if_pos h, h]; rfl
 ·rw [if_neg h]
theorem kindOf_iff (t : Str) (k : Nat) (h1 : 1 ≤ k) (h4 : k ≤ 4) : kindOf t = k ↔ t = sufS k := by
 constructor
 ·intro h
  unfold kindOf at h
  split at h
  ·subst h; assumption
  split at h
  ·subst h; assumption
  split at h
  ·subst h; assumption
  split at h
  ·subst h; assumption
  ·omega
 ·rintro rfl
  match k, h1, h4 with
  | 1, _, _ => decide
  | 2, _, _ => decide
  | 3, _, _ => decide
  | 4, _, _ => decide
theorem suf_nodot (k : Nat) : (sufS k).contains 46 = false := by
 unfold sufS; repeat' split <;> first | decide | skip
theorem suf_len (k : Nat) : (sufS k).length ≤ 7 := by
 unfold sufS; repeat' split <;> first | decide | skip
theorem cutPt_app (a : Str) (k : Nat) : cutPt (a ++ 46 :: sufS k) = (a, sufS k) := by
 unfold cutPt; rw [lastPt_app _ (suf_nodot k)]; rfl
theorem of_match {s : Str} {k : Nat} (h1 : 1 ≤ k) (h4 : k ≤ 4) (hn : (cutPt s).1 ≠ []) (hk : kindOf (cutPt s).2 = k) : s = (cutPt s).1 ++ 46 :: sufS k := by
 rw [kindOf_iff _ k h1 h4] at hk
 rw [← hk]
 unfold cutPt at *
 rcases lastPt_cases s with ⟨h, _⟩ | ⟨a, b, h, h2, _⟩
 ·rw [h] at hn; exact absurd rfl hn
 ·rw [h]; exact h2
theorem of_nomatch {s : Str} {k : Nat} (h1 : 1 ≤ k) (h4 : k ≤ 4) (h : ¬ ((cutPt s).1 ≠ [] ∧ kindOf (cutPt s).2 = k)) (hl : (sufS k).length + 1 < s.length) (n : Nat) (hn : n + ((sufS k).length + 1) = s.length) : s.drop n ≠ 46 :: sufS k := by
 intro e
 apply h
 have hs : s = s.take n ++ 46 :: sufS k := by rw [← e, List.take_append_drop]
 rw [hs, cutPt_app]
 refine ⟨?_, (kindOf_iff _ k h1 h4).2 rfl⟩
 intro e2
 have : (s.take n).length = 0 := by rw [show s.take n = [] from e2]; rfl
 rw [List.length_take] at this
 omega
def kR (s : Str) (k : Nat) : Nat := if (cutPt s).1 ≠ [] ∧ kindOf (cutPt s).2 ≠ 0 ∧ kindOf (cutPt s).2 < k then kindOf (cutPt s).2 else 0
def rR (s : Str) (k : Nat) : Str := if (cutPt s).1 ≠ [] ∧ kindOf (cutPt s).2 ≠ 0 ∧ kindOf (cutPt s).2 < k then (cutPt s).1 else []
theorem kR_one (s : Str) : kR s 1 = 0 ∧ rR s 1 = [] := by
 unfold kR rR
 rw [if_neg (by omega), if_neg (by omega)]; exact ⟨rfl, rfl⟩
theorem kR_match {s : Str} {k : Nat} (h1 : 1 ≤ k) (hn : (cutPt s).1 ≠ []) (hk : kindOf (cutPt s).2 = k) : kR s (k + 1) = k ∧ rR s (k + 1) = (cutPt s).1 := by
 unfold kR rR
 rw [if_pos ⟨hn, by omega, by omega⟩, if_pos ⟨hn, by omega, by omega⟩]; exact ⟨hk, rfl⟩
theorem kR_no {s : Str} {k : Nat} (h : ¬ ((cutPt s).1 ≠ [] ∧ kindOf (cutPt s).2 = k)) : kR s (k + 1) = kR s k ∧ rR s (k + 1) = rR s k := by
 unfold kR rR
 have : ((cutPt s).1 ≠ [] ∧ kindOf (cutPt s).2 ≠ 0 ∧ kindOf (cutPt s).2 < k + 1) ↔ ((cutPt s).1 ≠ [] ∧ kindOf (cutPt s).2 ≠ 0 ∧ kindOf (cutPt s).2 < k) := by
  constructor
  ·rintro ⟨a, b, c⟩
   refine ⟨a, b, ?_⟩
   have : kindOf (cutPt s).2 ≠ k := fun e => h ⟨a, e⟩
   omega
  ·rintro ⟨a, b, c⟩; exact ⟨a, b, by omega⟩
 constructor <;> (split <;> split <;> first | rfl | (rename_i a b; exact absurd (this.1 a) b) | (rename_i a b; exact absurd (this.2 b) a))
theorem kR_end (s : Str) : (kR s 5 = 0 ∧ kindS s = 0) ∨ (kR s 5 ≠ 0 ∧ kR s 5 = kindOf (cutPt s).2 ∧ rR s 5 = (cutPt s).1) := by
 by_cases h : (cutPt s).1 ≠ [] ∧ kindOf (cutPt s).2 ≠ 0
 ·have h5 : kindOf (cutPt s).2 < 5 := by have := kindOf_le (cutPt s).2; omega
  refine .inr ?_
  unfold kR rR
  rw [if_pos ⟨h.1, h.2, h5⟩, if_pos ⟨h.1, h.2, h5⟩]
  exact ⟨h.2, rfl, rfl⟩
 ·refine .inl ⟨?_, ?_⟩
  ·unfold kR; rw [if_neg (fun q => h ⟨q.1, q.2.1⟩)]
  ·unfold kindS
   split
   ·rename_i hc
    by_cases h0 : (cutPt s).1 = []
    ·rw [h0] at hc; exact absurd rfl hc.2.1
    ·by_cases h2 : kindOf (cutPt s).2 = 0
     ·exact h2
     ·exact absurd ⟨h0, h2⟩ h
   ·rfl
theorem of_end {s : Str} (hl : s.length ≤ 60) (hk : kR s 5 ≠ 0) (he : kR s 5 = kindOf (cutPt s).2) (p i : Str) (f : Bool) (hp : cutAt (cutPt s).1 = (p, i, f)) :
  (p = [] ∨ nameB (p ++ i) = false → ofS s = cutZ) ∧ (p ≠ [] → nameB (p ++ i) = true → ofS s = ⟨kR s 5, p, i, f⟩) := by
 have hb : nameB (p ++ i) = (nameB p && nameB i) := by unfold nameB; rw [List.all_append]
 unfold ofS kindS
 rw [hp]
 simp only
 constructor
 ·intro h
  rw [if_pos]
  rw [if_neg]
  rintro ⟨_, h1, h2, h3⟩
  rcases h with h | h
  ·exact h1 h
  ·rw [hb, h2, h3] at h; cases h
 ·intro h1 h2
  rw [hb, Bool.and_eq_true] at h2
  have hc : (if s.length ≤ 60 ∧ p ≠ [] ∧ nameB p = true ∧ nameB i = true then kindOf (cutPt s).2 else 0) = kR s 5 := by
   rw [if_pos ⟨hl, h1, h2.1, h2.2⟩, he]
  rw [hc, if_neg hk]
theorem cutAt_here (a b : Str) (h : a.contains 64 = false) : cutAt (a ++ 64 :: b) = (a, b, true) := by
 induction a with
 | nil => rfl
 | cons c r ih =>
  rw [List.contains_cons, Bool.or_eq_false_iff] at h
  have hc : (c == 64) = false := by rw [beq_eq_false_iff_ne] at h ⊢; exact fun e => h.1 e.symm
  rw [List.cons_append]
  unfold cutAt
  rw [if_neg (by rw [hc]; decide), ih h.2]
theorem cutAt_no (a : Str) (h : a.contains 64 = false) : cutAt a = (a, [], false) := by
 induction a with
 | nil => rfl
 | cons c r ih =>
  rw [List.contains_cons, Bool.or_eq_false_iff] at h
  have hc : (c == 64) = false := by rw [beq_eq_false_iff_ne] at h ⊢; exact fun e => h.1 e.symm
  unfold cutAt
  rw [if_neg (by rw [hc]; decide), ih h.2]
end Go.Proofs.YtdpnahojhmkemaaGreatDoor
namespace Go.Proofs.YtdpnahojhmkemaaGreatDoor
open Go Go.RowKit
set_option linter.unusedVariables false
set_option maxRecDepth 100000
def cutV (c : CutS) : Array Value := #[.int .i64 c.kind, .string ⟨c.pre.toArray⟩, .string ⟨c.inst.toArray⟩, .bool c.at_]
structure RofIn (w wr : World) (cs : Array Value) : Prop where
 below : Below w.heap.size w wr
 zero : wr.heap[w.heap.size]? = some (.cells #[.int .i64 0, .string ⟨#[]⟩, .string ⟨#[]⟩, .bool false] 79 (0, 0))
 cut : wr.heap[w.heap.size + 1]? = some (.cells cs 79 (0, 0))
theorem RofIn.dn {w wr : World} {cs : Array Value} (h : RofIn w wr cs) (n : Nat) : RofIn w (wr.drewN n) cs := ⟨h.below.trans (below_dn ⟨n, rfl⟩), h.zero, h.cut⟩
theorem RofIn.set {w wr : World} {cs : Array Value} (h : RofIn w wr cs) (j : Nat) (v : Value) : RofIn w (wr.setCell ⟨w.heap.size + 1, j, none⟩ v) (cs.setIfInBounds j v) :=
 ⟨h.below.setCell (by simp) _, heap_other h.zero (by simp) _, heap_setCell h.cut j v⟩
theorem ext_str1 (s : ByteArray) (a b : Nat) (l : Str) (h : (s.extract a b).data.toList = l) : s.extract a b = ⟨l.toArray⟩ := by
 apply bytes_ext; rw [h]
theorem post_cut {w : World} {b : Nat} {x : Act} {R : Ending → World → Prop} {cs : Array Value} (h4 : cs.size = 4) (hd : x.defers = []) (ha : x.tmps.getD 2 undef = .pointer (some ⟨b, 0, none⟩)) (hw : w.heap[b]? = some (.cells cs 79 (0, 0))) (h : R (.returned (.agg cs)) w) :
  bodyPost Tryz.prog Tryz.f40 R .ret x w :=
 post_cell 2 79 b (.agg cs) rfl hd ha (loadVar_all 79 _ rfl rfl (by rw [h4]; rfl) hw) h
theorem of_long (s : ByteArray) (w : World) (h : 60 < s.size) : Calls Tryz.prog 40 #[.string s] w fun e w' => e = .returned (.agg (cutV cutZ)) ∧ Below w.heap.size w w' := by
 go_enter Tryz.func40, Tryz.ntmps40
 go_wp2_with fail
 exact post_cut rfl rfl rfl (heap_alloc_new _ _) ⟨rfl, (Below.refl _ _).alloc (Nat.le_refl _) _⟩
set_option maxHeartbeats 4000000 in
theorem of_short (s : ByteArray) (w : World) (h : s.size ≤ 60) : Calls Tryz.prog 40 #[.string s] w fun e w' => e = .returned (.agg (cutV (ofS s.data.toList))) ∧ Below w.heap.size w w' := by
 obtain ⟨z1, z2⟩ := kR_one s.data.toList
 have hin : RofIn w ((w.alloc (.cells #[.int .i64 0, .string ⟨#[]⟩, .string ⟨#[]⟩, .bool false] 79)).alloc (.cells #[.int .i64 0, .string ⟨#[]⟩, .string ⟨#[]⟩, .bool false] 79)) (cutV ⟨kR s.data.toList 1, [], [], false⟩) := by
  rw [z1]
  refine ⟨((Below.refl _ _).alloc (Nat.le_refl _) _).alloc (by simp) _, heap_alloc (heap_alloc_new _ _) _, ?_⟩
  rw [show w.heap.size + 1 = (w.alloc (.cells #[.int .i64 0, .string ⟨#[]⟩, .string ⟨#[]⟩, .bool false] 79)).heap.size by simp]
  exact heap_alloc_new _ _
 have HIN := Lib.hid hin; clear hin z1
 have Z2 := Lib.hid z2; clear z2
 go_enter Tryz.func40, Tryz.ntmps40
 go_wp2_with fail
 generalize (w.alloc (.cells #[.int .i64 0, .string ⟨#[]⟩, .string ⟨#[]⟩, .bool false] 79)).alloc (.cells #[.int .i64 0, .string ⟨#[]⟩, .string ⟨#[]⟩, .bool false] 79) = w1 at *
 go_loopg [4, 5] 6 (fun f rest i wr => ∃ k : Nat, 1 ≤ k ∧ k ≤ 5 ∧ 5 - k < f ∧ i = .int .i64 k ∧ rest = .string ⟨(rR s.data.toList k).toArray⟩ ∧ Hid (RofIn w wr (cutV ⟨kR s.data.toList k, [], [], false⟩)))
 case atStart => exact ⟨1, by omega, by omega, by omega, rfl, by rw [Z2.out], HIN⟩
 case round =>
  obtain ⟨k, h1k, hk5, hf, rfl, rfl, HI⟩ := hrel
  by_cases hk4 : k ≤ 4
  ·obtain ⟨F, hF⟩ : ∃ F : ByteArray, F = ⟨(sufS k).toArray⟩ := ⟨_, rfl⟩
   have HS := Lib.hid (suffix1_any (k : Int) wr (sufS k) (sufJ_nat k))
   rw [← hF] at HS
   obtain ⟨E, hE⟩ : ∃ E : ByteArray, (⟨#[46]⟩ : ByteArray) ++ F = E := ⟨_, rfl⟩
   have hEd : E.data.toList = 46 :: sufS k := by rw [← hE, hF]; simp [ByteArray.data_append]
   have hEz : E.size = (sufS k).length + 1 := by
    have : E.data.toList.length = E.size := by simp
    rw [← this, hEd]; rfl
   have hsl := suf_len k
   have hsz : s.data.toList.length = s.size := by simp
   have hF0 := hF; clear hF
   by_cases hmt : (cutPt s.data.toList).1 ≠ [] ∧ kindOf (cutPt s.data.toList).2 = k
   ·have hs := of_match h1k hk4 hmt.1 hmt.2
    obtain ⟨r1, r2⟩ := kR_match h1k hmt.1 hmt.2
    obtain ⟨hd, hhd⟩ : ∃ hd, hd = (cutPt s.data.toList).1 := ⟨_, rfl⟩
    rw [← hhd] at hs r2
    have hdn : 0 < hd.length := List.length_pos_iff.2 (by rw [hhd]; exact hmt.1)
    have hlen : hd.length + E.size = s.size := by rw [← hsz, hs, hEz]; simp
    have x1 : s.extract hd.length s.size = E := by
     apply bytes_ext; rw [Lib.extract_to_end, hs, hEd]; simp
    have x2 : s.extract 0 hd.length = ⟨hd.toArray⟩ := ext_str1 s 0 _ _ (by rw [Lib.extract_data, hs]; simp)
    have n1 : (s.size : Int) - (E.size : Int) = (hd.length : Int) := by omega
    have n2 : (E.size : Int) < (s.size : Int) := by omega
    have n3 : IntKind.i64.wrap (hd.length : Int) = (hd.length : Int) := IntWalk.i64_in _ (by omega)
    have n4 : (hd.length : Int) ≤ (s.size : Int) := by omega
    have X1 := Lib.hid x1; have X2 := Lib.hid x2
    have R1 := Lib.hid r1; have R2 := Lib.hid r2
    have hq : hd.length ≤ s.size := by omega
    have hFz : F.size ≤ 7 := by rw [hF0]; show (sufS k).toArray.size ≤ 7; simpa using hsl
    clear hs hmt hhd hsz hEd x1 x2 r1 r2 hEz hlen hF0
    have h63 : s.size < 100 := by omega
    have q1 : ((s.extract hd.length s.size).toList == E.toList) = true := by rw [X1.out]; simp
    go_wp2_with (go_at_call 66; refine HS.out.mono ?_; rintro e w' ⟨rfl, rfl⟩)
    have e1 := HI.out.cut
    obtain ⟨cc, fc, -, -⟩ := rd e1
    have c0 := cc 0; have f0 := fc 0
    simp only [cutV, List.getElem?_toArray, List.getElem?_cons_zero] at c0
    clear cc fc e1
    go_region_held3 (fun w' => w'.frozen? ⟨w.heap.size + 1, 0, none⟩ = false) (go_keep) (first | fail)
    have hI2 : RofIn w ((wr.setCell ⟨w.heap.size + 1, 0, none⟩ (.int .i64 k)).drew) (cutV ⟨kR s.data.toList (k + 1), [], [], false⟩) := by
     rw [R1.out]; exact (HI.out.set 0 (.int .i64 k)).dn 1
    have HI2 := Lib.hid hI2
    rename_i hHeld
    clear hI2 c0 f0 hHeld
    generalize (wr.setCell ⟨w.heap.size + 1, 0, none⟩ (.int .i64 k)).drew = w2 at *
    go_wp2_with fail
    go_roundg (gk - 1)
    case measure => omega
    case rel => exact ⟨k + 1, by omega, by omega, by omega, by go_num, by rw [X2.out, R2.out], HI2⟩
   ·obtain ⟨r1, r2⟩ := kR_no hmt
    have hFz : F.size ≤ 7 := by rw [hF0]; show (sufS k).toArray.size ≤ 7; simpa using hsl
    have HI2 := Lib.hid (show RofIn w wr (cutV ⟨kR s.data.toList (k + 1), [], [], false⟩) by rw [r1]; exact HI.out)
    have R2 := Lib.hid r2
    have h63 : s.size < 100 := by omega
    by_cases hlt2 : E.size < s.size
    ·obtain ⟨n, hn⟩ : ∃ n, n + E.size = s.size := ⟨s.size - E.size, by omega⟩
     have hne := of_nomatch h1k hk4 hmt (by rw [hsz]; omega) n (by rw [hsz]; omega)
     have q1 : ((s.extract n s.size).toList == E.toList) = false := by
      rw [beq_eq_false_iff_ne, ByteArray.toList_eq, ByteArray.toList_eq, Lib.extract_to_end, hEd]; exact hne
     have n1 : (s.size : Int) - (E.size : Int) = (n : Int) := by omega
     have n2 : (E.size : Int) < (s.size : Int) := by omega
     have n3 : IntKind.i64.wrap (n : Int) = (n : Int) := IntWalk.i64_in _ (by omega)
     have n4 : (n : Int) ≤ (s.size : Int) := by omega
     clear hmt hsz hEd r1 r2 hEz hne hF0 hn
     go_wp2_with (go_at_call 66; refine HS.out.mono ?_; rintro e w' ⟨rfl, rfl⟩)
     go_roundg (gk - 1)
     case measure => omega
     case rel => exact ⟨k + 1, by omega, by omega, by omega, by go_num, by rw [R2.out], HI2⟩
    ·have n2 : ¬ (E.size : Int) < (s.size : Int) := by omega
     clear hmt hsz hEd r1 r2 hEz hF0
     go_wp2_with (go_at_call 66; refine HS.out.mono ?_; rintro e w' ⟨rfl, rfl⟩)
     go_roundg (gk - 1)
     case measure => omega
     case rel => exact ⟨k + 1, by omega, by omega, by omega, by go_num, by rw [R2.out], HI2⟩
  ·have hke : k = 5 := by omega
   subst hke
   have hlen60 : s.data.toList.length ≤ 60 := by simpa using h
   rcases kR_end s.data.toList with ⟨k1, k2⟩ | ⟨k1, k2, k3⟩
   ·have HZ := Lib.hid (show ofS s.data.toList = cutZ by unfold ofS; rw [if_pos k2])
    have hI := HI.out
    rw [k1] at hI
    obtain ⟨cc, -, -, -⟩ := rd hI.cut
    have c0 := cc 0
    obtain ⟨dd, ff, -, -⟩ := rd hI.zero
    have d0 := dd 0; have d1 := dd 1; have d2 := dd 2; have d3 := dd 3
    have f0 := ff 0; have f1 := ff 1; have f2 := ff 2; have f3 := ff 3
    simp only [cutV, List.getElem?_toArray, List.getElem?_cons_zero, List.getElem?_cons_succ] at c0 d0 d1 d2 d3
    have HI2 := Lib.hid hI
    clear cc dd ff hI k1 k2
    go_wp2_with fail
    refine post_cut rfl rfl rfl (heap_setCell (heap_setCell (heap_setCell (heap_setCell HI2.out.zero 0 _) 1 _) 2 _) 3 _) ⟨?_, ?_⟩
    ·rw [HZ.out]; rfl
    ·exact (((HI2.out.below.setCell (by simp) _).setCell (by simp) _).setCell (by simp) _).setCell (by simp) _
   ·obtain ⟨RB, hRB⟩ : ∃ RB : ByteArray, (⟨(rR s.data.toList 5).toArray⟩ : ByteArray) = RB := ⟨_, rfl⟩
    have hRd : RB.data.toList = (cutPt s.data.toList).1 := by rw [← hRB, k3]
    have hRz : RB.size < 1000 := by
     have h1 : RB.data.toList.length = RB.size := by simp
     have h2 := (cutPt_len s.data.toList).1
     rw [← hRd, h1] at h2
     omega
    have HE := Lib.hid (fun p i f h => of_end hlen60 k1 k2 p i f h)
    have hI := HI.out
    obtain ⟨kd, hkd⟩ : ∃ kd, kd = kR s.data.toList 5 := ⟨_, rfl⟩
    rw [← hkd] at hI k1 HE
    have HRd := Lib.hid hRd
    rw [hRB]
    obtain ⟨cc, ff, -, -⟩ := rd hI.cut
    have c0 := cc 0; have c1 := cc 1; have f1 := ff 1
    simp only [cutV, List.getElem?_toArray, List.getElem?_cons_zero, List.getElem?_cons_succ] at c0 c1
    have k0 : ((kd : Int) == 0) = false := by rw [beq_eq_false_iff_ne]; omega
    have HI2 := Lib.hid (hI.set 1 (.string RB))
    clear cc ff hI k1 k2 k3 hRB hRd hkd HI
    go_wp2_with fail
    generalize wr.setCell ⟨w.heap.size + 1, 1, none⟩ (.string RB) = w2 at *
    have HI3 := Lib.hid (show RofIn w w2 #[.int .i64 kd, .string RB, .string ⟨#[]⟩, .bool false] from HI2.out)
    clear HI2 c0 c1 f1 k0
    go_loop [7] (fun i => ∃ k : Nat, k ≤ RB.size ∧ i = .int .i64 k ∧ Hid ((RB.data.toList.take k).contains 64 = false)) (fun i => RB.size - (intOf i).toNat)
    case atStart => exact ⟨0, Nat.zero_le _, rfl, Lib.hid (by simp)⟩
    case round =>
     clear hk4 h1k hk5 hf
     obtain ⟨k, hk, rfl, Hno⟩ := hrel
     by_cases hlt : k < RB.size
     ·have hkl : k < RB.data.toList.length := by simpa using hlt
      have hsn := take_snoc RB.data.toList k hkl
      have hgk : RB.data.toList[k]'hkl = RB[k] := rfl
      rw [hgk] at hsn
      have i5 : (k : Int) < (RB.size : Int) := by omega
      cases hat : ((RB[k].toNat : Int) == 64) with
      | true =>
       have hc : RB[k] = 64 := by
        rw [← UInt8.toNat_inj]
        have := eq_of_beq hat
        have e2 : ((64 : UInt8).toNat : Int) = 64 := rfl
        omega
       have hs : RB.data.toList = RB.data.toList.take k ++ 64 :: RB.data.toList.drop (k + 1) := by
        conv => lhs; rw [← List.take_append_drop k RB.data.toList, List.drop_eq_getElem_cons hkl, hgk, hc]
       have hca := cutAt_here (RB.data.toList.take k) (RB.data.toList.drop (k + 1)) Hno.out
       rw [← hs, HRd.out] at hca
       have HE2 := Lib.hid (HE.out _ _ _ hca)
       obtain ⟨PB, hPB⟩ : ∃ PB : ByteArray, RB.extract 0 k = PB := ⟨_, rfl⟩
       obtain ⟨IB, hIB⟩ : ∃ IB : ByteArray, RB.extract (k + 1) RB.size = IB := ⟨_, rfl⟩
       have hPd : PB.data.toList = RB.data.toList.take k := by rw [← hPB, Lib.extract_data]; simp
       have hId : IB.data.toList = RB.data.toList.drop (k + 1) := by rw [← hIB, Lib.extract_to_end]
       have hPz : PB.size < 1000 := by
        have h1 : PB.data.toList.length = PB.size := by simp
        rw [← h1, hPd, List.length_take]; omega
       have hIz : IB.size < 1000 := by
        have h1 : IB.data.toList.length = IB.size := by simp
        have h2 : RB.data.toList.length = RB.size := by simp
        rw [← h1, hId, List.length_drop, h2]; omega
       rw [HRd.out] at hPd hId
       rw [← hPd, ← hId] at HE2
       have HPd := Lib.hid hPd; have HId := Lib.hid hId
       have i6 : IntKind.i64.wrap ((k : Int) + 1) = (k : Int) + 1 := IntWalk.i64_in _ (by omega)
       have i7 : 0 ≤ (k : Int) + 1 := by omega
       have i8 : ((k : Int) + 1).toNat = k + 1 := by omega
       have i9 : (k : Int) + 1 ≤ (RB.size : Int) := by omega
       have i10 : (k : Int) ≤ (RB.size : Int) := by omega
       obtain ⟨cc, ff, -, -⟩ := rd HI3.out.cut
       have f1 := ff 1; have f2 := ff 2; have f3 := ff 3
       have c1 := cc 1; have c2 := cc 2; have c3 := cc 3
       simp only [List.getElem?_toArray, List.getElem?_cons_zero, List.getElem?_cons_succ] at c1 c2 c3
       have HPB := Lib.hid hPB; have HIB := Lib.hid hIB
       clear cc ff hs hca hc hsn hgk hPd hId hPB hIB
       go_wp2_with fail
       go_region_held3 (fun w' => w'.frozen? ⟨w.heap.size + 1, 1, none⟩ = false ∧ w'.frozen? ⟨w.heap.size + 1, 2, none⟩ = false ∧ w'.frozen? ⟨w.heap.size + 1, 3, none⟩ = false) (go_keep) (first | fail)
       have hI5 : RofIn w (((w2.setCell ⟨w.heap.size + 1, 3, none⟩ (.bool true)).setCell ⟨w.heap.size + 1, 1, none⟩ (.string PB)).setCell ⟨w.heap.size + 1, 2, none⟩ (.string IB)).drew #[.int .i64 kd, .string PB, .string IB, .bool true] := (((HI3.out.set 3 (.bool true)).set 1 (.string PB)).set 2 (.string IB)).dn 1
       have HI5 := Lib.hid hI5
       rename_i hHeld
       clear hI5 hHeld c1 c2 c3 f1 f2 f3
       rw [HPB.out, HIB.out]
       clear HPB HIB
       generalize (((w2.setCell ⟨w.heap.size + 1, 3, none⟩ (.bool true)).setCell ⟨w.heap.size + 1, 1, none⟩ (.string PB)).setCell ⟨w.heap.size + 1, 2, none⟩ (.string IB)).drew = w5 at *
       obtain ⟨cc, -, -, -⟩ := rd HI5.out.cut
       have c0 := cc 0; have c1 := cc 1; have c2 := cc 2; have c3 := cc 3
       obtain ⟨dd, ff, -, -⟩ := rd HI5.out.zero
       have d0 := dd 0; have d1 := dd 1; have d2 := dd 2; have d3 := dd 3
       have f0 := ff 0; have f1 := ff 1; have f2 := ff 2; have f3 := ff 3
       simp only [List.getElem?_toArray, List.getElem?_cons_zero, List.getElem?_cons_succ] at c0 c1 c2 c3 d0 d1 d2 d3
       clear cc dd ff
       by_cases hP0 : PB.size = 0
       ·have hPn := str_nil hP0
        have HZ := Lib.hid (show ofS s.data.toList = cutZ from HE2.out.1 (.inl (by rw [hPn])))
        subst hPn
        clear HE2 hP0
        go_wp2_with fail
        refine post_cut rfl rfl rfl (heap_setCell (heap_setCell (heap_setCell (heap_setCell HI5.out.zero 0 _) 1 _) 2 _) 3 _) ⟨?_, ?_⟩
        ·rw [HZ.out]; rfl
        ·exact (((HI5.out.below.setCell (by simp) _).setCell (by simp) _).setCell (by simp) _).setCell (by simp) _
       ·obtain ⟨n1, n2, n3, n4⟩ := str_ne hP0
        have hPne : PB.data.toList ≠ [] := by rw [ByteArray.toList_eq] at n2; exact n2
        obtain ⟨AB, hAB⟩ : ∃ AB : ByteArray, PB ++ IB = AB := ⟨_, rfl⟩
        have hAd : AB.data.toList = PB.data.toList ++ IB.data.toList := by rw [← hAB]; simp [ByteArray.data_append]
        have hAz : AB.size < 2000 := by
         have h1 : AB.size = PB.size + IB.size := by rw [← hAB, ByteArray.size_append]
         omega
        have HE3 := Lib.hid (HE2.out.2 hPne)
        have HE4 := Lib.hid (fun q => HE2.out.1 (.inr q))
        rw [← hAd] at HE3 HE4
        clear HE2 hPne hAd
        go_wp2_with fail
        clear hAB
        go_loop [9] (fun i => ∃ j : Nat, j ≤ AB.size ∧ i = .int .i64 j ∧ Hid ((AB.data.toList.take j).all nameC = true)) (fun i => AB.size - (intOf i).toNat)
        case atStart => exact ⟨0, Nat.zero_le _, rfl, Lib.hid (by simp)⟩
        case round =>
         obtain ⟨j, hj, rfl, Hall⟩ := hrel
         by_cases hjl : j < AB.size
         ·have hjl2 : j < AB.data.toList.length := by simpa using hjl
          have hsn := take_snoc AB.data.toList j hjl2
          have hgj : AB.data.toList[j]'hjl2 = AB[j] := rfl
          rw [hgj] at hsn
          have j5 : (j : Int) < (AB.size : Int) := by omega
          cases hnc : nameC AB[j] with
          | true =>
           have HN := Lib.hid (show (AB.data.toList.take (j + 1)).all nameC = true by rw [hsn, List.all_append, Hall.out]; simp [hnc])
           have HC := Lib.hid (fun W => nameByte_any AB[j] W true hnc)
           clear hsn hgj hnc
           go_wp2_with (refine (HC.out _).mono ?_; rintro e w' ⟨rfl, rfl⟩)
           go_round
           case rel => exact ⟨j + 1, by omega, by go_num, HN⟩
           case measure => simp [intOf]; omega
          | false =>
           have HZ := Lib.hid (show ofS s.data.toList = cutZ from HE4.out (by
            unfold nameB; rw [List.all_eq_false]
            exact ⟨AB[j], by rw [← hgj]; exact List.getElem_mem _, by simp [hnc]⟩))
           have HC := Lib.hid (fun W => nameByte_any AB[j] W false hnc)
           clear hsn hgj hnc
           go_wp2_with (refine (HC.out _).mono ?_; rintro e w' ⟨rfl, rfl⟩)
           refine post_cut rfl rfl rfl (heap_setCell (heap_setCell (heap_setCell (heap_setCell HI5.out.zero 0 _) 1 _) 2 _) 3 _) ⟨?_, ?_⟩
           ·rw [HZ.out]; rfl
           ·exact (((HI5.out.below.setCell (by simp) _).setCell (by simp) _).setCell (by simp) _).setCell (by simp) _
         ·have HO := Lib.hid (show ofS s.data.toList = _ from HE3.out (by
           have := Hall.out
           rw [List.take_of_length_le (by simp; omega)] at this
           exact this))
          go_wp2_with fail
          refine post_cut rfl rfl rfl (heap_setCell (heap_setCell (heap_setCell (heap_setCell HI5.out.zero 0 _) 1 _) 2 _) 3 _) ⟨?_, ?_⟩
          ·rw [HO.out]; rfl
          ·exact (((HI5.out.below.setCell (by simp) _).setCell (by simp) _).setCell (by simp) _).setCell (by simp) _
      | false =>
       have hc : RB[k] ≠ 64 := by
        intro e; rw [e] at hat; exact absurd hat (by decide)
       have HN := Lib.hid (show (RB.data.toList.take (k + 1)).contains 64 = false by
        rw [hsn, List.contains_append, Hno.out]
        simp
        exact fun e => hc e.symm)
       clear hsn hgk hc
       go_wp2_with fail
       go_round
       case rel => exact ⟨k + 1, by omega, by go_num, HN⟩
       case measure => simp [intOf]; omega
     ·have hca := cutAt_no RB.data.toList (by
       have := Hno.out
       rw [List.take_of_length_le (by simp; omega)] at this
       exact this)
      rw [HRd.out] at hca
      have HE2 := Lib.hid (HE.out _ _ _ hca)
      rw [← HRd.out] at HE2
      have HI5 := HI3
      clear hca HI3 HE
      obtain ⟨cc, -, -, -⟩ := rd HI5.out.cut
      have c0 := cc 0; have c1 := cc 1; have c2 := cc 2; have c3 := cc 3
      obtain ⟨dd, ff, -, -⟩ := rd HI5.out.zero
      have d0 := dd 0; have d1 := dd 1; have d2 := dd 2; have d3 := dd 3
      have f0 := ff 0; have f1 := ff 1; have f2 := ff 2; have f3 := ff 3
      simp only [List.getElem?_toArray, List.getElem?_cons_zero, List.getElem?_cons_succ] at c0 c1 c2 c3 d0 d1 d2 d3
      clear cc dd ff
      by_cases hP0 : RB.size = 0
      ·have hPn := str_nil hP0
       have HZ := Lib.hid (show ofS s.data.toList = cutZ from HE2.out.1 (.inl (by rw [hPn])))
       subst hPn
       clear HE2 hP0
       go_wp2_with fail
       refine post_cut rfl rfl rfl (heap_setCell (heap_setCell (heap_setCell (heap_setCell HI5.out.zero 0 _) 1 _) 2 _) 3 _) ⟨?_, ?_⟩
       ·rw [HZ.out]; rfl
       ·exact (((HI5.out.below.setCell (by simp) _).setCell (by simp) _).setCell (by simp) _).setCell (by simp) _
      ·obtain ⟨n1, n2, n3, n4⟩ := str_ne hP0
       have hPne : RB.data.toList ≠ [] := by rw [ByteArray.toList_eq] at n2; exact n2
       obtain ⟨AB, hAB⟩ : ∃ AB : ByteArray, RB ++ (⟨#[]⟩ : ByteArray) = AB := ⟨_, rfl⟩
       have hAd : AB.data.toList = RB.data.toList ++ [] := by rw [← hAB]; simp [ByteArray.data_append]
       have hAz : AB.size < 2000 := by
        have h1 : AB.size = RB.size + 0 := by rw [← hAB, ByteArray.size_append]; rfl
        omega
       have HE3 := Lib.hid (HE2.out.2 hPne)
       have HE4 := Lib.hid (fun q => HE2.out.1 (.inr q))
       rw [← hAd] at HE3 HE4
       clear HE2 hPne hAd
       go_wp2_with fail
       clear hAB
       go_loop [9] (fun i => ∃ j : Nat, j ≤ AB.size ∧ i = .int .i64 j ∧ Hid ((AB.data.toList.take j).all nameC = true)) (fun i => AB.size - (intOf i).toNat)
       case atStart => exact ⟨0, Nat.zero_le _, rfl, Lib.hid (by simp)⟩
       case round =>
        obtain ⟨j, hj, rfl, Hall⟩ := hrel
        by_cases hjl : j < AB.size
        ·have hjl2 : j < AB.data.toList.length := by simpa using hjl
         have hsn := take_snoc AB.data.toList j hjl2
         have hgj : AB.data.toList[j]'hjl2 = AB[j] := rfl
         rw [hgj] at hsn
         have j5 : (j : Int) < (AB.size : Int) := by omega
         cases hnc : nameC AB[j] with
         | true =>
          have HN := Lib.hid (show (AB.data.toList.take (j + 1)).all nameC = true by rw [hsn, List.all_append, Hall.out]; simp [hnc])
          have HC := Lib.hid (fun W => nameByte_any AB[j] W true hnc)
          clear hsn hgj hnc
          go_wp2_with (refine (HC.out _).mono ?_; rintro e w' ⟨rfl, rfl⟩)
          go_round
          case rel => exact ⟨j + 1, by omega, by go_num, HN⟩
          case measure => simp [intOf]; omega
         | false =>
          have HZ := Lib.hid (show ofS s.data.toList = cutZ from HE4.out (by
           unfold nameB; rw [List.all_eq_false]
           exact ⟨AB[j], by rw [← hgj]; exact List.getElem_mem _, by simp [hnc]⟩))
          have HC := Lib.hid (fun W => nameByte_any AB[j] W false hnc)
          clear hsn hgj hnc
          go_wp2_with (refine (HC.out _).mono ?_; rintro e w' ⟨rfl, rfl⟩)
          refine post_cut rfl rfl rfl (heap_setCell (heap_setCell (heap_setCell (heap_setCell HI5.out.zero 0 _) 1 _) 2 _) 3 _) ⟨?_, ?_⟩
          ·rw [HZ.out]; rfl
          ·exact (((HI5.out.below.setCell (by simp) _).setCell (by simp) _).setCell (by simp) _).setCell (by simp) _
        ·have HO := Lib.hid (show ofS s.data.toList = _ from HE3.out (by
          have := Hall.out
          rw [List.take_of_length_le (by simp; omega)] at this
          exact this))
         go_wp2_with fail
         refine post_cut rfl rfl rfl (heap_setCell (heap_setCell (heap_setCell (heap_setCell HI5.out.zero 0 _) 1 _) 2 _) 3 _) ⟨?_, ?_⟩
         ·rw [HO.out]; rfl
         ·exact (((HI5.out.below.setCell (by simp) _).setCell (by simp) _).setCell (by simp) _).setCell (by simp) _
end Go.Proofs.YtdpnahojhmkemaaGreatDoor
namespace Go.Proofs.YtdpnahojhmkemaaGreatDoor
open Go Go.RowKit
set_option linter.unusedVariables false
set_option maxRecDepth 100000
theorem of_any (s : ByteArray) (w : World) (c : CutS) (hc : ofS s.data.toList = c) : Calls Tryz.prog 40 #[.string s] w fun e w' => e = .returned (.agg #[.int .i64 c.kind, .string ⟨c.pre.toArray⟩, .string ⟨c.inst.toArray⟩, .bool c.at_]) ∧ Below w.heap.size w w' := by
 subst hc
 by_cases h : s.size ≤ 60
 ·exact of_short s w h
 ·have hz : ofS s.data.toList = cutZ := by
   have hl : ¬ s.data.toList.length ≤ 60 := by simpa using h
   have : kindS s.data.toList = 0 := by unfold kindS; rw [if_neg (fun q => hl q.1)]
   unfold ofS; rw [if_pos this]
  rw [hz]
  exact of_long s w (by omega)
theorem field_cut (a b c d : Value) (h : a.cells = #[a]) (W : World) : (Instr.field 79 (.agg #[a, b, c, d]) 0).run Tryz.prog W = .ok a W := by
 first | rfl | simp [Instr.field, go_sem, h]
theorem mayR1_any (s : ByteArray) (w : World) (b : Bool) (hb : decide (kindS s.data.toList ≠ 0) = b) :
  Calls Tryz.prog 19 #[.string s] w fun e w' => e = .returned (.bool b) ∧ Below w.heap.size w w' := by
 have HO := Lib.hid (of_any s w _ rfl)
 have hk := ofS_kind s.data.toList
 have hb' : decide (0 < (ofS s.data.toList).kind) = b := by
  rw [← hb, hk]
  by_cases h : kindS s.data.toList = 0
  ·rw [h]; rfl
  ·simp [h]; omega
 generalize ofS s.data.toList = c at HO hb'
 clear hb hk
 have hfl := field_cut (.int .i64 c.kind) (.string ⟨c.pre.toArray⟩) (.string ⟨c.inst.toArray⟩) (.bool c.at_) rfl
 go_enter Tryz.func19, Tryz.ntmps19
 go_wp2_with (refine HO.out.mono ?_; rintro e w' ⟨rfl, hb1⟩)
 go_ret
 exact ⟨rfl, hb1⟩
end Go.Proofs.YtdpnahojhmkemaaGreatDoor
namespace Go.Proofs.YtdpnahojhmkemaaGreatDoor
open Go Go.RowKit
set_option linter.unusedVariables false
set_option linter.unusedSimpArgs false
set_option maxRecDepth 100000
theorem field_cut3 (a b c d : Value) (h : d.cells = #[d]) (W : World) : (Instr.field 79 (.agg #[a, b, c, d]) 3).run Tryz.prog W = .ok d W := by
 first | rfl | simp [Instr.field, go_sem, h]
theorem field_cut2 (a b c d : Value) (h : c.cells = #[c]) (W : World) : (Instr.field 79 (.agg #[a, b, c, d]) 2).run Tryz.prog W = .ok c W := by
 first | rfl | simp [Instr.field, go_sem, h]
theorem istpl_any (s : ByteArray) (w : World) (b : Bool) (hb : ((ofS s.data.toList).at_ && (ofS s.data.toList).inst.isEmpty) = b) :
  Calls Tryz.prog 20 #[.string s] w fun e w' => e = .returned (.bool b) ∧ Below w.heap.size w w' := by
 have HO := Lib.hid (fun W => of_any s W _ rfl)
 obtain ⟨⟨k, pre, inst, at_⟩, hc⟩ : ∃ c, c = ofS s.data.toList := ⟨_, rfl⟩
 rw [← hc] at HO hb
 simp only at HO hb
 clear hc
 have h3 := field_cut3 (.int .i64 k) (.string ⟨pre.toArray⟩) (.string ⟨inst.toArray⟩) (.bool at_) rfl
 have h2 := field_cut2 (.int .i64 k) (.string ⟨pre.toArray⟩) (.string ⟨inst.toArray⟩) (.bool at_) rfl
 cases at_ with
 | false =>
  have HR := Lib.hid (show b = false by rw [← hb]; rfl)
  clear hb
  go_enter Tryz.func20, Tryz.ntmps20
  go_wp2_with fail
  refine (HO.out _).mono ?_
  rintro e w1 ⟨rfl, hb1⟩
  have HB1 := Lib.hid hb1; clear hb1 HO
  go_wp2_with fail
  go_ret
  exact ⟨by rw [HR.out]; rfl, HB1.out⟩
 | true =>
  have HR := Lib.hid (show b = inst.isEmpty by rw [← hb]; simp)
  clear hb
  cases inst with
  | nil =>
   go_enter Tryz.func20, Tryz.ntmps20
   go_wp2_with fail
   refine (HO.out _).mono ?_
   rintro e w1 ⟨rfl, hb1⟩
   have HB1 := Lib.hid hb1; clear hb1
   go_wp2_with fail
   refine (HO.out _).mono ?_
   rintro e w2 ⟨rfl, hb2⟩
   have HB2 := Lib.hid (HB1.out.trans (hb2.mono HB1.out.size)); clear hb2 HO HB1
   go_wp2_with fail
   go_ret
   exact ⟨by rw [HR.out]; rfl, HB2.out⟩
  | cons c t =>
   have hsz : (⟨(c :: t).toArray⟩ : ByteArray).size ≠ 0 := by simp [ByteArray.size]
   obtain ⟨n1, n2, n3, n4⟩ := str_ne hsz
   generalize (⟨(c :: t).toArray⟩ : ByteArray) = q at *
   go_enter Tryz.func20, Tryz.ntmps20
   go_wp2_with fail
   refine (HO.out _).mono ?_
   rintro e w1 ⟨rfl, hb1⟩
   have HB1 := Lib.hid hb1; clear hb1
   go_wp2_with fail
   refine (HO.out _).mono ?_
   rintro e w2 ⟨rfl, hb2⟩
   have HB2 := Lib.hid (HB1.out.trans (hb2.mono HB1.out.size)); clear hb2 HO HB1
   go_wp2_with fail
   go_ret
   exact ⟨by rw [HR.out]; rfl, HB2.out⟩
end Go.Proofs.YtdpnahojhmkemaaGreatDoor
namespace Go.Proofs.YtdpnahojhmkemaaGreatDoor
open Go Go.RowKit
set_option linter.unusedVariables false
set_option linter.unusedSimpArgs false
set_option maxRecDepth 100000
def namedB (s : Str) : Bool := decide (kindS s ≠ 0) && !((ofS s).at_ && (ofS s).inst.isEmpty)
set_option maxHeartbeats 1000000 in
theorem namedR_any (s : ByteArray) (w : World) (r : Bool) (hr : namedB s.data.toList = r) :
  Calls Tryz.prog 33 #[.string s] w fun e w' => e = .returned (.bool r) ∧ Below w.heap.size w w' := by
 obtain ⟨m, hm⟩ : ∃ m, decide (kindS s.data.toList ≠ 0) = m := ⟨_, rfl⟩
 obtain ⟨t, ht⟩ : ∃ t, ((ofS s.data.toList).at_ && (ofS s.data.toList).inst.isEmpty) = t := ⟨_, rfl⟩
 have HM := Lib.hid (fun V => mayR1_any s V m hm)
 have HT := Lib.hid (fun V => istpl_any s V t ht)
 have HR := Lib.hid (show (m && !t) = r by rw [← hr, ← hm, ← ht]; rfl)
 clear hm ht hr
 cases m with
 | false =>
  have HN := Lib.hid (show false = r from HR.out)
  clear HR
  go_enter Tryz.func33, Tryz.ntmps33
  go_wp2_with fail
  refine (HM.out _).mono ?_
  rintro e w1 ⟨rfl, hb1⟩
  go_wp2_with fail
  go_ret
  exact ⟨by rw [← HN.out]; rfl, hb1⟩
 | true =>
  have HN := Lib.hid (show (!t) = r from HR.out)
  clear HR
  go_enter Tryz.func33, Tryz.ntmps33
  go_wp2_with fail
  refine (HM.out _).mono ?_
  rintro e w1 ⟨rfl, hb1⟩
  have HB1 := Lib.hid hb1
  clear hb1
  go_wp2_with fail
  refine (HT.out _).mono ?_
  rintro e w2 ⟨rfl, hb2⟩
  have HB2 := Lib.hid (HB1.out.trans (hb2.mono HB1.out.size))
  clear hb2
  go_wp2_with fail
  go_ret
  exact ⟨by rw [← HN.out]; rfl, HB2.out⟩
end Go.Proofs.YtdpnahojhmkemaaGreatDoor
