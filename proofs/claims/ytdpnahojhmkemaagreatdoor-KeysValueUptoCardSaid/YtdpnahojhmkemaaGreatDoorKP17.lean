import Derived.Deep.LoopGhost
import Derived.Test.YtdpnahojhmkemaaGreatDoorKP6
import Derived.Test.YtdpnahojhmkemaaGreatDoorKP7
import Derived.Test.YtdpnahojhmkemaaGreatDoorKP9
import Derived.Test.YtdpnahojhmkemaaGreatDoorKP15
import Derived.Test.YtdpnahojhmkemaaGreatDoorKP16
namespace Go.Proofs.YtdpnahojhmkemaaGreatDoor
open Go Go.RowKit
set_option linter.unusedVariables false
set_option maxRecDepth 100000
def OutBl (R B : Nat) (s : ByteArray) (k : Nat) (bs : Str) (w : World) (e : Ending) (w' : World) : Prop :=
 e = .returned (.tuple #[]) ∧ FrB R B 5 w w' ∧ ∃ j, k ≤ j ∧ j ≤ s.size ∧ s.data.toList.drop j = (s.data.toList.drop k).dropWhile isBlank ∧ Rdr R B s j bs w'
set_option maxHeartbeats 1000000 in
theorem blanks_any (R B : Nat) (s : ByteArray) (k : Nat) (bs : List UInt8) (w : World) (h : Rdr R B s k bs w) (hk : k ≤ s.size) (hs : s.size < 549755813888) :
  Calls Tryz.prog 119 #[.pointer (some ⟨R, 0, none⟩)] w fun e w' => OutBl R B s k bs w e w' := by
 go_enter Tryz.func119, Tryz.ntmps119
 go_wp2_with fail
 go_loopg [2] (s.size - k + 1) (fun f _ wr => ∃ j : Nat, Rdr R B s j bs wr ∧ k ≤ j ∧ j ≤ s.size ∧ s.size - j < f ∧ Hid ((s.data.toList.drop j).dropWhile isBlank = (s.data.toList.drop k).dropWhile isBlank) ∧ FrB R B 5 w wr)
 case atStart => exact ⟨k, h, by omega, hk, by omega, rfl, FrB.refl _ _ _ _⟩
 case round =>
  obtain ⟨j, hr, hkj, hj, hfu, Hq, hfr⟩ := hrel
  obtain ⟨c0, c1, f1⟩ := hr.rd
  by_cases hlt : j < s.size
  ·have hd : decide (s.size ≤ j) = false := by simpa using hlt
   have hge : ¬ s.size ≤ j := by omega
   cases hbl : isBlank s[j] with
   | true =>
    have HR := Lib.hid (show (s.data.toList.drop (j + 1)).dropWhile isBlank = (s.data.toList.drop k).dropWhile isBlank by
     rw [← Hq.out, drop_cons s j hlt, List.dropWhile_cons, if_pos hbl])
    have HBl := Lib.hid hbl; clear hbl
    go_wp2_with fail
    go_quiet ((first
     | (go_at_call 120; exact Calls.quiet_of (end_any R B s j bs _ hr))
     | (go_at_call 144; exact quiet_same (HBl.out ▸ blank_any s[j] _))))
    go_wp2_with fail
    go_roundg (gk - 1)
    case measure => omega
    case rel => exact ⟨j + 1, (hr.moved (j + 1)).drewN _, by omega, by omega, by omega, HR, hfr.trans (FrB.setCell (FrB.drewN (FrB.refl _ _ _ _) _) 1 _)⟩
   | false =>
    have HR := Lib.hid (show s.data.toList.drop j = (s.data.toList.drop k).dropWhile isBlank by
     rw [← Hq.out, drop_cons s j hlt, List.dropWhile_cons, if_neg (by simp [hbl])])
    have HBl := Lib.hid hbl; clear hbl
    go_wp2_with fail
    go_quiet ((first
     | (go_at_call 120; exact Calls.quiet_of (end_any R B s j bs _ hr))
     | (go_at_call 144; exact quiet_same (HBl.out ▸ blank_any s[j] _))))
    go_wp2_with fail
    go_end0
    exact ⟨rfl, hfr.drewN _, j, hkj, hj, HR.out, hr.drewN _⟩
  ·have hd : decide (s.size ≤ j) = true := by simpa using hlt
   have hge : s.size ≤ j := by omega
   have HR := Lib.hid (show s.data.toList.drop j = (s.data.toList.drop k).dropWhile isBlank by
    rw [← Hq.out, List.drop_eq_nil_of_le (by simpa using hge)]; rfl)
   go_wp2_with fail
   go_quiet ((go_at_call 120; exact Calls.quiet_of (end_any R B s j bs _ hr)))
   go_wp2_with fail
   go_end0
   exact ⟨rfl, hfr.drewN _, j, hkj, hj, HR.out, hr.drewN _⟩
set_option maxHeartbeats 1000000 in
theorem begins_any (R B : Nat) (s : ByteArray) (k : Nat) (bs : List UInt8) (w : World) (h : Rdr R B s k bs w) (hk : k < s.size) (hs : s.size < 549755813888) (hbs : bs.length ≤ k) :
  Calls Tryz.prog 121 #[.pointer (some ⟨R, 0, none⟩)] w fun e w' => e = .returned (.int .i64 (beginsS (s.data.toList.drop k))) ∧ FrB R B 5 w w' := by
 obtain ⟨c0, c1, f1⟩ := h.rd
 cases hqu : isQuote s[k] with
 | true =>
  have HR := Lib.hid (show beginsS (s.data.toList.drop k) = 2 by rw [drop_cons s k hk]; simp [beginsS, hqu])
  rcases isQuoteB hqu with h39 | ⟨h39, h34⟩
  all_goals
   have n39 := bne_of h39
   try have n34 := bne_of h34
   go_enter Tryz.func121, Tryz.ntmps121
   go_wp2_with fail
   go_quiet (fail)
   go_wp2_with fail
   go_ret
   exact ⟨ret_int (by rw [HR.out]; rfl), (FrB.refl _ _ _ _).drewN _⟩
 | false =>
  obtain ⟨h39, h34⟩ := notQuote hqu
  have n39 := bne_of h39
  have n34 := bne_of h34
  cases ho : oneS (s.data.toList.drop k) with
  | error c =>
   have HR := Lib.hid (show beginsS (s.data.toList.drop k) = c by rw [drop_cons s k hk] at ho ⊢; simp [beginsS, hqu, ho])
   have hc0 := one_err_ne (by rw [drop_cons s k hk]; simp) ho
   have Ho := Lib.hid ho; clear ho
   go_enter Tryz.func121, Tryz.ntmps121
   go_wp2_with fail
   go_quiet (fail)
   go_wp2_with (go_at_call 145; refine (one_err R B s k bs _ (by exact h.drewN _) hk hs c Ho.out).mono ?_; rintro e w' ⟨rfl, n, rfl⟩)
   go_ret
   exact ⟨ret_int (by rw [HR.out]), (FrB.refl _ _ _ _).drewN _⟩
  | ok x =>
   obtain ⟨d, n⟩ := x
   have HR := Lib.hid (show beginsS (s.data.toList.drop k) = 2 by rw [drop_cons s k hk] at ho ⊢; simp [beginsS, hqu, ho])
   have Ho := Lib.hid ho; clear ho
   go_enter Tryz.func121, Tryz.ntmps121
   go_wp2_with fail
   go_quiet (fail)
   go_wp2_with (go_at_call 145; refine (one_ok R B s k bs _ (by exact h.drewN _) hk hs hbs d n Ho.out).mono ?_; rintro e w' ⟨rfl, hr2, hf2⟩)
   go_ret
   exact ⟨ret_int (by rw [HR.out]; rfl), ((FrB.refl _ _ _ _).drewN _).trans hf2⟩
theorem dropWhile_dropWhile {p : UInt8 → Bool} (l : Str) : (l.dropWhile p).dropWhile p = l.dropWhile p := by
 induction l with
 | nil => rfl
 | cons a l ih =>
  by_cases h : p a = true
  ·rw [List.dropWhile_cons, if_pos h, ih]
  ·rw [List.dropWhile_cons, if_neg h, List.dropWhile_cons, if_neg h]
theorem splitS_dw (f : Nat) (l : Str) (out : List Str) : splitS f (l.dropWhile isBlank) out = splitS f l out := by
 cases f with
 | zero => rfl
 | succ f => simp only [splitS, dropWhile_dropWhile]
theorem splitS_end {f : Nat} {s : ByteArray} {j : Nat} {out : List Str} (hf : s.size - j < f) (h : s.size ≤ j) : splitS f (s.data.toList.drop j) out = .ok out := by
 obtain ⟨f, rfl⟩ : ∃ f', f = f' + 1 := ⟨f - 1, by omega⟩
 rw [List.drop_eq_nil_of_le (by simpa using h)]
 rfl
theorem splitS_full {f : Nat} {s : ByteArray} {j : Nat} {out : List Str} (hf : s.size - j < f) (h : j < s.size) (hd : s.data.toList.drop j = (s.data.toList.drop j).dropWhile isBlank) (h32 : out.length = 32) : splitS f (s.data.toList.drop j) out = .error (beginsS (s.data.toList.drop j)) := by
 obtain ⟨f, rfl⟩ : ∃ f', f = f' + 1 := ⟨f - 1, by omega⟩
 simp only [splitS]
 rw [← hd, drop_cons s j h]
 simp [h32]
theorem splitS_err {f : Nat} {s : ByteArray} {j : Nat} {out : List Str} {c : Nat} (hf : s.size - j < f) (h : j < s.size) (hd : s.data.toList.drop j = (s.data.toList.drop j).dropWhile isBlank) (h32 : ¬ out.length = 32)
  (hn : nextS (s.size - j + 1) (s.data.toList.drop j) [] = .error c) : splitS f (s.data.toList.drop j) out = .error c := by
 obtain ⟨f, rfl⟩ : ∃ f', f = f' + 1 := ⟨f - 1, by omega⟩
 simp only [splitS]
 rw [← hd]
 rw [← drop_len] at hn
 rw [drop_cons s j h] at hn ⊢
 simp [h32] at hn ⊢
 rw [hn]
theorem splitS_ok {f : Nat} {s : ByteArray} {j : Nat} {out : List Str} {x r : Str} (hf : s.size - j < f) (h : j < s.size) (hd : s.data.toList.drop j = (s.data.toList.drop j).dropWhile isBlank) (h32 : ¬ out.length = 32)
  (hn : nextS (s.size - j + 1) (s.data.toList.drop j) [] = .ok (x, r)) : splitS f (s.data.toList.drop j) out = splitS (f - 1) r (out ++ [x]) := by
 obtain ⟨f, rfl⟩ : ∃ f', f = f' + 1 := ⟨f - 1, by omega⟩
 simp only [splitS]
 rw [← hd]
 rw [← drop_len] at hn
 rw [drop_cons s j h] at hn ⊢
 simp [h32] at hn ⊢
 rw [hn]
theorem next_len {x r : Str} : ∀ {f : Nat} {l bs : Str}, nextS f l bs = .ok (x, r) → r.length ≤ l.length
 | 0, _, _, h => by cases h
 | f + 1, [], _, h => by cases h; simp
 | f + 1, a :: l, bs, h => by
  simp only [nextS] at h
  split at h
  ·cases h; simp
  ·split at h
   ·split at h
    ·cases h
    ·rename_i hq
     have h1 := quoted_len hq
     have h2 := next_len h
     simp at *; omega
   ·split at h
    ·cases h
    ·rename_i d n ho
     have h1 := one_le ho
     have := next_len h
     simp at *; omega
theorem next_len' {x r : Str} {f : Nat} {a : UInt8} {l bs : Str} (ha : isBlank a = false) (h : nextS f (a :: l) bs = .ok (x, r)) : r.length ≤ l.length := by
 cases f with
 | zero => cases h
 | succ f =>
  simp only [nextS] at h
  split at h
  ·rename_i h'; rw [ha] at h'; cases h'
  ·split at h
   ·split at h
    ·cases h
    ·rename_i hq
     have h1 := quoted_len hq
     have h2 := next_len h
     omega
   ·split at h
    ·cases h
    ·rename_i d n ho
     have h1 := one_le ho
     have := next_len h
     simp at *; omega
theorem not_blank {s : ByteArray} {j : Nat} (h : j < s.size) (hd : s.data.toList.drop j = (s.data.toList.drop j).dropWhile isBlank) : isBlank s[j] = false := by
 cases hb : isBlank s[j] with
 | false => rfl
 | true =>
  rw [drop_cons s j h, List.dropWhile_cons, if_pos hb] at hd
  have := List.dropWhile_sublist (l := s.data.toList.drop (j + 1)) isBlank
  have := this.length_le
  rw [← hd] at this
  simp at this
  omega
theorem next_err_ne {c : Nat} : ∀ {f : Nat} {l bs : Str}, l.length < f → nextS f l bs = .error c → ((c : Int) != 0) = true
 | 0, _, _, h, _ => absurd h (by omega)
 | f + 1, [], _, _, h => by cases h
 | f + 1, a :: l, bs, hl, h => by
  simp only [nextS] at h
  split at h
  ·cases h
  ·split at h
   ·split at h
    ·rename_i hq
     cases h
     exact quoted_err_ne (by omega) hq
    ·rename_i hq
     have h1 := quoted_len hq
     exact next_err_ne (by simp at *; omega) h
   ·split at h
    ·rename_i ho
     cases h
     exact one_err_ne (by simp) ho
    ·rename_i d n ho
     have h1 := one_le ho
     exact next_err_ne (by simp at *; omega) h
def OutS (w : World) (res : Except Nat (List Str)) (e : Ending) (w' : World) : Prop :=
 Below w.heap.size w w' ∧ match res with
 | .error c => e = .returned (.tuple #[.slice none 0 0, .int .i64 c])
 | .ok l => ∃ v, e = .returned (.tuple #[v, .int .i64 0]) ∧ w'.ownsRow w.heap.size 9 1 v l.length (strVals l)
theorem infoString : (Tryz.prog.info? 9).map (fun i => (i.zero, i.size, i.bytes)) = some (some (.string ⟨#[]⟩), 1, 16) := by kernel_rfl
set_option maxHeartbeats 2000000 in
theorem split_any (s : ByteArray) (w : World) (hs : s.size < 549755813888) (res : Except Nat (List Str)) (hres : split s.data.toList = res) :
  Calls Tryz.prog 90 #[.string s] w fun e w' => OutS w res e w' := by
 have Hres := Lib.hid hres; clear hres
 obtain ⟨i0, hi, hz0, hz1, hz2⟩ := info_parts infoString
 go_enter Tryz.func90, Tryz.ntmps90
 have hr0 : Rdr w.heap.size (w.heap.size + 1) s 0 [] (w.alloc (.cells #[.string s, .int .i64 0, .pointer none, .slice none 0 0] 153)) :=
  ⟨.pointer none, .slice none 0 0, heap_alloc_new w _, .inl rfl, .inl ⟨rfl, rfl⟩, by omega, by simp⟩
 have hb0 : Below w.heap.size w (w.alloc (.cells #[.string s, .int .i64 0, .pointer none, .slice none 0 0] 153)) := (Below.refl _ _).alloc (Nat.le_refl _) _
 go_wp2_with fail
 generalize w.alloc (.cells #[.string s, .int .i64 0, .pointer none, .slice none 0 0] 153) = w1 at hr0 hb0 ⊢
 generalize hRn : w.heap.size = R at *
 have HRn := Lib.hid hRn; clear hRn
 refine (blanks_any R (R + 1) s 0 [] _ hr0 (by omega) hs).mono ?_
 rintro e w2 ⟨rfl, hf2, j0, -, hj0, hd0, hr2⟩
 have hb2 : Below R w w2 := hb0.trans (hf2.below R (by omega) (by omega) (by obtain ⟨_, _, h, _⟩ := hr0; have := lt_heap h; omega))
 have HD0 := Lib.hid hd0; clear hd0
 go_wp2_with fail
 go_loopg [5, 6, 7] (s.size + 1) (fun f v _ _ wr => ∃ (j : Nat) (cs : List UInt8) (out : List Str), Rdr R (R + 1) s j cs wr ∧ j ≤ s.size ∧ cs.length ≤ j ∧ s.size - j < f ∧ Hid (s.data.toList.drop j = (s.data.toList.drop j).dropWhile isBlank) ∧ Hid (splitS f (s.data.toList.drop j) out = res) ∧
  out.length ≤ 32 ∧ Hid (wr.ownsRow R 9 1 v out.length (strVals out)) ∧ Hid (Below R w wr))
 case atStart =>
  refine ⟨j0, [], [], hr2, hj0, by simp, by omega, ?_, ?_, by simp, World.ownsRow_nil _ _ _ _, hb2⟩
  ·show _ = _
   rw [HD0.out, dropWhile_dropWhile]
  ·have h1 := HD0.out
   have h2 := Hres.out
   unfold split at h2
   show splitS _ _ _ = _
   rw [h1, splitS_dw]
   simpa using h2
 case round =>
  obtain ⟨j, cs, out, hr, hj, hcs, hfu, Hd, Hq, hol, Hown, Hbel⟩ := hrel
  obtain ⟨c0, c1, f1⟩ := hr.rd
  obtain ⟨oa, cap, rfl⟩ := ownsRow_form Hown.out
  by_cases hlt : j < s.size
  ·have hd : decide (s.size ≤ j) = false := by simpa using hlt
   have hge : ¬ s.size ≤ j := by omega
   by_cases h32 : out.length = 32
   ·have h32' : ((out.length : Int) == 32) = true := by simp [h32]
    have HR := Lib.hid (Hq.out.symm.trans (splitS_full hfu hlt Hd.out h32))
    clear h32
    go_wp2_with (first
     | (go_at_call 120; refine (end_any R (R + 1) s j cs _ (by exact hr)).mono ?_; rintro e w' ⟨rfl, n, rfl⟩)
     | (go_at_call 121; refine (begins_any R (R + 1) s j cs _ (by exact hr.drewN _) hlt hs hcs).mono ?_; rintro e w' ⟨rfl, hf3⟩))
    go_ret2
    have hRl : R < wr.heap.size := by obtain ⟨_, _, h, _⟩ := hr; exact lt_heap h
    refine ⟨?_, by rw [HR.out]; rfl⟩
    rw [HRn.out]
    exact Hbel.out.trans (((FrB.drewN (FrB.refl R (R + 1) _ wr) n).trans hf3).below R (by omega) (by omega) (by omega))
   ·have h32' : ((out.length : Int) == 32) = false := by rw [beq_eq_false_iff_ne]; omega
    cases hn : nextS (s.size - j + 1) (s.data.toList.drop j) [] with
    | error c =>
     have HR := Lib.hid (Hq.out.symm.trans (splitS_err hfu hlt Hd.out h32 hn))
     have hc0 := next_err_ne (by rw [drop_len]; omega) hn
     have HN := Lib.hid hn; clear hn h32
     go_wp2_with (first
      | (go_at_call 120; refine (end_any R (R + 1) s j cs _ (by exact hr)).mono ?_; rintro e w' ⟨rfl, n, rfl⟩)
      | (go_at_call 122; refine (next_any R (R + 1) s j cs _ (by exact hr.drewN _) hj hs _ HN.out).mono ?_; rintro e w' ⟨hf3, rfl⟩))
     go_ret2
     have hRl : R < wr.heap.size := by obtain ⟨_, _, h, _⟩ := hr; exact lt_heap h
     refine ⟨?_, by rw [HR.out]; rfl⟩
     rw [HRn.out]
     exact Hbel.out.trans (((FrB.drewN (FrB.refl R (R + 1) _ wr) n).trans hf3).below R (by omega) (by omega) (by omega))
    | ok x =>
     obtain ⟨x, r⟩ := x
     have HR := Lib.hid ((splitS_ok hfu hlt Hd.out h32 hn).symm.trans Hq.out)
     have hlr : r.length ≤ s.size - (j + 1) := by
      have h1 := hn
      rw [drop_cons s j hlt] at h1
      have := next_len' (not_blank hlt Hd.out) h1
      rw [drop_len] at this; exact this
     have hol' : out.length < 32 := by omega
     have HN := Lib.hid hn; clear hn h32
     go_wp2_with (first
      | (go_at_call 120; refine (end_any R (R + 1) s j cs _ (by exact hr)).mono ?_; rintro e w' ⟨rfl, n, rfl⟩)
      | (go_at_call 122; refine (next_any R (R + 1) s j cs _ (by exact hr.drewN _) hj hs _ HN.out).mono ?_))
     rintro e w3 ⟨hf3, rfl, j', cs', rfl, hj', hcs', hr3⟩
     have hRl : R < wr.heap.size := by obtain ⟨_, _, h, _⟩ := hr; exact lt_heap h
     have hf4 := (FrB.drewN (FrB.refl R (R + 1) _ wr) n).trans hf3
     have hown3 : w3.ownsRow R 9 1 (.slice oa out.length cap) out.length (strVals out) := by
      obtain ⟨p, v, h1, _⟩ := hr
      exact ownsRow_frB Hown.out hf4 (by decide) h1 (by decide)
     have HB3 := Lib.hid (Hbel.out.trans (hf4.below R (by omega) (by omega) (by omega)))
     have hsz3 : R < w3.heap.size := by have := hf4.size; omega
     rw [drop_len] at hlr
     clear Hown Hbel hf3 hf4 c0 c1 f1 hr
     go_wp2_with (at_builtin; refine wpList_append_own _ rfl _ _ 26 rfl R 9 i0 (.string ⟨#[]⟩) 1 16 Tryz.underlying26 hi hz0 hz1 hz2 rfl (by decide) _ _ _ rfl (hown3.alloc _) ⟨w3.heap.size, 0, none⟩ 1 1 [.string ⟨x.toArray⟩] rfl rfl ?c1 ?c2 ?c3 ?c4 ?c5 ?_)
     case c1 => exact cell_one_new _ _ _
     case c2 => simp [Value.oneCell']
     case c3 => unfold maxLen; omega
     case c4 => omega
     case c5 => simp; omega
     intro v' w4 hown' hgrow hnil
     have hR4 : Fr (fun k => (Value.slice oa out.length cap).ownBlock = some k) w3 w4 := (Fr.alloc (Fr.refl _ _) _).grown hgrow (fun k hk _ => hk)
     have hRown : (Value.slice oa out.length cap).ownBlock ≠ some R := by
      intro e
      obtain ⟨p, v, h1, _⟩ := hr3
      rcases hown3.2 with ⟨h, _⟩ | ⟨g, _, _, h, _, hg, _⟩
      ·rw [h] at e; simp [Value.ownBlock] at e
      ·rw [h] at e; simp [Value.ownBlock] at e; subst e; rw [h1] at hg; simp at hg
     have hr4 : Rdr R (R + 1) s j' cs' w4 := hr3.frame hR4 hRown (by
      rintro i hi ⟨cs2, fz2, h2⟩ e
      rcases hown3.2 with ⟨h, _⟩ | ⟨g, _, _, h, _, hg, _⟩
      ·rw [h] at e; simp [Value.ownBlock] at e
      ·rw [h] at e; simp [Value.ownBlock] at e; subst e; rw [h2] at hg; simp at hg)
     have HB4 := Lib.hid (HB3.out.trans (Fr.below hR4 R (by omega) (fun k hk e => by have := hown3.lt k e; omega)))
     have HO4 := Lib.hid (show w4.ownsRow R 9 1 v' (out ++ [x]).length (strVals (out ++ [x])) by rw [strVals_snoc, List.length_append]; exact hown')
     clear hgrow hnil hown' hR4 hRown hown3 HB3
     obtain ⟨ao, n', cap', rfl⟩ : ∃ ao n' cap, v' = .slice ao n' cap := by
      obtain ⟨oa, cap, h⟩ := ownsRow_form HO4.out
      exact ⟨_, _, _, h⟩
     go_wp2_with ((go_at_call 119; refine (blanks_any R (R + 1) s j' cs' _ (by exact hr4) hj' hs).mono ?_))
     rintro e w5 ⟨rfl, hf5, j5, hj5, hj5', hd5, hr5⟩
     have hsz4 : R < w4.heap.size := by obtain ⟨_, _, h, _⟩ := hr4; exact lt_heap h
     have HO5 := Lib.hid (show w5.ownsRow R 9 1 (.slice ao n' cap') (out ++ [x]).length (strVals (out ++ [x])) by
      obtain ⟨p, v, h1, _⟩ := hr4
      exact ownsRow_frB HO4.out hf5 (by decide) h1 (by decide))
     have HB5 := Lib.hid (HB4.out.trans (hf5.below R (by omega) (by omega) (by omega)))
     have HD5 := Lib.hid hd5; clear hd5
     go_wp2_with fail
     go_roundg (gk - 1)
     case measure => omega
     case rel =>
      refine ⟨j5, cs', out ++ [x], hr5, hj5', by omega, by omega, ?_, ?_, by simp; omega, HO5, HB5⟩
      ·show _ = _
       rw [HD5.out, dropWhile_dropWhile]
      ·show splitS _ _ _ = _
       rw [HD5.out, splitS_dw]
       exact HR.out
  ·have hd : decide (s.size ≤ j) = true := by simpa using hlt
   have hge : s.size ≤ j := by omega
   have HR := Lib.hid (Hq.out.symm.trans (splitS_end hfu hge))
   go_wp2_with (go_at_call 120; refine (end_any R (R + 1) s j cs _ (by exact hr)).mono ?_; rintro e w' ⟨rfl, n, rfl⟩)
   go_ret2
   refine ⟨?_, by rw [HR.out]; exact ⟨_, rfl, by rw [HRn.out]; exact Hown.out⟩⟩
   rw [HRn.out]
   exact Hbel.out.trans ⟨rfl, rfl, rfl, Nat.le_refl _, fun _ _ => rfl⟩
end Go.Proofs.YtdpnahojhmkemaaGreatDoor
namespace Go.Proofs.YtdpnahojhmkemaaGreatDoor
open Go Go.RowKit
set_option linter.unusedVariables false
set_option linter.unusedSimpArgs false
set_option maxRecDepth 100000
set_option maxHeartbeats 2000000 in
theorem var_any (s : ByteArray) (w : World) (h63 : s.size ≤ 9223372036854775807) (b : Bool) (hb : varB s.data.toList = b) :
  Calls Tryz.prog 92 #[.string s] w fun e w' => e = .returned (.bool b) ∧ Below w.heap.size w w' := by
 obtain ⟨q, hq⟩ : ∃ q, longB s.data.toList 60 varP = q := ⟨_, rfl⟩
 have hb2 : (q && !(isDigit (s.data.toList.headD 0))) = b := by
  rw [← hb, ← hq]
  unfold varB longB
  congr 3
  rw [decide_eq_decide]; omega
 let w1 := w.alloc (.cells #[.string ⟨#[95]⟩] 9)
 let w2 := w1.alloc (.cells #[.func (.func 79) #[] #[], .func (.func 101) #[] #[], .func (.func 151) #[] #[.pointer (some ⟨w.heap.size, 0, none⟩)]] 86)
 let w3 := w2.alloc (.cells #[.slice (some ⟨w.heap.size + 1, 0, none⟩) 3 3] 173)
 have hB : Below w.heap.size w w3 := (((Below.refl _ _).alloc (Nat.le_refl _) _).alloc (by simp) _).alloc (by simp; omega) _
 have z1 : w1.heap.size = w.heap.size + 1 := by simp [w1]
 have z2 : w2.heap.size = w.heap.size + 1 + 1 := by simp [w2, z1]
 have HA : ∀ w' : World, w' = w3 → Calls Tryz.prog 100 #[.string s, .int .i64 60, .func (.func 150) #[] #[.pointer (some ⟨w.heap.size + 1 + 1, 0, none⟩)]] w' fun e w'' => e = .returned (.bool q) ∧ w' = w'' := by
  intro w' hw'
  have h0 : w'.heap[w.heap.size]? = some (.cells #[.string ⟨#[95]⟩] 9 (0, 0)) := by
   rw [hw']; exact heap_alloc (heap_alloc (heap_alloc_new w _) _) _
  have h2 : w'.heap[w.heap.size + 1]? = some (.cells #[.func (.func 79) #[] #[], .func (.func 101) #[] #[], .func (.func 151) #[] #[.pointer (some ⟨w.heap.size, 0, none⟩)]] 86 (0, 0)) := by
   rw [hw', ← z1]; exact heap_alloc (heap_alloc_new w1 _) _
  have h1 : w'.cell? ⟨w.heap.size + 1 + 1, 0, none⟩ = some (.slice (some ⟨w.heap.size + 1, 0, none⟩) 3 3) := by
   have h0 : w'.heap[w.heap.size + 1 + 1]? = some (.cells #[.slice (some ⟨w.heap.size + 1, 0, none⟩) 3 3] 173 (0, 0)) := by
    rw [hw', ← z2]
    exact heap_alloc_new w2 _
   rw [(rd h0).1]; rfl
  obtain ⟨hc, _⟩ := rd h2
  have hs : w'.cell? ⟨w.heap.size, 0, none⟩ = some (.string ⟨#[95]⟩) := by rw [(rd h0).1]; rfl
  refine long_any s 60 150 #[] _ varP q w' h63 enters_any1 (fun c => ?_) hq
  refine (any1_any c (w.heap.size + 1 + 1) (w.heap.size + 1) 3 [isLetter, isDigit, fun c => ([95] : Str).contains c] w' h1 (by simp) ?_).mono ?_
  ·intro i hi
   match i, hi with
   | 0, _ => exact ⟨_, hc 0, _, _, _, rfl, enters_letter, fun c => letter_any c w'⟩
   | 1, _ => exact ⟨_, hc 1, _, _, _, rfl, enters_digit, fun c => digit_any c w'⟩
   | 2, _ => exact ⟨_, hc 2, _, _, _, rfl, enters_in1, fun c => in1_any c w.heap.size _ w' hs _ rfl⟩
   | n + 3, hi => exact absurd hi (by simp)
  ·rintro e w'' ⟨rfl, rfl⟩
   exact ⟨rfl, rfl⟩
 have HH := Lib.hid HA
 have HB := Lib.hid hB
 clear HA hB hb
 cases q with
 | false =>
  obtain rfl : false = b := by simpa using hb2
  clear hq hb2
  go_enter Tryz.func92, Tryz.ntmps92
  go_wp2_with (first
   | (go_at_call 125; refine (in_any _ _).mono ?_; rintro e w' ⟨rfl, rfl⟩)
   | (go_at_call 124; refine (any_any _ _ _ _).mono ?_; rintro e w' ⟨rfl, rfl⟩)
   | (go_at_call 100; refine ((HH.out _ (by simp [w1, w2, w3])).mono ?_); rintro e w' ⟨rfl, rfl⟩))
  go_ret
  exact ⟨rfl, HB.out⟩
 | true =>
  obtain ⟨h0, -, -⟩ := longB_true (n := 60) hq
  have hlt : 0 < s.size := by
   have : s.data.toList.length = s.size := by simp
   have h1 : s.data.toList.length ≠ 0 := fun e => h0 (List.eq_nil_of_length_eq_zero e)
   omega
  have hlz : (0 : Int) < (s.size : Int) := by omega
  have hhd : s.data.toList.headD 0 = s[0] := by
   have := drop_cons s 0 hlt
   rw [List.drop_zero] at this
   rw [this]; rfl
  have HR := Lib.hid (show (!isDigit s[0]) = b by rw [← hb2, hhd]; simp)
  have HD := Lib.hid (fun W => digit_any s[0] W)
  clear hq hb2 h0 hhd
  go_enter Tryz.func92, Tryz.ntmps92
  go_wp2_with (first
   | (go_at_call 125; refine (in_any _ _).mono ?_; rintro e w' ⟨rfl, rfl⟩)
   | (go_at_call 124; refine (any_any _ _ _ _).mono ?_; rintro e w' ⟨rfl, rfl⟩)
   | (go_at_call 101; refine (HD.out _).mono ?_; rintro e w' ⟨rfl, rfl⟩)
   | (go_at_call 100; refine ((HH.out _ (by simp [w1, w2, w3])).mono ?_); rintro e w' ⟨rfl, rfl⟩))
  go_ret
  exact ⟨by rw [← HR.out]; rfl, HB.out⟩
theorem own_base {w : World} {B B' e size n : Nat} {v : Value} {xs : List Value} (h : w.ownsRow B e size v n xs) (hB : B' ≤ B) : w.ownsRow B' e size v n xs := by
 refine ⟨h.1, ?_⟩
 rcases h.2 with hn | ⟨g, cap, cur, rfl, hb, rest⟩
 ·exact .inl hn
 ·exact .inr ⟨g, cap, cur, rfl, Nat.le_trans hB hb, rest⟩
def ExecOut (w : World) (s : Str) (e : Ending) (w' : World) : Prop :=
 Below w.heap.size w w' ∧ match execS s with
 | none => e = .returned (.tuple #[.agg #[.bool false, .slice none 0 0], .bool false])
 | some (d, l) => ∃ wa wc, e = .returned (.tuple #[.agg #[.bool d, .slice wa l.length wc], .bool true]) ∧ w'.ownsRow w.heap.size 9 1 (.slice wa l.length wc) l.length (strVals l)
theorem trim_len (s : Str) : (Lib.trimPrefix s [45]).length ≤ s.length := by
 unfold Lib.trimPrefix
 split <;> simp
set_option maxHeartbeats 2000000 in
theorem exec_any (s : ByteArray) (w : World) (hs : s.size ≤ 1000000000) : Calls Tryz.prog 51 #[.string s] w fun e w' => ExecOut w s.data.toList e w' := by
 have HCP := Lib.hid (fun W => Tryz.strings_CutPrefix s ⟨#[45]⟩ W)
 have hlen : s.data.toList.length = s.size := by simp
 have htl := trim_len s.data.toList
 unfold ExecOut execS
 simp only at HCP
 obtain ⟨r, hr⟩ : ∃ r, r = Lib.trimPrefix s.data.toList [45] := ⟨_, rfl⟩
 obtain ⟨d, hd⟩ : ∃ d, d = Lib.hasPrefix s.data.toList [45] := ⟨_, rfl⟩
 change Hid (∀ W, Calls _ _ _ _ fun e w' => e = .returned (.tuple #[.string ⟨(Lib.trimPrefix s.data.toList [45]).toArray⟩, .bool (Lib.hasPrefix s.data.toList [45])]) ∧ _) at HCP
 rw [← hr, ← hd] at HCP ⊢
 rw [← hr] at htl
 have hrl : r.length ≤ 1000000000 := by omega
 clear hr hd htl hlen hs
 let w0 := w.alloc (.cells #[.bool false, .slice none 0 0] 71)
 have hB0 : Below w.heap.size w w0 := (Below.refl _ _).alloc (Nat.le_refl _) _
 have h0 : w0.heap[w.heap.size]? = some (.cells #[.bool false, .slice none 0 0] 71 (0, 0)) := heap_alloc_new w _
 have HB0 := Lib.hid hB0; have H0 := Lib.hid h0
 clear hB0 h0
 obtain ⟨res, hres⟩ : ∃ res, split r = res := ⟨_, rfl⟩
 have HSP := Lib.hid (fun W => split_any ⟨r.toArray⟩ W (by simp [ByteArray.size]; omega) res hres)
 rw [hres]
 clear hres
 go_enter Tryz.func51, Tryz.ntmps51
 go_wp2_with fail
 refine (HCP.out _).mono ?_
 rintro e w1 ⟨rfl, rfl⟩
 go_wp2_with fail
 refine (HSP.out w0).mono ?_
 rintro e w1 ⟨hb1, he⟩
 have HB1 := Lib.hid (HB0.out.trans (hb1.mono HB0.out.size))
 have H1 := Lib.hid (heap_below H0.out hb1)
 have hz0 : w0.heap.size = w.heap.size + 1 := by simp [w0]
 have HZ := Lib.hid (show w.heap.size ≤ w0.heap.size by omega)
 clear hb1 HB0 H0 HCP HSP hz0
 obtain ⟨cc, fc, sc, lc⟩ := rd H1.out
 have c0 := cc 0; have c1 := cc 1; have f0 := fc 0; have f1 := fc 1
 simp only [List.getElem?_toArray, List.getElem?_cons_zero, List.getElem?_cons_succ] at c0 c1
 clear cc fc sc
 cases res with
 | error c =>
  obtain rfl := he
  by_cases hc0 : (c : Int) = 0
  ·rw [hc0]
   go_wp2_with fail
   refine bodyPost_ret (v := .tuple #[.agg #[.bool false, .slice none 0 0], .bool false]) ?_ rfl ⟨?_, rfl⟩
   ·simp [results, Tryz.results51, go_sem, c0, c1]
   ·exact (HB1.out.setCell (Nat.le_refl _) _).setCell (Nat.le_refl _) _
  ·have hc1 : ((c : Int) != 0) = true := by simpa using hc0
   go_wp2_with fail
   refine bodyPost_ret (v := .tuple #[.agg #[.bool false, .slice none 0 0], .bool false]) ?_ rfl ⟨?_, rfl⟩
   ·simp [results, Tryz.results51, go_sem, c0, c1]
   ·exact (HB1.out.setCell (Nat.le_refl _) _).setCell (Nat.le_refl _) _
 | ok l =>
  obtain ⟨v, rfl, hown⟩ := he
  obtain ⟨oa, cap, rfl⟩ := ownsRow_form hown
  have hrow := StrRow.of_own hown
  have HO := Lib.hid (own_base hown HZ.out)
  clear hown
  cases l with
  | nil =>
   simp only [List.length_nil]
   go_wp2_with fail
   refine bodyPost_ret (v := .tuple #[.agg #[.bool false, .slice none 0 0], .bool false]) ?_ rfl ⟨?_, rfl⟩
   ·simp [results, Tryz.results51, go_sem, c0, c1]
   ·exact (HB1.out.setCell (Nat.le_refl _) _).setCell (Nat.le_refl _) _
  | cons x t =>
   obtain ⟨b, o, rfl, d0⟩ := hrow 0 (by simp)
   simp only [List.getElem_cons_zero, Nat.add_zero] at d0
   have hpos : ((x :: t).length : Int) ≠ 0 := by rw [List.length_cons]; omega
   have hpos1 : (((x :: t).length : Int) == 0) = false := by rw [beq_eq_false_iff_ne]; exact hpos
   have hpos2 : (0 : Int) < ((x :: t).length : Int) := by omega
   have hpos3 : 0 < (x :: t).length := by simp
   by_cases hx : x = []
   ·subst hx
    generalize (([] : Str) :: t).length = n at *
    go_wp2_with fail
    refine bodyPost_ret (v := .tuple #[.agg #[.bool false, .slice none 0 0], .bool false]) ?_ rfl ⟨?_, ?_⟩
    ·simp [results, Tryz.results51, go_sem, c0, c1]
    ·exact (HB1.out.setCell (Nat.le_refl _) _).setCell (Nat.le_refl _) _
    ·simp only [if_true]
   ·have hxe : List.isEmpty x = false := by cases x with | nil => exact absurd rfl hx | cons a u => rfl
    clear hrow
    go_wp2_with fail
    refine bodyPost_ret (v := .tuple #[.agg #[.bool d, .slice (some ⟨b, o, none⟩) (x :: t).length cap], .bool true]) ?_ rfl ⟨?_, ?_⟩
    ·simp [results, Tryz.results51, go_sem, c0, c1]
    ·exact (HB1.out.setCell (Nat.le_refl _) _).setCell (Nat.le_refl _) _
    ·refine ⟨some ⟨b, o, none⟩, cap, rfl, ?_⟩
     refine ownsRow_fr HO.out (M := fun k => k = w.heap.size) (Fr.setCell (M := fun k => k = w.heap.size) (p := ⟨w.heap.size, 1, none⟩) (Fr.setCell (M := fun k => k = w.heap.size) (p := ⟨w.heap.size, 0, none⟩) (Fr.refl _ _) (fun _ => rfl) _) (fun _ => rfl) _) (fun k hk hr => ?_)
     rintro rfl
     obtain ⟨cs, fz, h5⟩ := hr
     rw [H1.out] at h5
     simp at h5
def encP (p : Str × Str) : List Value := [.string ⟨p.1.toArray⟩, .string ⟨p.2.toArray⟩]
theorem encP_one (k : Str × Str) : ∀ v ∈ encP k, v.oneCell' = true := by intro v hv; simp [encP] at hv; rcases hv with rfl | rfl <;> rfl
theorem infoPair : (Tryz.prog.info? 96).map (fun i => (i.zero, i.size, i.bytes)) = some (some (.agg #[.string ⟨#[]⟩, .string ⟨#[]⟩]), 2, 32) := by kernel_rfl
theorem own_built2 (w : World) (a b : Value) (T : TypeId) : (w.alloc (.cells #[a, b] T)).ownsRow w.heap.size T 2 (.slice (some ⟨w.heap.size, 0, none⟩) 1 1) 1 [a, b] :=
 ⟨rfl, .inr ⟨w.heap.size, 1, #[a, b], rfl, Nat.le_refl _, heap_alloc_new _ _, Nat.le_refl _, by decide, rfl, rfl⟩⟩
theorem cut_len (l : Str) (c : Str) : (Lib.cut l c).1.length ≤ l.length ∧ (Lib.cut l c).2.1.length ≤ l.length := by
 unfold Lib.cut
 split
 ·exact ⟨by rw [List.length_take]; exact Nat.min_le_right _ _, by rw [List.length_drop]; omega⟩
 ·simp
set_option maxHeartbeats 4000000 in
theorem env_any (s : ByteArray) (w : World) (hs : s.size ≤ 1000000000) (hM : MaxAt w) (ps : List (Str × Str)) (b : Bool) (hps : envS s.data.toList = (ps, b)) :
  Calls Tryz.prog 52 #[.string s] w fun e w' => Below w.heap.size w w' ∧ ∃ v, e = .returned (.tuple #[v, .bool b]) ∧ w'.ownsRow w.heap.size 96 2 v ps.length (flatL encP ps) := by
 obtain ⟨i0, hi0, hz0, hz1, hz2⟩ := info_parts infoPair
 obtain ⟨res, hres⟩ : ∃ res, split s.data.toList = res := ⟨_, rfl⟩
 have HSP := Lib.hid (split_any s w (by omega) res hres)
 have HLS := Lib.hid (fun l (h : res = .ok l) => show l.length ≤ 32 ∧ ∀ x ∈ l, x.length ≤ s.size from by have := split_small s.data.toList l (by rw [hres, h]); simpa using this)
 unfold envS at hps
 rw [hres] at hps
 have HP := Lib.hid hps
 have HM := Lib.hid hM
 clear hres hps hM
 go_enter Tryz.func52, Tryz.ntmps52
 go_wp2_with fail
 refine HSP.out.mono ?_
 rintro e w1 ⟨hb1, he⟩
 have HB1 := Lib.hid hb1
 clear hb1 HSP
 cases res with
 | error c =>
  obtain rfl := he
  have HQ := Lib.hid (show ps = [] ∧ b = false from by have h := HP.out; simp at h; exact ⟨h.1, h.2⟩)
  go_wp2_with fail
  go_loopg [6, 19] 2 (fun f v i wr => v = .slice none 0 0 ∧ i = .int .i64 0 ∧ wr = w1 ∧ 0 < f)
  case atStart => exact ⟨rfl, rfl, rfl, by omega⟩
  case round =>
   obtain ⟨rfl, rfl, rfl, hfu⟩ := hrel
   by_cases hc0 : (c : Int) = 0
   ·rw [hc0]
    go_wp2_with fail
    obtain ⟨rfl, rfl⟩ := HQ.out
    go_ret2
    exact ⟨HB1.out, _, rfl, World.ownsRow_nil _ _ _ _⟩
   ·have hc1 : ((c : Int) == 0) = false := by simpa using hc0
    go_wp2_with fail
    obtain ⟨rfl, rfl⟩ := HQ.out
    go_ret2
    exact ⟨HB1.out, _, rfl, World.ownsRow_nil _ _ _ _⟩
 | ok l =>
  obtain ⟨v, rfl, hown⟩ := he
  obtain ⟨oa, cap, rfl⟩ := ownsRow_form hown
  have HR := Lib.hid (StrRow.of_own hown)
  obtain ⟨hl1, hl2⟩ := HLS.out l rfl
  have HL2 := Lib.hid hl2
  have hll : l.length ≤ 32 := hl1
  clear hown hl2
  go_wp2_with fail
  go_loopg [6, 19] (l.length + 1) (fun f v i wr => ∃ (k : Nat) (done : List (Str × Str)), k ≤ l.length ∧ i = .int .i64 k ∧ l.length - k < f ∧ done.length = k ∧ Hid (wr.ownsRow w1.heap.size 96 2 v done.length (flatL encP done)) ∧ Hid (envL l = (envL (l.drop k)).map fun r => done ++ r) ∧ Hid (Below w1.heap.size w1 wr))
  case atStart => exact ⟨0, [], by omega, rfl, by omega, rfl, World.ownsRow_nil _ _ _ _, (show envL l = (envL (l.drop 0)).map fun r => [] ++ r from by rw [List.drop_zero]; cases envL l <;> simp), Below.refl _ _⟩
  case round =>
   obtain ⟨_, done, hk, rfl, hfu, rfl, Hown, HE, HB⟩ := hrel
   obtain ⟨oa2, cap2, rfl⟩ := ownsRow_form Hown.out
   by_cases hlt : done.length < l.length
   ·have hz : (done.length : Int) < (l.length : Int) := by omega
    obtain ⟨x, hx⟩ : ∃ x, x = l[done.length] := ⟨_, rfl⟩
    obtain ⟨b4, o4, rfl, d0⟩ := (HR.out.below HB.out) done.length hlt
    rw [← hx] at d0
    have hd : l.drop done.length = x :: l.drop (done.length + 1) := by rw [hx]; exact List.drop_eq_getElem_cons hlt
    have hxl : x.length ≤ s.size := by rw [hx]; exact HL2.out _ (List.getElem_mem hlt)
    have hM2 : MaxAt wr := (HM.out.below HB1.out).below HB.out
    obtain ⟨m, hm⟩ := hM2
    have HCUT := Lib.hid (fun W (h : W.cell? ⟨0, 0, none⟩ = some (.int .i64 m)) => Tryz.strings_Cut ⟨x.toArray⟩ ⟨#[61]⟩ m W (by show x.toArray.size < _; simp; omega) h)
    change Hid (∀ W, _ → Calls _ _ _ _ fun e w' => e = .returned (.tuple #[.string ⟨(Lib.cut x [61]).1.toArray⟩, .string ⟨(Lib.cut x [61]).2.1.toArray⟩, .bool (Lib.cut x [61]).2.2]) ∧ _) at HCUT
    have hE := HE.out
    rw [hd] at hE
    rw [show envL (x :: l.drop (done.length + 1)) = if (Go.Lib.cut x [61]).2.2 = true ∧ varB (Go.Lib.cut x [61]).1 = true then (envL (l.drop (done.length + 1))).map fun r => ((Go.Lib.cut x [61]).1, (Go.Lib.cut x [61]).2.1) :: r else none from rfl] at hE
    have hcl := cut_len x [61]
    obtain ⟨c1, c2, q, hcut⟩ : ∃ c1 c2 q, Lib.cut x [61] = (c1, c2, q) := ⟨_, _, _, rfl⟩
    rw [hcut] at HCUT hE hcl
    simp only at hcl hE
    clear hcut hx hd HE
    cases q with
    | false =>
     have hE2 : envL l = none := by rw [hE]; simp
     have HQ := Lib.hid (show ps = [] ∧ b = false from by have h := HP.out; simp only [hE2] at h; simp at h; exact ⟨h.1, h.2⟩)
     clear hE hE2
     go_wp2_with fail
     refine (HCUT.out _ hm).mono ?_
     rintro e w2 ⟨rfl, n2, rfl⟩
     have HB2 := Lib.hid (HB.out.trans (show Below w1.heap.size wr (wr.drewN n2) from below_dn ⟨_, rfl⟩))
     generalize wr.drewN n2 = w2 at *
     go_wp2_with fail
     obtain ⟨rfl, rfl⟩ := HQ.out
     go_ret2
     exact ⟨HB1.out.trans (HB2.out.mono HB1.out.size), _, rfl, World.ownsRow_nil _ _ _ _⟩
    | true =>
     obtain ⟨y, hy⟩ : ∃ y, varB c1 = y := ⟨_, rfl⟩
     have HVR := Lib.hid (fun W => var_any ⟨c1.toArray⟩ W (by show c1.toArray.size ≤ _; simp; omega) y hy)
     cases y with
     | false =>
      have hE2 : envL l = none := by rw [hE, hy]; simp
      have HQ := Lib.hid (show ps = [] ∧ b = false from by have h := HP.out; simp only [hE2] at h; simp at h; exact ⟨h.1, h.2⟩)
      clear hE hE2
      go_wp2_with fail
      refine (HCUT.out _ hm).mono ?_
      rintro e w2 ⟨rfl, n2, rfl⟩
      have HB2 := Lib.hid (HB.out.trans (show Below w1.heap.size wr (wr.drewN n2) from below_dn ⟨_, rfl⟩))
      generalize wr.drewN n2 = w2 at *
      go_wp2_with fail
      refine (HVR.out _).mono ?_
      rintro e w3 ⟨rfl, hb3⟩
      have HB3 := Lib.hid (HB2.out.trans (hb3.mono HB2.out.size))
      clear hb3
      go_wp2_with fail
      obtain ⟨rfl, rfl⟩ := HQ.out
      go_ret2
      exact ⟨HB1.out.trans (HB3.out.mono HB1.out.size), _, rfl, World.ownsRow_nil _ _ _ _⟩
     | true =>
      have HE2 := Lib.hid (show envL l = (envL (l.drop (done.length + 1))).map fun r => (done ++ [(c1, c2)]) ++ r from by
       rw [hE, hy]
       cases envL (l.drop (done.length + 1)) <;> simp)
      clear hE
      go_wp2_with fail
      refine (HCUT.out _ hm).mono ?_
      rintro e w2 ⟨rfl, n2, rfl⟩
      have HB2 := Lib.hid (HB.out.trans (show Below w1.heap.size wr (wr.drewN n2) from below_dn ⟨_, rfl⟩))
      have HO2 := Lib.hid (own_keeps Hown.out (show Below wr.heap.size wr (wr.drewN n2) from below_dn ⟨_, rfl⟩))
      generalize wr.drewN n2 = w2 at *
      go_wp2_with fail
      refine (HVR.out _).mono ?_
      rintro e w3 ⟨rfl, hb3⟩
      have HB3 := Lib.hid (HB2.out.trans (hb3.mono HB2.out.size))
      have HO3 := Lib.hid (own_keeps HO2.out hb3)
      clear hb3
      let W1 := w3.alloc (.cells (encP (c1, c2)).toArray 96)
      have hB1 : Below w3.heap.size w3 W1 := (Below.refl _ _).alloc (Nat.le_refl _) _
      have hbl := RowRd.of_own (enc := encP) (k := 2) (l := [(c1, c2)]) (oa := some ⟨w3.heap.size, 0, none⟩) (cap := 1) (fun _ => rfl) (own_built2 w3 (.string ⟨c1.toArray⟩) (.string ⟨c2.toArray⟩) 96)
      obtain ⟨v', w4, hrun, hown4, hgrow⟩ := append_rows (P := Tryz.prog) w1.heap.size 74 74 96 i0 (.agg #[.string ⟨#[]⟩, .string ⟨#[]⟩]) 2 32 Tryz.underlying74 hi0 hz0 hz1 hz2 (by rfl) (by decide) _ _ _ (own_keeps HO3.out hB1) (some ⟨w3.heap.size, 0, none⟩) 1 1 (flatL encP [(c1, c2)]) rfl (RowRd.flat (enc := encP) (k := 2) (fun _ => rfl) (by omega) hbl) (flatL_oneCell encP_one _) (by unfold maxLen; omega) (by omega) (Nat.le_trans HB3.out.size hB1.size)
      have HRUN := Lib.hid hrun
      have HB4 := Lib.hid ((HB3.out.trans (hB1.mono HB3.out.size)).grown hgrow (Nat.le_trans HB3.out.size hB1.size) (fun g hg => (HO3.out.lt g hg).1))
      have HO4 := Lib.hid (show w4.ownsRow w1.heap.size 96 2 v' (done ++ [(c1, c2)]).length (flatL encP (done ++ [(c1, c2)])) by rw [flatL_append, List.length_append]; exact hown4)
      clear hrun hown4 hgrow hbl hB1
      unfold encP at *
      go_wp2_with (at_builtin; refine wpList_append_run rfl _ _ 74 rfl HRUN.out rfl rfl ?_)
      obtain ⟨oa3, cap3, rfl⟩ := ownsRow_form HO4.out
      go_roundg (l.length - done.length)
      case measure => omega
      case rel => exact ⟨done.length + 1, done ++ [(c1, c2)], by omega, by go_num, by omega, by simp, HO4, HE2, HB4⟩
   ·have hz : ¬ ((done.length : Int) < (l.length : Int)) := by omega
    have hE : envL l = some done := by rw [HE.out, List.drop_eq_nil_of_le (by omega)]; simp [envL]
    have HQ := Lib.hid (show ps = done ∧ b = decide (0 < done.length) from by have h := HP.out; simp only [hE] at h; simp at h; exact ⟨h.1.symm, by rw [← h.2]⟩)
    clear hE HE
    have HO2 := Lib.hid (own_base Hown.out HB1.out.size)
    by_cases h0 : 0 < done.length
    ·have h1 : (0 : Int) < (done.length : Int) := by omega
     have h2 : (done.length : Int) > 0 := by omega
     go_wp2_with fail
     obtain ⟨rfl, rfl⟩ := HQ.out
     go_ret2
     refine ⟨HB1.out.trans (HB.out.mono HB1.out.size), _, by rw [decide_eq_true h0]; rfl, HO2.out⟩
    ·have h1 : ¬ (0 : Int) < (done.length : Int) := by omega
     have h2 : ¬ (done.length : Int) > 0 := by omega
     go_wp2_with fail
     obtain ⟨rfl, rfl⟩ := HQ.out
     go_ret2
     refine ⟨HB1.out.trans (HB.out.mono HB1.out.size), _, by rw [decide_eq_false h0]; rfl, HO2.out⟩
end Go.Proofs.YtdpnahojhmkemaaGreatDoor
