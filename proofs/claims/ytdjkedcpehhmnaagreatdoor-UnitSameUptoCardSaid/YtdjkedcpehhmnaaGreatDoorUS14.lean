import Derived.Test.YtdjkedcpehhmnaaGreatDoorUS13
namespace Go.Proofs.YtdjkedcpehhmnaaGreatDoor
open Go Go.RowKit
set_option linter.unusedVariables false
set_option maxRecDepth 100000
def OutBl (R B : Nat) (s : ByteArray) (k : Nat) (bs : Str) (w : World) (e : Ending) (w' : World) : Prop :=
 e = .returned (.tuple #[]) ∧ FrB R B 5 w w' ∧ ∃ j, k ≤ j ∧ j ≤ s.size ∧ s.data.toList.drop j = (s.data.toList.drop k).dropWhile isBlank ∧ Rdr R B s j bs w'
set_option maxHeartbeats 1000000 in
theorem blanks_any (R B : Nat) (s : ByteArray) (k : Nat) (bs : List UInt8) (w : World) (h : Rdr R B s k bs w) (hk : k ≤ s.size) (hs : s.size < 549755813888) :
  Calls Tryz.prog 172 #[.pointer (some ⟨R, 0, none⟩)] w fun e w' => OutBl R B s k bs w e w' := by
 go_enter Tryz.func172, Tryz.ntmps172
 go_wp2_with fail
 go_loopg [2] (s.size - k + 1) (fun f _ wr => ∃ j : Nat, Rdr R B s j bs wr ∧ k ≤ j ∧ j ≤ s.size ∧ s.size - j < f ∧ Hid ((s.data.toList.drop j).dropWhile isBlank = (s.data.toList.drop k).dropWhile isBlank) ∧ FrB R B 5 w wr)
 case atStart => exact ⟨k, h, by omega, hk, by omega, rfl, FrB.refl _ _ _ _⟩
 case round =>
  obtain ⟨j, hr, hkj, hj, hfu, Hq, hfr⟩ := hrel
  obtain ⟨c0, c1, f1⟩ := hr.rd
  by_cases hlt : j < s.size
  ·have hd : decide (s.size ≤ j) = false := by simpa using hlt
   have hge : ¬ s.size ≤ j := by omega
   cases hbl : isBlank s[j] with
   | true =>
    have HR := h_ (show (s.data.toList.drop (j + 1)).dropWhile isBlank = (s.data.toList.drop k).dropWhile isBlank by
     rw [← Hq.out, drop_cons s j hlt, List.dropWhile_cons, if_pos hbl])
    have HBl := h_ hbl; clear hbl
    go_wp2_with fail
    go_quiet ((first
     | (go_at_call 173; exact Calls.quiet_of (end_any R B s j bs _ hr))
     | (go_at_call 211; exact quiet_same (HBl.out ▸ blank_any s[j] _))))
    go_wp2_with fail
    go_roundg (gk - 1)
    case measure => omega
    case rel => exact ⟨j + 1, (hr.moved (j + 1)).drewN _, by omega, by omega, by omega, HR, hfr.trans (FrB.setCell (FrB.drewN (FrB.refl _ _ _ _) _) 1 _)⟩
   | false =>
    have HR := h_ (show s.data.toList.drop j = (s.data.toList.drop k).dropWhile isBlank by
     rw [← Hq.out, drop_cons s j hlt, List.dropWhile_cons, if_neg (by simp [hbl])])
    have HBl := h_ hbl; clear hbl
    go_wp2_with fail
    go_quiet ((first
     | (go_at_call 173; exact Calls.quiet_of (end_any R B s j bs _ hr))
     | (go_at_call 211; exact quiet_same (HBl.out ▸ blank_any s[j] _))))
    go_wp2_with fail
    go_end0
    exact ⟨rfl, hfr.drewN _, j, hkj, hj, HR.out, hr.drewN _⟩
  ·have hd : decide (s.size ≤ j) = true := by simpa using hlt
   have hge : s.size ≤ j := by omega
   have HR := h_ (show s.data.toList.drop j = (s.data.toList.drop k).dropWhile isBlank by
    rw [← Hq.out, List.drop_eq_nil_of_le (by simpa using hge)]; rfl)
   go_wp2_with fail
   go_quiet ((go_at_call 173; exact Calls.quiet_of (end_any R B s j bs _ hr)))
   go_wp2_with fail
   go_end0
   exact ⟨rfl, hfr.drewN _, j, hkj, hj, HR.out, hr.drewN _⟩
set_option maxHeartbeats 1000000 in
theorem begins_any (R B : Nat) (s : ByteArray) (k : Nat) (bs : List UInt8) (w : World) (h : Rdr R B s k bs w) (hk : k < s.size) (hs : s.size < 549755813888) (hbs : bs.length ≤ k) :
  Calls Tryz.prog 174 #[.pointer (some ⟨R, 0, none⟩)] w fun e w' => e = .returned (.int .i64 (beginsS (s.data.toList.drop k))) ∧ FrB R B 5 w w' := by
 obtain ⟨c0, c1, f1⟩ := h.rd
 cases hqu : isQuote s[k] with
 | true =>
  have HR := h_ (show beginsS (s.data.toList.drop k) = 2 by rw [drop_cons s k hk]; simp [beginsS, hqu])
  rcases isQuoteB hqu with h39 | ⟨h39, h34⟩
  all_goals
   have n39 := bne_of h39
   try have n34 := bne_of h34
   go_enter Tryz.func174, Tryz.ntmps174
   go_wp2_with fail
   go_quiet (fail)
   go_wp2_with fail
   go_ret
   exact ⟨ret_int (by rw [HR.out]; rfl), (FrB.refl _ _ _ _).drewN _⟩
 | false =>
  obtain ⟨h39, h34⟩ := notQuote hqu
  have n39 := bne_of h39
  have n34 := bne_of h34
  cases ho : oneS (s.data.toList.drop k) with
  | error c =>
   have HR := h_ (show beginsS (s.data.toList.drop k) = c by rw [drop_cons s k hk] at ho ⊢; simp [beginsS, hqu, ho])
   have hc0 := one_err_ne (by rw [drop_cons s k hk]; simp) ho
   have Ho := h_ ho; clear ho
   go_enter Tryz.func174, Tryz.ntmps174
   go_wp2_with fail
   go_quiet (fail)
   go_wp2_with (go_at_call 212; refine (one_err R B s k bs _ (by exact h.drewN _) hk hs c Ho.out).mono ?_; rintro e w' ⟨rfl, n, rfl⟩)
   go_ret
   exact ⟨ret_int (by rw [HR.out]), (FrB.refl _ _ _ _).drewN _⟩
  | ok x =>
   obtain ⟨d, n⟩ := x
   have HR := h_ (show beginsS (s.data.toList.drop k) = 2 by rw [drop_cons s k hk] at ho ⊢; simp [beginsS, hqu, ho])
   have Ho := h_ ho; clear ho
   go_enter Tryz.func174, Tryz.ntmps174
   go_wp2_with fail
   go_quiet (fail)
   go_wp2_with (go_at_call 212; refine (one_ok R B s k bs _ (by exact h.drewN _) hk hs hbs d n Ho.out).mono ?_; rintro e w' ⟨rfl, hr2, hf2⟩)
   go_ret
   exact ⟨ret_int (by rw [HR.out]; rfl), ((FrB.refl _ _ _ _).drewN _).trans hf2⟩
theorem dropWhile_dropWhile {p : UInt8 → Bool} (l : Str) : (l.dropWhile p).dropWhile p = l.dropWhile p := by
 induction l with
 | nil => rfl
 | cons a l ih =>
  by_cases h : p a = true
  ·rw [List.dropWhile_cons, if_pos h, ih]
  ·rw [List.dropWhile_cons, if_neg h, List.dropWhile_cons, if_neg h]
theorem splitS_dw (f : Nat) (l : Str) (out : List Str) : splitS f (l.dropWhile isBlank) out = splitS f l out := by
 cases f with
 | zero => rfl
 | succ f => simp only [splitS, dropWhile_dropWhile]
theorem splitS_end {f : Nat} {s : ByteArray} {j : Nat} {out : List Str} (hf : s.size - j < f) (h : s.size ≤ j) : splitS f (s.data.toList.drop j) out = .ok out := by
 obtain ⟨f, rfl⟩ : ∃ f', f = f' + 1 := ⟨f - 1, by omega⟩
 rw [List.drop_eq_nil_of_le (by simpa using h)]
 rfl
theorem splitS_full {f : Nat} {s : ByteArray} {j : Nat} {out : List Str} (hf : s.size - j < f) (h : j < s.size) (hd : s.data.toList.drop j = (s.data.toList.drop j).dropWhile isBlank) (h32 : out.length = 32) : splitS f (s.data.toList.drop j) out = .error (beginsS (s.data.toList.drop j)) := by
 obtain ⟨f, rfl⟩ : ∃ f', f = f' + 1 := ⟨f - 1, by omega⟩
 simp only [splitS]
 rw [← hd, drop_cons s j h]
 simp [h32]
theorem splitS_err {f : Nat} {s : ByteArray} {j : Nat} {out : List Str} {c : Nat} (hf : s.size - j < f) (h : j < s.size) (hd : s.data.toList.drop j = (s.data.toList.drop j).dropWhile isBlank) (h32 : ¬ out.length = 32)
  (hn : nextS (s.size - j + 1) (s.data.toList.drop j) [] = .error c) : splitS f (s.data.toList.drop j) out = .error c := by
 obtain ⟨f, rfl⟩ : ∃ f', f = f' + 1 := ⟨f - 1, by omega⟩
 simp only [splitS]
 rw [← hd]
 rw [← drop_len] at hn
 rw [drop_cons s j h] at hn ⊢
 simp [h32] at hn ⊢
 rw [hn]
theorem splitS_ok {f : Nat} {s : ByteArray} {j : Nat} {out : List Str} {x r : Str} (hf : s.size - j < f) (h : j < s.size) (hd : s.data.toList.drop j = (s.data.toList.drop j).dropWhile isBlank) (h32 : ¬ out.length = 32)
  (hn : nextS (s.size - j + 1) (s.data.toList.drop j) [] = .ok (x, r)) : splitS f (s.data.toList.drop j) out = splitS (f - 1) r (out ++ [x]) := by
 obtain ⟨f, rfl⟩ : ∃ f', f = f' + 1 := ⟨f - 1, by omega⟩
 simp only [splitS]
 rw [← hd]
 rw [← drop_len] at hn
 rw [drop_cons s j h] at hn ⊢
 simp [h32] at hn ⊢
 rw [hn]
theorem next_len {x r : Str} : ∀ {f : Nat} {l bs : Str}, nextS f l bs = .ok (x, r) → r.length ≤ l.length
 | 0, _, _, h => by cases h
 | f + 1, [], _, h => by cases h; simp
 | f + 1, a :: l, bs, h => by
  simp only [nextS] at h
  split at h
  ·cases h; simp
  ·split at h
   ·split at h
    ·cases h
    ·rename_i hq
     have h1 := quoted_len hq
     have h2 := next_len h
     simp at *; omega
   ·split at h
    ·cases h
    ·rename_i d n ho
     have h1 := one_le ho
     have := next_len h
     simp at *; omega
theorem next_len' {x r : Str} {f : Nat} {a : UInt8} {l bs : Str} (ha : isBlank a = false) (h : nextS f (a :: l) bs = .ok (x, r)) : r.length ≤ l.length := by
 cases f with
 | zero => cases h
 | succ f =>
  simp only [nextS] at h
  split at h
  ·rename_i h'; rw [ha] at h'; cases h'
  ·split at h
   ·split at h
    ·cases h
    ·rename_i hq
     have h1 := quoted_len hq
     have h2 := next_len h
     omega
   ·split at h
    ·cases h
    ·rename_i d n ho
     have h1 := one_le ho
     have := next_len h
     simp at *; omega
theorem not_blank {s : ByteArray} {j : Nat} (h : j < s.size) (hd : s.data.toList.drop j = (s.data.toList.drop j).dropWhile isBlank) : isBlank s[j] = false := by
 cases hb : isBlank s[j] with
 | false => rfl
 | true =>
  rw [drop_cons s j h, List.dropWhile_cons, if_pos hb] at hd
  have := List.dropWhile_sublist (l := s.data.toList.drop (j + 1)) isBlank
  have := this.length_le
  rw [← hd] at this
  simp at this
  omega
theorem next_err_ne {c : Nat} : ∀ {f : Nat} {l bs : Str}, l.length < f → nextS f l bs = .error c → ((c : Int) != 0) = true
 | 0, _, _, h, _ => absurd h (by omega)
 | f + 1, [], _, _, h => by cases h
 | f + 1, a :: l, bs, hl, h => by
  simp only [nextS] at h
  split at h
  ·cases h
  ·split at h
   ·split at h
    ·rename_i hq
     cases h
     exact quoted_err_ne (by omega) hq
    ·rename_i hq
     have h1 := quoted_len hq
     exact next_err_ne (by simp at *; omega) h
   ·split at h
    ·rename_i ho
     cases h
     exact one_err_ne (by simp) ho
    ·rename_i d n ho
     have h1 := one_le ho
     exact next_err_ne (by simp at *; omega) h
def OutS (w : World) (res : Except Nat (List Str)) (e : Ending) (w' : World) : Prop :=
 Below w.heap.size w w' ∧ match res with
 | .error c => e = .returned (.tuple #[.slice none 0 0, .int .i64 c])
 | .ok l => ∃ v, e = .returned (.tuple #[v, .int .i64 0]) ∧ w'.ownsRow w.heap.size 9 1 v l.length (strVals l)
theorem infoString : (Tryz.prog.info? 9).map (fun i => (i.zero, i.size, i.bytes)) = some (some (.string ⟨#[]⟩), 1, 16) := by kernel_rfl
set_option maxHeartbeats 2000000 in
theorem split_any (s : ByteArray) (w : World) (hs : s.size < 549755813888) (res : Except Nat (List Str)) (hres : split s.data.toList = res) :
  Calls Tryz.prog 132 #[.string s] w fun e w' => OutS w res e w' := by
 have Hres := h_ hres; clear hres
 obtain ⟨i0, hi, hz0, hz1, hz2⟩ := info_parts infoString
 go_enter Tryz.func132, Tryz.ntmps132
 have hr0 : Rdr w.heap.size (w.heap.size + 1) s 0 [] (w.alloc (.cells #[.string s, .int .i64 0, .pointer none, .slice none 0 0] 192)) :=
  ⟨.pointer none, .slice none 0 0, heap_alloc_new w _, .inl rfl, .inl ⟨rfl, rfl⟩, by omega, by simp⟩
 have hb0 : Below w.heap.size w (w.alloc (.cells #[.string s, .int .i64 0, .pointer none, .slice none 0 0] 192)) := (Below.refl _ _).alloc (Nat.le_refl _) _
 go_wp2_with fail
 generalize w.alloc (.cells #[.string s, .int .i64 0, .pointer none, .slice none 0 0] 192) = w1 at hr0 hb0 ⊢
 generalize hRn : w.heap.size = R at *
 have HRn := h_ hRn; clear hRn
 refine (blanks_any R (R + 1) s 0 [] _ hr0 (by omega) hs).mono ?_
 rintro e w2 ⟨rfl, hf2, j0, -, hj0, hd0, hr2⟩
 have hb2 : Below R w w2 := hb0.trans (hf2.below R (by omega) (by omega) (by obtain ⟨_, _, h, _⟩ := hr0; have := lt_heap h; omega))
 have HD0 := h_ hd0; clear hd0
 go_wp2_with fail
 go_loopg [5, 6, 7] (s.size + 1) (fun f v _ _ wr => ∃ (j : Nat) (cs : List UInt8) (out : List Str), Rdr R (R + 1) s j cs wr ∧ j ≤ s.size ∧ cs.length ≤ j ∧ s.size - j < f ∧ Hid (s.data.toList.drop j = (s.data.toList.drop j).dropWhile isBlank) ∧ Hid (splitS f (s.data.toList.drop j) out = res) ∧
  out.length ≤ 32 ∧ Hid (wr.ownsRow R 9 1 v out.length (strVals out)) ∧ Hid (Below R w wr))
 case atStart =>
  refine ⟨j0, [], [], hr2, hj0, by simp, by omega, ?_, ?_, by simp, World.ownsRow_nil _ _ _ _, hb2⟩
  ·show _ = _
   rw [HD0.out, dropWhile_dropWhile]
  ·have h1 := HD0.out
   have h2 := Hres.out
   unfold split at h2
   show splitS _ _ _ = _
   rw [h1, splitS_dw]
   simpa using h2
 case round =>
  obtain ⟨j, cs, out, hr, hj, hcs, hfu, Hd, Hq, hol, Hown, Hbel⟩ := hrel
  obtain ⟨c0, c1, f1⟩ := hr.rd
  obtain ⟨oa, cap, rfl⟩ := ownsRow_form Hown.out
  by_cases hlt : j < s.size
  ·have hd : decide (s.size ≤ j) = false := by simpa using hlt
   have hge : ¬ s.size ≤ j := by omega
   by_cases h32 : out.length = 32
   ·have h32' : ((out.length : Int) == 32) = true := by simp [h32]
    have HR := h_ (Hq.out.symm.trans (splitS_full hfu hlt Hd.out h32))
    clear h32
    go_wp2_with (first
     | (go_at_call 173; refine (end_any R (R + 1) s j cs _ (by exact hr)).mono ?_; rintro e w' ⟨rfl, n, rfl⟩)
     | (go_at_call 174; refine (begins_any R (R + 1) s j cs _ (by exact hr.drewN _) hlt hs hcs).mono ?_; rintro e w' ⟨rfl, hf3⟩))
    go_ret2
    have hRl : R < wr.heap.size := by obtain ⟨_, _, h, _⟩ := hr; exact lt_heap h
    refine ⟨?_, by rw [HR.out]; rfl⟩
    rw [HRn.out]
    exact Hbel.out.trans (((FrB.drewN (FrB.refl R (R + 1) _ wr) n).trans hf3).below R (by omega) (by omega) (by omega))
   ·have h32' : ((out.length : Int) == 32) = false := by rw [beq_eq_false_iff_ne]; omega
    cases hn : nextS (s.size - j + 1) (s.data.toList.drop j) [] with
    | error c =>
     have HR := h_ (Hq.out.symm.trans (splitS_err hfu hlt Hd.out h32 hn))
     have hc0 := next_err_ne (by rw [drop_len]; omega) hn
     have HN := h_ hn; clear hn h32
     go_wp2_with (first
      | (go_at_call 173; refine (end_any R (R + 1) s j cs _ (by exact hr)).mono ?_; rintro e w' ⟨rfl, n, rfl⟩)
      | (go_at_call 175; refine (next_any R (R + 1) s j cs _ (by exact hr.drewN _) hj hs _ HN.out).mono ?_; rintro e w' ⟨hf3, rfl⟩))
     go_ret2
     have hRl : R < wr.heap.size := by obtain ⟨_, _, h, _⟩ := hr; exact lt_heap h
     refine ⟨?_, by rw [HR.out]; rfl⟩
     rw [HRn.out]
     exact Hbel.out.trans (((FrB.drewN (FrB.refl R (R + 1) _ wr) n).trans hf3).below R (by omega) (by omega) (by omega))
    | ok x =>
     obtain ⟨x, r⟩ := x
     have HR := h_ ((splitS_ok hfu hlt Hd.out h32 hn).symm.trans Hq.out)
     have hlr : r.length ≤ s.size - (j + 1) := by
      have h1 := hn
      rw [drop_cons s j hlt] at h1
      have := next_len' (not_blank hlt Hd.out) h1
      rw [drop_len] at this; exact this
     have hol' : out.length < 32 := by omega
     have HN := h_ hn; clear hn h32
     go_wp2_with (first
      | (go_at_call 173; refine (end_any R (R + 1) s j cs _ (by exact hr)).mono ?_; rintro e w' ⟨rfl, n, rfl⟩)
      | (go_at_call 175; refine (next_any R (R + 1) s j cs _ (by exact hr.drewN _) hj hs _ HN.out).mono ?_))
     rintro e w3 ⟨hf3, rfl, j', cs', rfl, hj', hcs', hr3⟩
     have hRl : R < wr.heap.size := by obtain ⟨_, _, h, _⟩ := hr; exact lt_heap h
     have hf4 := (FrB.drewN (FrB.refl R (R + 1) _ wr) n).trans hf3
     have hown3 : w3.ownsRow R 9 1 (.slice oa out.length cap) out.length (strVals out) := by
      obtain ⟨p, v, h1, _⟩ := hr
      exact ownsRow_frB Hown.out hf4 (by decide) h1 (by decide)
     have HB3 := h_ (Hbel.out.trans (hf4.below R (by omega) (by omega) (by omega)))
     have hsz3 : R < w3.heap.size := by have := hf4.size; omega
     rw [drop_len] at hlr
     clear Hown Hbel hf3 hf4 c0 c1 f1 hr
     go_wp2_with (at_builtin; refine wpList_append_own _ rfl _ _ 28 rfl R 9 i0 (.string ⟨#[]⟩) 1 16 Tryz.underlying28 hi hz0 hz1 hz2 rfl (by decide) _ _ _ rfl (hown3.alloc _) ⟨w3.heap.size, 0, none⟩ 1 1 [.string ⟨x.toArray⟩] rfl rfl ?c1 ?c2 ?c3 ?c4 ?c5 ?_)
     case c1 => exact cell_one_new _ _ _
     case c2 => simp [Value.oneCell']
     case c3 => unfold maxLen; omega
     case c4 => omega
     case c5 => simp; omega
     intro v' w4 hown' hgrow hnil
     have hR4 : Fr (fun k => (Value.slice oa out.length cap).ownBlock = some k) w3 w4 := (Fr.alloc (Fr.refl _ _) _).grown hgrow (fun k hk _ => hk)
     have hRown : (Value.slice oa out.length cap).ownBlock ≠ some R := by
      intro e
      obtain ⟨p, v, h1, _⟩ := hr3
      rcases hown3.2 with ⟨h, _⟩ | ⟨g, _, _, h, _, hg, _⟩
      ·rw [h] at e; simp [Value.ownBlock] at e
      ·rw [h] at e; simp [Value.ownBlock] at e; subst e; rw [h1] at hg; simp at hg
     have hr4 : Rdr R (R + 1) s j' cs' w4 := hr3.frame hR4 hRown (by
      rintro i hi ⟨cs2, fz2, h2⟩ e
      rcases hown3.2 with ⟨h, _⟩ | ⟨g, _, _, h, _, hg, _⟩
      ·rw [h] at e; simp [Value.ownBlock] at e
      ·rw [h] at e; simp [Value.ownBlock] at e; subst e; rw [h2] at hg; simp at hg)
     have HB4 := h_ (HB3.out.trans (Fr.below hR4 R (by omega) (fun k hk e => by have := hown3.lt k e; omega)))
     have HO4 := h_ (show w4.ownsRow R 9 1 v' (out ++ [x]).length (strVals (out ++ [x])) by rw [strVals_snoc, List.length_append]; exact hown')
     clear hgrow hnil hown' hR4 hRown hown3 HB3
     obtain ⟨ao, n', cap', rfl⟩ : ∃ ao n' cap, v' = .slice ao n' cap := by
      obtain ⟨oa, cap, h⟩ := ownsRow_form HO4.out
      exact ⟨_, _, _, h⟩
     go_wp2_with ((go_at_call 172; refine (blanks_any R (R + 1) s j' cs' _ (by exact hr4) hj' hs).mono ?_))
     rintro e w5 ⟨rfl, hf5, j5, hj5, hj5', hd5, hr5⟩
     have hsz4 : R < w4.heap.size := by obtain ⟨_, _, h, _⟩ := hr4; exact lt_heap h
     have HO5 := h_ (show w5.ownsRow R 9 1 (.slice ao n' cap') (out ++ [x]).length (strVals (out ++ [x])) by
      obtain ⟨p, v, h1, _⟩ := hr4
      exact ownsRow_frB HO4.out hf5 (by decide) h1 (by decide))
     have HB5 := h_ (HB4.out.trans (hf5.below R (by omega) (by omega) (by omega)))
     have HD5 := h_ hd5; clear hd5
     go_wp2_with fail
     go_roundg (gk - 1)
     case measure => omega
     case rel =>
      refine ⟨j5, cs', out ++ [x], hr5, hj5', by omega, by omega, ?_, ?_, by simp; omega, HO5, HB5⟩
      ·show _ = _
       rw [HD5.out, dropWhile_dropWhile]
      ·show splitS _ _ _ = _
       rw [HD5.out, splitS_dw]
       exact HR.out
  ·have hd : decide (s.size ≤ j) = true := by simpa using hlt
   have hge : s.size ≤ j := by omega
   have HR := h_ (Hq.out.symm.trans (splitS_end hfu hge))
   go_wp2_with (go_at_call 173; refine (end_any R (R + 1) s j cs _ (by exact hr)).mono ?_; rintro e w' ⟨rfl, n, rfl⟩)
   go_ret2
   refine ⟨?_, by rw [HR.out]; exact ⟨_, rfl, by rw [HRn.out]; exact Hown.out⟩⟩
   rw [HRn.out]
   exact Hbel.out.trans ⟨rfl, rfl, rfl, Nat.le_refl _, fun _ _ => rfl⟩
end Go.Proofs.YtdjkedcpehhmnaaGreatDoor
