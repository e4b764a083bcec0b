import Derived.Test.YtdpnahojhmkemaaGreatDoorKP8
import Derived.Test.YtdpnahojhmkemaaGreatDoorKP9
import Derived.Test.YtdpnahojhmkemaaGreatDoorKP10
import Derived.Test.YtdpnahojhmkemaaGreatDoorKP27
import Derived.Test.YtdpnahojhmkemaaGreatDoorKP30
namespace Go.Proofs.YtdpnahojhmkemaaGreatDoor
set_option linter.unusedVariables false
set_option linter.unusedSimpArgs false
set_option maxRecDepth 100000
def nameD (d : Nat) : Str := weekS.getD (d - 1) []
def hitE (w : Str) (d : Nat) : Nat → Nat → Nat × Nat → Nat × Nat
 | 0, _, p => p
 | n + 1, e, p => hitE w d n (e + 1) (if w = nameD d ++ [46, 46] ++ nameD e then (d, e) else p)
def hitD (w : Str) : Nat → Nat → Nat × Nat → Nat × Nat
 | 0, _, p => p
 | n + 1, d, p => hitD w n (d + 1) (hitE w d (8 - d) d (if w = nameD d then (d, d) else p))
def rangeW (w : Str) : Nat × Nat := hitD w 7 1 (0, 0)
def allE (d : Nat) : Nat → Nat → List (Str × Nat × Nat)
 | 0, _ => []
 | n + 1, e => (nameD d ++ [46, 46] ++ nameD e, d, e) :: allE d n (e + 1)
def allD : Nat → Nat → List (Str × Nat × Nat)
 | 0, _ => []
 | n + 1, d => (nameD d, d, d) :: (allE d (8 - d) d ++ allD n (d + 1))
theorem hitE_fold (w : Str) (d : Nat) : ∀ (n e : Nat) (p : Nat × Nat), hitE w d n e p = (allE d n e).foldl (fun p x => if w = x.1 then x.2 else p) p
 | 0, _, _ => rfl
 | n + 1, e, p => by rw [hitE, hitE_fold w d n, allE, List.foldl_cons]
theorem hitD_fold (w : Str) : ∀ (n d : Nat) (p : Nat × Nat), hitD w n d p = (allD n d).foldl (fun p x => if w = x.1 then x.2 else p) p
 | 0, _, _ => rfl
 | n + 1, d, p => by rw [hitD, hitD_fold w n, hitE_fold, allD, List.foldl_cons, List.foldl_append]
theorem fold_none (w : Str) : ∀ (l : List (Str × Nat × Nat)) (p : Nat × Nat), (∀ x ∈ l, w ≠ x.1) → l.foldl (fun p x => if w = x.1 then x.2 else p) p = p
 | [], _, _ => rfl
 | x :: t, p, h => by rw [List.foldl_cons, if_neg (h x (by simp)), fold_none w t p (fun y hy => h y (List.mem_cons_of_mem _ hy))]
def pairD (w : Str) : Nat × Nat := match dayRange w with | none => (0, 0) | some (f, l) => (f + 1, l + 1)
theorem dayFrom_at : ∀ (l : List Str) (s : Str) (i n : Nat), dayFrom l s i = n → i ≤ n ∧ l[n - i]? = some s
 | [], s, i, n, h => by simp [dayFrom] at h
 | d :: r, s, i, n, h => by
  rw [dayFrom] at h
  split at h
  ·rename_i e
   have : i = n := by omega
   subst this
   exact ⟨Nat.le_refl _, by rw [Nat.sub_self, e]; rfl⟩
  ·obtain ⟨h1, h2⟩ := dayFrom_at r s (i + 1) n h
   refine ⟨by omega, ?_⟩
   rw [show n - i = (n - (i + 1)) + 1 by omega]
   simpa using h2
theorem day_name (s : Str) (n : Nat) (h : dayIx s = n) : n < 7 ∧ s = nameD (n + 1) := by
 obtain ⟨-, h2⟩ := dayFrom_at weekS s 0 n h
 have hn : n < 7 := by
  rcases Nat.lt_or_ge n 7 with h3 | h3
  ·exact h3
  ·rw [List.getElem?_eq_none (by simp; omega)] at h2; cases h2
 refine ⟨hn, ?_⟩
 unfold nameD
 rw [List.getD_eq_getElem?_getD, show n + 1 - 1 = n - 0 by omega, h2]
 rfl
theorem all_pairs : ∀ x ∈ allD 7 1, rangeW x.1 = pairD x.1 := by decide +kernel
theorem in_one : ∀ i, i < 7 → (nameD (i + 1)) ∈ (allD 7 1).map (·.1) := by decide +kernel
theorem in_two : ∀ i, i < 7 → ∀ j, j < 7 → i ≤ j → (nameD (i + 1) ++ [46, 46] ++ nameD (j + 1)) ∈ (allD 7 1).map (·.1) := by decide +kernel
theorem index_two : ∀ (l : Str) (n : Nat), Go.Lib.index l [46, 46] = n → l = l.take n ++ [46, 46] ++ l.drop (n + 2)
 | [], n, h => by simp [Go.Lib.index] at h
 | b :: t, n, h => by
  rw [Go.Lib.index] at h
  have hg := Go.Lib.index_ge t [46, 46]
  split at h
  ·rename_i hp
   obtain rfl : n = 0 := by omega
   match t, hp with
   | [], hp => simp [List.isPrefixOf] at hp
   | c :: r, hp =>
    simp [List.isPrefixOf] at hp
    obtain ⟨rfl, rfl⟩ := hp
    rfl
  ·split at h
   ·omega
   ·rename_i h2
    have h3 : ¬ Go.Lib.index t [46, 46] = -1 := by simpa using h2
    obtain ⟨m, hm⟩ : ∃ m : Nat, Go.Lib.index t [46, 46] = m := ⟨(Go.Lib.index t [46, 46]).toNat, by omega⟩
    obtain rfl : n = m + 1 := by omega
    have := index_two t m hm
    rw [List.take_succ_cons, show m + 1 + 2 = (m + 2) + 1 by omega, List.drop_succ_cons, List.cons_append, List.cons_append, ← this]
theorem cut_back (w : Str) : (Go.Lib.cut w [46, 46]).2.2 = true → w = (Go.Lib.cut w [46, 46]).1 ++ [46, 46] ++ (Go.Lib.cut w [46, 46]).2.1 := by
 unfold Go.Lib.cut
 split
 ·rename_i h
  intro _
  obtain ⟨n, hn⟩ : ∃ n : Nat, Go.Lib.index w [46, 46] = n := ⟨(Go.Lib.index w [46, 46]).toNat, by omega⟩
  have := index_two w n hn
  rw [hn]
  simpa using this
 ·intro h; simp at h
theorem cut_same (w : Str) : (Go.Lib.cut w [46, 46]).2.2 = false → w = (Go.Lib.cut w [46, 46]).1 := by
 unfold Go.Lib.cut
 split <;> simp
theorem range_in (w c1 c2 : Str) (q : Bool) (hcut : Go.Lib.cut w [46, 46] = (c1, c2, q)) (p : Nat × Nat) (hd : dayRange w = some p) : w ∈ (allD 7 1).map (·.1) := by
 have hb := cut_back w; have hs := cut_same w
 unfold dayRange at hd
 rw [hcut] at hd hb hs
 simp only at hd hb hs
 cases q with
 | false =>
  rw [hs rfl]
  by_cases hc : dayIx c1 < 0
  ·rw [if_pos (.inl hc)] at hd; cases hd
  ·rcases dayIx_cases c1 with h | ⟨i, hi, -⟩
   ·omega
   ·obtain ⟨hi7, hin1⟩ := day_name _ i hi
    rw [hin1]; exact in_one i hi7
 | true =>
  rw [hb rfl]
  by_cases hc : dayIx c1 < 0
  ·rw [if_pos (.inl hc)] at hd; cases hd
  ·by_cases hc2 : dayIx c2 < dayIx c1
   ·rw [if_pos (.inr (by simpa using hc2))] at hd; cases hd
   ·rcases dayIx_cases c1 with h | ⟨i, hi, -⟩
    ·omega
    ·obtain ⟨hi7, hin1⟩ := day_name _ i hi
     rcases dayIx_cases c2 with h | ⟨j, hj, -⟩
     ·omega
     ·obtain ⟨hj7, hjn⟩ := day_name _ j hj
      rw [hin1, hjn]
      exact in_two i hi7 j hj7 (by omega)
theorem range_pair (w : Str) : rangeW w = pairD w := by
 by_cases hin : w ∈ (allD 7 1).map (·.1)
 ·rw [List.mem_map] at hin
  obtain ⟨x, hx, rfl⟩ := hin
  exact all_pairs x hx
 ·have h1 : rangeW w = (0, 0) := by
   unfold rangeW
   rw [hitD_fold]
   exact fold_none w _ _ (fun x hx e => hin (by rw [e]; exact List.mem_map.2 ⟨x, hx, rfl⟩))
  rw [h1]
  unfold pairD
  cases hd : dayRange w with
  | none => rfl
  | some p => exact absurd (range_in w _ _ _ rfl p hd) hin
end Go.Proofs.YtdpnahojhmkemaaGreatDoor
namespace Go.Proofs.YtdpnahojhmkemaaGreatDoor
open Go Go.RowKit
set_option linter.unusedVariables false
set_option linter.unusedSimpArgs false
set_option maxRecDepth 100000
theorem ext_str3 (s : ByteArray) (a b : Nat) (l : Str) (h : (s.extract a b).data.toList = l) : s.extract a b = ⟨l.toArray⟩ := by
 apply bytes_ext; rw [h]
theorem ext_list3 (s : ByteArray) (a b : Nat) : (s.extract a b).data.toList = (s.data.toList.drop a).take (b - a) := by
 rw [Lib.extract_data]
theorem noC_snoc {l : Str} {c d : UInt8} (h : ∀ x ∈ l, x ≠ c) (hd : (d == c) = false) : ∀ x ∈ l ++ [d], x ≠ c := by
 intro x hx
 rcases List.mem_append.1 hx with hx | hx
 ·exact h x hx
 ·simp at hx; subst hx; simpa using hd
theorem drop_take_snoc3 (l : Str) (f k : Nat) (hf : f ≤ k) (hk : k < l.length) : (l.drop f).take (k + 1 - f) = (l.drop f).take (k - f) ++ [l[k]] := by
 have h : k - f < (l.drop f).length := by simp; omega
 rw [show k + 1 - f = (k - f) + 1 by omega, List.take_succ_eq_append_getElem h, List.getElem_drop]
 congr 3
 omega
theorem drop_cut3 (l : Str) (f k : Nat) (hf : f ≤ k) (hk : k < l.length) : l.drop f = (l.drop f).take (k - f) ++ l[k] :: l.drop (k + 1) := by
 have h1 := (List.take_append_drop (k - f) (l.drop f)).symm
 rw [List.drop_drop, show f + (k - f) = k by omega, List.drop_eq_getElem_cons hk] at h1
 exact h1
theorem beqC (a c : UInt8) : ((a.toNat : Int) == (c.toNat : Int)) = (a == c) := by
 rw [Bool.eq_iff_iff, beq_iff_eq, beq_iff_eq, ← UInt8.toNat_inj]; omega
set_option maxHeartbeats 2000000 in
theorem splitRef3_any (s : ByteArray) (c : UInt8) (w : World) (hs : s.size ≤ 1000000000) (rows : List Str) (hrows : splitC c s.data.toList = rows) :
  Calls Tryz.prog 55 #[.string s, .int .u8 c.toNat] w fun e w' => RowsOut w rows e w' := by
 have HRows := Lib.hid hrows; clear hrows
 obtain ⟨i0, hi, hz0, hz1, hz2⟩ := info_parts infoStrB
 have HBC := Lib.hid (fun a => beqC a c)
 obtain ⟨cn, hcn⟩ : ∃ cn : Int, cn = (c.toNat : Int) := ⟨_, rfl⟩
 rw [← hcn] at HBC ⊢
 clear hcn
 go_enter Tryz.func55, Tryz.ntmps55
 go_wp2_with fail
 go_loopg [5, 6, 7] (s.size + 1) (fun f v fr i wr => ∃ (fm k : Nat) (done : List Str), fm ≤ k ∧ k ≤ s.size ∧ fr = .int .i64 fm ∧ i = .int .i64 k ∧ s.size - k < f ∧ done.length ≤ k ∧ Hid (wr.ownsRow w.heap.size 9 1 v done.length (strVals done)) ∧
  Hid (done ++ splitC c (s.data.toList.drop fm) = rows) ∧ Hid (∀ x ∈ (s.data.toList.drop fm).take (k - fm), x ≠ c) ∧ Hid (Below w.heap.size w wr))
 case atStart => exact ⟨0, 0, [], by omega, by omega, rfl, rfl, by omega, by simp, World.ownsRow_nil _ _ _ _, by rw [List.drop_zero]; exact HRows.out, (show ∀ x ∈ (s.data.toList.drop 0).take (0 - 0), x ≠ c by simp), Below.refl _ _⟩
 case round =>
  obtain ⟨fm, k, done, hfk, hk, rfl, rfl, hfu, hdl, Hown, Hq, Hn, HB⟩ := hrel
  obtain ⟨oa, cap, rfl⟩ := ownsRow_form Hown.out
  have hsz := HB.out.size
  have hlen : s.data.toList.length = s.size := by simp
  by_cases hlt : k < s.size
  ·have hlt' : k < s.data.toList.length := by rw [hlen]; exact hlt
   have e10 : ((s[k].toNat : Int) == cn) = (s[k] == c) := HBC.out s[k]
   cases hc : (s[k] == c) with
   | true =>
    have HX := Lib.hid (ext_str3 s fm k _ (ext_list3 s fm k))
    have HR := Lib.hid (show done ++ [(s.data.toList.drop fm).take (k - fm)] ++ splitC c (s.data.toList.drop (k + 1)) = rows by
     have h10 : s.data.toList[k] = c := eq_of_beq hc
     have e := drop_cut3 s.data.toList fm k hfk hlt'
     rw [h10] at e
     have e2 := (congrArg (splitC c) e).trans (splitC_app c _ _ Hn.out)
     rw [← Hq.out, e2, List.append_assoc]
     rfl)
    rw [hc] at e10
    clear hc hlen
    have hown0 := Hown.out
    go_wp2_with (at_builtin; refine wpList_append_own _ rfl _ _ 26 rfl w.heap.size 9 i0 (.string ⟨#[]⟩) 1 16 Tryz.underlying26 hi hz0 hz1 hz2 rfl (by decide) _ _ _ rfl (hown0.alloc _) ⟨wr.heap.size, 0, none⟩ 1 1 [.string (s.extract fm k)] rfl rfl (by exact cell_one_new _ _ _) (by simp [Value.oneCell']) (by unfold maxLen; omega) (by omega) (by simp; omega) ?_)
    intro v' w2 hown' hgrow hnil
    have HB2 := Lib.hid ((HB.out.alloc hsz _).grown hgrow (by simp; omega) (fun g hg => (hown0.lt g hg).1))
    have HO2 := Lib.hid (show w2.ownsRow w.heap.size 9 1 v' (done ++ [(s.data.toList.drop fm).take (k - fm)]).length (strVals (done ++ [(s.data.toList.drop fm).take (k - fm)])) by
     rw [strVals_snoc, ← HX.out, List.length_append]; exact hown')
    clear hgrow hnil hown' hown0
    go_wp2_with fail
    go_roundg (s.size - k)
    case measure => omega
    case rel => exact ⟨k + 1, k + 1, _, by omega, by omega, by go_num, by go_num, by omega, by simp; omega, HO2, HR, (show ∀ x ∈ (s.data.toList.drop (k + 1)).take (k + 1 - (k + 1)), x ≠ c by simp), HB2⟩
   | false =>
    have HT := Lib.hid (show ∀ x ∈ (s.data.toList.drop fm).take (k + 1 - fm), x ≠ c by
     rw [drop_take_snoc3 s.data.toList fm k hfk hlt']; exact noC_snoc Hn.out hc)
    rw [hc] at e10
    clear hc hlen
    go_wp2_with fail
    go_roundg (s.size - k)
    case measure => omega
    case rel => exact ⟨fm, k + 1, done, by omega, by omega, rfl, by go_num, by omega, by omega, Hown, Hq, HT, HB⟩
  ·have : k = s.size := by omega
   subst this
   have HX := Lib.hid (ext_str3 s fm s.size (s.data.toList.drop fm) (Lib.extract_to_end s fm))
   have HR := Lib.hid (show done ++ [s.data.toList.drop fm] = rows by
    rw [← Hq.out, splitC_one c _ (by have := Hn.out; rw [List.take_of_length_le (by simp)] at this; exact this)])
   clear hlen
   have hown0 := Hown.out
   go_wp2_with (at_builtin; refine wpList_append_own _ rfl _ _ 26 rfl w.heap.size 9 i0 (.string ⟨#[]⟩) 1 16 Tryz.underlying26 hi hz0 hz1 hz2 rfl (by decide) _ _ _ rfl (hown0.alloc _) ⟨wr.heap.size, 0, none⟩ 1 1 [.string (s.extract fm s.size)] rfl rfl (by exact cell_one_new _ _ _) (by simp [Value.oneCell']) (by unfold maxLen; omega) (by omega) (by simp; omega) ?_)
   intro v' w2 hown' hgrow hnil
   have HB2 := Lib.hid ((HB.out.alloc hsz _).grown hgrow (by simp; omega) (fun g hg => (hown0.lt g hg).1))
   have HO2 := Lib.hid (show w2.ownsRow w.heap.size 9 1 v' rows.length (strVals rows) by
    rw [← HR.out, strVals_snoc, ← HX.out, List.length_append]; exact hown')
   clear hgrow hnil hown' hown0
   go_wp2_with fail
   go_ret
   exact ⟨HB2.out, v', rfl, HO2.out⟩
set_option maxHeartbeats 2000000 in
theorem shortR_any (s : Str) (w : World) : Calls Tryz.prog 56 #[.string ⟨s.toArray⟩] w fun e w' => e = .returned (.string ⟨(nmS s).toArray⟩) ∧ w' = w := by
 by_cases h0 : s = [109, 105, 110, 117, 116, 101, 108, 121]
 ·subst h0
  go_enter Tryz.func56, Tryz.ntmps56
  go_wp2_with fail
  go_ret
  exact ⟨rfl, rfl⟩
 by_cases h1 : s = [104, 111, 117, 114, 108, 121]
 ·subst h1
  go_enter Tryz.func56, Tryz.ntmps56
  go_wp2_with fail
  go_ret
  exact ⟨rfl, rfl⟩
 by_cases h2 : s = [100, 97, 105, 108, 121]
 ·subst h2
  go_enter Tryz.func56, Tryz.ntmps56
  go_wp2_with fail
  go_ret
  exact ⟨rfl, rfl⟩
 by_cases h3 : s = [119, 101, 101, 107, 108, 121]
 ·subst h3
  go_enter Tryz.func56, Tryz.ntmps56
  go_wp2_with fail
  go_ret
  exact ⟨rfl, rfl⟩
 by_cases h4 : s = [109, 111, 110, 116, 104, 108, 121]
 ·subst h4
  go_enter Tryz.func56, Tryz.ntmps56
  go_wp2_with fail
  go_ret
  exact ⟨rfl, rfl⟩
 by_cases h5 : s = [121, 101, 97, 114, 108, 121]
 ·subst h5
  go_enter Tryz.func56, Tryz.ntmps56
  go_wp2_with fail
  go_ret
  exact ⟨rfl, rfl⟩
 have b0 : (s == [109, 105, 110, 117, 116, 101, 108, 121]) = false := by rw [beq_eq_false_iff_ne]; exact h0
 have b1 : (s == [104, 111, 117, 114, 108, 121]) = false := by rw [beq_eq_false_iff_ne]; exact h1
 have b2 : (s == [100, 97, 105, 108, 121]) = false := by rw [beq_eq_false_iff_ne]; exact h2
 have b3 : (s == [119, 101, 101, 107, 108, 121]) = false := by rw [beq_eq_false_iff_ne]; exact h3
 have b4 : (s == [109, 111, 110, 116, 104, 108, 121]) = false := by rw [beq_eq_false_iff_ne]; exact h4
 have b5 : (s == [121, 101, 97, 114, 108, 121]) = false := by rw [beq_eq_false_iff_ne]; exact h5
 have HS := Lib.hid (show nmS s = s by unfold nmS; simp only [if_neg h0, if_neg h1, if_neg h2, if_neg h3, if_neg h4, if_neg h5])
 clear h0 h1 h2 h3 h4 h5
 go_enter Tryz.func56, Tryz.ntmps56
 go_wp2_with fail
 go_ret
 exact ⟨by rw [HS.out]; rfl, rfl⟩
theorem dayName_any (d : Nat) (h1 : 1 ≤ d) (h7 : d ≤ 7) (w : World) : Calls Tryz.prog 93 #[.int .i64 d] w fun e w' => e = .returned (.string ⟨(nameD d).toArray⟩) ∧ w' = w := by
 match d, h1, h7 with
 | 1, _, _ =>
  go_enter Tryz.func93, Tryz.ntmps93
  go_wp2_with fail
  go_ret
  exact ⟨rfl, rfl⟩
 | 2, _, _ =>
  go_enter Tryz.func93, Tryz.ntmps93
  go_wp2_with fail
  go_ret
  exact ⟨rfl, rfl⟩
 | 3, _, _ =>
  go_enter Tryz.func93, Tryz.ntmps93
  go_wp2_with fail
  go_ret
  exact ⟨rfl, rfl⟩
 | 4, _, _ =>
  go_enter Tryz.func93, Tryz.ntmps93
  go_wp2_with fail
  go_ret
  exact ⟨rfl, rfl⟩
 | 5, _, _ =>
  go_enter Tryz.func93, Tryz.ntmps93
  go_wp2_with fail
  go_ret
  exact ⟨rfl, rfl⟩
 | 6, _, _ =>
  go_enter Tryz.func93, Tryz.ntmps93
  go_wp2_with fail
  go_ret
  exact ⟨rfl, rfl⟩
 | 7, _, _ =>
  go_enter Tryz.func93, Tryz.ntmps93
  go_wp2_with fail
  go_ret
  exact ⟨rfl, rfl⟩
 | n + 8, _, h => omega
end Go.Proofs.YtdpnahojhmkemaaGreatDoor
namespace Go.Proofs.YtdpnahojhmkemaaGreatDoor
open Go Go.RowKit
set_option linter.unusedVariables false
set_option linter.unusedSimpArgs false
set_option maxRecDepth 100000
def numR4 (s : Str) : Int := if (numC s).2 = true then (numC s).1 else -1
theorem numR4_no (s : Str) (h : longB s 4 isDigit = false) : numR4 s = -1 := by unfold numR4 numC; rw [h]; rfl
set_option maxHeartbeats 4000000 in
theorem number4_any (s : ByteArray) (w : World) (r : Int) (hr : numR4 s.data.toList = r) :
  Calls Tryz.prog 126 #[.string s] w fun e w' => e = .returned (.int .i64 r) ∧ Below w.heap.size w w' := by
 have hlen : s.data.toList.length = s.size := by simp
 have HR := Lib.hid hr
 clear hr
 by_cases h1 : s.size < 1
 ·have hz : (s.size : Int) < 1 := by omega
  have HN := Lib.hid (show -1 = r by
   rw [← HR.out, numR4_no _ (by unfold longB; rw [List.eq_nil_of_length_eq_zero (by omega : s.data.toList.length = 0)]; rfl)])
  clear HR hlen
  go_enter Tryz.func126, Tryz.ntmps126
  go_wp2
  go_ret
  exact ⟨by rw [← HN.out]; rfl, Below.refl _ _⟩
 ·have hz : ¬ (s.size : Int) < 1 := by omega
  by_cases h5 : 4 < s.size
  ·have hz5 : (s.size : Int) > 4 := by omega
   have HN := Lib.hid (show -1 = r by
    rw [← HR.out, numR4_no _ (by unfold longB; rw [hlen, decide_eq_false (by omega)]; simp)])
   clear HR hlen
   go_enter Tryz.func126, Tryz.ntmps126
   go_wp2
   go_ret
   exact ⟨by rw [← HN.out]; rfl, Below.refl _ _⟩
  ·have hz5 : ¬ (s.size : Int) > 4 := by omega
   have h5n : s.size ≤ 4 := by omega
   obtain ⟨u, hu⟩ : ∃ u, u = s.data.toList := ⟨_, rfl⟩
   rw [← hu] at HR hlen
   have HU := Lib.hid hu
   clear hu
   go_enter Tryz.func126, Tryz.ntmps126
   go_wp2
   go_loopg [3, 4] (s.size + 1) (fun f s3 s4 wr => ∃ k n : Nat, k ≤ s.size ∧ s.size - k < f ∧ s4 = .int .i64 k ∧ s3 = .int .i64 n ∧ n ≤ 9999 ∧ Hid (decS (u.take k) = n) ∧ Hid ((u.take k).all isDigit = true) ∧ Hid (Below w.heap.size w wr))
   case atStart => exact ⟨0, 0, by omega, by omega, rfl, rfl, by omega, Lib.hid rfl, Lib.hid rfl, Below.refl _ _⟩
   case round =>
    obtain ⟨k, n, hk, hf, rfl, rfl, hn, HV, HA, HB⟩ := hrel
    by_cases hlt : k < s.size
    ·have hltz : (k : Int) < (s.size : Int) := by omega
     have hcu : u.take (k + 1) = u.take k ++ [s[k]] := by
      have hkl : k < u.length := by omega
      rw [List.take_add_one, List.getElem?_eq_getElem hkl]
      simp [HU.out]
      rfl
     have HDG := Lib.hid (fun V => dig1_any s[k] V)
     have HV1 := Lib.hid (show decS (u.take (k + 1)) = n * 10 + (s[k].toNat - 48) by rw [hcu, decS_snoc, HV.out])
     have HA1 := Lib.hid (show (u.take (k + 1)).all isDigit = isDigit s[k] by rw [hcu, List.all_append, HA.out]; simp)
     clear hcu
     cases hd : isDigit s[k] with
     | false =>
      rw [hd] at HDG
      have HN := Lib.hid (show -1 = r by
       rw [← HR.out, numR4_no]
       unfold longB
       have : u.all isDigit = false := by
        rw [← List.take_append_drop (k + 1) u, List.all_append, HA1.out, hd]; rfl
       rw [this]; simp)
      clear HV1 HA1 HV HA hd
      go_wp2_with fail
      refine (HDG.out _).mono ?_
      rintro e w2 ⟨rfl, rfl⟩
      go_wp2_with fail
      go_ret
      exact ⟨by rw [← HN.out]; rfl, HB.out⟩
     | true =>
      rw [hd] at HDG HA1
      obtain ⟨d1, d2⟩ := (isDigit_nat s[k]).1 hd
      have hbd : n * 10 + (s[k].toNat - 48) ≤ 9999 := by
       have h := decS_lt (u.take (k + 1)) HA1.out 4 (by rw [List.length_take]; omega)
       rw [HV1.out] at h
       omega
      clear HV HA hd
      go_wp2_with fail
      refine (HDG.out _).mono ?_
      rintro e w2 ⟨rfl, rfl⟩
      go_wp2_with fail
      go_roundg (s.size - k)
      case measure => omega
      case rel => exact ⟨k + 1, n * 10 + (s[k].toNat - 48), by omega, by omega, by go_num, by go_num, hbd, HV1, HA1, HB⟩
    ·have hltz : ¬ (k : Int) < (s.size : Int) := by omega
     obtain rfl : k = s.size := by omega
     rw [List.take_of_length_le (by omega)] at HV HA
     have hlb : longB u 4 isDigit = true := by
      unfold longB
      rw [HA.out, decide_eq_true (by omega)]
      cases u with
      | nil => simp at hlen; omega
      | cons a t => rfl
     have HN := Lib.hid (show (n : Int) = r by
      rw [← HR.out]; unfold numR4 numC
      rw [if_pos hlb, HV.out]; rfl)
     clear hlb HV HA
     go_wp2_with fail
     go_ret
     exact ⟨by rw [← HN.out]; rfl, HB.out⟩
def ptFrom : Str → Nat → Int
 | [], _ => -1
 | [_], _ => -1
 | a :: b :: t, i => if a = 46 ∧ b = 46 then (i : Int) else ptFrom (b :: t) (i + 1)
theorem ptFrom_index : ∀ (l : Str) (i : Nat), ptFrom l i = if Go.Lib.index l [46, 46] = -1 then -1 else Go.Lib.index l [46, 46] + i
 | [], i => rfl
 | [a], i => by
  have hp : ([46, 46] : Str).isPrefixOf [a] = false := by simp [List.isPrefixOf]
  simp [ptFrom, Go.Lib.index, hp]
 | a :: b :: t, i => by
  have hg := Go.Lib.index_ge (b :: t) [46, 46]
  have ih := ptFrom_index (b :: t) (i + 1)
  rw [ptFrom, Go.Lib.index]
  generalize Go.Lib.index (b :: t) [46, 46] = z at *
  by_cases h : a = 46 ∧ b = 46
  ·obtain ⟨rfl, rfl⟩ := h
   simp [List.isPrefixOf]
  ·have hp : ([46, 46] : Str).isPrefixOf (a :: b :: t) = false := by
    rw [← Bool.not_eq_true]
    intro e
    simp [List.isPrefixOf] at e
    exact h ⟨e.1.symm, e.2.symm⟩
   rw [if_neg h, hp, ih]
   by_cases h2 : z = -1
   ·simp [h2]
   ·have h3 : (z == -1) = false := by simpa using h2
    simp only [h3, if_neg h2]
    rw [if_neg (by simp; omega)]
    simp
    omega
theorem ptFrom_cases : ∀ (l : Str) (i : Nat), ptFrom l i = -1 ∨ ∃ n : Nat, ptFrom l i = n ∧ i ≤ n ∧ n + 1 < i + l.length
 | [], i => .inl rfl
 | [a], i => .inl rfl
 | a :: b :: t, i => by
  rw [ptFrom]
  by_cases h : a = 46 ∧ b = 46
  ·rw [if_pos h]; exact .inr ⟨i, rfl, Nat.le_refl _, by simp⟩
  ·rw [if_neg h]
   rcases ptFrom_cases (b :: t) (i + 1) with h1 | ⟨n, h1, h2, h3⟩
   ·exact .inl h1
   ·exact .inr ⟨n, h1, by omega, by simp at h3 ⊢; omega⟩
theorem cut_no2 (w : Str) (h : ptFrom w 0 = -1) : Go.Lib.cut w [46, 46] = (w, [], false) := by
 rw [ptFrom_index] at h
 have hg := Go.Lib.index_ge w [46, 46]
 have : Go.Lib.index w [46, 46] = -1 := by
  by_cases h2 : Go.Lib.index w [46, 46] = -1
  ·exact h2
  ·rw [if_neg h2] at h; omega
 unfold Go.Lib.cut
 rw [this]
 rfl
theorem cut_yes2 (w : Str) (i : Nat) (h : ptFrom w 0 = i) : Go.Lib.cut w [46, 46] = (w.take i, w.drop (i + 2), true) := by
 rw [ptFrom_index] at h
 have hg := Go.Lib.index_ge w [46, 46]
 have h2 : Go.Lib.index w [46, 46] = i := by
  by_cases h2 : Go.Lib.index w [46, 46] = -1
  ·rw [if_pos h2] at h; omega
  ·rw [if_neg h2] at h; simpa using h
 unfold Go.Lib.cut
 rw [h2, if_pos (by omega)]
 simp
theorem ext_two (s : ByteArray) (k : Nat) (h : k + 1 < s.size) : s.extract k (k + 2) = ⟨#[s[k], s[k + 1]]⟩ := by
 apply bytes_ext
 rw [Lib.extract_data, drop_cons s k (by omega), drop_cons s (k + 1) h, show k + 2 - k = 2 by omega]
 rfl
set_option maxHeartbeats 2000000 in
theorem points_any (s : ByteArray) (w : World) (h63 : s.size ≤ 1000000000) (r : Int) (hr : ptFrom s.data.toList 0 = r) :
  Calls Tryz.prog 127 #[.string s] w fun e w' => e = .returned (.int .i64 r) ∧ Below w.heap.size w w' := by
 have HR := Lib.hid hr
 clear hr
 go_enter Tryz.func127, Tryz.ntmps127
 go_wp2
 go_loopg [3] (s.size + 1) (fun f s3 wr => ∃ k : Nat, k ≤ s.size ∧ s.size - k < f ∧ s3 = .int .i64 k ∧ Hid (ptFrom (s.data.toList.drop k) k = r) ∧ Hid (Below w.heap.size w wr))
 case atStart => exact ⟨0, by omega, by omega, rfl, HR, Below.refl _ _⟩
 case round =>
  obtain ⟨k, hk, hf, rfl, HA, HB⟩ := hrel
  by_cases hlt : k + 1 < s.size
  ·have hltz : (k : Int) + 1 < (s.size : Int) := by omega
   have hk2 : (k : Int) + 2 ≤ (s.size : Int) := by omega
   have HX := Lib.hid (ext_two s k hlt)
   have hd : s.data.toList.drop k = s[k] :: s[k + 1] :: s.data.toList.drop (k + 2) := by rw [drop_cons s k (by omega), drop_cons s (k + 1) hlt]
   have hA := HA.out
   rw [hd, ptFrom] at hA
   have he : ((s.extract k (k + 2)).toList == [46, 46]) = decide (s[k] = 46 ∧ s[k + 1] = 46) := by
    rw [HX.out, ByteArray.toList_eq, Bool.eq_iff_iff]
    simp
   clear hd HA
   by_cases h46 : s[k] = 46 ∧ s[k + 1] = 46
   ·rw [if_pos h46] at hA
    rw [decide_eq_true h46] at he
    have HN := Lib.hid hA
    clear h46 hA
    go_wp2_with fail
    go_ret
    exact ⟨by rw [← HN.out]; rfl, HB.out⟩
   ·rw [if_neg h46] at hA
    rw [decide_eq_false h46] at he
    have HN := Lib.hid (show ptFrom (s.data.toList.drop (k + 1)) (k + 1) = r by rw [drop_cons s (k + 1) hlt]; exact hA)
    clear h46 hA
    go_wp2_with fail
    go_roundg (s.size - k)
    case measure => omega
    case rel => exact ⟨k + 1, by omega, by omega, by go_num, HN, HB⟩
  ·have hltz : ¬ (k : Int) + 1 < (s.size : Int) := by omega
   have HN := Lib.hid (show -1 = r by
    rw [← HA.out]
    have h1 : (s.data.toList.drop k).length ≤ 1 := by simp; omega
    match hd : s.data.toList.drop k, h1 with
    | [], _ => rfl
    | [_], _ => rfl)
   clear HA
   go_wp2_with fail
   go_ret
   exact ⟨by rw [← HN.out]; rfl, HB.out⟩
end Go.Proofs.YtdpnahojhmkemaaGreatDoor
