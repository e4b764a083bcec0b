/-
  Package words: the contract of Join.
-/
import Derived.Test.YtlcimhchkbaieaaWordsF
namespace Go.Proofs.Ytlcimhchkbaieaa
open Go Go.RowKit
set_option linter.unusedVariables false

theorem joinBy_eq (sep : Str) (l : List Str) : Lib.join l sep = joinBy sep l := by
  induction l with
  | nil => rfl
  | cons a l ih =>
    cases l with
    | nil => simp [Lib.join, joinBy]
    | cons b r => simp only [joinBy, ← ih]; simp [Lib.join]

theorem joinBy_len (sep : Str) (m : Nat) : ∀ (l : List Str), (∀ x ∈ l, x.length ≤ m) → (joinBy sep l).length ≤ l.length * (m + sep.length)
  | [], _ => by simp [joinBy]
  | [a], h => by have := h a (by simp); simp [joinBy]; omega
  | a :: b :: r, h => by
    have h1 := h a (by simp)
    have ih := joinBy_len sep m (b :: r) (fun x hx => h x (by simp [hx]))
    simp only [joinBy, List.length_append]
    rw [List.length_cons, Nat.add_mul]
    omega

theorem wordS_len (x : Str) : (wordS x).length ≤ 4 * x.length + 2 := by
  unfold wordS quoteS
  split
  · omega
  · have := flatMap_len x; simp only [List.length_cons, List.length_append, List.length_nil]; omega

theorem contains0 (l : Str) : (0 ≤ Lib.indexByte l 0) = (l.contains 0 = true) := by
  induction l with
  | nil => simp [Lib.indexByte]
  | cons a l ih =>
    simp only [Lib.indexByte]
    by_cases h : a = 0
    · simp [h]
    · have hge := Lib.indexByte_ge l 0
      rw [List.contains_cons]
      have h2 : ((0 : UInt8) == a) = false := by simpa using (fun e : (0 : UInt8) = a => h e.symm)
      rw [h2, Bool.false_or, ← ih]
      have h3 : (a == 0) = false := by simpa using h
      rw [h3]
      by_cases h4 : Lib.indexByte l 0 = -1
      · simp [h4]
      · have : (Lib.indexByte l 0 == -1) = false := by simpa using h4
        rw [this]
        simp
        omega


theorem idx0_any (s : ByteArray) (w : World) (v : Int) (hv : Lib.indexByte s.data.toList 0 = v) :
    Calls Try.prog 20 #[.string s, .int .u8 0] w fun e w' => e = .returned (.int .i64 v) ∧ w = w' := by
  subst hv
  refine (Try.strings_IndexByte s 0 w).mono ?_
  rintro e w' ⟨rfl, rfl⟩
  exact ⟨rfl, rfl⟩

theorem infoString : (Try.prog.info? 9).map (fun i => (i.zero, i.size, i.bytes)) = some (some (.string ⟨#[]⟩), 1, 16) := by kernel_rfl

theorem take_map_snoc (l : List Str) (k : Nat) (h : k < l.length) : (l.map wordS).take (k + 1) = (l.map wordS).take k ++ [wordS l[k]] := by
  rw [List.take_succ_eq_append_getElem (by simpa using h)]; simp
theorem take_any_snoc (l : List Str) (k : Nat) (h : k < l.length) (h1 : (l.take k).any (fun x => x.contains 0) = false) (h2 : l[k].contains 0 = false) : (l.take (k + 1)).any (fun x => x.contains 0) = false := by
  rw [List.take_succ_eq_append_getElem h, List.any_append, h1]; simp only [List.any_cons, h2]; rfl

def OutJ (w : World) (l : List Str) (e : Ending) (w' : World) : Prop := e = .returned (.string ⟨(join l).toArray⟩) ∧ Below w.heap.size w w'

set_option maxHeartbeats 2000000 in
set_option maxRecDepth 100000 in
theorem join_any (oa : Option Addr) (cap : Nat) (l : List Str) (w : World) (h : StrRow w oa l) (hm : l.length ≤ maxLen) (hl : ∀ x ∈ l, x.length < 137438953472) :
    Calls Try.prog 12 #[.slice oa l.length cap] w fun e w' => OutJ w l e w' := by
  unfold maxLen at hm
  obtain ⟨i0, hi, hz0, hz1, hz2⟩ := info_parts infoString
  by_cases h32 : 32 < l.length
  · have HR := Lib.hid (show join l = [] by unfold join; rw [if_pos h32])
    go_enter Try.func12, Try.ntmps12
    go_wp2_with fail
    go_ret
    exact ⟨by rw [HR.out]; rfl, Below.refl _ _⟩
  · have Hl := Lib.hid hl; clear hl
    have Hr := Lib.hid h; clear h
    go_enter Try.func12, Try.ntmps12
    go_wp2_with fail
    go_loopg [3, 5, 11] (l.length + 1) (fun f v _ i wr => ∃ k : Nat, k ≤ l.length ∧ i = .int .i64 k ∧ l.length - k < f ∧ Hid (wr.ownsRow w.heap.size 9 1 v k (strVals ((l.map wordS).take k))) ∧ Hid ((l.take k).any (fun x => x.contains 0) = false) ∧ Hid (Below w.heap.size w wr))
    case atStart => exact ⟨0, by omega, rfl, by omega, World.ownsRow_nil _ _ _ _, rfl, Below.refl _ _⟩
    case round =>
      obtain ⟨k, hk, rfl, hfu, Hown, Hz, Hb⟩ := hrel
      obtain ⟨oa', cap', rfl⟩ := ownsRow_form Hown.out
      by_cases hlt : k < l.length
      · obtain ⟨b, o, rfl, hc⟩ := (Hr.out.below Hb.out) k hlt
        have hxl := Hl.out l[k] (List.getElem_mem _)
        cases hz : l[k].contains 0 with
        | true =>
          have h0 : 0 ≤ Lib.indexByte l[k] 0 := by rw [contains0]; exact hz
          obtain ⟨n, hn⟩ : ∃ n : Nat, Lib.indexByte l[k] 0 = n := ⟨_, (Int.toNat_of_nonneg h0).symm⟩
          have HN := Lib.hid hn
          have HR := Lib.hid (show join l = [] by
            unfold join; rw [if_neg h32, if_pos]
            rw [List.any_eq_true]; exact ⟨l[k], List.getElem_mem _, hz⟩)
          clear hn h0 hz
          go_wp2_with (go_at_call 20; refine (idx0_any _ _ n HN.out).mono ?_; rintro e w' ⟨rfl, rfl⟩)
          go_ret
          exact ⟨by rw [HR.out]; rfl, Hb.out⟩
        | false =>
          have h0 : Lib.indexByte l[k] 0 = -1 := by
            have h1 : ¬ 0 ≤ Lib.indexByte l[k] 0 := by rw [contains0, hz]; exact Bool.false_ne_true
            have := Lib.indexByte_ge l[k] 0
            omega
          have HN := Lib.hid h0
          have HZ := Lib.hid (take_any_snoc l k hlt Hz.out hz)
          have HS := Lib.hid (take_map_snoc l k hlt)
          clear h0 hz
          cases hp : plainB l[k] with
          | true =>
            have HW := Lib.hid (show wordS l[k] = l[k] by unfold wordS; rw [if_pos hp])
            have HP := Lib.hid hp
            have HO := Lib.hid (Hown.out.alloc (.cells #[.string ⟨l[k].toArray⟩] 9))
            clear hp
            go_wp2_with (first
              | (go_at_call 20; refine (idx0_any _ _ (-1) HN.out).mono ?_; rintro e w' ⟨rfl, rfl⟩)
              | (go_at_call 21; refine (plain_any _ _ (by show l[k].length ≤ _; omega)).mono ?_; rintro e w' ⟨rfl, rfl⟩; rw [HP.out])
              | (at_builtin; refine wpList_append_own _ rfl _ _ 22 rfl w.heap.size 9 i0 (.string ⟨#[]⟩) 1 16 Try.underlying22 hi hz0 hz1 hz2 rfl (by decide) _ _ _ rfl HO.out ⟨wr.heap.size, 0, none⟩ 1 1 [.string ⟨l[k].toArray⟩] rfl rfl ?c1 ?c2 ?c3 ?c4 ?c5 ?_))
            case c1 => exact cell_one_new _ _ _
            case c2 => simp [Value.oneCell']
            case c3 => unfold maxLen; omega
            case c4 => omega
            case c5 => have := Hb.out.size; simp; omega
            intro v' w4 hown' hgrow hnil
            have HB4 := Lib.hid (((Hb.out.alloc Hb.out.size _).grown hgrow (by have := Hb.out.size; simp; omega) (fun g hg => (Hown.out.lt g hg).1)))
            have HO4 := Lib.hid (show w4.ownsRow w.heap.size 9 1 v' (k + 1) (strVals ((l.map wordS).take (k + 1))) by rw [HS.out, strVals_snoc, HW.out]; exact hown')
            clear hgrow hnil hown'
            obtain ⟨ao, cap2, rfl⟩ := ownsRow_form HO4.out
            go_wp2_with fail
            go_roundg (l.length - k)
            case measure => omega
            case rel => exact ⟨k + 1, by omega, by go_num, by omega, HO4, HZ, HB4⟩
          | false =>
            have HW := Lib.hid (show wordS l[k] = quoteS l[k] by unfold wordS; rw [if_neg (by simp [hp])])
            have HP := Lib.hid hp
            clear hp
            go_wp2_with (first
              | (go_at_call 20; refine (idx0_any _ _ (-1) HN.out).mono ?_; rintro e w' ⟨rfl, rfl⟩)
              | (go_at_call 21; refine (plain_any _ _ (by show l[k].length ≤ _; omega)).mono ?_; rintro e w' ⟨rfl, rfl⟩; rw [HP.out]))
            refine (quote_any _ wr (by show l[k].length < _; omega)).mono ?_
            rintro e w3 ⟨rfl, hb3⟩
            have HO := Lib.hid ((ownsRow_fr Hown.out (Fr.of_below hb3 (fun _ => False)) (fun _ _ _ e => e)).alloc (.cells #[.string ⟨(quoteS l[k]).toArray⟩] 9))
            have HB3 := Lib.hid (Hb.out.trans (hb3.mono Hb.out.size))
            have hsz := HB3.out.size
            have hsz2 := Hb.out.size
            clear hb3
            go_wp2_with ((at_builtin; refine wpList_append_own _ rfl _ _ 22 rfl w.heap.size 9 i0 (.string ⟨#[]⟩) 1 16 Try.underlying22 hi hz0 hz1 hz2 rfl (by decide) _ _ _ rfl HO.out ⟨w3.heap.size, 0, none⟩ 1 1 [.string ⟨(quoteS l[k]).toArray⟩] rfl rfl ?c1 ?c2 ?c3 ?c4 ?c5 ?_))
            case c1 => exact cell_one_new _ _ _
            case c2 => simp [Value.oneCell']
            case c3 => unfold maxLen; omega
            case c4 => omega
            case c5 => simp; omega
            intro v' w4 hown' hgrow hnil
            have HB4 := Lib.hid (((HB3.out.alloc hsz _).grown hgrow (by simp; omega) (fun g hg => (Hown.out.lt g hg).1)))
            have HO4 := Lib.hid (show w4.ownsRow w.heap.size 9 1 v' (k + 1) (strVals ((l.map wordS).take (k + 1))) by rw [HS.out, strVals_snoc, HW.out]; exact hown')
            clear hgrow hnil hown'
            obtain ⟨ao, cap2, rfl⟩ := ownsRow_form HO4.out
            go_wp2_with fail
            go_roundg (l.length - k)
            case measure => omega
            case rel => exact ⟨k + 1, by omega, by go_num, by omega, HO4, HZ, HB4⟩
      · have : k = l.length := by omega
        subst this
        have hz := Hz.out
        rw [List.take_length] at hz
        have HR := Lib.hid (show join l = Lib.join (l.map wordS) [32] by unfold join; rw [if_neg h32, hz, joinBy_eq]; rfl)
        by_cases h0 : l.length = 0
        · have hl0 : l = [] := List.eq_nil_of_length_eq_zero h0
          subst hl0
          go_wp2_with (go_at_call 23; refine (Try.strings_Join_none _ _ _ _).mono ?_; rintro e w' ⟨rfl, rfl⟩)
          go_ret
          exact ⟨by rw [HR.out]; rfl, Hb.out⟩
        · have hrow := StrRow.of_own Hown.out
          rw [List.take_of_length_le (by simp)] at hrow
          obtain ⟨b, o, rfl, -⟩ := hrow 0 (by simp; omega)
          have hcells : ∀ (j : Nat) (x : ByteArray), ((l.map wordS).map fun y => (⟨y.toArray⟩ : ByteArray))[j]? = some x → wr.cell? ⟨b, o + j, none⟩ = some (.string x) := by
            intro j x hx
            simp at hx
            obtain ⟨y, hy, rfl⟩ := hx
            obtain ⟨hj, rfl⟩ := List.getElem?_eq_some_iff.1 hy
            obtain ⟨b', o', e, hc⟩ := hrow j (by simpa using hj)
            injection e with e; injection e with e1 e2; subst e1; subst e2
            simpa using hc
          have hblt : b < wr.heap.size := by
            obtain ⟨b', o', e, hc⟩ := hrow 0 (by simp; omega)
            injection e with e; injection e with e1 e2; subst e1
            exact World.block_lt_of_cell? wr _ hc
          have hmm : (((l.map wordS).map fun y => (⟨y.toArray⟩ : ByteArray)).map (·.data.toList)) = l.map wordS := by simp [Function.comp_def]
          have hjl : (Lib.join (((l.map wordS).map fun y => (⟨y.toArray⟩ : ByteArray)).map (·.data.toList)) [32]).length ≤ 140737488355328 := by
            rw [hmm, joinBy_eq]
            have := joinBy_len [32] (4 * 137438953472 + 2) (l.map wordS) (by
              intro x hx
              obtain ⟨y, hy, rfl⟩ := List.mem_map.1 hx
              have h1 := wordS_len y
              have h2 := Hl.out y hy
              omega)
            rw [List.length_map] at this
            simp only [List.length_cons, List.length_nil] at this
            have h3 : l.length * (4 * 137438953472 + 2 + 1) ≤ 32 * (4 * 137438953472 + 2 + 1) := Nat.mul_le_mul_right _ (by omega)
            omega
          have hcap : l.length ≤ cap' := by
            rcases Hown.out.2 with ⟨h, _⟩ | ⟨g, cap2, cur, h, _, _, h2, _⟩
            · cases h
            · injection h with _ _ h; subst h; exact h2
          have HJ := Lib.hid (Try.strings_Join b o cap' ((l.map wordS).map fun y => (⟨y.toArray⟩ : ByteArray)) ⟨#[32]⟩ wr hcells hblt (by simp; omega) (by simpa using hcap) hjl)
          have hlen : ((l.map wordS).map fun y => (⟨y.toArray⟩ : ByteArray)).length = l.length := by simp
          have HLen := Lib.hid hlen
          clear hrow hcells hmm hjl hlen hz
          go_wp2_with fail
          have H := HJ.out
          rw [HLen.out] at H
          refine H.mono ?_
          rintro e w3 ⟨rfl, hb3⟩
          go_wp2_with fail
          go_ret
          refine ⟨?_, Hb.out.trans (hb3.mono Hb.out.size)⟩
          rw [HR.out]
          simp [Function.comp_def]

theorem join_len {l : List Str} {m : Nat} (hl : ∀ x ∈ l, x.length ≤ m) : (join l).length ≤ 32 * (4 * m + 3) := by
  unfold join
  split
  · simp
  · split
    · simp
    · have := joinBy_len [32] (4 * m + 2) (l.map wordS) (by
        intro x hx
        obtain ⟨y, hy, rfl⟩ := List.mem_map.1 hx
        have h1 := wordS_len y
        have h2 := hl y hy
        omega)
      rw [List.length_map] at this
      simp only [List.length_cons, List.length_nil] at this
      have h3 : l.length * (4 * m + 2 + (0 + 1)) ≤ 32 * (4 * m + 2 + (0 + 1)) := Nat.mul_le_mul_right _ (by omega)
      omega
end Go.Proofs.Ytlcimhchkbaieaa
