/-
  Package lines: line, whatever it says; the library's Split at a byte 10.
-/
import Derived.Test.YtbgjpglnikbflaaDoorLines7
import Derived.Test.YtbgjpglnikbflaaDoorLinesN
import Derived.Lib.SplitLaws
namespace Go.Proofs.YtbgjpglnikbflaaDoor
open Go Go.RowKit
set_option linter.unusedVariables false
set_option maxRecDepth 100000

theorem line_any (R : Nat) (rows : List Str) (n : Nat) (sec : Str) (ov : Value) (out : List Ln) (at_ : Nat) (s : Str) (w : World) (hL : LRd R rows n sec ov w) (hS : Said R out ov w) (hm : MaxAt w) (hs : s.length ≤ 1000000) (hout : out.length ≤ 1000000) (hat : at_ ≤ 1000000)
    (says : Says) (hsays : saysS sec s = says) :
    Calls Tryd.prog 24 #[.pointer (some ⟨R, 0, none⟩), .string ⟨s.toArray⟩, .int .i64 at_] w fun e w' => OutLn R rows n sec ov out at_ says w e w' := by
  have hsz : (⟨s.toArray⟩ : ByteArray).size = s.length := rfl
  cases hg : goodS s with
  | false =>
    have : says = .err 1 := by rw [← hsays]; unfold saysS; rw [hg]; rfl
    subst this
    exact line_bad R at_ ⟨s.toArray⟩ w hs hg
  | true =>
    by_cases hl : s.length ≤ 400
    · have e0 : saysS sec s = match trimS s with
          | [] => .nothing
          | c :: t =>
            if c == 91 then (if t.getLast? == some 93 && sectB t.dropLast then .sect t.dropLast else .err 10)
            else match cutEq (c :: t) with
              | none => .err 9
              | some (k, v) => if keyB (trimS k) then (if sec.isEmpty then .err 10 else .pair (trimS k) (trimS v)) else .err 9 := by
        unfold saysS; rw [if_pos hg, if_pos hl]; rfl
      rw [e0] at hsays
      cases ht : trimS s with
      | nil =>
        rw [ht] at hsays
        subst hsays
        exact line_void R at_ ⟨s.toArray⟩ w hg hl ht
      | cons c t =>
        rw [ht] at hsays
        simp only at hsays
        cases h91 : (c == 91) with
        | true =>
          rw [h91] at hsays
          have := eq_of_beq h91
          subst this
          cases he : (t.getLast? == some 93) with
          | false =>
            rw [he] at hsays
            simp only [Bool.false_and, if_true] at hsays
            subst hsays
            exact line_open_no R at_ ⟨s.toArray⟩ w hg hl t ht he
          | true =>
            rw [he] at hsays
            cases hb : sectB t.dropLast with
            | false =>
              rw [hb] at hsays
              simp only [Bool.and_false, if_true] at hsays
              subst hsays
              exact line_open_bad R at_ ⟨s.toArray⟩ w hg hl t ht he hb
            | true =>
              rw [hb] at hsays
              simp only [Bool.and_self, if_true] at hsays
              subst hsays
              refine (line_open_yes R rows n sec ov at_ ⟨s.toArray⟩ w hL hg hl t ht he hb).mono ?_
              rintro e w' ⟨h1, h2, h3⟩
              exact ⟨h1, h2, hS.fr h3 (fun k hk => by omega), h3⟩
        | false =>
          rw [h91] at hsays
          cases hq : cutEq (c :: t) with
          | none =>
            rw [hq] at hsays
            simp only at hsays
            subst hsays
            exact line_noeq R at_ ⟨s.toArray⟩ w hm hg hl c t ht h91 hq
          | some kv =>
            obtain ⟨k, v⟩ := kv
            rw [hq] at hsays
            simp only at hsays
            cases hk : keyB (trimS k) with
            | false =>
              rw [hk] at hsays
              subst hsays
              exact line_nokey R at_ ⟨s.toArray⟩ w hm hg hl c t ht h91 k v hq hk
            | true =>
              rw [hk] at hsays
              by_cases hsec : sec = []
              · subst hsec
                subst hsays
                exact line_nosec R rows n [] ov at_ ⟨s.toArray⟩ w hL rfl hm hg hl c t ht h91 k v hq hk
              · have hse : sec.isEmpty = false := by simpa using hsec
                rw [hse] at hsays
                subst hsays
                exact line_pair R rows n sec ov at_ ⟨s.toArray⟩ w out hL hS hout hat hsec hm hg hl c t ht h91 k v hq hk
    · have : says = .err 2 := by rw [← hsays]; unfold saysS; rw [if_pos hg, if_neg hl]
      subst this
      exact line_long R at_ ⟨s.toArray⟩ w hs hg (by show 400 < s.length; omega)

theorem index_nl : ∀ (s : Str), (Lib.index s [10] = -1 ∧ s.contains 10 = false) ∨ ∃ a b, s = a ++ 10 :: b ∧ a.contains 10 = false ∧ Lib.index s [10] = a.length
  | [] => .inl ⟨rfl, rfl⟩
  | c :: r => by
    cases hc : (c == 10) with
    | true =>
      have := eq_of_beq hc
      subst this
      exact .inr ⟨[], r, rfl, rfl, by unfold Lib.index; rw [show List.isPrefixOf [10] (10 :: r) = true by simp [List.isPrefixOf]]; rfl⟩
    | false =>
      have hp : List.isPrefixOf [10] (c :: r) = false := by
        simp only [List.isPrefixOf, Bool.and_true]
        rw [beq_eq_false_iff_ne] at hc ⊢
        exact fun e => hc e.symm
      have hc' : ((10 : UInt8) == c) = false := by
        rw [beq_eq_false_iff_ne] at hc ⊢
        exact fun e => hc e.symm
      rcases index_nl r with ⟨h1, h2⟩ | ⟨a, b, h1, h2, h3⟩
      · exact .inl ⟨by unfold Lib.index; rw [hp, h1]; rfl, by rw [List.contains_cons, hc', h2]; rfl⟩
      · refine .inr ⟨c :: a, b, by rw [h1]; rfl, by rw [List.contains_cons, hc', h2]; rfl, ?_⟩
        unfold Lib.index
        rw [hp, h3]
        have : ((a.length : Int) == -1) = false := by rw [beq_eq_false_iff_ne]; omega
        simp [this]
theorem rowsS_one {s : Str} (h : s.contains 10 = false) : rowsS s = [s] := by
  induction s with
  | nil => rfl
  | cons c r ih =>
    rw [List.contains_cons, Bool.or_eq_false_iff] at h
    have hc : (c == 10) = false := by
      rw [beq_eq_false_iff_ne]; intro e; subst e; simp at h
    conv => lhs; unfold rowsS
    rw [hc, ih h.2]
    rfl
theorem nls_zero {s : Str} (h : s.contains 10 = false) : nls s = 0 := by
  unfold nls
  rw [List.count_eq_zero]
  intro hm
  rw [← List.contains_iff_mem] at hm
  rw [hm] at h; cases h
theorem nls_app {a b : Str} (h : a.contains 10 = false) : nls (a ++ 10 :: b) = 1 + nls b := by
  have := nls_zero h
  unfold nls at *
  rw [List.count_append, this, List.count_cons]
  simp; omega
theorem count_nl : ∀ (f : Nat) (s : Str), s.length < f → Lib.countFrom [10] f s = nls s
  | 0, _, h => absurd h (by omega)
  | f + 1, s, h => by
    unfold Lib.countFrom
    rcases index_nl s with ⟨h1, h2⟩ | ⟨a, b, h1, h2, h3⟩
    · rw [h1, nls_zero h2]; rfl
    · have hne : (Lib.index s [10] == -1) = false := by rw [h3, beq_eq_false_iff_ne]; omega
      rw [if_neg (by rw [hne]; exact Bool.false_ne_true), h3]
      subst h1
      rw [nls_app h2]
      have : List.drop ((a.length : Int).toNat + ([10] : List UInt8).length) (a ++ 10 :: b) = b := by simp
      rw [this, count_nl f b (by simp at h; omega)]
theorem split_nl : ∀ (n : Nat) (s : Str), s.length ≤ n → Lib.splitK [10] 0 (nls s) s = rowsS s
  | n, s, h => by
    rcases index_nl s with ⟨h1, h2⟩ | ⟨a, b, h1, h2, h3⟩
    · rw [nls_zero h2, rowsS_one h2]; rfl
    · have hne : (Lib.index s [10] == -1) = false := by rw [h3, beq_eq_false_iff_ne]; omega
      cases n with
      | zero => subst h1; simp at h
      | succ n =>
        have hk : nls s = nls b + 1 := by rw [h1, nls_app h2]; omega
        rw [hk]
        unfold Lib.splitK
        rw [if_neg (by rw [hne]; exact Bool.false_ne_true), h3]
        subst h1
        rw [rowsS_app h2]
        have e1 : List.drop ((a.length : Int).toNat + ([10] : List UInt8).length) (a ++ 10 :: b) = b := by simp
        have e2 : List.take ((a.length : Int).toNat + 0) (a ++ 10 :: b) = a := by simp
        rw [e1, e2, split_nl n b (by simp at h; omega)]
theorem countB_nl (s : ByteArray) : Lib.countB s ⟨#[10]⟩ = nls s.data.toList := count_nl _ _ (Nat.lt_succ_self _)
theorem rows_count : ∀ (t : Str), nls t + 1 = (rowsS t).length := by
  intro t
  have h1 := split_nl t.length t (Nat.le_refl _)
  rcases index_nl t with ⟨_, h2⟩ | ⟨a, b, h, h2, h3⟩
  · rw [nls_zero h2, rowsS_one h2]; rfl
  · induction hn : t.length using Nat.strongRecOn generalizing t a b with
    | ind n ih =>
      subst h
      rw [nls_app h2, rowsS_app h2]
      rcases index_nl b with ⟨_, h5⟩ | ⟨a', b', h4, h5, h6⟩
      · rw [nls_zero h5, rowsS_one h5]; rfl
      · have := ih b.length (by simp at hn; omega) b (split_nl b.length b (Nat.le_refl _)) a' b' h4 h5 h6 rfl
        simp; omega
theorem splitB_rows (s : ByteArray) : ((Lib.splitB ⟨#[10]⟩ 0 (Lib.countB s ⟨#[10]⟩) s).map Value.string) = strVals (rowsS s.data.toList) := by
  have h := Lib.splitB_data ⟨#[10]⟩ 0 (Lib.countB s ⟨#[10]⟩) s
  rw [countB_nl] at h ⊢
  have h2 := split_nl _ s.data.toList (Nat.le_refl _)
  have h3 : Lib.splitK (⟨#[10]⟩ : ByteArray).data.toList 0 (nls s.data.toList) s.data.toList = rowsS s.data.toList := h2
  rw [h3] at h
  rw [← h]
  unfold strVals
  rw [List.map_map]
  apply List.map_congr_left
  intro x _
  rfl
end Go.Proofs.YtbgjpglnikbflaaDoor
