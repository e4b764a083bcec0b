/-
  The reference's Join.
-/
import Derived.Test.YtlcimhchkbaieaaRef5D
namespace Go.Proofs.Ytlcimhchkbaieaa
open Go Go.RowKit
set_option linter.unusedVariables false

theorem joinBy_snoc (sep a : Str) : ∀ (l : List Str), l ≠ [] → joinBy sep (l ++ [a]) = joinBy sep l ++ sep ++ a
  | [], h => absurd rfl h
  | [b], _ => rfl
  | b :: c :: r, _ => by
    have ih := joinBy_snoc sep a (c :: r) (by simp)
    show b ++ sep ++ joinBy sep ((c :: r) ++ [a]) = _
    rw [ih]
    simp [joinBy]

def JAt (l : List Str) (k : Nat) (x : ByteArray) : Prop := x.data.toList = joinBy [32] ((l.map wordS).take k)
theorem JAt.first {l : List Str} {k : Nat} {x : ByteArray} (h : JAt l k x) (hk : k < l.length) (h0 : ¬ (0 : Int) < (k : Int)) (y : ByteArray) (hy : y.data.toList = wordS l[k]) : JAt l (k + 1) (x ++ y) := by
  have : k = 0 := by omega
  subst this
  unfold JAt at *
  rw [Joins.data_append, h, hy, take_map_snoc l 0 hk]
  simp [joinBy]
theorem JAt.more {l : List Str} {k : Nat} {x : ByteArray} (h : JAt l k x) (hk : k < l.length) (h0 : (0 : Int) < (k : Int)) (y : ByteArray) (hy : y.data.toList = wordS l[k]) : JAt l (k + 1) ((x ++ ⟨#[32]⟩) ++ y) := by
  unfold JAt at *
  rw [Joins.data_append, Joins.data_append, h, hy, take_map_snoc l k hk, joinBy_snoc]
  intro e
  rw [List.take_eq_nil_iff] at e
  rcases e with e | e
  · omega
  · rw [List.map_eq_nil_iff] at e; subst e; simp at hk
theorem JAt.size {l : List Str} {k : Nat} {x : ByteArray} (h : JAt l k x) (hl : ∀ x ∈ l, x.length < 137438953472) (h32 : l.length ≤ 32) : x.size ≤ 17592190000000 := by
  have h3 : x.size = x.data.toList.length := rfl
  have h4 := joinBy_len [32] (4 * 137438953472 + 2) ((l.map wordS).take k) (by
    intro x hx
    obtain ⟨y, hy, rfl⟩ := List.mem_map.1 (List.mem_of_mem_take hx)
    have h1 := wordS_len y
    have h2 := hl y hy
    omega)
  rw [h3, h]
  have h5 : ((l.map wordS).take k).length ≤ 32 := by simp; omega
  have h6 := Nat.mul_le_mul_right (4 * 137438953472 + 2 + ([32] : Str).length) h5
  simp only [List.length_cons, List.length_nil] at h4 h6
  omega

def zfree (x : Str) (j : Nat) : Bool := (x.take j).contains 0
theorem zfree_snoc (x : Str) (j : Nat) (h : j < x.length) : zfree x (j + 1) = (zfree x j || (x[j] == 0)) := by
  unfold zfree
  rw [List.take_succ_eq_append_getElem h]
  simp only [List.contains_append]
  congr 1
  rw [Bool.eq_iff_iff]
  simp
  exact eq_comm

set_option maxHeartbeats 4000000 in
set_option maxRecDepth 100000 in
theorem refJoin_any (oa : Option Addr) (cap : Nat) (l : List Str) (w : World) (h : StrRow w oa l) (hm : l.length ≤ maxLen) (hl : ∀ x ∈ l, x.length < 137438953472) :
    Calls Try.prog 13 #[.slice oa l.length cap] w fun e w' => e = .returned (.string ⟨(join l).toArray⟩) ∧ ∃ n, w' = w.drewN n := by
  unfold maxLen at hm
  by_cases h32 : 32 < l.length
  · have HR := Lib.hid (show join l = [] by unfold join; rw [if_pos h32])
    go_enter Try.func13, Try.ntmps13
    go_wp2_with fail
    go_ret
    exact ⟨by rw [HR.out]; rfl, 0, rfl⟩
  · have Hl := Lib.hid hl; clear hl
    have Hr := Lib.hid h; clear h
    go_enter Try.func13, Try.ntmps13
    go_wp2_with fail
    go_loopg [3, 6, 12] (l.length + 1) (fun f v _ i wr => ∃ (k : Nat) (x : ByteArray) (m : Nat), k ≤ l.length ∧ i = .int .i64 k ∧ l.length - k < f ∧ v = .string x ∧ Hid (JAt l k x) ∧ Hid ((l.take k).any (fun x => x.contains 0) = false) ∧ wr = w.drewN m)
    case atStart => exact ⟨0, ⟨#[]⟩, 0, by omega, rfl, by omega, rfl, Lib.hid rfl, Lib.hid rfl, rfl⟩
    case round =>
      obtain ⟨k, x, m, hk, rfl, hfu, rfl, HX, HZ, rfl⟩ := hrel
      have hx := HX.out.size Hl.out (by omega)
      by_cases hlt : k < l.length
      · obtain ⟨b, o, rfl, hc⟩ := Hr.out k hlt
        have hxl := Hl.out l[k] (List.getElem_mem _)
        have hsz : (⟨l[k].toArray⟩ : ByteArray).size = l[k].length := by simp [ByteArray.size]
        go_wp2_with fail
        go_loopg [6] (l[k].length + 1) (fun f i wr2 => ∃ (j m2 : Nat), j ≤ l[k].length ∧ i = .int .i64 j ∧ l[k].length - j < f ∧ Hid (zfree l[k] j = false) ∧ wr2 = w.drewN m2)
        case atStart => exact ⟨0, m, by omega, rfl, by omega, Lib.hid rfl, rfl⟩
        case round =>
          obtain ⟨j, m2, hj, rfl, hfj, HF, rfl⟩ := hrel
          by_cases hjl : j < l[k].length
          · have HS := Lib.hid (zfree_snoc l[k] j hjl)
            cases hz : (((l[k][j]).toNat : Int) == 0) with
            | true =>
              have HR := Lib.hid (show join l = [] by
                unfold join; rw [if_neg h32, if_pos]
                rw [List.any_eq_true]
                refine ⟨l[k], List.getElem_mem _, ?_⟩
                rw [List.contains_iff_mem]
                have e : l[k][j] = 0 := by
                  apply UInt8.toNat_inj.1
                  have := eq_of_beq hz
                  simpa using this
                rw [← e]
                exact List.getElem_mem _)
              have hz2 : ((((⟨l[k].toArray⟩ : ByteArray)[j]'(by rw [hsz]; exact hjl)).toNat : Int) == 0) = true := hz
              clear hz
              go_wp2_with fail
              go_ret
              exact ⟨by rw [HR.out]; rfl, _, rfl⟩
            | false =>
              have HF' := Lib.hid (show zfree l[k] (j + 1) = false by rw [HS.out, HF.out, beq_u8]; exact hz)
              have hz2 : ((((⟨l[k].toArray⟩ : ByteArray)[j]'(by rw [hsz]; exact hjl)).toNat : Int) == 0) = false := hz
              clear hz
              go_wp2_with fail
              go_roundg (l[k].length - j)
              case measure => omega
              case rel => exact ⟨j + 1, _, by omega, by go_num, by omega, HF', rfl⟩
          · have : j = l[k].length := by omega
            subst this
            have HZ' := Lib.hid (take_any_snoc l k hlt HZ.out (by have := HF.out; unfold zfree at this; rwa [List.take_length] at this))
            have HP := fun w => refSafe_any ⟨l[k].toArray⟩ w (by rw [hsz]; omega)
            have HQ := fun w => refQuoted_any ⟨l[k].toArray⟩ w (by rw [hsz]; omega)
            have HP : ∀ w, Calls Try.prog 24 #[.string ⟨l[k].toArray⟩] w fun e w' => e = .returned (.bool (plainB l[k])) ∧ w = w' := HP
            have HQ : ∀ w, Calls Try.prog 25 #[.string ⟨l[k].toArray⟩] w fun e w' => e = .returned (.string ⟨(quoteS l[k]).toArray⟩) ∧ ∃ n, w' = w.drewN n := HQ
            have hwl := wordS_len l[k]
            clear HF
            by_cases hk0 : (0 : Int) < (k : Int)
            · have J := fun y hy => HX.out.more hlt hk0 y hy
              cases hp : plainB l[k] with
              | true =>
                have HJ := Lib.hid (J ⟨l[k].toArray⟩ (by unfold wordS; rw [if_pos hp]))
                have HP := fun w => (HP w)
                rw [hp] at HP
                clear J hp HQ hwl
                go_wp2_with (go_at_call 24; refine (HP _).mono ?_; rintro e w' ⟨rfl, rfl⟩)
                go_roundg (l.length - k)
                case measure => omega
                case rel => exact ⟨k + 1, _, _, by omega, by go_num, by omega, rfl, HJ, HZ', rfl⟩
              | false =>
                have hW : wordS l[k] = quoteS l[k] := by unfold wordS; rw [if_neg (by simp [hp])]
                rw [hW] at hwl
                have HJ := Lib.hid (J ⟨(quoteS l[k]).toArray⟩ (by rw [hW]))
                rw [hp] at HP
                clear J hp hW
                generalize quoteS l[k] = qw at HJ HQ hwl
                have hqs : (⟨qw.toArray⟩ : ByteArray).size = qw.length := by simp [ByteArray.size]
                go_wp2_with (first
                  | (go_at_call 24; refine (HP _).mono ?_; rintro e w' ⟨rfl, rfl⟩)
                  | (go_at_call 25; refine (HQ _).mono ?_; rintro e w' ⟨rfl, q, rfl⟩))
                go_roundg (l.length - k)
                case measure => omega
                case rel => exact ⟨k + 1, _, _, by omega, by go_num, by omega, rfl, HJ, HZ', by first | rfl | exact dn2 _ _ _⟩
            · have J := fun y hy => HX.out.first hlt hk0 y hy
              cases hp : plainB l[k] with
              | true =>
                have HJ := Lib.hid (J ⟨l[k].toArray⟩ (by unfold wordS; rw [if_pos hp]))
                have HP := fun w => (HP w)
                rw [hp] at HP
                clear J hp HQ hwl
                go_wp2_with (go_at_call 24; refine (HP _).mono ?_; rintro e w' ⟨rfl, rfl⟩)
                go_roundg (l.length - k)
                case measure => omega
                case rel => exact ⟨k + 1, _, _, by omega, by go_num, by omega, rfl, HJ, HZ', rfl⟩
              | false =>
                have hW : wordS l[k] = quoteS l[k] := by unfold wordS; rw [if_neg (by simp [hp])]
                rw [hW] at hwl
                have HJ := Lib.hid (J ⟨(quoteS l[k]).toArray⟩ (by rw [hW]))
                rw [hp] at HP
                clear J hp hW
                generalize quoteS l[k] = qw at HJ HQ hwl
                have hqs : (⟨qw.toArray⟩ : ByteArray).size = qw.length := by simp [ByteArray.size]
                go_wp2_with (first
                  | (go_at_call 24; refine (HP _).mono ?_; rintro e w' ⟨rfl, rfl⟩)
                  | (go_at_call 25; refine (HQ _).mono ?_; rintro e w' ⟨rfl, q, rfl⟩))
                go_roundg (l.length - k)
                case measure => omega
                case rel => exact ⟨k + 1, _, _, by omega, by go_num, by omega, rfl, HJ, HZ', by first | rfl | exact dn2 _ _ _⟩
      · have : k = l.length := by omega
        subst this
        have HR := Lib.hid (show x = ⟨(join l).toArray⟩ by
          apply bytes_ext
          have h1 := HX.out
          have h2 := HZ.out
          unfold JAt at h1
          rw [List.take_of_length_le (by simp)] at h1
          rw [List.take_length] at h2
          rw [h1]
          unfold join
          rw [if_neg h32, if_neg (by rw [h2]; exact Bool.false_ne_true)])
        go_wp2_with fail
        go_ret
        exact ⟨by rw [← HR.out]; rfl, _, rfl⟩

end Go.Proofs.Ytlcimhchkbaieaa
