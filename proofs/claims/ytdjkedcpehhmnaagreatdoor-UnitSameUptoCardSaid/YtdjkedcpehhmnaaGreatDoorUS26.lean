import Derived.Test.YtdjkedcpehhmnaaGreatDoorUS9
import Derived.Test.YtdjkedcpehhmnaaGreatDoorUS24
namespace Go.Proofs.YtdjkedcpehhmnaaGreatDoor
open Go Go.RowKit
set_option linter.unusedVariables false
set_option linter.unusedSimpArgs false
set_option maxRecDepth 100000
def takeS (p : Str → Bool) : List Str → Str × List Str × Bool
 | [] => ([], [], false)
 | x :: t => if p x = true then (x, t, true) else ([], x :: t, false)
def TakeOut (w : World) (oa0 : Option Addr) (p : Str → Bool) (l : List Str) (e : Ending) (w' : World) : Prop :=
 ∃ oa, e = .returned (.tuple #[.string ⟨(takeS p l).1.toArray⟩, .slice oa (takeS p l).2.1.length (takeS p l).2.1.length, .bool (takeS p l).2.2]) ∧ StrRow w oa (takeS p l).2.1 ∧ (∀ b o, oa = some ⟨b, o, none⟩ → ∃ o2, oa0 = some ⟨b, o2, none⟩) ∧ ∃ n, w' = w.drewN n
set_option maxHeartbeats 2000000 in
theorem take_any (g : FuncId) (eg : ∀ args w, (callFunc g args).run Tryz.prog w = .ok (.enter g args) w) (p : Str → Bool) (oa : Option Addr) (l : List Str) (w : World) (hr : StrRow w oa l) (hl : l.length ≤ 1000000000)
  (hp : ∀ x ∈ l, Calls Tryz.prog g #[.string ⟨x.toArray⟩] w fun e w' => e = .returned (.bool (p x)) ∧ w' = w) :
  Calls Tryz.prog 197 #[.slice oa l.length l.length, .func (.func g) #[] #[]] w fun e w' => TakeOut w oa p l e w' := by
 unfold TakeOut
 cases l with
 | nil =>
  go_enter Tryz.func197, Tryz.ntmps197
  go_wp2_with fail
  refine bodyPost_ret (v := .tuple #[.string ⟨([] : Str).toArray⟩, .slice oa 0 0, .bool false]) ?_ rfl ⟨oa, rfl, StrRow.nil _ _, fun b o h => ⟨o, h⟩, 0, rfl⟩
  simp [results, Tryz.results197, go_sem]
 | cons x t =>
  obtain ⟨b, o, rfl, d0⟩ := hr 0 (by simp)
  simp only [List.getElem_cons_zero, Nat.add_zero] at d0
  have HT := h_ (show StrRow w (some ⟨b, o + 1, none⟩) t from by have := hr.drop 1; simpa using this)
  have HR := h_ hr
  have HP := h_ (hp x (by simp))
  have hln : (x :: t).length = t.length + 1 := by simp
  have hz0 : ¬ (((t.length + 1 : Nat) : Int) = 0) := by omega
  have hz1 : (((t.length + 1 : Nat) : Int) == 0) = false := by rw [beq_eq_false_iff_ne]; exact hz0
  have hz2 : (0 : Int) < ((t.length + 1 : Nat) : Int) := by omega
  have hz3 : 0 < t.length + 1 := by omega
  cases hpx : p x with
  | false =>
   have hts : takeS p (x :: t) = ([], x :: t, false) := by rw [takeS, if_neg (by simp [hpx])]
   rw [hts]
   rw [hpx] at HP
   simp only
   rw [hln] at *
   clear hpx hr hp hts
   go_enter Tryz.func197, Tryz.ntmps197
   go_wp2_with (go_at_fn g; refine HP.out.mono ?_; rintro e w' ⟨rfl, rfl⟩)
   refine bodyPost_ret (v := .tuple #[.string ⟨([] : Str).toArray⟩, .slice (some ⟨b, o, none⟩) (t.length + 1) (t.length + 1), .bool false]) ?_ rfl ⟨_, rfl, HR.out, fun b o h => ⟨o, h⟩, 0, rfl⟩
   simp [results, Tryz.results197, go_sem]
  | true =>
   have hts : takeS p (x :: t) = (x, t, true) := by rw [takeS, if_pos hpx]
   rw [hts]
   rw [hpx] at HP
   simp only
   have hz4 : (1 : Int) ≤ ((t.length + 1 : Nat) : Int) := by omega
   rw [hln] at *
   clear hpx hr hp hts
   go_enter Tryz.func197, Tryz.ntmps197
   go_wp2_with (go_at_fn g; refine HP.out.mono ?_; rintro e w' ⟨rfl, rfl⟩)
   by_cases ht0 : t.length = 0
   ·have HT0 := h_ (List.eq_nil_of_length_eq_zero ht0)
    rw [ht0] at *
    go_quiet (fail)
    go_wp2
    obtain rfl := HT0.out
    refine bodyPost_ret (v := .tuple #[.string ⟨x.toArray⟩, .slice (some ⟨b, o, none⟩) 0 0, .bool true]) ?_ rfl ⟨_, rfl, StrRow.nil _ _, (by first | exact fun b o h => ⟨o, h⟩ | (intros; simp_all; done) | (simp; done)), _, rfl⟩
    simp [results, Tryz.results197, go_sem]
   ·have ht1 : ¬ (t.length + 1 = 1) := by omega
    have ht2 : ¬ ((t.length : Int) + 1 = 1) := by omega
    go_quiet (fail)
    go_wp2
    refine bodyPost_ret (v := .tuple #[.string ⟨x.toArray⟩, .slice (some ⟨b, o + 1, none⟩) t.length t.length, .bool true]) ?_ rfl ⟨_, rfl, HT.out, (by first | exact fun b' o' h => ⟨o, by cases h; rfl⟩ | (intros; simp_all; done) | (simp; done)), _, rfl⟩
    simp [results, Tryz.results197, go_sem]
def nmS (s : Str) : Str :=
 if s = [109, 105, 110, 117, 116, 101, 108, 121] then [42, 45, 42, 45, 42, 32, 42, 58, 42, 58, 48, 48] else
 if s = [104, 111, 117, 114, 108, 121] then [42, 45, 42, 45, 42, 32, 42, 58, 48, 48, 58, 48, 48] else
 if s = [100, 97, 105, 108, 121] then [42, 45, 42, 45, 42, 32, 48, 48, 58, 48, 48, 58, 48, 48] else
 if s = [119, 101, 101, 107, 108, 121] then [77, 111, 110, 32, 42, 45, 42, 45, 42, 32, 48, 48, 58, 48, 48, 58, 48, 48] else
 if s = [109, 111, 110, 116, 104, 108, 121] then [42, 45, 42, 45, 48, 49, 32, 48, 48, 58, 48, 48, 58, 48, 48] else
 if s = [121, 101, 97, 114, 108, 121] then [42, 45, 48, 49, 45, 48, 49, 32, 48, 48, 58, 48, 48, 58, 48, 48] else
 s
theorem nmS_len (s : Str) (h : s.length ≤ 400) : (nmS s).length ≤ 400 := by
 unfold nmS
 repeat' split
 all_goals first | exact h | simp
set_option maxHeartbeats 2000000 in
theorem named_any (s : Str) (w : World) : Calls Tryz.prog 196 #[.string ⟨s.toArray⟩] w fun e w' => e = .returned (.string ⟨(nmS s).toArray⟩) ∧ w' = w := by
 by_cases h0 : s = [109, 105, 110, 117, 116, 101, 108, 121]
 ·subst h0
  go_enter Tryz.func196, Tryz.ntmps196
  go_wp2_with fail
  go_ret
  exact ⟨rfl, rfl⟩
 by_cases h1 : s = [104, 111, 117, 114, 108, 121]
 ·subst h1
  go_enter Tryz.func196, Tryz.ntmps196
  go_wp2_with fail
  go_ret
  exact ⟨rfl, rfl⟩
 by_cases h2 : s = [100, 97, 105, 108, 121]
 ·subst h2
  go_enter Tryz.func196, Tryz.ntmps196
  go_wp2_with fail
  go_ret
  exact ⟨rfl, rfl⟩
 by_cases h3 : s = [119, 101, 101, 107, 108, 121]
 ·subst h3
  go_enter Tryz.func196, Tryz.ntmps196
  go_wp2_with fail
  go_ret
  exact ⟨rfl, rfl⟩
 by_cases h4 : s = [109, 111, 110, 116, 104, 108, 121]
 ·subst h4
  go_enter Tryz.func196, Tryz.ntmps196
  go_wp2_with fail
  go_ret
  exact ⟨rfl, rfl⟩
 by_cases h5 : s = [121, 101, 97, 114, 108, 121]
 ·subst h5
  go_enter Tryz.func196, Tryz.ntmps196
  go_wp2_with fail
  go_ret
  exact ⟨rfl, rfl⟩
 have b0 : (s == [109, 105, 110, 117, 116, 101, 108, 121]) = false := by rw [beq_eq_false_iff_ne]; exact h0
 have b1 : (s == [104, 111, 117, 114, 108, 121]) = false := by rw [beq_eq_false_iff_ne]; exact h1
 have b2 : (s == [100, 97, 105, 108, 121]) = false := by rw [beq_eq_false_iff_ne]; exact h2
 have b3 : (s == [119, 101, 101, 107, 108, 121]) = false := by rw [beq_eq_false_iff_ne]; exact h3
 have b4 : (s == [109, 111, 110, 116, 104, 108, 121]) = false := by rw [beq_eq_false_iff_ne]; exact h4
 have b5 : (s == [121, 101, 97, 114, 108, 121]) = false := by rw [beq_eq_false_iff_ne]; exact h5
 have HS := h_ (show nmS s = s by unfold nmS; simp only [if_neg h0, if_neg h1, if_neg h2, if_neg h3, if_neg h4, if_neg h5])
 clear h0 h1 h2 h3 h4 h5
 go_enter Tryz.func196, Tryz.ntmps196
 go_wp2_with fail
 go_ret
 exact ⟨by rw [HS.out]; rfl, rfl⟩
def boundS (f : Nat) : Int × Int := if f = 0 then (2000, 2199) else if f = 1 then (1, 12) else if f = 2 then (1, 31) else if f = 3 then (0, 23) else (0, 59)
theorem bounds_any (f : Nat) (hf : f < 6) (w : World) : Calls Tryz.prog 250 #[.int .i64 f] w fun e w' => e = .returned (.tuple #[.int .i64 (boundS f).1, .int .i64 (boundS f).2]) ∧ w' = w := by
 match f, hf with
 | 0, _ =>
  go_enter Tryz.func250, Tryz.ntmps250
  go_wp2_with fail
  go_ret2
  exact ⟨rfl, rfl⟩
 | 1, _ =>
  go_enter Tryz.func250, Tryz.ntmps250
  go_wp2_with fail
  go_ret2
  exact ⟨rfl, rfl⟩
 | 2, _ =>
  go_enter Tryz.func250, Tryz.ntmps250
  go_wp2_with fail
  go_ret2
  exact ⟨rfl, rfl⟩
 | 3, _ =>
  go_enter Tryz.func250, Tryz.ntmps250
  go_wp2_with fail
  go_ret2
  exact ⟨rfl, rfl⟩
 | 4, _ =>
  go_enter Tryz.func250, Tryz.ntmps250
  go_wp2_with fail
  go_ret2
  exact ⟨rfl, rfl⟩
 | 5, _ =>
  go_enter Tryz.func250, Tryz.ntmps250
  go_wp2_with fail
  go_ret2
  exact ⟨rfl, rfl⟩
def mayPtS (p : PartS) (f : Nat) : Bool :=
 if p.step < 0 ∨ 9999 < p.step then false
 else if p.from_ = -1 then p.to_ == -1
 else if p.from_ < (boundS f).1 ∨ (boundS f).2 < p.from_ then false
 else p.to_ == -1 || (decide (p.from_ ≤ p.to_) && decide (p.to_ ≤ (boundS f).2))
set_option maxHeartbeats 4000000 in
theorem mayPart_any (p : PartS) (f : Nat) (hf : f < 6) (w : World) (r : Bool) (hr : mayPtS p f = r) :
  Calls Tryz.prog 235 #[.agg #[.int .i64 p.from_, .int .i64 p.to_, .int .i64 p.step], .int .i64 f] w fun e w' => e = .returned (.bool r) ∧ Below w.heap.size w w' := by
 obtain ⟨pf, pt, ps⟩ := p
 have HB := h_ (fun V => bounds_any f hf V)
 unfold mayPtS at hr
 simp only at hr ⊢
 obtain ⟨lo, hlo⟩ : ∃ lo, lo = (boundS f).1 := ⟨_, rfl⟩
 obtain ⟨hi, hhi⟩ : ∃ hi, hi = (boundS f).2 := ⟨_, rfl⟩
 rw [← hlo, ← hhi] at HB hr
 have HW := h_ ((Below.refl w.heap.size w).alloc (Nat.le_refl _) (.cells #[.int .i64 pf, .int .i64 pt, .int .i64 ps] 242))
 clear hlo hhi
 by_cases h1 : ps < 0
 ·have h1b : ¬ (9999 < ps) := by omega
  have HR := h_ (show false = r by rw [← hr]; simp [h1])
  clear hr
  go_enter Tryz.func235, Tryz.ntmps235
  go_wp2_with (go_at_call 250; refine (HB.out _).mono ?_; rintro e w' ⟨rfl, rfl⟩)
  go_ret
  exact ⟨by first | rfl | (rw [← HR.out]; rfl) | (rw [← HR.out]; simp; done) | (rw [← HR.out]; simp; omega) | (rw [← HR.out]; simp [*]), HW.out⟩
 by_cases h2 : 9999 < ps
 ·have HR := h_ (show false = r by rw [← hr]; simp [h2])
  clear hr
  go_enter Tryz.func235, Tryz.ntmps235
  go_wp2_with (go_at_call 250; refine (HB.out _).mono ?_; rintro e w' ⟨rfl, rfl⟩)
  go_ret
  exact ⟨by first | rfl | (rw [← HR.out]; rfl) | (rw [← HR.out]; simp; done) | (rw [← HR.out]; simp; omega) | (rw [← HR.out]; simp [*]), HW.out⟩
 by_cases h3 : pf = -1
 ·subst h3
  by_cases h4 : pt = -1
  ·subst h4
   have HR := h_ (show true = r by rw [← hr]; simp [h1, h2])
   clear hr
   go_enter Tryz.func235, Tryz.ntmps235
   go_wp2_with (go_at_call 250; refine (HB.out _).mono ?_; rintro e w' ⟨rfl, rfl⟩)
   go_ret
   exact ⟨by first | rfl | (rw [← HR.out]; rfl) | (rw [← HR.out]; simp; done) | (rw [← HR.out]; simp; omega) | (rw [← HR.out]; simp [*]), HW.out⟩
  ·have h4b : (pt == -1) = false := by rw [beq_eq_false_iff_ne]; exact h4
   have HR := h_ (show false = r by rw [← hr]; simp [h1, h2, h4])
   clear hr
   go_enter Tryz.func235, Tryz.ntmps235
   go_wp2_with (go_at_call 250; refine (HB.out _).mono ?_; rintro e w' ⟨rfl, rfl⟩)
   go_ret
   exact ⟨by first | rfl | (rw [← HR.out]; rfl) | (rw [← HR.out]; simp; done) | (rw [← HR.out]; simp; omega) | (rw [← HR.out]; simp [*]), HW.out⟩
 have h3b : (pf == -1) = false := by rw [beq_eq_false_iff_ne]; exact h3
 by_cases h5 : pf < lo
 ·have HR := h_ (show false = r by rw [← hr]; simp [h1, h2, h3, h5])
  clear hr
  go_enter Tryz.func235, Tryz.ntmps235
  go_wp2_with (go_at_call 250; refine (HB.out _).mono ?_; rintro e w' ⟨rfl, rfl⟩)
  go_ret
  exact ⟨by first | rfl | (rw [← HR.out]; rfl) | (rw [← HR.out]; simp; done) | (rw [← HR.out]; simp; omega) | (rw [← HR.out]; simp [*]), HW.out⟩
 by_cases h6 : hi < pf
 ·have HR := h_ (show false = r by rw [← hr]; simp [h1, h2, h3, h6])
  clear hr
  go_enter Tryz.func235, Tryz.ntmps235
  go_wp2_with (go_at_call 250; refine (HB.out _).mono ?_; rintro e w' ⟨rfl, rfl⟩)
  go_ret
  exact ⟨by first | rfl | (rw [← HR.out]; rfl) | (rw [← HR.out]; simp; done) | (rw [← HR.out]; simp; omega) | (rw [← HR.out]; simp [*]), HW.out⟩
 by_cases h7 : pt = -1
 ·subst h7
  have HR := h_ (show true = r by rw [← hr]; simp [h1, h2, h3, h5, h6])
  clear hr
  go_enter Tryz.func235, Tryz.ntmps235
  go_wp2_with (go_at_call 250; refine (HB.out _).mono ?_; rintro e w' ⟨rfl, rfl⟩)
  go_ret
  exact ⟨by first | rfl | (rw [← HR.out]; rfl) | (rw [← HR.out]; simp; done) | (rw [← HR.out]; simp; omega) | (rw [← HR.out]; simp [*]), HW.out⟩
 have h7b : (pt == -1) = false := by rw [beq_eq_false_iff_ne]; exact h7
 by_cases h8 : pf ≤ pt
 ·have h8b : ¬ (pt < pf) := by omega
  by_cases h9 : pt ≤ hi
  ·have HR := h_ (show true = r by rw [← hr]; simp [h1, h2, h3, h5, h6, h7, h8, h9])
   clear hr
   go_enter Tryz.func235, Tryz.ntmps235
   go_wp2_with (go_at_call 250; refine (HB.out _).mono ?_; rintro e w' ⟨rfl, rfl⟩)
   go_ret
   exact ⟨by first | rfl | (rw [← HR.out]; rfl) | (rw [← HR.out]; simp; done) | (rw [← HR.out]; simp; omega) | (rw [← HR.out]; simp [*]), HW.out⟩
  ·have HR := h_ (show false = r by rw [← hr]; simp [h1, h2, h3, h5, h6, h7, h8, h9])
   clear hr
   go_enter Tryz.func235, Tryz.ntmps235
   go_wp2_with (go_at_call 250; refine (HB.out _).mono ?_; rintro e w' ⟨rfl, rfl⟩)
   go_ret
   exact ⟨by first | rfl | (rw [← HR.out]; rfl) | (rw [← HR.out]; simp; done) | (rw [← HR.out]; simp; omega) | (rw [← HR.out]; simp [*]), HW.out⟩
 ·have h8b : pt < pf := by omega
  have HR := h_ (show false = r by rw [← hr]; simp [h1, h2, h3, h5, h6, h7, h8])
  clear hr
  go_enter Tryz.func235, Tryz.ntmps235
  go_wp2_with (go_at_call 250; refine (HB.out _).mono ?_; rintro e w' ⟨rfl, rfl⟩)
  go_ret
  exact ⟨by first | rfl | (rw [← HR.out]; rfl) | (rw [← HR.out]; simp; done) | (rw [← HR.out]; simp; omega) | (rw [← HR.out]; simp [*]), HW.out⟩
def letP (s : Str) : Bool := match s with | [] => false | c :: _ => isLetter c
theorem parse1_any (s : Str) (w : World) : Calls Tryz.prog 198 #[.string ⟨s.toArray⟩] w fun e w' => e = .returned (.bool (letP s)) ∧ w' = w := by
 cases s with
 | nil =>
  go_enter Tryz.func198, Tryz.ntmps198
  go_wp2_with fail
  go_ret
  exact ⟨rfl, rfl⟩
 | cons c t =>
  obtain ⟨S, hS⟩ : ∃ S : ByteArray, S = ⟨(c :: t).toArray⟩ := ⟨_, rfl⟩
  have hsz : S.size ≠ 0 := by rw [hS]; simp [ByteArray.size]
  obtain ⟨n1, n2, n3, n4⟩ := str_ne hsz
  have h0 : S[0] = c := by subst hS; rfl
  have HL := h_ (fun W => letter_any S[0] W)
  have HC := h_ (show isLetter S[0] = letP (c :: t) from by rw [h0]; rfl)
  rw [← hS]
  clear hS h0 hsz
  go_enter Tryz.func198, Tryz.ntmps198
  go_wp2_with (go_at_call 121; refine (HL.out _).mono ?_; rintro e w' ⟨rfl, rfl⟩)
  go_ret
  exact ⟨by rw [← HC.out]; rfl, rfl⟩
def hasC (c : UInt8) (s : Str) : Bool := decide (0 ≤ Lib.indexByte s c)
theorem parse2_any (s : Str) (w : World) : Calls Tryz.prog 200 #[.string ⟨s.toArray⟩] w fun e w' => e = .returned (.bool (hasC 45 s)) ∧ w' = w := by
 have H := h_ (fun W => Tryz.strings_Contains_one ⟨s.toArray⟩ 45 W)
 change Hid (∀ W, Calls Tryz.prog 201 #[.string ⟨s.toArray⟩, .string ⟨#[45]⟩] W fun e w' => e = .returned (.bool (hasC 45 s)) ∧ w' = W) at H
 go_enter Tryz.func200, Tryz.ntmps200
 go_wp2_with (go_at_call 201; refine (H.out _).mono ?_; rintro e w' ⟨rfl, rfl⟩)
 go_ret
 exact ⟨rfl, rfl⟩
theorem parse3_any (s : Str) (w : World) : Calls Tryz.prog 202 #[.string ⟨s.toArray⟩] w fun e w' => e = .returned (.bool (hasC 58 s)) ∧ w' = w := by
 have H := h_ (fun W => Tryz.strings_Contains_one ⟨s.toArray⟩ 58 W)
 change Hid (∀ W, Calls Tryz.prog 201 #[.string ⟨s.toArray⟩, .string ⟨#[58]⟩] W fun e w' => e = .returned (.bool (hasC 58 s)) ∧ w' = W) at H
 go_enter Tryz.func202, Tryz.ntmps202
 go_wp2_with (go_at_call 201; refine (H.out _).mono ?_; rintro e w' ⟨rfl, rfl⟩)
 go_ret
 exact ⟨rfl, rfl⟩
theorem enters_parse1 : ∀ args w, (callFunc 198 args).run Tryz.prog w = .ok (.enter 198 args) w := enters_of Tryz.func198 (by kernel_rfl) rfl
theorem enters_parse2 : ∀ args w, (callFunc 200 args).run Tryz.prog w = .ok (.enter 200 args) w := enters_of Tryz.func200 (by kernel_rfl) rfl
theorem enters_parse3 : ∀ args w, (callFunc 202 args).run Tryz.prog w = .ok (.enter 202 args) w := enters_of Tryz.func202 (by kernel_rfl) rfl
end Go.Proofs.YtdjkedcpehhmnaaGreatDoor
