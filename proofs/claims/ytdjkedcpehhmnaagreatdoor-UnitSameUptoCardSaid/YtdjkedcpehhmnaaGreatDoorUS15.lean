import Derived.Deep.LoopGhost
import Derived.Test.YtdjkedcpehhmnaaGreatDoorUS4
import Derived.Test.YtdjkedcpehhmnaaGreatDoorUS5
import Derived.Test.YtdjkedcpehhmnaaGreatDoorUS9
import Derived.Test.YtdjkedcpehhmnaaGreatDoorUS10
import Derived.Test.YtdjkedcpehhmnaaGreatDoorUS14
namespace Go.Proofs.YtdjkedcpehhmnaaGreatDoor
open Go Go.RowKit
set_option linter.unusedVariables false
set_option linter.unusedSimpArgs false
set_option maxRecDepth 100000
set_option maxHeartbeats 2000000 in
theorem var_any (s : ByteArray) (w : World) (h63 : s.size ≤ 9223372036854775807) (b : Bool) (hb : varB s.data.toList = b) :
  Calls Tryz.prog 176 #[.string s] w fun e w' => e = .returned (.bool b) ∧ Below w.heap.size w w' := by
 obtain ⟨q, hq⟩ : ∃ q, longB s.data.toList 60 varP = q := ⟨_, rfl⟩
 have hb2 : (q && !(isDigit (s.data.toList.headD 0))) = b := by
  rw [← hb, ← hq]
  unfold varB longB
  congr 3
  rw [decide_eq_decide]; omega
 let w1 := w.alloc (.cells #[.string ⟨#[95]⟩] 9)
 let w2 := w1.alloc (.cells #[.func (.func 121) #[] #[], .func (.func 122) #[] #[], .func (.func 161) #[] #[.pointer (some ⟨w.heap.size, 0, none⟩)]] 110)
 let w3 := w2.alloc (.cells #[.slice (some ⟨w.heap.size + 1, 0, none⟩) 3 3] 179)
 have hB : Below w.heap.size w w3 := (((Below.refl _ _).alloc (Nat.le_refl _) _).alloc (by simp) _).alloc (by simp; omega) _
 have z1 : w1.heap.size = w.heap.size + 1 := by simp [w1]
 have z2 : w2.heap.size = w.heap.size + 1 + 1 := by simp [w2, z1]
 have HA : ∀ w' : World, w' = w3 → Calls Tryz.prog 129 #[.string s, .int .i64 60, .func (.func 160) #[] #[.pointer (some ⟨w.heap.size + 1 + 1, 0, none⟩)]] w' fun e w'' => e = .returned (.bool q) ∧ w' = w'' := by
  intro w' hw'
  have h0 : w'.heap[w.heap.size]? = some (.cells #[.string ⟨#[95]⟩] 9 (0, 0)) := by
   rw [hw']; exact heap_alloc (heap_alloc (heap_alloc_new w _) _) _
  have h2 : w'.heap[w.heap.size + 1]? = some (.cells #[.func (.func 121) #[] #[], .func (.func 122) #[] #[], .func (.func 161) #[] #[.pointer (some ⟨w.heap.size, 0, none⟩)]] 110 (0, 0)) := by
   rw [hw', ← z1]; exact heap_alloc (heap_alloc_new w1 _) _
  have h1 : w'.cell? ⟨w.heap.size + 1 + 1, 0, none⟩ = some (.slice (some ⟨w.heap.size + 1, 0, none⟩) 3 3) := by
   have h0 : w'.heap[w.heap.size + 1 + 1]? = some (.cells #[.slice (some ⟨w.heap.size + 1, 0, none⟩) 3 3] 179 (0, 0)) := by
    rw [hw', ← z2]
    exact heap_alloc_new w2 _
   rw [(rd h0).1]; rfl
  obtain ⟨hc, _⟩ := rd h2
  have hs : w'.cell? ⟨w.heap.size, 0, none⟩ = some (.string ⟨#[95]⟩) := by rw [(rd h0).1]; rfl
  refine long_any s 60 160 #[] _ varP q w' h63 enters_any1 (fun c => ?_) hq
  refine (any1_any c (w.heap.size + 1 + 1) (w.heap.size + 1) 3 [isLetter, isDigit, fun c => ([95] : Str).contains c] w' h1 (by simp) ?_).mono ?_
  ·intro i hi
   match i, hi with
   | 0, _ => exact ⟨_, hc 0, _, _, _, rfl, enters_letter, fun c => letter_any c w'⟩
   | 1, _ => exact ⟨_, hc 1, _, _, _, rfl, enters_digit, fun c => digit_any c w'⟩
   | 2, _ => exact ⟨_, hc 2, _, _, _, rfl, enters_in1, fun c => in1_any c w.heap.size _ w' hs _ rfl⟩
   | n + 3, hi => exact absurd hi (by simp)
  ·rintro e w'' ⟨rfl, rfl⟩
   exact ⟨rfl, rfl⟩
 have HH := h_ HA
 have HB := h_ hB
 clear HA hB hb
 cases q with
 | false =>
  obtain rfl : false = b := by simpa using hb2
  clear hq hb2
  go_enter Tryz.func176, Tryz.ntmps176
  go_wp2_with (first
   | (go_at_call 123; refine (in_any _ _).mono ?_; rintro e w' ⟨rfl, rfl⟩)
   | (go_at_call 120; refine (any_any _ _ _ _).mono ?_; rintro e w' ⟨rfl, rfl⟩)
   | (go_at_call 129; refine ((HH.out _ (by simp [w1, w2, w3])).mono ?_); rintro e w' ⟨rfl, rfl⟩))
  go_ret
  exact ⟨rfl, HB.out⟩
 | true =>
  obtain ⟨h0, -, -⟩ := longB_true (n := 60) hq
  have hlt : 0 < s.size := by
   have : s.data.toList.length = s.size := by simp
   have h1 : s.data.toList.length ≠ 0 := fun e => h0 (List.eq_nil_of_length_eq_zero e)
   omega
  have hlz : (0 : Int) < (s.size : Int) := by omega
  have hhd : s.data.toList.headD 0 = s[0] := by
   have := drop_cons s 0 hlt
   rw [List.drop_zero] at this
   rw [this]; rfl
  have HR := h_ (show (!isDigit s[0]) = b by rw [← hb2, hhd]; simp)
  have HD := h_ (fun W => digit_any s[0] W)
  clear hq hb2 h0 hhd
  go_enter Tryz.func176, Tryz.ntmps176
  go_wp2_with (first
   | (go_at_call 123; refine (in_any _ _).mono ?_; rintro e w' ⟨rfl, rfl⟩)
   | (go_at_call 120; refine (any_any _ _ _ _).mono ?_; rintro e w' ⟨rfl, rfl⟩)
   | (go_at_call 122; refine (HD.out _).mono ?_; rintro e w' ⟨rfl, rfl⟩)
   | (go_at_call 129; refine ((HH.out _ (by simp [w1, w2, w3])).mono ?_); rintro e w' ⟨rfl, rfl⟩))
  go_ret
  exact ⟨by rw [← HR.out]; rfl, HB.out⟩
theorem own_base {w : World} {B B' e size n : Nat} {v : Value} {xs : List Value} (h : w.ownsRow B e size v n xs) (hB : B' ≤ B) : w.ownsRow B' e size v n xs := by
 refine ⟨h.1, ?_⟩
 rcases h.2 with hn | ⟨g, cap, cur, rfl, hb, rest⟩
 ·exact .inl hn
 ·exact .inr ⟨g, cap, cur, rfl, Nat.le_trans hB hb, rest⟩
def ExecOut (w : World) (s : Str) (e : Ending) (w' : World) : Prop :=
 Below w.heap.size w w' ∧ match execS s with
 | none => e = .returned (.tuple #[.agg #[.bool false, .slice none 0 0], .bool false])
 | some (d, l) => ∃ wa wc, e = .returned (.tuple #[.agg #[.bool d, .slice wa l.length wc], .bool true]) ∧ w'.ownsRow w.heap.size 9 1 (.slice wa l.length wc) l.length (strVals l)
theorem trim_len (s : Str) : (Lib.trimPrefix s [45]).length ≤ s.length := by
 unfold Lib.trimPrefix
 split <;> simp
set_option maxHeartbeats 2000000 in
theorem exec_any (s : ByteArray) (w : World) (hs : s.size ≤ 1000000000) : Calls Tryz.prog 90 #[.string s] w fun e w' => ExecOut w s.data.toList e w' := by
 have HCP := h_ (fun W => Tryz.strings_CutPrefix s ⟨#[45]⟩ W)
 have hlen : s.data.toList.length = s.size := by simp
 have htl := trim_len s.data.toList
 unfold ExecOut execS
 simp only at HCP
 obtain ⟨r, hr⟩ : ∃ r, r = Lib.trimPrefix s.data.toList [45] := ⟨_, rfl⟩
 obtain ⟨d, hd⟩ : ∃ d, d = Lib.hasPrefix s.data.toList [45] := ⟨_, rfl⟩
 change Hid (∀ W, Calls _ _ _ _ fun e w' => e = .returned (.tuple #[.string ⟨(Lib.trimPrefix s.data.toList [45]).toArray⟩, .bool (Lib.hasPrefix s.data.toList [45])]) ∧ _) at HCP
 rw [← hr, ← hd] at HCP ⊢
 rw [← hr] at htl
 have hrl : r.length ≤ 1000000000 := by omega
 clear hr hd htl hlen hs
 let w0 := w.alloc (.cells #[.bool false, .slice none 0 0] 56)
 have hB0 : Below w.heap.size w w0 := (Below.refl _ _).alloc (Nat.le_refl _) _
 have h0 : w0.heap[w.heap.size]? = some (.cells #[.bool false, .slice none 0 0] 56 (0, 0)) := heap_alloc_new w _
 have HB0 := h_ hB0; have H0 := h_ h0
 clear hB0 h0
 obtain ⟨res, hres⟩ : ∃ res, split r = res := ⟨_, rfl⟩
 have HSP := h_ (fun W => split_any ⟨r.toArray⟩ W (by simp [ByteArray.size]; omega) res hres)
 rw [hres]
 clear hres
 go_enter Tryz.func90, Tryz.ntmps90
 go_wp2_with fail
 refine (HCP.out _).mono ?_
 rintro e w1 ⟨rfl, rfl⟩
 go_wp2_with fail
 refine (HSP.out w0).mono ?_
 rintro e w1 ⟨hb1, he⟩
 have HB1 := h_ (HB0.out.trans (hb1.mono HB0.out.size))
 have H1 := h_ (heap_below H0.out hb1)
 have hz0 : w0.heap.size = w.heap.size + 1 := by simp [w0]
 have HZ := h_ (show w.heap.size ≤ w0.heap.size by omega)
 clear hb1 HB0 H0 HCP HSP hz0
 obtain ⟨cc, fc, sc, lc⟩ := rd H1.out
 have c0 := cc 0; have c1 := cc 1; have f0 := fc 0; have f1 := fc 1
 simp only [List.getElem?_toArray, List.getElem?_cons_zero, List.getElem?_cons_succ] at c0 c1
 clear cc fc sc
 cases res with
 | error c =>
  obtain rfl := he
  by_cases hc0 : (c : Int) = 0
  ·rw [hc0]
   go_wp2_with fail
   refine bodyPost_ret (v := .tuple #[.agg #[.bool false, .slice none 0 0], .bool false]) ?_ rfl ⟨?_, rfl⟩
   ·simp [results, Tryz.results90, go_sem, c0, c1]
   ·exact (HB1.out.setCell (Nat.le_refl _) _).setCell (Nat.le_refl _) _
  ·have hc1 : ((c : Int) != 0) = true := by simpa using hc0
   go_wp2_with fail
   refine bodyPost_ret (v := .tuple #[.agg #[.bool false, .slice none 0 0], .bool false]) ?_ rfl ⟨?_, rfl⟩
   ·simp [results, Tryz.results90, go_sem, c0, c1]
   ·exact (HB1.out.setCell (Nat.le_refl _) _).setCell (Nat.le_refl _) _
 | ok l =>
  obtain ⟨v, rfl, hown⟩ := he
  obtain ⟨oa, cap, rfl⟩ := ownsRow_form hown
  have hrow := StrRow.of_own hown
  have HO := h_ (own_base hown HZ.out)
  clear hown
  cases l with
  | nil =>
   simp only [List.length_nil]
   go_wp2_with fail
   refine bodyPost_ret (v := .tuple #[.agg #[.bool false, .slice none 0 0], .bool false]) ?_ rfl ⟨?_, rfl⟩
   ·simp [results, Tryz.results90, go_sem, c0, c1]
   ·exact (HB1.out.setCell (Nat.le_refl _) _).setCell (Nat.le_refl _) _
  | cons x t =>
   obtain ⟨b, o, rfl, d0⟩ := hrow 0 (by simp)
   simp only [List.getElem_cons_zero, Nat.add_zero] at d0
   have hpos : ((x :: t).length : Int) ≠ 0 := by rw [List.length_cons]; omega
   have hpos1 : (((x :: t).length : Int) == 0) = false := by rw [beq_eq_false_iff_ne]; exact hpos
   have hpos2 : (0 : Int) < ((x :: t).length : Int) := by omega
   have hpos3 : 0 < (x :: t).length := by simp
   by_cases hx : x = []
   ·subst hx
    generalize (([] : Str) :: t).length = n at *
    go_wp2_with fail
    refine bodyPost_ret (v := .tuple #[.agg #[.bool false, .slice none 0 0], .bool false]) ?_ rfl ⟨?_, ?_⟩
    ·simp [results, Tryz.results90, go_sem, c0, c1]
    ·exact (HB1.out.setCell (Nat.le_refl _) _).setCell (Nat.le_refl _) _
    ·simp only [if_true]
   ·have hxe : List.isEmpty x = false := by cases x with | nil => exact absurd rfl hx | cons a u => rfl
    clear hrow
    go_wp2_with fail
    refine bodyPost_ret (v := .tuple #[.agg #[.bool d, .slice (some ⟨b, o, none⟩) (x :: t).length cap], .bool true]) ?_ rfl ⟨?_, ?_⟩
    ·simp [results, Tryz.results90, go_sem, c0, c1]
    ·exact (HB1.out.setCell (Nat.le_refl _) _).setCell (Nat.le_refl _) _
    ·refine ⟨some ⟨b, o, none⟩, cap, rfl, ?_⟩
     refine ownsRow_fr HO.out (M := fun k => k = w.heap.size) (Fr.setCell (M := fun k => k = w.heap.size) (p := ⟨w.heap.size, 1, none⟩) (Fr.setCell (M := fun k => k = w.heap.size) (p := ⟨w.heap.size, 0, none⟩) (Fr.refl _ _) (fun _ => rfl) _) (fun _ => rfl) _) (fun k hk hr => ?_)
     rintro rfl
     obtain ⟨cs, fz, h5⟩ := hr
     rw [H1.out] at h5
     simp at h5
def encP (p : Str × Str) : List Value := [.string ⟨p.1.toArray⟩, .string ⟨p.2.toArray⟩]
theorem encP_one (k : Str × Str) : ∀ v ∈ encP k, v.oneCell' = true := by intro v hv; simp [encP] at hv; rcases hv with rfl | rfl <;> rfl
theorem infoPair : (Tryz.prog.info? 58).map (fun i => (i.zero, i.size, i.bytes)) = some (some (.agg #[.string ⟨#[]⟩, .string ⟨#[]⟩]), 2, 32) := by kernel_rfl
theorem own_built2 (w : World) (a b : Value) (T : TypeId) : (w.alloc (.cells #[a, b] T)).ownsRow w.heap.size T 2 (.slice (some ⟨w.heap.size, 0, none⟩) 1 1) 1 [a, b] :=
 ⟨rfl, .inr ⟨w.heap.size, 1, #[a, b], rfl, Nat.le_refl _, heap_alloc_new _ _, Nat.le_refl _, by decide, rfl, rfl⟩⟩
theorem cut_len (l : Str) (c : Str) : (Lib.cut l c).1.length ≤ l.length ∧ (Lib.cut l c).2.1.length ≤ l.length := by
 unfold Lib.cut
 split
 ·exact ⟨by rw [List.length_take]; exact Nat.min_le_right _ _, by rw [List.length_drop]; omega⟩
 ·simp
set_option maxHeartbeats 4000000 in
theorem env_any (s : ByteArray) (w : World) (hs : s.size ≤ 1000000000) (hM : MaxAt w) (ps : List (Str × Str)) (b : Bool) (hps : envS s.data.toList = (ps, b)) :
  Calls Tryz.prog 133 #[.string s] w fun e w' => Below w.heap.size w w' ∧ ∃ v, e = .returned (.tuple #[v, .bool b]) ∧ w'.ownsRow w.heap.size 58 2 v ps.length (flatL encP ps) := by
 obtain ⟨i0, hi0, hz0, hz1, hz2⟩ := info_parts infoPair
 obtain ⟨res, hres⟩ : ∃ res, split s.data.toList = res := ⟨_, rfl⟩
 have HSP := h_ (split_any s w (by omega) res hres)
 have HLS := h_ (fun l (h : res = .ok l) => show l.length ≤ 32 ∧ ∀ x ∈ l, x.length ≤ s.size from by have := split_small s.data.toList l (by rw [hres, h]); simpa using this)
 unfold envS at hps
 rw [hres] at hps
 have HP := h_ hps
 have HM := h_ hM
 clear hres hps hM
 go_enter Tryz.func133, Tryz.ntmps133
 go_wp2_with fail
 refine HSP.out.mono ?_
 rintro e w1 ⟨hb1, he⟩
 have HB1 := h_ hb1
 clear hb1 HSP
 cases res with
 | error c =>
  obtain rfl := he
  have HQ := h_ (show ps = [] ∧ b = false from by have h := HP.out; simp at h; exact ⟨h.1, h.2⟩)
  go_wp2_with fail
  go_loopg [6, 19] 2 (fun f v i wr => v = .slice none 0 0 ∧ i = .int .i64 0 ∧ wr = w1 ∧ 0 < f)
  case atStart => exact ⟨rfl, rfl, rfl, by omega⟩
  case round =>
   obtain ⟨rfl, rfl, rfl, hfu⟩ := hrel
   by_cases hc0 : (c : Int) = 0
   ·rw [hc0]
    go_wp2_with fail
    obtain ⟨rfl, rfl⟩ := HQ.out
    go_ret2
    exact ⟨HB1.out, _, rfl, World.ownsRow_nil _ _ _ _⟩
   ·have hc1 : ((c : Int) == 0) = false := by simpa using hc0
    go_wp2_with fail
    obtain ⟨rfl, rfl⟩ := HQ.out
    go_ret2
    exact ⟨HB1.out, _, rfl, World.ownsRow_nil _ _ _ _⟩
 | ok l =>
  obtain ⟨v, rfl, hown⟩ := he
  obtain ⟨oa, cap, rfl⟩ := ownsRow_form hown
  have HR := h_ (StrRow.of_own hown)
  obtain ⟨hl1, hl2⟩ := HLS.out l rfl
  have HL2 := h_ hl2
  have hll : l.length ≤ 32 := hl1
  clear hown hl2
  go_wp2_with fail
  go_loopg [6, 19] (l.length + 1) (fun f v i wr => ∃ (k : Nat) (done : List (Str × Str)), k ≤ l.length ∧ i = .int .i64 k ∧ l.length - k < f ∧ done.length = k ∧ Hid (wr.ownsRow w1.heap.size 58 2 v done.length (flatL encP done)) ∧ Hid (envL l = (envL (l.drop k)).map fun r => done ++ r) ∧ Hid (Below w1.heap.size w1 wr))
  case atStart => exact ⟨0, [], by omega, rfl, by omega, rfl, World.ownsRow_nil _ _ _ _, (show envL l = (envL (l.drop 0)).map fun r => [] ++ r from by rw [List.drop_zero]; cases envL l <;> simp), Below.refl _ _⟩
  case round =>
   obtain ⟨_, done, hk, rfl, hfu, rfl, Hown, HE, HB⟩ := hrel
   obtain ⟨oa2, cap2, rfl⟩ := ownsRow_form Hown.out
   by_cases hlt : done.length < l.length
   ·have hz : (done.length : Int) < (l.length : Int) := by omega
    obtain ⟨x, hx⟩ : ∃ x, x = l[done.length] := ⟨_, rfl⟩
    obtain ⟨b4, o4, rfl, d0⟩ := (HR.out.below HB.out) done.length hlt
    rw [← hx] at d0
    have hd : l.drop done.length = x :: l.drop (done.length + 1) := by rw [hx]; exact List.drop_eq_getElem_cons hlt
    have hxl : x.length ≤ s.size := by rw [hx]; exact HL2.out _ (List.getElem_mem hlt)
    have hM2 : MaxAt wr := (HM.out.below HB1.out).below HB.out
    obtain ⟨m, hm⟩ := hM2
    have HCUT := h_ (fun W (h : W.cell? ⟨0, 0, none⟩ = some (.int .i64 m)) => Tryz.strings_Cut ⟨x.toArray⟩ ⟨#[61]⟩ m W (by show x.toArray.size < _; simp; omega) h)
    change Hid (∀ W, _ → Calls _ _ _ _ fun e w' => e = .returned (.tuple #[.string ⟨(Lib.cut x [61]).1.toArray⟩, .string ⟨(Lib.cut x [61]).2.1.toArray⟩, .bool (Lib.cut x [61]).2.2]) ∧ _) at HCUT
    have hE := HE.out
    rw [hd] at hE
    rw [show envL (x :: l.drop (done.length + 1)) = if (Go.Lib.cut x [61]).2.2 = true ∧ varB (Go.Lib.cut x [61]).1 = true then (envL (l.drop (done.length + 1))).map fun r => ((Go.Lib.cut x [61]).1, (Go.Lib.cut x [61]).2.1) :: r else none from rfl] at hE
    have hcl := cut_len x [61]
    obtain ⟨c1, c2, q, hcut⟩ : ∃ c1 c2 q, Lib.cut x [61] = (c1, c2, q) := ⟨_, _, _, rfl⟩
    rw [hcut] at HCUT hE hcl
    simp only at hcl hE
    clear hcut hx hd HE
    cases q with
    | false =>
     have hE2 : envL l = none := by rw [hE]; simp
     have HQ := h_ (show ps = [] ∧ b = false from by have h := HP.out; simp only [hE2] at h; simp at h; exact ⟨h.1, h.2⟩)
     clear hE hE2
     go_wp2_with fail
     refine (HCUT.out _ hm).mono ?_
     rintro e w2 ⟨rfl, n2, rfl⟩
     have HB2 := h_ (HB.out.trans (show Below w1.heap.size wr (wr.drewN n2) from below_dn ⟨_, rfl⟩))
     generalize wr.drewN n2 = w2 at *
     go_wp2_with fail
     obtain ⟨rfl, rfl⟩ := HQ.out
     go_ret2
     exact ⟨HB1.out.trans (HB2.out.mono HB1.out.size), _, rfl, World.ownsRow_nil _ _ _ _⟩
    | true =>
     obtain ⟨y, hy⟩ : ∃ y, varB c1 = y := ⟨_, rfl⟩
     have HVR := h_ (fun W => var_any ⟨c1.toArray⟩ W (by show c1.toArray.size ≤ _; simp; omega) y hy)
     cases y with
     | false =>
      have hE2 : envL l = none := by rw [hE, hy]; simp
      have HQ := h_ (show ps = [] ∧ b = false from by have h := HP.out; simp only [hE2] at h; simp at h; exact ⟨h.1, h.2⟩)
      clear hE hE2
      go_wp2_with fail
      refine (HCUT.out _ hm).mono ?_
      rintro e w2 ⟨rfl, n2, rfl⟩
      have HB2 := h_ (HB.out.trans (show Below w1.heap.size wr (wr.drewN n2) from below_dn ⟨_, rfl⟩))
      generalize wr.drewN n2 = w2 at *
      go_wp2_with fail
      refine (HVR.out _).mono ?_
      rintro e w3 ⟨rfl, hb3⟩
      have HB3 := h_ (HB2.out.trans (hb3.mono HB2.out.size))
      clear hb3
      go_wp2_with fail
      obtain ⟨rfl, rfl⟩ := HQ.out
      go_ret2
      exact ⟨HB1.out.trans (HB3.out.mono HB1.out.size), _, rfl, World.ownsRow_nil _ _ _ _⟩
     | true =>
      have HE2 := h_ (show envL l = (envL (l.drop (done.length + 1))).map fun r => (done ++ [(c1, c2)]) ++ r from by
       rw [hE, hy]
       cases envL (l.drop (done.length + 1)) <;> simp)
      clear hE
      go_wp2_with fail
      refine (HCUT.out _ hm).mono ?_
      rintro e w2 ⟨rfl, n2, rfl⟩
      have HB2 := h_ (HB.out.trans (show Below w1.heap.size wr (wr.drewN n2) from below_dn ⟨_, rfl⟩))
      have HO2 := h_ (own_keeps Hown.out (show Below wr.heap.size wr (wr.drewN n2) from below_dn ⟨_, rfl⟩))
      generalize wr.drewN n2 = w2 at *
      go_wp2_with fail
      refine (HVR.out _).mono ?_
      rintro e w3 ⟨rfl, hb3⟩
      have HB3 := h_ (HB2.out.trans (hb3.mono HB2.out.size))
      have HO3 := h_ (own_keeps HO2.out hb3)
      clear hb3
      let W1 := w3.alloc (.cells (encP (c1, c2)).toArray 58)
      have hB1 : Below w3.heap.size w3 W1 := (Below.refl _ _).alloc (Nat.le_refl _) _
      have hbl := RowRd.of_own (enc := encP) (k := 2) (l := [(c1, c2)]) (oa := some ⟨w3.heap.size, 0, none⟩) (cap := 1) (fun _ => rfl) (own_built2 w3 (.string ⟨c1.toArray⟩) (.string ⟨c2.toArray⟩) 58)
      obtain ⟨v', w4, hrun, hown4, hgrow⟩ := append_rows (P := Tryz.prog) w1.heap.size 27 27 58 i0 (.agg #[.string ⟨#[]⟩, .string ⟨#[]⟩]) 2 32 Tryz.underlying27 hi0 hz0 hz1 hz2 (by rfl) (by decide) _ _ _ (own_keeps HO3.out hB1) (some ⟨w3.heap.size, 0, none⟩) 1 1 (flatL encP [(c1, c2)]) rfl (RowRd.flat (enc := encP) (k := 2) (fun _ => rfl) (by omega) hbl) (flatL_oneCell encP_one _) (by unfold maxLen; omega) (by omega) (Nat.le_trans HB3.out.size hB1.size)
      have HRUN := h_ hrun
      have HB4 := h_ ((HB3.out.trans (hB1.mono HB3.out.size)).grown hgrow (Nat.le_trans HB3.out.size hB1.size) (fun g hg => (HO3.out.lt g hg).1))
      have HO4 := h_ (show w4.ownsRow w1.heap.size 58 2 v' (done ++ [(c1, c2)]).length (flatL encP (done ++ [(c1, c2)])) by rw [flatL_append, List.length_append]; exact hown4)
      clear hrun hown4 hgrow hbl hB1
      unfold encP at *
      go_wp2_with (at_builtin; refine wpList_append_run rfl _ _ 27 rfl HRUN.out rfl rfl ?_)
      obtain ⟨oa3, cap3, rfl⟩ := ownsRow_form HO4.out
      go_roundg (l.length - done.length)
      case measure => omega
      case rel => exact ⟨done.length + 1, done ++ [(c1, c2)], by omega, by go_num, by omega, by simp, HO4, HE2, HB4⟩
   ·have hz : ¬ ((done.length : Int) < (l.length : Int)) := by omega
    have hE : envL l = some done := by rw [HE.out, List.drop_eq_nil_of_le (by omega)]; simp [envL]
    have HQ := h_ (show ps = done ∧ b = decide (0 < done.length) from by have h := HP.out; simp only [hE] at h; simp at h; exact ⟨h.1.symm, by rw [← h.2]⟩)
    clear hE HE
    have HO2 := h_ (own_base Hown.out HB1.out.size)
    by_cases h0 : 0 < done.length
    ·have h1 : (0 : Int) < (done.length : Int) := by omega
     have h2 : (done.length : Int) > 0 := by omega
     go_wp2_with fail
     obtain ⟨rfl, rfl⟩ := HQ.out
     go_ret2
     refine ⟨HB1.out.trans (HB.out.mono HB1.out.size), _, by rw [decide_eq_true h0]; rfl, HO2.out⟩
    ·have h1 : ¬ (0 : Int) < (done.length : Int) := by omega
     have h2 : ¬ (done.length : Int) > 0 := by omega
     go_wp2_with fail
     obtain ⟨rfl, rfl⟩ := HQ.out
     go_ret2
     refine ⟨HB1.out.trans (HB.out.mono HB1.out.size), _, by rw [decide_eq_false h0]; rfl, HO2.out⟩
end Go.Proofs.YtdjkedcpehhmnaaGreatDoor
