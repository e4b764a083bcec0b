import Derived.Lib.SlBy
import Derived.Deep.LoopGhost
import Derived.Lib.SplitLaws
import Derived.Lib.IndexBytes
import Derived.Test.YtdpnahojhmkemaaGreatDoorKP3
import Derived.Test.YtdpnahojhmkemaaGreatDoorKP7
import Derived.Test.YtdpnahojhmkemaaGreatDoorKP8
import Derived.Test.YtdpnahojhmkemaaGreatDoorKP9
import Derived.Test.YtdpnahojhmkemaaGreatDoorKP30
import Derived.Test.YtdpnahojhmkemaaGreatDoorKP31
import Derived.Test.YtdpnahojhmkemaaGreatDoorKP32
import Derived.Test.YtdpnahojhmkemaaGreatDoorKP34
import Derived.Test.YtdpnahojhmkemaaGreatDoorKP35
namespace Go.Proofs.YtdpnahojhmkemaaGreatDoor
open Go Go.RowKit
set_option linter.unusedVariables false
set_option linter.unusedSimpArgs false
set_option maxRecDepth 100000
instance : Inhabited PartS := ⟨⟨0, 0, 0⟩⟩
set_option maxHeartbeats 2000000 in
theorem indexPt_any (g : FuncId) (lb : Array Value) (eg : ∀ args w, (callFunc g args).run Tryz.prog w = .ok (.enter g args) w) (p : PartS → Bool) (oa : Option Addr) (cap : Nat) (l : List PartS) (w : World) (hr : RowRd encPt 3 w oa l) (hbig : l.length ≤ 1000000000)
  (hp : ∀ (W : World) j (h : j < l.length), Below w.heap.size w W → Calls Tryz.prog g (#[.agg (encPt l[j]).toArray] ++ lb) W fun e w' => e = .returned (.bool (p l[j])) ∧ Below w.heap.size w w') :
  Calls Tryz.prog 138 #[.slice oa l.length cap, .func (.func g) #[] lb] w fun e w' => e = .returned (.int .i64 (Lib.idxBy (fun _ y => p y) l default)) ∧ Below w.heap.size w w' := by
 have HP := Lib.hid hp; have HR := Lib.hid hr
 clear hp hr
 go_enter Tryz.func138, Tryz.ntmps138
 go_wp2
 go_loopg [5, 8] l.length (fun gg _ s8 wr => ∃ kk : Nat, kk ≤ l.length ∧ l.length - kk ≤ gg ∧ s8 = .int .i64 kk ∧ Hid (Below w.heap.size w wr) ∧ Hid (∀ j, j < kk → p l[j]! = false))
 case atStart => exact ⟨0, Nat.zero_le _, by omega, rfl, Below.refl _ w, fun j hj => absurd hj (Nat.not_lt_zero _)⟩
 case round =>
  obtain ⟨kk, hkk, hg, rfl, BW, A⟩ := hrel
  by_cases hlt : kk < l.length
  ·have hltz : (kk : Int) < (l.length : Int) := by omega
   obtain ⟨b, o, rfl, -, hcc⟩ := (HR.out.below BW.out) kk hlt
   have d0 := hcc 0 _ rfl; have d1 := hcc 1 _ rfl; have d2 := hcc 2 _ rfl
   simp only [Nat.add_zero] at d0
   have hcall := HP.out wr kk hlt BW.out
   have B := Lib.hid (show l[kk]! = l[kk] from getElem!_pos l kk hlt)
   unfold encPt at hcall
   generalize l[kk] = y at d0 d1 d2 hcall B
   clear hcc
   cases hq : p y with
   | true =>
    rw [hq] at hcall
    have HQ := Lib.hid hq; clear hq
    have HCL := Lib.hid hcall; clear hcall
    go_wp2_with (go_at_fn g; refine HCL.out.mono ?_; rintro e w' ⟨rfl, hb'⟩)
    go_ret
    refine ⟨?_, hb'⟩
    have := Lib.idxBy_hit (fun _ y => p y) l l.length kk default hlt (Nat.le_refl _) (by show p l[kk]! = true; rw [B.out]; exact HQ.out) A.out
    rw [List.take_length] at this
    rw [this]
    rfl
   | false =>
    rw [hq] at hcall
    have HQ := Lib.hid hq; clear hq
    have HCL := Lib.hid hcall; clear hcall
    go_wp2_with (go_at_fn g; refine HCL.out.mono ?_; rintro e w' ⟨rfl, hb'⟩)
    go_roundg (l.length - (kk + 1))
    case measure => omega
    case rel =>
     refine ⟨kk + 1, by omega, by omega, by go_num, hb', (show Hid _ from fun j hj => ?_)⟩
     by_cases e : j = kk
     ·subst e
      rw [B.out]; exact HQ.out
     ·exact A.out j (by omega)
  ·have hltz : ¬ (kk : Int) < (l.length : Int) := by omega
   have hkl : kk = l.length := by omega
   subst hkl
   go_wp2
   go_ret
   refine ⟨?_, BW.out⟩
   have := Lib.idxBy_miss (fun _ y => p y) l l.length default A.out
   rw [List.take_length] at this
   rw [this]
   rfl
theorem containsPt_any (g : FuncId) (lb : Array Value) (eg : ∀ args w, (callFunc g args).run Tryz.prog w = .ok (.enter g args) w) (p : PartS → Bool) (oa : Option Addr) (cap : Nat) (l : List PartS) (w : World) (hr : RowRd encPt 3 w oa l) (hbig : l.length ≤ 1000000000)
  (hp : ∀ (W : World) j (h : j < l.length), Below w.heap.size w W → Calls Tryz.prog g (#[.agg (encPt l[j]).toArray] ++ lb) W fun e w' => e = .returned (.bool (p l[j])) ∧ Below w.heap.size w w') :
  Calls Tryz.prog 113 #[.slice oa l.length cap, .func (.func g) #[] lb] w fun e w' => e = .returned (.bool (l.any p)) ∧ Below w.heap.size w w' := by
 have h0 : l.any p = decide (0 ≤ Lib.idxBy (fun _ y => p y) l default) := (Lib.idxBy_nonneg_iff (fun _ y => p y) l default).symm
 rw [h0]
 have H := Lib.hid (indexPt_any g lb eg p oa cap l w hr hbig hp)
 clear hp h0
 generalize Lib.idxBy (fun _ y => p y) l default = r at *
 go_enter Tryz.func113, Tryz.ntmps113
 go_wp2_with fail
 refine H.out.mono ?_
 rintro e w1 ⟨rfl, hb1⟩
 have HB := Lib.hid hb1; clear hb1
 go_wp2_with fail
 go_ret
 exact ⟨rfl, HB.out⟩
set_option maxHeartbeats 1000000 in
theorem may1_any (p : PartS) (f : Nat) (hf : f < 6) (bf : Nat) (W : World) (hc : W.cell? ⟨bf, 0, none⟩ = some (.int .i64 f)) :
  Calls Tryz.prog 114 #[.agg (encPt p).toArray, .pointer (some ⟨bf, 0, none⟩)] W fun e w' => e = .returned (.bool (!mayPtS p f)) ∧ Below W.heap.size W w' := by
 have hb : bf < W.heap.size := World.block_lt_of_cell? W _ hc
 have hne : bf ≠ W.heap.size := by omega
 have HM := Lib.hid (fun V => mayPart_any p f hf V _ rfl)
 have HB := Lib.hid ((Below.refl W.heap.size W).alloc (Nat.le_refl _) (.cells (encPt p).toArray 115))
 unfold encPt at *
 generalize mayPtS p f = q at *
 obtain ⟨pf, pt, ps⟩ := p
 go_enter Tryz.func114, Tryz.ntmps114
 go_wp2_with fail
 refine (HM.out _).mono ?_
 rintro e w1 ⟨rfl, hb1⟩
 have HB1 := Lib.hid (HB.out.trans (hb1.mono HB.out.size))
 clear hb1
 go_wp2_with fail
 go_ret
 exact ⟨rfl, HB1.out⟩
theorem enters_may1 : ∀ args w, (callFunc 114 args).run Tryz.prog w = .ok (.enter 114 args) w := enters_of Tryz.func114 (by kernel_rfl) rfl
def mayDays : Int → List Int → Bool
 | _, [] => true
 | last, d :: t => if d ≤ last ∨ 7 < d then false else mayDays d t
def mayField (l : List PartS) (f : Nat) : Bool := decide (1 ≤ l.length) && (decide (l.length ≤ 4) && l.all fun p => mayPtS p f)
def mayFrom (fs : List (List PartS)) : Nat → Nat → Bool
 | _, 0 => true
 | i, n + 1 => mayField (fs.getD i []) i && mayFrom fs (i + 1) n
def mayCalS (days : List Int) (fs : List (List PartS)) : Bool := mayDays 0 days && mayFrom fs 0 6
structure CalRd (w : World) (cs : Array Value) (days : List Int) (fs : List (List PartS)) : Prop where
 size : cs.size = 7
 days : ∃ da dc, cs[0]? = some (.slice da days.length dc) ∧ RowRd (fun n : Int => [.int .i64 n]) 1 w da days
 fields : ∀ i, i < 6 → ∃ oa cap, cs[i + 1]? = some (.slice oa (fs.getD i []).length cap) ∧ RowRd encPt 3 w oa (fs.getD i [])
theorem CalRd.below {w w' : World} {cs : Array Value} {days : List Int} {fs : List (List PartS)} (h : CalRd w cs days fs) (hb : Below w.heap.size w w') : CalRd w' cs days fs :=
 ⟨h.size, by obtain ⟨a, b, c, d⟩ := h.days; exact ⟨a, b, c, d.below hb⟩, fun i hi => by obtain ⟨a, b, c, d⟩ := h.fields i hi; exact ⟨a, b, c, d.below hb⟩⟩
set_option maxHeartbeats 8000000 in
theorem calMay_any (cs : Array Value) (days : List Int) (fs : List (List PartS)) (w : World) (h : CalRd w cs days fs) (hd : days.length ≤ 1000000) (hf : ∀ i, (fs.getD i []).length ≤ 1000000000) (r : Bool) (hr : mayCalS days fs = r) :
  Calls Tryz.prog 86 #[.agg cs] w fun e w' => e = .returned (.bool r) ∧ Below w.heap.size w w' := by
 obtain ⟨c0, c1, c2, c3, c4, c5, c6, rfl⟩ : ∃ c0 c1 c2 c3 c4 c5 c6, cs = #[c0, c1, c2, c3, c4, c5, c6] := by
  obtain ⟨l⟩ := cs
  have := h.size
  match l, this with
  | [a0, a1, a2, a3, a4, a5, a6], _ => exact ⟨a0, a1, a2, a3, a4, a5, a6, rfl⟩
 obtain ⟨da, dc, hd0, hdr⟩ := h.days
 obtain rfl : c0 = .slice da days.length dc := by simpa using hd0
 obtain ⟨o1, k1, e1, r1⟩ := h.fields 0 (by omega)
 obtain ⟨o2, k2, e2, r2⟩ := h.fields 1 (by omega)
 obtain ⟨o3, k3, e3, r3⟩ := h.fields 2 (by omega)
 obtain ⟨o4, k4, e4, r4⟩ := h.fields 3 (by omega)
 obtain ⟨o5, k5, e5, r5⟩ := h.fields 4 (by omega)
 obtain ⟨o6, k6, e6, r6⟩ := h.fields 5 (by omega)
 obtain rfl : c1 = .slice o1 (fs.getD 0 []).length k1 := by simpa using e1
 obtain rfl : c2 = .slice o2 (fs.getD 1 []).length k2 := by simpa using e2
 obtain rfl : c3 = .slice o3 (fs.getD 2 []).length k3 := by simpa using e3
 obtain rfl : c4 = .slice o4 (fs.getD 3 []).length k4 := by simpa using e4
 obtain rfl : c5 = .slice o5 (fs.getD 4 []).length k5 := by simpa using e5
 obtain rfl : c6 = .slice o6 (fs.getD 5 []).length k6 := by simpa using e6
 clear hd0 e1 e2 e3 e4 e5 e6 r1 r2 r3 r4 r5 r6
 obtain ⟨n1, hn1⟩ : ∃ n, n = (fs.getD 0 []).length := ⟨_, rfl⟩
 obtain ⟨n2, hn2⟩ : ∃ n, n = (fs.getD 1 []).length := ⟨_, rfl⟩
 obtain ⟨n3, hn3⟩ : ∃ n, n = (fs.getD 2 []).length := ⟨_, rfl⟩
 obtain ⟨n4, hn4⟩ : ∃ n, n = (fs.getD 3 []).length := ⟨_, rfl⟩
 obtain ⟨n5, hn5⟩ : ∃ n, n = (fs.getD 4 []).length := ⟨_, rfl⟩
 obtain ⟨n6, hn6⟩ : ∃ n, n = (fs.getD 5 []).length := ⟨_, rfl⟩
 rw [← hn1, ← hn2, ← hn3, ← hn4, ← hn5, ← hn6] at h ⊢
 have HH := Lib.hid h; have HDR := Lib.hid hdr; have HF := Lib.hid hf; have HRR := Lib.hid hr
 let CV : Array Value := #[.slice da days.length dc, .slice o1 n1 k1, .slice o2 n2 k2, .slice o3 n3 k3, .slice o4 n4 k4, .slice o5 n5 k5, .slice o6 n6 k6]
 have HC := Lib.hid (show (w.alloc (.cells CV 67)).heap[w.heap.size]? = some (.cells CV 67 (0, 0)) from heap_alloc_new w _)
 have HB := Lib.hid ((Below.refl w.heap.size w).alloc (Nat.le_refl _) (.cells CV 67))
 clear h hdr hf hr hn1 hn2 hn3 hn4 hn5 hn6
 go_enter Tryz.func86, Tryz.ntmps86
 go_wp2_with fail
 obtain ⟨C, hCw⟩ : ∃ C, C = w.heap.size := ⟨_, rfl⟩
 have HCw := Lib.hid hCw
 change Hid ((w.alloc (.cells #[.slice da days.length dc, .slice o1 n1 k1, .slice o2 n2 k2, .slice o3 n3 k3, .slice o4 n4 k4, .slice o5 n5 k5, .slice o6 n6 k6] 67)).heap[w.heap.size]? = _) at HC
 change Hid (Below w.heap.size w (w.alloc (.cells #[.slice da days.length dc, .slice o1 n1 k1, .slice o2 n2 k2, .slice o3 n3 k3, .slice o4 n4 k4, .slice o5 n5 k5, .slice o6 n6 k6] 67))) at HB
 have HDR1 := Lib.hid (HDR.out.below HB.out); have HH1 := Lib.hid (HH.out.below HB.out)
 rw [← hCw] at HC ⊢
 clear HDR HH hCw
 generalize w.alloc (.cells #[.slice da days.length dc, .slice o1 n1 k1, .slice o2 n2 k2, .slice o3 n3 k3, .slice o4 n4 k4, .slice o5 n5 k5, .slice o6 n6 k6] 67) = w1 at *
 go_loopg [3, 11] (days.length + 1) (fun f last i wr => ∃ (k : Nat) (z : Int), k ≤ days.length ∧ last = .int .i64 z ∧ i = .int .i64 k ∧ days.length - k < f ∧ wr = w1 ∧ Hid (mayDays z (days.drop k) = mayDays 0 days))
 case atStart => exact ⟨0, 0, by omega, rfl, rfl, by omega, rfl, rfl⟩
 case round =>
  obtain ⟨k, z, hk, rfl, rfl, hfu, rfl, HMD⟩ := hrel
  by_cases hlt : k < days.length
  ·have hz : (k : Int) < (days.length : Int) := by omega
   obtain ⟨b, o, rfl, -, hcc⟩ := HDR1.out k hlt
   have d0 := hcc 0 _ rfl
   simp only [Nat.add_zero, Nat.mul_one] at d0
   obtain ⟨d, hdd⟩ : ∃ d, d = days[k] := ⟨_, rfl⟩
   rw [← hdd] at d0
   have hdp : days.drop k = d :: days.drop (k + 1) := by rw [hdd]; exact List.drop_eq_getElem_cons hlt
   have hM := HMD.out
   rw [hdp, mayDays] at hM
   clear hcc hdd hdp HMD
   by_cases h1 : d ≤ z
   ·rw [if_pos (.inl h1)] at hM
    have HR := Lib.hid (show false = r by rw [← HRR.out]; unfold mayCalS; rw [← hM]; rfl)
    clear hM
    go_wp2_with fail
    go_ret
    exact ⟨by rw [← HR.out]; rfl, HB.out⟩
   ·by_cases h2 : 7 < d
    ·rw [if_pos (.inr h2)] at hM
     have HR := Lib.hid (show false = r by rw [← HRR.out]; unfold mayCalS; rw [← hM]; rfl)
     clear hM
     go_wp2_with fail
     go_ret
     exact ⟨by rw [← HR.out]; rfl, HB.out⟩
    ·rw [if_neg (by omega)] at hM
     have HM2 := Lib.hid hM
     clear hM
     go_wp2_with fail
     go_roundg (days.length - k)
     case measure => omega
     case rel => exact ⟨k + 1, d, by omega, rfl, by go_num, by omega, rfl, HM2⟩
  ·have hz : ¬ ((k : Int) < (days.length : Int)) := by omega
   have hM : mayDays 0 days = true := by rw [← HMD.out, List.drop_eq_nil_of_le (by omega)]; rfl
   have HRF := Lib.hid (show mayFrom fs 0 6 = r by rw [← HRR.out]; unfold mayCalS; rw [hM]; rfl)
   have HL := Lib.hid (lists_any C wr)
   clear hM HMD HDR1 hfu hk hlt
   go_wp2_with fail
   refine HL.out.mono ?_
   rintro e w2 ⟨rfl, hb2⟩
   have HC2 := Lib.hid (heap_below HC.out hb2)
   have HH2 := Lib.hid (HH1.out.below hb2)
   have HB2 := Lib.hid (HB.out.trans (hb2.mono HB.out.size))
   clear hb2 HL HC HH1 HB
   unfold listV at *
   go_wp2_with fail
   go_loopg [25] 7 (fun f i wr => ∃ k : Nat, k ≤ 6 ∧ i = .int .i64 k ∧ 6 - k < f ∧ Hid (Below w2.heap.size w2 wr) ∧ Hid (mayFrom fs k (6 - k) = r))
   case atStart => exact ⟨0, by omega, rfl, by omega, Below.refl _ _, HRF⟩
   case round =>
    obtain ⟨k, hk, rfl, hfu, HBW, HMF⟩ := hrel
    clear HRF
    by_cases hlt : k < 6
    ·have hz : (k : Int) < 6 := by omega
     have hidx := idx6 C k hlt wr
     unfold listV at hidx
     obtain ⟨oa, cap, hfk, hrow⟩ := HH2.out.fields k hlt
     have hC3 := heap_alloc (heap_below HC2.out HBW.out) (.cells #[.int .i64 k] 3)
     have hb3 : Below wr.heap.size wr (wr.alloc (.cells #[.int .i64 k] 3)) := (Below.refl _ _).alloc (Nat.le_refl _) _
     have HB3 := Lib.hid (HBW.out.trans (hb3.mono HBW.out.size))
     have hrow3 := hrow.below HB3.out
     have hmf : mayFrom fs k (6 - k) = (mayField (fs.getD k []) k && mayFrom fs (k + 1) (6 - (k + 1))) := by rw [show 6 - k = (6 - (k + 1)) + 1 by omega]; rfl
     have hM := HMF.out
     rw [hmf] at hM
     have hfl := HF.out k
     obtain ⟨l, hl⟩ : ∃ l, l = fs.getD k [] := ⟨_, rfl⟩
     rw [← hl] at hfk hrow3 hM hfl
     obtain ⟨cc, -, -, clt⟩ := rd hC3
     have d0 := cc (k + 1)
     rw [show CV[k + 1]? = _ from hfk] at d0
     have hcell : (wr.alloc (.cells #[.int .i64 k] 3)).cell? ⟨wr.heap.size, 0, none⟩ = some (.int .i64 k) := by simp
     have HCT := Lib.hid (containsPt_any 114 #[.pointer (some ⟨wr.heap.size, 0, none⟩)] enters_may1 (fun p => !mayPtS p k) oa cap l (wr.alloc (.cells #[.int .i64 k] 3)) hrow3 hfl (fun V j hj hV =>
      (may1_any l[j] k hlt wr.heap.size V ((hV.cell (p := ⟨wr.heap.size, 0, none⟩) (by simp)).trans hcell)).mono fun e w' ⟨a, q⟩ => ⟨a, hV.trans (q.mono hV.size)⟩))
     have hclt : C ≠ wr.heap.size := by have := lt_heap (heap_below HC2.out HBW.out); omega
     clear hC3 hb3 hrow3 hmf hfk hrow cc clt HMF hl hcell
     unfold mayField at hM
     have hany : (l.all fun p => mayPtS p k) = !(l.any fun p => !mayPtS p k) := by rw [List.all_eq_not_any_not]
     rw [hany] at hM
     generalize (l.any fun p => !mayPtS p k) = q at *
     generalize hn : l.length = n at *
     clear hany hn
     by_cases h1 : n < 1
     ·have hz1 : (n : Int) < 1 := by omega
      have HR := Lib.hid (show false = r by rw [← hM]; simp; omega)
      clear hM HCT
      go_wp2_with fail
      go_ret
      exact ⟨by rw [← HR.out]; rfl, HB2.out.trans (HB3.out.mono HB2.out.size)⟩
     ·have hz1 : ¬ ((n : Int) < 1) := by omega
      by_cases h2 : 4 < n
      ·have hz2 : (n : Int) > 4 := by omega
       have hz3 : (4 : Int) < n := by omega
       have HR := Lib.hid (show false = r by rw [← hM]; simp; omega)
       clear hM HCT
       go_wp2_with fail
       go_ret
       exact ⟨by rw [← HR.out]; rfl, HB2.out.trans (HB3.out.mono HB2.out.size)⟩
      ·have hz2 : ¬ ((n : Int) > 4) := by omega
       have hz3 : ¬ ((4 : Int) < n) := by omega
       have HM2 := Lib.hid (show (!q && mayFrom fs (k + 1) (6 - (k + 1))) = r by
        rw [← hM, decide_eq_true (show 1 ≤ n by omega), decide_eq_true (show n ≤ 4 by omega)]; simp)
       clear hM
       cases q with
       | true =>
        have HR := Lib.hid (show false = r by rw [← HM2.out]; rfl)
        go_wp2_with fail
        refine HCT.out.mono ?_
        rintro e w4 ⟨rfl, hb4⟩
        have HB4 := Lib.hid (HB3.out.trans (hb4.mono HB3.out.size))
        clear hb4 HCT
        go_wp2_with fail
        go_ret
        exact ⟨by rw [← HR.out]; rfl, HB2.out.trans (HB4.out.mono HB2.out.size)⟩
       | false =>
        have HM3 := Lib.hid (show mayFrom fs (k + 1) (6 - (k + 1)) = r by rw [← HM2.out]; rfl)
        go_wp2_with fail
        refine HCT.out.mono ?_
        rintro e w4 ⟨rfl, hb4⟩
        have HB4 := Lib.hid (HB3.out.trans (hb4.mono HB3.out.size))
        clear hb4 HCT
        go_wp2_with fail
        go_roundg (6 - k)
        case measure => omega
        case rel => exact ⟨k + 1, by omega, by go_num, by omega, HB4, HM3⟩
    ·have hz : ¬ ((k : Int) < 6) := by omega
     have HR := Lib.hid (show true = r by rw [← HMF.out, show 6 - k = 0 by omega]; rfl)
     go_wp2_with fail
     go_ret
     exact ⟨by rw [← HR.out]; rfl, HB2.out.trans (HBW.out.mono HB2.out.size)⟩
end Go.Proofs.YtdpnahojhmkemaaGreatDoor
namespace Go.Proofs.YtdpnahojhmkemaaGreatDoor
open Go Go.RowKit
set_option linter.unusedVariables false
set_option linter.unusedSimpArgs false
set_option maxRecDepth 100000
theorem splitK_one (c : UInt8) : ∀ (k : Nat) (s : Str), s.count c = k → Lib.splitK [c] 0 k s = splitC c s
 | 0, s, h => by
  have : ∀ x ∈ s, x ≠ c := by
   rintro x hx rfl
   exact absurd h (by rw [List.count_eq_zero]; exact fun h => h hx)
  rw [splitC_one c s this]; rfl
 | k + 1, s, h => by
  rcases ib_cases c s with ⟨h1, h2⟩ | ⟨i, a, b, h1, h2, h3, h4⟩
  ·have : s.count c = 0 := by rw [List.count_eq_zero]; exact fun hx => h2 c hx rfl
   omega
  ·have hix : Lib.index s [c] = (i : Int) := by rw [Lib.index_one]; exact h1
   have hne : ¬ (Lib.index s [c] == -1) = true := by rw [hix]; simp
   have hcb : b.count c = k := by
    rw [h2, List.count_append, List.count_cons] at h
    have h0 : a.count c = 0 := by rw [List.count_eq_zero]; exact fun hx => h4 c hx rfl
    simp at h
    omega
   unfold Lib.splitK
   rw [if_neg hne, hix]
   have e1 : s.take ((i : Int).toNat + 0) = a := by rw [h2]; simp [← h3]
   have e2 : s.drop ((i : Int).toNat + [c].length) = b := by rw [h2]; simp [← h3]
   rw [e1, e2, splitK_one c k b hcb, h2, splitC_app c a b h4]
theorem splitB_one (c : UInt8) (s : ByteArray) : (Lib.splitB ⟨#[c]⟩ 0 (Lib.countB s ⟨#[c]⟩) s).map Value.string = strVals (splitC c s.data.toList) ∧ Lib.countB s ⟨#[c]⟩ + 1 = (splitC c s.data.toList).length := by
 have hcb : Lib.countB s ⟨#[c]⟩ = s.data.toList.count c := by
  rw [← Lib.count_one c]
 have hd := Lib.splitB_data ⟨#[c]⟩ 0 (Lib.countB s ⟨#[c]⟩) s
 rw [show (⟨#[c]⟩ : ByteArray).data.toList = [c] from rfl, splitK_one c _ _ hcb.symm] at hd
 refine ⟨?_, ?_⟩
 ·rw [← hd]
  unfold strVals
  rw [List.map_map]
  rfl
 ·have := Lib.splitB_all ⟨#[c]⟩ (by show 1 ≤ 1; omega) 0 _ s rfl
  rw [← this, ← hd, List.length_map]
theorem splitStr_any (c : UInt8) (s : Str) (w : World) (hs : s.length ≤ 1000000000) (hM : MaxAt w) :
  Calls Tryz.prog 75 #[.string ⟨s.toArray⟩, .string ⟨#[c]⟩] w fun e w' => e = .returned (.slice (some ⟨w.heap.size, 0, none⟩) (splitC c s).length (splitC c s).length) ∧ w' = w.alloc (.cells (strVals (splitC c s)).toArray 9) := by
 obtain ⟨m, hm⟩ := hM
 have h1 := Tryz.strings_Split ⟨s.toArray⟩ ⟨#[c]⟩ m w (by show s.toArray.size < _; simp; omega) hm (by show 1 ≤ 1; omega)
 obtain ⟨h2, h3⟩ := splitB_one c ⟨s.toArray⟩
 have e : (⟨s.toArray⟩ : ByteArray).data.toList = s := rfl
 rw [e] at h2 h3
 refine h1.mono ?_
 rintro e w' ⟨rfl, rfl⟩
 exact ⟨by rw [h3], by rw [h2]⟩
theorem splitStr_row (w : World) (l : List Str) : StrRow (w.alloc (.cells (strVals l).toArray 9)) (some ⟨w.heap.size, 0, none⟩) l := by
 intro i hi
 refine ⟨w.heap.size, 0, rfl, ?_⟩
 rw [(rd (heap_alloc_new w (.cells (strVals l).toArray 9))).1, List.getElem?_toArray, strVals, List.getElem?_map, Nat.zero_add, List.getElem?_eq_getElem hi]
 rfl
end Go.Proofs.YtdpnahojhmkemaaGreatDoor
namespace Go.Proofs.YtdpnahojhmkemaaGreatDoor
set_option linter.unusedVariables false
def cDate (t : Str × List Str × Bool) : Str := if t.2.2 = true then t.1 else [42, 45, 42, 45, 42]
def cClock (t : Str × List Str × Bool) : Str := if t.2.2 = true then (if Go.Lib.countByte t.1 58 = 1 then t.1 ++ [58, 48, 48] else t.1) else [48, 48, 58, 48, 48, 58, 48, 48]
def cDays (t : Str × List Str × Bool) : Option (List Int) := if t.2.2 = true then workS t.1 else some []
def calOf (ds : Option (List Int)) (rest : List Str) (d t : List Str) : Option (List Int × List (List PartS)) :=
 match ds with
 | none => none
 | some days =>
  if 0 < rest.length then none
  else if d.length ≠ 3 then none
  else if t.length ≠ 3 then none
  else match fillS d with
   | none => none
   | some fd => match fillS t with
    | none => none
    | some ft => if mayCalS days (fd ++ ft) = true then some (days, fd ++ ft) else none
def calS (s : Str) : Option (List Int × List (List PartS)) :=
 if 400 < s.length then none
 else calOf (cDays (takeS letP (splitC 32 (nmS s)))) (takeS (hasC 58) (takeS (hasC 45) (takeS letP (splitC 32 (nmS s))).2.1).2.1).2.1
  (splitC 45 (cDate (takeS (hasC 45) (takeS letP (splitC 32 (nmS s))).2.1))) (splitC 58 (cClock (takeS (hasC 58) (takeS (hasC 45) (takeS letP (splitC 32 (nmS s))).2.1).2.1)))
theorem takeS_cons (p : Str → Bool) (x : Str) (t : List Str) : takeS p (x :: t) = if p x = true then (x, t, true) else ([], x :: t, false) := rfl
theorem takeS_no (p : Str → Bool) (l : List Str) (h : (takeS p l).2.2 = false) : (takeS p l).2.1 = l := by
 cases l with
 | nil => rfl
 | cons x t =>
  rw [takeS_cons] at h ⊢
  cases hp : p x with
  | true => rw [hp] at h; simp at h
  | false => simp
theorem takeS_mem (p : Str → Bool) (l : List Str) (n : Nat) (h : ∀ x ∈ l, x.length ≤ n) : (takeS p l).1.length ≤ n ∧ (∀ x ∈ (takeS p l).2.1, x.length ≤ n) ∧ (takeS p l).2.1.length ≤ l.length := by
 cases l with
 | nil => exact ⟨by simp [takeS], by simp [takeS], by simp [takeS]⟩
 | cons x t =>
  rw [takeS_cons]
  cases hp : p x with
  | true => exact ⟨h x (by simp), fun y hy => h y (List.mem_cons_of_mem _ hy), by simp⟩
  | false => exact ⟨by simp, h, Nat.le_refl _⟩
theorem fillS_each (n : Nat) : ∀ (l : List Str) (ps : List (List PartS)), fillS l = some ps → (∀ x ∈ l, x.length ≤ n) → ∀ p ∈ ps, p.length ≤ n + 1
 | [], ps, h, hm, p, hp => by simp [fillS] at h; subst h; simp at hp
 | x :: t, ps, h, hm, p, hp => by
  rw [fillS] at h
  cases hx : ptsS x with
  | none => rw [hx] at h; simp at h
  | some q =>
   rw [hx] at h
   cases hr : fillS t with
   | none => rw [hr] at h; simp at h
   | some r =>
    rw [hr] at h
    simp at h
    subst h
    rcases List.mem_cons.1 hp with rfl | hp
    ·have := partsL_len _ _ hx
     have h2 := splitC_len 44 x
     have h3 := hm x (by simp)
     omega
    ·exact fillS_each n t r hr (fun y hy => hm y (List.mem_cons_of_mem _ hy)) p hp
theorem fill2_each (n : Nat) (a b : List Str) (fa fb : List (List PartS)) (ha : fillS a = some fa) (hb : fillS b = some fb) (hm : ∀ x ∈ a, x.length ≤ n) (hk : ∀ x ∈ b, x.length ≤ n) (i : Nat) : ((fa ++ fb).getD i []).length ≤ n + 1 := by
 rw [List.getD_eq_getElem?_getD]
 cases h : (fa ++ fb)[i]? with
 | none => simp
 | some p =>
  rcases List.mem_append.1 (List.mem_of_getElem? h) with h1 | h1
  ·exact fillS_each n a fa ha hm p h1
  ·exact fillS_each n b fb hb hk p h1
theorem workS_len (s : Str) (l : List Int) (h : workS s = some l) : l.length ≤ 8 := by
 unfold workS at h
 cases hw : workL (splitC 44 s) noDays with
 | none => rw [hw] at h; simp at h
 | some m => rw [hw] at h; simp at h; subst h; exact daysTo_len m 8
theorem cDays_len (t : Str × List Str × Bool) (l : List Int) (h : cDays t = some l) : l.length ≤ 8 := by
 unfold cDays at h
 split at h
 ·exact workS_len _ _ h
 ·cases h; simp
end Go.Proofs.YtdpnahojhmkemaaGreatDoor
namespace Go.Proofs.YtdpnahojhmkemaaGreatDoor
open Go
set_option linter.unusedVariables false
set_option linter.unusedSimpArgs false
abbrev StR := Nat × List Int × List Str
def stepT (s : StR) (w : Str) : Option StR :=
 if (splitC 45 w).length = 3 ∧ s.1 < 2 then some (2, s.2.1, splitC 45 w ++ s.2.2.drop 3)
 else if ((splitC 58 w).length = 2 ∨ (splitC 58 w).length = 3) ∧ s.1 < 3 then some (3, s.2.1, s.2.2.take 3 ++ splitC 58 w ++ s.2.2.drop (3 + (splitC 58 w).length))
 else none
def stepR (s : StR) (w : Str) : Option StR :=
 match workS w with
 | none => stepT s w
 | some d => if s.1 < 1 then some (1, d, s.2.2) else stepT s w
def foldR : List Str → StR → Option StR
 | [], s => some s
 | w :: t, s => match stepR s w with
  | none => none
  | some r => foldR t r
def fields0 : List Str := [[42], [42], [42], [48, 48], [48, 48], [48, 48]]
def partD (x : Str) : List PartS := (ptsS x).getD []
def endR : Option StR → Bool
 | none => false
 | some r => mayCalS r.2.1 (r.2.2.map partD)
def calB (s : Str) : Bool :=
 if 400 < s.length then false
 else if 3 < (splitC 32 (nmS s)).length then false
 else endR (foldR (splitC 32 (nmS s)) (0, [], fields0))
def okC (c : UInt8) : Bool := isDigit c || (c == 42 || (c == 46 || (c == 47 || c == 44)))
theorem numC_ok (s : Str) (h : (numC s).2 = true) : ∀ c ∈ s, okC c = true := by
 unfold numC at h
 split at h
 ·rename_i hl
  obtain ⟨-, -, h2⟩ := longB_true hl
  rw [List.all_eq_true] at h2
  intro c hc
  unfold okC
  rw [h2 c hc]; rfl
 ·cases h
theorem cutB (w : Str) (h : (Lib.cut w [46, 46]).2.2 = true) : w = (Lib.cut w [46, 46]).1 ++ [46, 46] ++ (Lib.cut w [46, 46]).2.1 := cut_back w h
theorem body_ok (a : Str) (st : Int) (h : bodyS a st ≠ none) : ∀ c ∈ a, okC c = true := by
 unfold bodyS at h
 split at h
 ·rename_i e; subst e; decide
 ·split at h
  ·exact absurd rfl h
  ·rename_i h1
   have h1' : (numC (Lib.cut a [46, 46]).1).2 = true := by cases hq : (numC (Lib.cut a [46, 46]).1).2 with | true => rfl | false => exact absurd hq h1
   split at h
   ·rename_i h2
    split at h
    ·rename_i h3
     intro c hc
     rw [cutB a h2] at hc
     rcases List.mem_append.1 hc with hc | hc
     ·rcases List.mem_append.1 hc with hc | hc
      ·exact numC_ok _ h1' c hc
      ·have : c = 46 := by simpa using hc
       subst this; decide
     ·exact numC_ok _ h3 c hc
    ·exact absurd rfl h
   ·rename_i h2
    have h2' : (Lib.cut a [46, 46]).2.2 = false := by cases hq : (Lib.cut a [46, 46]).2.2 with | true => exact absurd hq h2 | false => rfl
    intro c hc
    rw [cut_same a h2'] at hc
    exact numC_ok _ h1' c hc
theorem splitC_bytes (c : UInt8) : ∀ (s : Str) (p : UInt8 → Bool), p c = true → (∀ x ∈ splitC c s, ∀ b ∈ x, p b = true) → ∀ b ∈ s, p b = true
 | [], p, hp, h, b, hb => by simp at hb
 | y :: t, p, hp, h, b, hb => by
  rw [splitC] at h
  by_cases hy : y = c
  ·rw [if_pos hy] at h
   rcases List.mem_cons.1 hb with rfl | hb
   ·rw [hy]; exact hp
   ·exact splitC_bytes c t p hp (fun x hx => h x (List.mem_cons_of_mem _ hx)) b hb
  ·rw [if_neg hy] at h
   cases hs : splitC c t with
   | nil => exact absurd hs (splitC_ne c t)
   | cons u r =>
    rw [hs] at h
    unfold consHd at h
    rcases List.mem_cons.1 hb with rfl | hb
    ·exact h (b :: u) (by simp) b (by simp)
    ·refine splitC_bytes c t p hp (fun x hx d hd => ?_) b hb
     rw [hs] at hx
     rcases List.mem_cons.1 hx with rfl | hx
     ·exact h (y :: x) (by simp) d (List.mem_cons_of_mem _ hd)
     ·exact h x (List.mem_cons_of_mem _ hx) d hd
theorem part_ok (x : Str) (h : partS x ≠ none) : ∀ c ∈ x, okC c = true := by
 rw [part_split] at h
 refine splitC_bytes 47 x okC (by decide) ?_
 generalize splitC 47 x = l at h
 match l, h with
 | [], h => exact absurd rfl h
 | [a], h =>
  intro y hy c hc
  have : y = a := by simpa using hy
  subst this
  exact body_ok _ _ h c hc
 | [a, b], h =>
  have h' : (if (numC b).2 = false ∨ (numC b).1 = 0 then none else bodyS a (numC b).1) ≠ none := h
  split at h'
  ·exact absurd rfl h'
  ·rename_i hb
   intro y hy c hc
   rcases List.mem_cons.1 hy with rfl | hy
   ·exact body_ok _ _ h' c hc
   ·have : y = b := by simpa using hy
    subst this
    exact numC_ok _ (by cases hq : (numC y).2 with | true => rfl | false => exact absurd (.inl hq) hb) c hc
 | a :: b :: c :: t, h => exact absurd rfl h
theorem partsL_each : ∀ (l : List Str), partsL l ≠ none → ∀ x ∈ l, partS x ≠ none
 | [], h, x, hx => by simp at hx
 | y :: t, h, x, hx => by
  rw [partsL] at h
  cases hp : partS y with
  | none => rw [hp] at h; exact absurd rfl h
  | some p =>
   rw [hp] at h
   rcases List.mem_cons.1 hx with rfl | hx
   ·rw [hp]; simp
   ·exact partsL_each t (fun e => by rw [e] at h; exact absurd rfl h) x hx
theorem pts_ok (y : Str) (h : ptsS y ≠ none) : ∀ c ∈ y, okC c = true :=
 splitC_bytes 44 y okC (by decide) (fun x hx => part_ok x (partsL_each _ h x hx))
theorem pts_bad (y : Str) (c : UInt8) (hc : c ∈ y) (hk : okC c = false) : partD y = [] := by
 unfold partD
 cases h : ptsS y with
 | none => rfl
 | some p => have := pts_ok y (by rw [h]; simp) c hc; rw [hk] at this; cases this
theorem may_bad (ds : List Int) (fs : List (List PartS)) (i : Nat) (hi : i < 6) (h : fs.getD i [] = []) : mayCalS ds fs = false := by
 unfold mayCalS
 have : mayFrom fs 0 6 = false := by
  have hb : mayField (fs.getD i []) i = false := by rw [h]; rfl
  match i, hi, hb with
  | 0, _, hb => simp only [mayFrom, hb, Bool.false_and, Bool.and_false]
  | 1, _, hb => simp only [mayFrom, Nat.zero_add, hb, Bool.false_and, Bool.and_false]
  | 2, _, hb => simp only [mayFrom, Nat.zero_add, Nat.reduceAdd, hb, Bool.false_and, Bool.and_false]
  | 3, _, hb => simp only [mayFrom, Nat.zero_add, Nat.reduceAdd, hb, Bool.false_and, Bool.and_false]
  | 4, _, hb => simp only [mayFrom, Nat.zero_add, Nat.reduceAdd, hb, Bool.false_and, Bool.and_false]
  | 5, _, hb => simp only [mayFrom, Nat.zero_add, Nat.reduceAdd, hb, Bool.false_and, Bool.and_false]
 rw [this, Bool.and_false]
theorem map_bad (ds : List Int) (fl : List Str) (i : Nat) (hi : i < 6) (x : Str) (hx : fl[i]? = some x) (h : partD x = []) : mayCalS ds (fl.map partD) = false := by
 refine may_bad ds _ i hi ?_
 rw [List.getD_eq_getElem?_getD, List.getElem?_map, hx]
 exact h
theorem fillS_some : ∀ (l : List Str) (fd : List (List PartS)), fillS l = some fd → fd = l.map partD
 | [], fd, h => by simp [fillS] at h; subst h; rfl
 | x :: t, fd, h => by
  rw [fillS] at h
  cases hx : ptsS x with
  | none => rw [hx] at h; cases h
  | some p =>
   rw [hx] at h
   cases hr : fillS t with
   | none => rw [hr] at h; cases h
   | some r =>
    rw [hr] at h
    cases h
    rw [fillS_some t r hr, List.map_cons]
    unfold partD
    rw [hx]; rfl
theorem fillS_none2 : ∀ (l : List Str), fillS l = none → ∃ (i : Nat) (x : Str), l[i]? = some x ∧ partD x = []
 | [], h => by simp [fillS] at h
 | x :: t, h => by
  rw [fillS] at h
  cases hx : ptsS x with
  | none => exact ⟨0, x, rfl, by unfold partD; rw [hx]; rfl⟩
  | some p =>
   rw [hx] at h
   cases hr : fillS t with
   | none =>
    obtain ⟨i, y, h1, h2⟩ := fillS_none2 t hr
    exact ⟨i + 1, y, by simpa using h1, h2⟩
   | some r => rw [hr] at h; cases h
theorem fill_may (ds : List Int) (d t : List Str) (hd : d.length = 3) (ht : t.length = 3) :
  (calOf (some ds) [] d t).isSome = mayCalS ds ((d ++ t).map partD) := by
 unfold calOf
 simp only [List.length_nil, Nat.lt_irrefl, if_false, hd, ht, ne_eq, not_true_eq_false]
 cases h1 : fillS d with
 | none =>
  obtain ⟨i, x, hx, hp⟩ := fillS_none2 d h1
  have hi : i < 3 := by
   rcases Nat.lt_or_ge i d.length with h | h
   ·omega
   ·rw [List.getElem?_eq_none h] at hx; cases hx
  rw [map_bad ds _ i (by omega) x (by rw [List.getElem?_append_left (by omega)]; exact hx) hp]
  rfl
 | some fd =>
  cases h2 : fillS t with
  | none =>
   obtain ⟨i, x, hx, hp⟩ := fillS_none2 t h2
   have hi : i < 3 := by
    rcases Nat.lt_or_ge i t.length with h | h
    ·omega
    ·rw [List.getElem?_eq_none h] at hx; cases hx
   rw [map_bad ds _ (3 + i) (by omega) x (by rw [List.getElem?_append_right (by omega), hd, Nat.add_sub_cancel_left]; exact hx) hp]
   rfl
  | some ft =>
   rw [List.map_append, ← fillS_some d fd h1, ← fillS_some t ft h2]
   simp only
   cases mayCalS ds (fd ++ ft) <;> rfl
theorem hasC_iff (c : UInt8) (s : Str) : hasC c s = true ↔ c ∈ s := by
 unfold hasC
 rcases ib_cases c s with ⟨h1, h2⟩ | ⟨i, a, b, h1, h2, h3, h4⟩
 ·rw [h1]
  constructor
  ·intro h; simp at h
  ·intro h; exact absurd rfl (h2 c h)
 ·rw [h1, h2]; simp
theorem splitC_no (c : UInt8) (s : Str) (h : hasC c s = false) : splitC c s = [s] :=
 splitC_one c s (fun x hx e => by subst e; rw [(hasC_iff x s).2 hx] at h; cases h)
theorem splitC_cat (c : UInt8) : ∀ (a b : Str), splitC c (a ++ c :: b) = splitC c a ++ splitC c b
 | [], b => by simp [splitC]
 | x :: t, b => by
  rw [List.cons_append, splitC, splitC, splitC_cat c t b]
  by_cases hx : x = c
  ·rw [if_pos hx, if_pos hx]; rfl
  ·rw [if_neg hx, if_neg hx]
   cases h : splitC c t with
   | nil => exact absurd h (splitC_ne c t)
   | cons u r => rfl
theorem splitC_count (c : UInt8) : ∀ (s : Str), (splitC c s).length = s.count c + 1
 | [] => rfl
 | x :: t => by
  have ih := splitC_count c t
  rw [splitC]
  by_cases hx : x = c
  ·rw [if_pos hx, hx, List.count_cons_self, List.length_cons, ih]
  ·rw [if_neg hx, List.count_cons_of_ne (by simpa using hx), ← ih]
   cases h : splitC c t with
   | nil => exact absurd h (splitC_ne c t)
   | cons u r => rfl
end Go.Proofs.YtdpnahojhmkemaaGreatDoor
namespace Go.Proofs.YtdpnahojhmkemaaGreatDoor
open Go
set_option linter.unusedVariables false
set_option linter.unusedSimpArgs false
theorem stepR_late (st : Nat) (h : ¬ st < 1) (ds : List Int) (fl : List Str) (w : Str) : stepR (st, ds, fl) w = stepT (st, ds, fl) w := by
 unfold stepR
 cases workS w with
 | none => rfl
 | some d => simp only; rw [if_neg h]
theorem stepT_three (ds : List Int) (fl : List Str) (w : Str) : stepT (3, ds, fl) w = none := by
 unfold stepT
 rw [if_neg (by simp), if_neg (by simp)]
theorem foldR_three (ds : List Int) (fl : List Str) (w : Str) (t : List Str) : foldR (w :: t) (3, ds, fl) = none := by
 rw [foldR, stepR_late 3 (by decide), stepT_three]
theorem stepT_time (st : Nat) (h3 : st < 3) (ds : List Int) (fl : List Str) (w : Str) (hd : ¬ ((splitC 45 w).length = 3 ∧ st < 2)) :
  stepT (st, ds, fl) w = if (splitC 58 w).length = 2 ∨ (splitC 58 w).length = 3 then some (3, ds, fl.take 3 ++ splitC 58 w ++ fl.drop (3 + (splitC 58 w).length)) else none := by
 unfold stepT
 rw [if_neg hd]
 by_cases h : (splitC 58 w).length = 2 ∨ (splitC 58 w).length = 3
 ·rw [if_pos ⟨h, h3⟩, if_pos h]
 ·rw [if_neg (fun e => h e.1), if_neg h]
abbrev z3 : List Str := [[48, 48], [48, 48], [48, 48]]
theorem takeS_nil (p : Str → Bool) : takeS p [] = ([], [], false) := rfl
theorem calOf_rest (ds : Option (List Int)) (y : Str) (r : List Str) (d t : List Str) : calOf ds (y :: r) d t = none := by
 unfold calOf
 cases ds with
 | none => rfl
 | some l => simp
theorem calOf_date (ds : Option (List Int)) (rest : List Str) (d t : List Str) (h : d.length ≠ 3) : calOf ds rest d t = none := by
 unfold calOf
 cases ds with
 | none => rfl
 | some l =>
  simp only
  split
  ·rfl
  ·simp [h]
theorem calOf_clock (ds : Option (List Int)) (rest : List Str) (d t : List Str) (h : t.length ≠ 3) : calOf ds rest d t = none := by
 unfold calOf
 cases ds with
 | none => rfl
 | some l =>
  simp only
  split
  ·rfl
  ·split
   ·rfl
   ·simp [h]
theorem clock_end (st : Nat) (h1 : ¬ st < 1) (h3 : st < 3) (ds : List Int) (d3 : List Str) (hd3 : d3.length = 3) (m : List Str) (hm : st = 2 ∨ ∀ y t, m = y :: t → hasC 45 y = false) :
  endR (foldR m (st, ds, d3 ++ z3)) = (calOf (some ds) (takeS (hasC 58) m).2.1 d3 (splitC 58 (cClock (takeS (hasC 58) m)))).isSome := by
 cases m with
 | nil =>
  rw [takeS_nil]
  have : splitC 58 (cClock (([] : Str), ([] : List Str), false)) = z3 := by decide
  rw [this, fill_may ds d3 z3 hd3 rfl]
  rfl
 | cons z m' =>
  have hdn : ¬ ((splitC 45 z).length = 3 ∧ st < 2) := by
   rintro ⟨h4, h5⟩
   rcases hm with rfl | hm
   ·omega
   ·rw [splitC_no 45 z (hm z m' rfl)] at h4; simp at h4
  rw [foldR, stepR_late st h1, stepT_time st h3 _ _ _ hdn, takeS_cons]
  cases hz : hasC 58 z with
  | false =>
   rw [splitC_no 58 z hz]
   simp only [List.length_singleton, Bool.false_eq_true, if_false]
   rw [calOf_rest]
   rfl
  | true =>
   simp only [if_true]
   have hcnt := splitC_count 58 z
   have hpos : 1 ≤ z.count 58 := List.count_pos_iff.2 ((hasC_iff 58 z).1 hz)
   cases m' with
   | cons y t =>
    rw [calOf_rest]
    split
    ·rename_i h; split at h
     ·rfl
     ·rfl
    ·rename_i r h
     split at h
     ·cases h; rw [foldR_three]; rfl
     ·cases h
   | nil =>
    have hcc : cClock (z, ([] : List Str), true) = if z.count 58 = 1 then z ++ [58, 48, 48] else z := rfl
    rw [hcc]
    by_cases c1 : z.count 58 = 1
    ·rw [if_pos c1, if_pos (.inl (by omega)), show z ++ [58, 48, 48] = z ++ 58 :: [48, 48] from rfl, splitC_cat, show splitC 58 [48, 48] = [[48, 48]] from by decide,
      fill_may ds d3 _ hd3 (by rw [List.length_append]; simp; omega)]
     have e1 : (d3 ++ z3).take 3 = d3 := by rw [← hd3]; simp
     have e2 : (d3 ++ z3).drop (3 + (splitC 58 z).length) = [[48, 48]] := by
      rw [hcnt, c1, List.drop_append, hd3, List.drop_eq_nil_of_le (by omega)]; rfl
     simp only [foldR, endR]
     rw [e1, e2, List.append_assoc]
    ·rw [if_neg c1]
     by_cases c2 : z.count 58 = 2
     ·rw [if_pos (.inr (by omega)), fill_may ds d3 _ hd3 (by omega)]
      have e1 : (d3 ++ z3).take 3 = d3 := by rw [← hd3]; simp
      have e2 : (d3 ++ z3).drop (3 + (splitC 58 z).length) = [] := List.drop_eq_nil_of_le (by rw [hcnt, c2, List.length_append, hd3]; decide)
      simp only [foldR, endR]
      rw [e1, e2, List.append_nil]
     ·rw [if_neg (by omega), calOf_clock _ _ _ _ (by omega)]
      rfl
theorem piece_has (sep c : UInt8) (h : c ≠ sep) (s : Str) (hc : c ∈ s) : ∃ x ∈ splitC sep s, c ∈ x := by
 refine Classical.byContradiction fun hn => ?_
 have := splitC_bytes sep s (fun b => b != c) (by simpa using fun e => h e.symm) (fun x hx b hb => by
  simp only [bne_iff_ne, ne_eq]
  rintro rfl
  exact hn ⟨x, hx, hb⟩) c hc
 simp at this
theorem date_end (ds : List Int) (m : List Str) :
  endR (foldR m (1, ds, fields0)) = (calOf (some ds) (takeS (hasC 58) (takeS (hasC 45) m).2.1).2.1 (splitC 45 (cDate (takeS (hasC 45) m))) (splitC 58 (cClock (takeS (hasC 58) (takeS (hasC 45) m).2.1)))).isSome := by
 have hdef : splitC 45 [42, 45, 42, 45, 42] = [[42], [42], [42]] := by decide
 cases m with
 | nil =>
  have := clock_end 1 (by decide) (by decide) ds [[42], [42], [42]] rfl [] (.inr (fun y t e => by cases e))
  rw [takeS_nil] at this ⊢
  exact this
 | cons y m' =>
  rw [takeS_cons]
  cases hy : hasC 45 y with
  | false =>
   simp only [Bool.false_eq_true, if_false]
   have hcd : cDate (([] : Str), y :: m', false) = [42, 45, 42, 45, 42] := rfl
   rw [hcd, hdef]
   exact clock_end 1 (by decide) (by decide) ds [[42], [42], [42]] rfl (y :: m') (.inr (fun u t e => by cases e; exact hy))
  | true =>
   simp only [if_true]
   have hcd : cDate (y, m', true) = y := rfl
   rw [hcd]
   by_cases h3 : (splitC 45 y).length = 3
   ·rw [foldR, stepR_late 1 (by decide)]
    have : stepT (1, ds, fields0) y = some (2, ds, splitC 45 y ++ z3) := by
     unfold stepT
     rw [if_pos ⟨h3, (by omega : (1 : Nat) < 2)⟩]
     rfl
    rw [this]
    exact clock_end 2 (by decide) (by decide) ds (splitC 45 y) h3 m' (.inl rfl)
   ·rw [calOf_date _ _ _ _ h3, foldR, stepR_late 1 (by decide), stepT_time 1 (by decide) _ _ _ (fun e => h3 e.1)]
    by_cases h58 : (splitC 58 y).length = 2 ∨ (splitC 58 y).length = 3
    ·rw [if_pos h58]
     cases m' with
     | cons u t => simp only; rw [foldR_three]; rfl
     | nil =>
      obtain ⟨x, hx, hcx⟩ := piece_has 58 45 (by decide) y ((hasC_iff 45 y).1 hy)
      obtain ⟨i, hi, rfl⟩ := List.getElem_of_mem hx
      have hb := pts_bad _ 45 hcx (by decide)
      simp only [foldR, endR]
      refine map_bad ds _ (3 + i) (by omega) ((splitC 58 y)[i]) ?_ hb
      rw [List.getElem?_append_left (by simp [fields0]; omega), List.getElem?_append_right (by simp [fields0]),
       show 3 + i - (List.take 3 fields0).length = i by simp [fields0], List.getElem?_eq_getElem hi]
    ·rw [if_neg h58]; rfl
theorem okC_letter (c : UInt8) (h : isLetter c = true) : okC c = false := by
 rw [← Bool.not_eq_true]
 intro k
 simp only [isLetter, okC, isDigit, Bool.or_eq_true, Bool.and_eq_true, decide_eq_true_eq, UInt8.le_iff_toNat_le, beq_iff_eq, ← UInt8.toNat_inj] at h k
 simp at h k
 omega
theorem split_head (sep c : UInt8) (t : Str) (h : c ≠ sep) : ∃ u r, splitC sep (c :: t) = (c :: u) :: r := by
 rw [splitC, if_neg h]
 cases hs : splitC sep t with
 | nil => exact absurd hs (splitC_ne sep t)
 | cons u r => exact ⟨u, r, rfl⟩
theorem day_letters : ∀ x ∈ (allD 7 1).map (·.1), letP x = true := by decide +kernel
theorem workL_first (x : Str) (t : List Str) (m r : List Bool) (h : workL (x :: t) m = some r) : letP x = true := by
 rw [workL] at h
 cases hd : dayRange x with
 | none => rw [hd] at h; cases h
 | some p => exact day_letters x (range_in x _ _ _ rfl p hd)
theorem workS_letP (x : Str) (d : List Int) (h : workS x = some d) : letP x = true := by
 unfold workS at h
 cases hw : workL (splitC 44 x) noDays with
 | none => rw [hw] at h; cases h
 | some m =>
  match x, hw with
  | [], hw => exact absurd (workL_first [] [] noDays m hw) (by decide)
  | c :: t, hw =>
   by_cases hc : c = 44
   ·subst hc
    rw [splitC, if_pos rfl] at hw
    exact absurd (workL_first [] _ noDays m hw) (by decide)
   ·obtain ⟨u, r, hs⟩ := split_head 44 c t hc
    rw [hs] at hw
    exact workL_first (c :: u) r noDays m hw
theorem bad_first (x : Str) (l : List Str) (hx : letP x = true) (hw : workS x = none) : endR (foldR (x :: l) (0, [], fields0)) = false := by
 match x, hx with
 | c :: t, hx =>
  have hl : isLetter c = true := hx
  have hk := okC_letter c hl
  have h45 : c ≠ 45 := by rintro rfl; revert hl; decide
  have h58 : c ≠ 58 := by rintro rfl; revert hl; decide
  obtain ⟨u, r, hs⟩ := split_head 45 c t h45
  obtain ⟨u2, r2, hs2⟩ := split_head 58 c t h58
  have hb := pts_bad (c :: u) c (by simp) hk
  have hb2 := pts_bad (c :: u2) c (by simp) hk
  have hst : stepR (0, [], fields0) (c :: t) = stepT (0, [], fields0) (c :: t) := by unfold stepR; rw [hw]
  rw [foldR, hst]
  by_cases h3 : (splitC 45 (c :: t)).length = 3
  ·have : stepT (0, [], fields0) (c :: t) = some (2, [], splitC 45 (c :: t) ++ z3) := by
    unfold stepT
    rw [if_pos ⟨h3, by decide⟩]
    rfl
   rw [this, hs]
   rw [hs] at h3
   cases l with
   | nil =>
    simp only [foldR, endR]
    exact map_bad [] _ 0 (by decide) (c :: u) rfl hb
   | cons z l' =>
    simp only
    rw [foldR, stepR_late 2 (by decide), stepT_time 2 (by decide) _ _ _ (fun e => absurd e.2 (by decide))]
    split
    ·rfl
    ·rename_i q hq
     split at hq
     ·cases hq
      cases l' with
      | cons v t' => rw [foldR_three]; rfl
      | nil =>
       simp only [foldR, endR]
       refine map_bad [] _ 0 (by decide) (c :: u) ?_ hb
       simp
     ·cases hq
  ·rw [stepT_time 0 (by decide) _ _ _ (fun e => h3 e.1)]
   split
   ·rfl
   ·rename_i q hq
    split at hq
    ·cases hq
     cases l with
     | cons v t' => rw [foldR_three]; rfl
     | nil =>
      simp only [foldR, endR]
      refine map_bad [] _ 3 (by decide) (c :: u2) ?_ hb2
      rw [hs2]
      simp [fields0]
    ·cases hq
theorem takeS_len (p : Str → Bool) (l : List Str) : l.length ≤ (takeS p l).2.1.length + 1 := by
 cases l with
 | nil => simp [takeS]
 | cons x t => rw [takeS_cons]; split <;> simp
theorem cal_ref (s : Str) : calB s = (calS s).isSome := by
 unfold calB calS
 by_cases h4 : 400 < s.length
 ·rw [if_pos h4, if_pos h4]; rfl
 ·rw [if_neg h4, if_neg h4]
  have hne := splitC_ne 32 (nmS s)
  generalize splitC 32 (nmS s) = l at *
  by_cases h3 : 3 < l.length
  ·rw [if_pos h3]
   have e1 := takeS_len letP l
   have e2 := takeS_len (hasC 45) (takeS letP l).2.1
   have e3 := takeS_len (hasC 58) (takeS (hasC 45) (takeS letP l).2.1).2.1
   cases hr : (takeS (hasC 58) (takeS (hasC 45) (takeS letP l).2.1).2.1).2.1 with
   | nil => rw [hr] at e3; simp at e3; omega
   | cons y r => rw [calOf_rest]; rfl
  ·rw [if_neg h3]
   cases l with
   | nil => exact absurd rfl hne
   | cons x t =>
    rw [takeS_cons]
    cases hx : letP x with
    | true =>
     simp only [if_true]
     have hcd : cDays (x, t, true) = workS x := rfl
     rw [hcd]
     cases hw : workS x with
     | none =>
      rw [bad_first x t hx hw]
      unfold calOf
      rfl
     | some ds =>
      have : foldR (x :: t) (0, [], fields0) = foldR t (1, ds, fields0) := by
       rw [foldR]
       unfold stepR
       rw [hw]
       rfl
      rw [this]
      exact date_end ds t
    | false =>
     simp only [Bool.false_eq_true, if_false]
     have hcd : cDays (([] : Str), x :: t, false) = some [] := rfl
     rw [hcd]
     have hw : workS x = none := by
      cases hw : workS x with
      | none => rfl
      | some d => rw [workS_letP x d hw] at hx; cases hx
     have : foldR (x :: t) (0, [], fields0) = foldR (x :: t) (1, [], fields0) := by
      have hs : stepR (0, [], fields0) x = stepR (1, [], fields0) x := by
       unfold stepR
       rw [hw]
       simp only
       unfold stepT
       simp
      rw [foldR, foldR, hs]
     rw [this]
     exact date_end [] (x :: t)
end Go.Proofs.YtdpnahojhmkemaaGreatDoor
