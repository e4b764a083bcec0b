import Derived.Lib.SlBy
import Derived.Deep.LoopGhost
import Derived.Lib.SplitLaws
import Derived.Lib.IndexBytes
import Derived.Test.YtdjkedcpehhmnaaGreatDoorUS2
import Derived.Test.YtdjkedcpehhmnaaGreatDoorUS4
import Derived.Test.YtdjkedcpehhmnaaGreatDoorUS7
import Derived.Test.YtdjkedcpehhmnaaGreatDoorUS9
import Derived.Test.YtdjkedcpehhmnaaGreatDoorUS25
import Derived.Test.YtdjkedcpehhmnaaGreatDoorUS26
import Derived.Test.YtdjkedcpehhmnaaGreatDoorUS27
namespace Go.Proofs.YtdjkedcpehhmnaaGreatDoor
open Go Go.RowKit
set_option linter.unusedVariables false
set_option linter.unusedSimpArgs false
set_option maxRecDepth 100000
instance : Inhabited PartS := ⟨⟨0, 0, 0⟩⟩
set_option maxHeartbeats 2000000 in
theorem indexPt_any (g : FuncId) (lb : Array Value) (eg : ∀ args w, (callFunc g args).run Tryz.prog w = .ok (.enter g args) w) (p : PartS → Bool) (oa : Option Addr) (cap : Nat) (l : List PartS) (w : World) (hr : RowRd encPt 3 w oa l) (hbig : l.length ≤ 1000000000)
  (hp : ∀ (W : World) j (h : j < l.length), Below w.heap.size w W → Calls Tryz.prog g (#[.agg (encPt l[j]).toArray] ++ lb) W fun e w' => e = .returned (.bool (p l[j])) ∧ Below w.heap.size w w') :
  Calls Tryz.prog 249 #[.slice oa l.length cap, .func (.func g) #[] lb] w fun e w' => e = .returned (.int .i64 (Lib.idxBy (fun _ y => p y) l default)) ∧ Below w.heap.size w w' := by
 have HP := h_ hp; have HR := h_ hr
 clear hp hr
 go_enter Tryz.func249, Tryz.ntmps249
 go_wp2
 go_loopg [5, 8] l.length (fun gg _ s8 wr => ∃ kk : Nat, kk ≤ l.length ∧ l.length - kk ≤ gg ∧ s8 = .int .i64 kk ∧ Hid (Below w.heap.size w wr) ∧ Hid (∀ j, j < kk → p l[j]! = false))
 case atStart => exact ⟨0, Nat.zero_le _, by omega, rfl, Below.refl _ w, fun j hj => absurd hj (Nat.not_lt_zero _)⟩
 case round =>
  obtain ⟨kk, hkk, hg, rfl, BW, A⟩ := hrel
  by_cases hlt : kk < l.length
  ·have hltz : (kk : Int) < (l.length : Int) := by omega
   obtain ⟨b, o, rfl, -, hcc⟩ := (HR.out.below BW.out) kk hlt
   have d0 := hcc 0 _ rfl; have d1 := hcc 1 _ rfl; have d2 := hcc 2 _ rfl
   simp only [Nat.add_zero] at d0
   have hcall := HP.out wr kk hlt BW.out
   have B := h_ (show l[kk]! = l[kk] from getElem!_pos l kk hlt)
   unfold encPt at hcall
   generalize l[kk] = y at d0 d1 d2 hcall B
   clear hcc
   cases hq : p y with
   | true =>
    rw [hq] at hcall
    have HQ := h_ hq; clear hq
    have HCL := h_ hcall; clear hcall
    go_wp2_with (go_at_fn g; refine HCL.out.mono ?_; rintro e w' ⟨rfl, hb'⟩)
    go_ret
    refine ⟨?_, hb'⟩
    have := Lib.idxBy_hit (fun _ y => p y) l l.length kk default hlt (Nat.le_refl _) (by show p l[kk]! = true; rw [B.out]; exact HQ.out) A.out
    rw [List.take_length] at this
    rw [this]
    rfl
   | false =>
    rw [hq] at hcall
    have HQ := h_ hq; clear hq
    have HCL := h_ hcall; clear hcall
    go_wp2_with (go_at_fn g; refine HCL.out.mono ?_; rintro e w' ⟨rfl, hb'⟩)
    go_roundg (l.length - (kk + 1))
    case measure => omega
    case rel =>
     refine ⟨kk + 1, by omega, by omega, by go_num, hb', (show Hid _ from fun j hj => ?_)⟩
     by_cases e : j = kk
     ·subst e
      rw [B.out]; exact HQ.out
     ·exact A.out j (by omega)
  ·have hltz : ¬ (kk : Int) < (l.length : Int) := by omega
   have hkl : kk = l.length := by omega
   subst hkl
   go_wp2
   go_ret
   refine ⟨?_, BW.out⟩
   have := Lib.idxBy_miss (fun _ y => p y) l l.length default A.out
   rw [List.take_length] at this
   rw [this]
   rfl
theorem containsPt_any (g : FuncId) (lb : Array Value) (eg : ∀ args w, (callFunc g args).run Tryz.prog w = .ok (.enter g args) w) (p : PartS → Bool) (oa : Option Addr) (cap : Nat) (l : List PartS) (w : World) (hr : RowRd encPt 3 w oa l) (hbig : l.length ≤ 1000000000)
  (hp : ∀ (W : World) j (h : j < l.length), Below w.heap.size w W → Calls Tryz.prog g (#[.agg (encPt l[j]).toArray] ++ lb) W fun e w' => e = .returned (.bool (p l[j])) ∧ Below w.heap.size w w') :
  Calls Tryz.prog 233 #[.slice oa l.length cap, .func (.func g) #[] lb] w fun e w' => e = .returned (.bool (l.any p)) ∧ Below w.heap.size w w' := by
 have h0 : l.any p = decide (0 ≤ Lib.idxBy (fun _ y => p y) l default) := (Lib.idxBy_nonneg_iff (fun _ y => p y) l default).symm
 rw [h0]
 have H := h_ (indexPt_any g lb eg p oa cap l w hr hbig hp)
 clear hp h0
 generalize Lib.idxBy (fun _ y => p y) l default = r at *
 go_enter Tryz.func233, Tryz.ntmps233
 go_wp2_with fail
 refine H.out.mono ?_
 rintro e w1 ⟨rfl, hb1⟩
 have HB := h_ hb1; clear hb1
 go_wp2_with fail
 go_ret
 exact ⟨rfl, HB.out⟩
set_option maxHeartbeats 1000000 in
theorem may1_any (p : PartS) (f : Nat) (hf : f < 6) (bf : Nat) (W : World) (hc : W.cell? ⟨bf, 0, none⟩ = some (.int .i64 f)) :
  Calls Tryz.prog 234 #[.agg (encPt p).toArray, .pointer (some ⟨bf, 0, none⟩)] W fun e w' => e = .returned (.bool (!mayPtS p f)) ∧ Below W.heap.size W w' := by
 have hb : bf < W.heap.size := World.block_lt_of_cell? W _ hc
 have hne : bf ≠ W.heap.size := by omega
 have HM := h_ (fun V => mayPart_any p f hf V _ rfl)
 have HB := h_ ((Below.refl W.heap.size W).alloc (Nat.le_refl _) (.cells (encPt p).toArray 242))
 unfold encPt at *
 generalize mayPtS p f = q at *
 obtain ⟨pf, pt, ps⟩ := p
 go_enter Tryz.func234, Tryz.ntmps234
 go_wp2_with fail
 refine (HM.out _).mono ?_
 rintro e w1 ⟨rfl, hb1⟩
 have HB1 := h_ (HB.out.trans (hb1.mono HB.out.size))
 clear hb1
 go_wp2_with fail
 go_ret
 exact ⟨rfl, HB1.out⟩
theorem enters_may1 : ∀ args w, (callFunc 234 args).run Tryz.prog w = .ok (.enter 234 args) w := enters_of Tryz.func234 (by kernel_rfl) rfl
def mayDays : Int → List Int → Bool
 | _, [] => true
 | last, d :: t => if d ≤ last ∨ 7 < d then false else mayDays d t
def mayField (l : List PartS) (f : Nat) : Bool := decide (1 ≤ l.length) && (decide (l.length ≤ 4) && l.all fun p => mayPtS p f)
def mayFrom (fs : List (List PartS)) : Nat → Nat → Bool
 | _, 0 => true
 | i, n + 1 => mayField (fs.getD i []) i && mayFrom fs (i + 1) n
def mayCalS (days : List Int) (fs : List (List PartS)) : Bool := mayDays 0 days && mayFrom fs 0 6
structure CalRd (w : World) (cs : Array Value) (days : List Int) (fs : List (List PartS)) : Prop where
 size : cs.size = 7
 days : ∃ da dc, cs[0]? = some (.slice da days.length dc) ∧ RowRd (fun n : Int => [.int .i64 n]) 1 w da days
 fields : ∀ i, i < 6 → ∃ oa cap, cs[i + 1]? = some (.slice oa (fs.getD i []).length cap) ∧ RowRd encPt 3 w oa (fs.getD i [])
theorem CalRd.below {w w' : World} {cs : Array Value} {days : List Int} {fs : List (List PartS)} (h : CalRd w cs days fs) (hb : Below w.heap.size w w') : CalRd w' cs days fs :=
 ⟨h.size, by obtain ⟨a, b, c, d⟩ := h.days; exact ⟨a, b, c, d.below hb⟩, fun i hi => by obtain ⟨a, b, c, d⟩ := h.fields i hi; exact ⟨a, b, c, d.below hb⟩⟩
set_option maxHeartbeats 8000000 in
theorem calMay_any (cs : Array Value) (days : List Int) (fs : List (List PartS)) (w : World) (h : CalRd w cs days fs) (hd : days.length ≤ 1000000) (hf : ∀ i, (fs.getD i []).length ≤ 1000000000) (r : Bool) (hr : mayCalS days fs = r) :
  Calls Tryz.prog 205 #[.agg cs] w fun e w' => e = .returned (.bool r) ∧ Below w.heap.size w w' := by
 obtain ⟨c0, c1, c2, c3, c4, c5, c6, rfl⟩ : ∃ c0 c1 c2 c3 c4 c5 c6, cs = #[c0, c1, c2, c3, c4, c5, c6] := by
  obtain ⟨l⟩ := cs
  have := h.size
  match l, this with
  | [a0, a1, a2, a3, a4, a5, a6], _ => exact ⟨a0, a1, a2, a3, a4, a5, a6, rfl⟩
 obtain ⟨da, dc, hd0, hdr⟩ := h.days
 obtain rfl : c0 = .slice da days.length dc := by simpa using hd0
 obtain ⟨o1, k1, e1, r1⟩ := h.fields 0 (by omega)
 obtain ⟨o2, k2, e2, r2⟩ := h.fields 1 (by omega)
 obtain ⟨o3, k3, e3, r3⟩ := h.fields 2 (by omega)
 obtain ⟨o4, k4, e4, r4⟩ := h.fields 3 (by omega)
 obtain ⟨o5, k5, e5, r5⟩ := h.fields 4 (by omega)
 obtain ⟨o6, k6, e6, r6⟩ := h.fields 5 (by omega)
 obtain rfl : c1 = .slice o1 (fs.getD 0 []).length k1 := by simpa using e1
 obtain rfl : c2 = .slice o2 (fs.getD 1 []).length k2 := by simpa using e2
 obtain rfl : c3 = .slice o3 (fs.getD 2 []).length k3 := by simpa using e3
 obtain rfl : c4 = .slice o4 (fs.getD 3 []).length k4 := by simpa using e4
 obtain rfl : c5 = .slice o5 (fs.getD 4 []).length k5 := by simpa using e5
 obtain rfl : c6 = .slice o6 (fs.getD 5 []).length k6 := by simpa using e6
 clear hd0 e1 e2 e3 e4 e5 e6 r1 r2 r3 r4 r5 r6
 obtain ⟨n1, hn1⟩ : ∃ n, n = (fs.getD 0 []).length := ⟨_, rfl⟩
 obtain ⟨n2, hn2⟩ : ∃ n, n = (fs.getD 1 []).length := ⟨_, rfl⟩
 obtain ⟨n3, hn3⟩ : ∃ n, n = (fs.getD 2 []).length := ⟨_, rfl⟩
 obtain ⟨n4, hn4⟩ : ∃ n, n = (fs.getD 3 []).length := ⟨_, rfl⟩
 obtain ⟨n5, hn5⟩ : ∃ n, n = (fs.getD 4 []).length := ⟨_, rfl⟩
 obtain ⟨n6, hn6⟩ : ∃ n, n = (fs.getD 5 []).length := ⟨_, rfl⟩
 rw [← hn1, ← hn2, ← hn3, ← hn4, ← hn5, ← hn6] at h ⊢
 have HH := h_ h; have HDR := h_ hdr; have HF := h_ hf; have HRR := h_ hr
 let CV : Array Value := #[.slice da days.length dc, .slice o1 n1 k1, .slice o2 n2 k2, .slice o3 n3 k3, .slice o4 n4 k4, .slice o5 n5 k5, .slice o6 n6 k6]
 have HC := h_ (show (w.alloc (.cells CV 186)).heap[w.heap.size]? = some (.cells CV 186 (0, 0)) from heap_alloc_new w _)
 have HB := h_ ((Below.refl w.heap.size w).alloc (Nat.le_refl _) (.cells CV 186))
 clear h hdr hf hr hn1 hn2 hn3 hn4 hn5 hn6
 go_enter Tryz.func205, Tryz.ntmps205
 go_wp2_with fail
 obtain ⟨C, hCw⟩ : ∃ C, C = w.heap.size := ⟨_, rfl⟩
 have HCw := h_ hCw
 change Hid ((w.alloc (.cells #[.slice da days.length dc, .slice o1 n1 k1, .slice o2 n2 k2, .slice o3 n3 k3, .slice o4 n4 k4, .slice o5 n5 k5, .slice o6 n6 k6] 186)).heap[w.heap.size]? = _) at HC
 change Hid (Below w.heap.size w (w.alloc (.cells #[.slice da days.length dc, .slice o1 n1 k1, .slice o2 n2 k2, .slice o3 n3 k3, .slice o4 n4 k4, .slice o5 n5 k5, .slice o6 n6 k6] 186))) at HB
 have HDR1 := h_ (HDR.out.below HB.out); have HH1 := h_ (HH.out.below HB.out)
 rw [← hCw] at HC ⊢
 clear HDR HH hCw
 generalize w.alloc (.cells #[.slice da days.length dc, .slice o1 n1 k1, .slice o2 n2 k2, .slice o3 n3 k3, .slice o4 n4 k4, .slice o5 n5 k5, .slice o6 n6 k6] 186) = w1 at *
 go_loopg [3, 11] (days.length + 1) (fun f last i wr => ∃ (k : Nat) (z : Int), k ≤ days.length ∧ last = .int .i64 z ∧ i = .int .i64 k ∧ days.length - k < f ∧ wr = w1 ∧ Hid (mayDays z (days.drop k) = mayDays 0 days))
 case atStart => exact ⟨0, 0, by omega, rfl, rfl, by omega, rfl, rfl⟩
 case round =>
  obtain ⟨k, z, hk, rfl, rfl, hfu, rfl, HMD⟩ := hrel
  by_cases hlt : k < days.length
  ·have hz : (k : Int) < (days.length : Int) := by omega
   obtain ⟨b, o, rfl, -, hcc⟩ := HDR1.out k hlt
   have d0 := hcc 0 _ rfl
   simp only [Nat.add_zero, Nat.mul_one] at d0
   obtain ⟨d, hdd⟩ : ∃ d, d = days[k] := ⟨_, rfl⟩
   rw [← hdd] at d0
   have hdp : days.drop k = d :: days.drop (k + 1) := by rw [hdd]; exact List.drop_eq_getElem_cons hlt
   have hM := HMD.out
   rw [hdp, mayDays] at hM
   clear hcc hdd hdp HMD
   by_cases h1 : d ≤ z
   ·rw [if_pos (.inl h1)] at hM
    have HR := h_ (show false = r by rw [← HRR.out]; unfold mayCalS; rw [← hM]; rfl)
    clear hM
    go_wp2_with fail
    go_ret
    exact ⟨by rw [← HR.out]; rfl, HB.out⟩
   ·by_cases h2 : 7 < d
    ·rw [if_pos (.inr h2)] at hM
     have HR := h_ (show false = r by rw [← HRR.out]; unfold mayCalS; rw [← hM]; rfl)
     clear hM
     go_wp2_with fail
     go_ret
     exact ⟨by rw [← HR.out]; rfl, HB.out⟩
    ·rw [if_neg (by omega)] at hM
     have HM2 := h_ hM
     clear hM
     go_wp2_with fail
     go_roundg (days.length - k)
     case measure => omega
     case rel => exact ⟨k + 1, d, by omega, rfl, by go_num, by omega, rfl, HM2⟩
  ·have hz : ¬ ((k : Int) < (days.length : Int)) := by omega
   have hM : mayDays 0 days = true := by rw [← HMD.out, List.drop_eq_nil_of_le (by omega)]; rfl
   have HRF := h_ (show mayFrom fs 0 6 = r by rw [← HRR.out]; unfold mayCalS; rw [hM]; rfl)
   have HL := h_ (lists_any C wr)
   clear hM HMD HDR1 hfu hk hlt
   go_wp2_with fail
   refine HL.out.mono ?_
   rintro e w2 ⟨rfl, hb2⟩
   have HC2 := h_ (heap_below HC.out hb2)
   have HH2 := h_ (HH1.out.below hb2)
   have HB2 := h_ (HB.out.trans (hb2.mono HB.out.size))
   clear hb2 HL HC HH1 HB
   unfold listV at *
   go_wp2_with fail
   go_loopg [25] 7 (fun f i wr => ∃ k : Nat, k ≤ 6 ∧ i = .int .i64 k ∧ 6 - k < f ∧ Hid (Below w2.heap.size w2 wr) ∧ Hid (mayFrom fs k (6 - k) = r))
   case atStart => exact ⟨0, by omega, rfl, by omega, Below.refl _ _, HRF⟩
   case round =>
    obtain ⟨k, hk, rfl, hfu, HBW, HMF⟩ := hrel
    clear HRF
    by_cases hlt : k < 6
    ·have hz : (k : Int) < 6 := by omega
     have hidx := idx6 C k hlt wr
     unfold listV at hidx
     obtain ⟨oa, cap, hfk, hrow⟩ := HH2.out.fields k hlt
     have hC3 := heap_alloc (heap_below HC2.out HBW.out) (.cells #[.int .i64 k] 3)
     have hb3 : Below wr.heap.size wr (wr.alloc (.cells #[.int .i64 k] 3)) := (Below.refl _ _).alloc (Nat.le_refl _) _
     have HB3 := h_ (HBW.out.trans (hb3.mono HBW.out.size))
     have hrow3 := hrow.below HB3.out
     have hmf : mayFrom fs k (6 - k) = (mayField (fs.getD k []) k && mayFrom fs (k + 1) (6 - (k + 1))) := by rw [show 6 - k = (6 - (k + 1)) + 1 by omega]; rfl
     have hM := HMF.out
     rw [hmf] at hM
     have hfl := HF.out k
     obtain ⟨l, hl⟩ : ∃ l, l = fs.getD k [] := ⟨_, rfl⟩
     rw [← hl] at hfk hrow3 hM hfl
     obtain ⟨cc, -, -, clt⟩ := rd hC3
     have d0 := cc (k + 1)
     rw [show CV[k + 1]? = _ from hfk] at d0
     have hcell : (wr.alloc (.cells #[.int .i64 k] 3)).cell? ⟨wr.heap.size, 0, none⟩ = some (.int .i64 k) := by simp
     have HCT := h_ (containsPt_any 234 #[.pointer (some ⟨wr.heap.size, 0, none⟩)] enters_may1 (fun p => !mayPtS p k) oa cap l (wr.alloc (.cells #[.int .i64 k] 3)) hrow3 hfl (fun V j hj hV =>
      (may1_any l[j] k hlt wr.heap.size V ((hV.cell (p := ⟨wr.heap.size, 0, none⟩) (by simp)).trans hcell)).mono fun e w' ⟨a, q⟩ => ⟨a, hV.trans (q.mono hV.size)⟩))
     have hclt : C ≠ wr.heap.size := by have := lt_heap (heap_below HC2.out HBW.out); omega
     clear hC3 hb3 hrow3 hmf hfk hrow cc clt HMF hl hcell
     unfold mayField at hM
     have hany : (l.all fun p => mayPtS p k) = !(l.any fun p => !mayPtS p k) := by rw [List.all_eq_not_any_not]
     rw [hany] at hM
     generalize (l.any fun p => !mayPtS p k) = q at *
     generalize hn : l.length = n at *
     clear hany hn
     by_cases h1 : n < 1
     ·have hz1 : (n : Int) < 1 := by omega
      have HR := h_ (show false = r by rw [← hM]; simp; omega)
      clear hM HCT
      go_wp2_with fail
      go_ret
      exact ⟨by rw [← HR.out]; rfl, HB2.out.trans (HB3.out.mono HB2.out.size)⟩
     ·have hz1 : ¬ ((n : Int) < 1) := by omega
      by_cases h2 : 4 < n
      ·have hz2 : (n : Int) > 4 := by omega
       have hz3 : (4 : Int) < n := by omega
       have HR := h_ (show false = r by rw [← hM]; simp; omega)
       clear hM HCT
       go_wp2_with fail
       go_ret
       exact ⟨by rw [← HR.out]; rfl, HB2.out.trans (HB3.out.mono HB2.out.size)⟩
      ·have hz2 : ¬ ((n : Int) > 4) := by omega
       have hz3 : ¬ ((4 : Int) < n) := by omega
       have HM2 := h_ (show (!q && mayFrom fs (k + 1) (6 - (k + 1))) = r by
        rw [← hM, decide_eq_true (show 1 ≤ n by omega), decide_eq_true (show n ≤ 4 by omega)]; simp)
       clear hM
       cases q with
       | true =>
        have HR := h_ (show false = r by rw [← HM2.out]; rfl)
        go_wp2_with fail
        refine HCT.out.mono ?_
        rintro e w4 ⟨rfl, hb4⟩
        have HB4 := h_ (HB3.out.trans (hb4.mono HB3.out.size))
        clear hb4 HCT
        go_wp2_with fail
        go_ret
        exact ⟨by rw [← HR.out]; rfl, HB2.out.trans (HB4.out.mono HB2.out.size)⟩
       | false =>
        have HM3 := h_ (show mayFrom fs (k + 1) (6 - (k + 1)) = r by rw [← HM2.out]; rfl)
        go_wp2_with fail
        refine HCT.out.mono ?_
        rintro e w4 ⟨rfl, hb4⟩
        have HB4 := h_ (HB3.out.trans (hb4.mono HB3.out.size))
        clear hb4 HCT
        go_wp2_with fail
        go_roundg (6 - k)
        case measure => omega
        case rel => exact ⟨k + 1, by omega, by go_num, by omega, HB4, HM3⟩
    ·have hz : ¬ ((k : Int) < 6) := by omega
     have HR := h_ (show true = r by rw [← HMF.out, show 6 - k = 0 by omega]; rfl)
     go_wp2_with fail
     go_ret
     exact ⟨by rw [← HR.out]; rfl, HB2.out.trans (HBW.out.mono HB2.out.size)⟩
theorem splitK_one (c : UInt8) : ∀ (k : Nat) (s : Str), s.count c = k → Lib.splitK [c] 0 k s = splitC c s
 | 0, s, h => by
  have : ∀ x ∈ s, x ≠ c := by
   rintro x hx rfl
   exact absurd h (by rw [List.count_eq_zero]; exact fun h => h hx)
  rw [splitC_one c s this]; rfl
 | k + 1, s, h => by
  rcases ib_cases c s with ⟨h1, h2⟩ | ⟨i, a, b, h1, h2, h3, h4⟩
  ·have : s.count c = 0 := by rw [List.count_eq_zero]; exact fun hx => h2 c hx rfl
   omega
  ·have hix : Lib.index s [c] = (i : Int) := by rw [Lib.index_one]; exact h1
   have hne : ¬ (Lib.index s [c] == -1) = true := by rw [hix]; simp
   have hcb : b.count c = k := by
    rw [h2, List.count_append, List.count_cons] at h
    have h0 : a.count c = 0 := by rw [List.count_eq_zero]; exact fun hx => h4 c hx rfl
    simp at h
    omega
   unfold Lib.splitK
   rw [if_neg hne, hix]
   have e1 : s.take ((i : Int).toNat + 0) = a := by rw [h2]; simp [← h3]
   have e2 : s.drop ((i : Int).toNat + [c].length) = b := by rw [h2]; simp [← h3]
   rw [e1, e2, splitK_one c k b hcb, h2, splitC_app c a b h4]
theorem splitB_one (c : UInt8) (s : ByteArray) : (Lib.splitB ⟨#[c]⟩ 0 (Lib.countB s ⟨#[c]⟩) s).map Value.string = strVals (splitC c s.data.toList) ∧ Lib.countB s ⟨#[c]⟩ + 1 = (splitC c s.data.toList).length := by
 have hcb : Lib.countB s ⟨#[c]⟩ = s.data.toList.count c := by
  rw [← Lib.count_one c]
 have hd := Lib.splitB_data ⟨#[c]⟩ 0 (Lib.countB s ⟨#[c]⟩) s
 rw [show (⟨#[c]⟩ : ByteArray).data.toList = [c] from rfl, splitK_one c _ _ hcb.symm] at hd
 refine ⟨?_, ?_⟩
 ·rw [← hd]
  unfold strVals
  rw [List.map_map]
  rfl
 ·have := Lib.splitB_all ⟨#[c]⟩ (by show 1 ≤ 1; omega) 0 _ s rfl
  rw [← this, ← hd, List.length_map]
theorem splitStr_any (c : UInt8) (s : Str) (w : World) (hs : s.length ≤ 1000000000) (hM : MaxAt w) :
  Calls Tryz.prog 195 #[.string ⟨s.toArray⟩, .string ⟨#[c]⟩] w fun e w' => e = .returned (.slice (some ⟨w.heap.size, 0, none⟩) (splitC c s).length (splitC c s).length) ∧ w' = w.alloc (.cells (strVals (splitC c s)).toArray 9) := by
 obtain ⟨m, hm⟩ := hM
 have h1 := Tryz.strings_Split ⟨s.toArray⟩ ⟨#[c]⟩ m w (by show s.toArray.size < _; simp; omega) hm (by show 1 ≤ 1; omega)
 obtain ⟨h2, h3⟩ := splitB_one c ⟨s.toArray⟩
 have e : (⟨s.toArray⟩ : ByteArray).data.toList = s := rfl
 rw [e] at h2 h3
 refine h1.mono ?_
 rintro e w' ⟨rfl, rfl⟩
 exact ⟨by rw [h3], by rw [h2]⟩
theorem splitStr_row (w : World) (l : List Str) : StrRow (w.alloc (.cells (strVals l).toArray 9)) (some ⟨w.heap.size, 0, none⟩) l := by
 intro i hi
 refine ⟨w.heap.size, 0, rfl, ?_⟩
 rw [(rd (heap_alloc_new w (.cells (strVals l).toArray 9))).1, List.getElem?_toArray, strVals, List.getElem?_map, Nat.zero_add, List.getElem?_eq_getElem hi]
 rfl
def cDate (t : Str × List Str × Bool) : Str := if t.2.2 = true then t.1 else [42, 45, 42, 45, 42]
def cClock (t : Str × List Str × Bool) : Str := if t.2.2 = true then (if Go.Lib.countByte t.1 58 = 1 then t.1 ++ [58, 48, 48] else t.1) else [48, 48, 58, 48, 48, 58, 48, 48]
def cDays (t : Str × List Str × Bool) : Option (List Int) := if t.2.2 = true then workS t.1 else some []
def calOf (ds : Option (List Int)) (rest : List Str) (d t : List Str) : Option (List Int × List (List PartS)) :=
 match ds with
 | none => none
 | some days =>
  if 0 < rest.length then none
  else if d.length ≠ 3 then none
  else if t.length ≠ 3 then none
  else match fillS d with
   | none => none
   | some fd => match fillS t with
    | none => none
    | some ft => if mayCalS days (fd ++ ft) = true then some (days, fd ++ ft) else none
def calS (s : Str) : Option (List Int × List (List PartS)) :=
 if 400 < s.length then none
 else calOf (cDays (takeS letP (splitC 32 (nmS s)))) (takeS (hasC 58) (takeS (hasC 45) (takeS letP (splitC 32 (nmS s))).2.1).2.1).2.1
  (splitC 45 (cDate (takeS (hasC 45) (takeS letP (splitC 32 (nmS s))).2.1))) (splitC 58 (cClock (takeS (hasC 58) (takeS (hasC 45) (takeS letP (splitC 32 (nmS s))).2.1).2.1)))
theorem takeS_cons (p : Str → Bool) (x : Str) (t : List Str) : takeS p (x :: t) = if p x = true then (x, t, true) else ([], x :: t, false) := rfl
theorem takeS_no (p : Str → Bool) (l : List Str) (h : (takeS p l).2.2 = false) : (takeS p l).2.1 = l := by
 cases l with
 | nil => rfl
 | cons x t =>
  rw [takeS_cons] at h ⊢
  cases hp : p x with
  | true => rw [hp] at h; simp at h
  | false => simp
theorem takeS_mem (p : Str → Bool) (l : List Str) (n : Nat) (h : ∀ x ∈ l, x.length ≤ n) : (takeS p l).1.length ≤ n ∧ (∀ x ∈ (takeS p l).2.1, x.length ≤ n) ∧ (takeS p l).2.1.length ≤ l.length := by
 cases l with
 | nil => exact ⟨by simp [takeS], by simp [takeS], by simp [takeS]⟩
 | cons x t =>
  rw [takeS_cons]
  cases hp : p x with
  | true => exact ⟨h x (by simp), fun y hy => h y (List.mem_cons_of_mem _ hy), by simp⟩
  | false => exact ⟨by simp, h, Nat.le_refl _⟩
theorem fillS_each (n : Nat) : ∀ (l : List Str) (ps : List (List PartS)), fillS l = some ps → (∀ x ∈ l, x.length ≤ n) → ∀ p ∈ ps, p.length ≤ n + 1
 | [], ps, h, hm, p, hp => by simp [fillS] at h; subst h; simp at hp
 | x :: t, ps, h, hm, p, hp => by
  rw [fillS] at h
  cases hx : ptsS x with
  | none => rw [hx] at h; simp at h
  | some q =>
   rw [hx] at h
   cases hr : fillS t with
   | none => rw [hr] at h; simp at h
   | some r =>
    rw [hr] at h
    simp at h
    subst h
    rcases List.mem_cons.1 hp with rfl | hp
    ·have := partsL_len _ _ hx
     have h2 := splitC_len 44 x
     have h3 := hm x (by simp)
     omega
    ·exact fillS_each n t r hr (fun y hy => hm y (List.mem_cons_of_mem _ hy)) p hp
theorem fill2_each (n : Nat) (a b : List Str) (fa fb : List (List PartS)) (ha : fillS a = some fa) (hb : fillS b = some fb) (hm : ∀ x ∈ a, x.length ≤ n) (hk : ∀ x ∈ b, x.length ≤ n) (i : Nat) : ((fa ++ fb).getD i []).length ≤ n + 1 := by
 rw [List.getD_eq_getElem?_getD]
 cases h : (fa ++ fb)[i]? with
 | none => simp
 | some p =>
  rcases List.mem_append.1 (List.mem_of_getElem? h) with h1 | h1
  ·exact fillS_each n a fa ha hm p h1
  ·exact fillS_each n b fb hb hk p h1
theorem workS_len (s : Str) (l : List Int) (h : workS s = some l) : l.length ≤ 8 := by
 unfold workS at h
 cases hw : workL (splitC 44 s) noDays with
 | none => rw [hw] at h; simp at h
 | some m => rw [hw] at h; simp at h; subst h; exact daysTo_len m 8
theorem cDays_len (t : Str × List Str × Bool) (l : List Int) (h : cDays t = some l) : l.length ≤ 8 := by
 unfold cDays at h
 split at h
 ·exact workS_len _ _ h
 ·cases h; simp
end Go.Proofs.YtdjkedcpehhmnaaGreatDoor
