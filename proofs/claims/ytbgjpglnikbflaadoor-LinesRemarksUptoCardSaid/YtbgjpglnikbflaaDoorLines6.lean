/-
  Package lines: the reader's line: a key's line.
-/
import Derived.Test.YtbgjpglnikbflaaDoorLines5
namespace Go.Proofs.YtbgjpglnikbflaaDoor
open Go Go.RowKit
set_option linter.unusedVariables false
set_option maxRecDepth 100000

theorem infoLine : (Tryd.prog.info? 34).map (fun i => (i.zero, i.size, i.bytes)) = some (some (.agg #[.string ⟨#[]⟩, .string ⟨#[]⟩, .string ⟨#[]⟩, .int .i64 0]), 4, 56) := by kernel_rfl

theorem far_cells {w4 w5 : World} {o : Obj} {R : Nat} {row : Option Nat} (hR : R < w4.heap.size) (hg : (w4.alloc o).grownBy w5 row) (hne : row ≠ some R) (j : Nat) :
    w5.cell? ⟨R, j, none⟩ = w4.cell? ⟨R, j, none⟩ ∧ w5.frozen? ⟨R, j, none⟩ = w4.frozen? ⟨R, j, none⟩ := by
  have h1 : w5.heap[R]? = w4.heap[R]? := by
    rw [hg.block R (by simp; omega) (fun e => hne e.symm), Below.heap_alloc _ _ _ hR]
  exact ⟨World.cell?_of_block h1, World.frozen?_of_block h1⟩
theorem Said.ne {R : Nat} {out : List Ln} {ov : Value} {w : World} (h : Said R out ov w) : ov.ownBlock ≠ some R := by
  intro e
  have := (World.ownsRow.lt h R e).1
  omega

/-- What a key's line leaves. -/
theorem spoke {R n at_ : Nat} {rows : List Str} {sec k v tk tv : Str} {sb : ByteArray} {ov : Value} {out : List Ln} {w w4 w5 : World} {o : Obj} {gg cap : Nat}
    (hL : LRd R rows n sec ov w4) (hS : Said R out ov w4) (hg : (w4.alloc o).grownBy w5 ov.ownBlock)
    (ho : w5.ownsRow (R + 1) 34 4 (.slice (some ⟨gg, 0, none⟩) (out.length + 1) cap) (out.length + 1) (lnVals out ++ [.string sb, .string ⟨tk.toArray⟩, .string ⟨tv.toArray⟩, .int .i64 at_]))
    (hb : Below w.heap.size w w4) (hsb : sb = ⟨sec.toArray⟩) (hk : trimS k = tk) (hv : trimS v = tv) :
    LRd R rows n sec (.slice (some ⟨gg, 0, none⟩) (out.length + 1) cap) (w5.setCell ⟨R, 3, none⟩ (.slice (some ⟨gg, 0, none⟩) (out.length + 1) cap)) ∧
      Said R (out ++ [⟨sec, trimS k, trimS v, (at_ : Int)⟩]) (.slice (some ⟨gg, 0, none⟩) (out.length + 1) cap) (w5.setCell ⟨R, 3, none⟩ (.slice (some ⟨gg, 0, none⟩) (out.length + 1) cap)) ∧
      Fr (fun b => R ≤ b) w (w5.setCell ⟨R, 3, none⟩ (.slice (some ⟨gg, 0, none⟩) (out.length + 1) cap)) := by
  have hne := hS.ne
  have hR := hL.lt
  have hgb : R + 1 ≤ gg := (ho.lt gg rfl).1
  obtain ⟨v0, h1, h2, h3⟩ := hL
  have h5 : w5.heap[R]? = some (.cells #[v0, .int .i64 n, .string ⟨sec.toArray⟩, ov] 42 (0, 0)) := by
    rw [hg.block R (by simp; omega) (fun e => hne e.symm), Below.heap_alloc _ _ _ hR]; exact h1
  have hf4 : Fr (fun b => R < b) w4 w5 := ((Fr.refl _ _).alloc o).grown hg (fun g hg' _ => by have := (World.ownsRow.lt hS g hg').1; omega)
  refine ⟨⟨v0, ?_, ?_, ?_⟩, ?_, ?_⟩
  · rw [heap_setCell h5 3 _]; rfl
  · exact (h2.fr hf4 (fun k hk => by omega)).fr (Fr.setCell (M := (· = R)) (Fr.refl _ _) (p := ⟨R, 3, none⟩) (fun _ => rfl) _) (fun k hk => by omega)
  · exact ⟨_, _, _, rfl⟩
  · refine Said.fr (M := (· = R)) ?_ (Fr.setCell (M := (· = R)) (Fr.refl _ _) (p := ⟨R, 3, none⟩) (fun _ => rfl) _) (fun k hk => by omega)
    unfold Said
    rw [lnVals_snoc, List.length_append]
    simp only [lnCells, hk, hv, ← hsb]
    exact ho
  · have h6 : Fr (fun b => R ≤ b) w4 w5 := hf4.mono (fun i _ (h : R < i) => Nat.le_of_lt h)
    exact Fr.setCell (M := fun b => R ≤ b) ((Fr.of_below hb _).trans h6) (p := ⟨R, 3, none⟩) (fun _ => Nat.le_refl R) _

section
variable (R : Nat) (rows : List Str) (n : Nat) (sec : Str) (ov : Value) (at_ : Nat) (s : ByteArray) (w : World)

theorem drew_below {w w1 : World} {n : Nat} (h : Below w.heap.size w w1) : Below w.heap.size w (w1.drewN n) := ⟨h.os, h.tape, h.output, h.size, h.block⟩

set_option maxHeartbeats 1000000 in
theorem line_noeq (hm : MaxAt w) (hg : goodS s.data.toList = true) (hl : s.size ≤ 400) (c : UInt8) (t : Str) (ht : trimS s.data.toList = c :: t) (h91 : (c == 91) = false) (hq : cutEq (c :: t) = none) :
    Calls Tryd.prog 24 #[.pointer (some ⟨R, 0, none⟩), .string s, .int .i64 at_] w fun e w' => e = .returned (.int .i64 9) ∧ Below w.heap.size w w' := by
  have HG := Lib.hid hg; clear hg
  have htl := trimS_len s.data.toList
  rw [ht] at htl
  have hsz : s.data.toList.length = s.size := by simp
  rw [hsz] at htl
  have HT := Lib.hid ht; clear ht hsz
  have H91 := Lib.hid h91; clear h91
  have hl' : ¬ (400 : Int) < (s.size : Int) := by omega
  obtain ⟨x, hx⟩ : ∃ x : ByteArray, x = ⟨(c :: t : Str).toArray⟩ := ⟨_, rfl⟩
  have hxl : x.data.toList = c :: t := by rw [hx]
  have hxs : x.size ≤ 400 := by have : x.size = (c :: t).length := by rw [hx]; rfl
                                omega
  rw [← hxl] at hq
  have HQ := Lib.hid hq; clear hq
  obtain ⟨h0, hc⟩ := head_of hxl
  obtain ⟨n1, n2, n3, n4⟩ := str_ne (s := x) (by omega)
  have HX := Lib.hid hx.symm; clear hx
  have HXl := Lib.hid hxl; clear hxl hc htl
  go_enter Tryd.func24, Tryd.ntmps24
  go_wp2_with (first
    | (go_at_call 38; refine (good_any _ _ (by omega) _ HG.out).mono ?_; rintro e w' ⟨rfl, rfl⟩)
    | (go_at_call 22; refine (trim_any s _ (by omega) _ HT.out).mono ?_; rintro e w1 ⟨rfl, hb1⟩; rw [HX.out]))
  refine (cutOpen x c t _ HXl.out false H91.out (c :: t) rfl).mono ?_
  rintro e w' ⟨rfl, rfl⟩
  have hm1 := hm.below hb1
  clear hm
  go_wp2_with ((go_at_call 42; refine (cut_no x _ (by omega) hm1 HQ.out).mono ?_; rintro e w' ⟨rfl, q, rfl⟩))
  refine (trim_any x _ (by omega) _ rfl).mono ?_
  rintro e w2 ⟨rfl, hb2⟩
  have HB := Lib.hid ((drew_below (n := q) hb1).trans (hb2.mono hb1.size))
  clear hb1 hb2
  go_wp2_with fail
  go_ret
  exact ⟨rfl, HB.out⟩

set_option maxHeartbeats 1000000 in
theorem line_nokey (hm : MaxAt w) (hg : goodS s.data.toList = true) (hl : s.size ≤ 400) (c : UInt8) (t : Str) (ht : trimS s.data.toList = c :: t) (h91 : (c == 91) = false) (k v : Str) (hq : cutEq (c :: t) = some (k, v)) (hk : keyB (trimS k) = false) :
    Calls Tryd.prog 24 #[.pointer (some ⟨R, 0, none⟩), .string s, .int .i64 at_] w fun e w' => e = .returned (.int .i64 9) ∧ Below w.heap.size w w' := by
  have HG := Lib.hid hg; clear hg
  have htl := trimS_len s.data.toList
  rw [ht] at htl
  have hsz : s.data.toList.length = s.size := by simp
  rw [hsz] at htl
  have HT := Lib.hid ht; clear ht hsz
  have H91 := Lib.hid h91; clear h91
  have hl' : ¬ (400 : Int) < (s.size : Int) := by omega
  obtain ⟨x, hx⟩ : ∃ x : ByteArray, x = ⟨(c :: t : Str).toArray⟩ := ⟨_, rfl⟩
  have hxl : x.data.toList = c :: t := by rw [hx]
  have hxs : x.size ≤ 400 := by have : x.size = (c :: t).length := by rw [hx]; rfl
                                omega
  have hkl : k.length ≤ 400 := by
    have := cutEq_len hq
    rw [this] at htl
    simp at htl
    omega
  rw [← hxl] at hq
  have HQ := Lib.hid hq; clear hq
  obtain ⟨h0, hc⟩ := head_of hxl
  obtain ⟨n1, n2, n3, n4⟩ := str_ne (s := x) (by omega)
  have HX := Lib.hid hx.symm; clear hx
  have HXl := Lib.hid hxl; clear hxl hc htl
  have hks : (⟨k.toArray⟩ : ByteArray).size ≤ 9223372036854775807 := by show k.length ≤ _; omega
  obtain ⟨tk, htk⟩ : ∃ tk, trimS k = tk := ⟨_, rfl⟩
  have htkl : tk.length ≤ 400 := by rw [← htk]; have := trimS_len k; omega
  rw [htk] at hk
  have HTk := Lib.hid htk; clear htk
  have HK := Lib.hid hk; clear hk
  have htks : (⟨tk.toArray⟩ : ByteArray).size ≤ 9223372036854775807 := by show tk.length ≤ _; omega
  go_enter Tryd.func24, Tryd.ntmps24
  go_wp2_with (first
    | (go_at_call 38; refine (good_any _ _ (by omega) _ HG.out).mono ?_; rintro e w' ⟨rfl, rfl⟩)
    | (go_at_call 22; refine (trim_any s _ (by omega) _ HT.out).mono ?_; rintro e w1 ⟨rfl, hb1⟩; rw [HX.out]))
  refine (cutOpen x c t _ HXl.out false H91.out (c :: t) rfl).mono ?_
  rintro e w' ⟨rfl, rfl⟩
  have hm1 := hm.below hb1
  clear hm
  go_wp2_with ((go_at_call 42; refine (cut_yes x k v _ (by omega) hm1 HQ.out).mono ?_; rintro e w' ⟨rfl, q, rfl⟩))
  refine (trim_any _ _ hks _ HTk.out).mono ?_
  rintro e w2 ⟨rfl, hb2⟩
  have HB := Lib.hid ((drew_below (n := q) hb1).trans (hb2.mono hb1.size))
  have hsz2 := hb1.size
  have hsz3 := hb2.size
  clear hb1 hb2
  go_wp2_with fail
  refine (key_any _ _ htks _ HK.out).mono ?_
  rintro e w3 ⟨rfl, hb3⟩
  have HB3 := Lib.hid (HB.out.trans (hb3.mono HB.out.size))
  clear hb3
  go_wp2_with fail
  go_ret
  exact ⟨rfl, HB3.out⟩
set_option maxHeartbeats 1000000 in
theorem line_nosec (hL : LRd R rows n sec ov w) (hsec : sec = []) (hm : MaxAt w) (hg : goodS s.data.toList = true) (hl : s.size ≤ 400) (c : UInt8) (t : Str) (ht : trimS s.data.toList = c :: t) (h91 : (c == 91) = false) (k v : Str) (hq : cutEq (c :: t) = some (k, v)) (hk : keyB (trimS k) = true) :
    Calls Tryd.prog 24 #[.pointer (some ⟨R, 0, none⟩), .string s, .int .i64 at_] w fun e w' => e = .returned (.int .i64 10) ∧ Below w.heap.size w w' := by
  have HG := Lib.hid hg; clear hg
  have htl := trimS_len s.data.toList
  rw [ht] at htl
  have hsz : s.data.toList.length = s.size := by simp
  rw [hsz] at htl
  have HT := Lib.hid ht; clear ht hsz
  have H91 := Lib.hid h91; clear h91
  have hl' : ¬ (400 : Int) < (s.size : Int) := by omega
  obtain ⟨x, hx⟩ : ∃ x : ByteArray, x = ⟨(c :: t : Str).toArray⟩ := ⟨_, rfl⟩
  have hxl : x.data.toList = c :: t := by rw [hx]
  have hxs : x.size ≤ 400 := by have : x.size = (c :: t).length := by rw [hx]; rfl
                                omega
  have hkl : k.length ≤ 400 := by
    have := cutEq_len hq
    rw [this] at htl
    simp at htl
    omega
  rw [← hxl] at hq
  have HQ := Lib.hid hq; clear hq
  obtain ⟨h0, hc⟩ := head_of hxl
  obtain ⟨n1, n2, n3, n4⟩ := str_ne (s := x) (by omega)
  have HX := Lib.hid hx.symm; clear hx
  have HXl := Lib.hid hxl; clear hxl hc htl
  have hks : (⟨k.toArray⟩ : ByteArray).size ≤ 9223372036854775807 := by show k.length ≤ _; omega
  obtain ⟨tk, htk⟩ : ∃ tk, trimS k = tk := ⟨_, rfl⟩
  have htkl : tk.length ≤ 400 := by rw [← htk]; have := trimS_len k; omega
  rw [htk] at hk
  have HTk := Lib.hid htk; clear htk
  have HK := Lib.hid hk; clear hk
  have htks : (⟨tk.toArray⟩ : ByteArray).size ≤ 9223372036854775807 := by show tk.length ≤ _; omega
  go_enter Tryd.func24, Tryd.ntmps24
  go_wp2_with (first
    | (go_at_call 38; refine (good_any _ _ (by omega) _ HG.out).mono ?_; rintro e w' ⟨rfl, rfl⟩)
    | (go_at_call 22; refine (trim_any s _ (by omega) _ HT.out).mono ?_; rintro e w1 ⟨rfl, hb1⟩; rw [HX.out]))
  refine (cutOpen x c t _ HXl.out false H91.out (c :: t) rfl).mono ?_
  rintro e w' ⟨rfl, rfl⟩
  have hm1 := hm.below hb1
  clear hm
  go_wp2_with ((go_at_call 42; refine (cut_yes x k v _ (by omega) hm1 HQ.out).mono ?_; rintro e w' ⟨rfl, q, rfl⟩))
  refine (trim_any _ _ hks _ HTk.out).mono ?_
  rintro e w2 ⟨rfl, hb2⟩
  have HB := Lib.hid ((drew_below (n := q) hb1).trans (hb2.mono hb1.size))
  have hsz2 := hb1.size
  have hsz3 := hb2.size
  clear hb1 hb2
  go_wp2_with fail
  refine (key_any _ _ htks _ HK.out).mono ?_
  rintro e w3 ⟨rfl, hb3⟩
  have HB3 := Lib.hid (HB.out.trans (hb3.mono HB.out.size))
  clear hb3
  subst hsec
  obtain ⟨oa, cap, c0, c1, c2, c3, f2, f3, -⟩ := (hL.below HB3.out).rd
  clear hL
  go_wp2_with fail
  go_ret
  exact ⟨rfl, HB3.out⟩

end
end Go.Proofs.YtbgjpglnikbflaaDoor
