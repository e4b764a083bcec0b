import Derived.Test.YtdpnahojhmkemaaGreatDoorKP1
import Derived.Test.YtdpnahojhmkemaaGreatDoorKP17
import Derived.Test.YtdpnahojhmkemaaGreatDoorKP26
import Derived.Test.YtdpnahojhmkemaaGreatDoorKP40
import Derived.Test.YtdpnahojhmkemaaGreatDoorKP42
namespace Go.Proofs.YtdpnahojhmkemaaGreatDoor
open Go Go.RowKit
set_option linter.unusedVariables false
set_option linter.unusedSimpArgs false
set_option maxRecDepth 100000
def encLn (x : Ln) : List Value := [.string ⟨x.sec.toArray⟩, .string ⟨x.key.toArray⟩, .string ⟨x.val.toArray⟩, .int .i64 x.at_]
def checkS (ln : Ln → Int) : List Ln → Int × Int
 | [] => (0, 0)
 | x :: t => if ln x = 0 then checkS ln t else (ln x, x.at_)
set_option maxHeartbeats 4000000 in
theorem check_any (ln : Ln → Int) (kind : Int) (l : List Ln) (oa : Option Addr) (cap : Nat) (w : World) (hl : l.length ≤ 4294967296) (hM : MaxAt w) (hr : RowRd encLn 4 w oa l)
  (hv : ∀ i (h : i < l.length) W, MaxAt W → Calls Tryz.prog 38 #[.int .i64 kind, .agg (encLn l[i]).toArray] W fun e w' => e = .returned (.int .i64 (ln l[i])) ∧ Below W.heap.size W w') (c a : Int) (hc : checkS ln l = (c, a)) :
  Calls Tryz.prog 17 #[.int .i64 kind, .slice oa l.length cap] w fun e w' => e = .returned (.agg #[.int .i64 c, .int .i64 a]) ∧ Below w.heap.size w w' := by
 have HM := Lib.hid hM; have HR := Lib.hid hr; have HV := Lib.hid hv; have HC := Lib.hid hc
 have HL := Lib.hid hl
 clear hM hr hv hc
 go_enter Tryz.func17, Tryz.ntmps17
 have h0 := Lib.hid (heap_alloc_new w (.cells #[.int .i64 0, .int .i64 0] 37))
 have HB0 := Lib.hid ((Below.refl w.heap.size w).alloc (Nat.le_refl _) (.cells #[.int .i64 0, .int .i64 0] 37))
 go_wp2
 go_loopg [10] l.length (fun f s10 wr => ∃ k : Nat, k + f = l.length ∧ s10 = .int .i64 k ∧ Hid (Below w.heap.size w wr) ∧ Hid (checkS ln (l.drop k) = (c, a)) ∧ Hid (wr.heap[w.heap.size]? = some (.cells #[.int .i64 0, .int .i64 0] 37 (0, 0))))
 case atStart => exact ⟨0, by omega, rfl, HB0, HC, h0⟩
 case round =>
  obtain ⟨k, hk, rfl, HB, HD, HH⟩ := hrel
  clear HC HB0 h0
  obtain ⟨cc, fc, sc, lc⟩ := rd HH.out
  clear sc
  have cc0 := cc 0; have cc1 := cc 1; have fc0 := fc 0; have fc1 := fc 1
  simp only [List.getElem?_toArray, List.getElem?_cons_zero, List.getElem?_cons_succ] at cc0 cc1
  clear cc fc
  by_cases hlt : k < l.length
  ·have hz : (k : Int) < (l.length : Int) := by omega
   have hk1 : ((k : Int) + 1) ≤ 4294967296 := by have := HL.out; omega
   have hd : l.drop k = l[k] :: l.drop (k + 1) := List.drop_eq_getElem_cons hlt
   obtain ⟨x, hx⟩ : ∃ x, x = l[k] := ⟨_, rfl⟩
   rw [← hx] at hd
   obtain ⟨b, o, rfl, hblt, hcc⟩ := (HR.out.below HB.out) k hlt
   rw [← hx] at hcc
   have d0 := hcc 0 _ rfl; have d1 := hcc 1 _ rfl; have d2 := hcc 2 _ rfl; have d3 := hcc 3 _ rfl
   simp only [Nat.add_zero] at d0
   have hB1 : Below w.heap.size w (wr.alloc (.cells (encLn x).toArray 44)) := HB.out.trans ((Below.refl _ _).alloc (Nat.le_refl _) _ |>.mono HB.out.size)
   have hcall := HV.out k hlt _ (HM.out.below hB1)
   rw [← hx] at hcall
   have hH1 := heap_alloc HH.out (.cells (encLn x).toArray 44)
   have HCL := Lib.hid hcall; have HB1 := Lib.hid hB1; have HH1 := Lib.hid hH1
   have hD := HD.out
   rw [hd] at hD
   unfold checkS at hD
   clear hcall hB1 hH1 hcc hd hx
   obtain ⟨e, he⟩ : ∃ e, e = ln x := ⟨_, rfl⟩
   rw [← he] at HCL hD
   by_cases h0 : e = 0
   ·rw [if_pos h0] at hD
    have HD2 := Lib.hid hD
    subst h0
    clear hD he
    unfold encLn at *
    go_wp2_with fail
    refine HCL.out.mono ?_
    rintro e w2 ⟨rfl, hb2⟩
    have HB2 := Lib.hid (HB1.out.trans (hb2.mono HB1.out.size))
    have HH2 := Lib.hid (heap_below HH1.out hb2)
    clear hb2 HCL HB1 HH1 HH HB HD
    go_wp2_with fail
    go_roundg (l.length - (k + 1))
    case measure => omega
    case rel => exact ⟨k + 1, by omega, by go_num, HB2, HD2, HH2⟩
   ·rw [if_neg h0] at hD
    have HD2 := Lib.hid (show e = c ∧ x.at_ = a by simpa using hD)
    clear hD he
    unfold encLn at *
    go_wp2_with fail
    refine HCL.out.mono ?_
    rintro e2 w2 ⟨rfl, hb2⟩
    have HB2 := Lib.hid (HB1.out.trans (hb2.mono HB1.out.size))
    have HH2 := Lib.hid (heap_below HH1.out hb2)
    have hq : (wr.alloc (.cells #[.string ⟨x.sec.toArray⟩, .string ⟨x.key.toArray⟩, .string ⟨x.val.toArray⟩, .int .i64 x.at_] 44)).cell? ⟨wr.heap.size, 3, none⟩ = some (.int .i64 x.at_) := by rw [(rd (heap_alloc_new wr _)).1]; rfl
    have e3 : w2.cell? ⟨wr.heap.size, 3, none⟩ = some (.int .i64 x.at_) := (hb2.cell (p := ⟨wr.heap.size, 3, none⟩) (by simp)).trans hq
    obtain ⟨cc, fc, sc, lc2⟩ := rd HH2.out
    have gc0 := cc 0; have gc1 := cc 1; have hc0 := fc 0; have hc1 := fc 1
    simp only [List.getElem?_toArray, List.getElem?_cons_zero, List.getElem?_cons_succ] at gc0 gc1
    clear cc fc hb2 HCL HB1 HH1 HH HB HD hq cc0 cc1 fc0 fc1 d0 d1 d2 d3
    have hne : wr.heap.size ≠ w.heap.size := by omega
    clear sc lc2 hblt HR HV hk1 hlt hk
    clear lc
    generalize wr.heap.size = L at *
    go_wp2_with fail
    obtain ⟨rfl, rfl⟩ := HD2.out
    refine post_cell 4 37 w.heap.size _ rfl rfl rfl (loadVar_all 37 _ rfl rfl rfl (heap_setCell (heap_setCell HH2.out 0 _) 1 _)) ⟨rfl, ?_⟩
    exact (HB2.out.setCell (Nat.le_refl _) _).setCell (Nat.le_refl _) _
  ·have hz : ¬ ((k : Int) < (l.length : Int)) := by omega
   have hd : l.drop k = [] := List.drop_eq_nil_of_le (by omega)
   have HE := Lib.hid (show c = 0 ∧ a = 0 by have := HD.out; rw [hd] at this; simp [checkS] at this; exact ⟨this.1.symm, this.2.symm⟩)
   clear hd
   go_wp2_with fail
   obtain ⟨rfl, rfl⟩ := HE.out
   refine post_cell 4 37 w.heap.size _ rfl rfl rfl (loadVar_all 37 _ rfl rfl rfl (heap_setCell (heap_setCell HH.out 0 _) 1 _)) ⟨rfl, ?_⟩
   exact (HB.out.setCell (Nat.le_refl _) _).setCell (Nat.le_refl _) _
end Go.Proofs.YtdpnahojhmkemaaGreatDoor
namespace Go.Proofs.YtdpnahojhmkemaaGreatDoor
open Go Go.RowKit
set_option linter.unusedVariables false
set_option linter.unusedSimpArgs false
set_option maxRecDepth 100000
def rightW (k : KeyS) (v : Str) : Bool := if k.form = 6 then eachB unitB (blanksS v) else k.words.contains v
def valW (v : Str) (k : KeyS) : Int := valE k.form k.list v (rightW k v)
def lnW (kind : Int) (x : Ln) : Int := lineE (valW x.val) kind x.sec x.key
theorem value_w (k : KeyS) (kv : KeyV) (v : Str) (w : World) (hk : KvRd w kv k) (hf : k.form = 6 ∨ k.form = 10) (hw : k.words.length ≤ 4294967296) (hl : v.length < 4294967281) (hM : MaxAt w) :
  Calls Tryz.prog 15 #[.agg (encK kv).toArray, .string ⟨v.toArray⟩] w fun e w' => e = .returned (.int .i64 (valW v k)) ∧ Below w.heap.size w w' := by
 refine value_any kv v w (rightW k v) (fun W hW => ?_) _ (by unfold valW; rw [hk.form, hk.list])
 unfold rightW
 rcases hf with hf | hf
 ·rw [if_pos hf]
  exact right_names kv v W (hk.form.trans hf) hl (hM.below hW) _ rfl
 ·rw [if_neg (by rw [hf]; decide)]
  exact right_word kv k.words v W (hk.form.trans hf) hk.wl hw (hk.row.below hW) _ rfl
theorem line_w (kind : Int) (x : Ln) (w : World) (hM : MaxAt w) (hf : ∀ k, findKey x.sec x.key = some k → (k.form = 6 ∨ k.form = 10) ∧ k.words.length ≤ 4294967296) (hl : x.val.length < 4294967281) :
  Calls Tryz.prog 38 #[.int .i64 kind, .agg (encLn x).toArray] w fun e w' => e = .returned (.int .i64 (lnW kind x)) ∧ Below w.heap.size w w' :=
 line_any (valW x.val) kind x.sec x.key x.val x.at_ w hM (fun k kv W hk hkv hM2 => value_w k kv x.val W hkv (hf k hk).1 (hf k hk).2 hl hM2) _ rfl
theorem check_w (kind : Int) (l : List Ln) (oa : Option Addr) (cap : Nat) (w : World) (hl : l.length ≤ 4294967296) (hM : MaxAt w) (hr : RowRd encLn 4 w oa l)
  (hf : ∀ x ∈ l, (∀ k, findKey x.sec x.key = some k → (k.form = 6 ∨ k.form = 10) ∧ k.words.length ≤ 4294967296) ∧ x.val.length < 4294967281) (c a : Int) (hc : checkS (lnW kind) l = (c, a)) :
  Calls Tryz.prog 17 #[.int .i64 kind, .slice oa l.length cap] w fun e w' => e = .returned (.agg #[.int .i64 c, .int .i64 a]) ∧ Below w.heap.size w w' :=
 check_any (lnW kind) kind l oa cap w hl hM hr (fun i h W hW => line_w kind l[i] W hW (hf _ (List.getElem_mem h)).1 (hf _ (List.getElem_mem h)).2) c a hc
abbrev vAService : Str := [97, 46, 115, 101, 114, 118, 105, 99, 101]
abbrev vOdd : Str := [111, 100, 100]
def shLines : List Ln := [⟨nUnit, nAfter, vAService, 2⟩, ⟨nService, nType, vOdd, 4⟩]
def keyType : KeyS := ⟨nService, nType, 10, false, 2, [nsimple, noneshot, nnotify]⟩
theorem find_type : findKey nService nType = some keyType := by kernel_rfl
def keyAfter : KeyS := ⟨nUnit, nAfter, 6, true, 30, []⟩
theorem find_after : findKey nUnit nAfter = some keyAfter := by kernel_rfl
theorem val_type : valW nnotify keyType = 0 := by kernel_rfl
theorem check1 : checkS (lnW 1) shLines = (12, 4) := by kernel_rfl
theorem check4 : checkS (lnW 4) shLines = (10, 4) := by kernel_rfl
theorem sh_forms : ∀ x ∈ shLines, (∀ k, findKey x.sec x.key = some k → (k.form = 6 ∨ k.form = 10) ∧ k.words.length ≤ 4294967296) ∧ x.val.length < 4294967281 := by
 intro x hx
 unfold shLines at hx
 rcases List.mem_cons.1 hx with rfl | hx
 ·refine ⟨fun k hk => ?_, by decide⟩
  have := find_after.symm.trans hk
  injection this with this
  subst this
  exact ⟨.inl rfl, by decide⟩
 ·rcases List.mem_cons.1 hx with rfl | hx
  ·refine ⟨fun k hk => ?_, by decide⟩
   have := find_type.symm.trans hk
   injection this with this
   subst this
   exact ⟨.inr rfl, by decide⟩
  ·cases hx
end Go.Proofs.YtdpnahojhmkemaaGreatDoor
namespace Go.Proofs.YtdpnahojhmkemaaGreatDoor
open Go Go.RowKit
set_option linter.unusedVariables false
set_option linter.unusedSimpArgs false
set_option maxRecDepth 100000
abbrev yesS : List Str := [[121, 101, 115], [116, 114, 117, 101], [49], [110, 111], [102, 97, 108, 115, 101], [48]]
def numB (x : Str) : Bool := (numK x).2
def rightS (form : Int) (ws : List Str) (v : Str) : Bool :=
 if form = 1 then true
 else if form = 2 then yesS.contains v
 else if form = 3 then numB v
 else if form = 11 then eachB numB (blanksS v)
 else if form = 4 then (spanS v).2
 else if form = 9 then (calS v).isSome
 else if form = 5 then unitB v
 else if form = 6 then eachB unitB (blanksS v)
 else if form = 7 then (execS v).isSome
 else if form = 8 then (envS v).2
 else if form = 10 then ws.contains v
 else false
theorem strRow_new (w : World) (l : List Str) : StrRow (w.alloc (.cells (strVals l).toArray 9)) (some ⟨w.heap.size, 0, none⟩) l := splitStr_row w l
set_option maxHeartbeats 2000000 in
theorem right_text (kv : KeyV) (v : Str) (w : World) (hf : kv.form = 1) :
  Calls Tryz.prog 29 #[.agg (encK kv).toArray, .string ⟨v.toArray⟩] w fun e w' => e = .returned (.bool true) ∧ Below w.heap.size w w' := by
 obtain ⟨sec, name, form, list, kinds, wa, wn, wc⟩ := kv
 unfold encK
 simp only at *
 subst hf
 have hvz : (⟨v.toArray⟩ : ByteArray).size = v.length := by simp [ByteArray.size]
 have hB := (Below.refl w.heap.size w).alloc (Nat.le_refl _) (.cells #[.string ⟨sec.toArray⟩, .string ⟨name.toArray⟩, .int .i64 1, .bool list, .int .i64 kinds, .slice wa wn wc] 28)
 have HB := Lib.hid hB
 clear hB
 go_enter Tryz.func29, Tryz.ntmps29
 go_wp2_with fail
 go_ret
 exact ⟨rfl, HB.out⟩
set_option maxHeartbeats 2000000 in
theorem right_num (kv : KeyV) (v : Str) (w : World) (hf : kv.form = 3) (hl : v.length ≤ 1000000000) (m : Bool) (hm : numB v = m) :
  Calls Tryz.prog 29 #[.agg (encK kv).toArray, .string ⟨v.toArray⟩] w fun e w' => e = .returned (.bool m) ∧ Below w.heap.size w w' := by
 obtain ⟨sec, name, form, list, kinds, wa, wn, wc⟩ := kv
 unfold encK
 simp only at *
 subst hf
 have hvz : (⟨v.toArray⟩ : ByteArray).size = v.length := by simp [ByteArray.size]
 have hB := (Below.refl w.heap.size w).alloc (Nat.le_refl _) (.cells #[.string ⟨sec.toArray⟩, .string ⟨name.toArray⟩, .int .i64 3, .bool list, .int .i64 kinds, .slice wa wn wc] 28)
 have HB := Lib.hid hB
 have H := Lib.hid (keysnum_any ⟨v.toArray⟩ (w.alloc (.cells #[.string ⟨sec.toArray⟩, .string ⟨name.toArray⟩, .int .i64 3, .bool list, .int .i64 kinds, .slice wa wn wc] 28)) (by rw [hvz]; omega) m hm)
 clear hB hm
 go_enter Tryz.func29, Tryz.ntmps29
 go_wp2_with fail
 refine H.out.mono ?_
 rintro e w1 ⟨rfl, hb1⟩
 go_wp2_with fail
 go_ret
 exact ⟨rfl, HB.out.trans (hb1.mono HB.out.size)⟩
set_option maxHeartbeats 2000000 in
theorem right_span (kv : KeyV) (v : Str) (w : World) (hf : kv.form = 4) (hl : v.length ≤ 1000000000) (m : Bool) (hm : (spanS v).2 = m) :
  Calls Tryz.prog 29 #[.agg (encK kv).toArray, .string ⟨v.toArray⟩] w fun e w' => e = .returned (.bool m) ∧ Below w.heap.size w w' := by
 obtain ⟨sec, name, form, list, kinds, wa, wn, wc⟩ := kv
 unfold encK
 simp only at *
 subst hf
 have hvz : (⟨v.toArray⟩ : ByteArray).size = v.length := by simp [ByteArray.size]
 have hB := (Below.refl w.heap.size w).alloc (Nat.le_refl _) (.cells #[.string ⟨sec.toArray⟩, .string ⟨name.toArray⟩, .int .i64 4, .bool list, .int .i64 kinds, .slice wa wn wc] 28)
 have HB := Lib.hid hB
 obtain ⟨n, b, hv⟩ : ∃ n b, spanS v = (n, b) := ⟨_, _, rfl⟩
 obtain rfl : b = m := by rw [hv] at hm; exact hm
 have H := Lib.hid (spanParse_any ⟨v.toArray⟩ (w.alloc (.cells #[.string ⟨sec.toArray⟩, .string ⟨name.toArray⟩, .int .i64 4, .bool list, .int .i64 kinds, .slice wa wn wc] 28)) (by rw [hvz]; omega) n b hv)
 clear hB hm hv
 go_enter Tryz.func29, Tryz.ntmps29
 go_wp2_with fail
 refine H.out.mono ?_
 rintro e w1 ⟨rfl, hb1⟩
 go_wp2_with fail
 go_ret
 exact ⟨rfl, HB.out.trans (hb1.mono HB.out.size)⟩
set_option maxHeartbeats 2000000 in
theorem right_name (kv : KeyV) (v : Str) (w : World) (hf : kv.form = 5) (hl : v.length ≤ 1000000000) (hM : MaxAt w) (m : Bool) (hm : unitB v = m) :
  Calls Tryz.prog 29 #[.agg (encK kv).toArray, .string ⟨v.toArray⟩] w fun e w' => e = .returned (.bool m) ∧ Below w.heap.size w w' := by
 obtain ⟨sec, name, form, list, kinds, wa, wn, wc⟩ := kv
 unfold encK
 simp only at *
 subst hf
 have hvz : (⟨v.toArray⟩ : ByteArray).size = v.length := by simp [ByteArray.size]
 have hB := (Below.refl w.heap.size w).alloc (Nat.le_refl _) (.cells #[.string ⟨sec.toArray⟩, .string ⟨name.toArray⟩, .int .i64 5, .bool list, .int .i64 kinds, .slice wa wn wc] 28)
 have HB := Lib.hid hB
 have H := Lib.hid (unit_any ⟨v.toArray⟩ (w.alloc (.cells #[.string ⟨sec.toArray⟩, .string ⟨name.toArray⟩, .int .i64 5, .bool list, .int .i64 kinds, .slice wa wn wc] 28)) (by rw [hvz]; omega) (hM.below hB) m hm)
 clear hB hm hM
 go_enter Tryz.func29, Tryz.ntmps29
 go_wp2_with fail
 refine H.out.mono ?_
 rintro e w1 ⟨rfl, hb1⟩
 go_wp2_with fail
 go_ret
 exact ⟨rfl, HB.out.trans (hb1.mono HB.out.size)⟩
set_option maxHeartbeats 2000000 in
theorem right_cal (kv : KeyV) (v : Str) (w : World) (hf : kv.form = 9) (hl : v.length ≤ 1000000000) (hM : MaxAt w) (m : Bool) (hm : (calS v).isSome = m) :
  Calls Tryz.prog 29 #[.agg (encK kv).toArray, .string ⟨v.toArray⟩] w fun e w' => e = .returned (.bool m) ∧ Below w.heap.size w w' := by
 obtain ⟨sec, name, form, list, kinds, wa, wn, wc⟩ := kv
 unfold encK
 simp only at *
 subst hf
 have hvz : (⟨v.toArray⟩ : ByteArray).size = v.length := by simp [ByteArray.size]
 have hB := (Below.refl w.heap.size w).alloc (Nat.le_refl _) (.cells #[.string ⟨sec.toArray⟩, .string ⟨name.toArray⟩, .int .i64 9, .bool list, .int .i64 kinds, .slice wa wn wc] 28)
 have HB := Lib.hid hB
 have H := Lib.hid (calParse_any v (w.alloc (.cells #[.string ⟨sec.toArray⟩, .string ⟨name.toArray⟩, .int .i64 9, .bool list, .int .i64 kinds, .slice wa wn wc] 28)) (by omega) (hM.below hB))
 unfold CalOut at H
 rw [hm] at H
 clear hB hm hM
 go_enter Tryz.func29, Tryz.ntmps29
 go_wp2_with fail
 refine H.out.mono ?_
 rintro e w1 ⟨cs, rfl, -, -, hb1⟩
 go_wp2_with fail
 go_ret
 exact ⟨rfl, HB.out.trans (hb1.mono HB.out.size)⟩
set_option maxHeartbeats 2000000 in
theorem right_env (kv : KeyV) (v : Str) (w : World) (hf : kv.form = 8) (hl : v.length ≤ 1000000000) (hM : MaxAt w) (m : Bool) (hm : (envS v).2 = m) :
  Calls Tryz.prog 29 #[.agg (encK kv).toArray, .string ⟨v.toArray⟩] w fun e w' => e = .returned (.bool m) ∧ Below w.heap.size w w' := by
 obtain ⟨sec, name, form, list, kinds, wa, wn, wc⟩ := kv
 unfold encK
 simp only at *
 subst hf
 have hvz : (⟨v.toArray⟩ : ByteArray).size = v.length := by simp [ByteArray.size]
 have hB := (Below.refl w.heap.size w).alloc (Nat.le_refl _) (.cells #[.string ⟨sec.toArray⟩, .string ⟨name.toArray⟩, .int .i64 8, .bool list, .int .i64 kinds, .slice wa wn wc] 28)
 have HB := Lib.hid hB
 obtain ⟨ps, b, hv⟩ : ∃ ps b, envS v = (ps, b) := ⟨_, _, rfl⟩
 obtain rfl : b = m := by rw [hv] at hm; exact hm
 have H := Lib.hid (env_any ⟨v.toArray⟩ (w.alloc (.cells #[.string ⟨sec.toArray⟩, .string ⟨name.toArray⟩, .int .i64 8, .bool list, .int .i64 kinds, .slice wa wn wc] 28)) (by rw [hvz]; omega) (hM.below hB) ps b hv)
 clear hB hm hv hM
 go_enter Tryz.func29, Tryz.ntmps29
 go_wp2_with fail
 refine H.out.mono ?_
 rintro e w1 ⟨hb1, u, rfl, hown⟩
 obtain ⟨oa, cap, rfl⟩ := ownsRow_form hown
 go_wp2_with fail
 go_ret
 exact ⟨rfl, HB.out.trans (hb1.mono HB.out.size)⟩
set_option maxHeartbeats 2000000 in
theorem right_exec (kv : KeyV) (v : Str) (w : World) (hf : kv.form = 7) (hl : v.length ≤ 1000000000) (m : Bool) (hm : (execS v).isSome = m) :
  Calls Tryz.prog 29 #[.agg (encK kv).toArray, .string ⟨v.toArray⟩] w fun e w' => e = .returned (.bool m) ∧ Below w.heap.size w w' := by
 obtain ⟨sec, name, form, list, kinds, wa, wn, wc⟩ := kv
 unfold encK
 simp only at *
 subst hf
 have hvz : (⟨v.toArray⟩ : ByteArray).size = v.length := by simp [ByteArray.size]
 have hB := (Below.refl w.heap.size w).alloc (Nat.le_refl _) (.cells #[.string ⟨sec.toArray⟩, .string ⟨name.toArray⟩, .int .i64 7, .bool list, .int .i64 kinds, .slice wa wn wc] 28)
 have HB := Lib.hid hB
 have H := Lib.hid (exec_any ⟨v.toArray⟩ (w.alloc (.cells #[.string ⟨sec.toArray⟩, .string ⟨name.toArray⟩, .int .i64 7, .bool list, .int .i64 kinds, .slice wa wn wc] 28)) (by rw [hvz]; omega))
 unfold ExecOut at H
 rw [show (⟨v.toArray⟩ : ByteArray).data.toList = v from rfl] at H
 clear hB
 cases hx : execS v with
 | none =>
  rw [hx] at H hm
  obtain rfl : false = m := hm
  simp only at H
  clear hx
  go_enter Tryz.func29, Tryz.ntmps29
  go_wp2_with fail
  refine H.out.mono ?_
  rintro e w1 ⟨hb1, rfl⟩
  go_wp2_with fail
  go_ret
  exact ⟨rfl, HB.out.trans (hb1.mono HB.out.size)⟩
 | some p =>
  obtain ⟨d, l⟩ := p
  rw [hx] at H hm
  obtain rfl : true = m := hm
  simp only at H
  clear hx
  go_enter Tryz.func29, Tryz.ntmps29
  go_wp2_with fail
  refine H.out.mono ?_
  rintro e w1 ⟨hb1, wa2, wc2, rfl, -⟩
  go_wp2_with fail
  go_ret
  exact ⟨rfl, HB.out.trans (hb1.mono HB.out.size)⟩
set_option maxHeartbeats 2000000 in
theorem right_bool (kv : KeyV) (v : Str) (w : World) (hf : kv.form = 2) (m : Bool) (hm : yesS.contains v = m) :
  Calls Tryz.prog 29 #[.agg (encK kv).toArray, .string ⟨v.toArray⟩] w fun e w' => e = .returned (.bool m) ∧ Below w.heap.size w w' := by
 obtain ⟨sec, name, form, list, kinds, wa, wn, wc⟩ := kv
 unfold encK
 simp only at *
 subst hf
 have hvz : (⟨v.toArray⟩ : ByteArray).size = v.length := by simp [ByteArray.size]
 have hB := (Below.refl w.heap.size w).alloc (Nat.le_refl _) (.cells #[.string ⟨sec.toArray⟩, .string ⟨name.toArray⟩, .int .i64 2, .bool list, .int .i64 kinds, .slice wa wn wc] 28)
 have HB := Lib.hid hB
 have H := Lib.hid (show Calls Tryz.prog 44 #[.slice (some ⟨w.heap.size + 1, 0, none⟩) 6 6, .string ⟨v.toArray⟩] ((w.alloc (.cells #[.string ⟨sec.toArray⟩, .string ⟨name.toArray⟩, .int .i64 2, .bool list, .int .i64 kinds, .slice wa wn wc] 28)).alloc (.cells #[.string ⟨#[121, 101, 115]⟩, .string ⟨#[116, 114, 117, 101]⟩, .string ⟨#[49]⟩, .string ⟨#[110, 111]⟩, .string ⟨#[102, 97, 108, 115, 101]⟩, .string ⟨#[48]⟩] 9)) fun e w' => e = .returned (.bool m) ∧ w' = ((w.alloc (.cells #[.string ⟨sec.toArray⟩, .string ⟨name.toArray⟩, .int .i64 2, .bool list, .int .i64 kinds, .slice wa wn wc] 28)).alloc (.cells #[.string ⟨#[121, 101, 115]⟩, .string ⟨#[116, 114, 117, 101]⟩, .string ⟨#[49]⟩, .string ⟨#[110, 111]⟩, .string ⟨#[102, 97, 108, 115, 101]⟩, .string ⟨#[48]⟩] 9)) from by
  have := hasS_any (some ⟨(w.alloc (.cells #[.string ⟨sec.toArray⟩, .string ⟨name.toArray⟩, .int .i64 2, .bool list, .int .i64 kinds, .slice wa wn wc] 28)).heap.size, 0, none⟩) 6 yesS v ((w.alloc (.cells #[.string ⟨sec.toArray⟩, .string ⟨name.toArray⟩, .int .i64 2, .bool list, .int .i64 kinds, .slice wa wn wc] 28)).alloc (.cells (strVals yesS).toArray 9)) (by decide) (strRow_new (w.alloc (.cells #[.string ⟨sec.toArray⟩, .string ⟨name.toArray⟩, .int .i64 2, .bool list, .int .i64 kinds, .slice wa wn wc] 28)) yesS)
  rw [hm, show (w.alloc (.cells #[.string ⟨sec.toArray⟩, .string ⟨name.toArray⟩, .int .i64 2, .bool list, .int .i64 kinds, .slice wa wn wc] 28)).heap.size = w.heap.size + 1 by simp] at this
  exact this)
 have HB2 := Lib.hid ((Below.refl (w.alloc (.cells #[.string ⟨sec.toArray⟩, .string ⟨name.toArray⟩, .int .i64 2, .bool list, .int .i64 kinds, .slice wa wn wc] 28)).heap.size (w.alloc (.cells #[.string ⟨sec.toArray⟩, .string ⟨name.toArray⟩, .int .i64 2, .bool list, .int .i64 kinds, .slice wa wn wc] 28))).alloc (Nat.le_refl _) (.cells #[.string ⟨#[121, 101, 115]⟩, .string ⟨#[116, 114, 117, 101]⟩, .string ⟨#[49]⟩, .string ⟨#[110, 111]⟩, .string ⟨#[102, 97, 108, 115, 101]⟩, .string ⟨#[48]⟩] 9))
 clear hB hm
 go_enter Tryz.func29, Tryz.ntmps29
 go_wp2_with fail
 refine H.out.mono ?_
 rintro e w1 ⟨rfl, rfl⟩
 go_wp2_with fail
 go_ret
 exact ⟨rfl, HB.out.trans (HB2.out.mono HB.out.size)⟩
set_option maxHeartbeats 2000000 in
theorem right_ints (kv : KeyV) (v : Str) (w : World) (hf : kv.form = 11) (hl : v.length < 4294967281) (hM : MaxAt w) (m : Bool) (hm : eachB numB (blanksS v) = m) :
  Calls Tryz.prog 29 #[.agg (encK kv).toArray, .string ⟨v.toArray⟩] w fun e w' => e = .returned (.bool m) ∧ Below w.heap.size w w' := by
 obtain ⟨sec, name, form, list, kinds, wa, wn, wc⟩ := kv
 unfold encK
 simp only at *
 subst hf
 have hvz : (⟨v.toArray⟩ : ByteArray).size = v.length := by simp [ByteArray.size]
 have hB := (Below.refl w.heap.size w).alloc (Nat.le_refl _) (.cells #[.string ⟨sec.toArray⟩, .string ⟨name.toArray⟩, .int .i64 11, .bool list, .int .i64 kinds, .slice wa wn wc] 28)
 have HB := Lib.hid hB
 have HW := Lib.hid (charsWords_any ⟨v.toArray⟩ (w.alloc (.cells #[.string ⟨sec.toArray⟩, .string ⟨name.toArray⟩, .int .i64 11, .bool list, .int .i64 kinds, .slice wa wn wc] 28)) (by rw [hvz]; omega))
 have hln := blanksS_len v []
 have hmem := fldS_mem v.length v [] (by simp)
 have HE := Lib.hid (fun (A : Nat) (W : World) (hA : A < W.heap.size) (h1 : MaxAt W) (h2 : StrAt W A 0 (blanksS v)) =>
  each_any 45 enters_keysnum numB A 0 (blanksS v).length (blanksS v) W hA (by unfold blanksS; omega) h1 (fun W2 j hj hM2 => keysnum_any _ W2 (by
   have : (blanksS v)[j].length ≤ v.length := hmem _ (List.getElem_mem hj)
   show (blanksS v)[j].toArray.size ≤ _
   simp; omega) _ rfl) h2 m hm)
 have HM := Lib.hid (hM.below hB)
 clear hln hmem hB hM hl hm hvz
 go_enter Tryz.func29, Tryz.ntmps29
 go_wp2_with fail
 refine HW.out.mono ?_
 rintro e w1 ⟨A, rfl, hA, hA2, hs, hb1⟩
 have hh := HE.out A w1 hA2 (HM.out.below hb1) hs
 have HH := Lib.hid hh
 have HB1 := Lib.hid (HB.out.trans (hb1.mono HB.out.size))
 clear hA hA2 hs hb1 hh HE HW HM HB
 simp only
 generalize (blanksS v).length = n at *
 go_wp2_with fail
 refine HH.out.mono ?_
 rintro e w2 ⟨rfl, hb2⟩
 have HB2 := Lib.hid (HB1.out.trans (hb2.mono HB1.out.size))
 clear hb2
 go_wp2_with fail
 go_ret
 exact ⟨rfl, HB2.out⟩
set_option maxHeartbeats 2000000 in
theorem right_else (kv : KeyV) (v : Str) (w : World) (h1 : ¬ kv.form = 1) (h2 : ¬ kv.form = 2) (h3 : ¬ kv.form = 3) (h11 : ¬ kv.form = 11) (h4 : ¬ kv.form = 4) (h9 : ¬ kv.form = 9) (h5 : ¬ kv.form = 5) (h6 : ¬ kv.form = 6) (h7 : ¬ kv.form = 7) (h8 : ¬ kv.form = 8) (h10 : ¬ kv.form = 10) :
  Calls Tryz.prog 29 #[.agg (encK kv).toArray, .string ⟨v.toArray⟩] w fun e w' => e = .returned (.bool false) ∧ Below w.heap.size w w' := by
 obtain ⟨sec, name, form, list, kinds, wa, wn, wc⟩ := kv
 unfold encK
 simp only at *
 have HB := Lib.hid ((Below.refl w.heap.size w).alloc (Nat.le_refl _) (.cells #[.string ⟨sec.toArray⟩, .string ⟨name.toArray⟩, .int .i64 form, .bool list, .int .i64 kinds, .slice wa wn wc] 28))
 go_enter Tryz.func29, Tryz.ntmps29
 go_wp2_with fail
 go_ret
 exact ⟨rfl, HB.out⟩
theorem right_any (kv : KeyV) (ws : List Str) (v : Str) (w : World) (hn : kv.wn = ws.length) (hl : ws.length ≤ 4294967296) (hw : StrRow w kv.wa ws) (hv : v.length ≤ 1000000000) (hM : MaxAt w) :
  Calls Tryz.prog 29 #[.agg (encK kv).toArray, .string ⟨v.toArray⟩] w fun e w' => e = .returned (.bool (rightS kv.form ws v)) ∧ Below w.heap.size w w' := by
 unfold rightS
 by_cases h1 : kv.form = 1
 ·rw [if_pos h1]; exact right_text kv v w h1
 rw [if_neg h1]
 by_cases h2 : kv.form = 2
 ·rw [if_pos h2]; exact right_bool kv v w h2 _ rfl
 rw [if_neg h2]
 by_cases h3 : kv.form = 3
 ·rw [if_pos h3]; exact right_num kv v w h3 hv _ rfl
 rw [if_neg h3]
 by_cases h11 : kv.form = 11
 ·rw [if_pos h11]; exact right_ints kv v w h11 (by omega) hM _ rfl
 rw [if_neg h11]
 by_cases h4 : kv.form = 4
 ·rw [if_pos h4]; exact right_span kv v w h4 hv _ rfl
 rw [if_neg h4]
 by_cases h9 : kv.form = 9
 ·rw [if_pos h9]; exact right_cal kv v w h9 hv hM _ rfl
 rw [if_neg h9]
 by_cases h5 : kv.form = 5
 ·rw [if_pos h5]; exact right_name kv v w h5 hv hM _ rfl
 rw [if_neg h5]
 by_cases h6 : kv.form = 6
 ·rw [if_pos h6]; exact right_names kv v w h6 (by omega) hM _ rfl
 rw [if_neg h6]
 by_cases h7 : kv.form = 7
 ·rw [if_pos h7]; exact right_exec kv v w h7 hv _ rfl
 rw [if_neg h7]
 by_cases h8 : kv.form = 8
 ·rw [if_pos h8]; exact right_env kv v w h8 hv hM _ rfl
 rw [if_neg h8]
 by_cases h10 : kv.form = 10
 ·rw [if_pos h10]; exact right_word kv ws v w h10 hn hl hw _ rfl
 rw [if_neg h10]
 exact right_else kv v w h1 h2 h3 h11 h4 h9 h5 h6 h7 h8 h10
def valS (v : Str) (k : KeyS) : Int := valE k.form k.list v (rightS k.form k.words v)
def lnS (kind : Int) (x : Ln) : Int := lineE (valS x.val) kind x.sec x.key
theorem value_key (k : KeyS) (kv : KeyV) (v : Str) (w : World) (hk : KvRd w kv k) (hw : k.words.length ≤ 4294967296) (hl : v.length ≤ 1000000000) (hM : MaxAt w) :
  Calls Tryz.prog 15 #[.agg (encK kv).toArray, .string ⟨v.toArray⟩] w fun e w' => e = .returned (.int .i64 (valS v k)) ∧ Below w.heap.size w w' := by
 refine value_any kv v w (rightS k.form k.words v) (fun W hW => ?_) _ (by unfold valS; rw [hk.form, hk.list])
 have := right_any kv k.words v W hk.wl hw (hk.row.below hW) hl (hM.below hW)
 rw [hk.form] at this
 exact this
theorem words_few0 : (allKeys.all fun k => decide (k.words.length ≤ 100)) = true := by kernel_rfl
theorem words_few : ∀ k ∈ allKeys, k.words.length ≤ 100 := fun k hk => of_decide_eq_true (List.all_eq_true.1 words_few0 k hk)
theorem find_mem (sec name : Str) (k : KeyS) (h : findKey sec name = some k) : k ∈ allKeys := by
 unfold findKey at h
 exact List.mem_of_find?_eq_some h
theorem line_key (kind : Int) (x : Ln) (w : World) (hM : MaxAt w) (hl : x.val.length ≤ 1000000000) :
  Calls Tryz.prog 38 #[.int .i64 kind, .agg (encLn x).toArray] w fun e w' => e = .returned (.int .i64 (lnS kind x)) ∧ Below w.heap.size w w' :=
 line_any (valS x.val) kind x.sec x.key x.val x.at_ w hM (fun k kv W hk hkv hM2 => value_key k kv x.val W hkv (Nat.le_trans (words_few k (find_mem _ _ k hk)) (by decide)) hl hM2) _ rfl
theorem check_key (kind : Int) (l : List Ln) (oa : Option Addr) (cap : Nat) (w : World) (hl : l.length ≤ 4294967296) (hM : MaxAt w) (hr : RowRd encLn 4 w oa l)
  (hf : ∀ x ∈ l, x.val.length ≤ 1000000000) (c a : Int) (hc : checkS (lnS kind) l = (c, a)) :
  Calls Tryz.prog 17 #[.int .i64 kind, .slice oa l.length cap] w fun e w' => e = .returned (.agg #[.int .i64 c, .int .i64 a]) ∧ Below w.heap.size w w' :=
 check_any (lnS kind) kind l oa cap w hl hM hr (fun i h W hW => line_key kind l[i] W hW (hf _ (List.getElem_mem h))) c a hc
end Go.Proofs.YtdpnahojhmkemaaGreatDoor
