import Derived.Test.YtdjkedcpehhmnaaGreatDoorUS35
import Derived.Test.YtdjkedcpehhmnaaGreatDoorUS36
namespace Go.Proofs.YtdjkedcpehhmnaaGreatDoor
open Go Go.RowKit
set_option linter.unusedVariables false
set_option linter.unusedSimpArgs false
set_option maxRecDepth 100000
set_option maxHeartbeats 4000000 in
theorem put_word (U j : Nat) (cs : Array Value) (F : Nat → Prop) (v : Value) (w : World) (hb : w.heap[U]? = some (.cells cs 30 (0, 0))) (hj : cs[j]? = some v) (hFU : ¬ F U) (hF : ∀ k, F k → k < w.heap.size) (hM : MaxAt w)
  (kv : KeyV) (hf : kv.form = 10) (ws : List Str) (hwn : kv.wn = ws.length) (hwl : ws.length ≤ 4294967296) (hws : StrRow w kv.wa ws) (HSL : ∀ W, Calls Tryz.prog 88 #[.pointer (some ⟨U, 0, none⟩), .string ⟨kv.name.toArray⟩] W fun e w' => e = .returned (.pointer (some ⟨U, j, none⟩)) ∧ w' = W) (val : Str) (hval : val.length ≤ 100000000) :
  Calls Tryz.prog 52 #[.pointer (some ⟨U, 0, none⟩), .agg (encK kv).toArray, .string ⟨val.toArray⟩] w fun e w' => e = .returned (.bool true) ∧ PutAt w w' U cs j F (.n (wordIx ws val 0 + 1)) := by
 obtain ⟨sec, name, form, list, kinds, wa, wn, wc⟩ := kv
 unfold encK
 simp only at *
 subst hf
 have hUl := lt_heap hb
 have hB := (Below.refl w.heap.size w).alloc (Nat.le_refl _) (.cells #[.string ⟨sec.toArray⟩, .string ⟨name.toArray⟩, .int .i64 10, .bool list, .int .i64 kinds, .slice wa wn wc] 41)
 have hbx := heap_alloc_new w (.cells #[.string ⟨sec.toArray⟩, .string ⟨name.toArray⟩, .int .i64 10, .bool list, .int .i64 kinds, .slice wa wn wc] 41)
 have hbu := heap_below hb hB
 have HB := h_ hB; have HBX := h_ hbx; have HBU := h_ hbu; have HJ := h_ hj; have HFU := h_ hFU; have HF := h_ hF
 have HM1 := h_ (hM.below hB)
 have hne : U ≠ w.heap.size := by omega
 have hjs : j < cs.size := (Array.getElem?_eq_some_iff.1 hj).1
 subst hwn
 have HS := h_ HSL
 have hwrow : StrRow (w.alloc (.cells #[.string ⟨sec.toArray⟩, .string ⟨name.toArray⟩, .int .i64 10, .bool list, .int .i64 kinds, .slice wa ws.length wc] 41)).drew wa ws := hws.below (hB.trans (below_dn ⟨1, rfl⟩))
 have HC := h_ (indexS_any wa wc ws val _ hwl hwrow)
 obtain ⟨n, hn⟩ : ∃ n, n = wordIx ws val 0 := ⟨_, rfl⟩
 have hnb : -1 ≤ n ∧ n ≤ 4294967296 := by
  rw [hn]; have := wordIx_le ws val 0; omega
 have HNB := h_ hnb
 rw [← hn] at HC ⊢
 clear hB hbx hbu hb hj hFU hF hM hws HSL hn hnb
 obtain ⟨c0, c1, c2, c3, c4, c5⟩ := cells6 HBX.out
 go_enter Tryz.func52, Tryz.ntmps52
 go_wp2_with fail
 generalize w.alloc (.cells #[.string ⟨sec.toArray⟩, .string ⟨name.toArray⟩, .int .i64 10, .bool list, .int .i64 kinds, .slice wa ws.length wc] 41) = wb at *
 refine wp_region_drawT (S := fun V => V.heap[U]? = some (.cells cs 30 (0, 0)) ∧ V.heap[w.heap.size]? = some (.cells #[.string ⟨sec.toArray⟩, .string ⟨name.toArray⟩, .int .i64 10, .bool list, .int .i64 kinds, .slice wa ws.length wc] 41 (0, 0))) 7 (by kernel_rfl) (by kernel_rfl) (show _ ∧ _ from ⟨HBU.out, HBX.out⟩) (fun hHeld => ?_)
 try simp only [Act.put, sA_, sB_, sC_]
 refine dT_ (i := 0) (v := .pointer (some ⟨U, 0, none⟩)) (gT_ rfl) (fun W hW => by obtain ⟨x0, x1, x2, x3, x4, x5⟩ := cells6 hW.2; clear hW; go_simp) ?_
 try simp only [Act.put, sA_, sB_, sC_]
 refine dT_ (i := 1) (v := .pointer (some ⟨w.heap.size, 1, none⟩)) (gT_ rfl) (fun W hW => by obtain ⟨x0, x1, x2, x3, x4, x5⟩ := cells6 hW.2; clear hW; go_simp) ?_
 try simp only [Act.put, sA_, sB_, sC_]
 refine dT_ (i := 2) (v := .string ⟨name.toArray⟩) (gT_ rfl) (fun W hW => by obtain ⟨x0, x1, x2, x3, x4, x5⟩ := cells6 hW.2; clear hW; go_simp) ?_
 try simp only [Act.put, sA_, sB_, sC_]
 refine dT_ (i := 4) (v := .pointer (some ⟨w.heap.size, 5, none⟩)) (gT_ rfl) (fun W hW => by obtain ⟨x0, x1, x2, x3, x4, x5⟩ := cells6 hW.2; clear hW; go_simp) ?_
 try simp only [Act.put, sA_, sB_, sC_]
 refine dT_ (i := 5) (v := .slice wa ws.length wc) (gT_ rfl) (fun W hW => by obtain ⟨x0, x1, x2, x3, x4, x5⟩ := cells6 hW.2; clear hW; go_simp) ?_
 try simp only [Act.put, sA_, sB_, sC_]
 refine dT_ (i := 6) (v := .string ⟨val.toArray⟩) (gT_ rfl) (fun W hW => by obtain ⟨x0, x1, x2, x3, x4, x5⟩ := cells6 hW.2; clear hW; go_simp) ?_
 try simp only [Act.put, sA_, sB_, sC_]
 refine drawT_one (i := 3) (gT_ rfl) (by kernel_rfl) (by kernel_rfl) (fun K hK => ?_)
 clear hHeld
 rw [if_pos (by rfl)]
 go_simp
 refine (HS.out _).mono ?_
 rintro e w6 ⟨rfl, rfl⟩
 refine hK.out _ _ (show _ ∧ _ from ⟨HBU.out, HBX.out⟩) (fun hHeld => ?_)
 clear hK K
 try simp only [Act.put, sA_, sB_, sC_]
 refine drawT_done (by kernel_rfl) ?_
 clear hHeld
 have hbu2 : wb.drew.heap[U]? = some (.cells cs 30 (0, 0)) := HBU.out
 obtain ⟨u1, u2, u3, _⟩ := rd hbu2
 have u10 := (u1 j).trans HJ.out; have u20 := u2 j
 have HPP := h_ (PutAt.of_store (w := w) (j := j) (F := F) (F' := fun _ => False) (c := .n (n + 1)) (v := .int .i64 (n + 1)) hbu2 rfl (Fr.of_below (HB.out.trans (below_dn ⟨1, rfl⟩)) _) rfl (fun k hk => hk.elim) (fun e => e))
 clear u1 u2 hbu2
 go_wp2_with fail
 refine HC.out.mono ?_
 rintro e w6 ⟨rfl, rfl⟩
 obtain ⟨hn1, hn2⟩ := HNB.out
 go_wp2_with fail
 go_ret
 exact ⟨rfl, HPP.out⟩
theorem exec_cmd {w w' : World} {s : Str} {e : Ending} (h : ExecOut w s e w') : Below w.heap.size w w' ∧ ∃ (x : CmdV) (b : Bool), e = .returned (.tuple #[.agg #[.bool x.dash, .slice x.wa x.wn x.wc], .bool b]) ∧
  CmdAt w' (fun g => (Value.slice x.wa x.wn x.wc).ownBlock = some g) x ((execS s).getD (false, [])) ∧ ∀ g, (Value.slice x.wa x.wn x.wc).ownBlock = some g → w.heap.size ≤ g ∧ g < w'.heap.size := by
 obtain ⟨hb, h⟩ := h
 refine ⟨hb, ?_⟩
 cases hx : execS s with
 | none =>
  rw [hx] at h
  exact ⟨⟨false, none, 0, 0⟩, false, h, ⟨rfl, rfl, World.ownsRow_nil _ _ _ _, fun g hg => hg⟩, fun g hg => by simp [Value.ownBlock] at hg⟩
 | some c =>
  obtain ⟨d, l⟩ := c
  rw [hx] at h
  obtain ⟨wa, wc, he, ho⟩ := h
  exact ⟨⟨d, wa, l.length, wc⟩, true, he, ⟨rfl, rfl, ⟨ho.1, ho.2.imp id (fun ⟨g, cap, cur, q, _, r⟩ => ⟨g, cap, cur, q, Nat.zero_le _, r⟩)⟩, fun g hg => hg⟩, fun g hg => ho.lt g hg⟩
set_option maxHeartbeats 4000000 in
theorem put_exec (U j : Nat) (cs : Array Value) (F : Nat → Prop) (v : Value) (w : World) (hb : w.heap[U]? = some (.cells cs 30 (0, 0))) (hj : cs[j]? = some v) (hFU : ¬ F U) (hF : ∀ k, F k → k < w.heap.size) (hM : MaxAt w)
  (kv : KeyV) (hf : kv.form = 7) (l : List CmdS) (hv : UcAt w F (.cs l) v) (hl : l.length ≤ 100000) (HSL : ∀ W, Calls Tryz.prog 92 #[.pointer (some ⟨U, 0, none⟩), .string ⟨kv.name.toArray⟩] W fun e w' => e = .returned (.pointer (some ⟨U, j, none⟩)) ∧ w' = W) (val : Str) (hval : val.length ≤ 100000000) :
  Calls Tryz.prog 52 #[.pointer (some ⟨U, 0, none⟩), .agg (encK kv).toArray, .string ⟨val.toArray⟩] w fun e w' => e = .returned (.bool true) ∧ PutAt w w' U cs j F (.cs (moreS l val ((execS val).getD (false, [])))) := by
 obtain ⟨sec, name, form, list, kinds, wa, wn, wc⟩ := kv
 unfold encK
 simp only at *
 subst hf
 have hUl := lt_heap hb
 have hB := (Below.refl w.heap.size w).alloc (Nat.le_refl _) (.cells #[.string ⟨sec.toArray⟩, .string ⟨name.toArray⟩, .int .i64 7, .bool list, .int .i64 kinds, .slice wa wn wc] 41)
 have hbx := heap_alloc_new w (.cells #[.string ⟨sec.toArray⟩, .string ⟨name.toArray⟩, .int .i64 7, .bool list, .int .i64 kinds, .slice wa wn wc] 41)
 have hbu := heap_below hb hB
 have HB := h_ hB; have HBX := h_ hbx; have HBU := h_ hbu; have HJ := h_ hj; have HFU := h_ hFU; have HF := h_ hF
 have HM1 := h_ (hM.below hB)
 have hne : U ≠ w.heap.size := by omega
 have hjs : j < cs.size := (Array.getElem?_eq_some_iff.1 hj).1
 have HS := h_ HSL
 have HE := h_ (exec_any ⟨val.toArray⟩ (w.alloc (.cells #[.string ⟨sec.toArray⟩, .string ⟨name.toArray⟩, .int .i64 7, .bool list, .int .i64 kinds, .slice wa wn wc] 41)) (by show val.toArray.size ≤ _; simp; omega))
 have hv1 := hv.fr (M := fun _ => False) (Fr.of_below hB _) (fun _ _ e => e)
 have HV1 := h_ hv1
 obtain ⟨cm, hc0⟩ : ∃ cm, cm = (execS val).getD (false, []) := ⟨_, rfl⟩
 have HC0 := h_ hc0
 rw [← hc0]
 clear hB hbx hbu hb hj hFU hF hM hv HSL hc0 hv1
 obtain ⟨c0, c1, c2, c3, c4, c5⟩ := cells6 HBX.out
 go_enter Tryz.func52, Tryz.ntmps52
 go_wp2_with fail
 generalize w.alloc (.cells #[.string ⟨sec.toArray⟩, .string ⟨name.toArray⟩, .int .i64 7, .bool list, .int .i64 kinds, .slice wa wn wc] 41) = wb at *
 refine HE.out.mono ?_
 intro e w3 he
 obtain ⟨hb3, ⟨d, xa, xn, xc⟩, b, rfl, hcm, hG⟩ := exec_cmd he
 simp only at hcm hG ⊢
 change CmdAt w3 _ _ ((execS val).getD (false, [])) at hcm
 rw [← HC0.out] at hcm
 have hB4 : Below w3.heap.size w3 (w3.alloc (.cells #[.bool d, .slice xa xn xc] 56)) := (Below.refl _ _).alloc (Nat.le_refl _) _
 have hB5 : Below w3.heap.size w3 (w3.alloc (.cells #[.bool d, .slice xa xn xc] 56)).drew := hB4.trans (below_dn ⟨1, rfl⟩)
 have hbb5 : Below wb.heap.size wb (w3.alloc (.cells #[.bool d, .slice xa xn xc] 56)).drew := Below.more hb3 hB5
 have HS0 := h_ (And.intro (heap_below HBU.out (Below.more hb3 hB4)) (And.intro (heap_below HBX.out (Below.more hb3 hB4)) (heap_alloc_new w3 (.cells #[.bool d, .slice xa xn xc] 56))))
 have hsz := HB.out.size
 have HMR := h_ (moreExec_any U j cs F l v (w3.alloc (.cells #[.bool d, .slice xa xn xc] 56)).drew (heap_below HBU.out hbb5) HJ.out (HV1.out.fr (M := fun _ => False) (Fr.of_below hbb5 _) (fun _ _ e => e)) HFU.out (fun k hk => by have := HF.out k hk; have := hbb5.size; omega) (by omega) val ⟨d, xa, xn, xc⟩ cm _ (hcm.fr (M := fun _ => False) (Fr.of_below hB5 _) (fun _ _ e => e)) (fun g hg => by
  have h1 := hG g hg
  refine ⟨by omega, fun h => ?_, ?_⟩
  ·have := HF.out g h; omega
  ·have := hB5.size; omega))
 have HBF := h_ (HB.out.trans (hbb5.mono hsz))
 have HG := h_ (show ∀ g, (Value.slice xa xn xc).ownBlock = some g → w.heap.size ≤ g from fun g hg => Nat.le_trans hsz (hG g hg).1)
 unfold encX at HMR
 clear hb3 hcm hG hB4 hB5 hbb5 he HV1 HE
 go_wp2_with fail
 refine wp_region_drawT (S := fun V => V.heap[U]? = some (.cells cs 30 (0, 0)) ∧ V.heap[w.heap.size]? = some (.cells #[.string ⟨sec.toArray⟩, .string ⟨name.toArray⟩, .int .i64 7, .bool list, .int .i64 kinds, .slice wa wn wc] 41 (0, 0)) ∧ V.heap[w3.heap.size]? = some (.cells #[.bool d, .slice xa xn xc] 56 (0, 0))) 6 (by kernel_rfl) (by kernel_rfl) (show _ ∧ _ ∧ _ from HS0.out) (fun hHeld => ?_)
 try simp only [Act.put, sA_, sB_, sC_]
 refine dT_ (i := 0) (v := .pointer (some ⟨U, 0, none⟩)) (gT_ rfl) (fun W hW => by obtain ⟨x0, x1, x2, x3, x4, x5⟩ := cells6 hW.2.1; obtain ⟨q1, q2⟩ := cells2 hW.2.2; clear hW; go_simp) ?_
 try simp only [Act.put, sA_, sB_, sC_]
 refine dT_ (i := 1) (v := .pointer (some ⟨w.heap.size, 1, none⟩)) (gT_ rfl) (fun W hW => by obtain ⟨x0, x1, x2, x3, x4, x5⟩ := cells6 hW.2.1; obtain ⟨q1, q2⟩ := cells2 hW.2.2; clear hW; go_simp) ?_
 try simp only [Act.put, sA_, sB_, sC_]
 refine dT_ (i := 2) (v := .string ⟨name.toArray⟩) (gT_ rfl) (fun W hW => by obtain ⟨x0, x1, x2, x3, x4, x5⟩ := cells6 hW.2.1; obtain ⟨q1, q2⟩ := cells2 hW.2.2; clear hW; go_simp) ?_
 try simp only [Act.put, sA_, sB_, sC_]
 refine dT_ (i := 4) (v := .string ⟨val.toArray⟩) (gT_ rfl) (fun W hW => by obtain ⟨x0, x1, x2, x3, x4, x5⟩ := cells6 hW.2.1; obtain ⟨q1, q2⟩ := cells2 hW.2.2; clear hW; go_simp) ?_
 try simp only [Act.put, sA_, sB_, sC_]
 refine dT_ (i := 5) (v := .agg #[.bool d, .slice xa xn xc]) (gT_ rfl) (fun W hW => by obtain ⟨x0, x1, x2, x3, x4, x5⟩ := cells6 hW.2.1; obtain ⟨q1, q2⟩ := cells2 hW.2.2; clear hW; go_simp) ?_
 try simp only [Act.put, sA_, sB_, sC_]
 refine drawT_one (i := 3) (gT_ rfl) (by kernel_rfl) (by kernel_rfl) (fun K hK => ?_)
 clear hHeld
 rw [if_pos (by rfl)]
 go_simp
 refine (HS.out _).mono ?_
 rintro e w6 ⟨rfl, rfl⟩
 refine hK.out _ _ (show _ ∧ _ ∧ _ from HS0.out) (fun hHeld => ?_)
 clear hK K
 try simp only [Act.put, sA_, sB_, sC_]
 refine drawT_done (by kernel_rfl) ?_
 clear hHeld
 go_wp2_with fail
 refine HMR.out.mono ?_
 rintro e w7 ⟨rfl, hp⟩
 have HP := h_ (PutAt.belowG HBF.out HG.out hp)
 clear hp
 go_wp2_with fail
 go_ret
 exact ⟨rfl, HP.out⟩
def UC.tag : UC → Nat | .s _ => 0 | .n _ => 1 | .b _ => 2 | .ss _ => 3 | .ns _ => 4 | .rs _ => 5 | .cs _ => 6 | .ps _ => 7
def TypedU (u : UV) : Prop := ∀ j, (u j).tag = (zeroU j).tag
theorem TypedU.zero : TypedU zeroU := fun _ => rfl
theorem TypedU.upd {u : UV} (h : TypedU u) (i : Nat) (c : UC) (hc : c.tag = (zeroU i).tag) : TypedU (u.upd i c) := by
 intro j
 unfold UV.upd
 split
 ·rename_i e; rw [e]; exact hc
 ·exact h j
theorem TypedU.new (s : Str) : TypedU (newU s) := by
 unfold newU
 split
 ·exact TypedU.zero
 ·simp only
  split
  ·repeat' (first | exact TypedU.zero | refine TypedU.upd ?_ _ _ ?_)
   all_goals rfl
  ·split
   ·repeat' (first | exact TypedU.zero | refine TypedU.upd ?_ _ _ ?_)
    all_goals rfl
   ·repeat' (first | exact TypedU.zero | refine TypedU.upd ?_ _ _ ?_)
    all_goals rfl
theorem tag_s {c : UC} (h : c.tag = 0) : ∃ x, c = .s x := by cases c <;> first | exact ⟨_, rfl⟩ | cases h
theorem tag_n {c : UC} (h : c.tag = 1) : ∃ x, c = .n x := by cases c <;> first | exact ⟨_, rfl⟩ | cases h
theorem tag_b {c : UC} (h : c.tag = 2) : ∃ x, c = .b x := by cases c <;> first | exact ⟨_, rfl⟩ | cases h
theorem tag_ss {c : UC} (h : c.tag = 3) : ∃ x, c = .ss x := by cases c <;> first | exact ⟨_, rfl⟩ | cases h
theorem tag_ns {c : UC} (h : c.tag = 4) : ∃ x, c = .ns x := by cases c <;> first | exact ⟨_, rfl⟩ | cases h
theorem tag_rs {c : UC} (h : c.tag = 5) : ∃ x, c = .rs x := by cases c <;> first | exact ⟨_, rfl⟩ | cases h
theorem tag_cs {c : UC} (h : c.tag = 6) : ∃ x, c = .cs x := by cases c <;> first | exact ⟨_, rfl⟩ | cases h
theorem tag_ps {c : UC} (h : c.tag = 7) : ∃ x, c = .ps x := by cases c <;> first | exact ⟨_, rfl⟩ | cases h
theorem tabF1 : ∀ k ∈ allKeys, k.form = 1 → (k.name, slotK k.name) ∈ slotTextK ∧ (zeroU (slotK k.name)).tag = 0 := by decide +kernel
theorem tabF2 : ∀ k ∈ allKeys, k.form = 2 → (k.name, slotK k.name) ∈ slotFlagK ∧ (zeroU (slotK k.name)).tag = 2 := by decide +kernel
theorem tabF3 : ∀ k ∈ allKeys, k.form = 3 → (k.name, slotK k.name) ∈ slotNumberK ∧ (zeroU (slotK k.name)).tag = 1 := by decide +kernel
theorem tabF10 : ∀ k ∈ allKeys, k.form = 10 → (k.name, slotK k.name) ∈ slotNumberK ∧ (zeroU (slotK k.name)).tag = 1 := by decide +kernel
theorem tabF5 : ∀ k ∈ allKeys, k.form = 5 → (k.name, slotK k.name) ∈ slotTextK ∧ (zeroU (slotK k.name)).tag = 0 := by decide +kernel
theorem tabF7 : ∀ k ∈ allKeys, k.form = 7 → (k.name, slotK k.name) ∈ slotExecsK ∧ (zeroU (slotK k.name)).tag = 6 := by decide +kernel
theorem tabF8 : ∀ k ∈ allKeys, k.form = 8 → slotK k.name = 19 := by decide +kernel
theorem tabF9 : ∀ k ∈ allKeys, k.form = 9 → (k.name, slotK k.name) ∈ slotTextsK ∧ (zeroU (slotK k.name)).tag = 3 := by decide +kernel
theorem tabF11 : ∀ k ∈ allKeys, k.form = 11 → (k.name, slotK k.name) ∈ slotNumbersK ∧ (zeroU (slotK k.name)).tag = 4 ∧ (k.name != [76, 105, 115, 116, 101, 110, 83, 116, 114, 101, 97, 109]) = !(slotK k.name == 21) := by decide +kernel
theorem tabF4 : ∀ k ∈ allKeys, k.form = 4 → (k.list = true ∧ (k.name, slotK k.name) ∈ slotNumbersK ∧ (zeroU (slotK k.name)).tag = 4) ∨ (k.list = false ∧ (k.name, slotK k.name) ∈ slotNumberK ∧ (zeroU (slotK k.name)).tag = 1) := by decide +kernel
theorem tabF6 : ∀ k ∈ allKeys, k.form = 6 → (relK k.name = 0 ∧ (k.name, slotK k.name) ∈ slotTextsK ∧ (zeroU (slotK k.name)).tag = 3) ∨ (0 < relK k.name ∧ slotK k.name = 4) := by decide +kernel
theorem tabFs : ∀ k ∈ allKeys, slotK k.name < 35 ∧ slotK k.name ≠ 0 ∧ slotK k.name ≠ 1 := by decide +kernel
theorem tabFf : ∀ k ∈ allKeys, k.form = 1 ∨ k.form = 2 ∨ k.form = 3 ∨ k.form = 10 ∨ k.form = 5 ∨ k.form = 7 ∨ k.form = 8 ∨ k.form = 9 ∨ k.form = 11 ∨ k.form = 4 ∨ k.form = 6 := by decide +kernel
theorem tabF : ∀ k ∈ allKeys, slotK k.name < 35 ∧ slotK k.name ≠ 0 ∧ slotK k.name ≠ 1 ∧ (
  (k.form = 1 ∧ (k.name, slotK k.name) ∈ slotTextK ∧ (zeroU (slotK k.name)).tag = 0) ∨ (k.form = 2 ∧ (k.name, slotK k.name) ∈ slotFlagK ∧ (zeroU (slotK k.name)).tag = 2) ∨
  (k.form = 3 ∧ (k.name, slotK k.name) ∈ slotNumberK ∧ (zeroU (slotK k.name)).tag = 1) ∨ (k.form = 10 ∧ (k.name, slotK k.name) ∈ slotNumberK ∧ (zeroU (slotK k.name)).tag = 1) ∨
  (k.form = 5 ∧ (k.name, slotK k.name) ∈ slotTextK ∧ (zeroU (slotK k.name)).tag = 0) ∨ (k.form = 7 ∧ (k.name, slotK k.name) ∈ slotExecsK ∧ (zeroU (slotK k.name)).tag = 6) ∨
  (k.form = 8 ∧ slotK k.name = 19) ∨ (k.form = 9 ∧ (k.name, slotK k.name) ∈ slotTextsK ∧ (zeroU (slotK k.name)).tag = 3) ∨
  (k.form = 11 ∧ (k.name, slotK k.name) ∈ slotNumbersK ∧ (zeroU (slotK k.name)).tag = 4 ∧ (k.name != [76, 105, 115, 116, 101, 110, 83, 116, 114, 101, 97, 109]) = !(slotK k.name == 21)) ∨
  (k.form = 4 ∧ k.list = true ∧ (k.name, slotK k.name) ∈ slotNumbersK ∧ (zeroU (slotK k.name)).tag = 4) ∨ (k.form = 4 ∧ k.list = false ∧ (k.name, slotK k.name) ∈ slotNumberK ∧ (zeroU (slotK k.name)).tag = 1) ∨
  (k.form = 6 ∧ relK k.name = 0 ∧ (k.name, slotK k.name) ∈ slotTextsK ∧ (zeroU (slotK k.name)).tag = 3) ∨ (k.form = 6 ∧ 0 < relK k.name ∧ slotK k.name = 4)) := by
 intro k hk
 obtain ⟨a, b, c⟩ := tabFs k hk
 refine ⟨a, b, c, ?_⟩
 rcases tabFf k hk with f | f | f | f | f | f | f | f | f | f | f
 ·exact .inl ⟨f, tabF1 k hk f⟩
 ·exact .inr (.inl ⟨f, tabF2 k hk f⟩)
 ·exact .inr (.inr (.inl ⟨f, tabF3 k hk f⟩))
 ·exact .inr (.inr (.inr (.inl ⟨f, tabF10 k hk f⟩)))
 ·exact .inr (.inr (.inr (.inr (.inl ⟨f, tabF5 k hk f⟩))))
 ·exact .inr (.inr (.inr (.inr (.inr (.inl ⟨f, tabF7 k hk f⟩)))))
 ·exact .inr (.inr (.inr (.inr (.inr (.inr (.inl ⟨f, tabF8 k hk f⟩))))))
 ·exact .inr (.inr (.inr (.inr (.inr (.inr (.inr (.inl ⟨f, tabF9 k hk f⟩)))))))
 ·exact .inr (.inr (.inr (.inr (.inr (.inr (.inr (.inr (.inl ⟨f, tabF11 k hk f⟩))))))))
 ·rcases tabF4 k hk f with h | h
  ·exact .inr (.inr (.inr (.inr (.inr (.inr (.inr (.inr (.inr (.inl ⟨f, h⟩)))))))))
  ·exact .inr (.inr (.inr (.inr (.inr (.inr (.inr (.inr (.inr (.inr (.inl ⟨f, h⟩))))))))))
 ·rcases tabF6 k hk f with h | h
  ·exact .inr (.inr (.inr (.inr (.inr (.inr (.inr (.inr (.inr (.inr (.inr (.inl ⟨f, h⟩)))))))))))
  ·exact .inr (.inr (.inr (.inr (.inr (.inr (.inr (.inr (.inr (.inr (.inr (.inr ⟨f, h⟩)))))))))))
theorem fld_15 (nm : Str) (k : KeyS) (v : Str) (c : UC) (h : k.form = 1 ∨ k.form = 5) : fieldS nm k v c = .s v := by unfold fieldS; rw [if_pos h]
theorem fld_2 (nm : Str) (k : KeyS) (v : Str) (c : UC) (f : k.form = 2) : fieldS nm k v c = .b (truthS v) := by
 unfold fieldS; rw [if_neg (by rw [f]; decide), if_pos f]
theorem fld_3 (nm : Str) (k : KeyS) (v : Str) (c : UC) (f : k.form = 3) : fieldS nm k v c = .n (numK v).1 := by
 unfold fieldS; rw [if_neg (by rw [f]; decide), if_neg (by rw [f]; decide), if_pos f]
theorem fld_10 (nm : Str) (k : KeyS) (v : Str) (c : UC) (f : k.form = 10) : fieldS nm k v c = .n (wordIx k.words v 0 + 1) := by
 unfold fieldS; rw [if_neg (by rw [f]; decide), if_neg (by rw [f]; decide), if_neg (by rw [f]; decide), if_pos f]
theorem fld_7 (nm : Str) (k : KeyS) (v : Str) (c : UC) (f : k.form = 7) : fieldS nm k v c = .cs (moreS c.cmds v ((execS v).getD (false, []))) := by
 unfold fieldS; rw [if_neg (by rw [f]; decide), if_neg (by rw [f]; decide), if_neg (by rw [f]; decide), if_neg (by rw [f]; decide), if_pos f]
theorem fld_8 (nm : Str) (k : KeyS) (v : Str) (c : UC) (f : k.form = 8) : fieldS nm k v c = .ps (envPut (if v = [] then [] else c.prs) (envS v).1) := by
 unfold fieldS; rw [if_neg (by rw [f]; decide), if_neg (by rw [f]; decide), if_neg (by rw [f]; decide), if_neg (by rw [f]; decide), if_neg (by rw [f]; decide), if_pos f]
theorem fld_9 (nm : Str) (k : KeyS) (v : Str) (c : UC) (f : k.form = 9) : fieldS nm k v c = .ss (moreS c.strs v v) := by
 unfold fieldS; rw [if_neg (by rw [f]; decide), if_neg (by rw [f]; decide), if_neg (by rw [f]; decide), if_neg (by rw [f]; decide), if_neg (by rw [f]; decide), if_neg (by rw [f]; decide), if_pos f]
theorem fld_11 (nm : Str) (k : KeyS) (v : Str) (c : UC) (f : k.form = 11) : fieldS nm k v c = .ns (onceS c.nums (numsOf v)) := by
 unfold fieldS; rw [if_neg (by rw [f]; decide), if_neg (by rw [f]; decide), if_neg (by rw [f]; decide), if_neg (by rw [f]; decide), if_neg (by rw [f]; decide), if_neg (by rw [f]; decide), if_neg (by rw [f]; decide), if_pos f]; rfl
theorem fld_4a (nm : Str) (k : KeyS) (v : Str) (c : UC) (f : k.form = 4) (g : k.list = true) : fieldS nm k v c = .ns (moreS c.nums v (spanS v).1) := by
 unfold fieldS; rw [if_neg (by rw [f]; decide), if_neg (by rw [f]; decide), if_neg (by rw [f]; decide), if_neg (by rw [f]; decide), if_neg (by rw [f]; decide), if_neg (by rw [f]; decide), if_neg (by rw [f]; decide), if_neg (by rw [f]; decide), if_pos f, if_pos g]
theorem fld_4b (nm : Str) (k : KeyS) (v : Str) (c : UC) (f : k.form = 4) (g : k.list = false) : fieldS nm k v c = .n (spanS v).1 := by
 unfold fieldS; rw [if_neg (by rw [f]; decide), if_neg (by rw [f]; decide), if_neg (by rw [f]; decide), if_neg (by rw [f]; decide), if_neg (by rw [f]; decide), if_neg (by rw [f]; decide), if_neg (by rw [f]; decide), if_neg (by rw [f]; decide), if_pos f, if_neg (by rw [g]; decide)]
theorem fld_6a (nm : Str) (k : KeyS) (v : Str) (c : UC) (f : k.form = 6) (g : relK k.name = 0) : fieldS nm k v c = .ss (onceS c.strs (blanksS v)) := by
 unfold fieldS; rw [if_neg (by rw [f]; decide), if_neg (by rw [f]; decide), if_neg (by rw [f]; decide), if_neg (by rw [f]; decide), if_neg (by rw [f]; decide), if_neg (by rw [f]; decide), if_neg (by rw [f]; decide), if_neg (by rw [f]; decide), if_neg (by rw [f]; decide), if_pos g]
theorem fld_6b (nm : Str) (k : KeyS) (v : Str) (c : UC) (f : k.form = 6) (g : 0 < relK k.name) : fieldS nm k v c = .rs (relsPut nm (relK k.name : Nat) (if v = [] then c.rels.filter (fun r => r.1 != (relK k.name : Nat)) else c.rels) (blanksS v)) := by
 unfold fieldS; rw [if_neg (by rw [f]; decide), if_neg (by rw [f]; decide), if_neg (by rw [f]; decide), if_neg (by rw [f]; decide), if_neg (by rw [f]; decide), if_neg (by rw [f]; decide), if_neg (by rw [f]; decide), if_neg (by rw [f]; decide), if_neg (by rw [f]; decide), if_neg (by omega)]
theorem aft_5 (k : KeyS) (v : Str) (f : k.form = 5) : afterS k v = (k.name != [83, 101, 114, 118, 105, 99, 101] || kindS v == 1) := by unfold afterS; rw [if_pos f]
theorem aft_11 (k : KeyS) (v : Str) (f : k.form = 11) : afterS k v = (k.name != [76, 105, 115, 116, 101, 110, 83, 116, 114, 101, 97, 109] || !((blanksS v).any fun w => (numK w).1 == 0)) := by unfold afterS; rw [if_neg (by rw [f]; decide), if_pos f]
theorem aft_no (k : KeyS) (v : Str) (h5 : k.form ≠ 5) (h11 : k.form ≠ 11) : afterS k v = true := by unfold afterS; rw [if_neg h5, if_neg h11]
theorem fieldS_tag (name : Str) (k : KeyS) (hk : k ∈ allKeys) (v : Str) (c : UC) : (fieldS name k v c).tag = (zeroU (slotK k.name)).tag := by
 obtain ⟨_, _, _, h⟩ := tabF k hk
 rcases h with ⟨f, _, t⟩ | ⟨f, _, t⟩ | ⟨f, _, t⟩ | ⟨f, _, t⟩ | ⟨f, _, t⟩ | ⟨f, _, t⟩ | ⟨f, t⟩ | ⟨f, _, t⟩ | ⟨f, _, t, _⟩ | ⟨f, g, _, t⟩ | ⟨f, g, _, t⟩ | ⟨f, g, _, t⟩ | ⟨f, g, t⟩
 ·rw [fld_15 _ _ _ _ (.inl f), t]; rfl
 ·rw [fld_2 _ _ _ _ f, t]; rfl
 ·rw [fld_3 _ _ _ _ f, t]; rfl
 ·rw [fld_10 _ _ _ _ f, t]; rfl
 ·rw [fld_15 _ _ _ _ (.inr f), t]; rfl
 ·rw [fld_7 _ _ _ _ f, t]; rfl
 ·rw [fld_8 _ _ _ _ f, t]; rfl
 ·rw [fld_9 _ _ _ _ f, t]; rfl
 ·rw [fld_11 _ _ _ _ f, t]; rfl
 ·rw [fld_4a _ _ _ _ f g, t]; rfl
 ·rw [fld_4b _ _ _ _ f g, t]; rfl
 ·rw [fld_6a _ _ _ _ f g, t]; rfl
 ·rw [fld_6b _ _ _ _ f g, t]; rfl
set_option maxHeartbeats 1000000 in
theorem put_any (U : Nat) (cs : Array Value) (F : Nat → Nat → Prop) (u : UV) (w : World) (hU : UnitOwn w U cs F u) (hT : TypedU u) (hlen : ∀ j, (u j).len ≤ 100000) (hM : MaxAt w) (nm : Str) (h0 : u 0 = .s nm) (k : KeyS) (hk : k ∈ allKeys) (kv : KeyV) (hkv : KvRd w kv k)
  (val : Str) (hval : val.length ≤ 100000000) :
  Calls Tryz.prog 52 #[.pointer (some ⟨U, 0, none⟩), .agg (encK kv).toArray, .string ⟨val.toArray⟩] w fun e w' => e = .returned (.bool (afterS k val)) ∧ PutAt w w' U cs (slotK k.name) (F (slotK k.name)) (fieldS nm k val (u (slotK k.name))) := by
 obtain ⟨hs35, hs0, hs1, h⟩ := tabF k hk
 have hj : ∃ v, cs[slotK k.name]? = some v := ⟨_, Array.getElem?_eq_getElem (by rw [hU.size]; exact hs35)⟩
 obtain ⟨v, hj⟩ := hj
 have hv := hU.fld _ v hj
 have hFU := hU.notU (slotK k.name)
 have hF : ∀ i, F (slotK k.name) i → i < w.heap.size := fun i hi => (hU.lt _ i hi).2
 have ht := hT (slotK k.name)
 have hl := hlen (slotK k.name)
 have hc0 : ∃ v0, cs[0]? = some v0 := ⟨_, Array.getElem?_eq_getElem (by rw [hU.size]; decide)⟩
 obtain ⟨v0, hc0⟩ := hc0
 have hv0 := hU.fld _ v0 hc0
 rw [h0] at hv0
 have hv0' : v0 = .string ⟨nm.toArray⟩ := hv0
 subst hv0'
 have hn : kv.name = k.name := hkv.name
 have hform : kv.form = k.form := hkv.form
 have hlist : kv.list = k.list := hkv.list
 rcases h with ⟨f, m, t⟩ | ⟨f, m, t⟩ | ⟨f, m, t⟩ | ⟨f, m, t⟩ | ⟨f, m, t⟩ | ⟨f, m, t⟩ | ⟨f, t⟩ | ⟨f, m, t⟩ | ⟨f, m, t, hls⟩ | ⟨f, g, m, t⟩ | ⟨f, g, m, t⟩ | ⟨f, g, m, t⟩ | ⟨f, g, t⟩
 ·rw [fld_15 _ _ _ _ (.inl f), aft_no _ _ (by rw [f]; decide) (by rw [f]; decide)]
  exact put_text U _ cs _ v w hU.box hj hFU hF hM kv (hform.trans f) (fun W => by rw [hn]; exact slotText_any U W _ m) val hval
 ·rw [fld_2 _ _ _ _ f, aft_no _ _ (by rw [f]; decide) (by rw [f]; decide)]
  exact put_bool U _ cs _ v w hU.box hj hFU hF hM kv (hform.trans f) (fun W => by rw [hn]; exact slotFlag_any U W _ m) val hval
 ·rw [fld_3 _ _ _ _ f, aft_no _ _ (by rw [f]; decide) (by rw [f]; decide)]
  exact put_int U _ cs _ v w hU.box hj hFU hF hM kv (hform.trans f) (fun W => by rw [hn]; exact slotNumber_any U W _ m) val hval
 ·rw [fld_10 _ _ _ _ f, aft_no _ _ (by rw [f]; decide) (by rw [f]; decide)]
  exact put_word U _ cs _ v w hU.box hj hFU hF hM kv (hform.trans f) k.words hkv.wl (Nat.le_trans (words_few k hk) (by decide)) hkv.row (fun W => by rw [hn]; exact slotNumber_any U W _ m) val hval
 ·rw [fld_15 _ _ _ _ (.inr f), aft_5 _ _ f]
  have := put_name U _ cs _ v w hU.box hj hFU hF hM kv (hform.trans f) ⟨nm.toArray⟩ hc0 (fun W => by rw [hn]; exact slotText_any U W _ m) val hval
  rw [hn] at this
  exact this
 ·rw [fld_7 _ _ _ _ f, aft_no _ _ (by rw [f]; decide) (by rw [f]; decide)]
  obtain ⟨l, hc⟩ := tag_cs (ht.trans t)
  rw [hc] at hv hl ⊢
  exact put_exec U _ cs _ v w hU.box hj hFU hF hM kv (hform.trans f) l hv hl (fun W => by rw [hn]; exact slotExecs_any U W _ m) val hval
 ·rw [fld_8 _ _ _ _ f, aft_no _ _ (by rw [f]; decide) (by rw [f]; decide)]
  rw [t] at hj hv hFU hF ht hl ⊢
  obtain ⟨l, hc⟩ := tag_ps ht
  rw [hc] at hv hl ⊢
  exact put_env U cs _ v w hU.box hj hFU hF hM kv (hform.trans f) l hv hl val hval
 ·rw [fld_9 _ _ _ _ f, aft_no _ _ (by rw [f]; decide) (by rw [f]; decide)]
  obtain ⟨l, hc⟩ := tag_ss (ht.trans t)
  rw [hc] at hv hl ⊢
  exact put_cal U _ cs _ v w hU.box hj hFU hF hM kv (hform.trans f) l hv hl (fun W => by rw [hn]; exact slotTexts_any U W _ m) val hval
 ·rw [fld_11 _ _ _ _ f, aft_11 _ _ f, hls]
  obtain ⟨l, hc⟩ := tag_ns (ht.trans t)
  rw [hc] at hv hl ⊢
  exact put_ints U _ cs _ v w hU.box hj hFU hF hM kv (hform.trans f) l hv hl (fun W => by rw [hn]; exact slotNumbers_any U W _ m) val hval
 ·rw [fld_4a _ _ _ _ f g, aft_no _ _ (by rw [f]; decide) (by rw [f]; decide)]
  obtain ⟨l, hc⟩ := tag_ns (ht.trans t)
  rw [hc] at hv hl ⊢
  exact put_spanList U _ cs _ v w hU.box hj hFU hF hM kv (hform.trans f) l hv hl (hlist.trans g) (fun W => by rw [hn]; exact slotNumbers_any U W _ m) val hval
 ·rw [fld_4b _ _ _ _ f g, aft_no _ _ (by rw [f]; decide) (by rw [f]; decide)]
  obtain ⟨n0, hc⟩ := tag_n (ht.trans t)
  rw [hc] at hv
  exact put_spanOne U _ cs _ v w hU.box hj hFU hF hM kv (hform.trans f) ⟨n0, hv⟩ (hlist.trans g) (fun W => by rw [hn]; exact slotNumber_any U W _ m) val hval
 ·rw [fld_6a _ _ _ _ f g, aft_no _ _ (by rw [f]; decide) (by rw [f]; decide)]
  obtain ⟨l, hc⟩ := tag_ss (ht.trans t)
  rw [hc] at hv hl ⊢
  have hR : ∀ W, Calls Tryz.prog 142 #[.string ⟨kv.name.toArray⟩] W fun e w' => e = .returned (.int .i64 0) ∧ w' = W := fun W => by
   have := slotRel_any W k.name (key_names k hk f)
   rw [g] at this
   rw [hn]; exact this
  exact put_texts U _ cs _ v w hU.box hj hFU hF hM kv (hform.trans f) l hv hl hR (fun W => by rw [hn]; exact slotTexts_any U W _ m) val hval
 ·rw [fld_6b _ _ _ _ f g, aft_no _ _ (by rw [f]; decide) (by rw [f]; decide)]
  rw [t] at hj hv hFU hF ht hl ⊢
  obtain ⟨l, hc⟩ := tag_rs ht
  rw [hc] at hv hl ⊢
  exact put_rels U cs _ v w hU.box hj hFU hF hM kv (hform.trans f) l hv hl nm hc0 (relK k.name : Nat) (by rw [beq_eq_false_iff_ne]; omega) (fun W => by rw [hn]; exact slotRel_any W k.name (key_names k hk f)) val hval
theorem UcAt.len {w : World} {F : Nat → Prop} : ∀ {c : UC} {v : Value}, UcAt w F c v → 3 ≤ c.tag → ∃ oa cap, v = .slice oa c.len cap
 | .s _, _, _, h => absurd h (by simp [UC.tag])
 | .n _, _, _, h => absurd h (by simp [UC.tag])
 | .b _, _, _, h => absurd h (by simp [UC.tag])
 | .ss _, _, h, _ => ownsRow_form h.1
 | .ns _, _, h, _ => ownsRow_form h.1
 | .rs _, _, h, _ => ownsRow_form h.1
 | .ps _, _, h, _ => ownsRow_form h.1
 | .cs _, _, h, _ => by obtain ⟨_, _, h, _⟩ := h; exact ownsRow_form h
theorem listTag : ∀ i ∈ listIx, 3 ≤ (zeroU i).tag ∧ i < 35 := by decide +kernel
def LensAt (cs : Array Value) (u : UV) : Prop := ∀ i ∈ listIx, ∃ oa cap, cs[i]? = some (.slice oa (u i).len cap)
theorem UnitOwn.lens {w : World} {U : Nat} {cs : Array Value} {F : Nat → Nat → Prop} {u : UV} (h : UnitOwn w U cs F u) (hT : TypedU u) : LensAt cs u := by
 intro i hi
 obtain ⟨h3, h35⟩ := listTag i hi
 have hj : cs[i]? = some (cs[i]'(by rw [h.size]; exact h35)) := Array.getElem?_eq_getElem (by rw [h.size]; exact h35)
 obtain ⟨oa, cap, e⟩ := (h.fld i _ hj).len (by rw [hT i]; exact h3)
 exact ⟨oa, cap, by rw [hj, e]⟩
theorem maxOf_gt : ∀ (l : List Int) (m k : Int), decide (k < l.foldl max m) = (decide (k < m) || l.any fun x => decide (k < x))
 | [], m, k => by rw [List.any_nil, Bool.or_false]; rfl
 | x :: t, m, k => by
  rw [List.foldl_cons, maxOf_gt t, List.any_cons, ← Bool.or_assoc]
  congr 1
  rw [← Bool.decide_or]
  apply decide_eq_decide.2
  omega
theorem maxOf_any (l : List Int) (k : Int) (h : l ≠ []) : decide (k < Lib.maxOf l) = l.any fun x => decide (k < x) := by
 unfold Lib.maxOf
 rw [maxOf_gt]
 cases l with
 | nil => exact absurd rfl h
 | cons a t => simp
def lensOf (u : UV) : List Int := listIx.map fun i => ((u i).len : Int)
set_option maxHeartbeats 4000000 in
theorem listsU_any (cs : Array Value) (u : UV) (w : World) (hL : LensAt cs u) :
  Calls Tryz.prog 54 #[.agg cs] w fun e w' => ∃ A, e = .returned (.slice (some ⟨A, 0, none⟩) 17 17) ∧ (∀ j, j < (lensOf u).length → w'.cell? ⟨A, 0 + j, none⟩ = some (.int .i64 ((lensOf u).getD j 0))) ∧ Below w.heap.size w w' := by
 have hB := (Below.refl w.heap.size w).alloc (Nat.le_refl _) (.cells cs 30)
 have hb := (rd (heap_alloc_new w (.cells cs 30))).1
 have HB := h_ hB
 obtain ⟨o8, p8, q8⟩ := hL 8 (by decide)
 have k8 := (hb 8).trans q8
 obtain ⟨o9, p9, q9⟩ := hL 9 (by decide)
 have k9 := (hb 9).trans q9
 obtain ⟨o10, p10, q10⟩ := hL 10 (by decide)
 have k10 := (hb 10).trans q10
 obtain ⟨o11, p11, q11⟩ := hL 11 (by decide)
 have k11 := (hb 11).trans q11
 obtain ⟨o12, p12, q12⟩ := hL 12 (by decide)
 have k12 := (hb 12).trans q12
 obtain ⟨o18, p18, q18⟩ := hL 18 (by decide)
 have k18 := (hb 18).trans q18
 obtain ⟨o19, p19, q19⟩ := hL 19 (by decide)
 have k19 := (hb 19).trans q19
 obtain ⟨o20, p20, q20⟩ := hL 20 (by decide)
 have k20 := (hb 20).trans q20
 obtain ⟨o21, p21, q21⟩ := hL 21 (by decide)
 have k21 := (hb 21).trans q21
 obtain ⟨o25, p25, q25⟩ := hL 25 (by decide)
 have k25 := (hb 25).trans q25
 obtain ⟨o26, p26, q26⟩ := hL 26 (by decide)
 have k26 := (hb 26).trans q26
 obtain ⟨o27, p27, q27⟩ := hL 27 (by decide)
 have k27 := (hb 27).trans q27
 obtain ⟨o28, p28, q28⟩ := hL 28 (by decide)
 have k28 := (hb 28).trans q28
 obtain ⟨o30, p30, q30⟩ := hL 30 (by decide)
 have k30 := (hb 30).trans q30
 obtain ⟨o31, p31, q31⟩ := hL 31 (by decide)
 have k31 := (hb 31).trans q31
 obtain ⟨o32, p32, q32⟩ := hL 32 (by decide)
 have k32 := (hb 32).trans q32
 obtain ⟨o33, p33, q33⟩ := hL 33 (by decide)
 have k33 := (hb 33).trans q33
 have HLN := h_ (show lensOf u = [((u 8).len : Int), ((u 9).len : Int), ((u 10).len : Int), ((u 11).len : Int), ((u 12).len : Int), ((u 18).len : Int), ((u 19).len : Int), ((u 20).len : Int), ((u 21).len : Int), ((u 25).len : Int), ((u 26).len : Int), ((u 27).len : Int), ((u 28).len : Int), ((u 30).len : Int), ((u 31).len : Int), ((u 32).len : Int), ((u 33).len : Int)] from rfl)
 generalize (u 8).len = n8 at *
 generalize (u 9).len = n9 at *
 generalize (u 10).len = n10 at *
 generalize (u 11).len = n11 at *
 generalize (u 12).len = n12 at *
 generalize (u 18).len = n18 at *
 generalize (u 19).len = n19 at *
 generalize (u 20).len = n20 at *
 generalize (u 21).len = n21 at *
 generalize (u 25).len = n25 at *
 generalize (u 26).len = n26 at *
 generalize (u 27).len = n27 at *
 generalize (u 28).len = n28 at *
 generalize (u 30).len = n30 at *
 generalize (u 31).len = n31 at *
 generalize (u 32).len = n32 at *
 generalize (u 33).len = n33 at *
 clear hL hb hB q8 q9 q10 q11 q12 q18 q19 q20 q21 q25 q26 q27 q28 q30 q31 q32 q33
 go_enter Tryz.func54, Tryz.ntmps54
 go_wp2_with fail
 go_ret
 have hn := heap_alloc_new (w.alloc (.cells cs 30)) (.cells #[.int .i64 n8, .int .i64 n9, .int .i64 n10, .int .i64 n11, .int .i64 n12, .int .i64 n18, .int .i64 n19, .int .i64 n20, .int .i64 n21, .int .i64 n25, .int .i64 n26, .int .i64 n27, .int .i64 n28, .int .i64 n30, .int .i64 n31, .int .i64 n32, .int .i64 n33] 3)
 refine ⟨_, rfl, fun j hj => ?_, HB.out.alloc HB.out.size _⟩
 rw [HLN.out] at hj ⊢
 have hz : (w.alloc (.cells cs 30)).heap.size = w.heap.size + 1 := by simp
 rw [hz] at hn
 rw [(rd hn).1, Nat.zero_add]
 have hj17 : j < 17 := hj
 match j, hj17 with
 | 0, _ => rfl
 | 1, _ => rfl
 | 2, _ => rfl
 | 3, _ => rfl
 | 4, _ => rfl
 | 5, _ => rfl
 | 6, _ => rfl
 | 7, _ => rfl
 | 8, _ => rfl
 | 9, _ => rfl
 | 10, _ => rfl
 | 11, _ => rfl
 | 12, _ => rfl
 | 13, _ => rfl
 | 14, _ => rfl
 | 15, _ => rfl
 | 16, _ => rfl
 | n + 17, h => omega
end Go.Proofs.YtdjkedcpehhmnaaGreatDoor
