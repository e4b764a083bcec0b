/-
  The reference's keys (matinsref7): kinds, row, worded.
-/
import Derived.Test.YtdpnahojhmkemaaGreatDoorBlk
import Derived.Test.YtdpnahojhmkemaaGreatDoorKeys9
namespace Go.Proofs.YtdpnahojhmkemaaGreatDoor
open Go Go.RowKit
set_option linter.unusedVariables false
set_option linter.unusedSimpArgs false
set_option maxRecDepth 100000

def kindsR (s : Str) : Int := if s == nService then 2 else if s == nSocket then 4 else if s == nTimer then 8 else 30
theorem kindsR_any (s : Str) (w : World) (r : Int) (hr : kindsR s = r) : Calls Tryz.prog 43 #[.string ⟨s.toArray⟩] w fun e w' => e = .returned (.int .i64 r) ∧ w' = w := by
  unfold kindsR at hr
  cases h1 : (s == nService) with
  | true =>
    rw [h1] at hr
    obtain rfl : (2 : Int) = r := hr
    go_enter Tryz.func43, Tryz.ntmps43
    go_wp2_with fail
    go_ret
    exact ⟨rfl, rfl⟩
  | false =>
    rw [h1] at hr
    cases h2 : (s == nSocket) with
    | true =>
      rw [h2] at hr
      obtain rfl : (4 : Int) = r := hr
      go_enter Tryz.func43, Tryz.ntmps43
      go_wp2_with fail
      go_ret
      exact ⟨rfl, rfl⟩
    | false =>
      rw [h2] at hr
      cases h3 : (s == nTimer) with
      | true =>
        rw [h3] at hr
        obtain rfl : (8 : Int) = r := hr
        go_enter Tryz.func43, Tryz.ntmps43
        go_wp2_with fail
        go_ret
        exact ⟨rfl, rfl⟩
      | false =>
        rw [h3] at hr
        obtain rfl : (30 : Int) = r := hr
        go_enter Tryz.func43, Tryz.ntmps43
        go_wp2_with fail
        go_ret
        exact ⟨rfl, rfl⟩

def KsOut (w : World) (ks : List KeyS) (e : Ending) (w' : World) : Prop :=
  ∃ vs v, e = .returned v ∧ w'.ownsRow w.heap.size 28 6 v vs.length (flatL encK vs) ∧ KvsRd w' vs ks ∧ Below w.heap.size w w'

theorem own_base {w : World} {B B' e size n : Nat} {v : Value} {xs : List Value} (h : w.ownsRow B e size v n xs) (hB : B' ≤ B) : w.ownsRow B' e size v n xs := by
  refine ⟨h.1, ?_⟩
  rcases h.2 with hn | ⟨g, cap, cur, rfl, hb, rest⟩
  · exact .inl hn
  · exact .inr ⟨g, cap, cur, rfl, Nat.le_trans hB hb, rest⟩
theorem snoc_take {α : Type} (l : List α) (k : Nat) (h : k < l.length) : l.take (k + 1) = l.take k ++ [l[k]] := List.take_succ_eq_append_getElem h

set_option maxHeartbeats 2000000 in
theorem rowR_any (sec names : Str) (form : Int) (list : Bool) (ns : List Str) (w : World) (hns : blanksS names = ns) (hl : names.length ≤ 1000000) (kd : Int) (hkd : kindsR sec = kd) :
    Calls Tryz.prog 24 #[.string ⟨sec.toArray⟩, .string ⟨names.toArray⟩, .int .i64 form, .bool list] w fun e w' => ∃ v, e = .returned v ∧ w'.ownsRow w.heap.size 28 6 v ns.length (flatL encK (ns.map (plainK sec kd form list))) ∧ Below w.heap.size w w' := by
  obtain ⟨i0, hi0, hz0, hz1, hz2⟩ := info_parts infoKey
  have hnl : ns.length ≤ 1000001 := by
    have := blanksS_len names []
    rw [← hns]; unfold blanksS; omega
  have HBK := Lib.hid (blanks1_any ⟨names.toArray⟩ ⟨#[32]⟩ w (by show names.toArray.size ≤ _; simp; omega) (by decide) ns (by rw [← hns]; exact fldB_one [32] rfl names []))
  have HKD := Lib.hid (fun W => kindsR_any sec W kd hkd)
  clear hns hkd
  go_enter Tryz.func24, Tryz.ntmps24
  go_wp2_with fail
  refine HBK.out.mono ?_
  rintro e w1 ⟨hb1, v, rfl, hown⟩
  obtain ⟨oa, cap, rfl, hrow⟩ := row_of_own hown
  have HB1 := Lib.hid hb1; have HR := Lib.hid hrow
  clear hb1 hrow hown HBK
  go_wp2_with fail
  go_loopg [9, 15] (ns.length + 1) (fun f v i wr => ∃ k : Nat, k ≤ ns.length ∧ i = .int .i64 k ∧ ns.length - k < f ∧ Hid (wr.ownsRow w1.heap.size 28 6 v k (flatL encK ((ns.take k).map (plainK sec kd form list)))) ∧ Hid (Below w1.heap.size w1 wr))
  case atStart => exact ⟨0, by omega, rfl, by omega, World.ownsRow_nil _ _ _ _, Below.refl _ _⟩
  case round =>
    obtain ⟨k, hk, rfl, hfu, Hown, HB⟩ := hrel
    obtain ⟨oa2, cap2, rfl⟩ := ownsRow_form Hown.out
    by_cases hlt : k < ns.length
    · have hz : (k : Int) < (ns.length : Int) := by omega
      obtain ⟨n, hn⟩ : ∃ n, n = ns[k] := ⟨_, rfl⟩
      obtain ⟨b, o, rfl, d0⟩ := (HR.out.below HB.out) k hlt
      rw [← hn] at d0
      have HS := Lib.hid (show (ns.take (k + 1)).map (plainK sec kd form list) = (ns.take k).map (plainK sec kd form list) ++ [plainK sec kd form list n] by rw [snoc_take ns k hlt, List.map_append, hn]; rfl)
      clear hn
      let W1 := wr.alloc (.cells (encK (plainK sec kd form list n)).toArray 28)
      have hB1 : Below wr.heap.size wr W1 := (Below.refl _ _).alloc (Nat.le_refl _) _
      have hbl := RowRd.of_own (enc := encK) (k := 6) (l := [plainK sec kd form list n]) (oa := some ⟨wr.heap.size, 0, none⟩) (cap := 1) (fun _ => rfl) (own_built6 wr (.string ⟨sec.toArray⟩) (.string ⟨n.toArray⟩) (.int .i64 form) (.bool list) (.int .i64 kd) (.slice none 0 0) 28)
      obtain ⟨v', w3, hrun, hown3, hgrow⟩ := append_rows (P := Tryz.prog) w1.heap.size 23 23 28 i0 (.agg #[.string ⟨#[]⟩, .string ⟨#[]⟩, .int .i64 0, .bool false, .int .i64 0, .slice none 0 0]) 6 80 Tryz.underlying23 hi0 hz0 hz1 hz2 (by rfl) (by decide) _ _ _ (own_keeps Hown.out hB1) (some ⟨wr.heap.size, 0, none⟩) 1 1 (flatL encK [plainK sec kd form list n]) rfl (RowRd.flat (enc := encK) (k := 6) (fun _ => rfl) (by omega) hbl) (flatL_oneCell encK_one _) (by unfold maxLen; omega) (by omega) (Nat.le_trans HB.out.size hB1.size)
      have HRUN := Lib.hid hrun
      have HB3 := Lib.hid ((HB.out.trans (hB1.mono HB.out.size)).grown hgrow (Nat.le_trans HB.out.size hB1.size) (fun g hg => (Hown.out.lt g hg).1))
      have HO3 := Lib.hid (show w3.ownsRow w1.heap.size 28 6 v' (k + 1) (flatL encK ((ns.take (k + 1)).map (plainK sec kd form list))) by rw [HS.out, flatL_append]; exact hown3)
      obtain ⟨oa3, cap3, rfl⟩ := ownsRow_form HO3.out
      clear hrun hown3 hgrow hbl hB1 HS
      unfold encK plainK at *
      go_wp2_with fail
      refine (HKD.out _).mono ?_
      rintro e w2 ⟨rfl, rfl⟩
      go_wp2_with (at_builtin; refine wpList_append_run rfl _ _ 23 rfl HRUN.out rfl rfl ?_)
      go_roundg (ns.length - k)
      case measure => omega
      case rel => exact ⟨k + 1, by omega, by go_num, by omega, HO3, HB3⟩
    · have hz : ¬ ((k : Int) < (ns.length : Int)) := by omega
      obtain rfl : k = ns.length := by omega
      have HO := Lib.hid (show wr.ownsRow w1.heap.size 28 6 (.slice oa2 ns.length cap2) ns.length (flatL encK (ns.map (plainK sec kd form list))) by
        have h := Hown.out
        rw [List.take_length] at h
        exact h)
      clear Hown
      go_wp2_with fail
      go_ret
      exact ⟨_, rfl, own_base HO.out HB1.out.size, HB1.out.trans (HB.out.mono HB1.out.size)⟩

set_option maxHeartbeats 2000000 in
theorem wordedR_any (sec name words : Str) (ws : List Str) (w : World) (hn1 : blanksS name = [name]) (hws : blanksS words = ws) (hl : name.length ≤ 1000000) (hl2 : words.length ≤ 1000000) (kd : Int) (hkd : kindsR sec = kd) :
    Calls Tryz.prog 25 #[.string ⟨sec.toArray⟩, .string ⟨name.toArray⟩, .string ⟨words.toArray⟩] w fun e w' => ∃ v wa wc, e = .returned v ∧ w'.ownsRow w.heap.size 28 6 v 1 (flatL encK [⟨sec, name, 10, false, kd, wa, ws.length, wc⟩]) ∧
      w'.ownsRow w.heap.size 9 1 (.slice wa ws.length wc) ws.length (strVals ws) ∧ Below w.heap.size w w' := by
  have HR := Lib.hid (rowR_any sec name 10 false [name] w hn1 hl kd hkd)
  have HBK := Lib.hid (fun W => blanks1_any ⟨words.toArray⟩ ⟨#[32]⟩ W (by show words.toArray.size ≤ _; simp; omega) (by decide) ws (by rw [← hws]; exact fldB_one [32] rfl words []))
  clear hn1 hws hkd
  go_enter Tryz.func25, Tryz.ntmps25
  go_wp2_with fail
  refine HR.out.mono ?_
  rintro e w1 ⟨v, rfl, hown, hb1⟩
  obtain ⟨g, cap, rfl, -, -, -⟩ := own_openK hown (by simp)
  have HO := Lib.hid hown; have HB1 := Lib.hid hb1
  clear hown hb1 HR
  go_wp2_with fail
  refine (HBK.out w1).mono ?_
  rintro e w2 ⟨hb2, v2, rfl, hown2⟩
  obtain ⟨wa, wc, rfl⟩ := ownsRow_form hown2
  have ho := own_keeps HO.out hb2
  obtain ⟨hset, ⟨x5, hx5⟩, hf5, hg1, hg2, ⟨s5, hs5⟩⟩ := own_set_at ho 5 (by simp [flatL, encK]) (.slice wa ws.length wc)
  have HS := Lib.hid hset
  have HO2 := Lib.hid (show (w2.setCell ⟨g, 5, none⟩ (.slice wa ws.length wc)).ownsRow w.heap.size 9 1 (.slice wa ws.length wc) ws.length (strVals ws) from
    ownsRow_fr (M := fun k => k = g) (own_base hown2 HB1.out.size) (Fr.setCell (M := fun k => k = g) (p := ⟨g, 5, none⟩) (Fr.refl _ _) (fun _ => rfl) _) (fun k hk hr => by
      rintro rfl
      have h3 := (ownsRow_row ho) k rfl
      obtain ⟨_, cs, fz, h4⟩ := h3
      obtain ⟨cs2, fz2, h5⟩ := hr
      rw [h4] at h5
      simp at h5))
  have HB2 := Lib.hid ((HB1.out.trans (hb2.mono HB1.out.size)).setCell (p := ⟨g, 5, none⟩) hg1 (.slice wa ws.length wc))
  clear hset ho hown2 hb2 HO HB1 HBK
  go_wp2_with fail
  go_ret
  exact ⟨.slice (some ⟨g, 0, none⟩) 1 cap, wa, wc, rfl, HS.out, HO2.out, HB2.out⟩
end Go.Proofs.YtdpnahojhmkemaaGreatDoor
