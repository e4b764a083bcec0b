import Derived.Lib.SmallJoins
import Derived.Test.YtdpnahojhmkemaaGreatDoorKP12
import Derived.Test.YtdpnahojhmkemaaGreatDoorKP17
namespace Go.Proofs.YtdpnahojhmkemaaGreatDoor
open Go Go.RowKit
set_option linter.unusedVariables false
theorem conv1 (w : World) (n : Nat) (hn : n = w.heap.size) (q : UInt8) :
  (convert 124 9 (.slice (some ⟨n, 0, none⟩) 1 1)).run Tryz.prog (w.alloc (.cells #[.int .u8 q.toNat] 5)) = .ok (.string ⟨#[q]⟩) (w.alloc (.cells #[.int .u8 q.toNat] 5)) := by
 subst hn
 rw [run_convert_bytes_string _ _ _ 5 _ _ _ Tryz.underlying124 Tryz.underlying5 Tryz.underlying9]
 rw [run_bytesToString _ _ _ _ [(q.toNat : Int)] (by
  have hc : (w.alloc (.cells #[.int .u8 q.toNat] 5)).cell? ⟨w.heap.size, 0, none⟩ = some (.int .u8 q.toNat) := by simp
  simp [loadCells, loadCellsFrom, Addr.add])]
 simp
 rfl
def AtR (s : ByteArray) (w : World) (res : Except Nat (List Str)) (f : Nat) (v4 v5 v6 v7 : Value) (wr : World) : Prop :=
 ∃ (k : Nat) (ws : List Str) (cur : Option Str) (q : UInt8), v5 = .bool cur.isSome ∧ v6 = .int .u8 q.toNat ∧ v7 = .int .i64 k ∧ k ≤ s.size ∧ s.size - k < f ∧
  refS f ws cur q (s.data.toList.drop k) = res ∧ (ws ++ cur.toList).length ≤ 32 ∧ (q = 0 ∨ ((q = 39 ∨ q = 34) ∧ cur.isSome = true)) ∧ (cur.getD []).length ≤ k ∧
  wr.ownsRow w.heap.size 9 1 v4 (ws ++ cur.toList).length (strVals (ws ++ cur.toList)) ∧ Below w.heap.size w wr
theorem u8_int {c : UInt8} {n : Nat} (hn : n < 256) (h : (c.toNat : Int) = n) : c = UInt8.ofNat n := by
 apply UInt8.toNat_inj.1
 rw [UInt8.toNat_ofNat']
 omega
inductive Cls (c : UInt8) : Prop where
 | bad (h : isBad c = true)
 | blank (h : c = 32 ∨ c = 9)
 | back (h : c = 92)
 | quote (h : c = 39 ∨ c = 34)
 | other (h : isBad c = false ∧ isBlank c = false ∧ c ≠ 92 ∧ isQuote c = false)
theorem cls (c : UInt8) : Cls c := by
 cases hb : isBad c with
 | true => exact .bad hb
 | false =>
  by_cases h1 : c = 32 ∨ c = 9
  ·exact .blank h1
  ·by_cases h2 : c = 92
   ·exact .back h2
   ·by_cases h3 : c = 39 ∨ c = 34
    ·exact .quote h3
    ·refine .other ⟨hb, ?_, h2, ?_⟩
     ·simpa [isBlank] using h1
     ·simpa [isQuote] using h3
theorem word_snoc (w0 : Str) (s : ByteArray) (k : Nat) (h : k < s.size) : (⟨w0.toArray⟩ : ByteArray) ++ s.extract k (k + 1) = ⟨(w0 ++ [s[k]]).toArray⟩ := by
 apply bytes_ext
 rw [Joins.data_append, Lib.extract_data, drop_cons s k h]
 simp
theorem word_put (w0 : Str) (d : UInt8) : (⟨w0.toArray⟩ : ByteArray) ++ ⟨#[d]⟩ = ⟨(w0 ++ [d]).toArray⟩ := by
 apply bytes_ext
 rw [Joins.data_append]
theorem below_drewN' {B : Nat} {a w : World} (h : Below B a w) (n : Nat) : Below B a (w.drewN n) := ⟨h.os, h.tape, h.output, h.size, h.block⟩
theorem below_drew' {B : Nat} {a w : World} (h : Below B a w) : Below B a w.drew := ⟨h.os, h.tape, h.output, h.size, h.block⟩
theorem AtR.word {s : ByteArray} {w : World} {res : Except Nat (List Str)} {f k' : Nat} {v4 v6 : Value} {wr : World} (ws : List Str) (x : Str) (q : UInt8) (h6 : v6 = .int .u8 q.toNat) (hk : k' ≤ s.size) (hf : s.size - k' < f)
  (hr : refS f ws (some x) q (s.data.toList.drop k') = res) (hl : ws.length < 32) (hq : q = 0 ∨ q = 39 ∨ q = 34) (hx : x.length ≤ k') (hown : wr.ownsRow w.heap.size 9 1 v4 (ws.length + 1) (strVals (ws ++ [x]))) (hb : Below w.heap.size w wr) :
  AtR s w res f v4 (.bool true) v6 (.int .i64 ((k' : Nat) : Int)) wr := by
 have e : (ws ++ (some x).toList).length = ws.length + 1 := by simp
 exact ⟨k', ws, some x, q, rfl, h6, rfl, hk, hf, hr, by omega, by rcases hq with h | h; exact .inl h; exact .inr ⟨h, rfl⟩, hx, by rw [e]; exact hown, hb⟩
theorem AtR.none {s : ByteArray} {w : World} {res : Except Nat (List Str)} {f k' : Nat} {v4 v6 : Value} {wr : World} (ws : List Str) (h6 : v6 = .int .u8 ((0 : UInt8).toNat : Nat)) (hk : k' ≤ s.size) (hf : s.size - k' < f)
  (hr : refS f ws Option.none 0 (s.data.toList.drop k') = res) (hl : ws.length ≤ 32) (hown : wr.ownsRow w.heap.size 9 1 v4 ws.length (strVals ws)) (hb : Below w.heap.size w wr) :
  AtR s w res f v4 (.bool false) v6 (.int .i64 ((k' : Nat) : Int)) wr := by
 have e : (ws ++ (Option.none : Option Str).toList) = ws := by simp
 exact ⟨k', ws, Option.none, 0, rfl, h6, rfl, hk, hf, hr, by rw [e]; exact hl, .inl rfl, by simp, by rw [e]; exact hown, hb⟩
structure Tst (n : Int) (b32 b9 b127 b92 b39 b34 : Bool) : Prop where
 t32 : (n == 32) = b32
 t9 : (n == 9) = b9
 t127 : (n == 127) = b127
 t92 : (n == 92) = b92
 t39 : (n == 39) = b39
 t34 : (n == 34) = b34
theorem tst_other {c : UInt8} (h : isBad c = false ∧ isBlank c = false ∧ c ≠ 92 ∧ isQuote c = false) : Tst c.toNat false false false false false false ∧ (32 : Int) ≤ c.toNat := by
 obtain ⟨h1, h2, h3, h4⟩ := h
 rw [isBad_iff] at h1
 rw [isBlank_iff] at h2
 have h1 := of_decide_eq_false h1
 have h2 := of_decide_eq_false h2
 have h5 : (c.toNat : Int) ≠ 92 := fun e => h3 (u8_int (n := 92) (by decide) e)
 obtain ⟨h6, h7⟩ := notQuote h4
 refine ⟨⟨?_, ?_, ?_, ?_, h6, h7⟩, ?_⟩ <;> first | (rw [beq_eq_false_iff_ne]; omega) | omega
set_option maxHeartbeats 8000000 in
set_option maxRecDepth 100000 in
theorem refSplit_any (s : ByteArray) (w : World) (hs : s.size < 549755813888) (res : Except Nat (List Str)) (hres : refS (s.size + 1) [] none 0 s.data.toList = res) :
  Calls Tryz.prog 60 #[.string s] w fun e w' => OutS w res e w' := by
 have Hres := Lib.hid hres; clear hres
 obtain ⟨i0, hi, hz0, hz1, hz2⟩ := info_parts infoString
 go_enter Tryz.func60, Tryz.ntmps60
 go_wp2_with fail
 go_loopg [4, 5, 6, 7, 8, 9, 10, 11, 12] (s.size + 1) (fun f v4 v5 v6 v7 _ _ _ _ _ wr => AtR s w res f v4 v5 v6 v7 wr)
 case atStart => exact ⟨0, [], none, 0, rfl, rfl, rfl, by omega, by omega, Hres.out, by simp, .inl rfl, by simp, World.ownsRow_nil _ _ _ _, Below.refl _ _⟩
 case round =>
  obtain ⟨k, ws, cur, q, rfl, rfl, rfl, hk, hfu, hq, hl32, hqq, hwk, hown, hbel⟩ := hrel
  have Hq := Lib.hid hq; clear hq
  have Hown := Lib.hid hown; clear hown
  have Hbel := Lib.hid hbel; clear hbel
  obtain ⟨oa, cap, rfl⟩ := ownsRow_form Hown.out
  obtain ⟨f, rfl⟩ : ∃ f, gk = f + 1 := ⟨gk - 1, by omega⟩
  by_cases hlt : k < s.size
  ·have hdc := drop_cons s k hlt
   rcases hqq with rfl | ⟨rfl | rfl, hcs⟩
   ·cases cur with
    | none =>
     cases cls s[k] with
     | bad hb =>
      have HR := Lib.hid (show res = .error 1 by rw [← Hq.out, hdc]; simp [refS, hb])
      rw [isBad_iff] at hb
      have hb := of_decide_eq_true hb
      clear hdc
      rcases hb with ⟨h1, h2⟩ | h1
      ·have t32 : ((s[k].toNat : Int) == 32) = false := by rw [beq_eq_false_iff_ne]; omega
       have t9 : ((s[k].toNat : Int) == 9) = false := by rw [beq_eq_false_iff_ne]; omega
       have t9' := bne_of t9
       clear h2
       go_wp2_with fail
       go_ret2
       exact ⟨Hbel.out, by rw [HR.out]; rfl⟩
      ·have t32 : ((s[k].toNat : Int) == 32) = false := by rw [beq_eq_false_iff_ne]; omega
       have t9 : ((s[k].toNat : Int) == 9) = false := by rw [beq_eq_false_iff_ne]; omega
       have t127 : ((s[k].toNat : Int) == 127) = true := by rw [beq_iff_eq]; omega
       have h32 : (32 : Int) ≤ s[k].toNat := by omega
       clear h1
       go_wp2_with fail
       go_ret2
       exact ⟨Hbel.out, by rw [HR.out]; rfl⟩
     | blank hx =>
      rcases hx with hx | hx
      ·have n0 : (s[k].toNat : Int) = 32 := by rw [hx]; rfl
       have t32 : ((s[k].toNat : Int) == 32) = true := by rw [n0]; rfl
       have t9 : ((s[k].toNat : Int) == 9) = false := by rw [n0]; rfl
       have t127 : ((s[k].toNat : Int) == 127) = false := by rw [n0]; rfl
       have t92 : ((s[k].toNat : Int) == 92) = false := by rw [n0]; rfl
       have t39 : ((s[k].toNat : Int) == 39) = false := by rw [n0]; rfl
       have t34 : ((s[k].toNat : Int) == 34) = false := by rw [n0]; rfl
       have t9' := bne_of t9
       have h32 : (32 : Int) ≤ s[k].toNat := by omega
       have o1 : isBad s[k] = false := by rw [hx]; rfl
       have o2 : isBlank s[k] = true := by rw [hx]; rfl
       have o3' : (s[k] == 92) = false := by rw [hx]; rfl
       have o4 : isQuote s[k] = false := by rw [hx]; rfl
       have HR := Lib.hid (show refS f ws none 0 (s.data.toList.drop (k + 1)) = res by
        rw [← Hq.out, hdc]
        simp only [refS, o1, o2]
        simp)
       have HO := Lib.hid (show wr.ownsRow w.heap.size 9 1 (.slice oa ws.length cap) ws.length (strVals ws) by simpa using Hown.out)
       have e0 : (ws ++ (none : Option Str).toList).length = ws.length := by simp
       rw [e0]
       have hl2 : ws.length ≤ 32 := by rw [← e0]; exact hl32
       clear hdc Hown e0 hx n0
       go_wp2_with fail
       go_roundg f
       case measure => omega
       case rel => exact AtR.none (k' := k + 1) ws rfl (by omega) (by omega) HR.out hl2 HO.out Hbel.out
      ·have n0 : (s[k].toNat : Int) = 9 := by rw [hx]; rfl
       have t32 : ((s[k].toNat : Int) == 32) = false := by rw [n0]; rfl
       have t9 : ((s[k].toNat : Int) == 9) = true := by rw [n0]; rfl
       have t127 : ((s[k].toNat : Int) == 127) = false := by rw [n0]; rfl
       have t92 : ((s[k].toNat : Int) == 92) = false := by rw [n0]; rfl
       have t39 : ((s[k].toNat : Int) == 39) = false := by rw [n0]; rfl
       have t34 : ((s[k].toNat : Int) == 34) = false := by rw [n0]; rfl
       have t9' := bne_of t9
       have h32 : (s[k].toNat : Int) < 32 := by omega
       have o1 : isBad s[k] = false := by rw [hx]; rfl
       have o2 : isBlank s[k] = true := by rw [hx]; rfl
       have o3' : (s[k] == 92) = false := by rw [hx]; rfl
       have o4 : isQuote s[k] = false := by rw [hx]; rfl
       have HR := Lib.hid (show refS f ws none 0 (s.data.toList.drop (k + 1)) = res by
        rw [← Hq.out, hdc]
        simp only [refS, o1, o2]
        simp)
       have HO := Lib.hid (show wr.ownsRow w.heap.size 9 1 (.slice oa ws.length cap) ws.length (strVals ws) by simpa using Hown.out)
       have e0 : (ws ++ (none : Option Str).toList).length = ws.length := by simp
       rw [e0]
       have hl2 : ws.length ≤ 32 := by rw [← e0]; exact hl32
       clear hdc Hown e0 hx n0
       go_wp2_with fail
       go_roundg f
       case measure => omega
       case rel => exact AtR.none (k' := k + 1) ws rfl (by omega) (by omega) HR.out hl2 HO.out Hbel.out
     | back hx =>
      have n0 : (s[k].toNat : Int) = 92 := by rw [hx]; rfl
      have t32 : ((s[k].toNat : Int) == 32) = false := by rw [n0]; rfl
      have t9 : ((s[k].toNat : Int) == 9) = false := by rw [n0]; rfl
      have t127 : ((s[k].toNat : Int) == 127) = false := by rw [n0]; rfl
      have t92 : ((s[k].toNat : Int) == 92) = true := by rw [n0]; rfl
      have t39 : ((s[k].toNat : Int) == 39) = false := by rw [n0]; rfl
      have t34 : ((s[k].toNat : Int) == 34) = false := by rw [n0]; rfl
      have t9' := bne_of t9
      have h32 : (32 : Int) ≤ s[k].toNat := by omega
      have o1 : isBad s[k] = false := by rw [hx]; rfl
      have o2 : isBlank s[k] = false := by rw [hx]; rfl
      have o3' : (s[k] == 92) = true := by rw [hx]; rfl
      have o4 : isQuote s[k] = false := by rw [hx]; rfl
      by_cases h32n : ws.length = 32
      ·have HR := Lib.hid (show res = .error (wrongC s[k] (s.data.toList.drop (k + 1))) by
        rw [← Hq.out, hdc]
        simp only [refS, o1, o2, h32n]
        simp [wrongC])
       have e0 : (ws ++ (none : Option Str).toList).length = ws.length := by simp
       rw [e0]
       have l32 : ((ws.length : Int) == 32) = true := by rw [beq_iff_eq]; omega
       have hsx : (s.extract k s.size).size = s.size - k := by simp
       have hk0 : 0 < (s.extract k s.size).size := by omega
       have hc0 : (s.extract k s.size)[0]'hk0 = s[k] := by simp [ByteArray.getElem_extract]
       have HW := Lib.hid (wrongAt_any (s.extract k s.size) wr (by omega) hk0)
       have HC0 := Lib.hid hc0
       have hdd : (s.extract k s.size).data.toList.drop 1 = s.data.toList.drop (k + 1) := by rw [Lib.extract_to_end, List.drop_drop]
       have HDD := Lib.hid hdd
       have hk1 : (k : Int) ≤ (s.size : Int) := by omega
       clear hc0 hdd hsx hdc e0 h32n n0
       have HX9 := Lib.hid hx; clear hx
       go_wp2_with fail
       have H := HW.out
       rw [HC0.out, HDD.out] at H
       refine H.mono ?_
       rintro e w' ⟨rfl, n, rfl⟩
       go_wp2_with fail
       go_ret2
       exact ⟨Hbel.out.trans (below_dn (dn _ n)), by rw [HR.out]; rfl⟩
      ·cases he : escOf (s.data.toList.drop (k + 1)) with
       | none =>
        have e0 : (ws ++ (none : Option Str).toList).length = ws.length := by simp
        rw [e0]
        have hown0 : wr.ownsRow w.heap.size 9 1 (.slice oa ws.length cap) ws.length (strVals ws) := by simpa using Hown.out
        have hl3 : ws.length ≤ 32 := by rw [← e0]; exact hl32
        clear e0 Hown
        have hsz := Hbel.out.size
        have HR := Lib.hid (show res = .error 13 by
         rw [← Hq.out, hdc]
         have n32 : (ws.length == 32) = false := by simpa using h32n
         simp only [refS, o1, o2, o3', o4, he, n32]
         simp)
        have HE := Lib.hid (show escR (s.data.toList.drop (k + 1)) = (0, 0) by simp [escR, he]); clear he
        have l32 : ((ws.length : Int) == 32) = false := by rw [beq_eq_false_iff_ne]; omega
        have hl4 : ws.length < 32 := by omega
        clear hdc n0
        have HX0 := Lib.hid hx; clear hx
        go_wp2_with (at_builtin; refine wpList_append_own _ rfl _ _ 26 rfl w.heap.size 9 i0 (.string ⟨#[]⟩) 1 16 Tryz.underlying26 hi hz0 hz1 hz2 rfl (by decide) _ _ _ rfl (hown0.alloc _) ⟨wr.heap.size, 0, none⟩ 1 1 [.string ⟨#[]⟩] rfl rfl (by exact cell_one_new _ _ _) (by simp [Value.oneCell']) (by unfold maxLen; omega) (by omega) (by simp; omega) ?_)
        intro v' w2 hown' hgrow hnil
        have HB2 := Lib.hid ((Hbel.out.alloc hsz _).grown hgrow (by simp; omega) (fun g hg => (hown0.lt g hg).1))
        have HO2 := Lib.hid (show w2.ownsRow w.heap.size 9 1 v' (ws.length + 1) (strVals (ws ++ [[]])) by rw [strVals_snoc]; exact hown')
        clear hgrow hnil hown' hown0
        obtain ⟨oa2, cap2, rfl⟩ := ownsRow_form HO2.out
        obtain ⟨g, rfl⟩ := own_block HO2.out
        have hesc := escapeR_any (s.extract (k + 1) s.size) w2 (by simp; omega)
        rw [Lib.extract_to_end s (k + 1)] at hesc
        have HC := Lib.hid hesc; clear hesc
        have hk1 : (k : Int) + 1 ≤ (s.size : Int) := by omega
        go_wp2_with fail
        refine HC.out.mono ?_
        rw [HE.out]
        rintro e w' ⟨rfl, n, rfl⟩
        go_wp2_with fail
        go_ret2
        exact ⟨HB2.out.trans (below_dn (dn _ n)), by rw [HR.out]; rfl⟩
       | some dn =>
        obtain ⟨d, n⟩ := dn
        have e0 : (ws ++ (none : Option Str).toList).length = ws.length := by simp
        rw [e0]
        have hown0 : wr.ownsRow w.heap.size 9 1 (.slice oa ws.length cap) ws.length (strVals ws) := by simpa using Hown.out
        have hl3 : ws.length ≤ 32 := by rw [← e0]; exact hl32
        clear e0 Hown
        have hsz := Hbel.out.size
        have HR := Lib.hid (show refS f ws (some (([] : Str) ++ [d])) 0 (s.data.toList.drop (k + (n + 1))) = res by
         rw [← Hq.out, hdc]
         have n32 : (ws.length == 32) = false := by simpa using h32n
         simp only [refS, o1, o2, o3', o4, he, n32]
         simp [List.drop_drop]
         congr 2
         omega)
        have hX : (⟨(([] : Str)).toArray⟩ : ByteArray) ++ (⟨#[d]⟩ : ByteArray) = ⟨(([] : Str) ++ [d]).toArray⟩ := word_put ([] : Str) d
        have HE := Lib.hid (show escR (s.data.toList.drop (k + 1)) = (d, n) by simp [escR, he])
        have hle := (esc_le he).2.1
        rw [drop_len] at hle
        have hn1 := (esc_le he).1
        have hn0 : ((n : Int) == 0) = false := by rw [beq_eq_false_iff_ne]; omega
        clear he
        have l32 : ((ws.length : Int) == 32) = false := by rw [beq_eq_false_iff_ne]; omega
        have hl4 : ws.length < 32 := by omega
        clear hdc n0
        have HX0 := Lib.hid hx; clear hx
        go_wp2_with (at_builtin; refine wpList_append_own _ rfl _ _ 26 rfl w.heap.size 9 i0 (.string ⟨#[]⟩) 1 16 Tryz.underlying26 hi hz0 hz1 hz2 rfl (by decide) _ _ _ rfl (hown0.alloc _) ⟨wr.heap.size, 0, none⟩ 1 1 [.string ⟨#[]⟩] rfl rfl (by exact cell_one_new _ _ _) (by simp [Value.oneCell']) (by unfold maxLen; omega) (by omega) (by simp; omega) ?_)
        intro v' w2 hown' hgrow hnil
        have HB2 := Lib.hid ((Hbel.out.alloc hsz _).grown hgrow (by simp; omega) (fun g hg => (hown0.lt g hg).1))
        have HO2 := Lib.hid (show w2.ownsRow w.heap.size 9 1 v' (ws.length + 1) (strVals (ws ++ [[]])) by rw [strVals_snoc]; exact hown')
        clear hgrow hnil hown' hown0
        obtain ⟨oa2, cap2, rfl⟩ := ownsRow_form HO2.out
        obtain ⟨g, rfl⟩ := own_block HO2.out
        have hesc := escapeR_any (s.extract (k + 1) s.size) w2 (by simp; omega)
        rw [Lib.extract_to_end s (k + 1)] at hesc
        obtain ⟨hset, hcell, hfro, hbg, hglt⟩ := own_set_last (xs := strVals ws) (x := .string ⟨(([] : Str)).toArray⟩) (by have := HO2.out; rw [strVals_snoc] at this; exact this) (.string ((⟨(([] : Str)).toArray⟩ : ByteArray) ++ (⟨#[d]⟩ : ByteArray)))
        have HS := Lib.hid (show (w2.setCell ⟨g, ws.length, none⟩ (.string ((⟨(([] : Str)).toArray⟩ : ByteArray) ++ (⟨#[d]⟩ : ByteArray)))).ownsRow w.heap.size 9 1 (.slice (some ⟨g, 0, none⟩) (ws.length + 1) cap2) (ws.length + 1) (strVals (ws ++ [([] : Str) ++ [d]])) by
         rw [strVals_snoc, ← hX]; exact hset)
        have HB3 := Lib.hid (HB2.out.setCell (p := ⟨g, ws.length, none⟩) hbg (.string ((⟨(([] : Str)).toArray⟩ : ByteArray) ++ (⟨#[d]⟩ : ByteArray))))
        have hcell' : w2.cell? ⟨g, ws.length, none⟩ = some (.string ⟨#[]⟩) := hcell
        have hA := fun (j : Nat) (o : Obj) => own_set_last (w := (w2.drewN j).alloc o) (xs := strVals ws) (x := .string ⟨(([] : Str)).toArray⟩) (by have := (show (w2.drewN j).ownsRow w.heap.size 9 1 (.slice (some ⟨g, 0, none⟩) (ws.length + 1) cap2) (ws.length + 1) (strVals (ws ++ [([] : Str)])) from HO2.out).alloc o; rw [strVals_snoc] at this; exact this) (.string ((⟨(([] : Str)).toArray⟩ : ByteArray) ++ (⟨#[d]⟩ : ByteArray)))
        have hcl := fun (j : Nat) (o : Obj) => (hA j o).2.1
        have hfl := fun (j : Nat) (o : Obj) => (hA j o).2.2.1
        have HSA := Lib.hid (fun (j : Nat) (o : Obj) => (hA j o).1)
        have HBA := Lib.hid (fun (j : Nat) (o : Obj) => (Below.setCell ((below_drewN' HB2.out j).alloc (show w.heap.size ≤ (w2.drewN j).heap.size from HB2.out.size) o) (p := ⟨g, ws.length, none⟩) hbg (.string ((⟨(([] : Str)).toArray⟩ : ByteArray) ++ (⟨#[d]⟩ : ByteArray)))))
        clear hA
        clear hset hX hbg
        have HC := Lib.hid hesc; clear hesc
        have hk1 : (k : Int) + 1 ≤ (s.size : Int) := by omega
        have hcv := fun (j : Nat) => conv1 (w2.drewN j) w2.heap.size rfl d
        go_wp2_with fail
        refine HC.out.mono ?_
        rw [HE.out]
        rintro e w' ⟨rfl, m, rfl⟩
        go_wp2_with fail
        go_region
        go_wp2_with fail
        go_roundg f
        case measure => omega
        case rel =>
         have e2 : ((k : Int) + n + 1) = ((k + (n + 1) : Nat) : Int) := by omega
         rw [e2]
         exact AtR.word (k' := k + (n + 1)) ws (([] : Str) ++ [d]) 0 rfl (by omega) (by omega) HR.out hl4 (by decide) (by simp <;> omega) (by have := HSA.out; rw [strVals_snoc, ← word_put]; exact this _ _) (by have := HBA.out (m + 1); first | exact this _ | exact below_drew' (this _))
     | quote hx =>
      rcases hx with hx | hx
      ·have n0 : (s[k].toNat : Int) = 39 := by rw [hx]; rfl
       have t32 : ((s[k].toNat : Int) == 32) = false := by rw [n0]; rfl
       have t9 : ((s[k].toNat : Int) == 9) = false := by rw [n0]; rfl
       have t127 : ((s[k].toNat : Int) == 127) = false := by rw [n0]; rfl
       have t92 : ((s[k].toNat : Int) == 92) = false := by rw [n0]; rfl
       have t39 : ((s[k].toNat : Int) == 39) = true := by rw [n0]; rfl
       have t34 : ((s[k].toNat : Int) == 34) = false := by rw [n0]; rfl
       have t9' := bne_of t9
       have h32 : (32 : Int) ≤ s[k].toNat := by omega
       have o1 : isBad s[k] = false := by rw [hx]; rfl
       have o2 : isBlank s[k] = false := by rw [hx]; rfl
       have o3' : (s[k] == 92) = false := by rw [hx]; rfl
       have o4 : isQuote s[k] = true := by rw [hx]; rfl
       by_cases h32n : ws.length = 32
       ·have HR := Lib.hid (show res = .error (wrongC s[k] (s.data.toList.drop (k + 1))) by
         rw [← Hq.out, hdc]
         simp only [refS, o1, o2, h32n]
         simp [wrongC])
        have e0 : (ws ++ (none : Option Str).toList).length = ws.length := by simp
        rw [e0]
        have l32 : ((ws.length : Int) == 32) = true := by rw [beq_iff_eq]; omega
        have hsx : (s.extract k s.size).size = s.size - k := by simp
        have hk0 : 0 < (s.extract k s.size).size := by omega
        have hc0 : (s.extract k s.size)[0]'hk0 = s[k] := by simp [ByteArray.getElem_extract]
        have HW := Lib.hid (wrongAt_any (s.extract k s.size) wr (by omega) hk0)
        have HC0 := Lib.hid hc0
        have hdd : (s.extract k s.size).data.toList.drop 1 = s.data.toList.drop (k + 1) := by rw [Lib.extract_to_end, List.drop_drop]
        have HDD := Lib.hid hdd
        have hk1 : (k : Int) ≤ (s.size : Int) := by omega
        clear hc0 hdd hsx hdc e0 h32n n0
        have HX9 := Lib.hid hx; clear hx
        go_wp2_with fail
        have H := HW.out
        rw [HC0.out, HDD.out] at H
        refine H.mono ?_
        rintro e w' ⟨rfl, n, rfl⟩
        go_wp2_with fail
        go_ret2
        exact ⟨Hbel.out.trans (below_dn (dn _ n)), by rw [HR.out]; rfl⟩
       ·have e0 : (ws ++ (none : Option Str).toList).length = ws.length := by simp
        rw [e0]
        have hown0 : wr.ownsRow w.heap.size 9 1 (.slice oa ws.length cap) ws.length (strVals ws) := by simpa using Hown.out
        have hl3 : ws.length ≤ 32 := by rw [← e0]; exact hl32
        clear e0 Hown
        have hsz := Hbel.out.size
        have HR := Lib.hid (show refS f ws (some ([] : Str)) s[k] (s.data.toList.drop (k + 1)) = res by
         rw [← Hq.out, hdc]
         have n32 : (ws.length == 32) = false := by simpa using h32n
         skip
         simp only [refS, o1, o2, o3', o4, n32]
         simp)
        have hqs : s[k] = 0 ∨ s[k] = 39 ∨ s[k] = 34 := by rw [hx]; decide
        have l32 : ((ws.length : Int) == 32) = false := by rw [beq_eq_false_iff_ne]; omega
        have hl4 : ws.length < 32 := by omega
        clear hdc n0
        have HX0 := Lib.hid hx; clear hx
        go_wp2_with (at_builtin; refine wpList_append_own _ rfl _ _ 26 rfl w.heap.size 9 i0 (.string ⟨#[]⟩) 1 16 Tryz.underlying26 hi hz0 hz1 hz2 rfl (by decide) _ _ _ rfl (hown0.alloc _) ⟨wr.heap.size, 0, none⟩ 1 1 [.string ⟨#[]⟩] rfl rfl (by exact cell_one_new _ _ _) (by simp [Value.oneCell']) (by unfold maxLen; omega) (by omega) (by simp; omega) ?_)
        intro v' w2 hown' hgrow hnil
        have HB2 := Lib.hid ((Hbel.out.alloc hsz _).grown hgrow (by simp; omega) (fun g hg => (hown0.lt g hg).1))
        have HO2 := Lib.hid (show w2.ownsRow w.heap.size 9 1 v' (ws.length + 1) (strVals (ws ++ [[]])) by rw [strVals_snoc]; exact hown')
        clear hgrow hnil hown' hown0
        obtain ⟨oa2, cap2, rfl⟩ := ownsRow_form HO2.out
        obtain ⟨g, rfl⟩ := own_block HO2.out
        go_wp2_with fail
        go_roundg f
        case measure => omega
        case rel => exact AtR.word (k' := k + 1) ws ([] : Str) s[k] rfl (by omega) (by omega) HR.out hl4 hqs (by simp) HO2.out HB2.out
      ·have n0 : (s[k].toNat : Int) = 34 := by rw [hx]; rfl
       have t32 : ((s[k].toNat : Int) == 32) = false := by rw [n0]; rfl
       have t9 : ((s[k].toNat : Int) == 9) = false := by rw [n0]; rfl
       have t127 : ((s[k].toNat : Int) == 127) = false := by rw [n0]; rfl
       have t92 : ((s[k].toNat : Int) == 92) = false := by rw [n0]; rfl
       have t39 : ((s[k].toNat : Int) == 39) = false := by rw [n0]; rfl
       have t34 : ((s[k].toNat : Int) == 34) = true := by rw [n0]; rfl
       have t9' := bne_of t9
       have h32 : (32 : Int) ≤ s[k].toNat := by omega
       have o1 : isBad s[k] = false := by rw [hx]; rfl
       have o2 : isBlank s[k] = false := by rw [hx]; rfl
       have o3' : (s[k] == 92) = false := by rw [hx]; rfl
       have o4 : isQuote s[k] = true := by rw [hx]; rfl
       by_cases h32n : ws.length = 32
       ·have HR := Lib.hid (show res = .error (wrongC s[k] (s.data.toList.drop (k + 1))) by
         rw [← Hq.out, hdc]
         simp only [refS, o1, o2, h32n]
         simp [wrongC])
        have e0 : (ws ++ (none : Option Str).toList).length = ws.length := by simp
        rw [e0]
        have l32 : ((ws.length : Int) == 32) = true := by rw [beq_iff_eq]; omega
        have hsx : (s.extract k s.size).size = s.size - k := by simp
        have hk0 : 0 < (s.extract k s.size).size := by omega
        have hc0 : (s.extract k s.size)[0]'hk0 = s[k] := by simp [ByteArray.getElem_extract]
        have HW := Lib.hid (wrongAt_any (s.extract k s.size) wr (by omega) hk0)
        have HC0 := Lib.hid hc0
        have hdd : (s.extract k s.size).data.toList.drop 1 = s.data.toList.drop (k + 1) := by rw [Lib.extract_to_end, List.drop_drop]
        have HDD := Lib.hid hdd
        have hk1 : (k : Int) ≤ (s.size : Int) := by omega
        clear hc0 hdd hsx hdc e0 h32n n0
        have HX9 := Lib.hid hx; clear hx
        go_wp2_with fail
        have H := HW.out
        rw [HC0.out, HDD.out] at H
        refine H.mono ?_
        rintro e w' ⟨rfl, n, rfl⟩
        go_wp2_with fail
        go_ret2
        exact ⟨Hbel.out.trans (below_dn (dn _ n)), by rw [HR.out]; rfl⟩
       ·have e0 : (ws ++ (none : Option Str).toList).length = ws.length := by simp
        rw [e0]
        have hown0 : wr.ownsRow w.heap.size 9 1 (.slice oa ws.length cap) ws.length (strVals ws) := by simpa using Hown.out
        have hl3 : ws.length ≤ 32 := by rw [← e0]; exact hl32
        clear e0 Hown
        have hsz := Hbel.out.size
        have HR := Lib.hid (show refS f ws (some ([] : Str)) s[k] (s.data.toList.drop (k + 1)) = res by
         rw [← Hq.out, hdc]
         have n32 : (ws.length == 32) = false := by simpa using h32n
         skip
         simp only [refS, o1, o2, o3', o4, n32]
         simp)
        have hqs : s[k] = 0 ∨ s[k] = 39 ∨ s[k] = 34 := by rw [hx]; decide
        have l32 : ((ws.length : Int) == 32) = false := by rw [beq_eq_false_iff_ne]; omega
        have hl4 : ws.length < 32 := by omega
        clear hdc n0
        have HX0 := Lib.hid hx; clear hx
        go_wp2_with (at_builtin; refine wpList_append_own _ rfl _ _ 26 rfl w.heap.size 9 i0 (.string ⟨#[]⟩) 1 16 Tryz.underlying26 hi hz0 hz1 hz2 rfl (by decide) _ _ _ rfl (hown0.alloc _) ⟨wr.heap.size, 0, none⟩ 1 1 [.string ⟨#[]⟩] rfl rfl (by exact cell_one_new _ _ _) (by simp [Value.oneCell']) (by unfold maxLen; omega) (by omega) (by simp; omega) ?_)
        intro v' w2 hown' hgrow hnil
        have HB2 := Lib.hid ((Hbel.out.alloc hsz _).grown hgrow (by simp; omega) (fun g hg => (hown0.lt g hg).1))
        have HO2 := Lib.hid (show w2.ownsRow w.heap.size 9 1 v' (ws.length + 1) (strVals (ws ++ [[]])) by rw [strVals_snoc]; exact hown')
        clear hgrow hnil hown' hown0
        obtain ⟨oa2, cap2, rfl⟩ := ownsRow_form HO2.out
        obtain ⟨g, rfl⟩ := own_block HO2.out
        go_wp2_with fail
        go_roundg f
        case measure => omega
        case rel => exact AtR.word (k' := k + 1) ws ([] : Str) s[k] rfl (by omega) (by omega) HR.out hl4 hqs (by simp) HO2.out HB2.out
     | other ho =>
      obtain ⟨tst, h32⟩ := tst_other ho
      obtain ⟨t32, t9, t127, t92, t39, t34⟩ := tst
      have t9' := bne_of t9
      obtain ⟨o1, o2, o3, o4⟩ := ho
      have o3' : (s[k] == 92) = false := by simpa using o3
      by_cases h32n : ws.length = 32
      ·have HR := Lib.hid (show res = .error (wrongC s[k] (s.data.toList.drop (k + 1))) by
        rw [← Hq.out, hdc]
        simp only [refS, o1, o2, h32n]
        simp [wrongC])
       have e0 : (ws ++ (none : Option Str).toList).length = ws.length := by simp
       rw [e0]
       have l32 : ((ws.length : Int) == 32) = true := by rw [beq_iff_eq]; omega
       have hsx : (s.extract k s.size).size = s.size - k := by simp
       have hk0 : 0 < (s.extract k s.size).size := by omega
       have hc0 : (s.extract k s.size)[0]'hk0 = s[k] := by simp [ByteArray.getElem_extract]
       have HW := Lib.hid (wrongAt_any (s.extract k s.size) wr (by omega) hk0)
       have HC0 := Lib.hid hc0
       have hdd : (s.extract k s.size).data.toList.drop 1 = s.data.toList.drop (k + 1) := by rw [Lib.extract_to_end, List.drop_drop]
       have HDD := Lib.hid hdd
       have hk1 : (k : Int) ≤ (s.size : Int) := by omega
       clear hc0 hdd hsx hdc e0 h32n
       have HX9 := Lib.hid o3'; clear o3'
       go_wp2_with fail
       have H := HW.out
       rw [HC0.out, HDD.out] at H
       refine H.mono ?_
       rintro e w' ⟨rfl, n, rfl⟩
       go_wp2_with fail
       go_ret2
       exact ⟨Hbel.out.trans (below_dn (dn _ n)), by rw [HR.out]; rfl⟩
      ·have e0 : (ws ++ (none : Option Str).toList).length = ws.length := by simp
       rw [e0]
       have hown0 : wr.ownsRow w.heap.size 9 1 (.slice oa ws.length cap) ws.length (strVals ws) := by simpa using Hown.out
       have hl3 : ws.length ≤ 32 := by rw [← e0]; exact hl32
       clear e0 Hown
       have hsz := Hbel.out.size
       have HR := Lib.hid (show refS f ws (some (([] : Str) ++ [s[k]])) 0 (s.data.toList.drop (k + 1)) = res by
        rw [← Hq.out, hdc]
        have n32 : (ws.length == 32) = false := by simpa using h32n
        skip
        simp only [refS, o1, o2, o3', o4, n32]
        simp)
       have hX : (⟨(([] : Str)).toArray⟩ : ByteArray) ++ s.extract k (k + 1) = ⟨(([] : Str) ++ [s[k]]).toArray⟩ := word_snoc ([] : Str) s k hlt
       have hk1 : (k : Int) + 1 ≤ (s.size : Int) := by omega
       have l32 : ((ws.length : Int) == 32) = false := by rw [beq_eq_false_iff_ne]; omega
       have hl4 : ws.length < 32 := by omega
       clear hdc
       go_wp2_with (at_builtin; refine wpList_append_own _ rfl _ _ 26 rfl w.heap.size 9 i0 (.string ⟨#[]⟩) 1 16 Tryz.underlying26 hi hz0 hz1 hz2 rfl (by decide) _ _ _ rfl (hown0.alloc _) ⟨wr.heap.size, 0, none⟩ 1 1 [.string ⟨#[]⟩] rfl rfl (by exact cell_one_new _ _ _) (by simp [Value.oneCell']) (by unfold maxLen; omega) (by omega) (by simp; omega) ?_)
       intro v' w2 hown' hgrow hnil
       have HB2 := Lib.hid ((Hbel.out.alloc hsz _).grown hgrow (by simp; omega) (fun g hg => (hown0.lt g hg).1))
       have HO2 := Lib.hid (show w2.ownsRow w.heap.size 9 1 v' (ws.length + 1) (strVals (ws ++ [[]])) by rw [strVals_snoc]; exact hown')
       clear hgrow hnil hown' hown0
       obtain ⟨oa2, cap2, rfl⟩ := ownsRow_form HO2.out
       obtain ⟨g, rfl⟩ := own_block HO2.out
       obtain ⟨hset, hcell, hfro, hbg, hglt⟩ := own_set_last (xs := strVals ws) (x := .string ⟨(([] : Str)).toArray⟩) (by have := HO2.out; rw [strVals_snoc] at this; exact this) (.string ((⟨(([] : Str)).toArray⟩ : ByteArray) ++ s.extract k (k + 1)))
       have HS := Lib.hid (show (w2.setCell ⟨g, ws.length, none⟩ (.string ((⟨(([] : Str)).toArray⟩ : ByteArray) ++ s.extract k (k + 1)))).ownsRow w.heap.size 9 1 (.slice (some ⟨g, 0, none⟩) (ws.length + 1) cap2) (ws.length + 1) (strVals (ws ++ [([] : Str) ++ [s[k]]])) by
        rw [strVals_snoc, ← hX]; exact hset)
       have HB3 := Lib.hid (HB2.out.setCell (p := ⟨g, ws.length, none⟩) hbg (.string ((⟨(([] : Str)).toArray⟩ : ByteArray) ++ s.extract k (k + 1))))
       have hcell' : w2.cell? ⟨g, ws.length, none⟩ = some (.string ⟨#[]⟩) := hcell
       clear hset hX hbg
       go_wp2_with fail
       go_region
       go_wp2_with fail
       go_roundg f
       case measure => omega
       case rel => exact AtR.word (k' := k + 1) ws (([] : Str) ++ [s[k]]) 0 rfl (by omega) (by omega) HR.out hl4 (by decide) (by simp <;> omega) HS.out (by first | exact HB3.out | exact ⟨HB3.out.os, HB3.out.tape, HB3.out.output, HB3.out.size, HB3.out.block⟩)
    | some w0 =>
     cases cls s[k] with
     | bad hb =>
      have HR := Lib.hid (show res = .error 1 by rw [← Hq.out, hdc]; simp [refS, hb])
      rw [isBad_iff] at hb
      have hb := of_decide_eq_true hb
      clear hdc
      rcases hb with ⟨h1, h2⟩ | h1
      ·have t32 : ((s[k].toNat : Int) == 32) = false := by rw [beq_eq_false_iff_ne]; omega
       have t9 : ((s[k].toNat : Int) == 9) = false := by rw [beq_eq_false_iff_ne]; omega
       have t9' := bne_of t9
       clear h2
       go_wp2_with fail
       go_ret2
       exact ⟨Hbel.out, by rw [HR.out]; rfl⟩
      ·have t32 : ((s[k].toNat : Int) == 32) = false := by rw [beq_eq_false_iff_ne]; omega
       have t9 : ((s[k].toNat : Int) == 9) = false := by rw [beq_eq_false_iff_ne]; omega
       have t127 : ((s[k].toNat : Int) == 127) = true := by rw [beq_iff_eq]; omega
       have h32 : (32 : Int) ≤ s[k].toNat := by omega
       clear h1
       go_wp2_with fail
       go_ret2
       exact ⟨Hbel.out, by rw [HR.out]; rfl⟩
     | blank hx =>
      rcases hx with hx | hx
      ·have n0 : (s[k].toNat : Int) = 32 := by rw [hx]; rfl
       have t32 : ((s[k].toNat : Int) == 32) = true := by rw [n0]; rfl
       have t9 : ((s[k].toNat : Int) == 9) = false := by rw [n0]; rfl
       have t127 : ((s[k].toNat : Int) == 127) = false := by rw [n0]; rfl
       have t92 : ((s[k].toNat : Int) == 92) = false := by rw [n0]; rfl
       have t39 : ((s[k].toNat : Int) == 39) = false := by rw [n0]; rfl
       have t34 : ((s[k].toNat : Int) == 34) = false := by rw [n0]; rfl
       have t9' := bne_of t9
       have h32 : (32 : Int) ≤ s[k].toNat := by omega
       have o1 : isBad s[k] = false := by rw [hx]; rfl
       have o2 : isBlank s[k] = true := by rw [hx]; rfl
       have o3' : (s[k] == 92) = false := by rw [hx]; rfl
       have o4 : isQuote s[k] = false := by rw [hx]; rfl
       have HR := Lib.hid (show refS f (ws ++ [w0]) none 0 (s.data.toList.drop (k + 1)) = res by
        rw [← Hq.out, hdc]
        simp only [refS, o1, o2]
        simp)
       have HO := Lib.hid (show wr.ownsRow w.heap.size 9 1 (.slice oa (ws.length + 1) cap) (ws ++ [w0]).length (strVals (ws ++ [w0])) by simpa using Hown.out)
       have e0 : (ws ++ (some w0).toList).length = ws.length + 1 := by simp
       rw [e0]
       have hl2 : (ws ++ [w0]).length ≤ 32 := by simpa using hl32
       clear hdc Hown e0 hx n0
       go_wp2_with fail
       go_roundg f
       case measure => omega
       case rel => exact AtR.none (k' := k + 1) (ws ++ [w0]) rfl (by omega) (by omega) HR.out hl2 HO.out Hbel.out
      ·have n0 : (s[k].toNat : Int) = 9 := by rw [hx]; rfl
       have t32 : ((s[k].toNat : Int) == 32) = false := by rw [n0]; rfl
       have t9 : ((s[k].toNat : Int) == 9) = true := by rw [n0]; rfl
       have t127 : ((s[k].toNat : Int) == 127) = false := by rw [n0]; rfl
       have t92 : ((s[k].toNat : Int) == 92) = false := by rw [n0]; rfl
       have t39 : ((s[k].toNat : Int) == 39) = false := by rw [n0]; rfl
       have t34 : ((s[k].toNat : Int) == 34) = false := by rw [n0]; rfl
       have t9' := bne_of t9
       have h32 : (s[k].toNat : Int) < 32 := by omega
       have o1 : isBad s[k] = false := by rw [hx]; rfl
       have o2 : isBlank s[k] = true := by rw [hx]; rfl
       have o3' : (s[k] == 92) = false := by rw [hx]; rfl
       have o4 : isQuote s[k] = false := by rw [hx]; rfl
       have HR := Lib.hid (show refS f (ws ++ [w0]) none 0 (s.data.toList.drop (k + 1)) = res by
        rw [← Hq.out, hdc]
        simp only [refS, o1, o2]
        simp)
       have HO := Lib.hid (show wr.ownsRow w.heap.size 9 1 (.slice oa (ws.length + 1) cap) (ws ++ [w0]).length (strVals (ws ++ [w0])) by simpa using Hown.out)
       have e0 : (ws ++ (some w0).toList).length = ws.length + 1 := by simp
       rw [e0]
       have hl2 : (ws ++ [w0]).length ≤ 32 := by simpa using hl32
       clear hdc Hown e0 hx n0
       go_wp2_with fail
       go_roundg f
       case measure => omega
       case rel => exact AtR.none (k' := k + 1) (ws ++ [w0]) rfl (by omega) (by omega) HR.out hl2 HO.out Hbel.out
     | back hx =>
      have n0 : (s[k].toNat : Int) = 92 := by rw [hx]; rfl
      have t32 : ((s[k].toNat : Int) == 32) = false := by rw [n0]; rfl
      have t9 : ((s[k].toNat : Int) == 9) = false := by rw [n0]; rfl
      have t127 : ((s[k].toNat : Int) == 127) = false := by rw [n0]; rfl
      have t92 : ((s[k].toNat : Int) == 92) = true := by rw [n0]; rfl
      have t39 : ((s[k].toNat : Int) == 39) = false := by rw [n0]; rfl
      have t34 : ((s[k].toNat : Int) == 34) = false := by rw [n0]; rfl
      have t9' := bne_of t9
      have h32 : (32 : Int) ≤ s[k].toNat := by omega
      have o1 : isBad s[k] = false := by rw [hx]; rfl
      have o2 : isBlank s[k] = false := by rw [hx]; rfl
      have o3' : (s[k] == 92) = true := by rw [hx]; rfl
      have o4 : isQuote s[k] = false := by rw [hx]; rfl
      cases he : escOf (s.data.toList.drop (k + 1)) with
      | none =>
       have e0 : (ws ++ (some w0).toList).length = ws.length + 1 := by simp
       rw [e0]
       have HO2 := Lib.hid (show wr.ownsRow w.heap.size 9 1 (.slice oa (ws.length + 1) cap) (ws.length + 1) (strVals (ws ++ [w0])) by simpa using Hown.out)
       have hl3 : ws.length < 32 := by rw [e0] at hl32; omega
       clear e0 Hown
       obtain ⟨g, rfl⟩ := own_block HO2.out
       have HB2 := Hbel
       have hwl : w0.length ≤ k := hwk
       have HR := Lib.hid (show res = .error 13 by
        rw [← Hq.out, hdc]
        skip
        simp only [refS, o1, o2, o3', o4, he]
        simp)
       have HE := Lib.hid (show escR (s.data.toList.drop (k + 1)) = (0, 0) by simp [escR, he]); clear he
       have hesc := escapeR_any (s.extract (k + 1) s.size) wr (by simp; omega)
       rw [Lib.extract_to_end s (k + 1)] at hesc
       clear hdc n0
       have HX0 := Lib.hid hx; clear hx
       have HC := Lib.hid hesc; clear hesc
       have hk1 : (k : Int) + 1 ≤ (s.size : Int) := by omega
       go_wp2_with fail
       refine HC.out.mono ?_
       rw [HE.out]
       rintro e w' ⟨rfl, n, rfl⟩
       go_wp2_with fail
       go_ret2
       exact ⟨HB2.out.trans (below_dn (dn _ n)), by rw [HR.out]; rfl⟩
      | some dn =>
       obtain ⟨d, n⟩ := dn
       have e0 : (ws ++ (some w0).toList).length = ws.length + 1 := by simp
       rw [e0]
       have HO2 := Lib.hid (show wr.ownsRow w.heap.size 9 1 (.slice oa (ws.length + 1) cap) (ws.length + 1) (strVals (ws ++ [w0])) by simpa using Hown.out)
       have hl3 : ws.length < 32 := by rw [e0] at hl32; omega
       clear e0 Hown
       obtain ⟨g, rfl⟩ := own_block HO2.out
       have HB2 := Hbel
       have hwl : w0.length ≤ k := hwk
       have HR := Lib.hid (show refS f ws (some (w0 ++ [d])) 0 (s.data.toList.drop (k + (n + 1))) = res by
        rw [← Hq.out, hdc]
        skip
        simp only [refS, o1, o2, o3', o4, he]
        simp [List.drop_drop]
        congr 2
        omega)
       have hX : (⟨(w0).toArray⟩ : ByteArray) ++ (⟨#[d]⟩ : ByteArray) = ⟨(w0 ++ [d]).toArray⟩ := word_put w0 d
       have HE := Lib.hid (show escR (s.data.toList.drop (k + 1)) = (d, n) by simp [escR, he])
       have hle := (esc_le he).2.1
       rw [drop_len] at hle
       have hn1 := (esc_le he).1
       have hn0 : ((n : Int) == 0) = false := by rw [beq_eq_false_iff_ne]; omega
       clear he
       have hesc := escapeR_any (s.extract (k + 1) s.size) wr (by simp; omega)
       rw [Lib.extract_to_end s (k + 1)] at hesc
       obtain ⟨hset, hcell, hfro, hbg, hglt⟩ := own_set_last (xs := strVals ws) (x := .string ⟨(w0).toArray⟩) (by have := HO2.out; rw [strVals_snoc] at this; exact this) (.string ((⟨(w0).toArray⟩ : ByteArray) ++ (⟨#[d]⟩ : ByteArray)))
       have HS := Lib.hid (show (wr.setCell ⟨g, ws.length, none⟩ (.string ((⟨(w0).toArray⟩ : ByteArray) ++ (⟨#[d]⟩ : ByteArray)))).ownsRow w.heap.size 9 1 (.slice (some ⟨g, 0, none⟩) (ws.length + 1) cap) (ws.length + 1) (strVals (ws ++ [w0 ++ [d]])) by
        rw [strVals_snoc, ← hX]; exact hset)
       have HB3 := Lib.hid (HB2.out.setCell (p := ⟨g, ws.length, none⟩) hbg (.string ((⟨(w0).toArray⟩ : ByteArray) ++ (⟨#[d]⟩ : ByteArray))))
       have hA := fun (j : Nat) (o : Obj) => own_set_last (w := (wr.drewN j).alloc o) (xs := strVals ws) (x := .string ⟨(w0).toArray⟩) (by have := (show (wr.drewN j).ownsRow w.heap.size 9 1 (.slice (some ⟨g, 0, none⟩) (ws.length + 1) cap) (ws.length + 1) (strVals (ws ++ [w0])) from HO2.out).alloc o; rw [strVals_snoc] at this; exact this) (.string ((⟨(w0).toArray⟩ : ByteArray) ++ (⟨#[d]⟩ : ByteArray)))
       have hcl := fun (j : Nat) (o : Obj) => (hA j o).2.1
       have hfl := fun (j : Nat) (o : Obj) => (hA j o).2.2.1
       have HSA := Lib.hid (fun (j : Nat) (o : Obj) => (hA j o).1)
       have HBA := Lib.hid (fun (j : Nat) (o : Obj) => (Below.setCell ((below_drewN' HB2.out j).alloc (show w.heap.size ≤ (wr.drewN j).heap.size from HB2.out.size) o) (p := ⟨g, ws.length, none⟩) hbg (.string ((⟨(w0).toArray⟩ : ByteArray) ++ (⟨#[d]⟩ : ByteArray)))))
       clear hA
       clear hset hX hbg
       clear hdc n0
       have HX0 := Lib.hid hx; clear hx
       have HC := Lib.hid hesc; clear hesc
       have hk1 : (k : Int) + 1 ≤ (s.size : Int) := by omega
       have hcv := fun (j : Nat) => conv1 (wr.drewN j) wr.heap.size rfl d
       go_wp2_with fail
       refine HC.out.mono ?_
       rw [HE.out]
       rintro e w' ⟨rfl, m, rfl⟩
       go_wp2_with fail
       go_region
       go_wp2_with fail
       go_roundg f
       case measure => omega
       case rel =>
        have e2 : ((k : Int) + n + 1) = ((k + (n + 1) : Nat) : Int) := by omega
        rw [e2]
        exact AtR.word (k' := k + (n + 1)) ws (w0 ++ [d]) 0 rfl (by omega) (by omega) HR.out hl3 (by decide) (by simp <;> omega) (by have := HSA.out; rw [strVals_snoc, ← word_put]; exact this _ _) (by have := HBA.out (m + 1); first | exact this _ | exact below_drew' (this _))
     | quote hx =>
      rcases hx with hx | hx
      ·have n0 : (s[k].toNat : Int) = 39 := by rw [hx]; rfl
       have t32 : ((s[k].toNat : Int) == 32) = false := by rw [n0]; rfl
       have t9 : ((s[k].toNat : Int) == 9) = false := by rw [n0]; rfl
       have t127 : ((s[k].toNat : Int) == 127) = false := by rw [n0]; rfl
       have t92 : ((s[k].toNat : Int) == 92) = false := by rw [n0]; rfl
       have t39 : ((s[k].toNat : Int) == 39) = true := by rw [n0]; rfl
       have t34 : ((s[k].toNat : Int) == 34) = false := by rw [n0]; rfl
       have t9' := bne_of t9
       have h32 : (32 : Int) ≤ s[k].toNat := by omega
       have o1 : isBad s[k] = false := by rw [hx]; rfl
       have o2 : isBlank s[k] = false := by rw [hx]; rfl
       have o3' : (s[k] == 92) = false := by rw [hx]; rfl
       have o4 : isQuote s[k] = true := by rw [hx]; rfl
       have e0 : (ws ++ (some w0).toList).length = ws.length + 1 := by simp
       rw [e0]
       have HO2 := Lib.hid (show wr.ownsRow w.heap.size 9 1 (.slice oa (ws.length + 1) cap) (ws.length + 1) (strVals (ws ++ [w0])) by simpa using Hown.out)
       have hl3 : ws.length < 32 := by rw [e0] at hl32; omega
       clear e0 Hown
       obtain ⟨g, rfl⟩ := own_block HO2.out
       have HB2 := Hbel
       have hwl : w0.length ≤ k := hwk
       have HR := Lib.hid (show refS f ws (some w0) s[k] (s.data.toList.drop (k + 1)) = res by
        rw [← Hq.out, hdc]
        skip
        skip
        simp only [refS, o1, o2, o3', o4]
        simp)
       have hqs : s[k] = 0 ∨ s[k] = 39 ∨ s[k] = 34 := by rw [hx]; decide
       clear hdc n0
       have HX0 := Lib.hid hx; clear hx
       go_wp2_with fail
       go_roundg f
       case measure => omega
       case rel => exact AtR.word (k' := k + 1) ws w0 s[k] rfl (by omega) (by omega) HR.out hl3 hqs (by omega) HO2.out HB2.out
      ·have n0 : (s[k].toNat : Int) = 34 := by rw [hx]; rfl
       have t32 : ((s[k].toNat : Int) == 32) = false := by rw [n0]; rfl
       have t9 : ((s[k].toNat : Int) == 9) = false := by rw [n0]; rfl
       have t127 : ((s[k].toNat : Int) == 127) = false := by rw [n0]; rfl
       have t92 : ((s[k].toNat : Int) == 92) = false := by rw [n0]; rfl
       have t39 : ((s[k].toNat : Int) == 39) = false := by rw [n0]; rfl
       have t34 : ((s[k].toNat : Int) == 34) = true := by rw [n0]; rfl
       have t9' := bne_of t9
       have h32 : (32 : Int) ≤ s[k].toNat := by omega
       have o1 : isBad s[k] = false := by rw [hx]; rfl
       have o2 : isBlank s[k] = false := by rw [hx]; rfl
       have o3' : (s[k] == 92) = false := by rw [hx]; rfl
       have o4 : isQuote s[k] = true := by rw [hx]; rfl
       have e0 : (ws ++ (some w0).toList).length = ws.length + 1 := by simp
       rw [e0]
       have HO2 := Lib.hid (show wr.ownsRow w.heap.size 9 1 (.slice oa (ws.length + 1) cap) (ws.length + 1) (strVals (ws ++ [w0])) by simpa using Hown.out)
       have hl3 : ws.length < 32 := by rw [e0] at hl32; omega
       clear e0 Hown
       obtain ⟨g, rfl⟩ := own_block HO2.out
       have HB2 := Hbel
       have hwl : w0.length ≤ k := hwk
       have HR := Lib.hid (show refS f ws (some w0) s[k] (s.data.toList.drop (k + 1)) = res by
        rw [← Hq.out, hdc]
        skip
        skip
        simp only [refS, o1, o2, o3', o4]
        simp)
       have hqs : s[k] = 0 ∨ s[k] = 39 ∨ s[k] = 34 := by rw [hx]; decide
       clear hdc n0
       have HX0 := Lib.hid hx; clear hx
       go_wp2_with fail
       go_roundg f
       case measure => omega
       case rel => exact AtR.word (k' := k + 1) ws w0 s[k] rfl (by omega) (by omega) HR.out hl3 hqs (by omega) HO2.out HB2.out
     | other ho =>
      obtain ⟨tst, h32⟩ := tst_other ho
      obtain ⟨t32, t9, t127, t92, t39, t34⟩ := tst
      have t9' := bne_of t9
      obtain ⟨o1, o2, o3, o4⟩ := ho
      have o3' : (s[k] == 92) = false := by simpa using o3
      have e0 : (ws ++ (some w0).toList).length = ws.length + 1 := by simp
      rw [e0]
      have HO2 := Lib.hid (show wr.ownsRow w.heap.size 9 1 (.slice oa (ws.length + 1) cap) (ws.length + 1) (strVals (ws ++ [w0])) by simpa using Hown.out)
      have hl3 : ws.length < 32 := by rw [e0] at hl32; omega
      clear e0 Hown
      obtain ⟨g, rfl⟩ := own_block HO2.out
      have HB2 := Hbel
      have hwl : w0.length ≤ k := hwk
      have HR := Lib.hid (show refS f ws (some (w0 ++ [s[k]])) 0 (s.data.toList.drop (k + 1)) = res by
       rw [← Hq.out, hdc]
       skip
       skip
       simp only [refS, o1, o2, o3', o4]
       simp)
      have hX : (⟨(w0).toArray⟩ : ByteArray) ++ s.extract k (k + 1) = ⟨(w0 ++ [s[k]]).toArray⟩ := word_snoc w0 s k hlt
      have hk1 : (k : Int) + 1 ≤ (s.size : Int) := by omega
      obtain ⟨hset, hcell, hfro, hbg, hglt⟩ := own_set_last (xs := strVals ws) (x := .string ⟨(w0).toArray⟩) (by have := HO2.out; rw [strVals_snoc] at this; exact this) (.string ((⟨(w0).toArray⟩ : ByteArray) ++ s.extract k (k + 1)))
      have HS := Lib.hid (show (wr.setCell ⟨g, ws.length, none⟩ (.string ((⟨(w0).toArray⟩ : ByteArray) ++ s.extract k (k + 1)))).ownsRow w.heap.size 9 1 (.slice (some ⟨g, 0, none⟩) (ws.length + 1) cap) (ws.length + 1) (strVals (ws ++ [w0 ++ [s[k]]])) by
       rw [strVals_snoc, ← hX]; exact hset)
      have HB3 := Lib.hid (HB2.out.setCell (p := ⟨g, ws.length, none⟩) hbg (.string ((⟨(w0).toArray⟩ : ByteArray) ++ s.extract k (k + 1))))
      clear hset hX hbg
      clear hdc
      go_wp2_with fail
      go_region
      go_wp2_with fail
      go_roundg f
      case measure => omega
      case rel => exact AtR.word (k' := k + 1) ws (w0 ++ [s[k]]) 0 rfl (by omega) (by omega) HR.out hl3 (by decide) (by simp <;> omega) HS.out (by first | exact HB3.out | exact ⟨HB3.out.os, HB3.out.tape, HB3.out.output, HB3.out.size, HB3.out.block⟩)
   ·cases cur with
    | none => exact absurd hcs (by decide)
    | some w0 =>
     clear hcs
     cases cls s[k] with
     | bad hb =>
      have HR := Lib.hid (show res = .error 1 by rw [← Hq.out, hdc]; simp [refS, hb])
      rw [isBad_iff] at hb
      have hb := of_decide_eq_true hb
      clear hdc
      rcases hb with ⟨h1, h2⟩ | h1
      ·have t32 : ((s[k].toNat : Int) == 32) = false := by rw [beq_eq_false_iff_ne]; omega
       have t9 : ((s[k].toNat : Int) == 9) = false := by rw [beq_eq_false_iff_ne]; omega
       have t9' := bne_of t9
       clear h2
       go_wp2_with fail
       go_ret2
       exact ⟨Hbel.out, by rw [HR.out]; rfl⟩
      ·have t32 : ((s[k].toNat : Int) == 32) = false := by rw [beq_eq_false_iff_ne]; omega
       have t9 : ((s[k].toNat : Int) == 9) = false := by rw [beq_eq_false_iff_ne]; omega
       have t127 : ((s[k].toNat : Int) == 127) = true := by rw [beq_iff_eq]; omega
       have h32 : (32 : Int) ≤ s[k].toNat := by omega
       clear h1
       go_wp2_with fail
       go_ret2
       exact ⟨Hbel.out, by rw [HR.out]; rfl⟩
     | blank hx =>
      rcases hx with hx | hx
      ·have n0 : (s[k].toNat : Int) = 32 := by rw [hx]; rfl
       have t32 : ((s[k].toNat : Int) == 32) = true := by rw [n0]; rfl
       have t9 : ((s[k].toNat : Int) == 9) = false := by rw [n0]; rfl
       have t127 : ((s[k].toNat : Int) == 127) = false := by rw [n0]; rfl
       have t92 : ((s[k].toNat : Int) == 92) = false := by rw [n0]; rfl
       have t39 : ((s[k].toNat : Int) == 39) = false := by rw [n0]; rfl
       have t34 : ((s[k].toNat : Int) == 34) = false := by rw [n0]; rfl
       have t9' := bne_of t9
       have h32 : (32 : Int) ≤ s[k].toNat := by omega
       have o1 : isBad s[k] = false := by rw [hx]; rfl
       have o2 : isBlank s[k] = true := by rw [hx]; rfl
       have o3' : (s[k] == 92) = false := by rw [hx]; rfl
       have o4 : isQuote s[k] = false := by rw [hx]; rfl
       have e0 : (ws ++ (some w0).toList).length = ws.length + 1 := by simp
       rw [e0]
       have HO2 := Lib.hid (show wr.ownsRow w.heap.size 9 1 (.slice oa (ws.length + 1) cap) (ws.length + 1) (strVals (ws ++ [w0])) by simpa using Hown.out)
       have hl3 : ws.length < 32 := by rw [e0] at hl32; omega
       clear e0 Hown
       obtain ⟨g, rfl⟩ := own_block HO2.out
       have HB2 := Hbel
       have hwl : w0.length ≤ k := hwk
       have HR := Lib.hid (show refS f ws (some (w0 ++ [s[k]])) 39 (s.data.toList.drop (k + 1)) = res by
        rw [← Hq.out, hdc]
        skip
        have eqq : (s[k] == (39 : UInt8)) = false := by rw [hx]; rfl
        simp only [refS, o1, o2, o3', o4, eqq]
        simp)
       have hX : (⟨(w0).toArray⟩ : ByteArray) ++ s.extract k (k + 1) = ⟨(w0 ++ [s[k]]).toArray⟩ := word_snoc w0 s k hlt
       have hk1 : (k : Int) + 1 ≤ (s.size : Int) := by omega
       obtain ⟨hset, hcell, hfro, hbg, hglt⟩ := own_set_last (xs := strVals ws) (x := .string ⟨(w0).toArray⟩) (by have := HO2.out; rw [strVals_snoc] at this; exact this) (.string ((⟨(w0).toArray⟩ : ByteArray) ++ s.extract k (k + 1)))
       have HS := Lib.hid (show (wr.setCell ⟨g, ws.length, none⟩ (.string ((⟨(w0).toArray⟩ : ByteArray) ++ s.extract k (k + 1)))).ownsRow w.heap.size 9 1 (.slice (some ⟨g, 0, none⟩) (ws.length + 1) cap) (ws.length + 1) (strVals (ws ++ [w0 ++ [s[k]]])) by
        rw [strVals_snoc, ← hX]; exact hset)
       have HB3 := Lib.hid (HB2.out.setCell (p := ⟨g, ws.length, none⟩) hbg (.string ((⟨(w0).toArray⟩ : ByteArray) ++ s.extract k (k + 1))))
       clear hset hX hbg
       clear hdc n0
       have HX0 := Lib.hid hx; clear hx
       go_wp2_with fail
       go_region
       go_wp2_with fail
       go_roundg f
       case measure => omega
       case rel => exact AtR.word (k' := k + 1) ws (w0 ++ [s[k]]) 39 rfl (by omega) (by omega) HR.out hl3 (by decide) (by simp <;> omega) HS.out (by first | exact HB3.out | exact ⟨HB3.out.os, HB3.out.tape, HB3.out.output, HB3.out.size, HB3.out.block⟩)
      ·have n0 : (s[k].toNat : Int) = 9 := by rw [hx]; rfl
       have t32 : ((s[k].toNat : Int) == 32) = false := by rw [n0]; rfl
       have t9 : ((s[k].toNat : Int) == 9) = true := by rw [n0]; rfl
       have t127 : ((s[k].toNat : Int) == 127) = false := by rw [n0]; rfl
       have t92 : ((s[k].toNat : Int) == 92) = false := by rw [n0]; rfl
       have t39 : ((s[k].toNat : Int) == 39) = false := by rw [n0]; rfl
       have t34 : ((s[k].toNat : Int) == 34) = false := by rw [n0]; rfl
       have t9' := bne_of t9
       have h32 : (s[k].toNat : Int) < 32 := by omega
       have o1 : isBad s[k] = false := by rw [hx]; rfl
       have o2 : isBlank s[k] = true := by rw [hx]; rfl
       have o3' : (s[k] == 92) = false := by rw [hx]; rfl
       have o4 : isQuote s[k] = false := by rw [hx]; rfl
       have e0 : (ws ++ (some w0).toList).length = ws.length + 1 := by simp
       rw [e0]
       have HO2 := Lib.hid (show wr.ownsRow w.heap.size 9 1 (.slice oa (ws.length + 1) cap) (ws.length + 1) (strVals (ws ++ [w0])) by simpa using Hown.out)
       have hl3 : ws.length < 32 := by rw [e0] at hl32; omega
       clear e0 Hown
       obtain ⟨g, rfl⟩ := own_block HO2.out
       have HB2 := Hbel
       have hwl : w0.length ≤ k := hwk
       have HR := Lib.hid (show refS f ws (some (w0 ++ [s[k]])) 39 (s.data.toList.drop (k + 1)) = res by
        rw [← Hq.out, hdc]
        skip
        have eqq : (s[k] == (39 : UInt8)) = false := by rw [hx]; rfl
        simp only [refS, o1, o2, o3', o4, eqq]
        simp)
       have hX : (⟨(w0).toArray⟩ : ByteArray) ++ s.extract k (k + 1) = ⟨(w0 ++ [s[k]]).toArray⟩ := word_snoc w0 s k hlt
       have hk1 : (k : Int) + 1 ≤ (s.size : Int) := by omega
       obtain ⟨hset, hcell, hfro, hbg, hglt⟩ := own_set_last (xs := strVals ws) (x := .string ⟨(w0).toArray⟩) (by have := HO2.out; rw [strVals_snoc] at this; exact this) (.string ((⟨(w0).toArray⟩ : ByteArray) ++ s.extract k (k + 1)))
       have HS := Lib.hid (show (wr.setCell ⟨g, ws.length, none⟩ (.string ((⟨(w0).toArray⟩ : ByteArray) ++ s.extract k (k + 1)))).ownsRow w.heap.size 9 1 (.slice (some ⟨g, 0, none⟩) (ws.length + 1) cap) (ws.length + 1) (strVals (ws ++ [w0 ++ [s[k]]])) by
        rw [strVals_snoc, ← hX]; exact hset)
       have HB3 := Lib.hid (HB2.out.setCell (p := ⟨g, ws.length, none⟩) hbg (.string ((⟨(w0).toArray⟩ : ByteArray) ++ s.extract k (k + 1))))
       clear hset hX hbg
       clear hdc n0
       have HX0 := Lib.hid hx; clear hx
       go_wp2_with fail
       go_region
       go_wp2_with fail
       go_roundg f
       case measure => omega
       case rel => exact AtR.word (k' := k + 1) ws (w0 ++ [s[k]]) 39 rfl (by omega) (by omega) HR.out hl3 (by decide) (by simp <;> omega) HS.out (by first | exact HB3.out | exact ⟨HB3.out.os, HB3.out.tape, HB3.out.output, HB3.out.size, HB3.out.block⟩)
     | back hx =>
      have n0 : (s[k].toNat : Int) = 92 := by rw [hx]; rfl
      have t32 : ((s[k].toNat : Int) == 32) = false := by rw [n0]; rfl
      have t9 : ((s[k].toNat : Int) == 9) = false := by rw [n0]; rfl
      have t127 : ((s[k].toNat : Int) == 127) = false := by rw [n0]; rfl
      have t92 : ((s[k].toNat : Int) == 92) = true := by rw [n0]; rfl
      have t39 : ((s[k].toNat : Int) == 39) = false := by rw [n0]; rfl
      have t34 : ((s[k].toNat : Int) == 34) = false := by rw [n0]; rfl
      have t9' := bne_of t9
      have h32 : (32 : Int) ≤ s[k].toNat := by omega
      have o1 : isBad s[k] = false := by rw [hx]; rfl
      have o2 : isBlank s[k] = false := by rw [hx]; rfl
      have o3' : (s[k] == 92) = true := by rw [hx]; rfl
      have o4 : isQuote s[k] = false := by rw [hx]; rfl
      cases he : escOf (s.data.toList.drop (k + 1)) with
      | none =>
       have e0 : (ws ++ (some w0).toList).length = ws.length + 1 := by simp
       rw [e0]
       have HO2 := Lib.hid (show wr.ownsRow w.heap.size 9 1 (.slice oa (ws.length + 1) cap) (ws.length + 1) (strVals (ws ++ [w0])) by simpa using Hown.out)
       have hl3 : ws.length < 32 := by rw [e0] at hl32; omega
       clear e0 Hown
       obtain ⟨g, rfl⟩ := own_block HO2.out
       have HB2 := Hbel
       have hwl : w0.length ≤ k := hwk
       have HR := Lib.hid (show res = .error 13 by
        rw [← Hq.out, hdc]
        skip
        simp only [refS, o1, o2, o3', o4, he]
        simp)
       have HE := Lib.hid (show escR (s.data.toList.drop (k + 1)) = (0, 0) by simp [escR, he]); clear he
       have hesc := escapeR_any (s.extract (k + 1) s.size) wr (by simp; omega)
       rw [Lib.extract_to_end s (k + 1)] at hesc
       clear hdc n0
       have HX0 := Lib.hid hx; clear hx
       have HC := Lib.hid hesc; clear hesc
       have hk1 : (k : Int) + 1 ≤ (s.size : Int) := by omega
       go_wp2_with fail
       refine HC.out.mono ?_
       rw [HE.out]
       rintro e w' ⟨rfl, n, rfl⟩
       go_wp2_with fail
       go_ret2
       exact ⟨HB2.out.trans (below_dn (dn _ n)), by rw [HR.out]; rfl⟩
      | some dn =>
       obtain ⟨d, n⟩ := dn
       have e0 : (ws ++ (some w0).toList).length = ws.length + 1 := by simp
       rw [e0]
       have HO2 := Lib.hid (show wr.ownsRow w.heap.size 9 1 (.slice oa (ws.length + 1) cap) (ws.length + 1) (strVals (ws ++ [w0])) by simpa using Hown.out)
       have hl3 : ws.length < 32 := by rw [e0] at hl32; omega
       clear e0 Hown
       obtain ⟨g, rfl⟩ := own_block HO2.out
       have HB2 := Hbel
       have hwl : w0.length ≤ k := hwk
       have HR := Lib.hid (show refS f ws (some (w0 ++ [d])) 39 (s.data.toList.drop (k + (n + 1))) = res by
        rw [← Hq.out, hdc]
        skip
        simp only [refS, o1, o2, o3', o4, he]
        simp [List.drop_drop]
        congr 2
        omega)
       have hX : (⟨(w0).toArray⟩ : ByteArray) ++ (⟨#[d]⟩ : ByteArray) = ⟨(w0 ++ [d]).toArray⟩ := word_put w0 d
       have HE := Lib.hid (show escR (s.data.toList.drop (k + 1)) = (d, n) by simp [escR, he])
       have hle := (esc_le he).2.1
       rw [drop_len] at hle
       have hn1 := (esc_le he).1
       have hn0 : ((n : Int) == 0) = false := by rw [beq_eq_false_iff_ne]; omega
       clear he
       have hesc := escapeR_any (s.extract (k + 1) s.size) wr (by simp; omega)
       rw [Lib.extract_to_end s (k + 1)] at hesc
       obtain ⟨hset, hcell, hfro, hbg, hglt⟩ := own_set_last (xs := strVals ws) (x := .string ⟨(w0).toArray⟩) (by have := HO2.out; rw [strVals_snoc] at this; exact this) (.string ((⟨(w0).toArray⟩ : ByteArray) ++ (⟨#[d]⟩ : ByteArray)))
       have HS := Lib.hid (show (wr.setCell ⟨g, ws.length, none⟩ (.string ((⟨(w0).toArray⟩ : ByteArray) ++ (⟨#[d]⟩ : ByteArray)))).ownsRow w.heap.size 9 1 (.slice (some ⟨g, 0, none⟩) (ws.length + 1) cap) (ws.length + 1) (strVals (ws ++ [w0 ++ [d]])) by
        rw [strVals_snoc, ← hX]; exact hset)
       have HB3 := Lib.hid (HB2.out.setCell (p := ⟨g, ws.length, none⟩) hbg (.string ((⟨(w0).toArray⟩ : ByteArray) ++ (⟨#[d]⟩ : ByteArray))))
       have hA := fun (j : Nat) (o : Obj) => own_set_last (w := (wr.drewN j).alloc o) (xs := strVals ws) (x := .string ⟨(w0).toArray⟩) (by have := (show (wr.drewN j).ownsRow w.heap.size 9 1 (.slice (some ⟨g, 0, none⟩) (ws.length + 1) cap) (ws.length + 1) (strVals (ws ++ [w0])) from HO2.out).alloc o; rw [strVals_snoc] at this; exact this) (.string ((⟨(w0).toArray⟩ : ByteArray) ++ (⟨#[d]⟩ : ByteArray)))
       have hcl := fun (j : Nat) (o : Obj) => (hA j o).2.1
       have hfl := fun (j : Nat) (o : Obj) => (hA j o).2.2.1
       have HSA := Lib.hid (fun (j : Nat) (o : Obj) => (hA j o).1)
       have HBA := Lib.hid (fun (j : Nat) (o : Obj) => (Below.setCell ((below_drewN' HB2.out j).alloc (show w.heap.size ≤ (wr.drewN j).heap.size from HB2.out.size) o) (p := ⟨g, ws.length, none⟩) hbg (.string ((⟨(w0).toArray⟩ : ByteArray) ++ (⟨#[d]⟩ : ByteArray)))))
       clear hA
       clear hset hX hbg
       clear hdc n0
       have HX0 := Lib.hid hx; clear hx
       have HC := Lib.hid hesc; clear hesc
       have hk1 : (k : Int) + 1 ≤ (s.size : Int) := by omega
       have hcv := fun (j : Nat) => conv1 (wr.drewN j) wr.heap.size rfl d
       go_wp2_with fail
       refine HC.out.mono ?_
       rw [HE.out]
       rintro e w' ⟨rfl, m, rfl⟩
       go_wp2_with fail
       go_region
       go_wp2_with fail
       go_roundg f
       case measure => omega
       case rel =>
        have e2 : ((k : Int) + n + 1) = ((k + (n + 1) : Nat) : Int) := by omega
        rw [e2]
        exact AtR.word (k' := k + (n + 1)) ws (w0 ++ [d]) 39 rfl (by omega) (by omega) HR.out hl3 (by decide) (by simp <;> omega) (by have := HSA.out; rw [strVals_snoc, ← word_put]; exact this _ _) (by have := HBA.out (m + 1); first | exact this _ | exact below_drew' (this _))
     | quote hx =>
      rcases hx with hx | hx
      ·have n0 : (s[k].toNat : Int) = 39 := by rw [hx]; rfl
       have t32 : ((s[k].toNat : Int) == 32) = false := by rw [n0]; rfl
       have t9 : ((s[k].toNat : Int) == 9) = false := by rw [n0]; rfl
       have t127 : ((s[k].toNat : Int) == 127) = false := by rw [n0]; rfl
       have t92 : ((s[k].toNat : Int) == 92) = false := by rw [n0]; rfl
       have t39 : ((s[k].toNat : Int) == 39) = true := by rw [n0]; rfl
       have t34 : ((s[k].toNat : Int) == 34) = false := by rw [n0]; rfl
       have t9' := bne_of t9
       have h32 : (32 : Int) ≤ s[k].toNat := by omega
       have o1 : isBad s[k] = false := by rw [hx]; rfl
       have o2 : isBlank s[k] = false := by rw [hx]; rfl
       have o3' : (s[k] == 92) = false := by rw [hx]; rfl
       have o4 : isQuote s[k] = true := by rw [hx]; rfl
       have e0 : (ws ++ (some w0).toList).length = ws.length + 1 := by simp
       rw [e0]
       have HO2 := Lib.hid (show wr.ownsRow w.heap.size 9 1 (.slice oa (ws.length + 1) cap) (ws.length + 1) (strVals (ws ++ [w0])) by simpa using Hown.out)
       have hl3 : ws.length < 32 := by rw [e0] at hl32; omega
       clear e0 Hown
       obtain ⟨g, rfl⟩ := own_block HO2.out
       have HB2 := Hbel
       have hwl : w0.length ≤ k := hwk
       have HR := Lib.hid (show refS f ws (some w0) 0 (s.data.toList.drop (k + 1)) = res by
        rw [← Hq.out, hdc]
        skip
        have eqq : (s[k] == (39 : UInt8)) = true := by rw [hx]; rfl
        simp only [refS, o1, o2, o3', o4, eqq]
        simp)
       clear hdc n0
       have HX0 := Lib.hid hx; clear hx
       go_wp2_with fail
       go_roundg f
       case measure => omega
       case rel => exact AtR.word (k' := k + 1) ws w0 0 rfl (by omega) (by omega) HR.out hl3 (by decide) (by omega) HO2.out HB2.out
      ·have n0 : (s[k].toNat : Int) = 34 := by rw [hx]; rfl
       have t32 : ((s[k].toNat : Int) == 32) = false := by rw [n0]; rfl
       have t9 : ((s[k].toNat : Int) == 9) = false := by rw [n0]; rfl
       have t127 : ((s[k].toNat : Int) == 127) = false := by rw [n0]; rfl
       have t92 : ((s[k].toNat : Int) == 92) = false := by rw [n0]; rfl
       have t39 : ((s[k].toNat : Int) == 39) = false := by rw [n0]; rfl
       have t34 : ((s[k].toNat : Int) == 34) = true := by rw [n0]; rfl
       have t9' := bne_of t9
       have h32 : (32 : Int) ≤ s[k].toNat := by omega
       have o1 : isBad s[k] = false := by rw [hx]; rfl
       have o2 : isBlank s[k] = false := by rw [hx]; rfl
       have o3' : (s[k] == 92) = false := by rw [hx]; rfl
       have o4 : isQuote s[k] = true := by rw [hx]; rfl
       have e0 : (ws ++ (some w0).toList).length = ws.length + 1 := by simp
       rw [e0]
       have HO2 := Lib.hid (show wr.ownsRow w.heap.size 9 1 (.slice oa (ws.length + 1) cap) (ws.length + 1) (strVals (ws ++ [w0])) by simpa using Hown.out)
       have hl3 : ws.length < 32 := by rw [e0] at hl32; omega
       clear e0 Hown
       obtain ⟨g, rfl⟩ := own_block HO2.out
       have HB2 := Hbel
       have hwl : w0.length ≤ k := hwk
       have HR := Lib.hid (show refS f ws (some (w0 ++ [s[k]])) 39 (s.data.toList.drop (k + 1)) = res by
        rw [← Hq.out, hdc]
        skip
        have eqq : (s[k] == (39 : UInt8)) = false := by rw [hx]; rfl
        simp only [refS, o1, o2, o3', o4, eqq]
        simp)
       have hX : (⟨(w0).toArray⟩ : ByteArray) ++ s.extract k (k + 1) = ⟨(w0 ++ [s[k]]).toArray⟩ := word_snoc w0 s k hlt
       have hk1 : (k : Int) + 1 ≤ (s.size : Int) := by omega
       obtain ⟨hset, hcell, hfro, hbg, hglt⟩ := own_set_last (xs := strVals ws) (x := .string ⟨(w0).toArray⟩) (by have := HO2.out; rw [strVals_snoc] at this; exact this) (.string ((⟨(w0).toArray⟩ : ByteArray) ++ s.extract k (k + 1)))
       have HS := Lib.hid (show (wr.setCell ⟨g, ws.length, none⟩ (.string ((⟨(w0).toArray⟩ : ByteArray) ++ s.extract k (k + 1)))).ownsRow w.heap.size 9 1 (.slice (some ⟨g, 0, none⟩) (ws.length + 1) cap) (ws.length + 1) (strVals (ws ++ [w0 ++ [s[k]]])) by
        rw [strVals_snoc, ← hX]; exact hset)
       have HB3 := Lib.hid (HB2.out.setCell (p := ⟨g, ws.length, none⟩) hbg (.string ((⟨(w0).toArray⟩ : ByteArray) ++ s.extract k (k + 1))))
       clear hset hX hbg
       clear hdc n0
       have HX0 := Lib.hid hx; clear hx
       go_wp2_with fail
       go_region
       go_wp2_with fail
       go_roundg f
       case measure => omega
       case rel => exact AtR.word (k' := k + 1) ws (w0 ++ [s[k]]) 39 rfl (by omega) (by omega) HR.out hl3 (by decide) (by simp <;> omega) HS.out (by first | exact HB3.out | exact ⟨HB3.out.os, HB3.out.tape, HB3.out.output, HB3.out.size, HB3.out.block⟩)
     | other ho =>
      obtain ⟨tst, h32⟩ := tst_other ho
      obtain ⟨t32, t9, t127, t92, t39, t34⟩ := tst
      have t9' := bne_of t9
      obtain ⟨o1, o2, o3, o4⟩ := ho
      have o3' : (s[k] == 92) = false := by simpa using o3
      have e0 : (ws ++ (some w0).toList).length = ws.length + 1 := by simp
      rw [e0]
      have HO2 := Lib.hid (show wr.ownsRow w.heap.size 9 1 (.slice oa (ws.length + 1) cap) (ws.length + 1) (strVals (ws ++ [w0])) by simpa using Hown.out)
      have hl3 : ws.length < 32 := by rw [e0] at hl32; omega
      clear e0 Hown
      obtain ⟨g, rfl⟩ := own_block HO2.out
      have HB2 := Hbel
      have hwl : w0.length ≤ k := hwk
      have HR := Lib.hid (show refS f ws (some (w0 ++ [s[k]])) 39 (s.data.toList.drop (k + 1)) = res by
       rw [← Hq.out, hdc]
       skip
       have eqq : (s[k] == (39 : UInt8)) = false := by rw [beq_u8]; exact t39
       simp only [refS, o1, o2, o3', o4, eqq]
       simp)
      have hX : (⟨(w0).toArray⟩ : ByteArray) ++ s.extract k (k + 1) = ⟨(w0 ++ [s[k]]).toArray⟩ := word_snoc w0 s k hlt
      have hk1 : (k : Int) + 1 ≤ (s.size : Int) := by omega
      obtain ⟨hset, hcell, hfro, hbg, hglt⟩ := own_set_last (xs := strVals ws) (x := .string ⟨(w0).toArray⟩) (by have := HO2.out; rw [strVals_snoc] at this; exact this) (.string ((⟨(w0).toArray⟩ : ByteArray) ++ s.extract k (k + 1)))
      have HS := Lib.hid (show (wr.setCell ⟨g, ws.length, none⟩ (.string ((⟨(w0).toArray⟩ : ByteArray) ++ s.extract k (k + 1)))).ownsRow w.heap.size 9 1 (.slice (some ⟨g, 0, none⟩) (ws.length + 1) cap) (ws.length + 1) (strVals (ws ++ [w0 ++ [s[k]]])) by
       rw [strVals_snoc, ← hX]; exact hset)
      have HB3 := Lib.hid (HB2.out.setCell (p := ⟨g, ws.length, none⟩) hbg (.string ((⟨(w0).toArray⟩ : ByteArray) ++ s.extract k (k + 1))))
      clear hset hX hbg
      clear hdc
      go_wp2_with fail
      go_region
      go_wp2_with fail
      go_roundg f
      case measure => omega
      case rel => exact AtR.word (k' := k + 1) ws (w0 ++ [s[k]]) 39 rfl (by omega) (by omega) HR.out hl3 (by decide) (by simp <;> omega) HS.out (by first | exact HB3.out | exact ⟨HB3.out.os, HB3.out.tape, HB3.out.output, HB3.out.size, HB3.out.block⟩)
   ·cases cur with
    | none => exact absurd hcs (by decide)
    | some w0 =>
     clear hcs
     cases cls s[k] with
     | bad hb =>
      have HR := Lib.hid (show res = .error 1 by rw [← Hq.out, hdc]; simp [refS, hb])
      rw [isBad_iff] at hb
      have hb := of_decide_eq_true hb
      clear hdc
      rcases hb with ⟨h1, h2⟩ | h1
      ·have t32 : ((s[k].toNat : Int) == 32) = false := by rw [beq_eq_false_iff_ne]; omega
       have t9 : ((s[k].toNat : Int) == 9) = false := by rw [beq_eq_false_iff_ne]; omega
       have t9' := bne_of t9
       clear h2
       go_wp2_with fail
       go_ret2
       exact ⟨Hbel.out, by rw [HR.out]; rfl⟩
      ·have t32 : ((s[k].toNat : Int) == 32) = false := by rw [beq_eq_false_iff_ne]; omega
       have t9 : ((s[k].toNat : Int) == 9) = false := by rw [beq_eq_false_iff_ne]; omega
       have t127 : ((s[k].toNat : Int) == 127) = true := by rw [beq_iff_eq]; omega
       have h32 : (32 : Int) ≤ s[k].toNat := by omega
       clear h1
       go_wp2_with fail
       go_ret2
       exact ⟨Hbel.out, by rw [HR.out]; rfl⟩
     | blank hx =>
      rcases hx with hx | hx
      ·have n0 : (s[k].toNat : Int) = 32 := by rw [hx]; rfl
       have t32 : ((s[k].toNat : Int) == 32) = true := by rw [n0]; rfl
       have t9 : ((s[k].toNat : Int) == 9) = false := by rw [n0]; rfl
       have t127 : ((s[k].toNat : Int) == 127) = false := by rw [n0]; rfl
       have t92 : ((s[k].toNat : Int) == 92) = false := by rw [n0]; rfl
       have t39 : ((s[k].toNat : Int) == 39) = false := by rw [n0]; rfl
       have t34 : ((s[k].toNat : Int) == 34) = false := by rw [n0]; rfl
       have t9' := bne_of t9
       have h32 : (32 : Int) ≤ s[k].toNat := by omega
       have o1 : isBad s[k] = false := by rw [hx]; rfl
       have o2 : isBlank s[k] = true := by rw [hx]; rfl
       have o3' : (s[k] == 92) = false := by rw [hx]; rfl
       have o4 : isQuote s[k] = false := by rw [hx]; rfl
       have e0 : (ws ++ (some w0).toList).length = ws.length + 1 := by simp
       rw [e0]
       have HO2 := Lib.hid (show wr.ownsRow w.heap.size 9 1 (.slice oa (ws.length + 1) cap) (ws.length + 1) (strVals (ws ++ [w0])) by simpa using Hown.out)
       have hl3 : ws.length < 32 := by rw [e0] at hl32; omega
       clear e0 Hown
       obtain ⟨g, rfl⟩ := own_block HO2.out
       have HB2 := Hbel
       have hwl : w0.length ≤ k := hwk
       have HR := Lib.hid (show refS f ws (some (w0 ++ [s[k]])) 34 (s.data.toList.drop (k + 1)) = res by
        rw [← Hq.out, hdc]
        skip
        have eqq : (s[k] == (34 : UInt8)) = false := by rw [hx]; rfl
        simp only [refS, o1, o2, o3', o4, eqq]
        simp)
       have hX : (⟨(w0).toArray⟩ : ByteArray) ++ s.extract k (k + 1) = ⟨(w0 ++ [s[k]]).toArray⟩ := word_snoc w0 s k hlt
       have hk1 : (k : Int) + 1 ≤ (s.size : Int) := by omega
       obtain ⟨hset, hcell, hfro, hbg, hglt⟩ := own_set_last (xs := strVals ws) (x := .string ⟨(w0).toArray⟩) (by have := HO2.out; rw [strVals_snoc] at this; exact this) (.string ((⟨(w0).toArray⟩ : ByteArray) ++ s.extract k (k + 1)))
       have HS := Lib.hid (show (wr.setCell ⟨g, ws.length, none⟩ (.string ((⟨(w0).toArray⟩ : ByteArray) ++ s.extract k (k + 1)))).ownsRow w.heap.size 9 1 (.slice (some ⟨g, 0, none⟩) (ws.length + 1) cap) (ws.length + 1) (strVals (ws ++ [w0 ++ [s[k]]])) by
        rw [strVals_snoc, ← hX]; exact hset)
       have HB3 := Lib.hid (HB2.out.setCell (p := ⟨g, ws.length, none⟩) hbg (.string ((⟨(w0).toArray⟩ : ByteArray) ++ s.extract k (k + 1))))
       clear hset hX hbg
       clear hdc n0
       have HX0 := Lib.hid hx; clear hx
       go_wp2_with fail
       go_region
       go_wp2_with fail
       go_roundg f
       case measure => omega
       case rel => exact AtR.word (k' := k + 1) ws (w0 ++ [s[k]]) 34 rfl (by omega) (by omega) HR.out hl3 (by decide) (by simp <;> omega) HS.out (by first | exact HB3.out | exact ⟨HB3.out.os, HB3.out.tape, HB3.out.output, HB3.out.size, HB3.out.block⟩)
      ·have n0 : (s[k].toNat : Int) = 9 := by rw [hx]; rfl
       have t32 : ((s[k].toNat : Int) == 32) = false := by rw [n0]; rfl
       have t9 : ((s[k].toNat : Int) == 9) = true := by rw [n0]; rfl
       have t127 : ((s[k].toNat : Int) == 127) = false := by rw [n0]; rfl
       have t92 : ((s[k].toNat : Int) == 92) = false := by rw [n0]; rfl
       have t39 : ((s[k].toNat : Int) == 39) = false := by rw [n0]; rfl
       have t34 : ((s[k].toNat : Int) == 34) = false := by rw [n0]; rfl
       have t9' := bne_of t9
       have h32 : (s[k].toNat : Int) < 32 := by omega
       have o1 : isBad s[k] = false := by rw [hx]; rfl
       have o2 : isBlank s[k] = true := by rw [hx]; rfl
       have o3' : (s[k] == 92) = false := by rw [hx]; rfl
       have o4 : isQuote s[k] = false := by rw [hx]; rfl
       have e0 : (ws ++ (some w0).toList).length = ws.length + 1 := by simp
       rw [e0]
       have HO2 := Lib.hid (show wr.ownsRow w.heap.size 9 1 (.slice oa (ws.length + 1) cap) (ws.length + 1) (strVals (ws ++ [w0])) by simpa using Hown.out)
       have hl3 : ws.length < 32 := by rw [e0] at hl32; omega
       clear e0 Hown
       obtain ⟨g, rfl⟩ := own_block HO2.out
       have HB2 := Hbel
       have hwl : w0.length ≤ k := hwk
       have HR := Lib.hid (show refS f ws (some (w0 ++ [s[k]])) 34 (s.data.toList.drop (k + 1)) = res by
        rw [← Hq.out, hdc]
        skip
        have eqq : (s[k] == (34 : UInt8)) = false := by rw [hx]; rfl
        simp only [refS, o1, o2, o3', o4, eqq]
        simp)
       have hX : (⟨(w0).toArray⟩ : ByteArray) ++ s.extract k (k + 1) = ⟨(w0 ++ [s[k]]).toArray⟩ := word_snoc w0 s k hlt
       have hk1 : (k : Int) + 1 ≤ (s.size : Int) := by omega
       obtain ⟨hset, hcell, hfro, hbg, hglt⟩ := own_set_last (xs := strVals ws) (x := .string ⟨(w0).toArray⟩) (by have := HO2.out; rw [strVals_snoc] at this; exact this) (.string ((⟨(w0).toArray⟩ : ByteArray) ++ s.extract k (k + 1)))
       have HS := Lib.hid (show (wr.setCell ⟨g, ws.length, none⟩ (.string ((⟨(w0).toArray⟩ : ByteArray) ++ s.extract k (k + 1)))).ownsRow w.heap.size 9 1 (.slice (some ⟨g, 0, none⟩) (ws.length + 1) cap) (ws.length + 1) (strVals (ws ++ [w0 ++ [s[k]]])) by
        rw [strVals_snoc, ← hX]; exact hset)
       have HB3 := Lib.hid (HB2.out.setCell (p := ⟨g, ws.length, none⟩) hbg (.string ((⟨(w0).toArray⟩ : ByteArray) ++ s.extract k (k + 1))))
       clear hset hX hbg
       clear hdc n0
       have HX0 := Lib.hid hx; clear hx
       go_wp2_with fail
       go_region
       go_wp2_with fail
       go_roundg f
       case measure => omega
       case rel => exact AtR.word (k' := k + 1) ws (w0 ++ [s[k]]) 34 rfl (by omega) (by omega) HR.out hl3 (by decide) (by simp <;> omega) HS.out (by first | exact HB3.out | exact ⟨HB3.out.os, HB3.out.tape, HB3.out.output, HB3.out.size, HB3.out.block⟩)
     | back hx =>
      have n0 : (s[k].toNat : Int) = 92 := by rw [hx]; rfl
      have t32 : ((s[k].toNat : Int) == 32) = false := by rw [n0]; rfl
      have t9 : ((s[k].toNat : Int) == 9) = false := by rw [n0]; rfl
      have t127 : ((s[k].toNat : Int) == 127) = false := by rw [n0]; rfl
      have t92 : ((s[k].toNat : Int) == 92) = true := by rw [n0]; rfl
      have t39 : ((s[k].toNat : Int) == 39) = false := by rw [n0]; rfl
      have t34 : ((s[k].toNat : Int) == 34) = false := by rw [n0]; rfl
      have t9' := bne_of t9
      have h32 : (32 : Int) ≤ s[k].toNat := by omega
      have o1 : isBad s[k] = false := by rw [hx]; rfl
      have o2 : isBlank s[k] = false := by rw [hx]; rfl
      have o3' : (s[k] == 92) = true := by rw [hx]; rfl
      have o4 : isQuote s[k] = false := by rw [hx]; rfl
      cases he : escOf (s.data.toList.drop (k + 1)) with
      | none =>
       have e0 : (ws ++ (some w0).toList).length = ws.length + 1 := by simp
       rw [e0]
       have HO2 := Lib.hid (show wr.ownsRow w.heap.size 9 1 (.slice oa (ws.length + 1) cap) (ws.length + 1) (strVals (ws ++ [w0])) by simpa using Hown.out)
       have hl3 : ws.length < 32 := by rw [e0] at hl32; omega
       clear e0 Hown
       obtain ⟨g, rfl⟩ := own_block HO2.out
       have HB2 := Hbel
       have hwl : w0.length ≤ k := hwk
       have HR := Lib.hid (show res = .error 13 by
        rw [← Hq.out, hdc]
        skip
        simp only [refS, o1, o2, o3', o4, he]
        simp)
       have HE := Lib.hid (show escR (s.data.toList.drop (k + 1)) = (0, 0) by simp [escR, he]); clear he
       have hesc := escapeR_any (s.extract (k + 1) s.size) wr (by simp; omega)
       rw [Lib.extract_to_end s (k + 1)] at hesc
       clear hdc n0
       have HX0 := Lib.hid hx; clear hx
       have HC := Lib.hid hesc; clear hesc
       have hk1 : (k : Int) + 1 ≤ (s.size : Int) := by omega
       go_wp2_with fail
       refine HC.out.mono ?_
       rw [HE.out]
       rintro e w' ⟨rfl, n, rfl⟩
       go_wp2_with fail
       go_ret2
       exact ⟨HB2.out.trans (below_dn (dn _ n)), by rw [HR.out]; rfl⟩
      | some dn =>
       obtain ⟨d, n⟩ := dn
       have e0 : (ws ++ (some w0).toList).length = ws.length + 1 := by simp
       rw [e0]
       have HO2 := Lib.hid (show wr.ownsRow w.heap.size 9 1 (.slice oa (ws.length + 1) cap) (ws.length + 1) (strVals (ws ++ [w0])) by simpa using Hown.out)
       have hl3 : ws.length < 32 := by rw [e0] at hl32; omega
       clear e0 Hown
       obtain ⟨g, rfl⟩ := own_block HO2.out
       have HB2 := Hbel
       have hwl : w0.length ≤ k := hwk
       have HR := Lib.hid (show refS f ws (some (w0 ++ [d])) 34 (s.data.toList.drop (k + (n + 1))) = res by
        rw [← Hq.out, hdc]
        skip
        simp only [refS, o1, o2, o3', o4, he]
        simp [List.drop_drop]
        congr 2
        omega)
       have hX : (⟨(w0).toArray⟩ : ByteArray) ++ (⟨#[d]⟩ : ByteArray) = ⟨(w0 ++ [d]).toArray⟩ := word_put w0 d
       have HE := Lib.hid (show escR (s.data.toList.drop (k + 1)) = (d, n) by simp [escR, he])
       have hle := (esc_le he).2.1
       rw [drop_len] at hle
       have hn1 := (esc_le he).1
       have hn0 : ((n : Int) == 0) = false := by rw [beq_eq_false_iff_ne]; omega
       clear he
       have hesc := escapeR_any (s.extract (k + 1) s.size) wr (by simp; omega)
       rw [Lib.extract_to_end s (k + 1)] at hesc
       obtain ⟨hset, hcell, hfro, hbg, hglt⟩ := own_set_last (xs := strVals ws) (x := .string ⟨(w0).toArray⟩) (by have := HO2.out; rw [strVals_snoc] at this; exact this) (.string ((⟨(w0).toArray⟩ : ByteArray) ++ (⟨#[d]⟩ : ByteArray)))
       have HS := Lib.hid (show (wr.setCell ⟨g, ws.length, none⟩ (.string ((⟨(w0).toArray⟩ : ByteArray) ++ (⟨#[d]⟩ : ByteArray)))).ownsRow w.heap.size 9 1 (.slice (some ⟨g, 0, none⟩) (ws.length + 1) cap) (ws.length + 1) (strVals (ws ++ [w0 ++ [d]])) by
        rw [strVals_snoc, ← hX]; exact hset)
       have HB3 := Lib.hid (HB2.out.setCell (p := ⟨g, ws.length, none⟩) hbg (.string ((⟨(w0).toArray⟩ : ByteArray) ++ (⟨#[d]⟩ : ByteArray))))
       have hA := fun (j : Nat) (o : Obj) => own_set_last (w := (wr.drewN j).alloc o) (xs := strVals ws) (x := .string ⟨(w0).toArray⟩) (by have := (show (wr.drewN j).ownsRow w.heap.size 9 1 (.slice (some ⟨g, 0, none⟩) (ws.length + 1) cap) (ws.length + 1) (strVals (ws ++ [w0])) from HO2.out).alloc o; rw [strVals_snoc] at this; exact this) (.string ((⟨(w0).toArray⟩ : ByteArray) ++ (⟨#[d]⟩ : ByteArray)))
       have hcl := fun (j : Nat) (o : Obj) => (hA j o).2.1
       have hfl := fun (j : Nat) (o : Obj) => (hA j o).2.2.1
       have HSA := Lib.hid (fun (j : Nat) (o : Obj) => (hA j o).1)
       have HBA := Lib.hid (fun (j : Nat) (o : Obj) => (Below.setCell ((below_drewN' HB2.out j).alloc (show w.heap.size ≤ (wr.drewN j).heap.size from HB2.out.size) o) (p := ⟨g, ws.length, none⟩) hbg (.string ((⟨(w0).toArray⟩ : ByteArray) ++ (⟨#[d]⟩ : ByteArray)))))
       clear hA
       clear hset hX hbg
       clear hdc n0
       have HX0 := Lib.hid hx; clear hx
       have HC := Lib.hid hesc; clear hesc
       have hk1 : (k : Int) + 1 ≤ (s.size : Int) := by omega
       have hcv := fun (j : Nat) => conv1 (wr.drewN j) wr.heap.size rfl d
       go_wp2_with fail
       refine HC.out.mono ?_
       rw [HE.out]
       rintro e w' ⟨rfl, m, rfl⟩
       go_wp2_with fail
       go_region
       go_wp2_with fail
       go_roundg f
       case measure => omega
       case rel =>
        have e2 : ((k : Int) + n + 1) = ((k + (n + 1) : Nat) : Int) := by omega
        rw [e2]
        exact AtR.word (k' := k + (n + 1)) ws (w0 ++ [d]) 34 rfl (by omega) (by omega) HR.out hl3 (by decide) (by simp <;> omega) (by have := HSA.out; rw [strVals_snoc, ← word_put]; exact this _ _) (by have := HBA.out (m + 1); first | exact this _ | exact below_drew' (this _))
     | quote hx =>
      rcases hx with hx | hx
      ·have n0 : (s[k].toNat : Int) = 39 := by rw [hx]; rfl
       have t32 : ((s[k].toNat : Int) == 32) = false := by rw [n0]; rfl
       have t9 : ((s[k].toNat : Int) == 9) = false := by rw [n0]; rfl
       have t127 : ((s[k].toNat : Int) == 127) = false := by rw [n0]; rfl
       have t92 : ((s[k].toNat : Int) == 92) = false := by rw [n0]; rfl
       have t39 : ((s[k].toNat : Int) == 39) = true := by rw [n0]; rfl
       have t34 : ((s[k].toNat : Int) == 34) = false := by rw [n0]; rfl
       have t9' := bne_of t9
       have h32 : (32 : Int) ≤ s[k].toNat := by omega
       have o1 : isBad s[k] = false := by rw [hx]; rfl
       have o2 : isBlank s[k] = false := by rw [hx]; rfl
       have o3' : (s[k] == 92) = false := by rw [hx]; rfl
       have o4 : isQuote s[k] = true := by rw [hx]; rfl
       have e0 : (ws ++ (some w0).toList).length = ws.length + 1 := by simp
       rw [e0]
       have HO2 := Lib.hid (show wr.ownsRow w.heap.size 9 1 (.slice oa (ws.length + 1) cap) (ws.length + 1) (strVals (ws ++ [w0])) by simpa using Hown.out)
       have hl3 : ws.length < 32 := by rw [e0] at hl32; omega
       clear e0 Hown
       obtain ⟨g, rfl⟩ := own_block HO2.out
       have HB2 := Hbel
       have hwl : w0.length ≤ k := hwk
       have HR := Lib.hid (show refS f ws (some (w0 ++ [s[k]])) 34 (s.data.toList.drop (k + 1)) = res by
        rw [← Hq.out, hdc]
        skip
        have eqq : (s[k] == (34 : UInt8)) = false := by rw [hx]; rfl
        simp only [refS, o1, o2, o3', o4, eqq]
        simp)
       have hX : (⟨(w0).toArray⟩ : ByteArray) ++ s.extract k (k + 1) = ⟨(w0 ++ [s[k]]).toArray⟩ := word_snoc w0 s k hlt
       have hk1 : (k : Int) + 1 ≤ (s.size : Int) := by omega
       obtain ⟨hset, hcell, hfro, hbg, hglt⟩ := own_set_last (xs := strVals ws) (x := .string ⟨(w0).toArray⟩) (by have := HO2.out; rw [strVals_snoc] at this; exact this) (.string ((⟨(w0).toArray⟩ : ByteArray) ++ s.extract k (k + 1)))
       have HS := Lib.hid (show (wr.setCell ⟨g, ws.length, none⟩ (.string ((⟨(w0).toArray⟩ : ByteArray) ++ s.extract k (k + 1)))).ownsRow w.heap.size 9 1 (.slice (some ⟨g, 0, none⟩) (ws.length + 1) cap) (ws.length + 1) (strVals (ws ++ [w0 ++ [s[k]]])) by
        rw [strVals_snoc, ← hX]; exact hset)
       have HB3 := Lib.hid (HB2.out.setCell (p := ⟨g, ws.length, none⟩) hbg (.string ((⟨(w0).toArray⟩ : ByteArray) ++ s.extract k (k + 1))))
       clear hset hX hbg
       clear hdc n0
       have HX0 := Lib.hid hx; clear hx
       go_wp2_with fail
       go_region
       go_wp2_with fail
       go_roundg f
       case measure => omega
       case rel => exact AtR.word (k' := k + 1) ws (w0 ++ [s[k]]) 34 rfl (by omega) (by omega) HR.out hl3 (by decide) (by simp <;> omega) HS.out (by first | exact HB3.out | exact ⟨HB3.out.os, HB3.out.tape, HB3.out.output, HB3.out.size, HB3.out.block⟩)
      ·have n0 : (s[k].toNat : Int) = 34 := by rw [hx]; rfl
       have t32 : ((s[k].toNat : Int) == 32) = false := by rw [n0]; rfl
       have t9 : ((s[k].toNat : Int) == 9) = false := by rw [n0]; rfl
       have t127 : ((s[k].toNat : Int) == 127) = false := by rw [n0]; rfl
       have t92 : ((s[k].toNat : Int) == 92) = false := by rw [n0]; rfl
       have t39 : ((s[k].toNat : Int) == 39) = false := by rw [n0]; rfl
       have t34 : ((s[k].toNat : Int) == 34) = true := by rw [n0]; rfl
       have t9' := bne_of t9
       have h32 : (32 : Int) ≤ s[k].toNat := by omega
       have o1 : isBad s[k] = false := by rw [hx]; rfl
       have o2 : isBlank s[k] = false := by rw [hx]; rfl
       have o3' : (s[k] == 92) = false := by rw [hx]; rfl
       have o4 : isQuote s[k] = true := by rw [hx]; rfl
       have e0 : (ws ++ (some w0).toList).length = ws.length + 1 := by simp
       rw [e0]
       have HO2 := Lib.hid (show wr.ownsRow w.heap.size 9 1 (.slice oa (ws.length + 1) cap) (ws.length + 1) (strVals (ws ++ [w0])) by simpa using Hown.out)
       have hl3 : ws.length < 32 := by rw [e0] at hl32; omega
       clear e0 Hown
       obtain ⟨g, rfl⟩ := own_block HO2.out
       have HB2 := Hbel
       have hwl : w0.length ≤ k := hwk
       have HR := Lib.hid (show refS f ws (some w0) 0 (s.data.toList.drop (k + 1)) = res by
        rw [← Hq.out, hdc]
        skip
        have eqq : (s[k] == (34 : UInt8)) = true := by rw [hx]; rfl
        simp only [refS, o1, o2, o3', o4, eqq]
        simp)
       clear hdc n0
       have HX0 := Lib.hid hx; clear hx
       go_wp2_with fail
       go_roundg f
       case measure => omega
       case rel => exact AtR.word (k' := k + 1) ws w0 0 rfl (by omega) (by omega) HR.out hl3 (by decide) (by omega) HO2.out HB2.out
     | other ho =>
      obtain ⟨tst, h32⟩ := tst_other ho
      obtain ⟨t32, t9, t127, t92, t39, t34⟩ := tst
      have t9' := bne_of t9
      obtain ⟨o1, o2, o3, o4⟩ := ho
      have o3' : (s[k] == 92) = false := by simpa using o3
      have e0 : (ws ++ (some w0).toList).length = ws.length + 1 := by simp
      rw [e0]
      have HO2 := Lib.hid (show wr.ownsRow w.heap.size 9 1 (.slice oa (ws.length + 1) cap) (ws.length + 1) (strVals (ws ++ [w0])) by simpa using Hown.out)
      have hl3 : ws.length < 32 := by rw [e0] at hl32; omega
      clear e0 Hown
      obtain ⟨g, rfl⟩ := own_block HO2.out
      have HB2 := Hbel
      have hwl : w0.length ≤ k := hwk
      have HR := Lib.hid (show refS f ws (some (w0 ++ [s[k]])) 34 (s.data.toList.drop (k + 1)) = res by
       rw [← Hq.out, hdc]
       skip
       have eqq : (s[k] == (34 : UInt8)) = false := by rw [beq_u8]; exact t34
       simp only [refS, o1, o2, o3', o4, eqq]
       simp)
      have hX : (⟨(w0).toArray⟩ : ByteArray) ++ s.extract k (k + 1) = ⟨(w0 ++ [s[k]]).toArray⟩ := word_snoc w0 s k hlt
      have hk1 : (k : Int) + 1 ≤ (s.size : Int) := by omega
      obtain ⟨hset, hcell, hfro, hbg, hglt⟩ := own_set_last (xs := strVals ws) (x := .string ⟨(w0).toArray⟩) (by have := HO2.out; rw [strVals_snoc] at this; exact this) (.string ((⟨(w0).toArray⟩ : ByteArray) ++ s.extract k (k + 1)))
      have HS := Lib.hid (show (wr.setCell ⟨g, ws.length, none⟩ (.string ((⟨(w0).toArray⟩ : ByteArray) ++ s.extract k (k + 1)))).ownsRow w.heap.size 9 1 (.slice (some ⟨g, 0, none⟩) (ws.length + 1) cap) (ws.length + 1) (strVals (ws ++ [w0 ++ [s[k]]])) by
       rw [strVals_snoc, ← hX]; exact hset)
      have HB3 := Lib.hid (HB2.out.setCell (p := ⟨g, ws.length, none⟩) hbg (.string ((⟨(w0).toArray⟩ : ByteArray) ++ s.extract k (k + 1))))
      clear hset hX hbg
      clear hdc
      go_wp2_with fail
      go_region
      go_wp2_with fail
      go_roundg f
      case measure => omega
      case rel => exact AtR.word (k' := k + 1) ws (w0 ++ [s[k]]) 34 rfl (by omega) (by omega) HR.out hl3 (by decide) (by simp <;> omega) HS.out (by first | exact HB3.out | exact ⟨HB3.out.os, HB3.out.tape, HB3.out.output, HB3.out.size, HB3.out.block⟩)
  ·have hke : k = s.size := by omega
   rcases hqq with rfl | ⟨rfl | rfl, hcs⟩
   ·cases cur with
    | none =>
     have hdn : s.data.toList.drop k = [] := by
      apply List.drop_eq_nil_of_le
      have : s.data.toList.length = s.size := rfl
      omega
     have HR := Lib.hid (show res = (.ok (ws)) by
      rw [← Hq.out, hdn]
      simp [refS])
     clear hdn
     have e0 : (ws ++ (none : Option Str).toList).length = (ws).length := by simp
     have HO := Lib.hid (show wr.ownsRow w.heap.size 9 1 (.slice oa (ws).length cap) (ws).length (strVals (ws)) by simpa using Hown.out)
     rw [e0]
     clear e0 Hown
     go_wp2_with fail
     go_ret2
     refine ⟨Hbel.out, ?_⟩
     rw [HR.out]
     exact ⟨_, rfl, HO.out⟩
    | some w0 =>
     have hdn : s.data.toList.drop k = [] := by
      apply List.drop_eq_nil_of_le
      have : s.data.toList.length = s.size := rfl
      omega
     have HR := Lib.hid (show res = (.ok (ws ++ [w0])) by
      rw [← Hq.out, hdn]
      simp [refS])
     clear hdn
     have e0 : (ws ++ (some w0 : Option Str).toList).length = (ws ++ [w0]).length := by simp
     have HO := Lib.hid (show wr.ownsRow w.heap.size 9 1 (.slice oa (ws ++ [w0]).length cap) (ws ++ [w0]).length (strVals (ws ++ [w0])) by simpa using Hown.out)
     rw [e0]
     clear e0 Hown
     go_wp2_with fail
     go_ret2
     refine ⟨Hbel.out, ?_⟩
     rw [HR.out]
     exact ⟨_, rfl, HO.out⟩
   ·cases cur with
    | none => exact absurd hcs (by decide)
    | some w0 =>
     clear hcs
     have hdn : s.data.toList.drop k = [] := by
      apply List.drop_eq_nil_of_le
      have : s.data.toList.length = s.size := rfl
      omega
     have HR := Lib.hid (show res = (.error 13) by
      rw [← Hq.out, hdn]
      simp [refS])
     clear hdn
     go_wp2_with fail
     go_ret2
     exact ⟨Hbel.out, by rw [HR.out]; rfl⟩
   ·cases cur with
    | none => exact absurd hcs (by decide)
    | some w0 =>
     clear hcs
     have hdn : s.data.toList.drop k = [] := by
      apply List.drop_eq_nil_of_le
      have : s.data.toList.length = s.size := rfl
      omega
     have HR := Lib.hid (show res = (.error 13) by
      rw [← Hq.out, hdn]
      simp [refS])
     clear hdn
     go_wp2_with fail
     go_ret2
     exact ⟨Hbel.out, by rw [HR.out]; rfl⟩
end Go.Proofs.YtdpnahojhmkemaaGreatDoor
