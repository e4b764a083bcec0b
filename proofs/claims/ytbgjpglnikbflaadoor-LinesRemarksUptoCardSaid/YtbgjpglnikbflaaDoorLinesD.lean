/-
  Package lines: text.
-/
import Derived.Test.YtbgjpglnikbflaaDoorLinesC
namespace Go.Proofs.YtbgjpglnikbflaaDoor
open Go Go.RowKit
set_option linter.unusedVariables false
set_option maxRecDepth 100000

theorem text_snoc {l : List Ln} {k : Nat} (h : k < l.length) : textS none (l.take (k + 1)) = textS none (l.take k) ++ (if h0 : k = 0 then headS l[k].sec ++ pairS l[k] else (if l[k].sec = (l[k - 1]'(by omega)).sec then [] else 10 :: headS l[k].sec) ++ pairS l[k]) := by
  rw [List.take_succ_eq_append_getElem h]
  obtain ⟨q, h1, h2⟩ := textS_snoc (l.take k) none l[k]
  rw [h1]
  congr 1
  by_cases h0 : k = 0
  · subst h0
    rw [dif_pos rfl]
    simp at h2
    subst h2
    simp [textS]
  · rw [dif_neg h0]
    have h3 : (l.take k).getLast? = some (l[k - 1]'(by omega)) := by
      rw [List.getLast?_eq_getElem?, List.length_take, Nat.min_eq_left (by omega), List.getElem?_take_of_lt (by omega)]
      simp [(by omega : k - 1 < l.length)]
    rw [h3] at h2
    subst h2
    simp [textS]
theorem text_take_len (l : List Ln) (k : Nat) : (textS none (l.take k)).length ≤ (writeS l).length := (text_take l none k).length_le

theorem head_bytes (sb : ByteArray) (s : Str) (h : sb.data.toList = s) : ((((⟨#[91]⟩ : ByteArray) ++ sb) ++ ⟨#[93]⟩) ++ ⟨#[10]⟩).data.toList = headS s := by
  rw [Joins.data_append, Joins.data_append, Joins.data_append, h]
  simp [headS]
theorem pair_bytes (kb vb : ByteArray) (x : Ln) (h1 : kb.data.toList = x.key) (h2 : vb.data.toList = x.val) : (((kb ++ (⟨#[61]⟩ : ByteArray)) ++ vb) ++ ⟨#[10]⟩).data.toList = pairS x := by
  rw [Joins.data_append, Joins.data_append, Joins.data_append, h1, h2]
  simp [pairS]

theorem head_size (sb : ByteArray) : ((((⟨#[91]⟩ : ByteArray) ++ sb) ++ ⟨#[93]⟩) ++ ⟨#[10]⟩).size = sb.size + 3 := by
  rw [ByteArray.size_append, ByteArray.size_append, ByteArray.size_append]
  show 1 + sb.size + 1 + 1 = _
  omega
theorem pair_size (kb vb : ByteArray) : (((kb ++ (⟨#[61]⟩ : ByteArray)) ++ vb) ++ ⟨#[10]⟩).size = kb.size + vb.size + 2 := by
  rw [ByteArray.size_append, ByteArray.size_append, ByteArray.size_append]
  show kb.size + 1 + vb.size + 1 = _
  omega
theorem len_size (x : ByteArray) : x.data.toList.length = x.size := by simp

theorem drew_below2 {w w1 : World} {n : Nat} (h : Below w.heap.size w w1) : Below w.heap.size w (w1.drewN n) := ⟨h.os, h.tape, h.output, h.size, h.block⟩
theorem str_of_beq {a b : ByteArray} {s t : Str} (ha : a = ⟨s.toArray⟩) (hb : b = ⟨t.toArray⟩) (h : (a.toList == b.toList) = true) : s = t := by
  rw [ByteArray.toList_eq, ByteArray.toList_eq, ha, hb] at h
  simpa using h
theorem str_of_bne {a b : ByteArray} {s t : Str} (ha : a = ⟨s.toArray⟩) (hb : b = ⟨t.toArray⟩) (h : (a.toList == b.toList) = false) : ¬ s = t := by
  rw [ByteArray.toList_eq, ByteArray.toList_eq, ha, hb] at h
  simpa using h

def OutTx (w : World) (l : List Ln) (e : Ending) (w' : World) : Prop := e = .returned (.string ⟨(writeS l).toArray⟩) ∧ Below w.heap.size w w'

set_option maxHeartbeats 4000000 in
theorem text_any (oa : Option Addr) (cap : Nat) (l : List Ln) (w : World) (h : LnRow w oa l) (hl : l.length ≤ 100000000) (hx : ∀ x ∈ l, LnSmall x) (hw : (writeS l).length ≤ 1000000000) :
    Calls Tryd.prog 33 #[.slice oa l.length cap] w fun e w' => OutTx w l e w' := by
  have HX := Lib.hid hx; clear hx
  have HR := Lib.hid h; clear h
  have hb0 := Bld.new w
  have hbb : Below w.heap.size w (w.alloc (.cells #[.pointer none, .slice none 0 0] 67)) := (Below.refl _ _).alloc (Nat.le_refl _) _
  go_enter Tryd.func33, Tryd.ntmps33
  go_wp2_with fail
  generalize w.alloc (.cells #[.pointer none, .slice none 0 0] 67) = w1 at hb0 hbb ⊢
  have HBB := Lib.hid hbb; clear hbb
  go_loopg [4, 5, 8] (l.length + 1) (fun f _ _ i wr => ∃ k : Nat, k ≤ l.length ∧ i = .int .i64 k ∧ l.length - k < f ∧ Bld w.heap.size (w.heap.size + 1) (textS none (l.take k)) wr ∧ Hid (Below w.heap.size w wr))
  case atStart => exact ⟨0, by omega, rfl, by omega, hb0, HBB.out⟩
  case round =>
    obtain ⟨k, hk, rfl, hfu, hb, HB⟩ := hrel
    have hsz := HB.out.size
    by_cases hlt : k < l.length
    · obtain ⟨bb, o, rfl, c0, c1, c2, c3⟩ := (HR.out.below HB.out (Nat.le_refl _)) k hlt
      have hxk := HX.out l[k] (List.getElem_mem _)
      obtain ⟨sb, hsb⟩ : ∃ sb : ByteArray, sb = ⟨l[k].sec.toArray⟩ := ⟨_, rfl⟩
      obtain ⟨kb, hkb⟩ : ∃ kb : ByteArray, kb = ⟨l[k].key.toArray⟩ := ⟨_, rfl⟩
      obtain ⟨vb, hvb⟩ : ∃ vb : ByteArray, vb = ⟨l[k].val.toArray⟩ := ⟨_, rfl⟩
      have zs : sb.size ≤ 1000000000 := by rw [hsb]; exact hxk.sec
      have zk : kb.size ≤ 1000000000 := by rw [hkb]; exact hxk.key
      have zv : vb.size ≤ 1000000000 := by rw [hvb]; exact hxk.val
      rw [← hsb] at c0
      rw [← hkb] at c1
      rw [← hvb] at c2
      have HSb := Lib.hid hsb; clear hsb
      have HKb := Lib.hid hkb; clear hkb
      have HVb := Lib.hid hvb; clear hvb
      generalize l[k].at_ = xat at c3
      by_cases h0 : k = 0
      · subst h0
        simp only [Nat.zero_mul, Nat.add_zero] at c0 c1 c2 c3
        have bd1 := Lib.hid (show (textS none (l.take 0)).length + ((((⟨#[91]⟩ : ByteArray) ++ sb) ++ ⟨#[93]⟩) ++ ⟨#[10]⟩).size < 1099511627776 by
          have := text_take_len l 0; rw [head_size]; omega)
        have bd2 := Lib.hid (show (textS none (l.take 0) ++ ((((⟨#[91]⟩ : ByteArray) ++ sb) ++ ⟨#[93]⟩) ++ ⟨#[10]⟩).data.toList).length + (((kb ++ (⟨#[61]⟩ : ByteArray)) ++ vb) ++ ⟨#[10]⟩).size < 1099511627776 by
          have := text_take_len l 0; rw [List.length_append, len_size, head_size, pair_size]; omega)
        have hB3 : Below wr.heap.size wr (wr.alloc (.cells #[.string sb, .string kb, .string vb, .int .i64 xat] 34)) := (Below.refl _ _).alloc (Nat.le_refl _) _
        have hbw3 := hb.below hB3
        have hPw3 := heap_alloc_new wr (.cells #[.string sb, .string kb, .string vb, .int .i64 xat] 34)
        go_wp2_with fail
        generalize wr.alloc (.cells #[.string sb, .string kb, .string vb, .int .i64 xat] 34) = w3 at *
        generalize hPn : wr.heap.size = P at *
        have HBw3 := Lib.hid (HB.out.trans (hB3.mono hsz))
        have hPR : w.heap.size < P := by rw [← hPn]; exact hb.lt
        clear hPn hB3 c0 c1 c2 c3
        have d0 : w3.cell? ⟨P, 0, none⟩ = some (.string sb) := by rw [(rd hPw3).1]; rfl
        have d1 : w3.cell? ⟨P, 1, none⟩ = some (.string kb) := by rw [(rd hPw3).1]; rfl
        have d2 : w3.cell? ⟨P, 2, none⟩ = some (.string vb) := by rw [(rd hPw3).1]; rfl
        have HPw3 := Lib.hid hPw3; clear hPw3
        go_quiet (fail)
        have hbw3 := hbw3.drewN nq
        have HBw3 := Lib.hid (drew_below2 (n := nq) HBw3.out)
        have HPw3 := Lib.hid (show (w3.drewN nq).heap[P]? = some (.cells #[.string sb, .string kb, .string vb, .int .i64 xat] 34 (0, 0)) from HPw3.out)
        clear d0 d1 d2
        generalize w3.drewN nq = w4 at *
        have HBw4 := HBw3
        have HPw4 := HPw3
        have hPw4 := HPw4.out
        have d0 : w4.cell? ⟨P, 0, none⟩ = some (.string sb) := by rw [(rd hPw4).1]; rfl
        have d1 : w4.cell? ⟨P, 1, none⟩ = some (.string kb) := by rw [(rd hPw4).1]; rfl
        have d2 : w4.cell? ⟨P, 2, none⟩ = some (.string vb) := by rw [(rd hPw4).1]; rfl
        clear hPw4
        go_wp2_with fail
        have hh := hbw3.writeString ((((⟨#[91]⟩ : ByteArray) ++ sb) ++ ⟨#[93]⟩) ++ ⟨#[10]⟩) bd1.out
        with_reducible refine hh.mono ?_
        clear hh
        rintro e w6 ⟨rfl, hb6, hfw6⟩
        have HBw6 := Lib.hid (HBw4.out.trans (hfw6.below w.heap.size (by omega) (by omega) HBw4.out.size))
        have hPw6 := hfw6.heap HPw4.out (by omega) (by decide)
        clear d0 d1 d2 hfw6
        have d0 : w6.cell? ⟨P, 0, none⟩ = some (.string sb) := by rw [(rd hPw6).1]; rfl
        have d1 : w6.cell? ⟨P, 1, none⟩ = some (.string kb) := by rw [(rd hPw6).1]; rfl
        have d2 : w6.cell? ⟨P, 2, none⟩ = some (.string vb) := by rw [(rd hPw6).1]; rfl
        have HPw6 := Lib.hid hPw6; clear hPw6
        go_wp2_with fail
        have hh := hb6.writeString (((kb ++ (⟨#[61]⟩ : ByteArray)) ++ vb) ++ ⟨#[10]⟩) bd2.out
        with_reducible refine hh.mono ?_
        clear hh
        rintro e w7 ⟨rfl, hb7, hfw7⟩
        have HBw7 := Lib.hid (HBw6.out.trans (hfw7.below w.heap.size (by omega) (by omega) HBw6.out.size))
        have hPw7 := hfw7.heap HPw6.out (by omega) (by decide)
        clear d0 d1 d2 hfw7
        have d0 : w7.cell? ⟨P, 0, none⟩ = some (.string sb) := by rw [(rd hPw7).1]; rfl
        have d1 : w7.cell? ⟨P, 1, none⟩ = some (.string kb) := by rw [(rd hPw7).1]; rfl
        have d2 : w7.cell? ⟨P, 2, none⟩ = some (.string vb) := by rw [(rd hPw7).1]; rfl
        have HPw7 := Lib.hid hPw7; clear hPw7
        clear d0 d1 d2
        go_wp2_with fail
        go_roundg (l.length - 0)
        case measure => omega
        case rel =>
          refine ⟨0 + 1, by omega, by go_num, by omega, ?_, HBw7.out⟩
          rw [text_snoc hlt, dif_pos rfl]
          rw [pair_bytes kb vb l[0] (by rw [HKb.out]) (by rw [HVb.out]), head_bytes sb l[0].sec (by rw [HSb.out])] at hb7
          rw [← List.append_assoc]; exact hb7
      · have h0'' : (0 : Int) < (k : Int) := by omega
        have h0' : ((k : Int) == 0) = false := by rw [beq_eq_false_iff_ne]; omega
        obtain ⟨bp, op, e, p0, -, -, -⟩ := (HR.out.below HB.out (Nat.le_refl _)) (k - 1) (by omega)
        injection e with e; injection e with e1 e2; subst e1; subst e2
        obtain ⟨pb, hpb⟩ : ∃ pb : ByteArray, pb = ⟨(l[k - 1]'(by omega)).sec.toArray⟩ := ⟨_, rfl⟩
        rw [← hpb] at p0
        have HPb := Lib.hid hpb; clear hpb
        have i1 : ((k : Int) - 1).toNat = k - 1 := by omega
        have i2 : 0 ≤ (k : Int) - 1 := by omega
        have i3 : (k : Int) - 1 < (l.length : Int) := by omega
        cases hq : (sb.toList == pb.toList) with
        | true =>
          have hq' : (sb.toList != pb.toList) = false := by simp [bne, hq]
          have bd1 := Lib.hid (show (textS none (l.take k)).length + (((kb ++ (⟨#[61]⟩ : ByteArray)) ++ vb) ++ ⟨#[10]⟩).size < 1099511627776 by
            have := text_take_len l k; rw [pair_size]; omega)
          have HQ := Lib.hid (str_of_beq HSb.out HPb.out hq)
          have hB3 : Below wr.heap.size wr (wr.alloc (.cells #[.string sb, .string kb, .string vb, .int .i64 xat] 34)) := (Below.refl _ _).alloc (Nat.le_refl _) _
          have hbw3 := hb.below hB3
          have hPw3 := heap_alloc_new wr (.cells #[.string sb, .string kb, .string vb, .int .i64 xat] 34)
          have p3 := (hB3.cell (p := ⟨bb, o + (k - 1) * 4, none⟩) (World.block_lt_of_cell? wr _ p0)).trans p0
          go_wp2_with fail
          generalize wr.alloc (.cells #[.string sb, .string kb, .string vb, .int .i64 xat] 34) = w3 at *
          generalize hPn : wr.heap.size = P at *
          have HBw3 := Lib.hid (HB.out.trans (hB3.mono hsz))
          have hPR : w.heap.size < P := by rw [← hPn]; exact hb.lt
          clear hPn hB3 c0 c1 c2 c3
          clear p0
          have d0 : w3.cell? ⟨P, 0, none⟩ = some (.string sb) := by rw [(rd hPw3).1]; rfl
          have d1 : w3.cell? ⟨P, 1, none⟩ = some (.string kb) := by rw [(rd hPw3).1]; rfl
          have d2 : w3.cell? ⟨P, 2, none⟩ = some (.string vb) := by rw [(rd hPw3).1]; rfl
          have HPw3 := Lib.hid hPw3; clear hPw3
          go_quiet (fail)
          have hbw3 := hbw3.drewN nq
          have HBw3 := Lib.hid (drew_below2 (n := nq) HBw3.out)
          have HPw3 := Lib.hid (show (w3.drewN nq).heap[P]? = some (.cells #[.string sb, .string kb, .string vb, .int .i64 xat] 34 (0, 0)) from HPw3.out)
          clear d0 d1 d2
          generalize w3.drewN nq = w4 at *
          have HBw4 := HBw3
          have HPw4 := HPw3
          have hPw4 := HPw4.out
          have d0 : w4.cell? ⟨P, 0, none⟩ = some (.string sb) := by rw [(rd hPw4).1]; rfl
          have d1 : w4.cell? ⟨P, 1, none⟩ = some (.string kb) := by rw [(rd hPw4).1]; rfl
          have d2 : w4.cell? ⟨P, 2, none⟩ = some (.string vb) := by rw [(rd hPw4).1]; rfl
          clear hPw4
          go_wp2_with fail
          have hh := hbw3.writeString (((kb ++ (⟨#[61]⟩ : ByteArray)) ++ vb) ++ ⟨#[10]⟩) bd1.out
          with_reducible refine hh.mono ?_
          clear hh
          rintro e w7 ⟨rfl, hb7, hfw7⟩
          have HBw7 := Lib.hid (HBw4.out.trans (hfw7.below w.heap.size (by omega) (by omega) HBw4.out.size))
          have hPw7 := hfw7.heap HPw4.out (by omega) (by decide)
          clear d0 d1 d2 hfw7
          have d0 : w7.cell? ⟨P, 0, none⟩ = some (.string sb) := by rw [(rd hPw7).1]; rfl
          have d1 : w7.cell? ⟨P, 1, none⟩ = some (.string kb) := by rw [(rd hPw7).1]; rfl
          have d2 : w7.cell? ⟨P, 2, none⟩ = some (.string vb) := by rw [(rd hPw7).1]; rfl
          have HPw7 := Lib.hid hPw7; clear hPw7
          clear d0 d1 d2
          go_wp2_with fail
          go_roundg (l.length - k)
          case measure => omega
          case rel =>
            refine ⟨k + 1, by omega, by go_num, by omega, ?_, HBw7.out⟩
            rw [text_snoc hlt, dif_neg h0, if_pos HQ.out]
            rw [pair_bytes kb vb l[k] (by rw [HKb.out]) (by rw [HVb.out])] at hb7
            exact hb7
        | false =>
          have hq' : (sb.toList != pb.toList) = true := by simp [bne, hq]
          have bd1 := Lib.hid (show (textS none (l.take k)).length + (⟨#[10]⟩ : ByteArray).size < 1099511627776 by
            have := text_take_len l k; show _ + 1 < _; omega)
          have bd2 := Lib.hid (show (textS none (l.take k) ++ (⟨#[10]⟩ : ByteArray).data.toList).length + ((((⟨#[91]⟩ : ByteArray) ++ sb) ++ ⟨#[93]⟩) ++ ⟨#[10]⟩).size < 1099511627776 by
            have := text_take_len l k; rw [List.length_append, len_size, head_size]; show _ + 1 + _ < _; omega)
          have bd3 := Lib.hid (show (textS none (l.take k) ++ (⟨#[10]⟩ : ByteArray).data.toList ++ ((((⟨#[91]⟩ : ByteArray) ++ sb) ++ ⟨#[93]⟩) ++ ⟨#[10]⟩).data.toList).length + (((kb ++ (⟨#[61]⟩ : ByteArray)) ++ vb) ++ ⟨#[10]⟩).size < 1099511627776 by
            have := text_take_len l k; rw [List.length_append, List.length_append, len_size, len_size, head_size, pair_size]; show _ + 1 + _ + _ < _; omega)
          have HQ := Lib.hid (str_of_bne HSb.out HPb.out hq)
          have hB3 : Below wr.heap.size wr (wr.alloc (.cells #[.string sb, .string kb, .string vb, .int .i64 xat] 34)) := (Below.refl _ _).alloc (Nat.le_refl _) _
          have hbw3 := hb.below hB3
          have hPw3 := heap_alloc_new wr (.cells #[.string sb, .string kb, .string vb, .int .i64 xat] 34)
          have p3 := (hB3.cell (p := ⟨bb, o + (k - 1) * 4, none⟩) (World.block_lt_of_cell? wr _ p0)).trans p0
          go_wp2_with fail
          generalize wr.alloc (.cells #[.string sb, .string kb, .string vb, .int .i64 xat] 34) = w3 at *
          generalize hPn : wr.heap.size = P at *
          have HBw3 := Lib.hid (HB.out.trans (hB3.mono hsz))
          have hPR : w.heap.size < P := by rw [← hPn]; exact hb.lt
          clear hPn hB3 c0 c1 c2 c3
          clear p0
          have d0 : w3.cell? ⟨P, 0, none⟩ = some (.string sb) := by rw [(rd hPw3).1]; rfl
          have d1 : w3.cell? ⟨P, 1, none⟩ = some (.string kb) := by rw [(rd hPw3).1]; rfl
          have d2 : w3.cell? ⟨P, 2, none⟩ = some (.string vb) := by rw [(rd hPw3).1]; rfl
          have HPw3 := Lib.hid hPw3; clear hPw3
          go_quiet (fail)
          have hbw3 := hbw3.drewN nq
          have HBw3 := Lib.hid (drew_below2 (n := nq) HBw3.out)
          have HPw3 := Lib.hid (show (w3.drewN nq).heap[P]? = some (.cells #[.string sb, .string kb, .string vb, .int .i64 xat] 34 (0, 0)) from HPw3.out)
          clear d0 d1 d2
          generalize w3.drewN nq = w4 at *
          have HBw4 := HBw3
          have HPw4 := HPw3
          have hPw4 := HPw4.out
          have d0 : w4.cell? ⟨P, 0, none⟩ = some (.string sb) := by rw [(rd hPw4).1]; rfl
          have d1 : w4.cell? ⟨P, 1, none⟩ = some (.string kb) := by rw [(rd hPw4).1]; rfl
          have d2 : w4.cell? ⟨P, 2, none⟩ = some (.string vb) := by rw [(rd hPw4).1]; rfl
          clear hPw4
          go_wp2_with fail
          have hh := hbw3.writeString ⟨#[10]⟩ bd1.out
          with_reducible refine hh.mono ?_
          clear hh
          rintro e w5 ⟨rfl, hb5, hfw5⟩
          have HBw5 := Lib.hid (HBw4.out.trans (hfw5.below w.heap.size (by omega) (by omega) HBw4.out.size))
          have hPw5 := hfw5.heap HPw4.out (by omega) (by decide)
          clear d0 d1 d2 hfw5
          have d0 : w5.cell? ⟨P, 0, none⟩ = some (.string sb) := by rw [(rd hPw5).1]; rfl
          have d1 : w5.cell? ⟨P, 1, none⟩ = some (.string kb) := by rw [(rd hPw5).1]; rfl
          have d2 : w5.cell? ⟨P, 2, none⟩ = some (.string vb) := by rw [(rd hPw5).1]; rfl
          have HPw5 := Lib.hid hPw5; clear hPw5
          go_wp2_with fail
          have hh := hb5.writeString ((((⟨#[91]⟩ : ByteArray) ++ sb) ++ ⟨#[93]⟩) ++ ⟨#[10]⟩) bd2.out
          with_reducible refine hh.mono ?_
          clear hh
          rintro e w6 ⟨rfl, hb6, hfw6⟩
          have HBw6 := Lib.hid (HBw5.out.trans (hfw6.below w.heap.size (by omega) (by omega) HBw5.out.size))
          have hPw6 := hfw6.heap HPw5.out (by omega) (by decide)
          clear d0 d1 d2 hfw6
          have d0 : w6.cell? ⟨P, 0, none⟩ = some (.string sb) := by rw [(rd hPw6).1]; rfl
          have d1 : w6.cell? ⟨P, 1, none⟩ = some (.string kb) := by rw [(rd hPw6).1]; rfl
          have d2 : w6.cell? ⟨P, 2, none⟩ = some (.string vb) := by rw [(rd hPw6).1]; rfl
          have HPw6 := Lib.hid hPw6; clear hPw6
          go_wp2_with fail
          have hh := hb6.writeString (((kb ++ (⟨#[61]⟩ : ByteArray)) ++ vb) ++ ⟨#[10]⟩) bd3.out
          with_reducible refine hh.mono ?_
          clear hh
          rintro e w7 ⟨rfl, hb7, hfw7⟩
          have HBw7 := Lib.hid (HBw6.out.trans (hfw7.below w.heap.size (by omega) (by omega) HBw6.out.size))
          have hPw7 := hfw7.heap HPw6.out (by omega) (by decide)
          clear d0 d1 d2 hfw7
          have d0 : w7.cell? ⟨P, 0, none⟩ = some (.string sb) := by rw [(rd hPw7).1]; rfl
          have d1 : w7.cell? ⟨P, 1, none⟩ = some (.string kb) := by rw [(rd hPw7).1]; rfl
          have d2 : w7.cell? ⟨P, 2, none⟩ = some (.string vb) := by rw [(rd hPw7).1]; rfl
          have HPw7 := Lib.hid hPw7; clear hPw7
          clear d0 d1 d2
          go_wp2_with fail
          go_roundg (l.length - k)
          case measure => omega
          case rel =>
            refine ⟨k + 1, by omega, by go_num, by omega, ?_, HBw7.out⟩
            rw [text_snoc hlt, dif_neg h0, if_neg HQ.out]
            rw [pair_bytes kb vb l[k] (by rw [HKb.out]) (by rw [HVb.out]), head_bytes sb l[k].sec (by rw [HSb.out])] at hb7
            simpa [List.append_assoc] using hb7
    · have : k = l.length := by omega
      subst this
      rw [List.take_length] at hb
      go_wp2_with (go_at_call 52; refine hb.string.mono ?_; rintro e w' ⟨rfl, hb2, hf2⟩)
      go_ret
      exact ⟨rfl, HB.out.trans (hf2.below w.heap.size (by omega) (by omega) hsz)⟩
end Go.Proofs.YtbgjpglnikbflaaDoor
