/-
  The reference's wholes.
-/
import Derived.Test.YtbgjpglnikbflaaDoorRef7B
namespace Go.Proofs.YtbgjpglnikbflaaDoor
open Go Go.RowKit
set_option linter.unusedVariables false
set_option maxRecDepth 100000

theorem infoWhole : (Tryd.prog.info? 49).map (fun i => (i.zero, i.size, i.bytes)) = some (some (.agg #[.string ⟨#[]⟩, .int .i64 0]), 2, 24) := by kernel_rfl

/-- Whole lines as cells. -/
def whVals : List (Str × Nat) → List Value
  | [] => []
  | x :: r => .string ⟨x.1.toArray⟩ :: .int .i64 x.2 :: whVals r
theorem whVals_snoc (l : List (Str × Nat)) (x : Str × Nat) : whVals (l ++ [x]) = whVals l ++ [.string ⟨x.1.toArray⟩, .int .i64 x.2] := by
  induction l with
  | nil => rfl
  | cons a r ih => simp [whVals, ih]
theorem whVals_length (l : List (Str × Nat)) : (whVals l).length = l.length * 2 := by
  induction l with
  | nil => rfl
  | cons a r ih => simp [whVals, ih]; omega

theorem StrRow.fr {w w' : World} {oa : Option Addr} {l : List Str} {M : Nat → Prop} (h : StrRow w oa l) (hf : Fr M w w') (hM : ∀ k, k < w.heap.size → ¬ M k) : StrRow w' oa l := by
  intro i hi
  obtain ⟨b, o, e, hc⟩ := h i hi
  refine ⟨b, o, e, ?_⟩
  have hlt := World.block_lt_of_cell? w _ hc
  rw [← hc]
  unfold World.cell?
  rw [hf.block b hlt (hM b hlt)]

theorem StrRow.below' {w w5 w6 : World} {oa : Option Addr} {l : List Str} {P : Nat} (h : StrRow w oa l) (hb : Below w.heap.size w w5) (hf : Fr (· = P) w5 w6) (hP : w.heap.size ≤ P) : StrRow w6 oa l := by
  intro i hi
  obtain ⟨b, o, e, hc⟩ := h i hi
  refine ⟨b, o, e, ?_⟩
  have hlt := World.block_lt_of_cell? w _ hc
  have h5 := cell_later hb hc
  rw [← h5]
  unfold World.cell?
  rw [hf.block b (Nat.lt_of_lt_of_le hlt hb.size) (fun e => by simp at hlt; omega)]
/-- The world in which a whole line is being made, in block P. -/
def Whl (w5 : World) (P : Nat) (tb : ByteArray) (at_ : Int) (wr : World) : Prop :=
  Fr (· = P) w5 wr ∧ wr.heap[P]? = some (.cells #[.string tb, .int .i64 at_] 49 (0, 0))
theorem Whl.rd {w5 : World} {P : Nat} {tb : ByteArray} {at_ : Int} {wr : World} (h : Whl w5 P tb at_ wr) :
    wr.cell? ⟨P, 0, none⟩ = some (.string tb) ∧ wr.cell? ⟨P, 1, none⟩ = some (.int .i64 at_) ∧ wr.frozen? ⟨P, 0, none⟩ = false := by
  obtain ⟨hc, hf, -, -⟩ := YtbgjpglnikbflaaDoor.rd h.2
  exact ⟨by rw [hc]; rfl, by rw [hc]; rfl, hf 0⟩
theorem Whl.set {w5 : World} {P : Nat} {tb : ByteArray} {at_ : Int} {wr : World} (h : Whl w5 P tb at_ wr) (y : ByteArray) : Whl w5 P y at_ (wr.setCell ⟨P, 0, none⟩ (.string y)) :=
  ⟨Fr.setCell (M := (· = P)) h.1 (p := ⟨P, 0, none⟩) (fun _ => rfl) _, by rw [heap_setCell h.2 0]; rfl⟩
theorem Whl.drewN {w5 : World} {P : Nat} {tb : ByteArray} {at_ : Int} {wr : World} (h : Whl w5 P tb at_ wr) (n : Nat) : Whl w5 P tb at_ (wr.drewN n) := ⟨h.1.drewN n, h.2⟩
theorem Whl.drew {w5 : World} {P : Nat} {tb : ByteArray} {at_ : Int} {wr : World} (h : Whl w5 P tb at_ wr) : Whl w5 P tb at_ wr.drew := ⟨h.1.drew, h.2⟩

theorem ownsRow_mono' {w : World} {base base' : Nat} {e : TypeId} {size : Nat} {v : Value} {n : Nat} {xs : List Value} (h : w.ownsRow base e size v n xs) (hB : base' ≤ base) : w.ownsRow base' e size v n xs := by
  refine ⟨h.1, ?_⟩
  rcases h.2 with hn | ⟨g, cap, cur, rfl, hb, rest⟩
  · exact .inl hn
  · exact .inr ⟨g, cap, cur, rfl, by omega, rest⟩
theorem goesOn_last {x : ByteArray} (h : x.size - 1 < x.size) : goesOn x.data.toList = (x[x.size - 1] == 92) := by
  unfold goesOn
  rw [last_of x h]
  rfl
theorem goesOn_empty {x : ByteArray} (h : x.size = 0) : goesOn x.data.toList = false := by
  have := str_nil h
  subst this; rfl

def OutWh (w : World) (ws : List (Str × Nat)) (e : Ending) (w' : World) : Prop :=
  Below w.heap.size w w' ∧ ∃ v, e = .returned v ∧ w'.ownsRow w.heap.size 49 2 v ws.length (whVals ws)

set_option maxHeartbeats 4000000 in
theorem wholesR_any (s : ByteArray) (w : World) (hs : s.size ≤ 20000) (ws : List (Str × Nat)) (hws : wholes (rowsS s.data.toList) 0 = ws) :
    Calls Tryd.prog 26 #[.string s] w fun e w' => OutWh w ws e w' := by
  have HWs := Lib.hid hws; clear hws
  have hrb := rowsS_bulk s.data.toList
  have hrl := rowsS_len s.data.toList
  have hln : s.data.toList.length = s.size := by simp
  rw [hln] at hrb hrl
  clear hln
  obtain ⟨rows, hrows⟩ : ∃ rows, rowsS s.data.toList = rows := ⟨_, rfl⟩
  rw [hrows] at HWs hrb hrl
  have HC := Lib.hid (splitR3_any s w (by omega) rows hrows)
  clear hrows
  obtain ⟨i0, hi0, hz0, hz1, hz2⟩ := info_parts infoWhole
  go_enter Tryd.func26, Tryd.ntmps26
  go_wp2_with fail
  refine HC.out.mono ?_
  rintro e w2 ⟨hb2, v, rfl, hv⟩
  obtain ⟨oa, cap, rfl⟩ := ownsRow_form hv
  have HR := Lib.hid (StrRow.of_own hv)
  have HB2 := Lib.hid hb2; clear hb2 hv HC
  go_wp2_with fail
  go_loopg [4, 5] (rows.length + 2) (fun f v i wr => ∃ (k : Nat) (done : List (Str × Nat)), k ≤ rows.length + 1 ∧ i = .int .i64 k ∧ rows.length + 1 - k < f ∧ done.length ≤ k ∧ Hid (wr.ownsRow w2.heap.size 49 2 v done.length (whVals done)) ∧
    Hid (done ++ wholes (rows.drop k) k = ws) ∧ Hid (Below w2.heap.size w2 wr))
  case atStart => exact ⟨0, [], by omega, rfl, by omega, by simp, World.ownsRow_nil _ _ _ _, by rw [List.drop_zero]; exact HWs.out, Below.refl _ _⟩
  case round =>
    obtain ⟨k, done, hk, rfl, hfu, hdl, Hown, Hq, HB⟩ := hrel
    obtain ⟨oa1, cap1, rfl⟩ := ownsRow_form Hown.out
    have hsz := HB.out.size
    by_cases hlt : k < rows.length
    · obtain ⟨b, o, rfl, hx⟩ := (HR.out.below HB.out) k hlt
      have hdk : rows.drop k = rows[k] :: rows.drop (k + 1) := List.drop_eq_getElem_cons hlt
      have hbd := bulkR_drop rows k
      rw [hdk] at hbd
      simp only [bulkR] at hbd
      generalize hxe : rows[k] = x at *
      have HXe := Lib.hid hxe; clear hxe
      have HDk := Lib.hid hdk; clear hdk
      have hxs : (⟨x.toArray⟩ : ByteArray).size ≤ 9223372036854775807 := by show x.length ≤ _; omega
      cases hvo : isVoid x with
      | true =>
        have HN := Lib.hid (show done ++ wholes (rows.drop (k + 1)) (k + 1) = ws by
          rw [← Hq.out, HDk.out, wholes_skip (by rw [hvo, Bool.or_true])])
        have HVo := Lib.hid (show trimS x = [] by unfold isVoid at hvo; simpa using hvo); clear hvo
        go_wp2_with (go_at_call 27; refine (trimR_any _ _ hxs _ HVo.out).mono ?_; rintro e w' ⟨rfl, rfl⟩)
        go_roundg (rows.length + 1 - k)
        case measure => omega
        case rel => exact ⟨k + 1, done, by omega, by go_num, by omega, by omega, Hown, HN, HB⟩
      | false =>
        obtain ⟨tx, htx⟩ : ∃ tx, trimS x = tx := ⟨_, rfl⟩
        obtain ⟨y, hy⟩ : ∃ y : ByteArray, y = ⟨tx.toArray⟩ := ⟨_, rfl⟩
        have hy0 : y.size ≠ 0 := by
          rw [hy]; intro e
          have e' : tx = [] := List.eq_nil_of_length_eq_zero e
          unfold isVoid at hvo; rw [htx, e'] at hvo; cases hvo
        obtain ⟨n1, n2, n3, n4⟩ := str_ne hy0
        have HY := Lib.hid hy.symm; clear hy
        have HTx := Lib.hid htx; clear htx
        cases hrem : isRemark x with
        | true =>
          have HN := Lib.hid (show done ++ wholes (rows.drop (k + 1)) (k + 1) = ws by
            rw [← Hq.out, HDk.out, wholes_skip (by rw [hrem, Bool.true_or])])
          have HRem := Lib.hid hrem; clear hrem hvo
          go_wp2_with (first
            | (go_at_call 27; refine (trimR_any _ _ hxs _ HTx.out).mono ?_; rintro e w' ⟨rfl, rfl⟩; rw [HY.out])
            | (go_at_call 45; refine (remarkR_any _ _ hxs _ HRem.out).mono ?_; rintro e w' ⟨rfl, rfl⟩))
          go_roundg (rows.length + 1 - k)
          case measure => omega
          case rel => exact ⟨k + 1, done, by omega, by go_num, by omega, by omega, Hown, HN, HB⟩
        | false =>
          have HSay := Lib.hid (show (isRemark x || isVoid x) = false by rw [hrem, hvo]; rfl)
          have HRem := Lib.hid hrem; clear hrem hvo
          obtain ⟨J, hJ⟩ : ∃ J, jn x (rows.drop (k + 1)) = J := ⟨_, rfl⟩
          have HJ := Lib.hid hJ; clear hJ
          have hB3 : Below wr.heap.size wr (wr.alloc (.cells #[.string ⟨x.toArray⟩, .int .i64 ((k : Int) + 1)] 49)) := (Below.refl _ _).alloc (Nat.le_refl _) _
          have hP3 := heap_alloc_new wr (.cells #[.string ⟨x.toArray⟩, .int .i64 ((k : Int) + 1)] 49)
          have HB3 := Lib.hid (HB.out.trans (hB3.mono hsz))
          have hown3 := ownsRow_fr Hown.out (Fr.of_below hB3 (fun _ => False)) (fun _ _ _ e => e)
          have hlt3 := fun g hg => ((World.ownsRow.lt Hown.out) g hg).2
          go_wp2_with (first
            | (go_at_call 27; refine (trimR_any _ _ hxs _ HTx.out).mono ?_; rintro e w' ⟨rfl, rfl⟩; rw [HY.out])
            | (go_at_call 45; refine (remarkR_any _ _ hxs _ HRem.out).mono ?_; rintro e w' ⟨rfl, rfl⟩))
          generalize wr.alloc (.cells #[.string ⟨x.toArray⟩, .int .i64 ((k : Int) + 1)] 49) = w5 at *
          generalize hPn : wr.heap.size = P at *
          have hWl : Whl w5 P ⟨x.toArray⟩ ((k : Int) + 1) w5 := ⟨Fr.refl _ _, hP3⟩
          have hP5 := lt_heap hP3
          have Hown3 := Lib.hid hown3
          have Hlt3 := Lib.hid hlt3
          clear hPn hB3 hP3 hown3 hlt3 Hown HB n1 n2 n3 n4
          go_loopg [5] (rows.length + 1) (fun f i wq => ∃ (k' : Nat) (tb : ByteArray), k ≤ k' ∧ k' ≤ rows.length ∧ i = .int .i64 k' ∧ rows.length - k' < f ∧ Whl w5 P tb ((k : Int) + 1) wq ∧ tb.size + bulkR (rows.drop (k' + 1)) ≤ 1000000 ∧
            (k' = rows.length → goesOn tb.data.toList = false) ∧ Hid (jn tb.data.toList (rows.drop (k' + 1)) = J))
          case atStart => exact ⟨k, ⟨x.toArray⟩, by omega, by omega, rfl, by omega, hWl, by show x.length + _ ≤ _; omega, by omega, HJ.out⟩
          case round =>
            clear hWl
            obtain ⟨k', tb, hkk, hkl, rfl, hfw, hW, hbt, hend, HQ⟩ := hrel
            obtain ⟨d0, d1, f0⟩ := hW.rd
            cases hg : goesOn tb.data.toList with
            | false =>
              have key : tb.size = 0 ∨ ∃ h : tb.size - 1 < tb.size, (tb[tb.size - 1] == 92) = false := by
                by_cases hz : tb.size = 0
                · exact .inl hz
                · exact .inr ⟨by omega, by rw [← goesOn_last (by omega)]; exact hg⟩
              rcases key with hz | ⟨hz, hb⟩
              · have := str_nil hz
                subst this
                clear hz
                have HN := Lib.hid (show done ++ [((⟨#[]⟩ : ByteArray).data.toList, k + 1)] ++ wholes (rows.drop (k' + 1)) (k' + 1) = ws by
                  have hj := HJ.out
                  rw [← HQ.out, jn_stay hg] at hj
                  rw [← Hq.out, wholes_next HDk.out HSay.out hlt hkl hj]
                  simp)
                clear hg hend HQ
                have hB4 := HB3.out.trans (hW.1.below w2.heap.size HB3.out.size (fun k hk e => by omega))
                have hown4 := ownsRow_fr Hown3.out hW.1 (fun g hg _ e => by have := Hlt3.out g hg; omega)
                have hPq := lt_heap hW.2
                have hsz4 := hB4.size
                have HB4 := Lib.hid hB4; clear hB4
                go_wp2_with (at_builtin; refine wpList_append_own _ rfl _ _ 46 rfl w2.heap.size 49 i0 _ 2 24 Tryd.underlying46 hi0 hz0 hz1 hz2 rfl (by decide) _ done.length (whVals done) rfl (hown4.alloc _) ⟨wr.heap.size, 0, none⟩ 1 1 [.string (⟨#[]⟩ : ByteArray), .int .i64 ((k : Int) + 1)] rfl rfl (by exact World.news_of_block (heap_alloc_new wr _)) (by simp [Value.oneCell']) (by unfold maxLen; omega) (by omega) (by simp; omega) ?_)
                intro v' w6 hown' hgrow hnil
                have HB6 := Lib.hid ((HB4.out.alloc hsz4 _).grown hgrow (by simp; omega) (fun g hg => (World.ownsRow.lt hown4 g hg).1))
                have HO6 := Lib.hid (show w6.ownsRow w2.heap.size 49 2 v' (done ++ [((⟨#[]⟩ : ByteArray).data.toList, k + 1)]).length (whVals (done ++ [((⟨#[]⟩ : ByteArray).data.toList, k + 1)])) by
                  rw [whVals_snoc, List.length_append]; exact hown')
                clear hgrow hnil hown' hown4
                go_wp2_with fail
                go_roundg (rows.length + 1 - k)
                case measure => omega
                case rel => exact ⟨k' + 1, _, by omega, by go_num, by omega, by simp; omega, HO6, HN, HB6⟩
              · obtain ⟨n1, n2, n3, n4⟩ := str_ne (s := tb) (by omega)
                have i1 : ((tb.size : Int) - 1).toNat = tb.size - 1 := by omega
                have i2 : 0 ≤ (tb.size : Int) - 1 := by omega
                have i3 : (tb.size : Int) - 1 < (tb.size : Int) := by omega
                have e92 : ((tb[tb.size - 1].toNat : Int) == 92) = false := by rw [← hb]; exact beqU' (by decide)
                clear hb
                have HN := Lib.hid (show done ++ [(tb.data.toList, k + 1)] ++ wholes (rows.drop (k' + 1)) (k' + 1) = ws by
                  have hj := HJ.out
                  rw [← HQ.out, jn_stay hg] at hj
                  rw [← Hq.out, wholes_next HDk.out HSay.out hlt hkl hj]
                  simp)
                clear hg hend HQ
                have hB4 := HB3.out.trans (hW.1.below w2.heap.size HB3.out.size (fun k hk e => by omega))
                have hown4 := ownsRow_fr Hown3.out hW.1 (fun g hg _ e => by have := Hlt3.out g hg; omega)
                have hPq := lt_heap hW.2
                have hsz4 := hB4.size
                have HB4 := Lib.hid hB4; clear hB4
                go_wp2_with (at_builtin; refine wpList_append_own _ rfl _ _ 46 rfl w2.heap.size 49 i0 _ 2 24 Tryd.underlying46 hi0 hz0 hz1 hz2 rfl (by decide) _ done.length (whVals done) rfl (hown4.alloc _) ⟨wr.heap.size, 0, none⟩ 1 1 [.string tb, .int .i64 ((k : Int) + 1)] rfl rfl (by exact World.news_of_block (heap_alloc_new wr _)) (by simp [Value.oneCell']) (by unfold maxLen; omega) (by omega) (by simp; omega) ?_)
                intro v' w6 hown' hgrow hnil
                have HB6 := Lib.hid ((HB4.out.alloc hsz4 _).grown hgrow (by simp; omega) (fun g hg => (World.ownsRow.lt hown4 g hg).1))
                have HO6 := Lib.hid (show w6.ownsRow w2.heap.size 49 2 v' (done ++ [(tb.data.toList, k + 1)]).length (whVals (done ++ [(tb.data.toList, k + 1)])) by
                  rw [whVals_snoc, List.length_append]; exact hown')
                clear hgrow hnil hown' hown4
                go_wp2_with fail
                go_roundg (rows.length + 1 - k)
                case measure => omega
                case rel => exact ⟨k' + 1, _, by omega, by go_num, by omega, by simp; omega, HO6, HN, HB6⟩
            | true =>
              have hz : tb.size - 1 < tb.size := by
                rcases Nat.eq_zero_or_pos tb.size with h | h
                · rw [goesOn_empty h] at hg; cases hg
                · omega
              have hkl' : k' < rows.length := by
                rcases Nat.lt_or_ge k' rows.length with h | h
                · exact h
                · have := hend (by omega); rw [hg] at this; cases this
              have hb := (goesOn_last hz).symm.trans hg
              obtain ⟨n1, n2, n3, n4⟩ := str_ne (s := tb) (by omega)
              have i1 : ((tb.size : Int) - 1).toNat = tb.size - 1 := by omega
              have i2 : 0 ≤ (tb.size : Int) - 1 := by omega
              have i3 : (tb.size : Int) - 1 < (tb.size : Int) := by omega
              have i4 : (tb.size : Int) - 1 ≤ (tb.size : Int) := by omega
              have e92 : ((tb[tb.size - 1].toNat : Int) == 92) = true := by rw [← hb]; exact beqU' (by decide)
              have HG := Lib.hid hg
              clear hb hg hend
              have hW7 := hW.set (tb.extract 0 (tb.size - 1) ++ ⟨#[32]⟩)
              have HNb := Lib.hid (show (tb.extract 0 (tb.size - 1) ++ (⟨#[32]⟩ : ByteArray)).data.toList = tb.data.toList.dropLast ++ [32] by rw [Joins.data_append, ext_init])
              have HNs := Lib.hid (show (tb.extract 0 (tb.size - 1) ++ (⟨#[32]⟩ : ByteArray)).size = tb.size by
                rw [ByteArray.size_append, ByteArray.size_extract]; show _ + 1 = _; omega)
              go_wp2_with fail
              generalize wr.setCell ⟨P, 0, none⟩ (.string (tb.extract 0 (tb.size - 1) ++ (⟨#[32]⟩ : ByteArray))) = w7 at *
              generalize tb.extract 0 (tb.size - 1) ++ (⟨#[32]⟩ : ByteArray) = nb at *
              have HQ0 := HQ
              clear hW d0 d1 f0 HQ
              go_loopg [5] (rows.length + 1) (fun f i wq => ∃ (k2 : Nat), k' < k2 ∧ k2 ≤ rows.length ∧ i = .int .i64 k2 ∧ rows.length - k2 < f ∧ Whl w5 P nb ((k : Int) + 1) wq ∧ tb.size + bulkR (rows.drop k2) ≤ 1000000 ∧ Hid (jn tb.data.toList (rows.drop k2) = J))
              case atStart => exact ⟨k' + 1, by omega, by omega, by go_num, by omega, hW7, hbt, HQ0.out⟩
              case round =>
                clear hW7
                obtain ⟨k2, hk1, hk2, rfl, hf3, hW, hbt2, HQ⟩ := hrel
                obtain ⟨d0, d1, f0⟩ := hW.rd
                by_cases hl2 : k2 < rows.length
                · obtain ⟨b2, o2, e2, hx2⟩ := (HR.out.below' HB3.out hW.1 hsz) k2 hl2
                  injection e2 with e2; injection e2 with e2 e3; subst e2; subst e3
                  have hd2 : rows.drop k2 = rows[k2] :: rows.drop (k2 + 1) := List.drop_eq_getElem_cons hl2
                  generalize hxe : rows[k2] = x2 at *
                  rw [hd2] at hbt2
                  simp only [bulkR] at hbt2
                  have HD2 := Lib.hid hd2; clear hd2 hxe
                  have hx2s : (⟨x2.toArray⟩ : ByteArray).size ≤ 9223372036854775807 := by show x2.length ≤ _; omega
                  cases hr2 : isRemark x2 with
                  | true =>
                    have HN := Lib.hid (show jn tb.data.toList (rows.drop (k2 + 1)) = J by rw [← HQ.out, HD2.out, jn_step HG.out hr2])
                    have HR2 := Lib.hid hr2; clear hr2
                    go_wp2_with (go_at_call 45; refine (remarkR_any _ _ hx2s _ HR2.out).mono ?_; rintro e w' ⟨rfl, rfl⟩)
                    go_roundg (rows.length - k2)
                    case measure => omega
                    case rel => exact ⟨k2 + 1, by omega, by omega, by go_num, by omega, hW, by omega, HN⟩
                  | false =>
                    have HN := Lib.hid (show jn (nb ++ (⟨x2.toArray⟩ : ByteArray)).data.toList (rows.drop (k2 + 1)) = J by
                      rw [← HQ.out, HD2.out, jn_take HG.out hr2, Joins.data_append, HNb.out])
                    have HR2 := Lib.hid hr2; clear hr2
                    have hW8 := hW.set (nb ++ (⟨x2.toArray⟩ : ByteArray))
                    have hns : (nb ++ (⟨x2.toArray⟩ : ByteArray)).size = nb.size + x2.length := by rw [ByteArray.size_append]; rfl
                    have hns' : (nb ++ (⟨x2.toArray⟩ : ByteArray)).size ≤ tb.size + x2.length := by rw [hns, HNs.out]; omega
                    have hnb' : nb.size ≤ 1000000 := by rw [HNs.out]; omega
                    clear hns
                    have HW8 := Lib.hid hW8; clear hW8
                    go_wp2_with (go_at_call 45; refine (remarkR_any _ _ hx2s _ HR2.out).mono ?_; rintro e w' ⟨rfl, rfl⟩)
                    go_region
                    all_goals
                      go_wp2_with fail
                      go_roundg (rows.length - k')
                      case measure => omega
                      case rel => exact ⟨k2, nb ++ (⟨x2.toArray⟩ : ByteArray), by omega, by omega, rfl, by omega, (by first | exact HW8.out | exact HW8.out.drew), by omega, by omega, HN⟩
                · have : k2 = rows.length := by omega
                  subst this
                  have HN := Lib.hid (show jn nb.data.toList (rows.drop (rows.length + 1)) = J by
                    have h0 : rows.drop rows.length = [] := List.drop_length
                    rw [List.drop_eq_nil_of_le (by omega), ← HQ.out, h0, jn_end HG.out, HNb.out, jn_stay (goesOn_blank _)])
                  have HE := Lib.hid (show goesOn nb.data.toList = false by rw [HNb.out]; exact goesOn_blank _)
                  have hb0 : bulkR (rows.drop (rows.length + 1)) = 0 := by rw [List.drop_eq_nil_of_le (by omega)]; rfl
                  have hnb' : nb.size + bulkR (rows.drop (rows.length + 1)) ≤ 1000000 := by rw [HNs.out, hb0]; omega
                  clear hb0
                  go_wp2_with fail
                  go_roundg (rows.length - k')
                  case measure => omega
                  case rel => exact ⟨rows.length, nb, by omega, by omega, rfl, by omega, hW, hnb', (fun _ => HE.out), HN⟩
    · have hd : rows.drop k = [] := List.drop_eq_nil_of_le (by omega)
      have HN := Lib.hid (show done = ws by rw [← Hq.out, hd, wholes_nil, List.append_nil])
      clear hd
      go_wp2_with fail
      go_ret
      exact ⟨HB2.out.trans (HB.out.mono HB2.out.size), _, rfl, by rw [← HN.out]; exact ownsRow_mono' Hown.out HB2.out.size⟩
end Go.Proofs.YtbgjpglnikbflaaDoor
