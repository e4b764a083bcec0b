import Derived.Test.YtcaamakodneplaaGreatGraphPack5

/-
  matinslaw15: GraphDefault, walked.
-/
namespace Go.Proofs.YtcaamakodneplaaGreat
open Go Go.RowKit Go.Sort Go.BigFrame
set_option linter.unusedVariables false
set_option linter.unusedSimpArgs false
set_option maxRecDepth 100000

/-- How often a name stands among loaded units. -/
def cntS (x : LdS) (l : List LdS) : Nat := (l.filter fun y => y.name == x.name).length
theorem cnt_snoc (x : LdS) (l : List LdS) (j : Nat) (h : j < l.length) : cntS x (l.take (j + 1)) = cntS x (l.take j) + (if (l[j].name == x.name) = true then 1 else 0) := by
  unfold cntS
  rw [List.take_succ_eq_append_getElem h, List.filter_append, List.length_append]
  cases hc : l[j].name == x.name <;> simp [List.filter, hc]
theorem cnt_le (x : LdS) (l : List LdS) (j : Nat) : cntS x (l.take j) ≤ l.length := by
  refine Nat.le_trans (List.length_filter_le _ _) ?_
  rw [List.length_take]; omega
theorem cnt_one {x : LdS} {l : List LdS} (hx : x ∈ l) (h : cntS x l = 1) : ∀ y ∈ l, y.name = x.name → y = x := by
  intro y hy he
  unfold cntS at h
  obtain ⟨z, hz⟩ := List.length_eq_one_iff.1 h
  have h1 : y ∈ l.filter fun y => y.name == x.name := List.mem_filter.2 ⟨hy, by simp [he]⟩
  have h2 : x ∈ l.filter fun y => y.name == x.name := List.mem_filter.2 ⟨hx, by simp⟩
  rw [hz] at h1 h2
  simp at h1 h2
  rw [h1, h2]

set_option maxHeartbeats 2000000 in
theorem default_walk (oa : Option Addr) (cap : Nat) (l : List LdS) (n : Int) (w : World) (hm : MaxAt w) (hR : LdsRd w oa l) (hl : l.length ≤ 1048576) :
    Calls Tryz.prog 7 #[.slice oa l.length cap, .int .i64 n] w fun e w' => e = .returned (.bool true) ∧ Below w.heap.size w w' := by
  have HM := Lib.hid hm; have HR := Lib.hid hR; have HL := Lib.hid hl
  clear hm hR hl
  go_enter Tryz.func7, Tryz.ntmps7
  go_wp2_with fail
  refine (shown_any w HM.out).mono ?_
  rintro e w1 ⟨rfl, hb1⟩
  have HB1 := Lib.hid hb1
  clear hb1
  go_wp2_with fail
  refine (sound_any oa cap l w1 (HR.out.below HB1.out) (by have := HL.out; omega) _ rfl).mono ?_
  rintro e w2 ⟨rfl, hb2⟩
  have HB2 := Lib.hid (HB1.out.trans (hb2.mono HB1.out.size))
  clear hb2 HB1
  have HC := Lib.hid (fun V (h : Below w2.heap.size w2 V) => show MaxAt V ∧ LdsRd V oa l from ⟨HM.out.below (HB2.out.trans (h.mono HB2.out.size)), HR.out.below (HB2.out.trans (h.mono HB2.out.size))⟩)
  clear HM HR
  cases hsb : soundB l with
  | false =>
    clear hsb
    go_wp2_with fail
    go_ret
    exact ⟨rfl, HB2.out⟩
  | true =>
    have HSB := Lib.hid (soundB_true hsb)
    clear hsb
    by_cases h64 : (64 : Int) < (l.length : Int)
    · go_wp2_with fail
      go_ret
      exact ⟨rfl, HB2.out⟩
    · have HL64 := Lib.hid (show l.length ≤ 64 by omega)
      by_cases h0 : l.length = 0
      · have q0 : ((l.length : Int) == 0) = true := by rw [beq_iff_eq]; omega
        have q1 : ¬ ((64 : Int) < (l.length : Int) ∧ ((l.length : Int) == 0) = false) := by rw [q0]; simp
        go_wp2_with fail
        go_ret
        exact ⟨rfl, HB2.out⟩
      · have q0 : ((l.length : Int) == 0) = false := by rw [beq_eq_false_iff_ne]; omega
        obtain ⟨m, hm0, hm⟩ := mask_i64 n 65535 (by omega)
        obtain ⟨k, hk, hkm⟩ : ∃ k : Nat, k < l.length ∧ (m : Int).tmod (l.length : Int) = (k : Int) := ⟨m % l.length, Nat.mod_lt _ (by omega), by rw [Int.tmod_eq_emod_of_nonneg (by omega)]; omega⟩
        obtain ⟨b, o, cs, rfl, hblt, hcc, hld⟩ := (HC.out w2 (Below.refl _ _)).2 k hk
        obtain ⟨x, hx⟩ : ∃ x, x = l[k] := ⟨_, rfl⟩
        rw [← hx] at hld
        have HXE := Lib.hid (show x ∈ l by rw [hx]; exact List.getElem_mem hk)
        have i5 : (k : Int) < (l.length : Int) := by omega
        have HCC := Lib.hid hcc
        have HLD := Lib.hid hld
        have HZ := Lib.hid (And.intro hld.size hld.one)
        change bits BinOp.and IntKind.i64 n 65535 = (m : Int) at hm
        clear hcc hld hx
        go_wp2_with (first
          | (refine l_load_at rfl 53 _ b (o + k * 42) cs _ rfl rfl HCC.out rfl rfl (by rw [HZ.out.1]; rfl) ?_)
          | (refine l_alloc rfl 53 loadedZero rfl (run_alloc_loaded _) ?_; intro w3 h3 hb3)
          | (refine l_store rfl 53 _ _ w2.heap.size cs loadedZero 53 rfl rfl rfl h3 (by rw [HZ.out.1]; rfl) (by rw [HZ.out.1]; rfl) HZ.out.2 ?_; intro w4 h4 hf4))
        have H44 := Lib.hid (show Below w2.heap.size w2 w4 from hb3.trans (hf4.below _ hb3.size (fun k hk e => by omega)))
        have HB4 := Lib.hid (show Below w.heap.size w w4 from HB2.out.trans (H44.out.mono HB2.out.size))
        have HC4 := Lib.hid (fun V (h : Below w4.heap.size w4 V) => show MaxAt V ∧ LdsRd V (some ⟨b, o, none⟩) l from HC.out V (H44.out.trans (h.mono H44.out.size)))
        have HXC := Lib.hid (fun V (h : Below w4.heap.size w4 V) => show ∀ j v, cs[j]? = some v → V.cell? ⟨w2.heap.size, j, none⟩ = some v from fun j v hj => by rw [h.cell (lt_heap h4), (rd h4).1 j]; exact hj)
        have HL4 := Lib.hid (HLD.out.below H44.out)
        generalize w2.heap.size = X at *
        clear h3 hb3 h4 hf4 HC HLD HCC H44 hm hkm hm0
        have HXF := Lib.hid (fun V (h : Below w4.heap.size w4 V) => show V.cell? ⟨X, 0, none⟩ = some (.string ⟨x.name.toArray⟩) ∧ V.cell? ⟨X, 1, none⟩ = some (.int .i64 x.state) from ⟨HXC.out V h 0 _ HL4.out.name, HXC.out V h 1 _ HL4.out.state⟩)
        have HXG := Lib.hid (fun V (h : Below w4.heap.size w4 V) => show ∃ v1 v2 v3 v4 c1 c2 c3 c4, V.cell? ⟨X, 8, none⟩ = some (.bool x.dflt) ∧ V.cell? ⟨X, 9, none⟩ = some (.slice v1 x.rels.length c1) ∧ V.cell? ⟨X, 25, none⟩ = some (.slice v2 x.socks.length c2) ∧ V.cell? ⟨X, 40, none⟩ = some (.slice v3 x.wants.length c3) ∧ V.cell? ⟨X, 41, none⟩ = some (.slice v4 x.reqs.length c4) from by
          obtain ⟨_, e1, ⟨⟨v1, c1, rfl, _⟩⟩⟩ := HL4.out.rels
          obtain ⟨_, e2, ⟨⟨v2, c2, rfl, _⟩⟩⟩ := HL4.out.socks
          obtain ⟨_, e3, ⟨⟨v3, c3, rfl, _⟩⟩⟩ := HL4.out.wants
          obtain ⟨_, e4, ⟨⟨v4, c4, rfl, _⟩⟩⟩ := HL4.out.reqs
          exact ⟨v1, v2, v3, v4, c1, c2, c3, c4, HXC.out V h 8 _ HL4.out.dflt, HXC.out V h 9 _ e1, HXC.out V h 25 _ e2, HXC.out V h 40 _ e3, HXC.out V h 41 _ e4⟩)
        go_loopg [43, 6] (l.length + 1) (fun f i n wr => ∃ j : Nat, j ≤ l.length ∧ i = .int .i64 j ∧ n = .int .i64 (cntS x (l.take j)) ∧ l.length - j < f ∧ Hid (Below w4.heap.size w4 wr))
        case atStart => exact ⟨0, by omega, rfl, rfl, by omega, Below.refl _ _⟩
        case round =>
          obtain ⟨j, hj, rfl, rfl, hfu, Hb⟩ := hrel
          by_cases hlt : j < l.length
          · obtain ⟨b2, o2, cy, e2, hblt2, hcc2, hld2⟩ := (HC4.out wr Hb.out).2 j hlt
            obtain ⟨rfl, rfl⟩ : b = b2 ∧ o = o2 := by simpa using e2
            obtain ⟨y, hy⟩ : ∃ y, y = l[j] := ⟨_, rfl⟩
            rw [← hy] at hld2
            have HCN := Lib.hid (cnt_snoc x l j hlt)
            rw [← hy] at HCN
            have i6 : (j : Int) < (l.length : Int) := by omega
            have HCY := Lib.hid hcc2
            have HLY := Lib.hid hld2
            have HZY := Lib.hid (And.intro hld2.size hld2.one)
            have hcl := cnt_le x l j
            have n1 : IntKind.i64.wrap ((cntS x (l.take j) : Int) + 1) = (cntS x (l.take j) : Int) + 1 := IntWalk.i64_in _ (by have := HL64.out; omega)
            generalize cntS x (l.take j) = ct at *
            clear hcc2 hld2 hy e2 hcl
            cases hnm : (y.name == x.name) with
            | false =>
              go_wp2_with (first
                | (refine l_load_at rfl 53 _ b (o + j * 42) cy _ rfl rfl HCY.out rfl rfl (by rw [HZY.out.1]; rfl) ?_)
                | (refine l_alloc rfl 53 loadedZero rfl (run_alloc_loaded _) ?_; intro w5 h5 hb5)
                | (refine l_store rfl 53 _ _ wr.heap.size cy loadedZero 53 rfl rfl rfl h5 (by rw [HZY.out.1]; rfl) (by rw [HZY.out.1]; rfl) HZY.out.2 ?_
                   intro w6 h6 hf6
                   have H66 := Lib.hid (show Below wr.heap.size wr w6 from hb5.trans (hf6.below _ hb5.size (fun k hk e => by omega)))
                   have HB6 := Lib.hid (show Below w4.heap.size w4 w6 from Hb.out.trans (H66.out.mono Hb.out.size))
                   have q0 : w6.cell? ⟨wr.heap.size, 0, none⟩ = some (.string ⟨y.name.toArray⟩) := by rw [(rd h6).1 0]; exact HLY.out.name
                   obtain ⟨q2, q3⟩ := HXF.out w6 HB6.out
                   clear h5 hb5 h6 hf6 HLY HCY))
              go_roundg (gk - 1)
              case measure => omega
              case rel => exact ⟨j + 1, by omega, by go_num, by rw [HCN.out, hnm]; simp, by omega, HB6⟩
            | true =>
              go_wp2_with (first
                | (refine l_load_at rfl 53 _ b (o + j * 42) cy _ rfl rfl HCY.out rfl rfl (by rw [HZY.out.1]; rfl) ?_)
                | (refine l_alloc rfl 53 loadedZero rfl (run_alloc_loaded _) ?_; intro w5 h5 hb5)
                | (refine l_store rfl 53 _ _ wr.heap.size cy loadedZero 53 rfl rfl rfl h5 (by rw [HZY.out.1]; rfl) (by rw [HZY.out.1]; rfl) HZY.out.2 ?_
                   intro w6 h6 hf6
                   have H66 := Lib.hid (show Below wr.heap.size wr w6 from hb5.trans (hf6.below _ hb5.size (fun k hk e => by omega)))
                   have HB6 := Lib.hid (show Below w4.heap.size w4 w6 from Hb.out.trans (H66.out.mono Hb.out.size))
                   have q0 : w6.cell? ⟨wr.heap.size, 0, none⟩ = some (.string ⟨y.name.toArray⟩) := by rw [(rd h6).1 0]; exact HLY.out.name
                   obtain ⟨q2, q3⟩ := HXF.out w6 HB6.out
                   clear h5 hb5 h6 hf6 HLY HCY))
              go_roundg (gk - 1)
              case measure => omega
              case rel => exact ⟨j + 1, by omega, by go_num, by rw [HCN.out, hnm]; simp, by omega, HB6⟩
          · have hj2 : j = l.length := by omega
            subst hj2
            have HCT := Lib.hid (show cntS x (l.take l.length) = cntS x l by rw [List.take_of_length_le (Nat.le_refl _)])
            have hcl := cnt_le x l l.length
            rw [HCT.out] at hcl ⊢
            clear hfu HCT
            obtain ⟨q2, q3⟩ := HXF.out wr Hb.out
            go_wp2_with fail
            refine (of_any ⟨x.name.toArray⟩ wr (ofS x.name) rfl).mono ?_
            rintro e wo ⟨rfl, hbo⟩
            simp only [ofS_kind]
            have hfc := field_cut (.int .i64 (kindS x.name : Nat)) (.string ⟨(ofS x.name).pre.toArray⟩) (.string ⟨(ofS x.name).inst.toArray⟩) (.bool (ofS x.name).at_) rfl
            have HBo := Lib.hid (Hb.out.trans (hbo.mono Hb.out.size))
            clear hbo q2 q3
            obtain ⟨q2, q3⟩ := HXF.out wo HBo.out
            cases hn1 : ((cntS x l : Int) != 1) with
            | true =>
              go_wp2_with fail
              go_ret
              exact ⟨rfl, HB4.out.trans (HBo.out.mono HB4.out.size)⟩
            | false =>
              cases hs1 : (x.state != 1) with
              | true =>
                go_wp2_with fail
                go_ret
                exact ⟨rfl, HB4.out.trans (HBo.out.mono HB4.out.size)⟩
              | false =>
                cases hk0 : ((kindS x.name : Int) == 0) with
                | true =>
                  go_wp2_with fail
                  go_ret
                  exact ⟨rfl, HB4.out.trans (HBo.out.mono HB4.out.size)⟩
                | false =>
                  have hx1 : x.state = 1 := by simpa [bne] using hs1
                  have hkk : kindS x.name ≠ 0 := by intro e; rw [e] at hk0; cases hk0
                  have hct : cntS x l = 1 := by have : (cntS x l : Int) = 1 := by simpa [bne] using hn1
                                                omega
                  have HTAB := Lib.hid (in_table HL64.out (first_once HXE.out hkk (cnt_one HXE.out hct)) hx1)
                  have HST := Lib.hid hx1
                  have HWW := Lib.hid (wakU_sound (HSB.out.1 x HXE.out hx1))
                  clear hx1 hkk hct
                  go_wp2_with fail
                  clear q2 q3 hn1 hs1 hk0 hfc Hb
                  refine (gof_any _ cap l wo (HC4.out wo HBo.out).2 (by have := HL64.out; omega) (HC4.out wo HBo.out).1).mono ?_
                  rintro e wg ⟨vn, ve, rfl, hn, he, hbg⟩
                  obtain ⟨on, cn, rfl⟩ := ownsRow_form hn
                  obtain ⟨oe, ce, rfl⟩ := ownsRow_form he
                  have HN := Lib.hid (RowRd.of_own (enc := encN) (k := 3) (fun _ => rfl) hn)
                  have HE := Lib.hid (RowRd.of_own (enc := encE) (k := 3) (fun _ => rfl) he)
                  have HBG := Lib.hid (HBo.out.trans (hbg.mono HBo.out.size))
                  have HLE := Lib.hid (edges_len l)
                  have HLN := Lib.hid (nodes_len l)
                  clear hn he hbg
                  obtain ⟨ns, hns⟩ : ∃ ns, ns = nodesS l := ⟨_, rfl⟩
                  obtain ⟨es, hes⟩ : ∃ es, es = edgesS l := ⟨_, rfl⟩
                  rw [← hns] at HN HLN
                  rw [← hes] at HE HLE
                  simp only [← hns, ← hes]
                  have HNS := Lib.hid hns; have HES := Lib.hid hes
                  clear hns hes
                  clear HBo
                  obtain ⟨nx, hnx⟩ := nodeRes_some (nodeOf ns sFirst)
                  obtain ⟨sy, hsy⟩ : ∃ sy, sy = (nodeOf ns sFirst).isSome := ⟨_, rfl⟩
                  rw [← hsy] at hnx
                  have HSY := Lib.hid hsy
                  obtain ⟨nz, hnz⟩ := nodeRes_some (nodeOf ns sLast)
                  obtain ⟨sh, hsh⟩ : ∃ sh, sh = (nodeOf ns sLast).isSome := ⟨_, rfl⟩
                  rw [← hsh] at hnz
                  have HSH := Lib.hid hsh
                  have HNX := Lib.hid hnx; have HNZ := Lib.hid hnz
                  clear hnx hnz hsy hsh
                  obtain ⟨g0, g1⟩ : (wg.alloc (.cells #[.slice on ns.length cn, .slice oe es.length ce] 29)).cell? ⟨wg.heap.size, 0, none⟩ = some (.slice on ns.length cn) ∧ (wg.alloc (.cells #[.slice on ns.length cn, .slice oe es.length ce] 29)).cell? ⟨wg.heap.size, 1, none⟩ = some (.slice oe es.length ce) := cells2 (heap_alloc_new wg (.cells #[.slice on ns.length cn, .slice oe es.length ce] 29))
                  go_wp2_with fail
                  have HG := Lib.hid (heap_alloc_new wg (.cells #[.slice on ns.length cn, .slice oe es.length ce] 29))
                  have hbb := (Below.refl wg.heap.size wg).alloc (Nat.le_refl _) (.cells #[.slice on ns.length cn, .slice oe es.length ce] 29)
                  generalize wg.alloc (.cells #[.slice on ns.length cn, .slice oe es.length ce] 29) = wb at *
                  have HBB := Lib.hid (HBG.out.trans (hbb.mono HBG.out.size))
                  have HRR := Lib.hid (fun V (h : Below wb.heap.size wb V) => show RowRd encN 3 V on ns ∧ RowRd encE 3 V oe es from ⟨(HN.out.below hbb).below h, (HE.out.below hbb).below h⟩)
                  generalize wg.heap.size = G at *
                  clear hbb HN HE HBG
                  clear g0 g1
                  refine (node_any on cn ns _ rfl ⟨sFirst.toArray⟩ wb (HRR.out wb (Below.refl _ _)).1 (by have := HLN.out; omega) _ rfl).mono ?_
                  rintro e wn ⟨rfl, hbn⟩
                  rw [show nodeRes (nodeOf ns (⟨sFirst.toArray⟩ : ByteArray).data.toList) = _ from HNX.out]
                  have HBN := Lib.hid hbn
                  have HGN := Lib.hid (heap_below HG.out hbn)
                  obtain ⟨a0, a1⟩ := cells2_alloc HGN.out (.cells #[.string ⟨nx.name.toArray⟩, .int .i64 nx.kind, .int .i64 nx.state] 32)
                  clear hbn HG
                  go_wp2_with fail
                  have HBM := Lib.hid (show Below wb.heap.size wb (wn.alloc (.cells #[.string ⟨nx.name.toArray⟩, .int .i64 nx.kind, .int .i64 nx.state] 32)) from HBN.out.alloc HBN.out.size _)
                  have HGM := Lib.hid (heap_below HGN.out ((Below.refl wn.heap.size wn).alloc (Nat.le_refl _) (.cells #[.string ⟨nx.name.toArray⟩, .int .i64 nx.kind, .int .i64 nx.state] 32)))
                  clear a0 a1 HBN HGN
                  generalize wn.alloc (.cells #[.string ⟨nx.name.toArray⟩, .int .i64 nx.kind, .int .i64 nx.state] 32) = wm at *
                  refine (node_any on cn ns _ rfl ⟨sLast.toArray⟩ wm (HRR.out wm HBM.out).1 (by have := HLN.out; omega) _ rfl).mono ?_
                  rintro e wn2 ⟨rfl, hbn⟩
                  rw [show nodeRes (nodeOf ns (⟨sLast.toArray⟩ : ByteArray).data.toList) = _ from HNZ.out]
                  have HBN := Lib.hid (HBM.out.trans (hbn.mono HBM.out.size))
                  have HGN := Lib.hid (heap_below HGM.out hbn)
                  clear hbn HGM HBM
                  obtain ⟨a0, a1⟩ := cells2_alloc HGN.out (.cells #[.string ⟨nz.name.toArray⟩, .int .i64 nz.kind, .int .i64 nz.state] 32)
                  obtain ⟨q2, q3⟩ := HXF.out (wn2.alloc (.cells #[.string ⟨nz.name.toArray⟩, .int .i64 nz.kind, .int .i64 nz.state] 32)) ((HBB.out.trans (HBN.out.mono HBB.out.size)).alloc (HBB.out.trans (HBN.out.mono HBB.out.size)).size _)
                  go_wp2_with fail
                  have HALL := Lib.hid (fun V (h : Below (wn2.alloc (.cells #[.string ⟨nz.name.toArray⟩, .int .i64 nz.kind, .int .i64 nz.state] 32)).heap.size (wn2.alloc (.cells #[.string ⟨nz.name.toArray⟩, .int .i64 nz.kind, .int .i64 nz.state] 32)) V) => show (V.cell? ⟨G, 0, none⟩ = some (.slice on ns.length cn) ∧ V.cell? ⟨G, 1, none⟩ = some (.slice oe es.length ce)) ∧ (V.cell? ⟨X, 0, none⟩ = some (.string ⟨x.name.toArray⟩) ∧ V.cell? ⟨X, 1, none⟩ = some (.int .i64 x.state)) ∧ RowRd encE 3 V oe es ∧ Below w4.heap.size w4 V from by
                    have h1 : Below wn2.heap.size wn2 (wn2.alloc (.cells #[.string ⟨nz.name.toArray⟩, .int .i64 nz.kind, .int .i64 nz.state] 32)) := (Below.refl wn2.heap.size wn2).alloc (Nat.le_refl _) (.cells #[.string ⟨nz.name.toArray⟩, .int .i64 nz.kind, .int .i64 nz.state] 32)
                    have h2 : Below wn2.heap.size wn2 V := h1.trans (h.mono h1.size)
                    have h3 : Below wb.heap.size wb V := HBN.out.trans (h2.mono HBN.out.size)
                    have h4 : Below w4.heap.size w4 V := HBB.out.trans (h3.mono HBB.out.size)
                    exact ⟨cells2 (heap_below HGN.out h2), HXF.out V h4, (HRR.out V h3).2, h4⟩)
                  clear a0 a1 q2 q3 HBN HGN HRR HBB
                  generalize wn2.alloc (.cells #[.string ⟨nz.name.toArray⟩, .int .i64 nz.kind, .int .i64 nz.state] 32) = v0 at *
                  have HV0 := Lib.hid (Below.refl v0.heap.size v0)
                  obtain ⟨A, hA⟩ : ∃ A, (outS es x.name 8).contains sFirst = A := ⟨_, rfl⟩
                  obtain ⟨D, hD⟩ : ∃ D, (outS es x.name 1).contains sFirst = D := ⟨_, rfl⟩
                  obtain ⟨C, hC⟩ : ∃ C, (outS es x.name 6).contains sLast = C := ⟨_, rfl⟩
                  obtain ⟨F, hF⟩ : ∃ F, (outS es x.name 7).contains sLast = F := ⟨_, rfl⟩
                  have HA := Lib.hid hA; have HD := Lib.hid hD; have HCC := Lib.hid hC; have HF := Lib.hid hF
                  clear hA hD hC hF
                  refine (gout_txt oe ce es _ ⟨x.name.toArray⟩ 8 v0 (HALL.out v0 HV0.out).2.2.1 (by have := HLE.out; omega)).mono ?_
                  rintro e v1 ⟨oa, ca, rfl, hr, hbp⟩
                  have HRO := Lib.hid hr
                  have HV1 := Lib.hid (HV0.out.trans (hbp.mono HV0.out.size))
                  clear hr hbp
                  obtain ⟨⟨g0, g1⟩, ⟨q2, q3⟩, _⟩ := HALL.out v1 HV1.out
                  go_wp2_with fail
                  refine (has7_any oa _ ca (outS es x.name 8) ⟨sFirst.toArray⟩ v1 HRO.out rfl (by have := out_le es x.name 8; have := HLE.out; omega) A HA.out).mono ?_
                  rintro e wq ⟨rfl, hwq⟩
                  subst hwq
                  clear HRO
                  go_wp2_with fail
                  clear g0 g1 q2 q3
                  refine (gout_txt oe ce es _ ⟨x.name.toArray⟩ 1 v1 (HALL.out v1 HV1.out).2.2.1 (by have := HLE.out; omega)).mono ?_
                  rintro e v2 ⟨oa, ca, rfl, hr, hbp⟩
                  have HRO := Lib.hid hr
                  have HV2 := Lib.hid (HV1.out.trans (hbp.mono HV1.out.size))
                  clear hr hbp
                  obtain ⟨⟨g0, g1⟩, ⟨q2, q3⟩, _⟩ := HALL.out v2 HV2.out
                  go_wp2_with fail
                  refine (has7_any oa _ ca (outS es x.name 1) ⟨sFirst.toArray⟩ v2 HRO.out rfl (by have := out_le es x.name 1; have := HLE.out; omega) D HD.out).mono ?_
                  rintro e wq ⟨rfl, hwq⟩
                  subst hwq
                  clear HRO
                  go_wp2_with fail
                  clear g0 g1 q2 q3
                  refine (gout_txt oe ce es _ ⟨x.name.toArray⟩ 6 v2 (HALL.out v2 HV2.out).2.2.1 (by have := HLE.out; omega)).mono ?_
                  rintro e v3 ⟨oa, ca, rfl, hr, hbp⟩
                  have HRO := Lib.hid hr
                  have HV3 := Lib.hid (HV2.out.trans (hbp.mono HV2.out.size))
                  clear hr hbp
                  obtain ⟨⟨g0, g1⟩, ⟨q2, q3⟩, _⟩ := HALL.out v3 HV3.out
                  go_wp2_with fail
                  refine (has7_any oa _ ca (outS es x.name 6) ⟨sLast.toArray⟩ v3 HRO.out rfl (by have := out_le es x.name 6; have := HLE.out; omega) C HCC.out).mono ?_
                  rintro e wq ⟨rfl, hwq⟩
                  subst hwq
                  clear HRO
                  cases C with
                  | false =>
                    obtain ⟨r1, r2, r3, r4, c1, c2, c3, c4, q8, q9, q25, q40, q41⟩ := HXG.out v3 (HALL.out _ HV3.out).2.2.2
                    obtain ⟨⟨g0, g1⟩, ⟨q2, q3⟩, _⟩ := HALL.out v3 HV3.out
                    cases hd : x.dflt with
                    | false =>
                      rw [hd] at q8
                      have hsm := HL4.out.small
                      have b1 := hsm.rels; have b2 := hsm.socks; have b3 := hsm.wants; have b4 := hsm.reqs
                      clear hsm
                      have n1 : IntKind.i64.wrap ((x.rels.length : Int) + (x.socks.length : Int)) = (x.rels.length : Int) + (x.socks.length : Int) := IntWalk.i64_in _ (by omega)
                      have n2 : IntKind.i64.wrap ((x.rels.length : Int) + (x.socks.length : Int) + (x.reqs.length : Int)) = (x.rels.length : Int) + (x.socks.length : Int) + (x.reqs.length : Int) := IntWalk.i64_in _ (by omega)
                      have n3 : IntKind.i64.wrap ((x.rels.length : Int) + (x.socks.length : Int) + (x.reqs.length : Int) + (x.wants.length : Int)) = (x.rels.length : Int) + (x.socks.length : Int) + (x.reqs.length : Int) + (x.wants.length : Int) := IntWalk.i64_in _ (by omega)
                      by_cases hz : (0 : Int) < (x.rels.length : Int) + (x.socks.length : Int) + (x.reqs.length : Int) + (x.wants.length : Int)
                      · go_wp2_with fail
                        go_ret
                        exact ⟨rfl, HB4.out.trans ((HALL.out _ HV3.out).2.2.2.mono HB4.out.size)⟩
                      · have hz2 : x.rels.length = 0 ∧ x.socks.length = 0 ∧ x.reqs.length = 0 ∧ x.wants.length = 0 := by omega
                        have HZ2 := Lib.hid hz2
                        clear hz2
                        go_wp2_with (refine l_load_at_w (by first | rfl | (simp [Region.wanted, yielded]; omega)) 51 _ X 5 (unitOf cs) _ rfl rfl (fun i v hv => HXC.out _ (HALL.out _ HV3.out).2.2.2 _ _ (unitOf_some HZ.out.1 hv)) rfl rfl (by rw [unitOf_size HZ.out.1]; rfl) ?_)
                        refine (wakes_ld HL4.out v3 (HC4.out _ (HALL.out _ HV3.out).2.2.2).1).mono ?_
                        rintro e wk ⟨rfl, hbk⟩
                        have HWK := Lib.hid (HB4.out.trans (((HALL.out _ HV3.out).2.2.2.trans (hbk.mono (HALL.out _ HV3.out).2.2.2.size)).mono HB4.out.size))
                        clear hbk
                        obtain ⟨wt, hwt⟩ : ∃ t, t = wakU x := ⟨_, rfl⟩
                        rw [← hwt]
                        cases hem : List.isEmpty wt with
                        | false =>
                          clear hwt
                          go_wp2_with fail
                          go_ret
                          exact ⟨rfl, HWK.out⟩
                        | true =>
                          have hno := default_no HTAB.out HST.out (List.length_eq_zero_iff.1 HZ2.out.1) (List.length_eq_zero_iff.1 HZ2.out.2.1) (List.length_eq_zero_iff.1 HZ2.out.2.2.2) (List.length_eq_zero_iff.1 HZ2.out.2.2.1) (by rw [← HWW.out, ← hwt]; simpa using hem) (.inl hd)
                          rw [← HES.out] at hno
                          obtain rfl : A = false := HA.out.symm.trans (hno _ _)
                          obtain rfl : D = false := HD.out.symm.trans (hno _ _)
                          clear hwt hno
                          go_wp2_with fail
                          go_ret
                          exact ⟨rfl, HWK.out⟩
                    | true =>
                      rw [hd] at q8
                      cases hk4 : ((kindS x.name : Int) == 4) with
                      | true =>
                        have hkf : kindS x.name = 4 := by have : (kindS x.name : Int) = 4 := by simpa using hk4
                                                          omega
                        have HKF := Lib.hid hkf; clear hkf
                        have hsm := HL4.out.small
                        have b1 := hsm.rels; have b2 := hsm.socks; have b3 := hsm.wants; have b4 := hsm.reqs
                        clear hsm
                        have n1 : IntKind.i64.wrap ((x.rels.length : Int) + (x.socks.length : Int)) = (x.rels.length : Int) + (x.socks.length : Int) := IntWalk.i64_in _ (by omega)
                        have n2 : IntKind.i64.wrap ((x.rels.length : Int) + (x.socks.length : Int) + (x.reqs.length : Int)) = (x.rels.length : Int) + (x.socks.length : Int) + (x.reqs.length : Int) := IntWalk.i64_in _ (by omega)
                        have n3 : IntKind.i64.wrap ((x.rels.length : Int) + (x.socks.length : Int) + (x.reqs.length : Int) + (x.wants.length : Int)) = (x.rels.length : Int) + (x.socks.length : Int) + (x.reqs.length : Int) + (x.wants.length : Int) := IntWalk.i64_in _ (by omega)
                        by_cases hz : (0 : Int) < (x.rels.length : Int) + (x.socks.length : Int) + (x.reqs.length : Int) + (x.wants.length : Int)
                        · go_wp2_with fail
                          go_ret
                          exact ⟨rfl, HB4.out.trans ((HALL.out _ HV3.out).2.2.2.mono HB4.out.size)⟩
                        · have hz2 : x.rels.length = 0 ∧ x.socks.length = 0 ∧ x.reqs.length = 0 ∧ x.wants.length = 0 := by omega
                          have HZ2 := Lib.hid hz2
                          clear hz2
                          go_wp2_with (refine l_load_at_w (by first | rfl | (simp [Region.wanted, yielded]; omega)) 51 _ X 5 (unitOf cs) _ rfl rfl (fun i v hv => HXC.out _ (HALL.out _ HV3.out).2.2.2 _ _ (unitOf_some HZ.out.1 hv)) rfl rfl (by rw [unitOf_size HZ.out.1]; rfl) ?_)
                          refine (wakes_ld HL4.out v3 (HC4.out _ (HALL.out _ HV3.out).2.2.2).1).mono ?_
                          rintro e wk ⟨rfl, hbk⟩
                          have HWK := Lib.hid (HB4.out.trans (((HALL.out _ HV3.out).2.2.2.trans (hbk.mono (HALL.out _ HV3.out).2.2.2.size)).mono HB4.out.size))
                          clear hbk
                          obtain ⟨wt, hwt⟩ : ∃ t, t = wakU x := ⟨_, rfl⟩
                          rw [← hwt]
                          cases hem : List.isEmpty wt with
                          | false =>
                            clear hwt
                            go_wp2_with fail
                            go_ret
                            exact ⟨rfl, HWK.out⟩
                          | true =>
                            have hno := default_no HTAB.out HST.out (List.length_eq_zero_iff.1 HZ2.out.1) (List.length_eq_zero_iff.1 HZ2.out.2.1) (List.length_eq_zero_iff.1 HZ2.out.2.2.2) (List.length_eq_zero_iff.1 HZ2.out.2.2.1) (by rw [← HWW.out, ← hwt]; simpa using hem) (.inr HKF.out)
                            rw [← HES.out] at hno
                            obtain rfl : A = false := HA.out.symm.trans (hno _ _)
                            obtain rfl : D = false := HD.out.symm.trans (hno _ _)
                            clear hwt hno
                            go_wp2_with fail
                            go_ret
                            exact ⟨rfl, HWK.out⟩
                      | false =>
                        have hkf : kindS x.name ≠ 4 := by intro e; rw [e] at hk4; cases hk4
                        have hyes := fun {r : Int} {d : Str} h => default_yes (r := r) (d := d) HTAB.out HST.out hd hkf h
                        rw [← HES.out, ← HNS.out] at hyes
                        obtain rfl : A = sy := HA.out.symm.trans ((hyes (.inl ⟨rfl, rfl⟩)).trans HSY.out.symm)
                        have hc : false = sh := HCC.out.symm.trans ((hyes (.inr (.inl ⟨rfl, .inl rfl⟩))).trans HSH.out.symm)
                        subst hc
                        have e1 : (A == A) = true := by simp
                        cases hk1 : ((kindS x.name : Int) != 1) with
                        | true =>
                          clear hyes hkf
                          go_wp2_with fail
                          go_ret
                          exact ⟨rfl, HB4.out.trans ((HALL.out _ HV3.out).2.2.2.mono HB4.out.size)⟩
                        | false =>
                          obtain rfl : D = A := HD.out.symm.trans ((hyes (.inr (.inr ⟨by have : (kindS x.name : Int) = 1 := by simpa [bne] using hk1
                                                                                         omega, rfl, rfl⟩))).trans HSY.out.symm)
                          clear hyes hkf
                          go_wp2_with fail
                          go_ret
                          exact ⟨rfl, HB4.out.trans ((HALL.out _ HV3.out).2.2.2.mono HB4.out.size)⟩
                  | true =>
                    go_wp2_with fail
                    clear g0 g1 q2 q3
                    refine (gout_txt oe ce es _ ⟨x.name.toArray⟩ 7 v3 (HALL.out v3 HV3.out).2.2.1 (by have := HLE.out; omega)).mono ?_
                    rintro e v4 ⟨oa, ca, rfl, hr, hbp⟩
                    have HRO := Lib.hid hr
                    have HV4 := Lib.hid (HV3.out.trans (hbp.mono HV3.out.size))
                    clear hr hbp
                    obtain ⟨⟨g0, g1⟩, ⟨q2, q3⟩, _⟩ := HALL.out v4 HV4.out
                    go_wp2_with fail
                    refine (has7_any oa _ ca (outS es x.name 7) ⟨sLast.toArray⟩ v4 HRO.out rfl (by have := out_le es x.name 7; have := HLE.out; omega) F HF.out).mono ?_
                    rintro e wq ⟨rfl, hwq⟩
                    subst hwq
                    clear HRO
                    obtain ⟨r1, r2, r3, r4, c1, c2, c3, c4, q8, q9, q25, q40, q41⟩ := HXG.out v4 (HALL.out _ HV4.out).2.2.2
                    obtain ⟨⟨g0, g1⟩, ⟨q2, q3⟩, _⟩ := HALL.out v4 HV4.out
                    cases hd : x.dflt with
                    | false =>
                      rw [hd] at q8
                      have hsm := HL4.out.small
                      have b1 := hsm.rels; have b2 := hsm.socks; have b3 := hsm.wants; have b4 := hsm.reqs
                      clear hsm
                      have n1 : IntKind.i64.wrap ((x.rels.length : Int) + (x.socks.length : Int)) = (x.rels.length : Int) + (x.socks.length : Int) := IntWalk.i64_in _ (by omega)
                      have n2 : IntKind.i64.wrap ((x.rels.length : Int) + (x.socks.length : Int) + (x.reqs.length : Int)) = (x.rels.length : Int) + (x.socks.length : Int) + (x.reqs.length : Int) := IntWalk.i64_in _ (by omega)
                      have n3 : IntKind.i64.wrap ((x.rels.length : Int) + (x.socks.length : Int) + (x.reqs.length : Int) + (x.wants.length : Int)) = (x.rels.length : Int) + (x.socks.length : Int) + (x.reqs.length : Int) + (x.wants.length : Int) := IntWalk.i64_in _ (by omega)
                      by_cases hz : (0 : Int) < (x.rels.length : Int) + (x.socks.length : Int) + (x.reqs.length : Int) + (x.wants.length : Int)
                      · go_wp2_with fail
                        go_ret
                        exact ⟨rfl, HB4.out.trans ((HALL.out _ HV4.out).2.2.2.mono HB4.out.size)⟩
                      · have hz2 : x.rels.length = 0 ∧ x.socks.length = 0 ∧ x.reqs.length = 0 ∧ x.wants.length = 0 := by omega
                        have HZ2 := Lib.hid hz2
                        clear hz2
                        go_wp2_with (refine l_load_at_w (by first | rfl | (simp [Region.wanted, yielded]; omega)) 51 _ X 5 (unitOf cs) _ rfl rfl (fun i v hv => HXC.out _ (HALL.out _ HV4.out).2.2.2 _ _ (unitOf_some HZ.out.1 hv)) rfl rfl (by rw [unitOf_size HZ.out.1]; rfl) ?_)
                        refine (wakes_ld HL4.out v4 (HC4.out _ (HALL.out _ HV4.out).2.2.2).1).mono ?_
                        rintro e wk ⟨rfl, hbk⟩
                        have HWK := Lib.hid (HB4.out.trans (((HALL.out _ HV4.out).2.2.2.trans (hbk.mono (HALL.out _ HV4.out).2.2.2.size)).mono HB4.out.size))
                        clear hbk
                        obtain ⟨wt, hwt⟩ : ∃ t, t = wakU x := ⟨_, rfl⟩
                        rw [← hwt]
                        cases hem : List.isEmpty wt with
                        | false =>
                          clear hwt
                          go_wp2_with fail
                          go_ret
                          exact ⟨rfl, HWK.out⟩
                        | true =>
                          have hno := default_no HTAB.out HST.out (List.length_eq_zero_iff.1 HZ2.out.1) (List.length_eq_zero_iff.1 HZ2.out.2.1) (List.length_eq_zero_iff.1 HZ2.out.2.2.2) (List.length_eq_zero_iff.1 HZ2.out.2.2.1) (by rw [← HWW.out, ← hwt]; simpa using hem) (.inl hd)
                          rw [← HES.out] at hno
                          obtain rfl : A = false := HA.out.symm.trans (hno _ _)
                          obtain rfl : D = false := HD.out.symm.trans (hno _ _)
                          exact absurd (HCC.out.symm.trans (hno _ _)) (by decide)
                    | true =>
                      rw [hd] at q8
                      cases hk4 : ((kindS x.name : Int) == 4) with
                      | true =>
                        have hkf : kindS x.name = 4 := by have : (kindS x.name : Int) = 4 := by simpa using hk4
                                                          omega
                        have HKF := Lib.hid hkf; clear hkf
                        have hsm := HL4.out.small
                        have b1 := hsm.rels; have b2 := hsm.socks; have b3 := hsm.wants; have b4 := hsm.reqs
                        clear hsm
                        have n1 : IntKind.i64.wrap ((x.rels.length : Int) + (x.socks.length : Int)) = (x.rels.length : Int) + (x.socks.length : Int) := IntWalk.i64_in _ (by omega)
                        have n2 : IntKind.i64.wrap ((x.rels.length : Int) + (x.socks.length : Int) + (x.reqs.length : Int)) = (x.rels.length : Int) + (x.socks.length : Int) + (x.reqs.length : Int) := IntWalk.i64_in _ (by omega)
                        have n3 : IntKind.i64.wrap ((x.rels.length : Int) + (x.socks.length : Int) + (x.reqs.length : Int) + (x.wants.length : Int)) = (x.rels.length : Int) + (x.socks.length : Int) + (x.reqs.length : Int) + (x.wants.length : Int) := IntWalk.i64_in _ (by omega)
                        by_cases hz : (0 : Int) < (x.rels.length : Int) + (x.socks.length : Int) + (x.reqs.length : Int) + (x.wants.length : Int)
                        · go_wp2_with fail
                          go_ret
                          exact ⟨rfl, HB4.out.trans ((HALL.out _ HV4.out).2.2.2.mono HB4.out.size)⟩
                        · have hz2 : x.rels.length = 0 ∧ x.socks.length = 0 ∧ x.reqs.length = 0 ∧ x.wants.length = 0 := by omega
                          have HZ2 := Lib.hid hz2
                          clear hz2
                          go_wp2_with (refine l_load_at_w (by first | rfl | (simp [Region.wanted, yielded]; omega)) 51 _ X 5 (unitOf cs) _ rfl rfl (fun i v hv => HXC.out _ (HALL.out _ HV4.out).2.2.2 _ _ (unitOf_some HZ.out.1 hv)) rfl rfl (by rw [unitOf_size HZ.out.1]; rfl) ?_)
                          refine (wakes_ld HL4.out v4 (HC4.out _ (HALL.out _ HV4.out).2.2.2).1).mono ?_
                          rintro e wk ⟨rfl, hbk⟩
                          have HWK := Lib.hid (HB4.out.trans (((HALL.out _ HV4.out).2.2.2.trans (hbk.mono (HALL.out _ HV4.out).2.2.2.size)).mono HB4.out.size))
                          clear hbk
                          obtain ⟨wt, hwt⟩ : ∃ t, t = wakU x := ⟨_, rfl⟩
                          rw [← hwt]
                          cases hem : List.isEmpty wt with
                          | false =>
                            clear hwt
                            go_wp2_with fail
                            go_ret
                            exact ⟨rfl, HWK.out⟩
                          | true =>
                            have hno := default_no HTAB.out HST.out (List.length_eq_zero_iff.1 HZ2.out.1) (List.length_eq_zero_iff.1 HZ2.out.2.1) (List.length_eq_zero_iff.1 HZ2.out.2.2.2) (List.length_eq_zero_iff.1 HZ2.out.2.2.1) (by rw [← HWW.out, ← hwt]; simpa using hem) (.inr HKF.out)
                            rw [← HES.out] at hno
                            obtain rfl : A = false := HA.out.symm.trans (hno _ _)
                            obtain rfl : D = false := HD.out.symm.trans (hno _ _)
                            exact absurd (HCC.out.symm.trans (hno _ _)) (by decide)
                      | false =>
                        have hkf : kindS x.name ≠ 4 := by intro e; rw [e] at hk4; cases hk4
                        have hyes := fun {r : Int} {d : Str} h => default_yes (r := r) (d := d) HTAB.out HST.out hd hkf h
                        rw [← HES.out, ← HNS.out] at hyes
                        obtain rfl : A = sy := HA.out.symm.trans ((hyes (.inl ⟨rfl, rfl⟩)).trans HSY.out.symm)
                        have hc : true = sh := HCC.out.symm.trans ((hyes (.inr (.inl ⟨rfl, .inl rfl⟩))).trans HSH.out.symm)
                        subst hc
                        obtain rfl : F = true := HF.out.symm.trans ((hyes (.inr (.inl ⟨rfl, .inr rfl⟩))).trans HSH.out.symm)
                        have e1 : (A == A) = true := by simp
                        cases hk1 : ((kindS x.name : Int) != 1) with
                        | true =>
                          clear hyes hkf
                          go_wp2_with fail
                          go_ret
                          exact ⟨rfl, HB4.out.trans ((HALL.out _ HV4.out).2.2.2.mono HB4.out.size)⟩
                        | false =>
                          obtain rfl : D = A := HD.out.symm.trans ((hyes (.inr (.inr ⟨by have : (kindS x.name : Int) = 1 := by simpa [bne] using hk1
                                                                                         omega, rfl, rfl⟩))).trans HSY.out.symm)
                          clear hyes hkf
                          go_wp2_with fail
                          go_ret
                          exact ⟨rfl, HB4.out.trans ((HALL.out _ HV4.out).2.2.2.mono HB4.out.size)⟩
end Go.Proofs.YtcaamakodneplaaGreat

/-
  matinslaw15: GraphOwn, walked.
-/
namespace Go.Proofs.YtcaamakodneplaaGreat
open Go Go.RowKit Go.Sort Go.BigFrame
set_option linter.unusedVariables false
set_option linter.unusedSimpArgs false
set_option maxRecDepth 100000

/-- How GraphOwn stands, as its loop goes. -/
structure OwIn (w5 wr : World) (M G : Nat) (oa on oe : Option Addr) (cn ce : Nat) (l : List LdS) (ns : List NodeS) (es : List EdgeS) (seen : List Str) : Prop where
  fr : Fr (fun k => k = M) w5 wr
  map : MapOf strKey wr M (seen.map fun s => (s, Value.bool true))
  map0 : ∃ es c, w5.heap[M]? = some (.map es c)
  gbox0 : w5.heap[G]? = some (.cells #[.slice on ns.length cn, .slice oe es.length ce] 29 (0, 0))
  rn0 : RowRd encN 3 w5 on ns
  re0 : RowRd encE 3 w5 oe es
  rl0 : LdsRd w5 oa l
section
variable {w5 wr wr2 : World} {M G : Nat} {oa on oe : Option Addr} {cn ce : Nat} {l : List LdS} {ns : List NodeS} {es : List EdgeS} {seen : List Str}
theorem OwIn.below (h : OwIn w5 wr M G oa on oe cn ce l ns es seen) (hb : Below wr.heap.size wr wr2) : OwIn w5 wr2 M G oa on oe cn ce l ns es seen :=
  ⟨h.fr.trans (Fr.of_below hb _), h.map.below hb h.map.lt, h.map0, h.gbox0, h.rn0, h.re0, h.rl0⟩
theorem OwIn.put (h : OwIn w5 wr M G oa on oe cn ce l ns es seen) (hf : Fr (fun k => k = M) wr wr2) {s : Str} (hm : MapOf strKey wr2 M (seen.map (fun s => (s, Value.bool true)) ++ [(s, .bool true)])) : OwIn w5 wr2 M G oa on oe cn ce l ns es (seen ++ [s]) :=
  ⟨h.fr.trans hf, by rw [List.map_append]; exact hm, h.map0, h.gbox0, h.rn0, h.re0, h.rl0⟩
theorem OwIn.rn (h : OwIn w5 wr M G oa on oe cn ce l ns es seen) : RowRd encN 3 wr on ns := by obtain ⟨es, c, hb⟩ := h.map0; exact h.rn0.frm hb h.fr
theorem OwIn.re (h : OwIn w5 wr M G oa on oe cn ce l ns es seen) : RowRd encE 3 wr oe es := by obtain ⟨es, c, hb⟩ := h.map0; exact h.re0.frm hb h.fr
theorem OwIn.rl (h : OwIn w5 wr M G oa on oe cn ce l ns es seen) : LdsRd wr oa l := by obtain ⟨es, c, hb⟩ := h.map0; exact h.rl0.frm hb h.fr
theorem OwIn.gbox (h : OwIn w5 wr M G oa on oe cn ce l ns es seen) : wr.heap[G]? = some (.cells #[.slice on ns.length cn, .slice oe es.length ce] 29 (0, 0)) := by
  obtain ⟨es, c, hb⟩ := h.map0
  refine h.fr.heap h.gbox0 (fun e => ?_)
  have := h.gbox0
  rw [e, hb] at this
  cases this
theorem OwIn.g (h : OwIn w5 wr M G oa on oe cn ce l ns es seen) : wr.cell? ⟨G, 0, none⟩ = some (.slice on ns.length cn) ∧ wr.cell? ⟨G, 1, none⟩ = some (.slice oe es.length ce) := cells2 h.gbox
/-- Whether a name has been seen. -/
theorem OwIn.look (h : OwIn w5 wr M G oa on oe cn ce l ns es seen) (s : Str) : (Instr.lookup 42 (.map (some M)) (.string ⟨s.toArray⟩) false).run Tryz.prog wr = .ok (.bool (seen.contains s)) wr := by
  have K : KeyLaws Tryz.prog 9 strKey := strKeys Tryz.underlying9
  cases hc : seen.contains s with
  | true =>
    have hs : s ∈ seen := by simpa using hc
    exact look_some K Tryz.underlying42 h.map (List.mem_map.2 ⟨s, hs, rfl⟩) false
  | false =>
    refine look_none K Tryz.underlying42 h.map s (fun p hp e => ?_) (z := .bool false) rfl false
    obtain ⟨q, hq, rfl⟩ := List.mem_map.1 hp
    simp only at e
    subst e
    simp [hq] at hc
theorem OwIn.lay (h : OwIn w5 wr M G oa on oe cn ce l ns es seen) {s : Str} (hs : seen.contains s = false) :
    ∃ w', (Instr.mapUpdate 42 (.map (some M)) (.string ⟨s.toArray⟩) (.bool true)).run Tryz.prog wr = .ok () w' ∧ OwIn w5 w' M G oa on oe cn ce l ns es (seen ++ [s]) ∧ Fr (fun k => k = M) wr w' := by
  have K : KeyLaws Tryz.prog 9 strKey := strKeys Tryz.underlying9
  obtain ⟨w', h1, h2, h3⟩ := put_new K Tryz.underlying42 h.map s (fun p hp e => by
    obtain ⟨q, hq, rfl⟩ := List.mem_map.1 hp
    simp only at e
    subst e
    simp [hq] at hs) (.bool true)
  exact ⟨w', h1, h.put h3 h2, h3⟩
end
theorem firstsR_keep (l : List LdS) : ∀ (acc : List LdS) (x : LdS), x ∈ acc → x ∈ firstsR l acc := by
  induction l with
  | nil => intro acc x h; exact h
  | cons y r ih =>
    intro acc x h
    simp only [firstsR]
    split
    · exact ih _ _ h
    · exact ih _ _ (by simp [h])
/-- The names that were seen. -/
def seenS (l : List LdS) (k : Nat) : List Str := (firstsR (l.take k) []).map (·.name)
theorem any_names (l : List LdS) (s : Str) : (l.map (·.name)).contains s = l.any (fun y => y.name == s) := by
  rw [Bool.eq_iff_iff]
  simp
theorem seen_same {l : List LdS} {k : Nat} (h : k < l.length) (hs : (seenS l k).contains l[k].name = true ∨ kindS l[k].name = 0) : seenS l (k + 1) = seenS l k := by
  unfold seenS at *
  rw [firstsR_step l k h, if_pos]
  rw [any_names] at hs
  rcases hs with hs | hs
  · rw [hs]; rfl
  · rw [hs]; simp
theorem seen_more {l : List LdS} {k : Nat} (h : k < l.length) (hs : (seenS l k).contains l[k].name = false) (hk : kindS l[k].name ≠ 0) : seenS l (k + 1) = seenS l k ++ [l[k].name] ∧ l[k] ∈ firstsR l [] := by
  unfold seenS at *
  rw [any_names] at hs
  have e : firstsR (l.take (k + 1)) [] = firstsR (l.take k) [] ++ [l[k]] := by
    rw [firstsR_step l k h, if_neg]
    rw [hs]; simpa using hk
  refine ⟨by rw [e]; simp, ?_⟩
  have e2 : firstsR l [] = firstsR (l.drop (k + 1)) (firstsR (l.take (k + 1)) []) := by
    rw [← firstsR_append, List.take_append_drop]
  rw [e2, e]
  exact firstsR_keep _ _ _ (by simp)

set_option maxHeartbeats 2000000 in
theorem own_walk (oa : Option Addr) (cap : Nat) (l : List LdS) (w : World) (hm : MaxAt w) (hR : LdsRd w oa l) (hl : l.length ≤ 1048576) :
    Calls Tryz.prog 6 #[.slice oa l.length cap] w fun e w' => e = .returned (.bool true) ∧ Below w.heap.size w w' := by
  have HM := Lib.hid hm; have HR := Lib.hid hR; have HL := Lib.hid hl
  clear hm hR hl
  go_enter Tryz.func6, Tryz.ntmps6
  go_wp2_with fail
  refine (shown_any w HM.out).mono ?_
  rintro e w1 ⟨rfl, hb1⟩
  have HB1 := Lib.hid hb1
  clear hb1
  go_wp2_with fail
  refine (sound_any oa cap l w1 (HR.out.below HB1.out) (by have := HL.out; omega) _ rfl).mono ?_
  rintro e w2 ⟨rfl, hb2⟩
  have HB2 := Lib.hid (HB1.out.trans (hb2.mono HB1.out.size))
  clear hb2 HB1
  have HC := Lib.hid (fun V (h : Below w2.heap.size w2 V) => show MaxAt V ∧ LdsRd V oa l from ⟨HM.out.below (HB2.out.trans (h.mono HB2.out.size)), HR.out.below (HB2.out.trans (h.mono HB2.out.size))⟩)
  clear HM HR
  cases hsb : soundB l with
  | false =>
    clear hsb
    go_wp2_with fail
    go_ret
    exact ⟨rfl, HB2.out⟩
  | true =>
    have HSB := Lib.hid (soundB_true hsb)
    clear hsb
    by_cases h64 : (64 : Int) < (l.length : Int)
    · go_wp2_with fail
      go_ret
      exact ⟨rfl, HB2.out⟩
    · have HL64 := Lib.hid (show l.length ≤ 64 by omega)
      go_wp2_with fail
      refine (gof_any _ cap l w2 (HC.out w2 (Below.refl w2.heap.size w2)).2 (by have := HL64.out; omega) (HC.out w2 (Below.refl w2.heap.size w2)).1).mono ?_
      rintro e wg ⟨vn, ve, rfl, hn, he, hbg⟩
      obtain ⟨on, cn, rfl⟩ := ownsRow_form hn
      obtain ⟨oe, ce, rfl⟩ := ownsRow_form he
      have HN := Lib.hid (RowRd.of_own (enc := encN) (k := 3) (fun _ => rfl) hn)
      have HE := Lib.hid (RowRd.of_own (enc := encE) (k := 3) (fun _ => rfl) he)
      have HBG := Lib.hid hbg
      have HLE := Lib.hid (edges_len l)
      have HLN := Lib.hid (nodes_len l)
      clear hn he hbg
      obtain ⟨ns, hns⟩ : ∃ ns, ns = nodesS l := ⟨_, rfl⟩
      obtain ⟨es, hes⟩ : ∃ es, es = edgesS l := ⟨_, rfl⟩
      rw [← hns] at HN HLN
      rw [← hes] at HE HLE
      simp only [← hns, ← hes]
      have HNS := Lib.hid hns; have HES := Lib.hid hes
      clear hns hes
      have m1 := run_makeMap0 42
      go_wp2_with fail
      have HG0 := heap_alloc_new wg (.cells #[.slice on ns.length cn, .slice oe es.length ce] 29)
      have hbb := (Below.refl wg.heap.size wg).alloc (Nat.le_refl _) (.cells #[.slice on ns.length cn, .slice oe es.length ce] 29)
      have hzb : (wg.alloc (.cells #[.slice on ns.length cn, .slice oe es.length ce] 29)).heap.size = wg.heap.size + 1 := by simp
      generalize wg.alloc (.cells #[.slice on ns.length cn, .slice oe es.length ce] 29) = wb at *
      have hbm := (Below.refl wb.heap.size wb).alloc (Nat.le_refl _) (.map #[] 0)
      have HW := Lib.hid (show OwIn (wb.alloc (.map #[] 0)) (wb.alloc (.map #[] 0)) wb.heap.size wg.heap.size oa on oe cn ce l ns es (seenS l 0) from
        ⟨Fr.refl _ _, MapOf.made wb, ⟨_, _, heap_alloc_new wb _⟩, heap_below HG0 hbm, (HN.out.below hbb).below hbm, (HE.out.below hbb).below hbm, (((HC.out w2 (Below.refl _ _)).2.below HBG.out).below hbb).below hbm⟩)
      have HB5 := Lib.hid (show Below w.heap.size w (wb.alloc (.map #[] 0)) ∧ w.heap.size ≤ wb.heap.size from by
        have h1 : Below w.heap.size w wb := (HB2.out.trans (HBG.out.mono HB2.out.size)).trans (hbb.mono (HB2.out.trans (HBG.out.mono HB2.out.size)).size)
        exact ⟨h1.trans (hbm.mono h1.size), h1.size⟩)
      generalize wb.alloc (.map #[] 0) = w5 at *
      rw [hzb] at HW HB5
      generalize wg.heap.size + 1 = M at *
      generalize wg.heap.size = G at *
      clear hbb hbm HG0 hzb HN HE HBG HB2 HC m1
      go_loopg [28] (l.length + 1) (fun f i wr => ∃ k : Nat, k ≤ l.length ∧ i = .int .i64 k ∧ l.length - k < f ∧ Hid (OwIn w5 wr M G oa on oe cn ce l ns es (seenS l k)))
      case atStart => exact ⟨0, by omega, rfl, by omega, HW⟩
      case round =>
        obtain ⟨k, hk, rfl, hfu, HK⟩ := hrel
        clear HW
        by_cases hlt : k < l.length
        · obtain ⟨b, o, cs, rfl, hblt, hcc, hld⟩ := HK.out.rl k hlt
          obtain ⟨x, hx⟩ : ∃ x, x = l[k] := ⟨_, rfl⟩
          have HSA := Lib.hid (seen_same hlt); have HSM := Lib.hid (seen_more hlt)
          rw [← hx] at hld HSA HSM
          have i5 : (k : Int) < (l.length : Int) := by omega
          have HCY := Lib.hid hcc
          have HLY := Lib.hid hld
          have HZY := Lib.hid (And.intro hld.size hld.one)
          clear hcc hld hx
          generalize seenS l k = sn at *
          obtain ⟨c, hc⟩ : ∃ c, sn.contains x.name = c := ⟨_, rfl⟩
          have HCN := Lib.hid hc
          clear hc
          obtain ⟨gk0, rfl⟩ : ∃ g, g = gk := ⟨gk, rfl⟩
          cases c with
          | true =>
            have HS2 := Lib.hid (HSA.out (.inl HCN.out))
            go_wp2_with (first
              | (refine l_load_at rfl 53 _ b (o + k * 42) cs _ rfl rfl HCY.out rfl rfl (by rw [HZY.out.1]; rfl) ?_)
              | (refine l_alloc rfl 53 loadedZero rfl (run_alloc_loaded _) ?_; intro w3 h3 hb3)
              | (refine l_store rfl 53 _ _ wr.heap.size cs loadedZero 53 rfl rfl rfl h3 (by rw [HZY.out.1]; rfl) (by rw [HZY.out.1]; rfl) HZY.out.2 ?_
                 intro w6 h6 hf6
                 have h66 : Below wr.heap.size wr w6 := hb3.trans (hf6.below _ hb3.size (fun k hk e => by omega))
                 have HK6 := Lib.hid (HK.out.below h66)
                 have HXC := Lib.hid (fun V (h : Below w6.heap.size w6 V) => show ∀ j v, cs[j]? = some v → V.cell? ⟨wr.heap.size, j, none⟩ = some v from fun j v hj => by rw [h.cell (lt_heap h6), (rd h6).1 j]; exact hj)
                 have HL6 := Lib.hid (HLY.out.below h66)
                 have HXH := Lib.hid h6
                 have q0 : w6.cell? ⟨wr.heap.size, 0, none⟩ = some (.string ⟨x.name.toArray⟩) := by rw [(rd h6).1 0]; exact HLY.out.name
                 have hlk := HK6.out.look x.name
                 rw [HCN.out] at hlk
                 clear h3 hb3 h6 hf6 HLY HCY h66 HK))
            go_roundg (gk0 - 1)
            case measure => omega
            case rel => exact ⟨k + 1, by omega, by go_num, by omega, by rw [HS2.out]; exact HK6⟩
          | false =>
            go_wp2_with (first
              | (refine l_load_at rfl 53 _ b (o + k * 42) cs _ rfl rfl HCY.out rfl rfl (by rw [HZY.out.1]; rfl) ?_)
              | (refine l_alloc rfl 53 loadedZero rfl (run_alloc_loaded _) ?_; intro w3 h3 hb3)
              | (refine l_store rfl 53 _ _ wr.heap.size cs loadedZero 53 rfl rfl rfl h3 (by rw [HZY.out.1]; rfl) (by rw [HZY.out.1]; rfl) HZY.out.2 ?_
                 intro w6 h6 hf6
                 have h66 : Below wr.heap.size wr w6 := hb3.trans (hf6.below _ hb3.size (fun k hk e => by omega))
                 have HK6 := Lib.hid (HK.out.below h66)
                 have HXC := Lib.hid (fun V (h : Below w6.heap.size w6 V) => show ∀ j v, cs[j]? = some v → V.cell? ⟨wr.heap.size, j, none⟩ = some v from fun j v hj => by rw [h.cell (lt_heap h6), (rd h6).1 j]; exact hj)
                 have HL6 := Lib.hid (HLY.out.below h66)
                 have HXH := Lib.hid h6
                 have q0 : w6.cell? ⟨wr.heap.size, 0, none⟩ = some (.string ⟨x.name.toArray⟩) := by rw [(rd h6).1 0]; exact HLY.out.name
                 have hlk := HK6.out.look x.name
                 rw [HCN.out] at hlk
                 clear h3 hb3 h6 hf6 HLY HCY h66 HK))
            generalize wr.heap.size = X at *
            clear q0 hlk
            obtain ⟨my, hmy⟩ : ∃ b, decide (kindS x.name ≠ 0) = b := ⟨_, rfl⟩
            refine (may1_any ⟨x.name.toArray⟩ w6 my hmy).mono ?_
            rintro e w7 ⟨rfl, hb7⟩
            have HK7 := Lib.hid (HK6.out.below hb7)
            have HB7 := Lib.hid hb7
            clear hb7 HK6
            cases my with
            | false =>
              have HS2 := Lib.hid (HSA.out (.inr (by simpa using hmy)))
              clear hmy
              go_wp2_with fail
              go_roundg (gk0 - 1)
              case measure => omega
              case rel => exact ⟨k + 1, by omega, by go_num, by omega, by rw [HS2.out]; exact HK7⟩
            | true =>
              obtain ⟨hs1, hs2⟩ := HSM.out HCN.out (by simpa using hmy)
              have HS2 := Lib.hid hs1; have HFX := Lib.hid hs2
              obtain ⟨w8, hup, hk8, hf8⟩ := HK7.out.lay HCN.out
              have HK8 := Lib.hid hk8
              obtain ⟨mes, mcl, hm7⟩ : ∃ es c, w7.heap[M]? = some (.map es c) := by obtain ⟨es, c, h, _⟩ := HK7.out.map; exact ⟨es, c, h⟩
              have hX7 := HXC.out w7 HB7.out
              have q0 := hX7 0 _ HL6.out.name
              have HX8 := Lib.hid (fun V (h : Below w8.heap.size w8 V) => show ∀ j v, cs[j]? = some v → V.cell? ⟨X, j, none⟩ = some v from fun j v hj => by
                have h1 := cell_frm hm7 hf8 (hX7 j v hj)
                rw [h.cell (World.block_lt_of_cell? w8 _ h1)]; exact h1)
              have HL8 := Lib.hid ((HL6.out.below HB7.out).frm hm7 hf8)
              clear hmy hs1 hs2 hk8 hf8 hm7 hX7 HXC HL6 HK7 HXH HSA HSM
              obtain ⟨rv, hrv, ⟨⟨ra, rc, rfl, hrr⟩⟩⟩ := HL8.out.rels
              have HRR := Lib.hid hrr
              have q9 := HX8.out w8 (Below.refl _ _) 9 _ hrv
              have HRL := Lib.hid HL8.out.small.rels
              have HXF := Lib.hid (fun V (h : Below w8.heap.size w8 V) => show V.cell? ⟨X, 0, none⟩ = some (.string ⟨x.name.toArray⟩) ∧ V.cell? ⟨X, 1, none⟩ = some (.int .i64 x.state) from ⟨HX8.out V h 0 _ HL8.out.name, HX8.out V h 1 _ HL8.out.state⟩)
              clear hrr hrv
              go_wp2_with fail
              clear q0 q9 hup
              go_loopg [49] (x.rels.length + 1) (fun f i wv => ∃ j : Nat, j ≤ x.rels.length ∧ i = .int .i64 j ∧ x.rels.length - j < f ∧ Hid (Below w8.heap.size w8 wv))
              case atStart => exact ⟨0, by omega, rfl, by omega, Below.refl _ _⟩
              case round =>
                obtain ⟨j, hj, rfl, hfv, Hv⟩ := hrel
                by_cases hjl : j < x.rels.length
                · have hrb := HRL.out
                  obtain ⟨rb, ro, rfl, hrlt, hrc⟩ := (HRR.out.below Hv.out) j hjl
                  obtain ⟨r, hr⟩ : ∃ r, r = x.rels[j] := ⟨_, rfl⟩
                  rw [← hr] at hrc
                  have HRM := Lib.hid (show r ∈ x.rels by rw [hr]; exact List.getElem_mem hjl)
                  have d0 := hrc 0 _ rfl; have d1 := hrc 1 _ rfl
                  simp only [Nat.add_zero] at d0
                  have j5 : (j : Int) < (x.rels.length : Int) := by omega
                  have hba := (Below.refl wr.heap.size wr).alloc (Nat.le_refl _) (.cells #[.int .i64 r.kind, .string ⟨r.name.toArray⟩] 56)
                  obtain ⟨a0, a1⟩ := ((HK8.out.below Hv.out).below hba).g
                  clear hrc hr hba
                  go_wp2_with fail
                  have hba := (Below.refl wr.heap.size wr).alloc (Nat.le_refl _) (.cells #[.int .i64 r.kind, .string ⟨r.name.toArray⟩] 56)
                  have HRX := Lib.hid (heap_alloc_new wr (.cells #[.int .i64 r.kind, .string ⟨r.name.toArray⟩] 56))
                  clear d0 d1 a0 a1
                  generalize wr.alloc (.cells #[.int .i64 r.kind, .string ⟨r.name.toArray⟩] 56) = wa at *
                  have HVa := Lib.hid (Hv.out.trans (hba.mono Hv.out.size))
                  clear hba Hv
                  generalize wr.heap.size = R at *
                  obtain ⟨nx, hnx⟩ := nodeRes_some (nodeOf ns r.name)
                  obtain ⟨ok, hok⟩ : ∃ b, (nodeOf ns r.name).isSome = b := ⟨_, rfl⟩
                  rw [hok] at hnx
                  have HNX := Lib.hid hnx; have HOK := Lib.hid hok
                  clear hnx hok
                  refine (node_any on cn ns _ rfl ⟨r.name.toArray⟩ wa (HK8.out.below HVa.out).rn (by have := HLN.out; omega) _ rfl).mono ?_
                  rintro e wn ⟨rfl, hbn⟩
                  rw [show nodeRes (nodeOf ns (⟨r.name.toArray⟩ : ByteArray).data.toList) = _ from HNX.out]
                  have HVn := Lib.hid (HVa.out.trans (hbn.mono HVa.out.size))
                  have HRn := Lib.hid (heap_below HRX.out hbn)
                  clear hbn HRX HVa
                  have hbz := (Below.refl wn.heap.size wn).alloc (Nat.le_refl _) (.cells #[.string ⟨nx.name.toArray⟩, .int .i64 nx.kind, .int .i64 nx.state] 32)
                  obtain ⟨r0, r1⟩ := cells2 (heap_below HRn.out hbz)
                  obtain ⟨q0, q1⟩ := HXF.out _ (HVn.out.trans (hbz.mono HVn.out.size))
                  have HVZ := Lib.hid (HVn.out.trans (hbz.mono HVn.out.size))
                  have HRZ := Lib.hid (heap_below HRn.out hbz)
                  clear hbz HRn HVn
                  cases ok with
                  | false =>
                    go_wp2_with fail
                    go_roundg (gk - 1)
                    case measure => omega
                    case rel => exact ⟨j + 1, by omega, by go_num, by omega, HVZ⟩
                  | true =>
                    cases hs1 : (r.name == x.name) with
                    | true =>
                      go_wp2_with fail
                      go_roundg (gk - 1)
                      case measure => omega
                      case rel => exact ⟨j + 1, by omega, by go_num, by omega, HVZ⟩
                    | false =>
                      by_cases hs2 : r.kind < 1
                      · go_wp2_with fail
                        go_roundg (gk - 1)
                        case measure => omega
                        case rel => exact ⟨j + 1, by omega, by go_num, by omega, HVZ⟩
                      · by_cases hs3 : 9 < r.kind
                        · go_wp2_with fail
                          go_roundg (gk - 1)
                          case measure => omega
                          case rel => exact ⟨j + 1, by omega, by go_num, by omega, HVZ⟩
                        · cases hs4 : (x.state != 1) with
                          | true =>
                            go_wp2_with fail
                            go_roundg (gk - 1)
                            case measure => omega
                            case rel => exact ⟨j + 1, by omega, by go_num, by omega, HVZ⟩
                          | false =>
                            have hfin : (outS es x.name r.kind).contains r.name = true := by
                              rw [HES.out]
                              exact own_said HL64.out HFX.out HRM.out (by rw [← HNS.out]; exact HOK.out) (by simpa using hs1) (by omega) (by omega) (by simpa [bne] using hs4)
                            have HF := Lib.hid hfin
                            clear hfin
                            go_wp2_with fail
                            clear r0 r1 q0 q1
                            generalize wn.alloc (.cells #[.string ⟨nx.name.toArray⟩, .int .i64 nx.kind, .int .i64 nx.state] 32) = wz at *
                            have HQ := Lib.hid (fun V (h : Below wz.heap.size wz V) => show (V.cell? ⟨G, 0, none⟩ = some (.slice on ns.length cn) ∧ V.cell? ⟨G, 1, none⟩ = some (.slice oe es.length ce)) ∧ (V.cell? ⟨X, 0, none⟩ = some (.string ⟨x.name.toArray⟩) ∧ V.cell? ⟨X, 1, none⟩ = some (.int .i64 x.state)) ∧ V.cell? ⟨R, 0, none⟩ = some (.int .i64 r.kind) ∧ V.cell? ⟨R, 1, none⟩ = some (.string ⟨r.name.toArray⟩) from
                              ⟨((HK8.out.below HVZ.out).below h).g, HXF.out V (HVZ.out.trans (h.mono HVZ.out.size)), cells2 (heap_below HRZ.out h)⟩)
                            have HE3 := Lib.hid (fun V (h : Below wz.heap.size wz V) => ((HK8.out.below HVZ.out).below h).re)
                            have HLO := Lib.hid (out_le es x.name r.kind)
                            refine wp_region_held_drew (S := fun V => Below wz.heap.size wz V) (by kernel_rfl) (below_dn ⟨1, rfl⟩) (fun hHeld => ?_)
                            try simp only [Act.put, List.setIfInBounds_toArray, List.set_cons_zero, List.set_cons_succ]
                            refine wpAnyH_take (i := 0) (v := .agg #[.slice on ns.length cn, .slice oe es.length ce]) (List.getElem?_toArray.trans rfl) (by kernel_rfl) (by kernel_rfl) (by kernel_rfl) (fun _ _ _ h => h) (Or.inl ⟨by rfl, fun W hW => by obtain ⟨⟨q0, q1⟩, ⟨q2, q3⟩, q4, q5⟩ := HQ.out W hW; clear hW; go_simp⟩) (by assumption) ?_
                            try simp only [Act.put, List.setIfInBounds_toArray, List.set_cons_zero, List.set_cons_succ]
                            refine wpAnyH_take (i := 1) (v := .pointer (some ⟨X, 0, none⟩)) (List.getElem?_toArray.trans rfl) (by kernel_rfl) (by kernel_rfl) (by kernel_rfl) (fun _ _ _ h => h) (Or.inl ⟨by rfl, fun W hW => by obtain ⟨⟨q0, q1⟩, ⟨q2, q3⟩, q4, q5⟩ := HQ.out W hW; clear hW; go_simp⟩) (by assumption) ?_
                            try simp only [Act.put, List.setIfInBounds_toArray, List.set_cons_zero, List.set_cons_succ]
                            refine wpAnyH_take (i := 2) (v := .string ⟨x.name.toArray⟩) (List.getElem?_toArray.trans rfl) (by kernel_rfl) (by kernel_rfl) (by kernel_rfl) (fun _ _ _ h => h) (Or.inl ⟨by rfl, fun W hW => by obtain ⟨⟨q0, q1⟩, ⟨q2, q3⟩, q4, q5⟩ := HQ.out W hW; clear hW; go_simp⟩) (by assumption) ?_
                            try simp only [Act.put, List.setIfInBounds_toArray, List.set_cons_zero, List.set_cons_succ]
                            refine wpAnyH_take (i := 3) (v := .pointer (some ⟨R, 0, none⟩)) (List.getElem?_toArray.trans rfl) (by kernel_rfl) (by kernel_rfl) (by kernel_rfl) (fun _ _ _ h => h) (Or.inl ⟨by rfl, fun W hW => by obtain ⟨⟨q0, q1⟩, ⟨q2, q3⟩, q4, q5⟩ := HQ.out W hW; clear hW; go_simp⟩) (by assumption) ?_
                            try simp only [Act.put, List.setIfInBounds_toArray, List.set_cons_zero, List.set_cons_succ]
                            refine wpAnyH_take (i := 4) (v := .int .i64 r.kind) (List.getElem?_toArray.trans rfl) (by kernel_rfl) (by kernel_rfl) (by kernel_rfl) (fun _ _ _ h => h) (Or.inl ⟨by rfl, fun W hW => by obtain ⟨⟨q0, q1⟩, ⟨q2, q3⟩, q4, q5⟩ := HQ.out W hW; clear hW; go_simp⟩) (by assumption) ?_
                            try simp only [Act.put, List.setIfInBounds_toArray, List.set_cons_zero, List.set_cons_succ]
                            refine wpAnyH_take (i := 6) (v := .pointer (some ⟨R, 1, none⟩)) (List.getElem?_toArray.trans rfl) (by kernel_rfl) (by kernel_rfl) (by kernel_rfl) (fun _ _ _ h => h) (Or.inl ⟨by rfl, fun W hW => by obtain ⟨⟨q0, q1⟩, ⟨q2, q3⟩, q4, q5⟩ := HQ.out W hW; clear hW; go_simp⟩) (by assumption) ?_
                            try simp only [Act.put, List.setIfInBounds_toArray, List.set_cons_zero, List.set_cons_succ]
                            refine wpAnyH_take (i := 7) (v := .string ⟨r.name.toArray⟩) (List.getElem?_toArray.trans rfl) (by kernel_rfl) (by kernel_rfl) (by kernel_rfl) (fun _ _ _ h => h) (Or.inl ⟨by rfl, fun W hW => by obtain ⟨⟨q0, q1⟩, ⟨q2, q3⟩, q4, q5⟩ := HQ.out W hW; clear hW; go_simp⟩) (by assumption) ?_
                            try simp only [Act.put, List.setIfInBounds_toArray, List.set_cons_zero, List.set_cons_succ]
                            have hv1 := hHeld
                            refine wpAnyH_ready (rs := [5]) (by kernel_rfl) (by simp) (AllReadyH.cons (List.getElem?_toArray.trans rfl) (fun K hK => ?_) (AllReadyH.nil))
                            clear hHeld
                            rw [if_pos (by rfl)]
                            go_simp
                            refine (gout_txt oe ce es _ ⟨x.name.toArray⟩ r.kind _ (HE3.out _ hv1) (by have := HLE.out; omega)).mono ?_
                            rintro e wi ⟨oi, ci, rfl, hri, hbi⟩
                            have HVi := Lib.hid (hv1.trans (hbi.mono hv1.size))
                            have HRi := Lib.hid hri
                            clear hri hbi
                            refine hK.out _ _ HVi.out (fun hHeld => ?_)
                            clear hK K
                            try simp only [Act.put, List.setIfInBounds_toArray, List.set_cons_zero, List.set_cons_succ]
                            refine wpAnyH_ready (rs := [8]) (by kernel_rfl) (by simp) (AllReadyH.cons (List.getElem?_toArray.trans rfl) (fun K hK => ?_) (AllReadyH.nil))
                            clear hHeld
                            rw [if_pos (by rfl)]
                            go_simp
                            refine (has7_any oi _ ci (outS es x.name r.kind) ⟨r.name.toArray⟩ wi HRi.out rfl (by have := HLO.out; have := HLE.out; omega) true HF.out).mono ?_
                            rintro e wk ⟨rfl, hwk⟩
                            subst hwk
                            refine hK.out _ _ HVi.out (fun hHeld => ?_)
                            clear hK K
                            try simp only [Act.put, List.setIfInBounds_toArray, List.set_cons_zero, List.set_cons_succ]
                            refine wpAnyH_take (i := 9) (v := .bool false) (List.getElem?_toArray.trans rfl) (by kernel_rfl) (by kernel_rfl) (by kernel_rfl) (fun _ _ _ h => h) (Or.inl ⟨by rfl, fun W hW => by clear hW; go_simp⟩) (by assumption) ?_
                            try simp only [Act.put, List.setIfInBounds_toArray, List.set_cons_zero, List.set_cons_succ]
                            refine wpAnyH_done (by kernel_rfl) ?_ _
                            clear hHeld
                            go_wp2_with fail
                            go_roundg (gk - 1)
                            case measure => omega
                            case rel => exact ⟨j + 1, by omega, by go_num, by omega, HVZ.out.trans (HVi.out.mono HVZ.out.size)⟩
                · have hj2 : j = x.rels.length := by omega
                  subst hj2
                  go_wp2_with fail
                  go_roundg (gk0 - 1)
                  case measure => omega
                  case rel => exact ⟨k + 1, by omega, by go_num, by omega, by rw [HS2.out]; exact HK8.out.below Hv.out⟩
        · have hk2 : k = l.length := by omega
          subst hk2
          have HSE := Lib.hid (fun e (h : e ∈ es) => show (seenS l l.length).contains e.src = true ∧ (seenS l l.length).contains e.dst = true from by
            have h2 := edge_ends HL64.out (e := e) (by rw [← HES.out]; exact h)
            unfold seenS
            rw [List.take_of_length_le (Nat.le_refl _), List.contains_iff_mem, List.contains_iff_mem]
            exact h2)
          generalize seenS l l.length = sn at *
          obtain ⟨g0, g1⟩ := HK.out.g
          go_wp2_with fail
          clear g0 g1
          go_loopg [99] (es.length + 1) (fun f i wv => ∃ j : Nat, j ≤ es.length ∧ i = .int .i64 j ∧ es.length - j < f ∧ Hid (Below wr.heap.size wr wv))
          case atStart => exact ⟨0, by omega, rfl, by omega, Below.refl _ _⟩
          case round =>
            obtain ⟨j, hj, rfl, hfv, Hv⟩ := hrel
            by_cases hjl : j < es.length
            · have hrb := HLE.out
              obtain ⟨eb, eo, rfl, helt, hec⟩ := (HK.out.below Hv.out).re j hjl
              obtain ⟨y, hy⟩ : ∃ y, y = es[j] := ⟨_, rfl⟩
              rw [← hy] at hec
              obtain ⟨s1, s2⟩ := HSE.out y (by rw [hy]; exact List.getElem_mem hjl)
              have d0 := hec 0 _ rfl; have d1 := hec 1 _ rfl; have d2 := hec 2 _ rfl
              simp only [Nat.add_zero] at d0
              have j5 : (j : Int) < (es.length : Int) := by omega
              have hba := (Below.refl wr.heap.size wr).alloc (Nat.le_refl _) (.cells #[.string ⟨y.src.toArray⟩, .string ⟨y.dst.toArray⟩, .int .i64 y.rel] 58)
              have l1 := ((HK.out.below Hv.out).below hba).look y.src
              have l2 := ((HK.out.below Hv.out).below hba).look y.dst
              rw [s1] at l1
              rw [s2] at l2
              have HVA := Lib.hid (Hv.out.trans (hba.mono Hv.out.size))
              clear hec hy s1 s2 hba
              go_wp2_with fail
              go_roundg (gk - 1)
              case measure => omega
              case rel => exact ⟨j + 1, by omega, by go_num, by omega, HVA⟩
            · have hj2 : j = es.length := by omega
              subst hj2
              go_wp2_with fail
              go_ret
              refine ⟨rfl, HB5.out.1.trans ((HK.out.below Hv.out).fr.below _ HB5.out.1.size (fun k hk e => ?_))⟩
              have := HB5.out.2
              omega
end Go.Proofs.YtcaamakodneplaaGreat
