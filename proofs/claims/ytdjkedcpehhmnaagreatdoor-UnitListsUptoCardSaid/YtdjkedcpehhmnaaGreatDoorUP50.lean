import Derived.Deep.LoopGhost
import Derived.Deep.CutRange
import Derived.Test.YtdjkedcpehhmnaaGreatDoorUP36
import Derived.Test.YtdjkedcpehhmnaaGreatDoorUP43
import Derived.Test.YtdjkedcpehhmnaaGreatDoorUP44
import Derived.Test.YtdjkedcpehhmnaaGreatDoorUP48
import Derived.Test.YtdjkedcpehhmnaaGreatDoorUP49
namespace Go.Proofs.YtdjkedcpehhmnaaGreatDoor
open Go Go.RowKit
set_option linter.unusedVariables false
set_option linter.unusedSimpArgs false
set_option maxRecDepth 100000
theorem linesU_kind (nm : Str) (kind : Int) : ∀ (l : List Ln) (u r : UV), linesU nm kind u l = .ok r → r 1 = u 1
 | [], u, r, e => by injection e with e; rw [← e]
 | x :: t, u, r, e => by
  rw [linesU] at e
  cases hx : lineU nm kind u x with
  | error c => rw [hx] at e; cases e
  | ok q =>
   rw [hx] at e
   obtain ⟨k, hk, v, rfl, -⟩ := lineU_step hx
   rw [linesU_kind nm kind t _ r e, UV.upd_ne _ _ (fun e => (tabFs k hk).2.2 e.symm)]
theorem makeU_kind (nm : Str) (l : List Ln) (h : (makeU nm l).2.1 = 0) : (makeU nm l).1 1 = .n (kindS nm : Nat) ∧ kindS nm ≠ 0 := by
 unfold makeU at h ⊢
 by_cases hn : kindS nm = 0 ∨ bareS nm = true
 ·rw [if_pos hn] at h; exact absurd h (by decide)
 ·rw [if_neg hn] at h ⊢
  cases hl : linesU nm (kindS nm : Nat) (newU nm) l with
  | error e => rw [hl] at h; exact absurd h (linesU_err _ _ _ _ _ hl)
  | ok u =>
   rw [hl] at h
   simp only at h ⊢
   by_cases hw : wholeU (kindS nm : Nat) u ≠ 0
   ·rw [if_pos hw] at h; exact absurd h hw
   ·rw [if_neg hw]
    exact ⟨by show u 1 = _; rw [linesU_kind nm _ l _ _ hl, newU_kind], fun e => hn (.inl e)⟩
theorem row_cellsU {w : World} {o : Option Addr} {vs : List KeyV} (h : RowRd encK 6 w o vs) (k : Nat) (hk : k < vs.length) (b f : Nat) (ho : o = some ⟨b, f, none⟩) (x : KeyV) (hx : x = vs[k]) :
  w.cell? ⟨b, f + k * 6, none⟩ = some (.string ⟨x.sec.toArray⟩) ∧ w.cell? ⟨b, f + k * 6 + 1, none⟩ = some (.string ⟨x.name.toArray⟩) ∧ w.cell? ⟨b, f + k * 6 + 2, none⟩ = some (.int .i64 x.form) ∧ w.cell? ⟨b, f + k * 6 + 3, none⟩ = some (.bool x.list) ∧ w.cell? ⟨b, f + k * 6 + 4, none⟩ = some (.int .i64 x.kinds) ∧ w.cell? ⟨b, f + k * 6 + 5, none⟩ = some (.slice x.wa x.wn x.wc) := by
 obtain ⟨b3, o3, e3, _, hcc⟩ := h k hk
 rw [ho] at e3
 injection e3 with e3
 injection e3 with e4 e5 e6
 subst e4; subst e5
 rw [← hx] at hcc
 exact ⟨hcc 0 _ rfl, hcc 1 _ rfl, hcc 2 _ rfl, hcc 3 _ rfl, hcc 4 _ rfl, hcc 5 _ rfl⟩
set_option maxHeartbeats 16000000 in
theorem unitLists_any (nm : Str) (l : List Ln) (oa : Option Addr) (ca : Nat) (ix : Int) (w : World) (hM : MaxAt w) (ha : RowRd encLn 4 w oa l) (za : l.length ≤ 1048576)
  (xa : ∀ x ∈ l, x.val.length ≤ 1048576) (hnm : nm.length ≤ 1048576) :
  Calls Tryz.prog 4 #[.string ⟨nm.toArray⟩, .slice oa l.length ca, .int .i64 ix] w fun e w' => e = .returned (.bool true) ∧ Below w.heap.size w w' := by
 have HSH := h_ (shownU_any w hM)
 have HM := h_ (fun W (h : Below w.heap.size w W) => hM.below h)
 have HRA := h_ (fun W (h : Below w.heap.size w W) => ha.below h)
 have HXA := h_ xa
 obtain ⟨u1, c1, a1, h1⟩ : ∃ u c a, makeU nm l = (u, (c, a)) := ⟨_, _, _, rfl⟩
 have HMA := h_ (fun W (h : Below w.heap.size w W) => makeU_any nm l oa ca W (HM.out W h) (HRA.out W h) (by omega) xa (by omega))
 rw [h1] at HMA
 have HT1 := h_ (show TypedU u1 by have := makeU_typed nm l; rw [h1] at this; exact this)
 have H1 := h_ h1
 clear hM ha xa h1
 go_enter Tryz.func4, Tryz.ntmps4
 go_wp2_with fail
 refine HSH.out.mono ?_
 rintro e w0 ⟨rfl, hb0⟩
 have HB0 := h_ hb0
 have HA := h_ (keysR_any w0)
 clear hb0 HSH
 go_wp2_with fail
 refine HA.out.mono ?_
 rintro e w2 ⟨ov, cv, vs, rfl, hrv, hkv, hb2⟩
 have HB := h_ (HB0.out.trans (hb2.mono HB0.out.size))
 have hlv : vs.length = 42 := by rw [hkv.1]; exact allKeys_len
 obtain ⟨bv, fv, rfl, -, -⟩ := hrv 0 (by omega)
 obtain ⟨n, hn, hbits⟩ := and_smallU ix 65535 (by decide)
 have hbits' : bits BinOp.and IntKind.i64 ix 65535 = (n : Int) := hbits
 have hrem : (n : Int).tmod 42 = ((n % 42 : Nat) : Int) := by rw [Int.tmod_eq_emod_of_nonneg (by omega)]; rfl
 have hm : n % 42 < 42 := Nat.mod_lt _ (by decide)
 generalize n % 42 = m at *
 have hmv : m < vs.length := by omega
 have hma : m < allKeys.length := by rw [allKeys_len]; exact hm
 obtain ⟨y, hy⟩ : ∃ y, y = vs[m] := ⟨_, rfl⟩
 obtain ⟨q, hq⟩ : ∃ q, q = allKeys[m] := ⟨_, rfl⟩
 obtain ⟨g0, g1, g2, g3, g4, g5⟩ := row_cellsU hrv m hmv bv fv rfl y hy
 have hY : KvRd w2 y q := by rw [hy, hq]; exact hkv.2 m hmv hma
 have HQM := h_ (show q ∈ allKeys by rw [hq]; exact List.getElem_mem hma)
 obtain ⟨ysec, yname, yform, ylist, ykinds, ywa, ywn, ywc⟩ := y
 have HYS := h_ (show ysec = q.sec ∧ yname = q.name ∧ ylist = q.list ∧ ykinds = q.kinds from ⟨hY.sec, hY.name, hY.list, hY.kinds⟩)
 have HXK := h_ (heap_alloc_new w2 (.cells #[.string ⟨ysec.toArray⟩, .string ⟨yname.toArray⟩, .int .i64 yform, .bool ylist, .int .i64 ykinds, .slice ywa ywn ywc] 41))
 have HBK := h_ (HB.out.alloc HB.out.size (.cells #[.string ⟨ysec.toArray⟩, .string ⟨yname.toArray⟩, .int .i64 yform, .bool ylist, .int .i64 ykinds, .slice ywa ywn ywc] 41))
 simp only at g0 g1 g2 g3 g4 g5
 clear hbits hrv hkv hb2 hy hq hma hmv hlv HA hY HB0
 have k1 : (m : Int) < 42 := by omega
 obtain ⟨k0, k1', k2, k3⟩ := rd HXK.out
 have kl := k0 3
 simp only [List.getElem?_toArray, List.getElem?_cons_zero, List.getElem?_cons_succ] at kl
 clear k0 k1' k2 k3
 cases ylist with
 | false =>
  go_wp2_with fail
  go_ret
  exact ⟨rfl, HBK.out⟩
 | true =>
  clear HB
  replace HB := HBK
  clear HBK
  go_upto_region 7 with fail
  generalize hWK : w2.alloc (.cells #[.string ⟨ysec.toArray⟩, .string ⟨yname.toArray⟩, .int .i64 yform, .bool true, .int .i64 ykinds, .slice ywa ywn ywc] 41) = wk at *
  obtain ⟨K, hK⟩ : ∃ K, K = w2.heap.size := ⟨_, rfl⟩
  rw [← hK] at HXK ⊢
  clear hWK hK kl g0 g1 g2 g3 g4 g5 hrem hbits'
  go_wp2_with fail
  refine (HMA.out wk HB.out).mono ?_
  rintro e w1 ⟨hb1, cs1, rfl, hrd1⟩
  replace HB := h_ (HB.out.trans (hb1.mono HB.out.size))
  replace HXK := h_ (heap_below HXK.out hb1)
  have L1HXK := h_ (lt_heap HXK.out)
  have LW1 := h_ HB.out.size
  have HON1 := h_ hrd1.one
  have HSC1 := h_ (show (Tryz.prog.info? 30).map (·.size) = some cs1.size by rw [hrd1.size]; rfl)
  have HSZ1 := h_ (show unitZero.size = cs1.size by rw [hrd1.size]; rfl)
  have HU1 := h_ hrd1
  have HV1 := h_ (Below.refl w1.heap.size w1)
  clear hb1 hrd1
  go_upto_region 8 with (first
   | (refine l_alloc rfl _ unitZero rfl (run_alloc_unit _) ?_; intro wa1 ha1 hba1)
   | (refine l_store rfl 30 (.tmp 9) (.tmp 37) w1.heap.size cs1 unitZero 30 rfl rfl rfl (heap_below ha1 ((Below.refl _ _).alloc (Nat.le_refl _) _)) HSZ1.out HSC1.out HON1.out ?_; intro wb1 hc1 hf1; have tv1 := two_vars ha1 hba1 hc1 hf1; refine l_store rfl 33 (.tmp 10) (.tmp 38) wa1.heap.size #[.int .i64 c1, .int .i64 a1] #[.int .i64 0, .int .i64 0] 33 rfl rfl rfl tv1.1 rfl rfl (one_fault c1 a1) ?_; intro v1 hd1 hg1; have tw1 := two_vars2 hc1 tv1 hg1))
  replace HB := h_ (HB.out.trans (tw1.2.1.mono HB.out.size))
  replace HXK := h_ (heap_below HXK.out tw1.2.1)
  replace HV1 := h_ (HV1.out.trans (tw1.2.1.mono HV1.out.size))
  have HX1 := h_ tw1.1
  have HF1 := h_ hd1
  have LO1 := h_ tw1.2.2
  clear ha1 hba1 hc1 hf1 tv1 hg1 tw1 hd1
  clear HMA
  obtain ⟨k0, -, -, -⟩ := rd HXK.out
  have p0 := k0 0; have p1 := k0 1
  simp only [List.getElem?_toArray, List.getElem?_cons_zero, List.getElem?_cons_succ] at p0 p1
  have HXE := h_ (heap_alloc_new v1 (.cells #[.string ⟨ysec.toArray⟩, .string ⟨yname.toArray⟩, .string ⟨#[]⟩, .int .i64 9] 43))
  have hbE : Below v1.heap.size v1 (v1.alloc (.cells #[.string ⟨ysec.toArray⟩, .string ⟨yname.toArray⟩, .string ⟨#[]⟩, .int .i64 9] 43)) := (Below.refl _ _).alloc (Nat.le_refl _) _
  replace HB := h_ (HB.out.trans (hbE.mono HB.out.size))
  replace HXK := h_ (heap_below HXK.out hbE)
  replace HV1 := h_ (HV1.out.trans (hbE.mono HV1.out.size))
  replace HX1 := h_ (heap_below HX1.out hbE)
  replace HF1 := h_ (heap_below HF1.out hbE)
  go_upto_region 9 with fail
  obtain ⟨E, hE⟩ : ∃ E, E = v1.heap.size := ⟨_, rfl⟩
  rw [← hE] at HXE ⊢
  generalize hwc : v1.alloc (.cells #[.string ⟨ysec.toArray⟩, .string ⟨yname.toArray⟩, .string ⟨#[]⟩, .int .i64 9] 43) = wc at *
  clear hE p0 p1 k0
  obtain ⟨u2, c2, a2, h2⟩ : ∃ u c a, makeU nm (l ++ [⟨ysec, yname, [], 9⟩]) = (u, (c, a)) := ⟨_, _, _, rfl⟩
  have HMC := h_ (fun W (h : Below w.heap.size w W) o cap (hr : RowRd encLn 4 W o (l ++ [⟨ysec, yname, [], 9⟩])) => show Calls _ _ #[.string ⟨nm.toArray⟩, .slice o (l.length + 1) cap] W (fun e w' => MakeOut W (u2, (c2, a2)) e w') from by
   have := makeU_any nm (l ++ [⟨ysec, yname, [], 9⟩]) o cap W (HM.out W h) hr (by simp; omega) (fun x hx => (List.mem_append.1 hx).elim (HXA.out x) (fun h => by rw [List.mem_singleton.1 h]; show ([] : Str).length ≤ _; simp)) (by omega)
   rw [h2, List.length_append] at this
   exact this)
  have HT2 := h_ (show TypedU u2 by have := makeU_typed nm (l ++ [⟨ysec, yname, [], 9⟩]); rw [h2] at this; exact this)
  have H2 := h_ h2
  clear h2 hwc
  have HRW := h_ (fun V (h : Below wc.heap.size wc V) => HB.out.trans (h.mono HB.out.size))
  go_cut [12, 13] from 44 to 53 (fun s12 s13 w' => ∃ (bU bF : Nat) (cs : Array Value), s12 = .pointer (some ⟨bU, 0, none⟩) ∧ s13 = .pointer (some ⟨bF, 0, none⟩) ∧ Hid (w'.heap[bU]? = some (.cells cs 30 (0, 0))) ∧ Hid (w'.heap[bF]? = some (.cells #[.int .i64 c2, .int .i64 a2] 33 (0, 0))) ∧ Hid (UnitRd w' cs u2) ∧ Hid (Below wc.heap.size wc w'))
  case first =>
   rename_i J0 K0 hJ0 hK0
   have HJ := h_ hJ0; have HK := h_ hK0
   clear hJ0 hK0
   obtain ⟨i0, hi0, hz0, hz1, hz2⟩ := info_parts infoLn
   refine wp_region_inv (N := 104) (Ψ := Lst nm l ⟨ysec, yname, [], 9⟩ wc u2 c2 a2 oa ca) (by kernel_rfl) (by kernel_rfl) rfl (Lst.start (below_dn ⟨1, rfl⟩)) ?_ ?_
   ·intro i o ho D V a W hD hdep hI
    have hi : i < 14 := (Array.getElem?_eq_some_iff.1 ho).1
    have h0 := hI.inv
    have hB := HRW.out W h0.bel
    rcases (show i = 0 ∨ i = 1 ∨ i = 2 ∨ i = 3 ∨ i = 4 ∨ i = 5 ∨ i = 6 ∨ i = 7 ∨ i = 8 ∨ i = 9 ∨ i = 10 ∨ i = 11 ∨ i = 12 ∨ i = 13 by omega) with rfl | rfl | rfl | rfl | rfl | rfl | rfl | rfl | rfl | rfl | rfl | rfl | rfl | rfl
    ·obtain rfl := Option.some.inj ho
     have s : a.tmps[0]? = some (.string ⟨nm.toArray⟩) := (hI.at 0 (by kernel_rfl)).trans rfl
     exact oper_val (.string ⟨nm.toArray⟩) (by obtain ⟨y0, z0⟩ := ev_of s; clear h0 hB hI hdep; go_simp) ⟨_, rfl, h0.set0 _ rfl⟩
    ·obtain rfl := Option.some.inj ho
     have s : a.tmps[1]? = some (.slice oa l.length ca) := (hI.at 1 (by kernel_rfl)).trans rfl
     exact oper_val (.slice oa l.length ca) (by obtain ⟨y0, z0⟩ := ev_of s; clear h0 hB hI hdep; go_simp) ⟨_, rfl, h0.set1 _ rfl⟩
    ·obtain rfl := Option.some.inj ho
     have d1 := hdep ⟨1, .data⟩ (by simp) rfl
     have s := hI.slot 1 _ 46 rfl rfl d1
     rw [h0.f1 d1] at s
     have hnil : W.ownsRow wc.heap.size LineT 4 (.slice none 0 0) 0 [] := World.ownsRow_nil _ _ _ _
     obtain ⟨v', w', hrun, hown, hgrow⟩ := append_rows (P := Tryz.prog) (w := W) wc.heap.size 22 22 LineT i0 (.agg #[.string ⟨#[]⟩, .string ⟨#[]⟩, .string ⟨#[]⟩, .int .i64 0]) 4 56 Tryz.underlying22 hi0 hz0 hz1 hz2 (by rfl) (by decide) _ _ _ hnil oa l.length ca (flatL encLn l) (flatL_length encLn_len l) ((HRA.out W hB).flat encLn_len (by decide)) (flatL_oneCell encLn_one l) (by unfold maxLen; omega) (by omega) h0.bel.size
     rw [Nat.zero_add, List.nil_append] at hown
     exact oper_append _ _ 22 rfl hrun rfl (ev_of s).1 ⟨_, rfl, (h0.below ((Below.refl _ _).grown hgrow (Nat.le_refl _) (fun k hk => by cases hk))).set2 v' hown⟩
    ·obtain rfl := Option.some.inj ho
     have s : a.tmps[11]? = some (.pointer (some ⟨E, 0, none⟩)) := (hI.at 11 (by kernel_rfl)).trans rfl
     obtain ⟨q0, q1, q2, q3⟩ := cells4 (heap_below HXE.out h0.bel)
     exact oper_val (.agg (encLn ⟨ysec, yname, [], 9⟩).toArray) (by obtain ⟨y0, z0⟩ := ev_of s; clear h0 hB hI hdep; unfold encLn; go_simp) ⟨_, rfl, h0.set3 _ rfl⟩
    ·obtain rfl := Option.some.inj ho
     have d3 := hdep ⟨3, .data⟩ (by simp) rfl
     have s := hI.slot 3 _ 48 rfl rfl d3
     rw [h0.f3 d3] at s
     exact oper_val (w' := W.alloc (.cells (encLn ⟨ysec, yname, [], 9⟩).toArray LineT)) (.slice (some ⟨W.heap.size, 0, none⟩) 1 1) (by unfold encLn at s ⊢; obtain ⟨y0, z0⟩ := ev_of s; clear h0 hB hI hdep; go_simp) ⟨_, rfl, (h0.below ((Below.refl _ _).alloc (Nat.le_refl _) _)).set4 _ ⟨_, rfl, heap_alloc_new _ _⟩⟩
    ·obtain rfl := Option.some.inj ho
     have d2 := hdep ⟨2, .data⟩ (by simp) rfl
     have d4 := hdep ⟨4, .data⟩ (by simp) rfl
     have s := hI.slot 2 _ 47 rfl rfl d2
     have t := hI.slot 4 _ 49 rfl rfl d4
     have hown0 := h0.f2 d2 hD
     obtain ⟨b, e4, hb4⟩ := h0.f4 d4 hD
     rw [e4] at t
     obtain ⟨v', w', hrun, hown, hgrow⟩ := append_rows (P := Tryz.prog) (w := W) wc.heap.size 22 22 LineT i0 (.agg #[.string ⟨#[]⟩, .string ⟨#[]⟩, .string ⟨#[]⟩, .int .i64 0]) 4 56 Tryz.underlying22 hi0 hz0 hz1 hz2 (by rfl) (by decide) _ _ _ hown0 (some ⟨b, 0, none⟩) 1 1 (encLn ⟨ysec, yname, [], 9⟩) rfl (fun j u hu => ⟨b, 0, rfl, by rw [(rd hb4).1, Nat.zero_add]; simpa using hu⟩) (encLn_one _) (by unfold maxLen; omega) (by omega) h0.bel.size
     obtain ⟨o5, cap5, rfl⟩ := ownsRow_form hown
     exact oper_append _ _ 22 rfl hrun (ev_of s).1 (ev_of t).1 ⟨_, rfl, h0.app _ d2 hD ((Fr.refl _ _).grown hgrow (fun k hk _ => hk)) ⟨o5, cap5, rfl, RowRd.of_own encLn_len (by rw [List.length_append, flatL_append, show flatL encLn [(⟨ysec, yname, [], 9⟩ : Ln)] = encLn ⟨ysec, yname, [], 9⟩ by simp [flatL]]; exact hown)⟩⟩
    ·obtain rfl := Option.some.inj ho
     have d0 := hdep ⟨0, .data⟩ (by simp) rfl
     have d5 := hdep ⟨5, .data⟩ (by simp) rfl
     have s := hI.slot 0 _ 45 rfl rfl d0
     have t := hI.slot 5 _ 50 rfl rfl d5
     rw [h0.f0 d0] at s
     obtain ⟨o5, cap5, e5, hr5⟩ := h0.f5 d5 hD
     rw [e5] at t
     refine oper_enter 11 #[.string ⟨nm.toArray⟩, .slice o5 (l.length + 1) cap5] (by obtain ⟨y0, z0⟩ := ev_of s; obtain ⟨y1, z1⟩ := ev_of t; clear h0 hB hI hdep hr5; go_simp) (HMC.out W hB o5 cap5 hr5) ?_
     rintro e w' ⟨hb, cs, rfl, hrd⟩
     have h7 : D 7 = false := by cases e7 : D 7 with | false => rfl | true => exact absurd (h0.c76 e7) (by rw [hD]; decide)
     have h8 : D 8 = false := by cases e8 : D 8 with | false => rfl | true => exact absurd (h0.c87 e8) (by rw [h7]; decide)
     have h12 : D 12 = false := by cases e12 : D 12 with | false => rfl | true => exact absurd (h0.c126 e12) (by rw [hD]; decide)
     exact ⟨_, rfl, _, rfl, (h0.below hb).set6 _ ⟨cs, rfl, hrd⟩ d5 h7 h8 h12⟩
    ·obtain rfl := Option.some.inj ho
     have d6 := hdep ⟨6, .data⟩ (by simp) rfl
     have s := hI.slot 6 _ 51 rfl rfl d6
     exact oper_val (V 6) (by obtain ⟨y0, z0⟩ := ev_of s; clear h0 hB hI hdep; go_simp) ⟨_, rfl, h0.set7 _ rfl d6⟩
    ·obtain rfl := Option.some.inj ho
     have d7 := hdep ⟨7, .data⟩ (by simp) rfl
     have s := hI.slot 7 _ 44 rfl rfl d7
     obtain ⟨cs, e6, hrd⟩ := h0.f6 (h0.c76 d7)
     rw [h0.f7 d7, e6] at s
     exact oper_val (.agg cs) (by obtain ⟨y0, z0⟩ := ev_of s; clear h0 hB hI hdep hrd; go_simp) ⟨_, rfl, h0.set8 _ ⟨cs, e6, rfl⟩ d7⟩
    ·obtain rfl := Option.some.inj ho
     have d7 := hdep ⟨7, .data⟩ (by simp) rfl
     have s := hI.slot 7 _ 44 rfl rfl d7
     obtain ⟨cs, e6, hrd⟩ := h0.f6 (h0.c76 d7)
     rw [h0.f7 d7, e6] at s
     exact oper_val (.agg #[.int .i64 c2, .int .i64 a2]) (by obtain ⟨y0, z0⟩ := ev_of s; clear h0 hB hI hdep hrd; go_simp) ⟨_, rfl, h0.set9 _ rfl⟩
    ·obtain rfl := Option.some.inj ho
     have h12 : D 12 = false := by cases e12 : D 12 with | false => rfl | true => exact absurd (h0.c1210 e12) (by rw [hD]; decide)
     refine oper_alloc_at W.heap.size rfl 30 unitZero rfl (run_alloc_unit _) ?_
     intro w3 h3 hb3 hl3
     exact ⟨_, rfl, (h0.below hb3).set10 _ ⟨_, rfl, h0.bel.size, h3⟩ h12⟩
    ·obtain rfl := Option.some.inj ho
     have h13 : D 13 = false := by cases e13 : D 13 with | false => rfl | true => exact absurd (h0.c1311 e13) (by rw [hD]; decide)
     refine oper_alloc_at W.heap.size rfl 33 #[.int .i64 0, .int .i64 0] rfl (run_alloc_fault _) ?_
     intro w3 h3 hb3 hl3
     exact ⟨_, rfl, (h0.below hb3).set11 _ ⟨_, rfl, h0.bel.size, h3⟩ h13⟩
    ·obtain rfl := Option.some.inj ho
     have d10 := hdep ⟨10, .data⟩ (by simp) rfl
     have d8 := hdep ⟨8, .data⟩ (by simp) rfl
     have s := hI.slot 10 _ 12 rfl rfl d10
     have t := hI.slot 8 _ 52 rfl rfl d8
     have d6 := h0.c76 (h0.c87 d8)
     obtain ⟨b, X, e10, hbb, hx, hz, -⟩ := h0.f10 d10
     obtain ⟨cs, e6, e8⟩ := h0.f8 d8
     obtain ⟨cs', e6', hrd⟩ := h0.f6 d6
     rw [e6] at e6'
     have hcc : cs = cs' := by injection e6' with e; injection e with e; injection e with e _; injection e
     subst hcc
     have h13 : D 13 = false := by cases e13 : D 13 with | false => rfl | true => exact absurd (h0.c1312 e13) (by rw [hD]; decide)
     rw [e10] at s; rw [e8] at t
     refine oper_store_all 30 (.tmp 12) (.tmp 52) b cs X 30 rfl (ev_of s).1 (ev_of t).1 hx (by rw [hz hD, hrd.size]; rfl) (by rw [hrd.size]; rfl) hrd.one ?_
     intro w3 h3 hf3
     exact ⟨undef, rfl, h0.stU _ d6 d10 h13 e10 hbb hx e6 h3 hf3⟩
    ·obtain rfl := Option.some.inj ho
     have d11 := hdep ⟨11, .data⟩ (by simp) rfl
     have d9 := hdep ⟨9, .data⟩ (by simp) rfl
     have d12 := hdep ⟨12, .chain⟩ (by simp) rfl
     have s := hI.slot 11 _ 13 rfl rfl d11
     have t := hI.slot 9 _ 53 rfl rfl d9
     obtain ⟨b, X, e11, hbb, hx, hz, -⟩ := h0.f11 d11
     rw [e11] at s; rw [h0.f9 d9] at t
     refine oper_store_all 33 (.tmp 13) (.tmp 53) b #[.int .i64 c2, .int .i64 a2] X 33 rfl (ev_of s).1 (ev_of t).1 hx (by rw [hz hD]; rfl) rfl (one_fault c2 a2) ?_
     intro w3 h3 hf3
     exact ⟨undef, rfl, h0.stF _ d12 d11 e11 hbb hx h3 hf3⟩
   ·intro D V a W hall hI
    have h0 := hI.inv
    have dd : ∀ i, i < 14 → D i = true := hall
    obtain ⟨bU, X, e10, -, hx, -, hX⟩ := h0.f10 (dd 10 (by decide))
    obtain ⟨bF, Y, e11, -, hy, -, hY⟩ := h0.f11 (dd 11 (by decide))
    obtain ⟨cs, e6, hrd⟩ := h0.f6 (dd 6 (by decide))
    have e6' := hX (dd 12 (by decide))
    rw [e6] at e6'
    have hcc : cs = X := by injection e6' with e; injection e with e; injection e with e _; injection e
    subst hcc
    obtain rfl := hY (dd 13 (by decide))
    have s12 := getD_of ((hI.slot 10 _ 12 rfl rfl (dd 10 (by decide))).trans (congrArg some e10))
    have s13 := getD_of ((hI.slot 11 _ 13 rfl rfl (dd 11 (by decide))).trans (congrArg some e11))
    have hform := hI.form [12, 13, 44, 45, 46, 47, 48, 49, 50, 51, 52, 53] (by kernel_rfl)
    simp only [List.foldl_cons, List.foldl_nil, s12, s13, sA_, sB_, sC_] at hform
    rw [hform]
    have HX := h_ hx; have HY := h_ hy; have HR := h_ hrd; have HBE := h_ h0.bel
    clear hform s12 s13 hI hx hy hrd h0
    show Exit.then _ _ .normal _ _
    simp only [Exit.then]
    refine HK.out _ _ (Met.intro (HJ.out _ _ ?_))
    repeat apply Exists.intro
    exact ⟨⟨_, _, _, rfl, rfl, HX, HY, HR, HBE⟩, rfl⟩
  case rest =>
   obtain ⟨bU, bF, cs2, rfl, rfl, HX2, HF2, HU2, HB2⟩ := hcut
   have HBw := HB2.out
   replace HB := h_ (HB.out.trans (HBw.mono HB.out.size))
   replace HXK := h_ (heap_below HXK.out HBw)
   replace HV1 := h_ (HV1.out.trans (HBw.mono HV1.out.size))
   replace HX1 := h_ (heap_below HX1.out HBw)
   replace HF1 := h_ (heap_below HF1.out HBw)
   replace HXE := h_ (heap_below HXE.out HBw)
   have LU2 := h_ (lt_heap HX2.out); have LF2 := h_ (lt_heap HF2.out)
   have HSC2 := h_ (show (Tryz.prog.info? 30).map (·.size) = some cs2.size by rw [HU2.out.size]; rfl)
   clear HBw HB2 HXE HRW HMC
   obtain ⟨i0, hi0, hz0, hz1, hz2⟩ := info_parts infoLn
   obtain ⟨ms0, hms0⟩ : ∃ ms, ms = l.filter (otherKey q) := ⟨_, rfl⟩
   obtain ⟨u3, c3, a3, h3⟩ : ∃ u c a, makeU nm ms0 = (u, (c, a)) := ⟨_, _, _, rfl⟩
   have hsub : ∀ x ∈ ms0, x ∈ l := fun x hx => by rw [hms0] at hx; exact (List.mem_filter.1 hx).1
   have hml0 : ms0.length ≤ l.length := by rw [hms0]; exact List.length_filter_le _ _
   have HMD := h_ (fun W (h : Below w.heap.size w W) o cap (hr : RowRd encLn 4 W o ms0) => makeU_any nm ms0 o cap W (HM.out W h) hr (by omega) (fun x hx => HXA.out x (hsub x hx)) (by omega))
   rw [h3] at HMD
   have HT3 := h_ (show TypedU u3 by have := makeU_typed nm ms0; rw [h3] at this; exact this)
   have HL := h_ (show c1 = 0 → inKind q.kinds (kindS nm : Nat) = true → u3 = u2 ∧ c3 = c2 ∧ a3 = a2 from fun e1 e2 => by
    have hl := lists_law nm q HQM.out (HYS.out.2.2.1.symm) l 9 (by rw [H1.out]; exact e1) e2
    rw [← HYS.out.1, ← HYS.out.2.1, H2.out, ← hms0, h3] at hl
    injection hl with q1 q2
    injection q2 with q2 q3
    exact ⟨q1.symm, q2.symm, q3.symm⟩)
   have HKD := h_ (show c1 = 0 → u1 1 = .n (kindS nm : Nat) ∧ kindS nm ≠ 0 from fun e => by
    have := makeU_kind nm l (by rw [H1.out]; exact e)
    rw [H1.out] at this; exact this)
   have HMS := h_ hms0
   clear h3 hsub hms0 H2 H1
   go_wp2_with fail
   go_loopg [14, 56] (l.length + 1) (fun f m i wr => ∃ (k : Nat) (ms : List Ln), k ≤ l.length ∧ i = .int .i64 k ∧ l.length - k < f ∧ ms.length ≤ k ∧ Hid (ms = (l.take k).filter (otherKey q)) ∧ Hid (wr.ownsRow wc.heap.size 43 4 m ms.length (flatL encLn ms)) ∧ Hid (Below wc.heap.size wc wr))
   case atStart => exact ⟨0, [], by omega, rfl, by omega, by simp, by rw [List.take_zero]; rfl, World.ownsRow_nil _ _ _ _, Below.refl _ _⟩
   case round =>
    obtain ⟨k, ms, hk, rfl, hfu, hml, HF, HO, HBr⟩ := hrel
    obtain ⟨om, cm, rfl⟩ := ownsRow_form HO.out
    have HBw := h_ (HB.out.trans (HBr.out.mono HB.out.size))
    by_cases hlt : k < l.length
    ·have hz : (k : Int) < (l.length : Int) := by omega
     obtain ⟨x, hx⟩ : ∃ x, x = l[k] := ⟨_, rfl⟩
     obtain ⟨b4, o4, rfl, -, hcc⟩ := HRA.out wr HBw.out k hlt
     rw [← hx] at hcc
     have d0 := hcc 0 _ rfl; have d1 := hcc 1 _ rfl; have d2 := hcc 2 _ rfl; have d3 := hcc 3 _ rfl
     simp only [Nat.add_zero] at d0
     have HF2' := h_ (show (l.take (k + 1)).filter (otherKey q) = ms ++ (if otherKey q x = true then [x] else []) by
      rw [List.take_succ_eq_append_getElem hlt, ← hx, List.filter_append, ← HF.out]
      congr 1
      by_cases e : otherKey q x = true
      ·rw [if_pos e]; simp [e]
      ·rw [if_neg e]; simp [e])
     obtain ⟨xsec, xkey, xval, xat⟩ := x
     have HOK := h_ (show otherKey q ⟨xsec, xkey, xval, xat⟩ = (xsec != ysec || xkey != yname) by unfold otherKey; rw [HYS.out.1, HYS.out.2.1])
     have hBx : Below wr.heap.size wr (wr.alloc (.cells #[.string ⟨xsec.toArray⟩, .string ⟨xkey.toArray⟩, .string ⟨xval.toArray⟩, .int .i64 xat] 43)) := (Below.refl _ _).alloc (Nat.le_refl _) _
     have HXB := h_ (heap_alloc_new wr (.cells #[.string ⟨xsec.toArray⟩, .string ⟨xkey.toArray⟩, .string ⟨xval.toArray⟩, .int .i64 xat] 43))
     have HBx := h_ (HBr.out.trans (hBx.mono HBr.out.size))
     have HOx := h_ (own_keeps HO.out hBx)
     have HXKx := h_ (heap_below HXK.out HBx.out)
     clear hx hcc hBx HF HBr HO HBw
     go_upto_region 14 with fail
     obtain ⟨B, hB⟩ : ∃ B, B = wr.heap.size := ⟨_, rfl⟩
     rw [← hB] at HXB ⊢
     generalize hwx : wr.alloc (.cells #[.string ⟨xsec.toArray⟩, .string ⟨xkey.toArray⟩, .string ⟨xval.toArray⟩, .int .i64 xat] 43) = wx at *
     clear hwx hB d0 d1 d2 d3
     obtain ⟨x0, x1, x2, x3⟩ := cells4 HXB.out
     obtain ⟨k0, -, -, -⟩ := rd HXKx.out
     have p0 := k0 0; have p1 := k0 1
     simp only [List.getElem?_toArray, List.getElem?_cons_zero, List.getElem?_cons_succ] at p0 p1
     clear k0
     cases es : (xsec == ysec) with
     | false =>
      have es' : (xsec != ysec) = true := by rw [bne, es]; rfl
      have HE := h_ (show (xsec != ysec || xkey != yname) = true by rw [es']; rfl)
      have hBy : Below wx.heap.size wx (wx.alloc (.cells (encLn ⟨xsec, xkey, xval, xat⟩).toArray 43)) := (Below.refl _ _).alloc (Nat.le_refl _) _
      obtain ⟨v5, w5, hr5, ho5, hg5⟩ := append_rows (P := Tryz.prog) (w := wx.alloc (.cells (encLn ⟨xsec, xkey, xval, xat⟩).toArray 43)) wc.heap.size 22 22 43 i0 (.agg #[.string ⟨#[]⟩, .string ⟨#[]⟩, .string ⟨#[]⟩, .int .i64 0]) 4 56 Tryz.underlying22 hi0 hz0 hz1 hz2 (by rfl) (by decide) _ _ _ (own_keeps HOx.out hBy) (some ⟨wx.heap.size, 0, none⟩) 1 1 (encLn ⟨xsec, xkey, xval, xat⟩) rfl
       (fun j u hu => ⟨wx.heap.size, 0, rfl, by rw [(rd (heap_alloc_new wx _)).1, Nat.zero_add]; simpa using hu⟩) (encLn_one _) (by unfold maxLen; omega) (by omega) (by have h1 := HB.out.size; have h2 := HBx.out.size; have h3 := hBy.size; omega)
      have HR5 := h_ hr5
      have HO5 := h_ (show w5.ownsRow wc.heap.size 43 4 v5 (ms ++ [(⟨xsec, xkey, xval, xat⟩ : Ln)]).length (flatL encLn (ms ++ [(⟨xsec, xkey, xval, xat⟩ : Ln)])) from by
       rw [List.length_append, flatL_append, show flatL encLn [(⟨xsec, xkey, xval, xat⟩ : Ln)] = encLn ⟨xsec, xkey, xval, xat⟩ by simp [flatL]]
       exact ho5)
      have HB5 := h_ (show Below wc.heap.size wc w5 from by
       have h2 := HBx.out.trans (hBy.mono HBx.out.size)
       refine h2.trans (below_grown hg5 (fun g hg => ?_) h2.size)
       exact (HOx.out.lt g hg).1)
      have HM5 := h_ (show ms ++ [(⟨xsec, xkey, xval, xat⟩ : Ln)] = (l.take (k + 1)).filter (otherKey q) by rw [HF2'.out, if_pos (HOK.out.trans HE.out)])
      clear hr5 ho5 hg5 hBy HF2' HOK
      go_wp2_with (at_builtin; refine wpList_append_run rfl _ _ 22 rfl HR5.out rfl rfl ?_)
      go_roundg (gk - 1)
      case measure => omega
      case rel => exact ⟨k + 1, _, by omega, by go_num, by omega, by simp; omega, HM5, HO5, HB5⟩
     | true =>
      have es' : (xsec != ysec) = false := by rw [bne, es]; rfl
      cases ek : (xkey == yname) with
      | false =>
       have ek' : (xkey != yname) = true := by rw [bne, ek]; rfl
       have HE := h_ (show (xsec != ysec || xkey != yname) = true by rw [es', ek']; rfl)
       have hBy : Below wx.heap.size wx (wx.alloc (.cells (encLn ⟨xsec, xkey, xval, xat⟩).toArray 43)) := (Below.refl _ _).alloc (Nat.le_refl _) _
       obtain ⟨v5, w5, hr5, ho5, hg5⟩ := append_rows (P := Tryz.prog) (w := wx.alloc (.cells (encLn ⟨xsec, xkey, xval, xat⟩).toArray 43)) wc.heap.size 22 22 43 i0 (.agg #[.string ⟨#[]⟩, .string ⟨#[]⟩, .string ⟨#[]⟩, .int .i64 0]) 4 56 Tryz.underlying22 hi0 hz0 hz1 hz2 (by rfl) (by decide) _ _ _ (own_keeps HOx.out hBy) (some ⟨wx.heap.size, 0, none⟩) 1 1 (encLn ⟨xsec, xkey, xval, xat⟩) rfl
        (fun j u hu => ⟨wx.heap.size, 0, rfl, by rw [(rd (heap_alloc_new wx _)).1, Nat.zero_add]; simpa using hu⟩) (encLn_one _) (by unfold maxLen; omega) (by omega) (by have h1 := HB.out.size; have h2 := HBx.out.size; have h3 := hBy.size; omega)
       have HR5 := h_ hr5
       have HO5 := h_ (show w5.ownsRow wc.heap.size 43 4 v5 (ms ++ [(⟨xsec, xkey, xval, xat⟩ : Ln)]).length (flatL encLn (ms ++ [(⟨xsec, xkey, xval, xat⟩ : Ln)])) from by
        rw [List.length_append, flatL_append, show flatL encLn [(⟨xsec, xkey, xval, xat⟩ : Ln)] = encLn ⟨xsec, xkey, xval, xat⟩ by simp [flatL]]
        exact ho5)
       have HB5 := h_ (show Below wc.heap.size wc w5 from by
        have h2 := HBx.out.trans (hBy.mono HBx.out.size)
        refine h2.trans (below_grown hg5 (fun g hg => ?_) h2.size)
        exact (HOx.out.lt g hg).1)
       have HM5 := h_ (show ms ++ [(⟨xsec, xkey, xval, xat⟩ : Ln)] = (l.take (k + 1)).filter (otherKey q) by rw [HF2'.out, if_pos (HOK.out.trans HE.out)])
       clear hr5 ho5 hg5 hBy HF2' HOK
       go_wp2_with (at_builtin; refine wpList_append_run rfl _ _ 22 rfl HR5.out rfl rfl ?_)
       go_roundg (gk - 1)
       case measure => omega
       case rel => exact ⟨k + 1, _, by omega, by go_num, by omega, by simp; omega, HM5, HO5, HB5⟩
      | true =>
       have ek' : (xkey != yname) = false := by rw [bne, ek]; rfl
       have HM5 := h_ (show ms = (l.take (k + 1)).filter (otherKey q) by rw [HF2'.out, if_neg (by rw [HOK.out, es', ek']; decide), List.append_nil])
       clear HF2' HOK
       go_wp2_with fail
       go_roundg (gk - 1)
       case measure => omega
       case rel => exact ⟨k + 1, ms, by omega, by go_num, by omega, by omega, HM5, HOx, HBx⟩
    ·have hk3 : k = l.length := by omega
     subst hk3
     have HM3 := h_ (show ms = ms0 by rw [HF.out, HMS.out, List.take_of_length_le (Nat.le_refl _)])
     have HRM := h_ (show RowRd encLn 4 wr (some ⟨0, 0, none⟩) [] ∨ RowRd encLn 4 wr om ms from .inr (RowRd.of_own encLn_len HO.out))
     have hBr := HBr.out
     rw [HM3.out] at HRM ⊢
     have HRM := h_ (show RowRd encLn 4 wr om ms0 from by have := RowRd.of_own encLn_len HO.out; rw [HM3.out] at this; exact this)
     replace HB := h_ (HB.out.trans (hBr.mono HB.out.size))
     replace HXK := h_ (heap_below HXK.out hBr)
     replace HV1 := h_ (HV1.out.trans (hBr.mono HV1.out.size))
     replace HX1 := h_ (heap_below HX1.out hBr)
     replace HF1 := h_ (heap_below HF1.out hBr)
     replace HX2 := h_ (heap_below HX2.out hBr); replace HF2 := h_ (heap_below HF2.out hBr)
     have HV2 := h_ hBr
     clear hBr HBr HF HO HBw hk hlt hfu
     obtain ⟨wo, rfl⟩ : ∃ x, x = wr := ⟨wr, rfl⟩
     go_wp2_with fail
     refine (HMD.out wo HB.out om cm HRM.out).mono ?_
     rintro e w3 ⟨hb3, cs3, rfl, hrd3⟩
     replace HB := h_ (HB.out.trans (hb3.mono HB.out.size))
     replace HXK := h_ (heap_below HXK.out hb3)
     replace HV1 := h_ (HV1.out.trans (hb3.mono HV1.out.size))
     replace HX1 := h_ (heap_below HX1.out hb3)
     replace HF1 := h_ (heap_below HF1.out hb3)
     replace HX2 := h_ (heap_below HX2.out hb3)
     replace HF2 := h_ (heap_below HF2.out hb3)
     replace HV2 := h_ (HV2.out.trans (hb3.mono HV2.out.size))
     have L3HXK := h_ (lt_heap HXK.out)
     have L3HX1 := h_ (lt_heap HX1.out)
     have L3HF1 := h_ (lt_heap HF1.out)
     have L3HX2 := h_ (lt_heap HX2.out)
     have L3HF2 := h_ (lt_heap HF2.out)
     have LW3 := h_ HB.out.size
     have HON3 := h_ hrd3.one
     have HSC3 := h_ (show (Tryz.prog.info? 30).map (·.size) = some cs3.size by rw [hrd3.size]; rfl)
     have HSZ3 := h_ (show unitZero.size = cs3.size by rw [hrd3.size]; rfl)
     have HU3 := h_ hrd3
     have HV3 := h_ (Below.refl w3.heap.size w3)
     clear hb3 hrd3
     go_upto_region 18 with (first
      | (refine l_alloc rfl _ unitZero rfl (run_alloc_unit _) ?_; intro wa3 ha3 hba3)
      | (refine l_store rfl 30 (.tmp 17) (.tmp 81) w3.heap.size cs3 unitZero 30 rfl rfl rfl (heap_below ha3 ((Below.refl _ _).alloc (Nat.le_refl _) _)) HSZ3.out HSC3.out HON3.out ?_; intro wb3 hc3 hf3; have tv3 := two_vars ha3 hba3 hc3 hf3; refine l_store rfl 33 (.tmp 18) (.tmp 82) wa3.heap.size #[.int .i64 c3, .int .i64 a3] #[.int .i64 0, .int .i64 0] 33 rfl rfl rfl tv3.1 rfl rfl (one_fault c3 a3) ?_; intro v3 hd3 hg3; have tw3 := two_vars2 hc3 tv3 hg3))
     replace HB := h_ (HB.out.trans (tw3.2.1.mono HB.out.size))
     replace HXK := h_ (heap_below HXK.out tw3.2.1)
     replace HV1 := h_ (HV1.out.trans (tw3.2.1.mono HV1.out.size))
     replace HX1 := h_ (heap_below HX1.out tw3.2.1)
     replace HF1 := h_ (heap_below HF1.out tw3.2.1)
     replace HX2 := h_ (heap_below HX2.out tw3.2.1)
     replace HF2 := h_ (heap_below HF2.out tw3.2.1)
     replace HV2 := h_ (HV2.out.trans (tw3.2.1.mono HV2.out.size))
     replace HV3 := h_ (HV3.out.trans (tw3.2.1.mono HV3.out.size))
     have HX3 := h_ tw3.1
     have HF3 := h_ hd3
     have LO3 := h_ tw3.2.2
     clear ha3 hba3 hc3 hf3 tv3 hg3 tw3 hd3
     clear HMD
     obtain ⟨g0, g1, -, -⟩ := fault_facts HF1.out
     by_cases hc : c1 = 0
     ·have hcb : (c1 != 0) = false := by rw [bne_eq_false_iff_eq]; exact hc
      obtain ⟨hk1, hkn⟩ := HKD.out hc
      obtain ⟨vk, pk, sk⟩ := HU1.out.see.at 1 (by decide)
      rw [hk1] at sk
      obtain rfl : vk = .int .i64 ((kindS nm : Nat) : Int) := sk
      have z1 := ((rd HX1.out).1 1).trans pk
      have hkl := kindS_le nm
      obtain ⟨kd, hkd⟩ : ∃ kd : Int, kd = ((kindS nm : Nat) : Int) := ⟨_, rfl⟩
      rw [← hkd] at z1
      have j1 : (1 : Int) ≤ kd := by omega
      have j2 : kd ≤ 4 := by omega
      obtain ⟨k0, -, -, -⟩ := rd HXK.out
      have p4 := k0 4
      simp only [List.getElem?_toArray, List.getElem?_cons_zero, List.getElem?_cons_succ] at p4
      obtain ⟨z, hz, hbz⟩ := and_smallU (ykinds / 2 ^ kd.toNat) 1 (by decide)
      have hbz' : bits BinOp.and IntKind.i64 (ykinds / 2 ^ kd.toNat) 1 = (z : Int) := hbz
      have HLI := h_ (show z = 1 → u3 = u2 ∧ c3 = c2 ∧ a3 = a2 from fun e => HL.out hc (by rw [← hkd, ← HYS.out.2.2.2]; unfold inKind; rw [hbz', e, decide_eq_true j1, decide_eq_true j2]; rfl))
      clear hbz pk hk1 hkn hkl hkd k0 HKD HL
      subst hc
      rcases (show z = 0 ∨ z = 1 by omega) with rfl | rfl
      ·clear HLI
       go_wp2_with fail
       go_ret
       exact ⟨rfl, HB.out⟩
      ·obtain ⟨rfl, rfl, rfl⟩ := HLI.out rfl
       clear HLI
       obtain ⟨m0, m1, -, -⟩ := fault_facts HF2.out
       obtain ⟨n0, n1, -, -⟩ := fault_facts HF3.out
       have HSM := h_ (same10_any cs2 cs3 u3 u3 v3 (HU2.out.below HV2.out).see (HU3.out.below HV3.out).see HT3.out HT3.out true (sameU_refl u3))
       go_wp2_with (first
        | (refine l_load_w rfl 30 (.tmp 12) bU cs2 30 _ rfl rfl HX2.out rfl rfl HSC2.out ?_)
        | (refine l_load_w rfl 30 (.tmp 17) w3.heap.size cs3 30 _ rfl rfl HX3.out rfl rfl HSC3.out ?_))
       refine HSM.out.mono ?_
       rintro e w9 ⟨rfl, hb9⟩
       have HB9 := h_ (HB.out.trans (hb9.mono HB.out.size))
       clear hb9
       go_wp2_with fail
       go_ret
       exact ⟨rfl, HB9.out⟩
     ·have hcb : (c1 != 0) = true := bne_iff_ne.2 hc
      clear HKD HL hc
      go_wp2_with fail
      go_ret
      exact ⟨rfl, HB.out⟩
end Go.Proofs.YtdjkedcpehhmnaaGreatDoor
