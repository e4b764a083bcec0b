import Derived.Test.YtdjkedcpehhmnaaGreatDoorUS43
import Derived.Test.YtdjkedcpehhmnaaGreatDoorUS49
import Derived.Test.YtdjkedcpehhmnaaGreatDoorUS50
namespace Go.Proofs.YtdjkedcpehhmnaaGreatDoor
open Go Go.RowKit
set_option linter.unusedVariables false
set_option linter.unusedSimpArgs false
set_option maxRecDepth 100000
theorem xor_ne (x : Int) : bits BinOp.xor IntKind.i64 x 1 ≠ x := by
 intro h
 have h0 : bits BinOp.xor IntKind.i64 x 1 = IntKind.i64.wrap ((BitVec.ofInt 64 x ^^^ BitVec.ofInt 64 1).toNat : Int) := rfl
 rw [h0] at h
 have h1 : BitVec.ofInt 64 (IntKind.i64.wrap ((BitVec.ofInt 64 x ^^^ BitVec.ofInt 64 1).toNat : Int)) = BitVec.ofInt 64 x := by rw [h]
 have h2 : ∀ q : BitVec 64, BitVec.ofInt 64 (IntKind.i64.wrap (q.toNat : Int)) = q := by
  intro q
  apply BitVec.eq_of_toNat_eq
  rw [BitVec.toNat_ofInt, IntKind.wrap_i64]
  have := q.isLt
  omega
 rw [h2] at h1
 have h3 : BitVec.ofInt 64 x ^^^ (BitVec.ofInt 64 x ^^^ BitVec.ofInt 64 1) = BitVec.ofInt 64 x ^^^ BitVec.ofInt 64 x := by rw [h1]
 rw [← BitVec.xor_assoc, BitVec.xor_self, BitVec.zero_xor] at h3
 exact absurd h3 (by decide)
theorem app_new (t e : TypeId) (i : TypeInfo) (z : Value) (size bytes : Nat) (ht : Tryz.prog.underlying t = some (.slice e)) (hi : Tryz.prog.info? e = some i) (hz : i.zero = some z) (hsize : i.size = size) (hby : i.bytes = bytes) (hzs : z.cells.size = size) (hsz : 0 < size) (hb64 : bytes ≤ 64)
  {W : World} {oa : Option Addr} {n : Nat} (ca : Nat) {xs : List Value} (hl : xs.length = n * size) (hc : ∀ j u, xs[j]? = some u → ∃ b o, oa = some ⟨b, o, none⟩ ∧ W.cell? ⟨b, o + j, none⟩ = some u) (h1 : ∀ u ∈ xs, u.oneCell' = true) (hn : n ≤ 2000000) :
  ∃ v1 W1, (Builtin.append_ #[t, t] t #[.slice none 0 0, .slice oa n ca]).run Tryz.prog W = .ok v1 W1 ∧ W1.ownsRow W.heap.size e size v1 n xs ∧ Below W.heap.size W W1 := by
 have h0 : W.ownsRow W.heap.size e size (.slice none 0 0) 0 [] := World.ownsRow_nil _ _ _ _
 obtain ⟨v1, W1, hr1, ho1, hg1⟩ := append_rows (P := Tryz.prog) (w := W) W.heap.size t t e i z size bytes ht hi hz hsize hby hzs hsz _ _ _ h0 oa n ca xs hl hc h1 (by unfold maxLen; omega) (by have := Nat.mul_le_mul (show 0 + n ≤ 2000000 by omega) hb64; omega) (Nat.le_refl _)
 rw [Nat.zero_add, List.nil_append] at ho1
 exact ⟨v1, W1, hr1, ho1, (Below.refl _ _).grown hg1 (Nat.le_refl _) (fun k hk => by cases hk)⟩
theorem app_one (t e : TypeId) (i : TypeInfo) (z : Value) (size bytes : Nat) (ht : Tryz.prog.underlying t = some (.slice e)) (hi : Tryz.prog.info? e = some i) (hz : i.zero = some z) (hsize : i.size = size) (hby : i.bytes = bytes) (hzs : z.cells.size = size) (hsz : 0 < size) (hb64 : bytes ≤ 64)
  {W : World} {base : Nat} {v1 : Value} {n : Nat} {xs : List Value} (hown : W.ownsRow base e size v1 n xs) (A : Nat) (news : List Value) (hA : W.heap[A]? = some (.cells news.toArray e (0, 0))) (hl : news.length = size) (h1 : ∀ u ∈ news, u.oneCell' = true) (hn : n ≤ 2000000) (hbb : base ≤ W.heap.size) :
  ∃ o cap W2, (Builtin.append_ #[t, t] t #[v1, .slice (some ⟨A, 0, none⟩) 1 1]).run Tryz.prog W = .ok (.slice o (n + 1) cap) W2 ∧ W2.ownsRow base e size (.slice o (n + 1) cap) (n + 1) (xs ++ news) ∧ Below base W W2 ∧ Fr (fun k => v1.ownBlock = some k) W W2 := by
 obtain ⟨v2, W2, hr2, ho2, hg2⟩ := append_rows (P := Tryz.prog) (w := W) base t t e i z size bytes ht hi hz hsize hby hzs hsz _ _ _ hown (some ⟨A, 0, none⟩) 1 1 news (by rw [hl, Nat.one_mul]) (fun j u hu => ⟨A, 0, rfl, by rw [(rd hA).1, Nat.zero_add]; simpa using hu⟩) h1 (by unfold maxLen; omega) (by have := Nat.mul_le_mul (show n + 1 ≤ 2000001 by omega) hb64; omega) hbb
 obtain ⟨o, cap, rfl⟩ := ownsRow_form ho2
 exact ⟨o, cap, W2, hr2, ho2, (Below.refl _ _).grown hg2 hbb (fun k hk => (hown.lt k hk).1), (Fr.refl _ _).grown hg2 (fun k hk _ => hk)⟩
theorem cs_more {w W' : World} {oa : Option Addr} {xs : List CmdV} {l : List CmdS} (rr : CsRow w oa xs l) (hb : Below w.heap.size w W') {x0 : CmdV} {c0 : CmdS} (h0 : CmdSee W' x0 c0) {B c2 : Nat} {o2 : Option Addr} {T : TypeId}
  (hown : W'.ownsRow B T 2 (.slice o2 (xs ++ [x0]).length c2) (xs ++ [x0]).length (flatL encX (xs ++ [x0]))) : UcSee W' (.cs (l ++ [c0])) (.slice o2 (l.length + 1) c2) := by
 have hl := rr.len
 refine ⟨o2, c2, xs ++ [x0], by rw [List.length_append]; rfl, ⟨by simp [hl], RowRd.of_own (enc := encX) (k := 2) (fun _ => rfl) hown, fun i h1 h2 => ?_⟩, ?_⟩
 ·by_cases hi : i < xs.length
  ·rw [List.getElem_append_left hi, List.getElem_append_left (by omega)]
   exact (csBelow hb rr).see i hi (by omega)
  ·rw [List.getElem_append_right (by omega), List.getElem_append_right (by omega)]
   simp only [List.getElem_singleton]
   exact h0
 ·have := own_few hown
  simp [hl] at this ⊢
  exact this
structure Turned (w W : World) (C : Nat) (cs : Array Value) (u : UV) : Prop where
 box : W.heap[C]? = some (.cells cs 30 (0, 0))
 see : UnitSee W cs u
 typed : TypedU u
 bel : Below w.heap.size w W
theorem turned {w W : World} {C : Nat} {ca : Array Value} {a : UV} (hsa : UnitSee w ca a) (ta : TypedU a) (hb : Below w.heap.size w W) (hC : W.heap[C]? = some (.cells ca 30 (0, 0))) (hCw : w.heap.size ≤ C) (j : Nat) (hj : j < 35) (v : Value) (c : UC) (hc : c.tag = (zeroU j).tag)
  (hv : UcSee (W.setCell ⟨C, j, none⟩ v) c v) : Turned w (W.setCell ⟨C, j, none⟩ v) C (ca.setIfInBounds j v) (a.upd j c) := by
 have hB : Below w.heap.size w (W.setCell ⟨C, j, none⟩ v) := hb.setCell (p := ⟨C, j, none⟩) hCw v
 refine ⟨heap_setCell hC j v, ⟨by simp [hsa.size], fun k x hx => ?_⟩, ta.upd _ _ hc, hB⟩
 by_cases e : k = j
 ·subst e
  rw [Array.getElem?_setIfInBounds_self_of_lt (by rw [hsa.size]; exact hj)] at hx
  injection hx with hx
  subst hx
  rw [UV.upd_at]; exact hv
 ·rw [Array.getElem?_setIfInBounds_ne (Ne.symm e)] at hx
  rw [UV.upd_ne _ _ e]
  exact (hsa.fld k x hx).below hB
theorem upd_other (a : UV) (j : Nat) (hj : j < 35) (c : UC) (h : a j ≠ c) : sameU a (a.upd j c) = false ∧ sameU (a.upd j c) a = false := by
 have h1 : sameU a (a.upd j c) = false := sameU_ne j hj (by rw [UV.upd_at]; exact h)
 exact ⟨h1, by rw [sameU_comm]; exact h1⟩
theorem turned_end {w W : World} {C j : Nat} {c : UC} {ca cs : Array Value} {a : UV} (hsa : UnitSee w ca a) (ta : TypedU a) (hca : (Tryz.prog.info? 30).map (·.size) = some ca.size) (T : Turned w W C cs (a.upd j c)) (hj : j < 35) (hne : a j ≠ c) :
  Hid ((Tryz.prog.info? 30).map (·.size) = some cs.size) ∧ Hid (W.heap[C]? = some (.cells cs 30 (0, 0))) ∧ Hid (Below w.heap.size w W) ∧
  Hid (∀ V, Below W.heap.size W V → Calls Tryz.prog 21 #[.agg ca, .agg cs] V fun e w' => e = .returned (.bool false) ∧ Below V.heap.size V w') ∧ Hid (∀ V, Below W.heap.size W V → Calls Tryz.prog 21 #[.agg cs, .agg ca] V fun e w' => e = .returned (.bool false) ∧ Below V.heap.size V w') := by
 obtain ⟨e1, e2⟩ := upd_other a j hj c hne
 exact ⟨h_ (by rw [hca, hsa.size, T.see.size]), h_ T.box, h_ T.bel, h_ (fun V h => unitSame_any ca cs a (a.upd j c) V ((hsa.below T.bel).below h) (T.see.below h) ta T.typed false e1), h_ (fun V h => unitSame_any cs ca (a.upd j c) a V (T.see.below h) ((hsa.below T.bel).below h) T.typed ta false e2)⟩
theorem own_set {w : World} {base e k n C j : Nat} {v x : Value} {xs : List Value} (h : w.ownsRow base e k v n xs) (hC : C < base) : (w.setCell ⟨C, j, none⟩ x).ownsRow base e k v n xs :=
 ownsRow_fr h (Fr.setCell (M := fun q => q = C) (Fr.refl _ _) (p := ⟨C, j, none⟩) (fun _ => rfl) x) fun g hg _ => by have := (h.lt g hg).1; omega
theorem UcSee.one {w : World} : ∀ {c : UC} {v : Value}, UcSee w c v → v.oneCell' = true
 | .s _, _, h => by rw [show _ = _ from h]; rfl
 | .n _, _, h => by rw [show _ = _ from h]; rfl
 | .b _, _, h => by rw [show _ = _ from h]; rfl
 | .ss _, _, h => by obtain ⟨_, _, rfl, _⟩ := h; rfl
 | .ns _, _, h => by obtain ⟨_, _, rfl, _⟩ := h; rfl
 | .rs _, _, h => by obtain ⟨_, _, rfl, _⟩ := h; rfl
 | .ps _, _, h => by obtain ⟨_, _, rfl, _⟩ := h; rfl
 | .cs _, _, h => by obtain ⟨_, _, _, rfl, _⟩ := h; rfl
theorem UnitSee.one {w : World} {cs : Array Value} {u : UV} (h : UnitSee w cs u) : (cs.all fun x => x.oneCell') = true := by
 rw [Array.all_eq_true]
 intro i hi
 exact (h.fld i _ (Array.getElem?_eq_getElem hi)).one
theorem int_flat {w : World} {oa : Option Addr} {l : List Int} (h : IntRow w oa l) : ∀ j u, (intVals l)[j]? = some u → ∃ b o, oa = some ⟨b, o, none⟩ ∧ w.cell? ⟨b, o + j, none⟩ = some u := by
 intro j u hu
 have hj : j < l.length := by
  have := (List.getElem?_eq_some_iff.1 hu).1
  rwa [intVals_length] at this
 obtain ⟨b, o, e, hc⟩ := h j hj
 refine ⟨b, o, e, ?_⟩
 rw [hc]
 simp [intVals, hj] at hu
 rw [hu]
theorem frame_form {ops : Array Oper} {a0 a : Act} (hs : a.tmps.size = a0.tmps.size) (hd : a.defers = a0.defers) (h : ∀ k, (∀ (i : Nat) (o : Oper), ops[i]? = some o → o.dst ≠ some k) → a.tmps[k]? = a0.tmps[k]?) (L : List Nat)
  (hL : (ops.all fun o => match o.dst with | some d => L.contains d | none => true) = true) : a = ⟨L.foldl (fun t k => t.setIfInBounds k (a.tmps.getD k undef)) a0.tmps, a0.defers⟩ := by
 obtain ⟨t, d⟩ := a
 simp only at hd hs
 subst hd
 congr 1
 obtain ⟨h1, h2⟩ := foldl_set (f := fun k => t.getD k undef) L a0.tmps
 apply Array.ext_getElem?
 intro k
 rw [h2 k]
 by_cases hk : k ∈ L
 ·by_cases hl : k < a0.tmps.size
  ·rw [if_pos ⟨hk, hl⟩, Array.getElem?_eq_getElem (by omega)]
   simp [Array.getD, show k < t.size by omega]
  ·rw [if_neg (fun h => hl h.2), Array.getElem?_eq_none (by omega), Array.getElem?_eq_none (by omega)]
 ·rw [if_neg (fun h => hk h.1)]
  refine h k fun i o ho e => ?_
  rw [Array.all_eq_true] at hL
  obtain ⟨hi, he⟩ := Array.getElem?_eq_some_iff.1 ho
  have := hL i hi
  rw [he, e] at this
  exact hk (by simpa using this)
theorem stepV_met {P : Program} {ops : Array Oper} {Q : Exit → Act → World → Prop} {F : Act → Prop} {S : World → Prop} {val : Nat → Value} {i g k : Nat} {og o : Oper} {c : Bool} (hg : o.guard = some (g, c)) (hog : ops[g]? = some og) (hk : og.dst = some k) (hwt : waits o g) (hv : val g = .bool c)
  (h : ∀ (a : Act) (w : World), S w → F a → (∀ j oj d, waits o j → ops[j]? = some oj → oj.dst = some d → a.tmps[d]? = some (val j)) → Oper.wp P o a w (fun a' w' => a' = a.put o.dst (val i) ∧ S w') Q) : StepV P ops Q F S val i o := by
 intro a w hS hF hd
 have hd2 : ∀ j oj d, waits o j → ops[j]? = some oj → oj.dst = some d → a.tmps[d]? = some (val j) := fun j oj d ⟨e, he, hb, hj⟩ ho hdst => by subst hj; exact hd e he hb oj d ho hdst
 have hflag := hd2 g og k hwt hog hk
 rw [hv] at hflag
 have hgb : (ops[g]?).bind (·.dst) = some k := by rw [hog]; exact hk
 rw [if_pos (wanted_yes hg hgb hflag)]
 exact h a w hS hF hd2
set_option maxHeartbeats 16000000 in
theorem unitSameLaw_any (ca cb : Array Value) (a b : UV) (ix : Int) (w : World) (hM : MaxAt w) (hsa : UnitSee w ca a) (hsb : UnitSee w cb b) (ta : TypedU a) (tb : TypedU b) (sa : ∀ j, (a j).small) :
  Calls Tryz.prog 9 #[.agg ca, .agg cb, .int .i64 ix] w fun e w' => e = .returned (.bool true) ∧ Below w.heap.size w w' := by
 have hB1 : Below w.heap.size w (w.alloc (.cells ca 30)) := (Below.refl _ _).alloc (Nat.le_refl _) _
 have hz : (w.alloc (.cells ca 30)).heap.size = w.heap.size + 1 := by simp
 have hB2 : Below (w.alloc (.cells ca 30)).heap.size (w.alloc (.cells ca 30)) ((w.alloc (.cells ca 30)).alloc (.cells cb 30)) := (Below.refl _ _).alloc (Nat.le_refl _) _
 have hga := heap_below (heap_alloc_new w (.cells ca 30)) hB2
 have hgb := heap_alloc_new (w.alloc (.cells ca 30)) (.cells cb 30)
 rw [hz] at hgb
 have HB := h_ (Below.more hB1 hB2)
 obtain ⟨w2, hw2⟩ : ∃ w2, w2 = (w.alloc (.cells ca 30)).alloc (.cells cb 30) := ⟨_, rfl⟩
 rw [← hw2] at hga hgb HB
 have HGA := h_ hga; have HGB := h_ hgb; have HW2 := h_ hw2
 have HSA := h_ hsa; have HSB := h_ hsb; have HTA := h_ ta; have HTB := h_ tb; have HSM := h_ sa
 have HCA := h_ (show (Tryz.prog.info? 30).map (·.size) = some ca.size by rw [hsa.size]; rfl)
 have HCB := h_ (show (Tryz.prog.info? 30).map (·.size) = some cb.size by rw [hsb.size]; rfl)
 have HONE := h_ (show (ca.all fun x => x.oneCell') = true from UnitSee.one hsa)
 have HSH := h_ (shownU_any w2 (hM.below HB.out))
 clear hB1 hB2 hz hga hgb hw2 hsa hsb ta tb sa
 go_enter Tryz.func9, Tryz.ntmps9
 go_upto_region 1 with fail
 rw [← HW2.out]
 clear HW2
 go_wp2_with fail
 refine HSH.out.mono ?_
 rintro e w3 ⟨rfl, hb3⟩
 replace HGA := h_ (heap_below HGA.out hb3); replace HGB := h_ (heap_below HGB.out hb3); replace HB := h_ (HB.out.trans (hb3.mono HB.out.size))
 clear hb3 HSH
 go_upto_region 3 with fail
 obtain ⟨q, hq⟩ : ∃ q, sameU a b = q := ⟨_, rfl⟩
 have HSS := h_ (fun W (h : Below w.heap.size w W) => unitSame_any ca ca a a W (HSA.out.below h) (HSA.out.below h) HTA.out HTA.out true (sameU_refl a))
 have HS1 := h_ (fun W (h : Below w.heap.size w W) => unitSame_any ca cb a b W (HSA.out.below h) (HSB.out.below h) HTA.out HTB.out q hq)
 have HS2 := h_ (fun W (h : Below w.heap.size w W) => same10_any ca cb a b W (HSA.out.below h) (HSB.out.below h) HTA.out HTB.out q hq)
 have HBW := h_ (fun W (h : Below w3.heap.size w3 W) => (HB.out.trans (h.mono HB.out.size) : Below w.heap.size w W))
 let vals : List Value := [.agg ca, .agg ca, .bool true, .bool false, .bool false, .agg ca, .agg cb, .bool q, .agg ca, .agg cb, .bool q, .bool false, .bool false]
 refine wp_region_vals (N := 153) (fun a => a.tmps[3]? = some (.pointer (some ⟨w.heap.size, 0, none⟩)) ∧ a.tmps[4]? = some (.pointer (some ⟨w.heap.size + 1, 0, none⟩))) (fun W => Below w3.heap.size w3 W) (fun i => vals.getD i undef) [10, 11, 12, 13, 14, 15, 16, 17, 18, 19, 20, 21, 22] (by kernel_rfl) (by kernel_rfl) rfl (below_dn ⟨1, rfl⟩) (fun a' h => ⟨(h 3 (not_dst (by kernel_rfl))).trans rfl, (h 4 (not_dst (by kernel_rfl))).trans rfl⟩) ?_ ?_
 ·refine ops_all ?_
  refine allFrom1 (stepV_plain rfl fun a W hS hF hs => ?_) ?_
  ·exact oper_load_all 30 (.tmp 3) (w.heap.size) ca 30 _ rfl (ev_of hF.1).1 (heap_below HGA.out hS) rfl rfl HCA.out ⟨rfl, hS⟩
  refine allFrom1 (stepV_plain rfl fun a W hS hF hs => ?_) ?_
  ·exact oper_load_all 30 (.tmp 3) (w.heap.size) ca 30 _ rfl (ev_of hF.1).1 (heap_below HGA.out hS) rfl rfl HCA.out ⟨rfl, hS⟩
  refine allFrom1 (stepV_plain rfl fun a W hS hF hs => ?_) ?_
  ·have s0 : a.tmps[10]? = some (.agg ca) := hs 0 _ 10 ⟨⟨0, .data⟩, by simp, rfl, rfl⟩ rfl rfl
   have s1 : a.tmps[11]? = some (.agg ca) := hs 1 _ 11 ⟨⟨1, .data⟩, by simp, rfl, rfl⟩ rfl rfl
   exact call_op (by obtain ⟨y0, z0⟩ := ev_of s0; obtain ⟨y1, z1⟩ := ev_of s1; clear hs hS hF; go_simp) (HSS.out W (HBW.out W hS)) (by rintro e w' ⟨rfl, hb⟩; exact ⟨rfl, rfl, hS.trans (hb.mono hS.size)⟩)
  refine allFrom1 (stepV_plain rfl fun a W hS hF hs => ?_) ?_
  ·have s0 : a.tmps[12]? = some (.bool true) := hs 2 _ 12 ⟨⟨2, .data⟩, by simp, rfl, rfl⟩ rfl rfl
   exact oper_val (.bool false) (by obtain ⟨y0, z0⟩ := ev_of s0; clear hs hS hF; go_simp) ⟨rfl, hS⟩
  refine allFrom1 (stepV_plain rfl fun a W hS hF hs => ?_) ?_
  ·have s0 : a.tmps[13]? = some (.bool false) := hs 3 _ 13 ⟨⟨3, .data⟩, by simp, rfl, rfl⟩ rfl rfl
   exact oper_val (.bool false) (by obtain ⟨y0, z0⟩ := ev_of s0; clear hs hS hF; go_simp) ⟨rfl, hS⟩
  refine allFrom1 (stepV_met (g := 4) (k := 14) rfl rfl rfl ⟨⟨4, .guard⟩, by simp, rfl, rfl⟩ rfl fun a W hS hF hs => ?_) ?_
  ·exact oper_load_all 30 (.tmp 3) (w.heap.size) ca 30 _ rfl (ev_of hF.1).1 (heap_below HGA.out hS) rfl rfl HCA.out ⟨rfl, hS⟩
  refine allFrom1 (stepV_met (g := 4) (k := 14) rfl rfl rfl ⟨⟨4, .guard⟩, by simp, rfl, rfl⟩ rfl fun a W hS hF hs => ?_) ?_
  ·exact oper_load_all 30 (.tmp 4) (w.heap.size + 1) cb 30 _ rfl (ev_of hF.2).1 (heap_below HGB.out hS) rfl rfl HCB.out ⟨rfl, hS⟩
  refine allFrom1 (stepV_met (g := 4) (k := 14) rfl rfl rfl ⟨⟨4, .guard⟩, by simp, rfl, rfl⟩ rfl fun a W hS hF hs => ?_) ?_
  ·have s0 : a.tmps[15]? = some (.agg ca) := hs 5 _ 15 ⟨⟨5, .data⟩, by simp, rfl, rfl⟩ rfl rfl
   have s1 : a.tmps[16]? = some (.agg cb) := hs 6 _ 16 ⟨⟨6, .data⟩, by simp, rfl, rfl⟩ rfl rfl
   exact call_op (by obtain ⟨y0, z0⟩ := ev_of s0; obtain ⟨y1, z1⟩ := ev_of s1; clear hs hS hF; go_simp) (HS1.out W (HBW.out W hS)) (by rintro e w' ⟨rfl, hb⟩; exact ⟨rfl, rfl, hS.trans (hb.mono hS.size)⟩)
  refine allFrom1 (stepV_met (g := 4) (k := 14) rfl rfl rfl ⟨⟨4, .guard⟩, by simp, rfl, rfl⟩ rfl fun a W hS hF hs => ?_) ?_
  ·exact oper_load_all 30 (.tmp 3) (w.heap.size) ca 30 _ rfl (ev_of hF.1).1 (heap_below HGA.out hS) rfl rfl HCA.out ⟨rfl, hS⟩
  refine allFrom1 (stepV_met (g := 4) (k := 14) rfl rfl rfl ⟨⟨4, .guard⟩, by simp, rfl, rfl⟩ rfl fun a W hS hF hs => ?_) ?_
  ·exact oper_load_all 30 (.tmp 4) (w.heap.size + 1) cb 30 _ rfl (ev_of hF.2).1 (heap_below HGB.out hS) rfl rfl HCB.out ⟨rfl, hS⟩
  refine allFrom1 (stepV_met (g := 4) (k := 14) rfl rfl rfl ⟨⟨4, .guard⟩, by simp, rfl, rfl⟩ rfl fun a W hS hF hs => ?_) ?_
  ·have s0 : a.tmps[18]? = some (.agg ca) := hs 8 _ 18 ⟨⟨8, .data⟩, by simp, rfl, rfl⟩ rfl rfl
   have s1 : a.tmps[19]? = some (.agg cb) := hs 9 _ 19 ⟨⟨9, .data⟩, by simp, rfl, rfl⟩ rfl rfl
   exact call_op (by obtain ⟨y0, z0⟩ := ev_of s0; obtain ⟨y1, z1⟩ := ev_of s1; clear hs hS hF; go_simp) (HS2.out W (HBW.out W hS)) (by rintro e w' ⟨rfl, hb⟩; exact ⟨rfl, rfl, hS.trans (hb.mono hS.size)⟩)
  refine allFrom1 (stepV_met (g := 4) (k := 14) rfl rfl rfl ⟨⟨4, .guard⟩, by simp, rfl, rfl⟩ rfl fun a W hS hF hs => ?_) ?_
  ·have s0 : a.tmps[17]? = some (.bool q) := hs 7 _ 17 ⟨⟨7, .data⟩, by simp, rfl, rfl⟩ rfl rfl
   have s1 : a.tmps[20]? = some (.bool q) := hs 10 _ 20 ⟨⟨10, .data⟩, by simp, rfl, rfl⟩ rfl rfl
   exact oper_val (.bool false) (by obtain ⟨y0, z0⟩ := ev_of s0; obtain ⟨y1, z1⟩ := ev_of s1; clear hs hS hF; cases q <;> go_simp) ⟨rfl, hS⟩
  refine allFrom1 (stepV_plain rfl fun a W hS hF hs => ?_) ?_
  ·have s0 : a.tmps[14]? = some (.bool false) := hs 4 _ 14 ⟨⟨4, .data⟩, by simp, rfl, rfl⟩ rfl rfl
   have s1 : a.tmps[21]? = some (.bool false) := hs 11 _ 21 ⟨⟨11, .data⟩, by simp, rfl, rfl⟩ rfl rfl
   exact oper_val (.bool false) (by obtain ⟨y0, z0⟩ := ev_of s0; obtain ⟨y1, z1⟩ := ev_of s1; clear hs hS hF; go_simp) ⟨rfl, hS⟩
  exact trivial
 ·intro a' W hS hsz hdf hout hall
  have s22 : a'.tmps.getD 22 undef = .bool false := getD_of (hall 12 _ 22 rfl rfl)
  have hform := frame_form hsz hdf hout [10, 11, 12, 13, 14, 15, 16, 17, 18, 19, 20, 21, 22] (by kernel_rfl)
  simp only [List.foldl_cons, List.foldl_nil, s22, sA_, sB_, sC_] at hform
  replace HGA := h_ (heap_below HGA.out hS); replace HGB := h_ (heap_below HGB.out hS); replace HB := h_ (HB.out.trans (hS.mono HB.out.size))
  rw [hform]
  clear hform s22 hall hout hdf hsz hS vals
  generalize a'.tmps.getD 10 undef = y10
  generalize a'.tmps.getD 11 undef = y11
  generalize a'.tmps.getD 12 undef = y12
  generalize a'.tmps.getD 13 undef = y13
  generalize a'.tmps.getD 14 undef = y14
  generalize a'.tmps.getD 15 undef = y15
  generalize a'.tmps.getD 16 undef = y16
  generalize a'.tmps.getD 17 undef = y17
  generalize a'.tmps.getD 18 undef = y18
  generalize a'.tmps.getD 19 undef = y19
  generalize a'.tmps.getD 20 undef = y20
  generalize a'.tmps.getD 21 undef = y21
  clear a' HBW HS1 HS2 HSS
  simp only [Exit.then]
  have HON := h_ (HSA.out.below HB.out)
  go_upto_region 6 with (first
   | (refine l_load rfl 30 (.tmp 3) w.heap.size ca 30 _ rfl rfl HGA.out rfl rfl HCA.out ?_)
   | (refine l_alloc rfl _ unitZero rfl (run_alloc_unit _) ?_; intro w4 h4 hb4)
   | (refine l_store rfl 30 (.tmp 7) (.tmp 23) W.heap.size ca unitZero 30 rfl rfl rfl h4 (by rw [HSA.out.size]; rfl) HCA.out HONE.out ?_; intro w5 h5 hf5))
  obtain ⟨C, hC⟩ : ∃ C, C = W.heap.size := ⟨_, rfl⟩
  have hlA := lt_heap HGA.out
  rw [← hC] at h5 h4 hf5 hb4 hlA ⊢
  have HA5 := h_ (hf5.heap (heap_below HGA.out (by rw [← hC]; exact hb4)) (by omega))
  have HB5 := h_ ((HB.out.trans ((by rw [hC] at hb4; exact hb4 : Below W.heap.size W w4).mono HB.out.size)).trans (hf5.below _ (by have := HB.out.size; have := hb4.size; omega) (fun k hk e => by have := HB.out.size; omega)))
  have HAC := h_ (show w.heap.size ≠ C by omega)
  have HCw := h_ (show w.heap.size ≤ C by have := HB.out.size; omega)
  have HC5 := h_ h5
  have HCl := h_ (lt_heap h5)
  clear h5 h4 hf5 hb4 hlA hC HGA HGB HB HON
  obtain ⟨n, hn, hbits⟩ := and_smallU ix 15 (by decide)
  have hbits' : bits BinOp.and IntKind.i64 ix 15 = (n : Int) := hbits
  clear hbits
  obtain ⟨i0, hi0, hz0, hz1, hz2⟩ := info_parts infoRel'
  obtain ⟨i1, hi1, hy0, hy1, hy2⟩ := info_parts infoExec
  obtain ⟨i2, hi2, hx0, hx1, hx2⟩ := info_parts infoPair
  obtain ⟨i3, hi3, hw0, hw1, hw2⟩ := info_parts infoInt
  obtain ⟨i4, hi4, hv0, hv1, hv2⟩ := info_parts infoStr
  rcases (show n = 0 ∨ n = 1 ∨ n = 2 ∨ n = 3 ∨ n = 4 ∨ n = 5 ∨ n = 6 ∨ n = 7 ∨ n = 8 ∨ n = 9 ∨ n = 10 ∨ n = 11 ∨ n = 12 ∨ n = 13 ∨ n = 14 ∨ n = 15 by omega) with rfl | rfl | rfl | rfl | rfl | rfl | rfl | rfl | rfl | rfl | rfl | rfl | rfl | rfl | rfl | rfl
  ·obtain ⟨v, qv, sv⟩ := HSA.out.at 2 (by decide)
   obtain ⟨x, ex⟩ := tag_s (HTA.out 2)
   rw [ex] at sv
   obtain rfl : v = .string ⟨x.toArray⟩ := sv
   have kC := ((rd HC5.out).1 2).trans qv
   have kf := (rd HC5.out).2.1 2
   have kA := ((rd HA5.out).1 2).trans qv
   clear qv
   have hsm := HSM.out 2
   rw [ex] at hsm
   have hcat0 := cat_lists x [120] (by have : x.length ≤ 1048576 := hsm; simp; omega)
   obtain ⟨z, hz⟩ : ∃ z, z = x ++ [120] := ⟨_, rfl⟩
   rw [← hz] at hcat0
   have hcat : Op.stringOp .add ⟨x.toArray⟩ ⟨#[120]⟩ = pure (.string ⟨z.toArray⟩) := hcat0
   have hNE : a 2 ≠ .s z := by rw [ex, hz]; intro e; injection e with e; have := congrArg List.length e; simp at this
   clear hcat0 hsm hz ex
   go_upto_region 38 with fail
   have T := turned HSA.out HTA.out HB5.out HC5.out HCw.out 2 (by decide) (.string ⟨z.toArray⟩) (.s z) rfl rfl
   have HA9 := h_ (heap_other HA5.out (a := ⟨C, 2, none⟩) HAC.out (.string ⟨z.toArray⟩))
   clear kC kf kA hcat
   obtain ⟨HD, HX, HBf, HQ1, HQ2⟩ := turned_end HSA.out HTA.out HCA.out T (by decide) hNE
   clear T hNE
   generalize w5.setCell ⟨C, 2, none⟩ (.string ⟨z.toArray⟩) = wz at *
   generalize ca.setIfInBounds 2 (.string ⟨z.toArray⟩) = cz at *
   go_wp2_with (first
    | (refine l_load rfl 30 (.tmp 3) w.heap.size ca 30 _ rfl rfl HA9.out rfl rfl HCA.out ?_)
    | (refine l_load rfl 30 (.tmp 7) C cz 30 _ rfl rfl HX.out rfl rfl HD.out ?_))
   refine (HQ1.out wz (Below.refl _ _)).mono ?_
   rintro e w8 ⟨rfl, hb⟩
   have HA8 := h_ (heap_below HA9.out hb); have HX8 := h_ (heap_below HX.out hb); have HB8 := h_ hb
   clear hb
   go_wp2_with (first
    | (refine l_load_w rfl 30 (.tmp 3) w.heap.size ca 30 _ rfl rfl HA8.out rfl rfl HCA.out ?_)
    | (refine l_load_w rfl 30 (.tmp 7) C cz 30 _ rfl rfl HX8.out rfl rfl HD.out ?_))
   refine (HQ2.out w8 HB8.out).mono ?_
   rintro e w9 ⟨rfl, hb⟩
   have HB9 := h_ (HBf.out.trans ((HB8.out.trans (hb.mono HB8.out.size)).mono HBf.out.size))
   clear hb
   go_wp2_with fail
   go_ret
   exact ⟨rfl, HB9.out⟩
  ·obtain ⟨v, qv, sv⟩ := HSA.out.at 4 (by decide)
   obtain ⟨x, ex⟩ := tag_rs (HTA.out 4)
   rw [ex] at sv
   obtain ⟨oa, cp, rfl, rr, lr⟩ := sv
   have hsm := HSM.out 4
   rw [ex] at hsm
   have kA := ((rd HA5.out).1 4).trans qv
   obtain ⟨v1, y1, hr1, ho1, hb1⟩ := app_new 24 54 i0 (.agg #[.int .i64 0, .string ⟨#[]⟩]) 2 24 Tryz.underlying24 hi0 hz0 hz1 hz2 (by rfl) (by decide) (by decide) (W := w5) cp (flatL_length (enc := encL) (fun _ => rfl) x) ((rr.below HB5.out).flat (fun _ => rfl) (by decide)) (flatL_oneCell encL_one x) (by have : x.length ≤ 1048576 := hsm.1; omega)
   have hbA : Below y1.heap.size y1 (y1.alloc (.cells ((encL ((0, []) : Int × Str)) : List Value).toArray 54)) := (Below.refl _ _).alloc (Nat.le_refl _) _
   obtain ⟨o2, c2, y2, hr2, ho2, hb2, -⟩ := app_one 24 54 i0 (.agg #[.int .i64 0, .string ⟨#[]⟩]) 2 24 Tryz.underlying24 hi0 hz0 hz1 hz2 (by rfl) (by decide) (by decide) (own_keeps ho1 hbA) y1.heap.size (encL ((0, []) : Int × Str)) (heap_alloc_new y1 _) rfl (encL_one _) (by have : x.length ≤ 1048576 := hsm.1; omega) (Nat.le_trans hb1.size hbA.size)
   have HR1 := h_ hr1; have HR2 := h_ hr2
   have hb5 : Below w5.heap.size w5 y2 := (hb1.trans (hbA.mono hb1.size)).trans hb2
   have HCy := h_ (heap_below HC5.out hb5); have HAy := h_ (heap_below HA5.out hb5); have HBy := h_ (HB5.out.trans (hb5.mono HB5.out.size))
   have kC := ((rd HCy.out).1 4).trans qv
   have kf := (rd HCy.out).2.1 4
   have HNE := h_ (show a 4 ≠ (.rs (x ++ [((0, []) : Int × Str)])) by rw [ex]; intro e; injection e with e; have := congrArg List.length e; simp at this)
   have hO : (y2.setCell ⟨C, 4, none⟩ (.slice o2 (x.length + 1) c2)).ownsRow w5.heap.size 54 2 (.slice o2 (x ++ [((0, []) : Int × Str)]).length c2) (x ++ [((0, []) : Int × Str)]).length (flatL encL (x ++ [((0, []) : Int × Str)])) := own_set (by rw [List.length_append, flatL_append, show flatL encL [((0, []) : Int × Str)] = encL ((0, []) : Int × Str) by simp [flatL]]; exact ho2) HCl.out
   have hsee : UcSee (y2.setCell ⟨C, 4, none⟩ (.slice o2 (x.length + 1) c2)) (.rs (x ++ [((0, []) : Int × Str)])) (.slice o2 (x.length + 1) c2) := ⟨o2, c2, by rw [List.length_append]; rfl, RowRd.of_own (enc := encL) (k := 2) (fun _ => rfl) (hO : _), own_few hO⟩
   have HSE := h_ hsee
   clear hr1 ho1 hb1 hbA hr2 ho2 hb2 hb5 qv hsm rr lr ex hO hsee
   go_upto_region 38 with (at_builtin; first | refine wpList_append_run rfl _ _ 24 rfl HR1.out rfl rfl ?_ | refine wpList_append_run rfl _ _ 24 rfl HR2.out rfl rfl ?_)
   have T := turned HSA.out HTA.out HBy.out HCy.out HCw.out 4 (by decide) (.slice o2 (x.length + 1) c2) (.rs (x ++ [((0, []) : Int × Str)])) rfl HSE.out
   have HA9 := h_ (heap_other HAy.out (a := ⟨C, 4, none⟩) HAC.out (.slice o2 (x.length + 1) c2))
   have hNE := HNE.out
   clear kC kf kA HR1 HR2 HSE HNE
   obtain ⟨HD, HX, HBf, HQ1, HQ2⟩ := turned_end HSA.out HTA.out HCA.out T (by decide) hNE
   clear T hNE
   generalize y2.setCell ⟨C, 4, none⟩ (.slice o2 (x.length + 1) c2) = wz at *
   generalize ca.setIfInBounds 4 (.slice o2 (x.length + 1) c2) = cz at *
   go_wp2_with (first
    | (refine l_load rfl 30 (.tmp 3) w.heap.size ca 30 _ rfl rfl HA9.out rfl rfl HCA.out ?_)
    | (refine l_load rfl 30 (.tmp 7) C cz 30 _ rfl rfl HX.out rfl rfl HD.out ?_))
   refine (HQ1.out wz (Below.refl _ _)).mono ?_
   rintro e w8 ⟨rfl, hb⟩
   have HA8 := h_ (heap_below HA9.out hb); have HX8 := h_ (heap_below HX.out hb); have HB8 := h_ hb
   clear hb
   go_wp2_with (first
    | (refine l_load_w rfl 30 (.tmp 3) w.heap.size ca 30 _ rfl rfl HA8.out rfl rfl HCA.out ?_)
    | (refine l_load_w rfl 30 (.tmp 7) C cz 30 _ rfl rfl HX8.out rfl rfl HD.out ?_))
   refine (HQ2.out w8 HB8.out).mono ?_
   rintro e w9 ⟨rfl, hb⟩
   have HB9 := h_ (HBf.out.trans ((HB8.out.trans (hb.mono HB8.out.size)).mono HBf.out.size))
   clear hb
   go_wp2_with fail
   go_ret
   exact ⟨rfl, HB9.out⟩
  ·obtain ⟨v, qv, sv⟩ := HSA.out.at 9 (by decide)
   obtain ⟨x, ex⟩ := tag_cs (HTA.out 9)
   rw [ex] at sv
   obtain ⟨oa, cp, xs, rfl, rr, lr⟩ := sv
   have hsm := HSM.out 9
   rw [ex] at hsm
   have kA := ((rd HA5.out).1 9).trans qv
   obtain ⟨v1, y1, hr1, ho1, hb1⟩ := app_new 25 56 i1 (.agg #[.bool false, .slice none 0 0]) 2 32 Tryz.underlying25 hi1 hy0 hy1 hy2 (by rfl) (by decide) (by decide) (W := w5) cp (n := x.length) (xs := flatL encX xs) (by rw [flatL_length (enc := encX) (k := 2) (fun _ => rfl), rr.len]) ((csBelow HB5.out rr).row.flat (fun _ => rfl) (by decide)) (flatL_oneCell encX_one xs) (by have : x.length ≤ 1048576 := hsm.1; omega)
   have hbS : Below y1.heap.size y1 y1 := Below.refl _ _
   have hbA : Below y1.heap.size y1 (y1.alloc (.cells (encX (⟨false, none, 0, 0⟩ : CmdV)).toArray 56)) := (Below.refl _ _).alloc (Nat.le_refl _) _
   obtain ⟨o2, c2, y2, hr2, ho2, hb2, hf2⟩ := app_one 25 56 i1 (.agg #[.bool false, .slice none 0 0]) 2 32 Tryz.underlying25 hi1 hy0 hy1 hy2 (by rfl) (by decide) (by decide) (own_keeps (own_keeps ho1 hbS) hbA) y1.heap.size (encX (⟨false, none, 0, 0⟩ : CmdV)) (heap_alloc_new y1 _) rfl (encX_one _) (by have : x.length ≤ 1048576 := hsm.1; omega) (Nat.le_trans hb1.size (Nat.le_trans hbS.size hbA.size))
   have HR1 := h_ hr1; have HR2 := h_ hr2
   have hb5 : Below w5.heap.size w5 y2 := ((hb1.trans (hbS.mono hb1.size)).trans (hbA.mono (Nat.le_trans hb1.size hbS.size))).trans hb2
   have HCy := h_ (heap_below HC5.out hb5); have HAy := h_ (heap_below HA5.out hb5); have HBy := h_ (HB5.out.trans (hb5.mono HB5.out.size))
   have kC := ((rd HCy.out).1 9).trans qv
   have kf := (rd HCy.out).2.1 9
   have HNE := h_ (show a 9 ≠ (.cs (x ++ [((false, []) : CmdS)])) by rw [ex]; intro e; injection e with e; have := congrArg List.length e; simp at this)
   have hO : (y2.setCell ⟨C, 9, none⟩ (.slice o2 (x.length + 1) c2)).ownsRow w5.heap.size 56 2 (.slice o2 (xs ++ [(⟨false, none, 0, 0⟩ : CmdV)]).length c2) (xs ++ [(⟨false, none, 0, 0⟩ : CmdV)]).length (flatL encX (xs ++ [(⟨false, none, 0, 0⟩ : CmdV)])) := own_set (by rw [List.length_append, flatL_append, show flatL encX [(⟨false, none, 0, 0⟩ : CmdV)] = encX (⟨false, none, 0, 0⟩ : CmdV) by simp [flatL], rr.len]; exact ho2) HCl.out
   have hsee : UcSee (y2.setCell ⟨C, 9, none⟩ (.slice o2 (x.length + 1) c2)) (.cs (x ++ [((false, []) : CmdS)])) (.slice o2 (x.length + 1) c2) := by
    refine cs_more rr (HBy.out.setCell (p := ⟨C, 9, none⟩) HCw.out _) ⟨rfl, rfl, StrRow.nil _ _, Nat.zero_le _⟩ hO
   have HSE := h_ hsee
   clear hr1 ho1 hb1 hbS hbA hr2 ho2 hb2 hf2 hb5 qv hsm rr lr ex hO hsee
   go_upto_region 38 with (at_builtin; first | refine wpList_append_run rfl _ _ 25 rfl HR1.out rfl rfl ?_ | refine wpList_append_run rfl _ _ 25 rfl HR2.out rfl rfl ?_)
   have T := turned HSA.out HTA.out HBy.out HCy.out HCw.out 9 (by decide) (.slice o2 (x.length + 1) c2) (.cs (x ++ [((false, []) : CmdS)])) rfl HSE.out
   have HA9 := h_ (heap_other HAy.out (a := ⟨C, 9, none⟩) HAC.out (.slice o2 (x.length + 1) c2))
   have hNE := HNE.out
   clear kC kf kA HR1 HR2 HSE HNE
   obtain ⟨HD, HX, HBf, HQ1, HQ2⟩ := turned_end HSA.out HTA.out HCA.out T (by decide) hNE
   clear T hNE
   generalize y2.setCell ⟨C, 9, none⟩ (.slice o2 (x.length + 1) c2) = wz at *
   generalize ca.setIfInBounds 9 (.slice o2 (x.length + 1) c2) = cz at *
   go_wp2_with (first
    | (refine l_load rfl 30 (.tmp 3) w.heap.size ca 30 _ rfl rfl HA9.out rfl rfl HCA.out ?_)
    | (refine l_load rfl 30 (.tmp 7) C cz 30 _ rfl rfl HX.out rfl rfl HD.out ?_))
   refine (HQ1.out wz (Below.refl _ _)).mono ?_
   rintro e w8 ⟨rfl, hb⟩
   have HA8 := h_ (heap_below HA9.out hb); have HX8 := h_ (heap_below HX.out hb); have HB8 := h_ hb
   clear hb
   go_wp2_with (first
    | (refine l_load_w rfl 30 (.tmp 3) w.heap.size ca 30 _ rfl rfl HA8.out rfl rfl HCA.out ?_)
    | (refine l_load_w rfl 30 (.tmp 7) C cz 30 _ rfl rfl HX8.out rfl rfl HD.out ?_))
   refine (HQ2.out w8 HB8.out).mono ?_
   rintro e w9 ⟨rfl, hb⟩
   have HB9 := h_ (HBf.out.trans ((HB8.out.trans (hb.mono HB8.out.size)).mono HBf.out.size))
   clear hb
   go_wp2_with fail
   go_ret
   exact ⟨rfl, HB9.out⟩
  ·obtain ⟨v, qv, sv⟩ := HSA.out.at 19 (by decide)
   obtain ⟨x, ex⟩ := tag_ps (HTA.out 19)
   rw [ex] at sv
   obtain ⟨oa, cp, rfl, rr, lr⟩ := sv
   have hsm := HSM.out 19
   rw [ex] at hsm
   have kA := ((rd HA5.out).1 19).trans qv
   obtain ⟨v1, y1, hr1, ho1, hb1⟩ := app_new 27 58 i2 (.agg #[.string ⟨#[]⟩, .string ⟨#[]⟩]) 2 32 Tryz.underlying27 hi2 hx0 hx1 hx2 (by rfl) (by decide) (by decide) (W := w5) cp (flatL_length (enc := encP) (fun _ => rfl) x) ((rr.below HB5.out).flat (fun _ => rfl) (by decide)) (flatL_oneCell encP_one x) (by have : x.length ≤ 1048576 := hsm.1; omega)
   have hbA : Below y1.heap.size y1 (y1.alloc (.cells ((encP (([], []) : Str × Str)) : List Value).toArray 58)) := (Below.refl _ _).alloc (Nat.le_refl _) _
   obtain ⟨o2, c2, y2, hr2, ho2, hb2, -⟩ := app_one 27 58 i2 (.agg #[.string ⟨#[]⟩, .string ⟨#[]⟩]) 2 32 Tryz.underlying27 hi2 hx0 hx1 hx2 (by rfl) (by decide) (by decide) (own_keeps ho1 hbA) y1.heap.size (encP (([], []) : Str × Str)) (heap_alloc_new y1 _) rfl (encP_one _) (by have : x.length ≤ 1048576 := hsm.1; omega) (Nat.le_trans hb1.size hbA.size)
   have HR1 := h_ hr1; have HR2 := h_ hr2
   have hb5 : Below w5.heap.size w5 y2 := (hb1.trans (hbA.mono hb1.size)).trans hb2
   have HCy := h_ (heap_below HC5.out hb5); have HAy := h_ (heap_below HA5.out hb5); have HBy := h_ (HB5.out.trans (hb5.mono HB5.out.size))
   have kC := ((rd HCy.out).1 19).trans qv
   have kf := (rd HCy.out).2.1 19
   have HNE := h_ (show a 19 ≠ (.ps (x ++ [(([], []) : Str × Str)])) by rw [ex]; intro e; injection e with e; have := congrArg List.length e; simp at this)
   have hO : (y2.setCell ⟨C, 19, none⟩ (.slice o2 (x.length + 1) c2)).ownsRow w5.heap.size 58 2 (.slice o2 (x ++ [(([], []) : Str × Str)]).length c2) (x ++ [(([], []) : Str × Str)]).length (flatL encP (x ++ [(([], []) : Str × Str)])) := own_set (by rw [List.length_append, flatL_append, show flatL encP [(([], []) : Str × Str)] = encP (([], []) : Str × Str) by simp [flatL]]; exact ho2) HCl.out
   have hsee : UcSee (y2.setCell ⟨C, 19, none⟩ (.slice o2 (x.length + 1) c2)) (.ps (x ++ [(([], []) : Str × Str)])) (.slice o2 (x.length + 1) c2) := ⟨o2, c2, by rw [List.length_append]; rfl, RowRd.of_own (enc := encP) (k := 2) (fun _ => rfl) (hO : _), own_few hO⟩
   have HSE := h_ hsee
   clear hr1 ho1 hb1 hbA hr2 ho2 hb2 hb5 qv hsm rr lr ex hO hsee
   go_upto_region 38 with (at_builtin; first | refine wpList_append_run rfl _ _ 27 rfl HR1.out rfl rfl ?_ | refine wpList_append_run rfl _ _ 27 rfl HR2.out rfl rfl ?_)
   have T := turned HSA.out HTA.out HBy.out HCy.out HCw.out 19 (by decide) (.slice o2 (x.length + 1) c2) (.ps (x ++ [(([], []) : Str × Str)])) rfl HSE.out
   have HA9 := h_ (heap_other HAy.out (a := ⟨C, 19, none⟩) HAC.out (.slice o2 (x.length + 1) c2))
   have hNE := HNE.out
   clear kC kf kA HR1 HR2 HSE HNE
   obtain ⟨HD, HX, HBf, HQ1, HQ2⟩ := turned_end HSA.out HTA.out HCA.out T (by decide) hNE
   clear T hNE
   generalize y2.setCell ⟨C, 19, none⟩ (.slice o2 (x.length + 1) c2) = wz at *
   generalize ca.setIfInBounds 19 (.slice o2 (x.length + 1) c2) = cz at *
   go_wp2_with (first
    | (refine l_load rfl 30 (.tmp 3) w.heap.size ca 30 _ rfl rfl HA9.out rfl rfl HCA.out ?_)
    | (refine l_load rfl 30 (.tmp 7) C cz 30 _ rfl rfl HX.out rfl rfl HD.out ?_))
   refine (HQ1.out wz (Below.refl _ _)).mono ?_
   rintro e w8 ⟨rfl, hb⟩
   have HA8 := h_ (heap_below HA9.out hb); have HX8 := h_ (heap_below HX.out hb); have HB8 := h_ hb
   clear hb
   go_wp2_with (first
    | (refine l_load_w rfl 30 (.tmp 3) w.heap.size ca 30 _ rfl rfl HA8.out rfl rfl HCA.out ?_)
    | (refine l_load_w rfl 30 (.tmp 7) C cz 30 _ rfl rfl HX8.out rfl rfl HD.out ?_))
   refine (HQ2.out w8 HB8.out).mono ?_
   rintro e w9 ⟨rfl, hb⟩
   have HB9 := h_ (HBf.out.trans ((HB8.out.trans (hb.mono HB8.out.size)).mono HBf.out.size))
   clear hb
   go_wp2_with fail
   go_ret
   exact ⟨rfl, HB9.out⟩
  ·obtain ⟨v, qv, sv⟩ := HSA.out.at 21 (by decide)
   obtain ⟨x, ex⟩ := tag_ns (HTA.out 21)
   rw [ex] at sv
   obtain ⟨oa, cp, rfl, rr, lr⟩ := sv
   have hsm := HSM.out 21
   rw [ex] at hsm
   have kA := ((rd HA5.out).1 21).trans qv
   obtain ⟨v1, y1, hr1, ho1, hb1⟩ := app_new 26 3 i3 (.int .i64 0) 1 8 Tryz.underlying26 hi3 hw0 hw1 hw2 (by rfl) (by decide) (by decide) (W := w5) cp (by rw [intVals_length, Nat.mul_one]) (int_flat (rr.fr (M := fun _ => False) (Fr.of_below HB5.out _) (fun _ _ _ e => e))) (intVals_one x) (by have : x.length ≤ 1048576 := hsm; omega)
   have hbA : Below y1.heap.size y1 (y1.alloc (.cells ([.int .i64 1] : List Value).toArray 3)) := (Below.refl _ _).alloc (Nat.le_refl _) _
   obtain ⟨o2, c2, y2, hr2, ho2, hb2, -⟩ := app_one 26 3 i3 (.int .i64 0) 1 8 Tryz.underlying26 hi3 hw0 hw1 hw2 (by rfl) (by decide) (by decide) (own_keeps ho1 hbA) y1.heap.size [.int .i64 1] (heap_alloc_new y1 _) rfl (by intro u hu; simp at hu; subst hu; rfl) (by have : x.length ≤ 1048576 := hsm; omega) (Nat.le_trans hb1.size hbA.size)
   have HR1 := h_ hr1; have HR2 := h_ hr2
   have hb5 : Below w5.heap.size w5 y2 := (hb1.trans (hbA.mono hb1.size)).trans hb2
   have HCy := h_ (heap_below HC5.out hb5); have HAy := h_ (heap_below HA5.out hb5); have HBy := h_ (HB5.out.trans (hb5.mono HB5.out.size))
   have kC := ((rd HCy.out).1 21).trans qv
   have kf := (rd HCy.out).2.1 21
   have HNE := h_ (show a 21 ≠ (.ns (x ++ [1])) by rw [ex]; intro e; injection e with e; have := congrArg List.length e; simp at this)
   have hO : (y2.setCell ⟨C, 21, none⟩ (.slice o2 (x.length + 1) c2)).ownsRow w5.heap.size 3 1 (.slice o2 (x ++ [1]).length c2) (x ++ [1]).length (intVals (x ++ [1])) := own_set (by rw [List.length_append, show intVals (x ++ [1]) = intVals x ++ [.int .i64 1] by simp [intVals]]; exact ho2) HCl.out
   have hsee : UcSee (y2.setCell ⟨C, 21, none⟩ (.slice o2 (x.length + 1) c2)) (.ns (x ++ [1])) (.slice o2 (x.length + 1) c2) := ⟨o2, c2, by rw [List.length_append]; rfl, IntRow.of_own hO, own_few hO⟩
   have HSE := h_ hsee
   clear hr1 ho1 hb1 hbA hr2 ho2 hb2 hb5 qv hsm rr lr ex hO hsee
   go_upto_region 38 with (at_builtin; first | refine wpList_append_run rfl _ _ 26 rfl HR1.out rfl rfl ?_ | refine wpList_append_run rfl _ _ 26 rfl HR2.out rfl rfl ?_)
   have T := turned HSA.out HTA.out HBy.out HCy.out HCw.out 21 (by decide) (.slice o2 (x.length + 1) c2) (.ns (x ++ [1])) rfl HSE.out
   have HA9 := h_ (heap_other HAy.out (a := ⟨C, 21, none⟩) HAC.out (.slice o2 (x.length + 1) c2))
   have hNE := HNE.out
   clear kC kf kA HR1 HR2 HSE HNE
   obtain ⟨HD, HX, HBf, HQ1, HQ2⟩ := turned_end HSA.out HTA.out HCA.out T (by decide) hNE
   clear T hNE
   generalize y2.setCell ⟨C, 21, none⟩ (.slice o2 (x.length + 1) c2) = wz at *
   generalize ca.setIfInBounds 21 (.slice o2 (x.length + 1) c2) = cz at *
   go_wp2_with (first
    | (refine l_load rfl 30 (.tmp 3) w.heap.size ca 30 _ rfl rfl HA9.out rfl rfl HCA.out ?_)
    | (refine l_load rfl 30 (.tmp 7) C cz 30 _ rfl rfl HX.out rfl rfl HD.out ?_))
   refine (HQ1.out wz (Below.refl _ _)).mono ?_
   rintro e w8 ⟨rfl, hb⟩
   have HA8 := h_ (heap_below HA9.out hb); have HX8 := h_ (heap_below HX.out hb); have HB8 := h_ hb
   clear hb
   go_wp2_with (first
    | (refine l_load_w rfl 30 (.tmp 3) w.heap.size ca 30 _ rfl rfl HA8.out rfl rfl HCA.out ?_)
    | (refine l_load_w rfl 30 (.tmp 7) C cz 30 _ rfl rfl HX8.out rfl rfl HD.out ?_))
   refine (HQ2.out w8 HB8.out).mono ?_
   rintro e w9 ⟨rfl, hb⟩
   have HB9 := h_ (HBf.out.trans ((HB8.out.trans (hb.mono HB8.out.size)).mono HBf.out.size))
   clear hb
   go_wp2_with fail
   go_ret
   exact ⟨rfl, HB9.out⟩
  ·obtain ⟨v, qv, sv⟩ := HSA.out.at 28 (by decide)
   obtain ⟨x, ex⟩ := tag_ss (HTA.out 28)
   rw [ex] at sv
   obtain ⟨oa, cp, rfl, rr, lr⟩ := sv
   have hsm := HSM.out 28
   rw [ex] at hsm
   have kA := ((rd HA5.out).1 28).trans qv
   obtain ⟨v1, y1, hr1, ho1, hb1⟩ := app_new 28 9 i4 (.string ⟨#[]⟩) 1 16 Tryz.underlying28 hi4 hv0 hv1 hv2 (by rfl) (by decide) (by decide) (W := w5) cp (by rw [strVals_length, Nat.mul_one]) ((rr.below HB5.out).cells) (strVals_one x) (by have : x.length ≤ 1048576 := hsm.1; omega)
   have hbA : Below y1.heap.size y1 (y1.alloc (.cells ([.string ⟨#[]⟩] : List Value).toArray 9)) := (Below.refl _ _).alloc (Nat.le_refl _) _
   obtain ⟨o2, c2, y2, hr2, ho2, hb2, -⟩ := app_one 28 9 i4 (.string ⟨#[]⟩) 1 16 Tryz.underlying28 hi4 hv0 hv1 hv2 (by rfl) (by decide) (by decide) (own_keeps ho1 hbA) y1.heap.size [.string ⟨#[]⟩] (heap_alloc_new y1 _) rfl (by intro u hu; simp at hu; subst hu; rfl) (by have : x.length ≤ 1048576 := hsm.1; omega) (Nat.le_trans hb1.size hbA.size)
   have HR1 := h_ hr1; have HR2 := h_ hr2
   have hb5 : Below w5.heap.size w5 y2 := (hb1.trans (hbA.mono hb1.size)).trans hb2
   have HCy := h_ (heap_below HC5.out hb5); have HAy := h_ (heap_below HA5.out hb5); have HBy := h_ (HB5.out.trans (hb5.mono HB5.out.size))
   have kC := ((rd HCy.out).1 28).trans qv
   have kf := (rd HCy.out).2.1 28
   have HNE := h_ (show a 28 ≠ (.ss (x ++ [([] : Str)])) by rw [ex]; intro e; injection e with e; have := congrArg List.length e; simp at this)
   have hO : (y2.setCell ⟨C, 28, none⟩ (.slice o2 (x.length + 1) c2)).ownsRow w5.heap.size 9 1 (.slice o2 (x ++ [([] : Str)]).length c2) (x ++ [([] : Str)]).length (strVals (x ++ [([] : Str)])) := own_set (by rw [List.length_append, show strVals (x ++ [([] : Str)]) = strVals x ++ [.string ⟨#[]⟩] by simp [strVals]]; exact ho2) HCl.out
   have hsee : UcSee (y2.setCell ⟨C, 28, none⟩ (.slice o2 (x.length + 1) c2)) (.ss (x ++ [([] : Str)])) (.slice o2 (x.length + 1) c2) := ⟨o2, c2, by rw [List.length_append]; rfl, StrRow.of_own hO, own_few hO⟩
   have HSE := h_ hsee
   clear hr1 ho1 hb1 hbA hr2 ho2 hb2 hb5 qv hsm rr lr ex hO hsee
   go_upto_region 38 with (at_builtin; first | refine wpList_append_run rfl _ _ 28 rfl HR1.out rfl rfl ?_ | refine wpList_append_run rfl _ _ 28 rfl HR2.out rfl rfl ?_)
   have T := turned HSA.out HTA.out HBy.out HCy.out HCw.out 28 (by decide) (.slice o2 (x.length + 1) c2) (.ss (x ++ [([] : Str)])) rfl HSE.out
   have HA9 := h_ (heap_other HAy.out (a := ⟨C, 28, none⟩) HAC.out (.slice o2 (x.length + 1) c2))
   have hNE := HNE.out
   clear kC kf kA HR1 HR2 HSE HNE
   obtain ⟨HD, HX, HBf, HQ1, HQ2⟩ := turned_end HSA.out HTA.out HCA.out T (by decide) hNE
   clear T hNE
   generalize y2.setCell ⟨C, 28, none⟩ (.slice o2 (x.length + 1) c2) = wz at *
   generalize ca.setIfInBounds 28 (.slice o2 (x.length + 1) c2) = cz at *
   go_wp2_with (first
    | (refine l_load rfl 30 (.tmp 3) w.heap.size ca 30 _ rfl rfl HA9.out rfl rfl HCA.out ?_)
    | (refine l_load rfl 30 (.tmp 7) C cz 30 _ rfl rfl HX.out rfl rfl HD.out ?_))
   refine (HQ1.out wz (Below.refl _ _)).mono ?_
   rintro e w8 ⟨rfl, hb⟩
   have HA8 := h_ (heap_below HA9.out hb); have HX8 := h_ (heap_below HX.out hb); have HB8 := h_ hb
   clear hb
   go_wp2_with (first
    | (refine l_load_w rfl 30 (.tmp 3) w.heap.size ca 30 _ rfl rfl HA8.out rfl rfl HCA.out ?_)
    | (refine l_load_w rfl 30 (.tmp 7) C cz 30 _ rfl rfl HX8.out rfl rfl HD.out ?_))
   refine (HQ2.out w8 HB8.out).mono ?_
   rintro e w9 ⟨rfl, hb⟩
   have HB9 := h_ (HBf.out.trans ((HB8.out.trans (hb.mono HB8.out.size)).mono HBf.out.size))
   clear hb
   go_wp2_with fail
   go_ret
   exact ⟨rfl, HB9.out⟩
  ·obtain ⟨v, qv, sv⟩ := HSA.out.at 29 (by decide)
   obtain ⟨x, ex⟩ := tag_b (HTA.out 29)
   rw [ex] at sv
   obtain rfl : v = .bool x := sv
   have kC := ((rd HC5.out).1 29).trans qv
   have kf := (rd HC5.out).2.1 29
   have kA := ((rd HA5.out).1 29).trans qv
   clear qv
   have hNE : a 29 ≠ .b (!x) := by rw [ex]; simp
   clear ex
   go_upto_region 38 with fail
   have T := turned HSA.out HTA.out HB5.out HC5.out HCw.out 29 (by decide) (.bool (!x)) (.b (!x)) rfl rfl
   have HA9 := h_ (heap_other HA5.out (a := ⟨C, 29, none⟩) HAC.out (.bool (!x)))
   clear kC kf kA
   obtain ⟨HD, HX, HBf, HQ1, HQ2⟩ := turned_end HSA.out HTA.out HCA.out T (by decide) hNE
   clear T hNE
   generalize w5.setCell ⟨C, 29, none⟩ (.bool (!x)) = wz at *
   generalize ca.setIfInBounds 29 (.bool (!x)) = cz at *
   go_wp2_with (first
    | (refine l_load rfl 30 (.tmp 3) w.heap.size ca 30 _ rfl rfl HA9.out rfl rfl HCA.out ?_)
    | (refine l_load rfl 30 (.tmp 7) C cz 30 _ rfl rfl HX.out rfl rfl HD.out ?_))
   refine (HQ1.out wz (Below.refl _ _)).mono ?_
   rintro e w8 ⟨rfl, hb⟩
   have HA8 := h_ (heap_below HA9.out hb); have HX8 := h_ (heap_below HX.out hb); have HB8 := h_ hb
   clear hb
   go_wp2_with (first
    | (refine l_load_w rfl 30 (.tmp 3) w.heap.size ca 30 _ rfl rfl HA8.out rfl rfl HCA.out ?_)
    | (refine l_load_w rfl 30 (.tmp 7) C cz 30 _ rfl rfl HX8.out rfl rfl HD.out ?_))
   refine (HQ2.out w8 HB8.out).mono ?_
   rintro e w9 ⟨rfl, hb⟩
   have HB9 := h_ (HBf.out.trans ((HB8.out.trans (hb.mono HB8.out.size)).mono HBf.out.size))
   clear hb
   go_wp2_with fail
   go_ret
   exact ⟨rfl, HB9.out⟩
  ·obtain ⟨v, qv, sv⟩ := HSA.out.at 34 (by decide)
   obtain ⟨x, ex⟩ := tag_s (HTA.out 34)
   rw [ex] at sv
   obtain rfl : v = .string ⟨x.toArray⟩ := sv
   have kC := ((rd HC5.out).1 34).trans qv
   have kf := (rd HC5.out).2.1 34
   have kA := ((rd HA5.out).1 34).trans qv
   clear qv
   have hsm := HSM.out 34
   rw [ex] at hsm
   have hcat0 := cat_lists x [120] (by have : x.length ≤ 1048576 := hsm; simp; omega)
   obtain ⟨z, hz⟩ : ∃ z, z = x ++ [120] := ⟨_, rfl⟩
   rw [← hz] at hcat0
   have hcat : Op.stringOp .add ⟨x.toArray⟩ ⟨#[120]⟩ = pure (.string ⟨z.toArray⟩) := hcat0
   have hNE : a 34 ≠ .s z := by rw [ex, hz]; intro e; injection e with e; have := congrArg List.length e; simp at this
   clear hcat0 hsm hz ex
   go_upto_region 38 with fail
   have T := turned HSA.out HTA.out HB5.out HC5.out HCw.out 34 (by decide) (.string ⟨z.toArray⟩) (.s z) rfl rfl
   have HA9 := h_ (heap_other HA5.out (a := ⟨C, 34, none⟩) HAC.out (.string ⟨z.toArray⟩))
   clear kC kf kA hcat
   obtain ⟨HD, HX, HBf, HQ1, HQ2⟩ := turned_end HSA.out HTA.out HCA.out T (by decide) hNE
   clear T hNE
   generalize w5.setCell ⟨C, 34, none⟩ (.string ⟨z.toArray⟩) = wz at *
   generalize ca.setIfInBounds 34 (.string ⟨z.toArray⟩) = cz at *
   go_wp2_with (first
    | (refine l_load rfl 30 (.tmp 3) w.heap.size ca 30 _ rfl rfl HA9.out rfl rfl HCA.out ?_)
    | (refine l_load rfl 30 (.tmp 7) C cz 30 _ rfl rfl HX.out rfl rfl HD.out ?_))
   refine (HQ1.out wz (Below.refl _ _)).mono ?_
   rintro e w8 ⟨rfl, hb⟩
   have HA8 := h_ (heap_below HA9.out hb); have HX8 := h_ (heap_below HX.out hb); have HB8 := h_ hb
   clear hb
   go_wp2_with (first
    | (refine l_load_w rfl 30 (.tmp 3) w.heap.size ca 30 _ rfl rfl HA8.out rfl rfl HCA.out ?_)
    | (refine l_load_w rfl 30 (.tmp 7) C cz 30 _ rfl rfl HX8.out rfl rfl HD.out ?_))
   refine (HQ2.out w8 HB8.out).mono ?_
   rintro e w9 ⟨rfl, hb⟩
   have HB9 := h_ (HBf.out.trans ((HB8.out.trans (hb.mono HB8.out.size)).mono HBf.out.size))
   clear hb
   go_wp2_with fail
   go_ret
   exact ⟨rfl, HB9.out⟩
  ·obtain ⟨v, qv, sv⟩ := HSA.out.at 8 (by decide)
   obtain ⟨x, ex⟩ := tag_cs (HTA.out 8)
   rw [ex] at sv
   obtain ⟨oa, cp, xs, rfl, rr, lr⟩ := sv
   have hsm := HSM.out 8
   rw [ex] at hsm
   have kA := ((rd HA5.out).1 8).trans qv
   obtain ⟨v1, y1, hr1, ho1, hb1⟩ := app_new 25 56 i1 (.agg #[.bool false, .slice none 0 0]) 2 32 Tryz.underlying25 hi1 hy0 hy1 hy2 (by rfl) (by decide) (by decide) (W := w5) cp (n := x.length) (xs := flatL encX xs) (by rw [flatL_length (enc := encX) (k := 2) (fun _ => rfl), rr.len]) ((csBelow HB5.out rr).row.flat (fun _ => rfl) (by decide)) (flatL_oneCell encX_one xs) (by have : x.length ≤ 1048576 := hsm.1; omega)
   have hbS : Below y1.heap.size y1 (y1.alloc (.cells ([.string ⟨#[]⟩] : List Value).toArray 9)) := (Below.refl _ _).alloc (Nat.le_refl _) _
   have hbA : Below (y1.alloc (.cells ([.string ⟨#[]⟩] : List Value).toArray 9)).heap.size (y1.alloc (.cells ([.string ⟨#[]⟩] : List Value).toArray 9)) ((y1.alloc (.cells ([.string ⟨#[]⟩] : List Value).toArray 9)).alloc (.cells (encX (⟨false, some ⟨y1.heap.size, 0, none⟩, 1, 1⟩ : CmdV)).toArray 56)) := (Below.refl _ _).alloc (Nat.le_refl _) _
   obtain ⟨o2, c2, y2, hr2, ho2, hb2, hf2⟩ := app_one 25 56 i1 (.agg #[.bool false, .slice none 0 0]) 2 32 Tryz.underlying25 hi1 hy0 hy1 hy2 (by rfl) (by decide) (by decide) (own_keeps (own_keeps ho1 hbS) hbA) (y1.heap.size + 1) (encX (⟨false, some ⟨y1.heap.size, 0, none⟩, 1, 1⟩ : CmdV)) (by have q := heap_alloc_new (y1.alloc (.cells ([.string ⟨#[]⟩] : List Value).toArray 9)) (.cells (encX (⟨false, some ⟨y1.heap.size, 0, none⟩, 1, 1⟩ : CmdV)).toArray 56); rwa [show ((y1.alloc (.cells ([.string ⟨#[]⟩] : List Value).toArray 9))).heap.size = y1.heap.size + 1 by simp] at q) rfl (encX_one _) (by have : x.length ≤ 1048576 := hsm.1; omega) (Nat.le_trans hb1.size (Nat.le_trans hbS.size hbA.size))
   have HR1 := h_ hr1; have HR2 := h_ hr2
   have hb5 : Below w5.heap.size w5 y2 := ((hb1.trans (hbS.mono hb1.size)).trans (hbA.mono (Nat.le_trans hb1.size hbS.size))).trans hb2
   have HCy := h_ (heap_below HC5.out hb5); have HAy := h_ (heap_below HA5.out hb5); have HBy := h_ (HB5.out.trans (hb5.mono HB5.out.size))
   have kC := ((rd HCy.out).1 8).trans qv
   have kf := (rd HCy.out).2.1 8
   have HNE := h_ (show a 8 ≠ (.cs (x ++ [((false, [[]]) : CmdS)])) by rw [ex]; intro e; injection e with e; have := congrArg List.length e; simp at this)
   have hO : (y2.setCell ⟨C, 8, none⟩ (.slice o2 (x.length + 1) c2)).ownsRow w5.heap.size 56 2 (.slice o2 (xs ++ [(⟨false, some ⟨y1.heap.size, 0, none⟩, 1, 1⟩ : CmdV)]).length c2) (xs ++ [(⟨false, some ⟨y1.heap.size, 0, none⟩, 1, 1⟩ : CmdV)]).length (flatL encX (xs ++ [(⟨false, some ⟨y1.heap.size, 0, none⟩, 1, 1⟩ : CmdV)])) := own_set (by rw [List.length_append, flatL_append, show flatL encX [(⟨false, some ⟨y1.heap.size, 0, none⟩, 1, 1⟩ : CmdV)] = encX (⟨false, some ⟨y1.heap.size, 0, none⟩, 1, 1⟩ : CmdV) by simp [flatL], rr.len]; exact ho2) HCl.out
   have hsee : UcSee (y2.setCell ⟨C, 8, none⟩ (.slice o2 (x.length + 1) c2)) (.cs (x ++ [((false, [[]]) : CmdS)])) (.slice o2 (x.length + 1) c2) := by
    refine cs_more rr (HBy.out.setCell (p := ⟨C, 8, none⟩) HCw.out _) ⟨rfl, rfl, ?_, by show 1 ≤ maxLen; unfold maxLen; omega⟩ hO
    have hs0 := heap_below (heap_alloc_new y1 (.cells ([.string ⟨#[]⟩] : List Value).toArray 9)) hbA
    have hs1 := hf2.heap hs0 (fun q => by obtain ⟨cur, hcur⟩ := own_typed (own_keeps (own_keeps ho1 hbS) hbA) _ q; exact ne_types hcur hs0 (by decide) rfl)
    have hs2 := heap_other hs1 (a := ⟨C, 8, none⟩) (by have := HCl.out; have := hb1.size; show y1.heap.size ≠ C; omega) (.slice o2 (x.length + 1) c2)
    intro i hi
    have hi0 : i = 0 := by simp at hi; exact hi
    subst hi0
    exact ⟨y1.heap.size, 0, rfl, (rd hs2).1 0⟩
   have HSE := h_ hsee
   clear hr1 ho1 hb1 hbS hbA hr2 ho2 hb2 hf2 hb5 qv hsm rr lr ex hO hsee
   go_upto_region 38 with (at_builtin; first | refine wpList_append_run rfl _ _ 25 rfl HR1.out rfl rfl ?_ | refine wpList_append_run rfl _ _ 25 rfl HR2.out rfl rfl ?_)
   have T := turned HSA.out HTA.out HBy.out HCy.out HCw.out 8 (by decide) (.slice o2 (x.length + 1) c2) (.cs (x ++ [((false, [[]]) : CmdS)])) rfl HSE.out
   have HA9 := h_ (heap_other HAy.out (a := ⟨C, 8, none⟩) HAC.out (.slice o2 (x.length + 1) c2))
   have hNE := HNE.out
   clear kC kf kA HR1 HR2 HSE HNE
   obtain ⟨HD, HX, HBf, HQ1, HQ2⟩ := turned_end HSA.out HTA.out HCA.out T (by decide) hNE
   clear T hNE
   generalize y2.setCell ⟨C, 8, none⟩ (.slice o2 (x.length + 1) c2) = wz at *
   generalize ca.setIfInBounds 8 (.slice o2 (x.length + 1) c2) = cz at *
   go_wp2_with (first
    | (refine l_load rfl 30 (.tmp 3) w.heap.size ca 30 _ rfl rfl HA9.out rfl rfl HCA.out ?_)
    | (refine l_load rfl 30 (.tmp 7) C cz 30 _ rfl rfl HX.out rfl rfl HD.out ?_))
   refine (HQ1.out wz (Below.refl _ _)).mono ?_
   rintro e w8 ⟨rfl, hb⟩
   have HA8 := h_ (heap_below HA9.out hb); have HX8 := h_ (heap_below HX.out hb); have HB8 := h_ hb
   clear hb
   go_wp2_with (first
    | (refine l_load_w rfl 30 (.tmp 3) w.heap.size ca 30 _ rfl rfl HA8.out rfl rfl HCA.out ?_)
    | (refine l_load_w rfl 30 (.tmp 7) C cz 30 _ rfl rfl HX8.out rfl rfl HD.out ?_))
   refine (HQ2.out w8 HB8.out).mono ?_
   rintro e w9 ⟨rfl, hb⟩
   have HB9 := h_ (HBf.out.trans ((HB8.out.trans (hb.mono HB8.out.size)).mono HBf.out.size))
   clear hb
   go_wp2_with fail
   go_ret
   exact ⟨rfl, HB9.out⟩
  ·obtain ⟨v, qv, sv⟩ := HSA.out.at 16 (by decide)
   obtain ⟨x, ex⟩ := tag_n (HTA.out 16)
   rw [ex] at sv
   obtain rfl : v = .int .i64 x := sv
   have kC := ((rd HC5.out).1 16).trans qv
   have kf := (rd HC5.out).2.1 16
   have kA := ((rd HA5.out).1 16).trans qv
   clear qv
   obtain ⟨z, hz⟩ : ∃ z, bits BinOp.xor IntKind.i64 x 1 = z := ⟨_, rfl⟩
   have hNE : a 16 ≠ .n z := by rw [ex, ← hz]; intro e; injection e with e; exact xor_ne x e.symm
   clear ex
   go_upto_region 38 with fail
   have T := turned HSA.out HTA.out HB5.out HC5.out HCw.out 16 (by decide) (.int .i64 z) (.n z) rfl rfl
   have HA9 := h_ (heap_other HA5.out (a := ⟨C, 16, none⟩) HAC.out (.int .i64 z))
   clear kC kf kA hz
   obtain ⟨HD, HX, HBf, HQ1, HQ2⟩ := turned_end HSA.out HTA.out HCA.out T (by decide) hNE
   clear T hNE
   generalize w5.setCell ⟨C, 16, none⟩ (.int .i64 z) = wz at *
   generalize ca.setIfInBounds 16 (.int .i64 z) = cz at *
   go_wp2_with (first
    | (refine l_load rfl 30 (.tmp 3) w.heap.size ca 30 _ rfl rfl HA9.out rfl rfl HCA.out ?_)
    | (refine l_load rfl 30 (.tmp 7) C cz 30 _ rfl rfl HX.out rfl rfl HD.out ?_))
   refine (HQ1.out wz (Below.refl _ _)).mono ?_
   rintro e w8 ⟨rfl, hb⟩
   have HA8 := h_ (heap_below HA9.out hb); have HX8 := h_ (heap_below HX.out hb); have HB8 := h_ hb
   clear hb
   go_wp2_with (first
    | (refine l_load_w rfl 30 (.tmp 3) w.heap.size ca 30 _ rfl rfl HA8.out rfl rfl HCA.out ?_)
    | (refine l_load_w rfl 30 (.tmp 7) C cz 30 _ rfl rfl HX8.out rfl rfl HD.out ?_))
   refine (HQ2.out w8 HB8.out).mono ?_
   rintro e w9 ⟨rfl, hb⟩
   have HB9 := h_ (HBf.out.trans ((HB8.out.trans (hb.mono HB8.out.size)).mono HBf.out.size))
   clear hb
   go_wp2_with fail
   go_ret
   exact ⟨rfl, HB9.out⟩
  ·obtain ⟨v, qv, sv⟩ := HSA.out.at 33 (by decide)
   obtain ⟨x, ex⟩ := tag_ss (HTA.out 33)
   rw [ex] at sv
   obtain ⟨oa, cp, rfl, rr, lr⟩ := sv
   have hsm := HSM.out 33
   rw [ex] at hsm
   have kA := ((rd HA5.out).1 33).trans qv
   obtain ⟨v1, y1, hr1, ho1, hb1⟩ := app_new 28 9 i4 (.string ⟨#[]⟩) 1 16 Tryz.underlying28 hi4 hv0 hv1 hv2 (by rfl) (by decide) (by decide) (W := w5) cp (by rw [strVals_length, Nat.mul_one]) ((rr.below HB5.out).cells) (strVals_one x) (by have : x.length ≤ 1048576 := hsm.1; omega)
   have hbA : Below y1.heap.size y1 (y1.alloc (.cells ([.string ⟨#[]⟩] : List Value).toArray 9)) := (Below.refl _ _).alloc (Nat.le_refl _) _
   obtain ⟨o2, c2, y2, hr2, ho2, hb2, -⟩ := app_one 28 9 i4 (.string ⟨#[]⟩) 1 16 Tryz.underlying28 hi4 hv0 hv1 hv2 (by rfl) (by decide) (by decide) (own_keeps ho1 hbA) y1.heap.size [.string ⟨#[]⟩] (heap_alloc_new y1 _) rfl (by intro u hu; simp at hu; subst hu; rfl) (by have : x.length ≤ 1048576 := hsm.1; omega) (Nat.le_trans hb1.size hbA.size)
   have HR1 := h_ hr1; have HR2 := h_ hr2
   have hb5 : Below w5.heap.size w5 y2 := (hb1.trans (hbA.mono hb1.size)).trans hb2
   have HCy := h_ (heap_below HC5.out hb5); have HAy := h_ (heap_below HA5.out hb5); have HBy := h_ (HB5.out.trans (hb5.mono HB5.out.size))
   have kC := ((rd HCy.out).1 33).trans qv
   have kf := (rd HCy.out).2.1 33
   have HNE := h_ (show a 33 ≠ (.ss (x ++ [([] : Str)])) by rw [ex]; intro e; injection e with e; have := congrArg List.length e; simp at this)
   have hO : (y2.setCell ⟨C, 33, none⟩ (.slice o2 (x.length + 1) c2)).ownsRow w5.heap.size 9 1 (.slice o2 (x ++ [([] : Str)]).length c2) (x ++ [([] : Str)]).length (strVals (x ++ [([] : Str)])) := own_set (by rw [List.length_append, show strVals (x ++ [([] : Str)]) = strVals x ++ [.string ⟨#[]⟩] by simp [strVals]]; exact ho2) HCl.out
   have hsee : UcSee (y2.setCell ⟨C, 33, none⟩ (.slice o2 (x.length + 1) c2)) (.ss (x ++ [([] : Str)])) (.slice o2 (x.length + 1) c2) := ⟨o2, c2, by rw [List.length_append]; rfl, StrRow.of_own hO, own_few hO⟩
   have HSE := h_ hsee
   clear hr1 ho1 hb1 hbA hr2 ho2 hb2 hb5 qv hsm rr lr ex hO hsee
   go_upto_region 38 with (at_builtin; first | refine wpList_append_run rfl _ _ 28 rfl HR1.out rfl rfl ?_ | refine wpList_append_run rfl _ _ 28 rfl HR2.out rfl rfl ?_)
   have T := turned HSA.out HTA.out HBy.out HCy.out HCw.out 33 (by decide) (.slice o2 (x.length + 1) c2) (.ss (x ++ [([] : Str)])) rfl HSE.out
   have HA9 := h_ (heap_other HAy.out (a := ⟨C, 33, none⟩) HAC.out (.slice o2 (x.length + 1) c2))
   have hNE := HNE.out
   clear kC kf kA HR1 HR2 HSE HNE
   obtain ⟨HD, HX, HBf, HQ1, HQ2⟩ := turned_end HSA.out HTA.out HCA.out T (by decide) hNE
   clear T hNE
   generalize y2.setCell ⟨C, 33, none⟩ (.slice o2 (x.length + 1) c2) = wz at *
   generalize ca.setIfInBounds 33 (.slice o2 (x.length + 1) c2) = cz at *
   go_wp2_with (first
    | (refine l_load rfl 30 (.tmp 3) w.heap.size ca 30 _ rfl rfl HA9.out rfl rfl HCA.out ?_)
    | (refine l_load rfl 30 (.tmp 7) C cz 30 _ rfl rfl HX.out rfl rfl HD.out ?_))
   refine (HQ1.out wz (Below.refl _ _)).mono ?_
   rintro e w8 ⟨rfl, hb⟩
   have HA8 := h_ (heap_below HA9.out hb); have HX8 := h_ (heap_below HX.out hb); have HB8 := h_ hb
   clear hb
   go_wp2_with (first
    | (refine l_load_w rfl 30 (.tmp 3) w.heap.size ca 30 _ rfl rfl HA8.out rfl rfl HCA.out ?_)
    | (refine l_load_w rfl 30 (.tmp 7) C cz 30 _ rfl rfl HX8.out rfl rfl HD.out ?_))
   refine (HQ2.out w8 HB8.out).mono ?_
   rintro e w9 ⟨rfl, hb⟩
   have HB9 := h_ (HBf.out.trans ((HB8.out.trans (hb.mono HB8.out.size)).mono HBf.out.size))
   clear hb
   go_wp2_with fail
   go_ret
   exact ⟨rfl, HB9.out⟩
  ·obtain ⟨v, qv, sv⟩ := HSA.out.at 24 (by decide)
   obtain ⟨x, ex⟩ := tag_s (HTA.out 24)
   rw [ex] at sv
   obtain rfl : v = .string ⟨x.toArray⟩ := sv
   have kC := ((rd HC5.out).1 24).trans qv
   have kf := (rd HC5.out).2.1 24
   have kA := ((rd HA5.out).1 24).trans qv
   clear qv
   have hsm := HSM.out 24
   rw [ex] at hsm
   have hcat0 := cat_lists x [120] (by have : x.length ≤ 1048576 := hsm; simp; omega)
   obtain ⟨z, hz⟩ : ∃ z, z = x ++ [120] := ⟨_, rfl⟩
   rw [← hz] at hcat0
   have hcat : Op.stringOp .add ⟨x.toArray⟩ ⟨#[120]⟩ = pure (.string ⟨z.toArray⟩) := hcat0
   have hNE : a 24 ≠ .s z := by rw [ex, hz]; intro e; injection e with e; have := congrArg List.length e; simp at this
   clear hcat0 hsm hz ex
   go_upto_region 38 with fail
   have T := turned HSA.out HTA.out HB5.out HC5.out HCw.out 24 (by decide) (.string ⟨z.toArray⟩) (.s z) rfl rfl
   have HA9 := h_ (heap_other HA5.out (a := ⟨C, 24, none⟩) HAC.out (.string ⟨z.toArray⟩))
   clear kC kf kA hcat
   obtain ⟨HD, HX, HBf, HQ1, HQ2⟩ := turned_end HSA.out HTA.out HCA.out T (by decide) hNE
   clear T hNE
   generalize w5.setCell ⟨C, 24, none⟩ (.string ⟨z.toArray⟩) = wz at *
   generalize ca.setIfInBounds 24 (.string ⟨z.toArray⟩) = cz at *
   go_wp2_with (first
    | (refine l_load rfl 30 (.tmp 3) w.heap.size ca 30 _ rfl rfl HA9.out rfl rfl HCA.out ?_)
    | (refine l_load rfl 30 (.tmp 7) C cz 30 _ rfl rfl HX.out rfl rfl HD.out ?_))
   refine (HQ1.out wz (Below.refl _ _)).mono ?_
   rintro e w8 ⟨rfl, hb⟩
   have HA8 := h_ (heap_below HA9.out hb); have HX8 := h_ (heap_below HX.out hb); have HB8 := h_ hb
   clear hb
   go_wp2_with (first
    | (refine l_load_w rfl 30 (.tmp 3) w.heap.size ca 30 _ rfl rfl HA8.out rfl rfl HCA.out ?_)
    | (refine l_load_w rfl 30 (.tmp 7) C cz 30 _ rfl rfl HX8.out rfl rfl HD.out ?_))
   refine (HQ2.out w8 HB8.out).mono ?_
   rintro e w9 ⟨rfl, hb⟩
   have HB9 := h_ (HBf.out.trans ((HB8.out.trans (hb.mono HB8.out.size)).mono HBf.out.size))
   clear hb
   go_wp2_with fail
   go_ret
   exact ⟨rfl, HB9.out⟩
  ·obtain ⟨v, qv, sv⟩ := HSA.out.at 3 (by decide)
   obtain ⟨x, ex⟩ := tag_b (HTA.out 3)
   rw [ex] at sv
   obtain rfl : v = .bool x := sv
   have kC := ((rd HC5.out).1 3).trans qv
   have kf := (rd HC5.out).2.1 3
   have kA := ((rd HA5.out).1 3).trans qv
   clear qv
   have hNE : a 3 ≠ .b (!x) := by rw [ex]; simp
   clear ex
   go_upto_region 38 with fail
   have T := turned HSA.out HTA.out HB5.out HC5.out HCw.out 3 (by decide) (.bool (!x)) (.b (!x)) rfl rfl
   have HA9 := h_ (heap_other HA5.out (a := ⟨C, 3, none⟩) HAC.out (.bool (!x)))
   clear kC kf kA
   obtain ⟨HD, HX, HBf, HQ1, HQ2⟩ := turned_end HSA.out HTA.out HCA.out T (by decide) hNE
   clear T hNE
   generalize w5.setCell ⟨C, 3, none⟩ (.bool (!x)) = wz at *
   generalize ca.setIfInBounds 3 (.bool (!x)) = cz at *
   go_wp2_with (first
    | (refine l_load rfl 30 (.tmp 3) w.heap.size ca 30 _ rfl rfl HA9.out rfl rfl HCA.out ?_)
    | (refine l_load rfl 30 (.tmp 7) C cz 30 _ rfl rfl HX.out rfl rfl HD.out ?_))
   refine (HQ1.out wz (Below.refl _ _)).mono ?_
   rintro e w8 ⟨rfl, hb⟩
   have HA8 := h_ (heap_below HA9.out hb); have HX8 := h_ (heap_below HX.out hb); have HB8 := h_ hb
   clear hb
   go_wp2_with (first
    | (refine l_load_w rfl 30 (.tmp 3) w.heap.size ca 30 _ rfl rfl HA8.out rfl rfl HCA.out ?_)
    | (refine l_load_w rfl 30 (.tmp 7) C cz 30 _ rfl rfl HX8.out rfl rfl HD.out ?_))
   refine (HQ2.out w8 HB8.out).mono ?_
   rintro e w9 ⟨rfl, hb⟩
   have HB9 := h_ (HBf.out.trans ((HB8.out.trans (hb.mono HB8.out.size)).mono HBf.out.size))
   clear hb
   go_wp2_with fail
   go_ret
   exact ⟨rfl, HB9.out⟩
  ·obtain ⟨v, qv, sv⟩ := HSA.out.at 27 (by decide)
   obtain ⟨x, ex⟩ := tag_ns (HTA.out 27)
   rw [ex] at sv
   obtain ⟨oa, cp, rfl, rr, lr⟩ := sv
   have hsm := HSM.out 27
   rw [ex] at hsm
   have kA := ((rd HA5.out).1 27).trans qv
   obtain ⟨v1, y1, hr1, ho1, hb1⟩ := app_new 26 3 i3 (.int .i64 0) 1 8 Tryz.underlying26 hi3 hw0 hw1 hw2 (by rfl) (by decide) (by decide) (W := w5) cp (by rw [intVals_length, Nat.mul_one]) (int_flat (rr.fr (M := fun _ => False) (Fr.of_below HB5.out _) (fun _ _ _ e => e))) (intVals_one x) (by have : x.length ≤ 1048576 := hsm; omega)
   have hbA : Below y1.heap.size y1 (y1.alloc (.cells ([.int .i64 0] : List Value).toArray 3)) := (Below.refl _ _).alloc (Nat.le_refl _) _
   obtain ⟨o2, c2, y2, hr2, ho2, hb2, -⟩ := app_one 26 3 i3 (.int .i64 0) 1 8 Tryz.underlying26 hi3 hw0 hw1 hw2 (by rfl) (by decide) (by decide) (own_keeps ho1 hbA) y1.heap.size [.int .i64 0] (heap_alloc_new y1 _) rfl (by intro u hu; simp at hu; subst hu; rfl) (by have : x.length ≤ 1048576 := hsm; omega) (Nat.le_trans hb1.size hbA.size)
   have HR1 := h_ hr1; have HR2 := h_ hr2
   have hb5 : Below w5.heap.size w5 y2 := (hb1.trans (hbA.mono hb1.size)).trans hb2
   have HCy := h_ (heap_below HC5.out hb5); have HAy := h_ (heap_below HA5.out hb5); have HBy := h_ (HB5.out.trans (hb5.mono HB5.out.size))
   have kC := ((rd HCy.out).1 27).trans qv
   have kf := (rd HCy.out).2.1 27
   have HNE := h_ (show a 27 ≠ (.ns (x ++ [0])) by rw [ex]; intro e; injection e with e; have := congrArg List.length e; simp at this)
   have hO : (y2.setCell ⟨C, 27, none⟩ (.slice o2 (x.length + 1) c2)).ownsRow w5.heap.size 3 1 (.slice o2 (x ++ [0]).length c2) (x ++ [0]).length (intVals (x ++ [0])) := own_set (by rw [List.length_append, show intVals (x ++ [0]) = intVals x ++ [.int .i64 0] by simp [intVals]]; exact ho2) HCl.out
   have hsee : UcSee (y2.setCell ⟨C, 27, none⟩ (.slice o2 (x.length + 1) c2)) (.ns (x ++ [0])) (.slice o2 (x.length + 1) c2) := ⟨o2, c2, by rw [List.length_append]; rfl, IntRow.of_own hO, own_few hO⟩
   have HSE := h_ hsee
   clear hr1 ho1 hb1 hbA hr2 ho2 hb2 hb5 qv hsm rr lr ex hO hsee
   go_upto_region 38 with (at_builtin; first | refine wpList_append_run rfl _ _ 26 rfl HR1.out rfl rfl ?_ | refine wpList_append_run rfl _ _ 26 rfl HR2.out rfl rfl ?_)
   have T := turned HSA.out HTA.out HBy.out HCy.out HCw.out 27 (by decide) (.slice o2 (x.length + 1) c2) (.ns (x ++ [0])) rfl HSE.out
   have HA9 := h_ (heap_other HAy.out (a := ⟨C, 27, none⟩) HAC.out (.slice o2 (x.length + 1) c2))
   have hNE := HNE.out
   clear kC kf kA HR1 HR2 HSE HNE
   obtain ⟨HD, HX, HBf, HQ1, HQ2⟩ := turned_end HSA.out HTA.out HCA.out T (by decide) hNE
   clear T hNE
   generalize y2.setCell ⟨C, 27, none⟩ (.slice o2 (x.length + 1) c2) = wz at *
   generalize ca.setIfInBounds 27 (.slice o2 (x.length + 1) c2) = cz at *
   go_wp2_with (first
    | (refine l_load rfl 30 (.tmp 3) w.heap.size ca 30 _ rfl rfl HA9.out rfl rfl HCA.out ?_)
    | (refine l_load rfl 30 (.tmp 7) C cz 30 _ rfl rfl HX.out rfl rfl HD.out ?_))
   refine (HQ1.out wz (Below.refl _ _)).mono ?_
   rintro e w8 ⟨rfl, hb⟩
   have HA8 := h_ (heap_below HA9.out hb); have HX8 := h_ (heap_below HX.out hb); have HB8 := h_ hb
   clear hb
   go_wp2_with (first
    | (refine l_load_w rfl 30 (.tmp 3) w.heap.size ca 30 _ rfl rfl HA8.out rfl rfl HCA.out ?_)
    | (refine l_load_w rfl 30 (.tmp 7) C cz 30 _ rfl rfl HX8.out rfl rfl HD.out ?_))
   refine (HQ2.out w8 HB8.out).mono ?_
   rintro e w9 ⟨rfl, hb⟩
   have HB9 := h_ (HBf.out.trans ((HB8.out.trans (hb.mono HB8.out.size)).mono HBf.out.size))
   clear hb
   go_wp2_with fail
   go_ret
   exact ⟨rfl, HB9.out⟩
  ·obtain ⟨v, qv, sv⟩ := HSA.out.at 18 (by decide)
   obtain ⟨x, ex⟩ := tag_ns (HTA.out 18)
   rw [ex] at sv
   obtain ⟨oa, cp, rfl, rr, lr⟩ := sv
   have hsm := HSM.out 18
   rw [ex] at hsm
   have kA := ((rd HA5.out).1 18).trans qv
   obtain ⟨v1, y1, hr1, ho1, hb1⟩ := app_new 26 3 i3 (.int .i64 0) 1 8 Tryz.underlying26 hi3 hw0 hw1 hw2 (by rfl) (by decide) (by decide) (W := w5) cp (by rw [intVals_length, Nat.mul_one]) (int_flat (rr.fr (M := fun _ => False) (Fr.of_below HB5.out _) (fun _ _ _ e => e))) (intVals_one x) (by have : x.length ≤ 1048576 := hsm; omega)
   have hbA : Below y1.heap.size y1 (y1.alloc (.cells ([.int .i64 0] : List Value).toArray 3)) := (Below.refl _ _).alloc (Nat.le_refl _) _
   obtain ⟨o2, c2, y2, hr2, ho2, hb2, -⟩ := app_one 26 3 i3 (.int .i64 0) 1 8 Tryz.underlying26 hi3 hw0 hw1 hw2 (by rfl) (by decide) (by decide) (own_keeps ho1 hbA) y1.heap.size [.int .i64 0] (heap_alloc_new y1 _) rfl (by intro u hu; simp at hu; subst hu; rfl) (by have : x.length ≤ 1048576 := hsm; omega) (Nat.le_trans hb1.size hbA.size)
   have HR1 := h_ hr1; have HR2 := h_ hr2
   have hb5 : Below w5.heap.size w5 y2 := (hb1.trans (hbA.mono hb1.size)).trans hb2
   have HCy := h_ (heap_below HC5.out hb5); have HAy := h_ (heap_below HA5.out hb5); have HBy := h_ (HB5.out.trans (hb5.mono HB5.out.size))
   have kC := ((rd HCy.out).1 18).trans qv
   have kf := (rd HCy.out).2.1 18
   have HNE := h_ (show a 18 ≠ (.ns (x ++ [0])) by rw [ex]; intro e; injection e with e; have := congrArg List.length e; simp at this)
   have hO : (y2.setCell ⟨C, 18, none⟩ (.slice o2 (x.length + 1) c2)).ownsRow w5.heap.size 3 1 (.slice o2 (x ++ [0]).length c2) (x ++ [0]).length (intVals (x ++ [0])) := own_set (by rw [List.length_append, show intVals (x ++ [0]) = intVals x ++ [.int .i64 0] by simp [intVals]]; exact ho2) HCl.out
   have hsee : UcSee (y2.setCell ⟨C, 18, none⟩ (.slice o2 (x.length + 1) c2)) (.ns (x ++ [0])) (.slice o2 (x.length + 1) c2) := ⟨o2, c2, by rw [List.length_append]; rfl, IntRow.of_own hO, own_few hO⟩
   have HSE := h_ hsee
   clear hr1 ho1 hb1 hbA hr2 ho2 hb2 hb5 qv hsm rr lr ex hO hsee
   go_upto_region 38 with (at_builtin; first | refine wpList_append_run rfl _ _ 26 rfl HR1.out rfl rfl ?_ | refine wpList_append_run rfl _ _ 26 rfl HR2.out rfl rfl ?_)
   have T := turned HSA.out HTA.out HBy.out HCy.out HCw.out 18 (by decide) (.slice o2 (x.length + 1) c2) (.ns (x ++ [0])) rfl HSE.out
   have HA9 := h_ (heap_other HAy.out (a := ⟨C, 18, none⟩) HAC.out (.slice o2 (x.length + 1) c2))
   have hNE := HNE.out
   clear kC kf kA HR1 HR2 HSE HNE
   obtain ⟨HD, HX, HBf, HQ1, HQ2⟩ := turned_end HSA.out HTA.out HCA.out T (by decide) hNE
   clear T hNE
   generalize y2.setCell ⟨C, 18, none⟩ (.slice o2 (x.length + 1) c2) = wz at *
   generalize ca.setIfInBounds 18 (.slice o2 (x.length + 1) c2) = cz at *
   go_wp2_with (first
    | (refine l_load rfl 30 (.tmp 3) w.heap.size ca 30 _ rfl rfl HA9.out rfl rfl HCA.out ?_)
    | (refine l_load rfl 30 (.tmp 7) C cz 30 _ rfl rfl HX.out rfl rfl HD.out ?_))
   refine (HQ1.out wz (Below.refl _ _)).mono ?_
   rintro e w8 ⟨rfl, hb⟩
   have HA8 := h_ (heap_below HA9.out hb); have HX8 := h_ (heap_below HX.out hb); have HB8 := h_ hb
   clear hb
   go_wp2_with (first
    | (refine l_load_w rfl 30 (.tmp 3) w.heap.size ca 30 _ rfl rfl HA8.out rfl rfl HCA.out ?_)
    | (refine l_load_w rfl 30 (.tmp 7) C cz 30 _ rfl rfl HX8.out rfl rfl HD.out ?_))
   refine (HQ2.out w8 HB8.out).mono ?_
   rintro e w9 ⟨rfl, hb⟩
   have HB9 := h_ (HBf.out.trans ((HB8.out.trans (hb.mono HB8.out.size)).mono HBf.out.size))
   clear hb
   go_wp2_with fail
   go_ret
   exact ⟨rfl, HB9.out⟩
  ·obtain ⟨v, qv, sv⟩ := HSA.out.at 13 (by decide)
   obtain ⟨x, ex⟩ := tag_b (HTA.out 13)
   rw [ex] at sv
   obtain rfl : v = .bool x := sv
   have kC := ((rd HC5.out).1 13).trans qv
   have kf := (rd HC5.out).2.1 13
   have kA := ((rd HA5.out).1 13).trans qv
   clear qv
   have hNE : a 13 ≠ .b (!x) := by rw [ex]; simp
   clear ex
   go_upto_region 38 with fail
   have T := turned HSA.out HTA.out HB5.out HC5.out HCw.out 13 (by decide) (.bool (!x)) (.b (!x)) rfl rfl
   have HA9 := h_ (heap_other HA5.out (a := ⟨C, 13, none⟩) HAC.out (.bool (!x)))
   clear kC kf kA
   obtain ⟨HD, HX, HBf, HQ1, HQ2⟩ := turned_end HSA.out HTA.out HCA.out T (by decide) hNE
   clear T hNE
   generalize w5.setCell ⟨C, 13, none⟩ (.bool (!x)) = wz at *
   generalize ca.setIfInBounds 13 (.bool (!x)) = cz at *
   go_wp2_with (first
    | (refine l_load rfl 30 (.tmp 3) w.heap.size ca 30 _ rfl rfl HA9.out rfl rfl HCA.out ?_)
    | (refine l_load rfl 30 (.tmp 7) C cz 30 _ rfl rfl HX.out rfl rfl HD.out ?_))
   refine (HQ1.out wz (Below.refl _ _)).mono ?_
   rintro e w8 ⟨rfl, hb⟩
   have HA8 := h_ (heap_below HA9.out hb); have HX8 := h_ (heap_below HX.out hb); have HB8 := h_ hb
   clear hb
   go_wp2_with (first
    | (refine l_load_w rfl 30 (.tmp 3) w.heap.size ca 30 _ rfl rfl HA8.out rfl rfl HCA.out ?_)
    | (refine l_load_w rfl 30 (.tmp 7) C cz 30 _ rfl rfl HX8.out rfl rfl HD.out ?_))
   refine (HQ2.out w8 HB8.out).mono ?_
   rintro e w9 ⟨rfl, hb⟩
   have HB9 := h_ (HBf.out.trans ((HB8.out.trans (hb.mono HB8.out.size)).mono HBf.out.size))
   clear hb
   go_wp2_with fail
   go_ret
   exact ⟨rfl, HB9.out⟩
end Go.Proofs.YtdjkedcpehhmnaaGreatDoor
