import Derived.Test.YtcaamakodneplaaGreatGraphPack7
import Derived.Test.YtcaamakodneplaaGreatGraphPack3
import Derived.Test.YtcaamakodneplaaGreatGraphPack5

/-
  The reference: Of of matinsref15.
-/
namespace Go.Proofs.YtcaamakodneplaaGreat
open Go Go.RowKit
set_option linter.unusedVariables false
set_option linter.unusedSimpArgs false
set_option maxRecDepth 100000

/-- How the reference's Of stands, as its first loop goes. -/
structure ROf (w5 wr : World) (M R : Nat) (oa : Option Addr) (l : List LdS) (tv : List (Str × Value)) (t : List LdS) : Prop where
  fr : Fr (fun k => k = M) w5 wr
  map : MapOf strKey wr M tv
  tab0 : TabRd w5 tv t
  rd0 : LdsRd w5 oa l
  map0 : ∃ es c, w5.heap[M]? = some (.map es c)
  box0 : w5.heap[R]? = some (.cells #[.slice none 0 0, .slice none 0 0] 29 (0, 0))
section
variable {w5 wr wr2 : World} {M R : Nat} {oa : Option Addr} {l : List LdS} {tv : List (Str × Value)} {t : List LdS}
theorem ROf.below (h : ROf w5 wr M R oa l tv t) (hb : Below wr.heap.size wr wr2) : ROf w5 wr2 M R oa l tv t := ⟨h.fr.trans (Fr.of_below hb _), h.map.below hb h.map.lt, h.tab0, h.rd0, h.map0, h.box0⟩
theorem ROf.tab (h : ROf w5 wr M R oa l tv t) : TabRd wr tv t := by obtain ⟨es, c, hb⟩ := h.map0; exact h.tab0.frm hb h.fr
theorem ROf.box (h : ROf w5 wr M R oa l tv t) : wr.heap[R]? = some (.cells #[.slice none 0 0, .slice none 0 0] 29 (0, 0)) := by
  refine h.fr.heap h.box0 (fun e => ?_)
  obtain ⟨es, c, hb⟩ := h.map0
  have := h.box0
  rw [e, hb] at this; cases this
theorem ROf.look (h : ROf w5 wr M R oa l tv t) (s : Str) : ∃ cs : Array Value, (Instr.lookup 66 (.map (some M)) (.string ⟨s.toArray⟩) true).run Tryz.prog wr = .ok (.tuple #[.agg cs, .bool (t.any fun y => y.name == s)]) wr ∧ cs.size = 42 ∧ (cs.all fun v => v.oneCell') = true := by
  have K : KeyLaws Tryz.prog 9 strKey := strKeys Tryz.underlying9
  rcases h.tab.look s with ⟨h1, h2⟩ | ⟨x, cs, h1, h2, h3, h4⟩
  · have e : (t.any fun y => y.name == s) = false := by
      unfold lookS at h1
      rw [List.find?_eq_none] at h1
      rw [List.any_eq_false]; exact h1
    rw [e]
    exact ⟨loadedZero, look_none K Tryz.underlying66 h.map s h2 (zero_loaded wr) true, rfl, zero_one⟩
  · have e : (t.any fun y => y.name == s) = true := by
      unfold lookS at h1
      rw [List.any_eq_true]
      exact ⟨x, List.mem_of_find?_eq_some h1, by simp [h4]⟩
    rw [e]
    exact ⟨cs, look_some K Tryz.underlying66 h.map h2 true, h3.size, h3.one⟩
theorem ROf.put (h : ROf w5 wr M R oa l tv t) {cs : Array Value} {y : LdS} (hy : LdRd w5 cs y) (hn : (t.any fun z => z.name == y.name) = false) :
    ∃ w', (Instr.mapUpdate 66 (.map (some M)) (.string ⟨y.name.toArray⟩) (.agg cs)).run Tryz.prog wr = .ok () w' ∧ ROf w5 w' M R oa l (tv ++ [(y.name, .agg cs)]) (t ++ [y]) ∧ Fr (fun k => k = M) wr w' := by
  have K : KeyLaws Tryz.prog 9 strKey := strKeys Tryz.underlying9
  have hno : ∀ p ∈ tv, p.1 ≠ y.name := by
    rcases h.tab.look y.name with ⟨_, h2⟩ | ⟨x, cs, h1, _, _, _⟩
    · exact h2
    · unfold lookS at h1
      have h3 := List.mem_of_find?_eq_some h1
      have h4 := List.find?_some h1
      rw [List.any_eq_false] at hn
      exact absurd h4 (hn x h3)
  obtain ⟨w', h1, h2, h3⟩ := put_new K Tryz.underlying66 h.map y.name hno (.agg cs)
  exact ⟨w', h1, ⟨h.fr.trans h3, h2, TabRd.snoc h.tab0 hy, h.rd0, h.map0, h.box0⟩, h3⟩
end
theorem StrArg.frm {w w' : World} {ME : Nat} {es : Array MapEntry} {c : Nat} {oa : Option Addr} {n cap : Nat} {l : List Str} (h : StrArg w oa n cap l) (hm : w.heap[ME]? = some (.map es c)) (hf : Fr (fun k => k = ME) w w') : StrArg w' oa n cap l :=
  ⟨h.row.frm hm hf, h.len, h.fit, h.isnil, h.form, fun b o e q => Nat.lt_of_lt_of_le (h.lt b o e q) hf.size⟩
/-- The rising names of the first of each. -/
def risS (l : List LdS) : List Str := sortL ltS (l.map (·.name))
theorem risS_snoc (l : List LdS) (x : LdS) : risS (l ++ [x]) = insL ltS x.name (risS l) := by unfold risS sortL; simp
theorem risS_len (l : List LdS) : (risS l).length ≤ l.length := by unfold risS; exact Nat.le_trans (sortL_len _ _) (by simp)

theorem names_ris (l : List LdS) : namesS l = (risS (firstsR l [])).take 64 := by unfold namesS risS; rw [firsts_names]
theorem table_entry {l : List LdS} {x : LdS} (h : x ∈ tableS l) : ∃ y ∈ l, lookS (firstsR l []) x.name = some y ∧ adjS y = x ∧ kindS x.name ≠ 0 := by
  obtain ⟨h1, h2⟩ := mem_table.1 h
  unfold firstsS at h1
  obtain ⟨y, hy, rfl⟩ := List.mem_map.1 h1
  have hsp := firstsR_spec l [] (by simp) (by simp)
  refine ⟨y, ?_, find_name hsp.1 hy, rfl, hsp.2.1 y hy⟩
  rcases hsp.2.2.1 y hy with h3 | h3
  · cases h3
  · exact h3
theorem AllIn.get {w : World} {M : Nat} {tv : List (Str × Value)} {t : List LdS} (h : AllIn w M tv t) {s : Str} {y : LdS} (hy : lookS t s = some y) :
    ∃ cs : Array Value, (∀ V, AllIn V M tv t → (Instr.lookup 66 (.map (some M)) (.string ⟨s.toArray⟩) false).run Tryz.prog V = .ok (.agg cs) V) ∧ LdRd w cs y := by
  obtain ⟨cs, hin, hld⟩ := h.tab.get hy
  exact ⟨cs, fun V hV => look_some (strKeys Tryz.underlying9) Tryz.underlying66 hV.map hin false, hld⟩
/-- The nodes so far, as the second loop goes. -/
structure NIn (w6 wr : World) (GB : Nat) (va : Option Addr) (ca : Nat) (l : List NodeS) : Prop where
  fr : Fr (fun k => k = GB) w6 wr
  box : wr.heap[GB]? = some (.cells #[.slice va l.length ca, .slice none 0 0] 29 (0, 0))
  own : wr.ownsRow w6.heap.size 32 3 (.slice va l.length ca) l.length (flatL encN l)
theorem NIn.below {w6 wr wr2 : World} {GB : Nat} {va : Option Addr} {ca : Nat} {l : List NodeS} (h : NIn w6 wr GB va ca l) (hb : Below wr.heap.size wr wr2) : NIn w6 wr2 GB va ca l :=
  ⟨h.fr.trans (Fr.of_below hb _), heap_below h.box hb, own_keeps h.own hb⟩
theorem NIn.more {w6 wr w2 : World} {GB : Nat} {va va2 : Option Addr} {ca ca2 : Nat} {l : List NodeS} {n : NodeS} (h : NIn w6 wr GB va ca l) (hlt : GB < w6.heap.size) (hg : wr.grownBy w2 (Value.slice va l.length ca).ownBlock)
    (ho : w2.ownsRow w6.heap.size 32 3 (.slice va2 (l.length + 1) ca2) (l.length + 1) (flatL encN l ++ encN n)) : NIn w6 (w2.setCell ⟨GB, 0, none⟩ (.slice va2 (l.length + 1) ca2)) GB va2 ca2 (l ++ [n]) := by
  have hbx2 : w2.heap[GB]? = some (.cells #[.slice va l.length ca, .slice none 0 0] 29 (0, 0)) := by
    rw [hg.block GB (lt_heap h.box) (own_not_box h.own h.box (by decide))]; exact h.box
  have hf : Fr (fun k => k = GB) w2 (w2.setCell ⟨GB, 0, none⟩ (.slice va2 (l.length + 1) ca2)) := Fr.setCell (M := fun k => k = GB) (Fr.refl _ _) (p := ⟨GB, 0, none⟩) (fun _ => rfl) _
  have e : (l ++ [n]).length = l.length + 1 := by simp
  refine ⟨(Fr.grown h.fr hg (fun k hk h2 => by have := (World.ownsRow.lt h.own k hk).1; omega)).trans hf, ?_, ?_⟩
  · have := heap_setCell hbx2 0 (.slice va2 (l.length + 1) ca2)
    rw [this, e]; rfl
  · rw [e, flatL_append, flatL_one]
    refine ⟨ho.1, ?_⟩
    rcases ho.2 with hn | ⟨g, cp, cur, hv, hg2, hgg, rest⟩
    · exact .inl hn
    · exact .inr ⟨g, cp, cur, hv, hg2, hf.heap hgg (by omega), rest⟩

set_option maxHeartbeats 8000000 in
theorem ofR_any (oa : Option Addr) (cap : Nat) (l : List LdS) (w : World) (hR : LdsRd w oa l) (hl : l.length ≤ 1048576) (hs : soundS l) :
    Calls Tryz.prog 13 #[.slice oa l.length cap] w fun e w' => ∃ on cn oe ce, e = .returned (.agg #[.slice on (nodesS l).length cn, .slice oe (edgesS l).length ce]) ∧ RowRd encN 3 w' on (nodesS l) ∧ RowRd encE 3 w' oe (edgesS l) ∧ Below w.heap.size w w' := by
  obtain ⟨i0, hi0, hz0, hz1, hz2⟩ := info_parts infoNode
  have HR := Lib.hid hR; have HS := Lib.hid hs
  clear hR hs
  have m1 := run_makeMap0 66
  go_enter Tryz.func13, Tryz.ntmps13
  go_wp2_with fail
  have hb1 := (Below.refl w.heap.size w).alloc (Nat.le_refl _) (.cells #[.slice none 0 0, .slice none 0 0] 29)
  have hg1 := heap_alloc_new w (.cells #[.slice none 0 0, .slice none 0 0] 29)
  have hz1' : (w.alloc (.cells #[.slice none 0 0, .slice none 0 0] 29)).heap.size = w.heap.size + 1 := Array.size_push _
  generalize w.alloc (.cells #[.slice none 0 0, .slice none 0 0] 29) = w1 at *
  have hb2 := (Below.refl w1.heap.size w1).alloc (Nat.le_refl _) (.map #[] 0)
  have HW := Lib.hid (show ROf (w1.alloc (.map #[] 0)) (w1.alloc (.map #[] 0)) w1.heap.size w.heap.size oa l [] (firstsR (l.take 0) []) from
    ⟨Fr.refl _ _, MapOf.made w1, ⟨rfl, fun i h1 h2 => absurd h1 (by simp [firstsR])⟩, (HR.out.below hb1).below hb2, ⟨_, _, heap_alloc_new w1 _⟩, heap_below hg1 hb2⟩)
  have HB5 := Lib.hid (show Below w.heap.size w (w1.alloc (.map #[] 0)) ∧ w.heap.size ≤ w1.heap.size from ⟨hb1.trans (hb2.mono hb1.size), hb1.size⟩)
  rw [hz1'] at HW HB5
  generalize w1.alloc (.map #[] 0) = w5 at *
  have HMR := Lib.hid (show w.heap.size + 1 = w.heap.size + 1 from rfl)
  clear hb1 hg1 hz1' hb2 m1 HMR
  have HBR := HB5
  obtain ⟨R, hRR⟩ : ∃ R, R = w.heap.size := ⟨_, rfl⟩
  rw [← hRR] at HW ⊢
  have HRN := Lib.hid hRR
  clear hRR
  go_loopg [18, 4] (l.length + 1) (fun f i v wr => ∃ (k : Nat) (tv : List (Str × Value)) (on : Option Addr) (n cp : Nat), k ≤ l.length ∧ i = .int .i64 k ∧ v = .slice on n cp ∧ l.length - k < f ∧ Hid (ROf w5 wr (R + 1) R oa l tv (firstsR (l.take k) [])) ∧ Hid (StrArg wr on n cp (risS (firstsR (l.take k) []))))
  case atStart => exact ⟨0, [], none, 0, 0, by omega, rfl, rfl, by omega, HW, Lib.hid ⟨StrRow.nil _ _, rfl, Nat.le_refl _, (fun _ => rfl), (fun a e => by cases e), (fun b o e => by cases e)⟩⟩
  case round =>
    obtain ⟨k, tv, on, nn, cp, hk, rfl, rfl, hfu, HK, HA⟩ := hrel
    clear HW
    by_cases hlt : k < l.length
    · obtain ⟨b, o, cs, rfl, hblt, hcc0, hld⟩ := HK.out.rd0 k hlt
      obtain ⟨mes, mcl, hm0⟩ := HK.out.map0
      have hst := firstsR_step l k hlt
      have hfl := firstsR_len (l.take k) []
      rw [List.length_take, Nat.min_eq_left hk] at hfl
      simp only [List.length_nil, Nat.zero_add] at hfl
      obtain ⟨x, hx⟩ : ∃ x, x = l[k] := ⟨_, rfl⟩
      rw [← hx] at hld hst
      have i5 : (k : Int) < (l.length : Int) := by omega
      have HCY := Lib.hid (show ∀ j v, cs[j]? = some v → wr.cell? ⟨b, o + k * 42 + j, none⟩ = some v from fun j v hj => cell_frm hm0 HK.out.fr (hcc0 j v hj))
      have HLY := Lib.hid hld
      have HZY := Lib.hid (And.intro hld.size hld.one)
      have HST := Lib.hid hst
      have HFL := Lib.hid hfl
      clear hcc0 hld hx hst hm0 hfl
      generalize firstsR (l.take k) [] = fk at *
      obtain ⟨c, hc⟩ : ∃ c, (fk.any fun y => y.name == x.name) = c := ⟨_, rfl⟩
      have HCN := Lib.hid hc
      clear hc
      obtain ⟨gk0, rfl⟩ : ∃ g, g = gk := ⟨gk, rfl⟩
      cases c with
      | true =>
        have HS2 := Lib.hid (show firstsR (l.take (k + 1)) [] = fk by rw [HST.out, HCN.out]; rfl)
        go_wp2_with (first
          | (refine l_load_at rfl 53 _ b (o + k * 42) cs _ rfl rfl HCY.out rfl rfl (by rw [HZY.out.1]; rfl) ?_)
          | (refine l_alloc rfl 53 loadedZero rfl (run_alloc_loaded _) ?_; intro w3 h3 hb3)
          | (refine l_store rfl 53 (.tmp 6) _ wr.heap.size cs loadedZero 53 rfl rfl rfl h3 (by rw [HZY.out.1]; rfl) (by rw [HZY.out.1]; rfl) HZY.out.2 ?_
             intro w6 h6 hf6
             have h66 : Below wr.heap.size wr w6 := hb3.trans (hf6.below _ hb3.size (fun k hk e => by omega))
             have HK6 := Lib.hid (HK.out.below h66)
             have HA6 := Lib.hid (HA.out.below h66)
             have HX6 := Lib.hid h6
             have q0 : w6.cell? ⟨wr.heap.size, 0, none⟩ = some (.string ⟨x.name.toArray⟩) := by rw [(rd h6).1 0]; exact HLY.out.name
             obtain ⟨cz, hlk, hcz1, hcz2⟩ := HK6.out.look x.name
             rw [HCN.out] at hlk
             have HCZ := Lib.hid (And.intro hcz1 hcz2)
             obtain ⟨X, hX⟩ : ∃ X, X = wr.heap.size := ⟨_, rfl⟩
             rw [← hX] at h6 q0 HX6 ⊢
             clear h3 hb3 hf6 HCY h66 HK HA hcz1 hcz2 hX)
          | (refine l_store rfl 53 (.tmp 7) _ w6.heap.size cz loadedZero 53 rfl rfl rfl h3 (by rw [HCZ.out.1]; rfl) (by rw [HCZ.out.1]; rfl) HCZ.out.2 ?_
             intro w8 h8 hf8
             have h88 : Below w6.heap.size w6 w8 := hb3.trans (hf8.below _ hb3.size (fun k hk e => by omega))
             have HK8 := Lib.hid (HK6.out.below h88)
             have HA8 := Lib.hid (HA6.out.below h88)
             have HX8 := Lib.hid (heap_below h6 h88)
             have p0 : w8.cell? ⟨X, 0, none⟩ = some (.string ⟨x.name.toArray⟩) := by rw [(rd HX8.out).1 0]; exact HLY.out.name
             clear h6 h3 hb3 h8 hf8 h88 HK6 HA6 HX6 q0 hlk))
        go_roundg (gk0 - 1)
        case measure => omega
        case rel => exact ⟨k + 1, tv, on, nn, cp, by omega, by go_num, rfl, by omega, by rw [HS2.out]; exact HK8, by rw [HS2.out]; exact HA8⟩
      | false =>
        go_wp2_with (first
          | (refine l_load_at rfl 53 _ b (o + k * 42) cs _ rfl rfl HCY.out rfl rfl (by rw [HZY.out.1]; rfl) ?_)
          | (refine l_alloc rfl 53 loadedZero rfl (run_alloc_loaded _) ?_; intro w3 h3 hb3)
          | (refine l_store rfl 53 (.tmp 6) _ wr.heap.size cs loadedZero 53 rfl rfl rfl h3 (by rw [HZY.out.1]; rfl) (by rw [HZY.out.1]; rfl) HZY.out.2 ?_
             intro w6 h6 hf6
             have h66 : Below wr.heap.size wr w6 := hb3.trans (hf6.below _ hb3.size (fun k hk e => by omega))
             have HK6 := Lib.hid (HK.out.below h66)
             have HA6 := Lib.hid (HA.out.below h66)
             have HX6 := Lib.hid h6
             have q0 : w6.cell? ⟨wr.heap.size, 0, none⟩ = some (.string ⟨x.name.toArray⟩) := by rw [(rd h6).1 0]; exact HLY.out.name
             obtain ⟨cz, hlk, hcz1, hcz2⟩ := HK6.out.look x.name
             rw [HCN.out] at hlk
             have HCZ := Lib.hid (And.intro hcz1 hcz2)
             obtain ⟨X, hX⟩ : ∃ X, X = wr.heap.size := ⟨_, rfl⟩
             rw [← hX] at h6 q0 HX6 ⊢
             clear h3 hb3 hf6 HCY h66 HK HA hcz1 hcz2 hX)
          | (refine l_store rfl 53 (.tmp 7) _ w6.heap.size cz loadedZero 53 rfl rfl rfl h3 (by rw [HCZ.out.1]; rfl) (by rw [HCZ.out.1]; rfl) HCZ.out.2 ?_
             intro w8 h8 hf8
             have h88 : Below w6.heap.size w6 w8 := hb3.trans (hf8.below _ hb3.size (fun k hk e => by omega))
             have HK8 := Lib.hid (HK6.out.below h88)
             have HA8 := Lib.hid (HA6.out.below h88)
             have HX8 := Lib.hid (heap_below h6 h88)
             have p0 : w8.cell? ⟨X, 0, none⟩ = some (.string ⟨x.name.toArray⟩) := by rw [(rd HX8.out).1 0]; exact HLY.out.name
             clear h6 h3 hb3 h8 hf8 h88 HK6 HA6 HX6 q0 hlk))
        obtain ⟨my, hmy⟩ : ∃ b, decide (kindS x.name ≠ 0) = b := ⟨_, rfl⟩
        refine (may1_any ⟨x.name.toArray⟩ w8 my hmy).mono ?_
        rintro e w9 ⟨rfl, hb9⟩
        have HK9 := Lib.hid (HK8.out.below hb9)
        have HA9 := Lib.hid (HA8.out.below hb9)
        have HX9 := Lib.hid (heap_below HX8.out hb9)
        clear hb9 p0 HK8 HA8 HX8
        cases my with
        | false =>
          have HS2 := Lib.hid (show firstsR (l.take (k + 1)) [] = fk by
            have h0 : kindS x.name = 0 := by simpa using hmy
            rw [HST.out, h0]; simp)
          clear hmy
          go_wp2_with fail
          go_roundg (gk0 - 1)
          case measure => omega
          case rel => exact ⟨k + 1, tv, on, nn, cp, by omega, by go_num, rfl, by omega, by rw [HS2.out]; exact HK9, by rw [HS2.out]; exact HA9⟩
        | true =>
          have HS2 := Lib.hid (show firstsR (l.take (k + 1)) [] = fk ++ [x] by
            have h0 : kindS x.name ≠ 0 := by simpa using hmy
            rw [HST.out, if_neg]
            rw [HCN.out]; simpa using h0)
          obtain ⟨w10, hup, hk10, hf10⟩ := HK9.out.put HLY.out HCN.out
          have HK10 := Lib.hid hk10
          obtain ⟨mes, mcl, hm9⟩ : ∃ es c, w9.heap[R + 1]? = some (.map es c) := by obtain ⟨es, c, h, _⟩ := HK9.out.map; exact ⟨es, c, h⟩
          have HA10 := Lib.hid (HA9.out.frm hm9 hf10)
          have HX10 := Lib.hid (show w10.heap[X]? = some (.cells cs 53 (0, 0)) from hf10.heap HX9.out (fun e => by have := HX9.out; rw [e, hm9] at this; cases this))
          have p0 : w9.cell? ⟨X, 0, none⟩ = some (.string ⟨x.name.toArray⟩) := by rw [(rd HX9.out).1 0]; exact HLY.out.name
          have p1 : w10.cell? ⟨X, 0, none⟩ = some (.string ⟨x.name.toArray⟩) := by rw [(rd HX10.out).1 0]; exact HLY.out.name
          clear hmy hk10 hf10 hm9
          go_wp2_with (refine l_load rfl 53 _ X cs 53 _ rfl rfl HX9.out rfl rfl (by rw [HZY.out.1]; rfl) ?_)
          refine (put_any on nn cp (risS fk) ⟨x.name.toArray⟩ w10 HA10.out (by have := risS_len fk; have := HFL.out; omega) _ rfl).mono ?_
          rintro e w11 ⟨on2, n2, cp2, rfl, hs11, hb11⟩
          have HK11 := Lib.hid (HK10.out.below hb11)
          have HA11 := Lib.hid (show StrArg w11 on2 n2 cp2 (risS (fk ++ [x])) by rw [risS_snoc]; exact hs11)
          clear hs11 hb11 p0 p1 hup HK10 HA10
          go_wp2_with fail
          go_roundg (gk0 - 1)
          case measure => omega
          case rel => exact ⟨k + 1, _, on2, n2, cp2, by omega, by go_num, rfl, by omega, by rw [HS2.out]; exact HK11, by rw [HS2.out]; exact HA11⟩
    · have hk2 : k = l.length := by omega
      subst hk2
      rw [List.take_of_length_le (Nat.le_refl _)] at HK HA
      have hnl := HA.out.len
      have hfit := HA.out.fit
      have HNM := Lib.hid (names_ris l)
      have hf64 : (firstsR l []).length ≤ l.length := by have := firstsR_len l []; simpa using this
      have HAL := Lib.hid (show AllIn wr (R + 1) tv (firstsR l []) from ⟨HK.out.map, HK.out.tab⟩)
      have HBX := Lib.hid HK.out.box
      have HBK := Lib.hid (show Below w.heap.size w wr from HB5.out.1.trans (HK.out.fr.below _ HB5.out.1.size (fun j hj e => by have := HRN.out; omega)))
      have hrl := risS_len (firstsR l [])
      generalize risS (firstsR l []) = rs at *
      generalize hfs : firstsR l [] = fs at *
      have HFS := Lib.hid hfs
      clear hfs
      subst hnl
      clear HB5 HBR hfu
      by_cases h64 : rs.length ≤ 64
      · have i6 : (rs.length : Int) ≤ 64 := by omega
        have HNM2 := Lib.hid (show namesS l = rs by rw [HNM.out, List.take_of_length_le h64])
        go_wp2_with fail
        have hb6 := (Below.refl wr.heap.size wr).alloc (Nat.le_refl _) (.cells #[.slice none 0 0, .slice none 0 0] 29)
        have HB6 := Lib.hid (HBK.out.trans (hb6.mono HBK.out.size))
        have HAL6 := Lib.hid (HAL.out.below hb6)
        have HTN := Lib.hid (table_names l)
        have hrow : StrRow (wr.alloc (.cells #[.slice none 0 0, .slice none 0 0] 29)) on ((tableS l).map (·.name)) := by rw [HTN.out, HNM2.out]; exact (HA.out.row).below hb6
        have HBX6 := Lib.hid (heap_below HBX.out hb6)
        have HN6 := Lib.hid (show NIn (wr.alloc (.cells #[.slice none 0 0, .slice none 0 0] 29)) (wr.alloc (.cells #[.slice none 0 0, .slice none 0 0] 29)) wr.heap.size none 0 (((tableS l).take 0).map nodeS) from ⟨Fr.refl _ _, heap_alloc_new wr _, World.ownsRow_nil _ _ _ _⟩)
        have HGL := Lib.hid (show wr.heap.size < (wr.alloc (.cells #[.slice none 0 0, .slice none 0 0] 29)).heap.size ∧ R ≠ wr.heap.size from ⟨by simp, by have := lt_heap HBX.out; omega⟩)
        have htl : (tableS l).length = rs.length := by
          have := congrArg List.length HTN.out
          rw [List.length_map, HNM.out] at this
          rw [this]; rw [List.take_of_length_le h64]
        have HTE := Lib.hid (fun x (h : x ∈ tableS l) => table_entry h)
        have HND := Lib.hid (show nodesS l = (tableS l).map nodeS from rfl)
        have HED := Lib.hid (show edgesS l = sortL ltE ((tableS l).flatMap fun x => if x.state = 1 then ownR (namesS l) (firstsR l []) x else []) from (edges_same HS.out).symm)
        have HROW := Lib.hid hrow
        have hrf : R = w.heap.size := HRN.out
        have HRB := Lib.hid (show w.heap.size ≤ wr.heap.size ∧ R = w.heap.size from ⟨HBK.out.size, hrf⟩)
        clear hrow hb6 HAL HBX HBK HK HA HRN hrf
        generalize wr.alloc (.cells #[.slice none 0 0, .slice none 0 0] 29) = w6 at *
        generalize wr.heap.size = GB at *
        generalize tableS l = T at *
        generalize namesS l = nm at *
        rw [HFS.out] at HED
        have HGB6 := Lib.hid HN6.out.box
        have HV := Lib.hid (fun V (h : Fr (fun k => k = GB) w6 V) => show StrRow V on (T.map (·.name)) ∧ AllIn V (R + 1) tv fs from ⟨StrRow.frg HGB6.out h HROW.out, AllIn.frg HGB6.out h HAL6.out⟩)
        clear HROW HAL6 HGB6 HNM HNM2
        go_loopg [52] (rs.length + 1) (fun f i wq => ∃ (k ca : Nat) (va : Option Addr), k ≤ rs.length ∧ i = .int .i64 k ∧ rs.length - k < f ∧ Hid (NIn w6 wq GB va ca ((T.take k).map nodeS)))
        case atStart => exact ⟨0, 0, none, by omega, rfl, by omega, HN6⟩
        case round =>
          obtain ⟨k, ca, va, hk, rfl, hfu, Hn⟩ := hrel
          clear HN6
          by_cases hlt : k < rs.length
          · obtain ⟨b, o, rfl, hcc⟩ := (HV.out wr Hn.out.fr).1 k (by rw [List.length_map]; omega)
            have hkT : k < T.length := by omega
            obtain ⟨x, hx⟩ : ∃ x, x = T[k] := ⟨_, rfl⟩
            rw [List.getElem_map, ← hx] at hcc
            obtain ⟨y, hyl, hylk, hadj, hkd⟩ := HTE.out x (by rw [hx]; exact List.getElem_mem hkT)
            rw [HFS.out] at hylk
            have hsn : (T.take (k + 1)).map nodeS = (T.take k).map nodeS ++ [nodeS x] := by
              rw [List.take_succ_eq_append_getElem hkT, List.map_append, hx]; rfl
            obtain ⟨cs, hrun, hld⟩ := (HV.out wr Hn.out.fr).2.get hylk
            have hlk := hrun wr (HV.out wr Hn.out.fr).2
            have f1 := field_loaded1 cs _ hld.state
            have hlen : ((T.take k).map nodeS).length = k := by rw [List.length_map, List.length_take]; omega
            have hbx := Hn.out.box
            have hown := Hn.out.own
            rw [hlen] at hbx hown
            have HBXN := Lib.hid hbx; have HOWN := Lib.hid hown; have HSN := Lib.hid hsn; have HLEN := Lib.hid hlen
            have HADJ := Lib.hid (show x.state = if y.state < 1 ∨ 4 < y.state then 4 else y.state from by rw [← hadj]; rfl)
            have HOF := Lib.hid (fun V => of_any ⟨x.name.toArray⟩ V (ofS x.name) rfl)
            have hfc := field_cut (.int .i64 (kindS x.name : Nat)) (.string ⟨(ofS x.name).pre.toArray⟩) (.string ⟨(ofS x.name).inst.toArray⟩) (.bool (ofS x.name).at_) rfl
            have i5 : (k : Int) < (rs.length : Int) := by omega
            clear hrun hld hbx hown hsn hlen hx hyl hylk hadj
            by_cases s1 : y.state < 1
            · have HNS := Lib.hid (show nodeS x = ⟨x.name, (kindS x.name : Nat), 4⟩ from by unfold nodeS; rw [HADJ.out, if_pos (.inl s1)])
              go_wp2_with fail
              clear hlk f1 hcc
              refine wp_region_drawT (S := fun V => V.heap[GB]? = some (.cells #[.slice va k ca, .slice none 0 0] 29 (0, 0))) 10 (by kernel_rfl) (by kernel_rfl) HBXN.out (fun hHeld => ?_)
              try simp only [Act.put, List.setIfInBounds_toArray, List.set_cons_zero, List.set_cons_succ]
              refine drawT_take (i := 0) (v := .pointer (some ⟨GB, 0, none⟩)) (List.getElem?_toArray.trans rfl) (by kernel_rfl) (by kernel_rfl) (by kernel_rfl) (by kernel_rfl) (fun _ _ _ h => h) (Or.inl ⟨by rfl, fun W hW => by have q0 : W.cell? ⟨GB, 0, none⟩ = some (.slice va k ca) := (cells2 hW).1; clear hW; go_simp⟩) (by assumption) ?_
              try simp only [Act.put, List.setIfInBounds_toArray, List.set_cons_zero, List.set_cons_succ]
              refine drawT_take (i := 1) (v := .slice va k ca) (List.getElem?_toArray.trans rfl) (by kernel_rfl) (by kernel_rfl) (by kernel_rfl) (by kernel_rfl) (fun _ _ _ h => h) (Or.inl ⟨by rfl, fun W hW => by have q0 : W.cell? ⟨GB, 0, none⟩ = some (.slice va k ca) := (cells2 hW).1; clear hW; go_simp⟩) (by assumption) ?_
              try simp only [Act.put, List.setIfInBounds_toArray, List.set_cons_zero, List.set_cons_succ]
              refine drawT_take (i := 2) (v := .string ⟨x.name.toArray⟩) (List.getElem?_toArray.trans rfl) (by kernel_rfl) (by kernel_rfl) (by kernel_rfl) (by kernel_rfl) (fun _ _ _ h => h) (Or.inl ⟨by rfl, fun W hW => by have q0 : W.cell? ⟨GB, 0, none⟩ = some (.slice va k ca) := (cells2 hW).1; clear hW; go_simp⟩) (by assumption) ?_
              try simp only [Act.put, List.setIfInBounds_toArray, List.set_cons_zero, List.set_cons_succ]
              refine drawT_take (i := 3) (v := .string ⟨x.name.toArray⟩) (List.getElem?_toArray.trans rfl) (by kernel_rfl) (by kernel_rfl) (by kernel_rfl) (by kernel_rfl) (fun _ _ _ h => h) (Or.inl ⟨by rfl, fun W hW => by have q0 : W.cell? ⟨GB, 0, none⟩ = some (.slice va k ca) := (cells2 hW).1; clear hW; go_simp⟩) (by assumption) ?_
              try simp only [Act.put, List.setIfInBounds_toArray, List.set_cons_zero, List.set_cons_succ]
              refine drawT_take (i := 6) (v := .int .i64 4) (List.getElem?_toArray.trans rfl) (by kernel_rfl) (by kernel_rfl) (by kernel_rfl) (by kernel_rfl) (fun _ _ _ h => h) (Or.inl ⟨by rfl, fun W hW => by have q0 : W.cell? ⟨GB, 0, none⟩ = some (.slice va k ca) := (cells2 hW).1; clear hW; go_simp⟩) (by assumption) ?_
              try simp only [Act.put, List.setIfInBounds_toArray, List.set_cons_zero, List.set_cons_succ]
              refine drawT_one (i := 4) (List.getElem?_toArray.trans rfl) (by kernel_rfl) (by kernel_rfl) (fun K hK => ?_)
              clear hHeld
              rw [if_pos (by rfl)]
              go_simp
              refine (HOF.out _).mono ?_
              rintro e wi ⟨rfl, hbi⟩
              simp only [ofS_kind]
              have HBI := Lib.hid ((show Below wr.heap.size wr wr.drew from below_dn ⟨1, rfl⟩).trans hbi)
              clear hbi
              refine hK.out _ _ (heap_below HBXN.out HBI.out) (fun hHeld => ?_)
              clear hK K
              try simp only [Act.put, List.setIfInBounds_toArray, List.set_cons_zero, List.set_cons_succ]
              refine drawT_take (i := 5) (v := .int .i64 (kindS x.name : Nat)) (List.getElem?_toArray.trans rfl) (by kernel_rfl) (by kernel_rfl) (by kernel_rfl) (by kernel_rfl) (fun _ _ _ h => h) (Or.inl ⟨by rfl, fun W hW => by clear hW; go_simp⟩) (by assumption) ?_
              try simp only [Act.put, List.setIfInBounds_toArray, List.set_cons_zero, List.set_cons_succ]
              refine drawT_take (i := 7) (v := .agg #[.string ⟨x.name.toArray⟩, .int .i64 (kindS x.name : Nat), .int .i64 4]) (List.getElem?_toArray.trans rfl) (by kernel_rfl) (by kernel_rfl) (by kernel_rfl) (by kernel_rfl) (fun _ _ _ h => h) (Or.inl ⟨by rfl, fun W hW => by clear hW; go_simp⟩) (by assumption) ?_
              try simp only [Act.put, List.setIfInBounds_toArray, List.set_cons_zero, List.set_cons_succ]
              refine drawT_one (i := 8) (List.getElem?_toArray.trans rfl) (by kernel_rfl) (by kernel_rfl) (fun K hK => ?_)
              clear hHeld
              rw [if_pos (by rfl)]
              go_simp
              have HBJ := Lib.hid (show Below wr.heap.size wr (wi.alloc (.cells #[.string ⟨x.name.toArray⟩, .int .i64 (kindS x.name : Nat), .int .i64 4] 32)) from HBI.out.alloc HBI.out.size _)
              have HBL := Lib.hid (RowRd.of_own (enc := encN) (k := 3) (l := [(⟨x.name, (kindS x.name : Nat), 4⟩ : NodeS)]) (oa := some ⟨wi.heap.size, 0, none⟩) (cap := 1) (fun _ => rfl) (own_built3 wi (.string ⟨x.name.toArray⟩) (.int .i64 (kindS x.name : Nat)) (.int .i64 4) 32))
              refine hK.out _ _ (heap_below HBXN.out HBJ.out) (fun hHeld => ?_)
              clear hK K
              try simp only [Act.put, List.setIfInBounds_toArray, List.set_cons_zero, List.set_cons_succ]
              refine drawT_one (i := 9) (List.getElem?_toArray.trans rfl) (by kernel_rfl) (by kernel_rfl) (fun K hK => ?_)
              clear hHeld
              refine step_append_rows (by rfl) (.tmp 67) (.tmp 74) 26 (by rfl) w6.heap.size 32 i0 (.agg #[.string ⟨#[]⟩, .int .i64 0, .int .i64 0]) 3 32 Tryz.underlying26 hi0 hz0 hz1 hz2 (by rfl) (by decide) (.slice va k ca) k (flatL encN ((T.take k).map nodeS)) (by rfl) (own_keeps HOWN.out HBJ.out) (some ⟨wi.heap.size, 0, none⟩) 1 1 (flatL encN [(⟨x.name, (kindS x.name : Nat), 4⟩ : NodeS)]) (by rfl)
                  rfl (RowRd.flat (enc := encN) (k := 3) (fun _ => rfl) (by omega) HBL.out) (by intro u hu; simp [flatL, encN] at hu; rcases hu with rfl | rfl | rfl <;> rfl) (by unfold maxLen; omega) (by omega) (Nat.le_trans Hn.out.fr.size HBJ.out.size) ?_
              intro v1 w7 hown1 hgrow1
              obtain ⟨va2, ca2, rfl⟩ := ownsRow_form hown1
              have HO7 := Lib.hid hown1; have HG7 := Lib.hid hgrow1
              have HBX7 := Lib.hid (show w7.heap[GB]? = some (.cells #[.slice va k ca, .slice none 0 0] 29 (0, 0)) from by
                rw [hgrow1.block GB (lt_heap (heap_below HBXN.out HBJ.out)) (own_not_box (own_keeps HOWN.out HBJ.out) (heap_below HBXN.out HBJ.out) (by decide))]; exact heap_below HBXN.out HBJ.out)
              clear hown1 hgrow1
              refine hK.out _ _ HBX7.out (fun hHeld => ?_)
              clear hK K
              try simp only [Act.put, List.setIfInBounds_toArray, List.set_cons_zero, List.set_cons_succ]
              refine drawT_done (by kernel_rfl) ?_
              clear hHeld
              have hgb := rd HBX7.out
              have s3 := (cells2 HBX7.out).1; have s4 := hgb.2.1 0; have s5 := hgb.2.2.1
              clear hgb
              go_wp2_with fail
              go_roundg (gk - 1)
              case measure => omega
              case rel =>
                refine ⟨k + 1, ca2, va2, by omega, by go_num, by omega, ?_⟩
                have hN := NIn.more (n := nodeS x) (Hn.out.below HBJ.out) HGL.out.1 (by rw [HLEN.out]; exact HG7.out) (by rw [HLEN.out, HNS.out, ← flatL_one encN]; exact HO7.out)
                rw [← HSN.out, HLEN.out] at hN
                exact hN
            · by_cases s2 : 4 < y.state
              · have HNS := Lib.hid (show nodeS x = ⟨x.name, (kindS x.name : Nat), 4⟩ from by unfold nodeS; rw [HADJ.out, if_pos (.inr s2)])
                go_wp2_with fail
                clear hlk f1 hcc
                refine wp_region_drawT (S := fun V => V.heap[GB]? = some (.cells #[.slice va k ca, .slice none 0 0] 29 (0, 0))) 10 (by kernel_rfl) (by kernel_rfl) HBXN.out (fun hHeld => ?_)
                try simp only [Act.put, List.setIfInBounds_toArray, List.set_cons_zero, List.set_cons_succ]
                refine drawT_take (i := 0) (v := .pointer (some ⟨GB, 0, none⟩)) (List.getElem?_toArray.trans rfl) (by kernel_rfl) (by kernel_rfl) (by kernel_rfl) (by kernel_rfl) (fun _ _ _ h => h) (Or.inl ⟨by rfl, fun W hW => by have q0 : W.cell? ⟨GB, 0, none⟩ = some (.slice va k ca) := (cells2 hW).1; clear hW; go_simp⟩) (by assumption) ?_
                try simp only [Act.put, List.setIfInBounds_toArray, List.set_cons_zero, List.set_cons_succ]
                refine drawT_take (i := 1) (v := .slice va k ca) (List.getElem?_toArray.trans rfl) (by kernel_rfl) (by kernel_rfl) (by kernel_rfl) (by kernel_rfl) (fun _ _ _ h => h) (Or.inl ⟨by rfl, fun W hW => by have q0 : W.cell? ⟨GB, 0, none⟩ = some (.slice va k ca) := (cells2 hW).1; clear hW; go_simp⟩) (by assumption) ?_
                try simp only [Act.put, List.setIfInBounds_toArray, List.set_cons_zero, List.set_cons_succ]
                refine drawT_take (i := 2) (v := .string ⟨x.name.toArray⟩) (List.getElem?_toArray.trans rfl) (by kernel_rfl) (by kernel_rfl) (by kernel_rfl) (by kernel_rfl) (fun _ _ _ h => h) (Or.inl ⟨by rfl, fun W hW => by have q0 : W.cell? ⟨GB, 0, none⟩ = some (.slice va k ca) := (cells2 hW).1; clear hW; go_simp⟩) (by assumption) ?_
                try simp only [Act.put, List.setIfInBounds_toArray, List.set_cons_zero, List.set_cons_succ]
                refine drawT_take (i := 3) (v := .string ⟨x.name.toArray⟩) (List.getElem?_toArray.trans rfl) (by kernel_rfl) (by kernel_rfl) (by kernel_rfl) (by kernel_rfl) (fun _ _ _ h => h) (Or.inl ⟨by rfl, fun W hW => by have q0 : W.cell? ⟨GB, 0, none⟩ = some (.slice va k ca) := (cells2 hW).1; clear hW; go_simp⟩) (by assumption) ?_
                try simp only [Act.put, List.setIfInBounds_toArray, List.set_cons_zero, List.set_cons_succ]
                refine drawT_take (i := 6) (v := .int .i64 4) (List.getElem?_toArray.trans rfl) (by kernel_rfl) (by kernel_rfl) (by kernel_rfl) (by kernel_rfl) (fun _ _ _ h => h) (Or.inl ⟨by rfl, fun W hW => by have q0 : W.cell? ⟨GB, 0, none⟩ = some (.slice va k ca) := (cells2 hW).1; clear hW; go_simp⟩) (by assumption) ?_
                try simp only [Act.put, List.setIfInBounds_toArray, List.set_cons_zero, List.set_cons_succ]
                refine drawT_one (i := 4) (List.getElem?_toArray.trans rfl) (by kernel_rfl) (by kernel_rfl) (fun K hK => ?_)
                clear hHeld
                rw [if_pos (by rfl)]
                go_simp
                refine (HOF.out _).mono ?_
                rintro e wi ⟨rfl, hbi⟩
                simp only [ofS_kind]
                have HBI := Lib.hid ((show Below wr.heap.size wr wr.drew from below_dn ⟨1, rfl⟩).trans hbi)
                clear hbi
                refine hK.out _ _ (heap_below HBXN.out HBI.out) (fun hHeld => ?_)
                clear hK K
                try simp only [Act.put, List.setIfInBounds_toArray, List.set_cons_zero, List.set_cons_succ]
                refine drawT_take (i := 5) (v := .int .i64 (kindS x.name : Nat)) (List.getElem?_toArray.trans rfl) (by kernel_rfl) (by kernel_rfl) (by kernel_rfl) (by kernel_rfl) (fun _ _ _ h => h) (Or.inl ⟨by rfl, fun W hW => by clear hW; go_simp⟩) (by assumption) ?_
                try simp only [Act.put, List.setIfInBounds_toArray, List.set_cons_zero, List.set_cons_succ]
                refine drawT_take (i := 7) (v := .agg #[.string ⟨x.name.toArray⟩, .int .i64 (kindS x.name : Nat), .int .i64 4]) (List.getElem?_toArray.trans rfl) (by kernel_rfl) (by kernel_rfl) (by kernel_rfl) (by kernel_rfl) (fun _ _ _ h => h) (Or.inl ⟨by rfl, fun W hW => by clear hW; go_simp⟩) (by assumption) ?_
                try simp only [Act.put, List.setIfInBounds_toArray, List.set_cons_zero, List.set_cons_succ]
                refine drawT_one (i := 8) (List.getElem?_toArray.trans rfl) (by kernel_rfl) (by kernel_rfl) (fun K hK => ?_)
                clear hHeld
                rw [if_pos (by rfl)]
                go_simp
                have HBJ := Lib.hid (show Below wr.heap.size wr (wi.alloc (.cells #[.string ⟨x.name.toArray⟩, .int .i64 (kindS x.name : Nat), .int .i64 4] 32)) from HBI.out.alloc HBI.out.size _)
                have HBL := Lib.hid (RowRd.of_own (enc := encN) (k := 3) (l := [(⟨x.name, (kindS x.name : Nat), 4⟩ : NodeS)]) (oa := some ⟨wi.heap.size, 0, none⟩) (cap := 1) (fun _ => rfl) (own_built3 wi (.string ⟨x.name.toArray⟩) (.int .i64 (kindS x.name : Nat)) (.int .i64 4) 32))
                refine hK.out _ _ (heap_below HBXN.out HBJ.out) (fun hHeld => ?_)
                clear hK K
                try simp only [Act.put, List.setIfInBounds_toArray, List.set_cons_zero, List.set_cons_succ]
                refine drawT_one (i := 9) (List.getElem?_toArray.trans rfl) (by kernel_rfl) (by kernel_rfl) (fun K hK => ?_)
                clear hHeld
                refine step_append_rows (by rfl) (.tmp 67) (.tmp 74) 26 (by rfl) w6.heap.size 32 i0 (.agg #[.string ⟨#[]⟩, .int .i64 0, .int .i64 0]) 3 32 Tryz.underlying26 hi0 hz0 hz1 hz2 (by rfl) (by decide) (.slice va k ca) k (flatL encN ((T.take k).map nodeS)) (by rfl) (own_keeps HOWN.out HBJ.out) (some ⟨wi.heap.size, 0, none⟩) 1 1 (flatL encN [(⟨x.name, (kindS x.name : Nat), 4⟩ : NodeS)]) (by rfl)
                    rfl (RowRd.flat (enc := encN) (k := 3) (fun _ => rfl) (by omega) HBL.out) (by intro u hu; simp [flatL, encN] at hu; rcases hu with rfl | rfl | rfl <;> rfl) (by unfold maxLen; omega) (by omega) (Nat.le_trans Hn.out.fr.size HBJ.out.size) ?_
                intro v1 w7 hown1 hgrow1
                obtain ⟨va2, ca2, rfl⟩ := ownsRow_form hown1
                have HO7 := Lib.hid hown1; have HG7 := Lib.hid hgrow1
                have HBX7 := Lib.hid (show w7.heap[GB]? = some (.cells #[.slice va k ca, .slice none 0 0] 29 (0, 0)) from by
                  rw [hgrow1.block GB (lt_heap (heap_below HBXN.out HBJ.out)) (own_not_box (own_keeps HOWN.out HBJ.out) (heap_below HBXN.out HBJ.out) (by decide))]; exact heap_below HBXN.out HBJ.out)
                clear hown1 hgrow1
                refine hK.out _ _ HBX7.out (fun hHeld => ?_)
                clear hK K
                try simp only [Act.put, List.setIfInBounds_toArray, List.set_cons_zero, List.set_cons_succ]
                refine drawT_done (by kernel_rfl) ?_
                clear hHeld
                have hgb := rd HBX7.out
                have s3 := (cells2 HBX7.out).1; have s4 := hgb.2.1 0; have s5 := hgb.2.2.1
                clear hgb
                go_wp2_with fail
                go_roundg (gk - 1)
                case measure => omega
                case rel =>
                  refine ⟨k + 1, ca2, va2, by omega, by go_num, by omega, ?_⟩
                  have hN := NIn.more (n := nodeS x) (Hn.out.below HBJ.out) HGL.out.1 (by rw [HLEN.out]; exact HG7.out) (by rw [HLEN.out, HNS.out, ← flatL_one encN]; exact HO7.out)
                  rw [← HSN.out, HLEN.out] at hN
                  exact hN
              · have HNS := Lib.hid (show nodeS x = ⟨x.name, (kindS x.name : Nat), y.state⟩ from by unfold nodeS; rw [HADJ.out, if_neg (by omega)])
                go_wp2_with fail
                clear hlk f1 hcc
                refine wp_region_drawT (S := fun V => V.heap[GB]? = some (.cells #[.slice va k ca, .slice none 0 0] 29 (0, 0))) 10 (by kernel_rfl) (by kernel_rfl) HBXN.out (fun hHeld => ?_)
                try simp only [Act.put, List.setIfInBounds_toArray, List.set_cons_zero, List.set_cons_succ]
                refine drawT_take (i := 0) (v := .pointer (some ⟨GB, 0, none⟩)) (List.getElem?_toArray.trans rfl) (by kernel_rfl) (by kernel_rfl) (by kernel_rfl) (by kernel_rfl) (fun _ _ _ h => h) (Or.inl ⟨by rfl, fun W hW => by have q0 : W.cell? ⟨GB, 0, none⟩ = some (.slice va k ca) := (cells2 hW).1; clear hW; go_simp⟩) (by assumption) ?_
                try simp only [Act.put, List.setIfInBounds_toArray, List.set_cons_zero, List.set_cons_succ]
                refine drawT_take (i := 1) (v := .slice va k ca) (List.getElem?_toArray.trans rfl) (by kernel_rfl) (by kernel_rfl) (by kernel_rfl) (by kernel_rfl) (fun _ _ _ h => h) (Or.inl ⟨by rfl, fun W hW => by have q0 : W.cell? ⟨GB, 0, none⟩ = some (.slice va k ca) := (cells2 hW).1; clear hW; go_simp⟩) (by assumption) ?_
                try simp only [Act.put, List.setIfInBounds_toArray, List.set_cons_zero, List.set_cons_succ]
                refine drawT_take (i := 2) (v := .string ⟨x.name.toArray⟩) (List.getElem?_toArray.trans rfl) (by kernel_rfl) (by kernel_rfl) (by kernel_rfl) (by kernel_rfl) (fun _ _ _ h => h) (Or.inl ⟨by rfl, fun W hW => by have q0 : W.cell? ⟨GB, 0, none⟩ = some (.slice va k ca) := (cells2 hW).1; clear hW; go_simp⟩) (by assumption) ?_
                try simp only [Act.put, List.setIfInBounds_toArray, List.set_cons_zero, List.set_cons_succ]
                refine drawT_take (i := 3) (v := .string ⟨x.name.toArray⟩) (List.getElem?_toArray.trans rfl) (by kernel_rfl) (by kernel_rfl) (by kernel_rfl) (by kernel_rfl) (fun _ _ _ h => h) (Or.inl ⟨by rfl, fun W hW => by have q0 : W.cell? ⟨GB, 0, none⟩ = some (.slice va k ca) := (cells2 hW).1; clear hW; go_simp⟩) (by assumption) ?_
                try simp only [Act.put, List.setIfInBounds_toArray, List.set_cons_zero, List.set_cons_succ]
                refine drawT_take (i := 6) (v := .int .i64 y.state) (List.getElem?_toArray.trans rfl) (by kernel_rfl) (by kernel_rfl) (by kernel_rfl) (by kernel_rfl) (fun _ _ _ h => h) (Or.inl ⟨by rfl, fun W hW => by have q0 : W.cell? ⟨GB, 0, none⟩ = some (.slice va k ca) := (cells2 hW).1; clear hW; go_simp⟩) (by assumption) ?_
                try simp only [Act.put, List.setIfInBounds_toArray, List.set_cons_zero, List.set_cons_succ]
                refine drawT_one (i := 4) (List.getElem?_toArray.trans rfl) (by kernel_rfl) (by kernel_rfl) (fun K hK => ?_)
                clear hHeld
                rw [if_pos (by rfl)]
                go_simp
                refine (HOF.out _).mono ?_
                rintro e wi ⟨rfl, hbi⟩
                simp only [ofS_kind]
                have HBI := Lib.hid ((show Below wr.heap.size wr wr.drew from below_dn ⟨1, rfl⟩).trans hbi)
                clear hbi
                refine hK.out _ _ (heap_below HBXN.out HBI.out) (fun hHeld => ?_)
                clear hK K
                try simp only [Act.put, List.setIfInBounds_toArray, List.set_cons_zero, List.set_cons_succ]
                refine drawT_take (i := 5) (v := .int .i64 (kindS x.name : Nat)) (List.getElem?_toArray.trans rfl) (by kernel_rfl) (by kernel_rfl) (by kernel_rfl) (by kernel_rfl) (fun _ _ _ h => h) (Or.inl ⟨by rfl, fun W hW => by clear hW; go_simp⟩) (by assumption) ?_
                try simp only [Act.put, List.setIfInBounds_toArray, List.set_cons_zero, List.set_cons_succ]
                refine drawT_take (i := 7) (v := .agg #[.string ⟨x.name.toArray⟩, .int .i64 (kindS x.name : Nat), .int .i64 y.state]) (List.getElem?_toArray.trans rfl) (by kernel_rfl) (by kernel_rfl) (by kernel_rfl) (by kernel_rfl) (fun _ _ _ h => h) (Or.inl ⟨by rfl, fun W hW => by clear hW; go_simp⟩) (by assumption) ?_
                try simp only [Act.put, List.setIfInBounds_toArray, List.set_cons_zero, List.set_cons_succ]
                refine drawT_one (i := 8) (List.getElem?_toArray.trans rfl) (by kernel_rfl) (by kernel_rfl) (fun K hK => ?_)
                clear hHeld
                rw [if_pos (by rfl)]
                go_simp
                have HBJ := Lib.hid (show Below wr.heap.size wr (wi.alloc (.cells #[.string ⟨x.name.toArray⟩, .int .i64 (kindS x.name : Nat), .int .i64 y.state] 32)) from HBI.out.alloc HBI.out.size _)
                have HBL := Lib.hid (RowRd.of_own (enc := encN) (k := 3) (l := [(⟨x.name, (kindS x.name : Nat), y.state⟩ : NodeS)]) (oa := some ⟨wi.heap.size, 0, none⟩) (cap := 1) (fun _ => rfl) (own_built3 wi (.string ⟨x.name.toArray⟩) (.int .i64 (kindS x.name : Nat)) (.int .i64 y.state) 32))
                refine hK.out _ _ (heap_below HBXN.out HBJ.out) (fun hHeld => ?_)
                clear hK K
                try simp only [Act.put, List.setIfInBounds_toArray, List.set_cons_zero, List.set_cons_succ]
                refine drawT_one (i := 9) (List.getElem?_toArray.trans rfl) (by kernel_rfl) (by kernel_rfl) (fun K hK => ?_)
                clear hHeld
                refine step_append_rows (by rfl) (.tmp 67) (.tmp 74) 26 (by rfl) w6.heap.size 32 i0 (.agg #[.string ⟨#[]⟩, .int .i64 0, .int .i64 0]) 3 32 Tryz.underlying26 hi0 hz0 hz1 hz2 (by rfl) (by decide) (.slice va k ca) k (flatL encN ((T.take k).map nodeS)) (by rfl) (own_keeps HOWN.out HBJ.out) (some ⟨wi.heap.size, 0, none⟩) 1 1 (flatL encN [(⟨x.name, (kindS x.name : Nat), y.state⟩ : NodeS)]) (by rfl)
                    rfl (RowRd.flat (enc := encN) (k := 3) (fun _ => rfl) (by omega) HBL.out) (by intro u hu; simp [flatL, encN] at hu; rcases hu with rfl | rfl | rfl <;> rfl) (by unfold maxLen; omega) (by omega) (Nat.le_trans Hn.out.fr.size HBJ.out.size) ?_
                intro v1 w7 hown1 hgrow1
                obtain ⟨va2, ca2, rfl⟩ := ownsRow_form hown1
                have HO7 := Lib.hid hown1; have HG7 := Lib.hid hgrow1
                have HBX7 := Lib.hid (show w7.heap[GB]? = some (.cells #[.slice va k ca, .slice none 0 0] 29 (0, 0)) from by
                  rw [hgrow1.block GB (lt_heap (heap_below HBXN.out HBJ.out)) (own_not_box (own_keeps HOWN.out HBJ.out) (heap_below HBXN.out HBJ.out) (by decide))]; exact heap_below HBXN.out HBJ.out)
                clear hown1 hgrow1
                refine hK.out _ _ HBX7.out (fun hHeld => ?_)
                clear hK K
                try simp only [Act.put, List.setIfInBounds_toArray, List.set_cons_zero, List.set_cons_succ]
                refine drawT_done (by kernel_rfl) ?_
                clear hHeld
                have hgb := rd HBX7.out
                have s3 := (cells2 HBX7.out).1; have s4 := hgb.2.1 0; have s5 := hgb.2.2.1
                clear hgb
                go_wp2_with fail
                go_roundg (gk - 1)
                case measure => omega
                case rel =>
                  refine ⟨k + 1, ca2, va2, by omega, by go_num, by omega, ?_⟩
                  have hN := NIn.more (n := nodeS x) (Hn.out.below HBJ.out) HGL.out.1 (by rw [HLEN.out]; exact HG7.out) (by rw [HLEN.out, HNS.out, ← flatL_one encN]; exact HO7.out)
                  rw [← HSN.out, HLEN.out] at hN
                  exact hN
          · have hk2 : k = rs.length := by omega
            subst hk2
            have htk : T.take rs.length = T := List.take_of_length_le (by omega)
            rw [htk] at Hn
            have hnl : (T.map nodeS).length = rs.length := by rw [List.length_map]; omega
            have hbx := Hn.out.box
            have hg7 : GR wr GB va ca (T.map nodeS) (addR [] ((T.take 0).flatMap fun x => if x.state = 1 then ownR nm fs x else [])) := by
              refine ⟨⟨none, 0, Hn.out.box, RArg.none⟩, RowRd.of_own (enc := encN) (k := 3) (fun _ => rfl) Hn.out.own, List.Pairwise.nil, (fun e h => by cases h), (by omega)⟩
            have HG7 := Lib.hid hg7
            have HNN := Lib.hid (show (T.map nodeS).map (·.name) = nm from by rw [List.map_map, ← HTN.out]; rfl)
            have HF6 := Hn.out.fr
            obtain ⟨g0, g1⟩ := cells2 hbx
            rw [hnl] at g0
            have HBW := Lib.hid (show Below w.heap.size w wr from HB6.out.trans (HF6.below _ HB6.out.size (fun k hk e => by have := HRB.out; omega)))
            have HGB7 := Lib.hid hbx
            have HV7 := Lib.hid (fun V (h : Fr (fun k => k = GB) wr V) => show AllIn V (R + 1) tv fs from AllIn.frg HGB7.out h (HV.out wr HF6).2)
            have HR7 := Lib.hid (show wr.heap[R]? = some (.cells #[.slice none 0 0, .slice none 0 0] 29 (0, 0)) from HF6.heap HBX6.out HGL.out.2)
            have HNLn := Lib.hid hnl
            clear hbx hg7 hnl htk Hn HF6 HV HBX6 HB6 hfu
            go_wp2_with fail
            clear g0 g1
            obtain ⟨w7, rfl⟩ : ∃ W, W = wr := ⟨_, rfl⟩
            go_loopg [81] (rs.length + 1) (fun f i wq => ∃ k : Nat, k ≤ rs.length ∧ i = .int .i64 k ∧ rs.length - k < f ∧ Hid (GR wq GB va ca (T.map nodeS) (addR [] ((T.take k).flatMap fun x => if x.state = 1 then ownR nm fs x else []))) ∧ Hid (Fr (fun k => k = GB) w7 wq))
            case atStart => exact ⟨0, by omega, rfl, by omega, HG7, Fr.refl _ _⟩
            case round =>
              obtain ⟨k, hk, rfl, hfu, HGk, Hf⟩ := hrel
              clear HG7
              by_cases hlt : k < rs.length
              · have hkT : k < T.length := by omega
                obtain ⟨b2, o2, rfl, hblt, hcc⟩ := HGk.out.rn k (by rw [List.length_map]; omega)
                obtain ⟨x, hx⟩ : ∃ x, x = T[k] := ⟨_, rfl⟩
                rw [List.getElem_map, ← hx] at hcc
                have d0 := hcc 0 _ rfl; have d1 := hcc 1 _ rfl; have d2 := hcc 2 _ rfl
                simp only [Nat.add_zero] at d0
                change wr.cell? ⟨b2, o2 + k * 3, none⟩ = some (.string ⟨x.name.toArray⟩) at d0
                change wr.cell? ⟨b2, o2 + k * 3 + 1, none⟩ = some (.int .i64 (kindS x.name : Nat)) at d1
                change wr.cell? ⟨b2, o2 + k * 3 + 2, none⟩ = some (.int .i64 x.state) at d2
                have hxT : x ∈ T := by rw [hx]; exact List.getElem_mem hkT
                obtain ⟨y, hyl, hylk, hadj, hkd⟩ := HTE.out x hxT
                rw [HFS.out] at hylk
                have hsn : addR [] ((T.take (k + 1)).flatMap fun x => if x.state = 1 then ownR nm fs x else []) = addR (addR [] ((T.take k).flatMap fun x => if x.state = 1 then ownR nm fs x else [])) (if x.state = 1 then ownR nm fs x else []) := by
                  rw [List.take_succ_eq_append_getElem hkT, List.flatMap_append, addR_append, ← hx]; simp
                have HSN := Lib.hid hsn
                have HXN := Lib.hid (show x.name ∈ (T.map nodeS).map (·.name) from by rw [List.map_map]; exact List.mem_map.2 ⟨x, hxT, rfl⟩)
                have i5 : (k : Int) < (rs.length : Int) := by omega
                have hba := (Below.refl wr.heap.size wr).alloc (Nat.le_refl _) (.cells #[.string ⟨x.name.toArray⟩, .int .i64 (kindS x.name : Nat), .int .i64 x.state] 32)
                have HGa := Lib.hid (HGk.out.below hba)
                have HFa := Lib.hid (Hf.out.trans (Fr.of_below hba (fun k => k = GB)))
                clear hcc hx hsn hxT hba HGk Hf
                generalize addR [] ((T.take k).flatMap fun x => if x.state = 1 then ownR nm fs x else []) = ek at *
                cases hs1 : (x.state == 1) with
                | false =>
                  have HS2 := Lib.hid (show ¬ x.state = 1 from by simpa using hs1)
                  rw [if_neg HS2.out] at HSN
                  go_wp2_with fail
                  go_roundg (gk - 1)
                  case measure => omega
                  case rel => exact ⟨k + 1, by omega, by go_num, by omega, by rw [HSN.out]; exact HGa, HFa⟩
                | true =>
                  have hx1 : x.state = 1 := by simpa using hs1
                  rw [if_pos hx1] at HSN
                  have hyx : y = x := by
                    have h1 : (adjS y).state = 1 := by rw [hadj]; exact hx1
                    obtain ⟨e, _⟩ := adj_one h1
                    rw [← hadj, e]
                  subst hyx
                  have HUN := Lib.hid (HS.out y hyl hx1)
                  have HKD := Lib.hid hkd
                  have HAL := Lib.hid (HV7.out _ HFa.out)
                  obtain ⟨cs, hrun, hld⟩ := HAL.out.get hylk
                  have hlk := hrun _ HAL.out
                  have HLD := Lib.hid hld
                  clear hrun hld hyl hylk hadj hkd hx1
                  go_wp2_with fail
                  generalize wr.alloc (.cells #[.string ⟨y.name.toArray⟩, .int .i64 (kindS y.name : Nat), .int .i64 y.state] 32) = wa at *
                  refine (ownR_any GB _ ca (T.map nodeS) ek (R + 1) tv fs cs y wa HGa.out HAL.out HLD.out HXN.out HUN.out HKD.out _ rfl).mono ?_
                  rintro e wb ⟨rfl, hg, hf⟩
                  rw [HNN.out, ← HSN.out] at hg
                  have HGb := Lib.hid hg
                  have HFb := Lib.hid (HFa.out.trans hf)
                  clear hg hf hlk d0 d1 d2
                  go_wp2_with fail
                  go_roundg (gk - 1)
                  case measure => omega
                  case rel => exact ⟨k + 1, by omega, by go_num, by omega, HGb, HFb⟩
              · have hk2 : k = rs.length := by omega
                subst hk2
                rw [show T.take rs.length = T from List.take_of_length_le (by omega)] at HGk
                have HES := Lib.hid (show addR [] (T.flatMap fun x => if x.state = 1 then ownR nm fs x else []) = edgesS l from HED.out.symm)
                rw [HES.out] at HGk
                obtain ⟨oe, ce, hgb, hra⟩ := HGk.out.box
                obtain ⟨g0, g1⟩ := cells2 hgb
                have hrb := rd (Hf.out.heap HR7.out HGL.out.2)
                have r0 := hrb.1 0; have r1 := hrb.1 1
                have r2 := hrb.2.1 0; have r3 := hrb.2.1 1
                have r4 := hrb.2.2.1
                have HRX := Lib.hid (Hf.out.heap HR7.out HGL.out.2)
                have HRA := Lib.hid hra
                clear hgb hrb hra
                go_wp2_with fail
                have h9 := heap_setCell (heap_setCell HRX.out 0 (.slice va rs.length ca)) 1 (.slice oe (edgesS l).length ce)
                have hf9 : Fr (fun k => k = R) wr ((wr.setCell ⟨R, 0, none⟩ (.slice va rs.length ca)).setCell ⟨R, 1, none⟩ (.slice oe (edgesS l).length ce)) :=
                  Fr.setCell (M := fun k => k = R) (Fr.setCell (M := fun k => k = R) (Fr.refl _ _) (p := ⟨R, 0, none⟩) (fun _ => rfl) _) (p := ⟨R, 1, none⟩) (fun _ => rfl) _
                refine post_cell 2 29 R _ rfl rfl rfl (loadVar_all 29 _ rfl rfl rfl h9) ?_
                rw [HND.out, HNLn.out]
                have hbw : Below w.heap.size w wr := HBW.out.trans (Hf.out.below _ HBW.out.size (fun k hk e => by have := HRB.out; omega))
                exact ⟨va, ca, oe, ce, rfl, RowRd.frg HRX.out hf9 encN_plain HGk.out.rn, RowRd.frg HRX.out hf9 encE_plain HRA.out.row, hbw.trans (hf9.below _ hbw.size (fun k hk e => by have := HRB.out; omega))⟩
      · have i6 : ¬ ((rs.length : Int) ≤ 64) := by omega
        have i7 : (64 : Int) ≤ (cp : Int) := by omega
        have i8 : (64 : Int) ≤ (rs.length : Int) := by omega
        go_wp2_with fail
        have hb6 := (Below.refl wr.heap.size wr).alloc (Nat.le_refl _) (.cells #[.slice none 0 0, .slice none 0 0] 29)
        have HB6 := Lib.hid (HBK.out.trans (hb6.mono HBK.out.size))
        have HAL6 := Lib.hid (HAL.out.below hb6)
        have HTN := Lib.hid (table_names l)
        have hrow : StrRow (wr.alloc (.cells #[.slice none 0 0, .slice none 0 0] 29)) on ((tableS l).map (·.name)) := by rw [HTN.out, HNM.out]; exact (HA.out.row.take 64).below hb6
        have HBX6 := Lib.hid (heap_below HBX.out hb6)
        have HN6 := Lib.hid (show NIn (wr.alloc (.cells #[.slice none 0 0, .slice none 0 0] 29)) (wr.alloc (.cells #[.slice none 0 0, .slice none 0 0] 29)) wr.heap.size none 0 (((tableS l).take 0).map nodeS) from ⟨Fr.refl _ _, heap_alloc_new wr _, World.ownsRow_nil _ _ _ _⟩)
        have HGL := Lib.hid (show wr.heap.size < (wr.alloc (.cells #[.slice none 0 0, .slice none 0 0] 29)).heap.size ∧ R ≠ wr.heap.size from ⟨by simp, by have := lt_heap HBX.out; omega⟩)
        have htl : (tableS l).length = 64 := by
          have := congrArg List.length HTN.out
          rw [List.length_map, HNM.out] at this
          rw [this]; rw [List.length_take]; omega
        have HTE := Lib.hid (fun x (h : x ∈ tableS l) => table_entry h)
        have HND := Lib.hid (show nodesS l = (tableS l).map nodeS from rfl)
        have HED := Lib.hid (show edgesS l = sortL ltE ((tableS l).flatMap fun x => if x.state = 1 then ownR (namesS l) (firstsR l []) x else []) from (edges_same HS.out).symm)
        have HROW := Lib.hid hrow
        have hrf : R = w.heap.size := HRN.out
        have HRB := Lib.hid (show w.heap.size ≤ wr.heap.size ∧ R = w.heap.size from ⟨HBK.out.size, hrf⟩)
        clear hrow hb6 HAL HBX HBK HK HA HRN hrf
        generalize wr.alloc (.cells #[.slice none 0 0, .slice none 0 0] 29) = w6 at *
        generalize wr.heap.size = GB at *
        generalize tableS l = T at *
        generalize namesS l = nm at *
        rw [HFS.out] at HED
        have HGB6 := Lib.hid HN6.out.box
        have HV := Lib.hid (fun V (h : Fr (fun k => k = GB) w6 V) => show StrRow V on (T.map (·.name)) ∧ AllIn V (R + 1) tv fs from ⟨StrRow.frg HGB6.out h HROW.out, AllIn.frg HGB6.out h HAL6.out⟩)
        clear HROW HAL6 HGB6 HNM
        go_loopg [52] (64 + 1) (fun f i wq => ∃ (k ca : Nat) (va : Option Addr), k ≤ 64 ∧ i = .int .i64 k ∧ 64 - k < f ∧ Hid (NIn w6 wq GB va ca ((T.take k).map nodeS)))
        case atStart => exact ⟨0, 0, none, by omega, rfl, by omega, HN6⟩
        case round =>
          obtain ⟨k, ca, va, hk, rfl, hfu, Hn⟩ := hrel
          clear HN6
          by_cases hlt : k < 64
          · obtain ⟨b, o, rfl, hcc⟩ := (HV.out wr Hn.out.fr).1 k (by rw [List.length_map]; omega)
            have hkT : k < T.length := by omega
            obtain ⟨x, hx⟩ : ∃ x, x = T[k] := ⟨_, rfl⟩
            rw [List.getElem_map, ← hx] at hcc
            obtain ⟨y, hyl, hylk, hadj, hkd⟩ := HTE.out x (by rw [hx]; exact List.getElem_mem hkT)
            rw [HFS.out] at hylk
            have hsn : (T.take (k + 1)).map nodeS = (T.take k).map nodeS ++ [nodeS x] := by
              rw [List.take_succ_eq_append_getElem hkT, List.map_append, hx]; rfl
            obtain ⟨cs, hrun, hld⟩ := (HV.out wr Hn.out.fr).2.get hylk
            have hlk := hrun wr (HV.out wr Hn.out.fr).2
            have f1 := field_loaded1 cs _ hld.state
            have hlen : ((T.take k).map nodeS).length = k := by rw [List.length_map, List.length_take]; omega
            have hbx := Hn.out.box
            have hown := Hn.out.own
            rw [hlen] at hbx hown
            have HBXN := Lib.hid hbx; have HOWN := Lib.hid hown; have HSN := Lib.hid hsn; have HLEN := Lib.hid hlen
            have HADJ := Lib.hid (show x.state = if y.state < 1 ∨ 4 < y.state then 4 else y.state from by rw [← hadj]; rfl)
            have HOF := Lib.hid (fun V => of_any ⟨x.name.toArray⟩ V (ofS x.name) rfl)
            have hfc := field_cut (.int .i64 (kindS x.name : Nat)) (.string ⟨(ofS x.name).pre.toArray⟩) (.string ⟨(ofS x.name).inst.toArray⟩) (.bool (ofS x.name).at_) rfl
            have i5 : (k : Int) < (64 : Int) := by omega
            clear hrun hld hbx hown hsn hlen hx hyl hylk hadj
            by_cases s1 : y.state < 1
            · have HNS := Lib.hid (show nodeS x = ⟨x.name, (kindS x.name : Nat), 4⟩ from by unfold nodeS; rw [HADJ.out, if_pos (.inl s1)])
              go_wp2_with fail
              clear hlk f1 hcc
              refine wp_region_drawT (S := fun V => V.heap[GB]? = some (.cells #[.slice va k ca, .slice none 0 0] 29 (0, 0))) 10 (by kernel_rfl) (by kernel_rfl) HBXN.out (fun hHeld => ?_)
              try simp only [Act.put, List.setIfInBounds_toArray, List.set_cons_zero, List.set_cons_succ]
              refine drawT_take (i := 0) (v := .pointer (some ⟨GB, 0, none⟩)) (List.getElem?_toArray.trans rfl) (by kernel_rfl) (by kernel_rfl) (by kernel_rfl) (by kernel_rfl) (fun _ _ _ h => h) (Or.inl ⟨by rfl, fun W hW => by have q0 : W.cell? ⟨GB, 0, none⟩ = some (.slice va k ca) := (cells2 hW).1; clear hW; go_simp⟩) (by assumption) ?_
              try simp only [Act.put, List.setIfInBounds_toArray, List.set_cons_zero, List.set_cons_succ]
              refine drawT_take (i := 1) (v := .slice va k ca) (List.getElem?_toArray.trans rfl) (by kernel_rfl) (by kernel_rfl) (by kernel_rfl) (by kernel_rfl) (fun _ _ _ h => h) (Or.inl ⟨by rfl, fun W hW => by have q0 : W.cell? ⟨GB, 0, none⟩ = some (.slice va k ca) := (cells2 hW).1; clear hW; go_simp⟩) (by assumption) ?_
              try simp only [Act.put, List.setIfInBounds_toArray, List.set_cons_zero, List.set_cons_succ]
              refine drawT_take (i := 2) (v := .string ⟨x.name.toArray⟩) (List.getElem?_toArray.trans rfl) (by kernel_rfl) (by kernel_rfl) (by kernel_rfl) (by kernel_rfl) (fun _ _ _ h => h) (Or.inl ⟨by rfl, fun W hW => by have q0 : W.cell? ⟨GB, 0, none⟩ = some (.slice va k ca) := (cells2 hW).1; clear hW; go_simp⟩) (by assumption) ?_
              try simp only [Act.put, List.setIfInBounds_toArray, List.set_cons_zero, List.set_cons_succ]
              refine drawT_take (i := 3) (v := .string ⟨x.name.toArray⟩) (List.getElem?_toArray.trans rfl) (by kernel_rfl) (by kernel_rfl) (by kernel_rfl) (by kernel_rfl) (fun _ _ _ h => h) (Or.inl ⟨by rfl, fun W hW => by have q0 : W.cell? ⟨GB, 0, none⟩ = some (.slice va k ca) := (cells2 hW).1; clear hW; go_simp⟩) (by assumption) ?_
              try simp only [Act.put, List.setIfInBounds_toArray, List.set_cons_zero, List.set_cons_succ]
              refine drawT_take (i := 6) (v := .int .i64 4) (List.getElem?_toArray.trans rfl) (by kernel_rfl) (by kernel_rfl) (by kernel_rfl) (by kernel_rfl) (fun _ _ _ h => h) (Or.inl ⟨by rfl, fun W hW => by have q0 : W.cell? ⟨GB, 0, none⟩ = some (.slice va k ca) := (cells2 hW).1; clear hW; go_simp⟩) (by assumption) ?_
              try simp only [Act.put, List.setIfInBounds_toArray, List.set_cons_zero, List.set_cons_succ]
              refine drawT_one (i := 4) (List.getElem?_toArray.trans rfl) (by kernel_rfl) (by kernel_rfl) (fun K hK => ?_)
              clear hHeld
              rw [if_pos (by rfl)]
              go_simp
              refine (HOF.out _).mono ?_
              rintro e wi ⟨rfl, hbi⟩
              simp only [ofS_kind]
              have HBI := Lib.hid ((show Below wr.heap.size wr wr.drew from below_dn ⟨1, rfl⟩).trans hbi)
              clear hbi
              refine hK.out _ _ (heap_below HBXN.out HBI.out) (fun hHeld => ?_)
              clear hK K
              try simp only [Act.put, List.setIfInBounds_toArray, List.set_cons_zero, List.set_cons_succ]
              refine drawT_take (i := 5) (v := .int .i64 (kindS x.name : Nat)) (List.getElem?_toArray.trans rfl) (by kernel_rfl) (by kernel_rfl) (by kernel_rfl) (by kernel_rfl) (fun _ _ _ h => h) (Or.inl ⟨by rfl, fun W hW => by clear hW; go_simp⟩) (by assumption) ?_
              try simp only [Act.put, List.setIfInBounds_toArray, List.set_cons_zero, List.set_cons_succ]
              refine drawT_take (i := 7) (v := .agg #[.string ⟨x.name.toArray⟩, .int .i64 (kindS x.name : Nat), .int .i64 4]) (List.getElem?_toArray.trans rfl) (by kernel_rfl) (by kernel_rfl) (by kernel_rfl) (by kernel_rfl) (fun _ _ _ h => h) (Or.inl ⟨by rfl, fun W hW => by clear hW; go_simp⟩) (by assumption) ?_
              try simp only [Act.put, List.setIfInBounds_toArray, List.set_cons_zero, List.set_cons_succ]
              refine drawT_one (i := 8) (List.getElem?_toArray.trans rfl) (by kernel_rfl) (by kernel_rfl) (fun K hK => ?_)
              clear hHeld
              rw [if_pos (by rfl)]
              go_simp
              have HBJ := Lib.hid (show Below wr.heap.size wr (wi.alloc (.cells #[.string ⟨x.name.toArray⟩, .int .i64 (kindS x.name : Nat), .int .i64 4] 32)) from HBI.out.alloc HBI.out.size _)
              have HBL := Lib.hid (RowRd.of_own (enc := encN) (k := 3) (l := [(⟨x.name, (kindS x.name : Nat), 4⟩ : NodeS)]) (oa := some ⟨wi.heap.size, 0, none⟩) (cap := 1) (fun _ => rfl) (own_built3 wi (.string ⟨x.name.toArray⟩) (.int .i64 (kindS x.name : Nat)) (.int .i64 4) 32))
              refine hK.out _ _ (heap_below HBXN.out HBJ.out) (fun hHeld => ?_)
              clear hK K
              try simp only [Act.put, List.setIfInBounds_toArray, List.set_cons_zero, List.set_cons_succ]
              refine drawT_one (i := 9) (List.getElem?_toArray.trans rfl) (by kernel_rfl) (by kernel_rfl) (fun K hK => ?_)
              clear hHeld
              refine step_append_rows (by rfl) (.tmp 67) (.tmp 74) 26 (by rfl) w6.heap.size 32 i0 (.agg #[.string ⟨#[]⟩, .int .i64 0, .int .i64 0]) 3 32 Tryz.underlying26 hi0 hz0 hz1 hz2 (by rfl) (by decide) (.slice va k ca) k (flatL encN ((T.take k).map nodeS)) (by rfl) (own_keeps HOWN.out HBJ.out) (some ⟨wi.heap.size, 0, none⟩) 1 1 (flatL encN [(⟨x.name, (kindS x.name : Nat), 4⟩ : NodeS)]) (by rfl)
                  rfl (RowRd.flat (enc := encN) (k := 3) (fun _ => rfl) (by omega) HBL.out) (by intro u hu; simp [flatL, encN] at hu; rcases hu with rfl | rfl | rfl <;> rfl) (by unfold maxLen; omega) (by omega) (Nat.le_trans Hn.out.fr.size HBJ.out.size) ?_
              intro v1 w7 hown1 hgrow1
              obtain ⟨va2, ca2, rfl⟩ := ownsRow_form hown1
              have HO7 := Lib.hid hown1; have HG7 := Lib.hid hgrow1
              have HBX7 := Lib.hid (show w7.heap[GB]? = some (.cells #[.slice va k ca, .slice none 0 0] 29 (0, 0)) from by
                rw [hgrow1.block GB (lt_heap (heap_below HBXN.out HBJ.out)) (own_not_box (own_keeps HOWN.out HBJ.out) (heap_below HBXN.out HBJ.out) (by decide))]; exact heap_below HBXN.out HBJ.out)
              clear hown1 hgrow1
              refine hK.out _ _ HBX7.out (fun hHeld => ?_)
              clear hK K
              try simp only [Act.put, List.setIfInBounds_toArray, List.set_cons_zero, List.set_cons_succ]
              refine drawT_done (by kernel_rfl) ?_
              clear hHeld
              have hgb := rd HBX7.out
              have s3 := (cells2 HBX7.out).1; have s4 := hgb.2.1 0; have s5 := hgb.2.2.1
              clear hgb
              go_wp2_with fail
              go_roundg (gk - 1)
              case measure => omega
              case rel =>
                refine ⟨k + 1, ca2, va2, by omega, by go_num, by omega, ?_⟩
                have hN := NIn.more (n := nodeS x) (Hn.out.below HBJ.out) HGL.out.1 (by rw [HLEN.out]; exact HG7.out) (by rw [HLEN.out, HNS.out, ← flatL_one encN]; exact HO7.out)
                rw [← HSN.out, HLEN.out] at hN
                exact hN
            · by_cases s2 : 4 < y.state
              · have HNS := Lib.hid (show nodeS x = ⟨x.name, (kindS x.name : Nat), 4⟩ from by unfold nodeS; rw [HADJ.out, if_pos (.inr s2)])
                go_wp2_with fail
                clear hlk f1 hcc
                refine wp_region_drawT (S := fun V => V.heap[GB]? = some (.cells #[.slice va k ca, .slice none 0 0] 29 (0, 0))) 10 (by kernel_rfl) (by kernel_rfl) HBXN.out (fun hHeld => ?_)
                try simp only [Act.put, List.setIfInBounds_toArray, List.set_cons_zero, List.set_cons_succ]
                refine drawT_take (i := 0) (v := .pointer (some ⟨GB, 0, none⟩)) (List.getElem?_toArray.trans rfl) (by kernel_rfl) (by kernel_rfl) (by kernel_rfl) (by kernel_rfl) (fun _ _ _ h => h) (Or.inl ⟨by rfl, fun W hW => by have q0 : W.cell? ⟨GB, 0, none⟩ = some (.slice va k ca) := (cells2 hW).1; clear hW; go_simp⟩) (by assumption) ?_
                try simp only [Act.put, List.setIfInBounds_toArray, List.set_cons_zero, List.set_cons_succ]
                refine drawT_take (i := 1) (v := .slice va k ca) (List.getElem?_toArray.trans rfl) (by kernel_rfl) (by kernel_rfl) (by kernel_rfl) (by kernel_rfl) (fun _ _ _ h => h) (Or.inl ⟨by rfl, fun W hW => by have q0 : W.cell? ⟨GB, 0, none⟩ = some (.slice va k ca) := (cells2 hW).1; clear hW; go_simp⟩) (by assumption) ?_
                try simp only [Act.put, List.setIfInBounds_toArray, List.set_cons_zero, List.set_cons_succ]
                refine drawT_take (i := 2) (v := .string ⟨x.name.toArray⟩) (List.getElem?_toArray.trans rfl) (by kernel_rfl) (by kernel_rfl) (by kernel_rfl) (by kernel_rfl) (fun _ _ _ h => h) (Or.inl ⟨by rfl, fun W hW => by have q0 : W.cell? ⟨GB, 0, none⟩ = some (.slice va k ca) := (cells2 hW).1; clear hW; go_simp⟩) (by assumption) ?_
                try simp only [Act.put, List.setIfInBounds_toArray, List.set_cons_zero, List.set_cons_succ]
                refine drawT_take (i := 3) (v := .string ⟨x.name.toArray⟩) (List.getElem?_toArray.trans rfl) (by kernel_rfl) (by kernel_rfl) (by kernel_rfl) (by kernel_rfl) (fun _ _ _ h => h) (Or.inl ⟨by rfl, fun W hW => by have q0 : W.cell? ⟨GB, 0, none⟩ = some (.slice va k ca) := (cells2 hW).1; clear hW; go_simp⟩) (by assumption) ?_
                try simp only [Act.put, List.setIfInBounds_toArray, List.set_cons_zero, List.set_cons_succ]
                refine drawT_take (i := 6) (v := .int .i64 4) (List.getElem?_toArray.trans rfl) (by kernel_rfl) (by kernel_rfl) (by kernel_rfl) (by kernel_rfl) (fun _ _ _ h => h) (Or.inl ⟨by rfl, fun W hW => by have q0 : W.cell? ⟨GB, 0, none⟩ = some (.slice va k ca) := (cells2 hW).1; clear hW; go_simp⟩) (by assumption) ?_
                try simp only [Act.put, List.setIfInBounds_toArray, List.set_cons_zero, List.set_cons_succ]
                refine drawT_one (i := 4) (List.getElem?_toArray.trans rfl) (by kernel_rfl) (by kernel_rfl) (fun K hK => ?_)
                clear hHeld
                rw [if_pos (by rfl)]
                go_simp
                refine (HOF.out _).mono ?_
                rintro e wi ⟨rfl, hbi⟩
                simp only [ofS_kind]
                have HBI := Lib.hid ((show Below wr.heap.size wr wr.drew from below_dn ⟨1, rfl⟩).trans hbi)
                clear hbi
                refine hK.out _ _ (heap_below HBXN.out HBI.out) (fun hHeld => ?_)
                clear hK K
                try simp only [Act.put, List.setIfInBounds_toArray, List.set_cons_zero, List.set_cons_succ]
                refine drawT_take (i := 5) (v := .int .i64 (kindS x.name : Nat)) (List.getElem?_toArray.trans rfl) (by kernel_rfl) (by kernel_rfl) (by kernel_rfl) (by kernel_rfl) (fun _ _ _ h => h) (Or.inl ⟨by rfl, fun W hW => by clear hW; go_simp⟩) (by assumption) ?_
                try simp only [Act.put, List.setIfInBounds_toArray, List.set_cons_zero, List.set_cons_succ]
                refine drawT_take (i := 7) (v := .agg #[.string ⟨x.name.toArray⟩, .int .i64 (kindS x.name : Nat), .int .i64 4]) (List.getElem?_toArray.trans rfl) (by kernel_rfl) (by kernel_rfl) (by kernel_rfl) (by kernel_rfl) (fun _ _ _ h => h) (Or.inl ⟨by rfl, fun W hW => by clear hW; go_simp⟩) (by assumption) ?_
                try simp only [Act.put, List.setIfInBounds_toArray, List.set_cons_zero, List.set_cons_succ]
                refine drawT_one (i := 8) (List.getElem?_toArray.trans rfl) (by kernel_rfl) (by kernel_rfl) (fun K hK => ?_)
                clear hHeld
                rw [if_pos (by rfl)]
                go_simp
                have HBJ := Lib.hid (show Below wr.heap.size wr (wi.alloc (.cells #[.string ⟨x.name.toArray⟩, .int .i64 (kindS x.name : Nat), .int .i64 4] 32)) from HBI.out.alloc HBI.out.size _)
                have HBL := Lib.hid (RowRd.of_own (enc := encN) (k := 3) (l := [(⟨x.name, (kindS x.name : Nat), 4⟩ : NodeS)]) (oa := some ⟨wi.heap.size, 0, none⟩) (cap := 1) (fun _ => rfl) (own_built3 wi (.string ⟨x.name.toArray⟩) (.int .i64 (kindS x.name : Nat)) (.int .i64 4) 32))
                refine hK.out _ _ (heap_below HBXN.out HBJ.out) (fun hHeld => ?_)
                clear hK K
                try simp only [Act.put, List.setIfInBounds_toArray, List.set_cons_zero, List.set_cons_succ]
                refine drawT_one (i := 9) (List.getElem?_toArray.trans rfl) (by kernel_rfl) (by kernel_rfl) (fun K hK => ?_)
                clear hHeld
                refine step_append_rows (by rfl) (.tmp 67) (.tmp 74) 26 (by rfl) w6.heap.size 32 i0 (.agg #[.string ⟨#[]⟩, .int .i64 0, .int .i64 0]) 3 32 Tryz.underlying26 hi0 hz0 hz1 hz2 (by rfl) (by decide) (.slice va k ca) k (flatL encN ((T.take k).map nodeS)) (by rfl) (own_keeps HOWN.out HBJ.out) (some ⟨wi.heap.size, 0, none⟩) 1 1 (flatL encN [(⟨x.name, (kindS x.name : Nat), 4⟩ : NodeS)]) (by rfl)
                    rfl (RowRd.flat (enc := encN) (k := 3) (fun _ => rfl) (by omega) HBL.out) (by intro u hu; simp [flatL, encN] at hu; rcases hu with rfl | rfl | rfl <;> rfl) (by unfold maxLen; omega) (by omega) (Nat.le_trans Hn.out.fr.size HBJ.out.size) ?_
                intro v1 w7 hown1 hgrow1
                obtain ⟨va2, ca2, rfl⟩ := ownsRow_form hown1
                have HO7 := Lib.hid hown1; have HG7 := Lib.hid hgrow1
                have HBX7 := Lib.hid (show w7.heap[GB]? = some (.cells #[.slice va k ca, .slice none 0 0] 29 (0, 0)) from by
                  rw [hgrow1.block GB (lt_heap (heap_below HBXN.out HBJ.out)) (own_not_box (own_keeps HOWN.out HBJ.out) (heap_below HBXN.out HBJ.out) (by decide))]; exact heap_below HBXN.out HBJ.out)
                clear hown1 hgrow1
                refine hK.out _ _ HBX7.out (fun hHeld => ?_)
                clear hK K
                try simp only [Act.put, List.setIfInBounds_toArray, List.set_cons_zero, List.set_cons_succ]
                refine drawT_done (by kernel_rfl) ?_
                clear hHeld
                have hgb := rd HBX7.out
                have s3 := (cells2 HBX7.out).1; have s4 := hgb.2.1 0; have s5 := hgb.2.2.1
                clear hgb
                go_wp2_with fail
                go_roundg (gk - 1)
                case measure => omega
                case rel =>
                  refine ⟨k + 1, ca2, va2, by omega, by go_num, by omega, ?_⟩
                  have hN := NIn.more (n := nodeS x) (Hn.out.below HBJ.out) HGL.out.1 (by rw [HLEN.out]; exact HG7.out) (by rw [HLEN.out, HNS.out, ← flatL_one encN]; exact HO7.out)
                  rw [← HSN.out, HLEN.out] at hN
                  exact hN
              · have HNS := Lib.hid (show nodeS x = ⟨x.name, (kindS x.name : Nat), y.state⟩ from by unfold nodeS; rw [HADJ.out, if_neg (by omega)])
                go_wp2_with fail
                clear hlk f1 hcc
                refine wp_region_drawT (S := fun V => V.heap[GB]? = some (.cells #[.slice va k ca, .slice none 0 0] 29 (0, 0))) 10 (by kernel_rfl) (by kernel_rfl) HBXN.out (fun hHeld => ?_)
                try simp only [Act.put, List.setIfInBounds_toArray, List.set_cons_zero, List.set_cons_succ]
                refine drawT_take (i := 0) (v := .pointer (some ⟨GB, 0, none⟩)) (List.getElem?_toArray.trans rfl) (by kernel_rfl) (by kernel_rfl) (by kernel_rfl) (by kernel_rfl) (fun _ _ _ h => h) (Or.inl ⟨by rfl, fun W hW => by have q0 : W.cell? ⟨GB, 0, none⟩ = some (.slice va k ca) := (cells2 hW).1; clear hW; go_simp⟩) (by assumption) ?_
                try simp only [Act.put, List.setIfInBounds_toArray, List.set_cons_zero, List.set_cons_succ]
                refine drawT_take (i := 1) (v := .slice va k ca) (List.getElem?_toArray.trans rfl) (by kernel_rfl) (by kernel_rfl) (by kernel_rfl) (by kernel_rfl) (fun _ _ _ h => h) (Or.inl ⟨by rfl, fun W hW => by have q0 : W.cell? ⟨GB, 0, none⟩ = some (.slice va k ca) := (cells2 hW).1; clear hW; go_simp⟩) (by assumption) ?_
                try simp only [Act.put, List.setIfInBounds_toArray, List.set_cons_zero, List.set_cons_succ]
                refine drawT_take (i := 2) (v := .string ⟨x.name.toArray⟩) (List.getElem?_toArray.trans rfl) (by kernel_rfl) (by kernel_rfl) (by kernel_rfl) (by kernel_rfl) (fun _ _ _ h => h) (Or.inl ⟨by rfl, fun W hW => by have q0 : W.cell? ⟨GB, 0, none⟩ = some (.slice va k ca) := (cells2 hW).1; clear hW; go_simp⟩) (by assumption) ?_
                try simp only [Act.put, List.setIfInBounds_toArray, List.set_cons_zero, List.set_cons_succ]
                refine drawT_take (i := 3) (v := .string ⟨x.name.toArray⟩) (List.getElem?_toArray.trans rfl) (by kernel_rfl) (by kernel_rfl) (by kernel_rfl) (by kernel_rfl) (fun _ _ _ h => h) (Or.inl ⟨by rfl, fun W hW => by have q0 : W.cell? ⟨GB, 0, none⟩ = some (.slice va k ca) := (cells2 hW).1; clear hW; go_simp⟩) (by assumption) ?_
                try simp only [Act.put, List.setIfInBounds_toArray, List.set_cons_zero, List.set_cons_succ]
                refine drawT_take (i := 6) (v := .int .i64 y.state) (List.getElem?_toArray.trans rfl) (by kernel_rfl) (by kernel_rfl) (by kernel_rfl) (by kernel_rfl) (fun _ _ _ h => h) (Or.inl ⟨by rfl, fun W hW => by have q0 : W.cell? ⟨GB, 0, none⟩ = some (.slice va k ca) := (cells2 hW).1; clear hW; go_simp⟩) (by assumption) ?_
                try simp only [Act.put, List.setIfInBounds_toArray, List.set_cons_zero, List.set_cons_succ]
                refine drawT_one (i := 4) (List.getElem?_toArray.trans rfl) (by kernel_rfl) (by kernel_rfl) (fun K hK => ?_)
                clear hHeld
                rw [if_pos (by rfl)]
                go_simp
                refine (HOF.out _).mono ?_
                rintro e wi ⟨rfl, hbi⟩
                simp only [ofS_kind]
                have HBI := Lib.hid ((show Below wr.heap.size wr wr.drew from below_dn ⟨1, rfl⟩).trans hbi)
                clear hbi
                refine hK.out _ _ (heap_below HBXN.out HBI.out) (fun hHeld => ?_)
                clear hK K
                try simp only [Act.put, List.setIfInBounds_toArray, List.set_cons_zero, List.set_cons_succ]
                refine drawT_take (i := 5) (v := .int .i64 (kindS x.name : Nat)) (List.getElem?_toArray.trans rfl) (by kernel_rfl) (by kernel_rfl) (by kernel_rfl) (by kernel_rfl) (fun _ _ _ h => h) (Or.inl ⟨by rfl, fun W hW => by clear hW; go_simp⟩) (by assumption) ?_
                try simp only [Act.put, List.setIfInBounds_toArray, List.set_cons_zero, List.set_cons_succ]
                refine drawT_take (i := 7) (v := .agg #[.string ⟨x.name.toArray⟩, .int .i64 (kindS x.name : Nat), .int .i64 y.state]) (List.getElem?_toArray.trans rfl) (by kernel_rfl) (by kernel_rfl) (by kernel_rfl) (by kernel_rfl) (fun _ _ _ h => h) (Or.inl ⟨by rfl, fun W hW => by clear hW; go_simp⟩) (by assumption) ?_
                try simp only [Act.put, List.setIfInBounds_toArray, List.set_cons_zero, List.set_cons_succ]
                refine drawT_one (i := 8) (List.getElem?_toArray.trans rfl) (by kernel_rfl) (by kernel_rfl) (fun K hK => ?_)
                clear hHeld
                rw [if_pos (by rfl)]
                go_simp
                have HBJ := Lib.hid (show Below wr.heap.size wr (wi.alloc (.cells #[.string ⟨x.name.toArray⟩, .int .i64 (kindS x.name : Nat), .int .i64 y.state] 32)) from HBI.out.alloc HBI.out.size _)
                have HBL := Lib.hid (RowRd.of_own (enc := encN) (k := 3) (l := [(⟨x.name, (kindS x.name : Nat), y.state⟩ : NodeS)]) (oa := some ⟨wi.heap.size, 0, none⟩) (cap := 1) (fun _ => rfl) (own_built3 wi (.string ⟨x.name.toArray⟩) (.int .i64 (kindS x.name : Nat)) (.int .i64 y.state) 32))
                refine hK.out _ _ (heap_below HBXN.out HBJ.out) (fun hHeld => ?_)
                clear hK K
                try simp only [Act.put, List.setIfInBounds_toArray, List.set_cons_zero, List.set_cons_succ]
                refine drawT_one (i := 9) (List.getElem?_toArray.trans rfl) (by kernel_rfl) (by kernel_rfl) (fun K hK => ?_)
                clear hHeld
                refine step_append_rows (by rfl) (.tmp 67) (.tmp 74) 26 (by rfl) w6.heap.size 32 i0 (.agg #[.string ⟨#[]⟩, .int .i64 0, .int .i64 0]) 3 32 Tryz.underlying26 hi0 hz0 hz1 hz2 (by rfl) (by decide) (.slice va k ca) k (flatL encN ((T.take k).map nodeS)) (by rfl) (own_keeps HOWN.out HBJ.out) (some ⟨wi.heap.size, 0, none⟩) 1 1 (flatL encN [(⟨x.name, (kindS x.name : Nat), y.state⟩ : NodeS)]) (by rfl)
                    rfl (RowRd.flat (enc := encN) (k := 3) (fun _ => rfl) (by omega) HBL.out) (by intro u hu; simp [flatL, encN] at hu; rcases hu with rfl | rfl | rfl <;> rfl) (by unfold maxLen; omega) (by omega) (Nat.le_trans Hn.out.fr.size HBJ.out.size) ?_
                intro v1 w7 hown1 hgrow1
                obtain ⟨va2, ca2, rfl⟩ := ownsRow_form hown1
                have HO7 := Lib.hid hown1; have HG7 := Lib.hid hgrow1
                have HBX7 := Lib.hid (show w7.heap[GB]? = some (.cells #[.slice va k ca, .slice none 0 0] 29 (0, 0)) from by
                  rw [hgrow1.block GB (lt_heap (heap_below HBXN.out HBJ.out)) (own_not_box (own_keeps HOWN.out HBJ.out) (heap_below HBXN.out HBJ.out) (by decide))]; exact heap_below HBXN.out HBJ.out)
                clear hown1 hgrow1
                refine hK.out _ _ HBX7.out (fun hHeld => ?_)
                clear hK K
                try simp only [Act.put, List.setIfInBounds_toArray, List.set_cons_zero, List.set_cons_succ]
                refine drawT_done (by kernel_rfl) ?_
                clear hHeld
                have hgb := rd HBX7.out
                have s3 := (cells2 HBX7.out).1; have s4 := hgb.2.1 0; have s5 := hgb.2.2.1
                clear hgb
                go_wp2_with fail
                go_roundg (gk - 1)
                case measure => omega
                case rel =>
                  refine ⟨k + 1, ca2, va2, by omega, by go_num, by omega, ?_⟩
                  have hN := NIn.more (n := nodeS x) (Hn.out.below HBJ.out) HGL.out.1 (by rw [HLEN.out]; exact HG7.out) (by rw [HLEN.out, HNS.out, ← flatL_one encN]; exact HO7.out)
                  rw [← HSN.out, HLEN.out] at hN
                  exact hN
          · have hk2 : k = 64 := by omega
            subst hk2
            have htk : T.take 64 = T := List.take_of_length_le (by omega)
            rw [htk] at Hn
            have hnl : (T.map nodeS).length = 64 := by rw [List.length_map]; omega
            have hbx := Hn.out.box
            have hg7 : GR wr GB va ca (T.map nodeS) (addR [] ((T.take 0).flatMap fun x => if x.state = 1 then ownR nm fs x else [])) := by
              refine ⟨⟨none, 0, Hn.out.box, RArg.none⟩, RowRd.of_own (enc := encN) (k := 3) (fun _ => rfl) Hn.out.own, List.Pairwise.nil, (fun e h => by cases h), (by omega)⟩
            have HG7 := Lib.hid hg7
            have HNN := Lib.hid (show (T.map nodeS).map (·.name) = nm from by rw [List.map_map, ← HTN.out]; rfl)
            have HF6 := Hn.out.fr
            obtain ⟨g0, g1⟩ := cells2 hbx
            rw [hnl] at g0
            have HBW := Lib.hid (show Below w.heap.size w wr from HB6.out.trans (HF6.below _ HB6.out.size (fun k hk e => by have := HRB.out; omega)))
            have HGB7 := Lib.hid hbx
            have HV7 := Lib.hid (fun V (h : Fr (fun k => k = GB) wr V) => show AllIn V (R + 1) tv fs from AllIn.frg HGB7.out h (HV.out wr HF6).2)
            have HR7 := Lib.hid (show wr.heap[R]? = some (.cells #[.slice none 0 0, .slice none 0 0] 29 (0, 0)) from HF6.heap HBX6.out HGL.out.2)
            have HNLn := Lib.hid hnl
            clear hbx hg7 hnl htk Hn HF6 HV HBX6 HB6 hfu
            go_wp2_with fail
            clear g0 g1
            obtain ⟨w7, rfl⟩ : ∃ W, W = wr := ⟨_, rfl⟩
            go_loopg [81] (64 + 1) (fun f i wq => ∃ k : Nat, k ≤ 64 ∧ i = .int .i64 k ∧ 64 - k < f ∧ Hid (GR wq GB va ca (T.map nodeS) (addR [] ((T.take k).flatMap fun x => if x.state = 1 then ownR nm fs x else []))) ∧ Hid (Fr (fun k => k = GB) w7 wq))
            case atStart => exact ⟨0, by omega, rfl, by omega, HG7, Fr.refl _ _⟩
            case round =>
              obtain ⟨k, hk, rfl, hfu, HGk, Hf⟩ := hrel
              clear HG7
              by_cases hlt : k < 64
              · have hkT : k < T.length := by omega
                obtain ⟨b2, o2, rfl, hblt, hcc⟩ := HGk.out.rn k (by rw [List.length_map]; omega)
                obtain ⟨x, hx⟩ : ∃ x, x = T[k] := ⟨_, rfl⟩
                rw [List.getElem_map, ← hx] at hcc
                have d0 := hcc 0 _ rfl; have d1 := hcc 1 _ rfl; have d2 := hcc 2 _ rfl
                simp only [Nat.add_zero] at d0
                change wr.cell? ⟨b2, o2 + k * 3, none⟩ = some (.string ⟨x.name.toArray⟩) at d0
                change wr.cell? ⟨b2, o2 + k * 3 + 1, none⟩ = some (.int .i64 (kindS x.name : Nat)) at d1
                change wr.cell? ⟨b2, o2 + k * 3 + 2, none⟩ = some (.int .i64 x.state) at d2
                have hxT : x ∈ T := by rw [hx]; exact List.getElem_mem hkT
                obtain ⟨y, hyl, hylk, hadj, hkd⟩ := HTE.out x hxT
                rw [HFS.out] at hylk
                have hsn : addR [] ((T.take (k + 1)).flatMap fun x => if x.state = 1 then ownR nm fs x else []) = addR (addR [] ((T.take k).flatMap fun x => if x.state = 1 then ownR nm fs x else [])) (if x.state = 1 then ownR nm fs x else []) := by
                  rw [List.take_succ_eq_append_getElem hkT, List.flatMap_append, addR_append, ← hx]; simp
                have HSN := Lib.hid hsn
                have HXN := Lib.hid (show x.name ∈ (T.map nodeS).map (·.name) from by rw [List.map_map]; exact List.mem_map.2 ⟨x, hxT, rfl⟩)
                have i5 : (k : Int) < (64 : Int) := by omega
                have hba := (Below.refl wr.heap.size wr).alloc (Nat.le_refl _) (.cells #[.string ⟨x.name.toArray⟩, .int .i64 (kindS x.name : Nat), .int .i64 x.state] 32)
                have HGa := Lib.hid (HGk.out.below hba)
                have HFa := Lib.hid (Hf.out.trans (Fr.of_below hba (fun k => k = GB)))
                clear hcc hx hsn hxT hba HGk Hf
                generalize addR [] ((T.take k).flatMap fun x => if x.state = 1 then ownR nm fs x else []) = ek at *
                cases hs1 : (x.state == 1) with
                | false =>
                  have HS2 := Lib.hid (show ¬ x.state = 1 from by simpa using hs1)
                  rw [if_neg HS2.out] at HSN
                  go_wp2_with fail
                  go_roundg (gk - 1)
                  case measure => omega
                  case rel => exact ⟨k + 1, by omega, by go_num, by omega, by rw [HSN.out]; exact HGa, HFa⟩
                | true =>
                  have hx1 : x.state = 1 := by simpa using hs1
                  rw [if_pos hx1] at HSN
                  have hyx : y = x := by
                    have h1 : (adjS y).state = 1 := by rw [hadj]; exact hx1
                    obtain ⟨e, _⟩ := adj_one h1
                    rw [← hadj, e]
                  subst hyx
                  have HUN := Lib.hid (HS.out y hyl hx1)
                  have HKD := Lib.hid hkd
                  have HAL := Lib.hid (HV7.out _ HFa.out)
                  obtain ⟨cs, hrun, hld⟩ := HAL.out.get hylk
                  have hlk := hrun _ HAL.out
                  have HLD := Lib.hid hld
                  clear hrun hld hyl hylk hadj hkd hx1
                  go_wp2_with fail
                  generalize wr.alloc (.cells #[.string ⟨y.name.toArray⟩, .int .i64 (kindS y.name : Nat), .int .i64 y.state] 32) = wa at *
                  refine (ownR_any GB _ ca (T.map nodeS) ek (R + 1) tv fs cs y wa HGa.out HAL.out HLD.out HXN.out HUN.out HKD.out _ rfl).mono ?_
                  rintro e wb ⟨rfl, hg, hf⟩
                  rw [HNN.out, ← HSN.out] at hg
                  have HGb := Lib.hid hg
                  have HFb := Lib.hid (HFa.out.trans hf)
                  clear hg hf hlk d0 d1 d2
                  go_wp2_with fail
                  go_roundg (gk - 1)
                  case measure => omega
                  case rel => exact ⟨k + 1, by omega, by go_num, by omega, HGb, HFb⟩
              · have hk2 : k = 64 := by omega
                subst hk2
                rw [show T.take 64 = T from List.take_of_length_le (by omega)] at HGk
                have HES := Lib.hid (show addR [] (T.flatMap fun x => if x.state = 1 then ownR nm fs x else []) = edgesS l from HED.out.symm)
                rw [HES.out] at HGk
                obtain ⟨oe, ce, hgb, hra⟩ := HGk.out.box
                obtain ⟨g0, g1⟩ := cells2 hgb
                have hrb := rd (Hf.out.heap HR7.out HGL.out.2)
                have r0 := hrb.1 0; have r1 := hrb.1 1
                have r2 := hrb.2.1 0; have r3 := hrb.2.1 1
                have r4 := hrb.2.2.1
                have HRX := Lib.hid (Hf.out.heap HR7.out HGL.out.2)
                have HRA := Lib.hid hra
                clear hgb hrb hra
                go_wp2_with fail
                have h9 := heap_setCell (heap_setCell HRX.out 0 (.slice va 64 ca)) 1 (.slice oe (edgesS l).length ce)
                have hf9 : Fr (fun k => k = R) wr ((wr.setCell ⟨R, 0, none⟩ (.slice va 64 ca)).setCell ⟨R, 1, none⟩ (.slice oe (edgesS l).length ce)) :=
                  Fr.setCell (M := fun k => k = R) (Fr.setCell (M := fun k => k = R) (Fr.refl _ _) (p := ⟨R, 0, none⟩) (fun _ => rfl) _) (p := ⟨R, 1, none⟩) (fun _ => rfl) _
                refine post_cell 2 29 R _ rfl rfl rfl (loadVar_all 29 _ rfl rfl rfl h9) ?_
                rw [HND.out, HNLn.out]
                have hbw : Below w.heap.size w wr := HBW.out.trans (Hf.out.below _ HBW.out.size (fun k hk e => by have := HRB.out; omega))
                exact ⟨va, ca, oe, ce, rfl, RowRd.frg HRX.out hf9 encN_plain HGk.out.rn, RowRd.frg HRX.out hf9 encE_plain HRA.out.row, hbw.trans (hf9.below _ hbw.size (fun k hk e => by have := HRB.out; omega))⟩
end Go.Proofs.YtcaamakodneplaaGreat

/-
  matinslaw15: GraphOf, walked.
-/
namespace Go.Proofs.YtcaamakodneplaaGreat
open Go Go.RowKit
set_option linter.unusedVariables false
set_option linter.unusedSimpArgs false
set_option maxRecDepth 100000

set_option maxHeartbeats 2000000 in
theorem of_walk (oa : Option Addr) (cap : Nat) (l : List LdS) (w : World) (hm : MaxAt w) (hR : LdsRd w oa l) (hl : l.length ≤ 1048576) :
    Calls Tryz.prog 3 #[.slice oa l.length cap] w fun e w' => e = .returned (.bool true) ∧ Below w.heap.size w w' := by
  have HM := Lib.hid hm; have HR := Lib.hid hR
  clear hm hR
  go_enter Tryz.func3, Tryz.ntmps3
  go_wp2_with fail
  refine (shown_any w HM.out).mono ?_
  rintro e w1 ⟨rfl, hb1⟩
  have HB1 := Lib.hid hb1
  clear hb1
  go_wp2_with fail
  refine (sound_any oa cap l w1 (HR.out.below HB1.out) (by omega) _ rfl).mono ?_
  rintro e w2 ⟨rfl, hb2⟩
  have HB2 := Lib.hid (HB1.out.trans (hb2.mono HB1.out.size))
  clear hb2 HB1
  cases hsb : soundB l with
  | false =>
    clear hsb
    go_wp2_with fail
    go_ret
    exact ⟨rfl, HB2.out⟩
  | true =>
    have HSB := Lib.hid (soundB_true hsb)
    clear hsb
    go_wp2_with fail
    refine (gof_any oa cap l w2 (HR.out.below HB2.out) (by omega) (HM.out.below HB2.out)).mono ?_
    rintro e w3 ⟨vn, ve, rfl, hn, he, hb3⟩
    obtain ⟨on, cn, rfl⟩ := ownsRow_form hn
    obtain ⟨oe, ce, rfl⟩ := ownsRow_form he
    have HN := Lib.hid (RowRd.of_own (enc := encN) (k := 3) (fun _ => rfl) hn)
    have HE := Lib.hid (RowRd.of_own (enc := encE) (k := 3) (fun _ => rfl) he)
    have HB3 := Lib.hid (HB2.out.trans (hb3.mono HB2.out.size))
    clear hn he hb3 HB2
    go_wp2_with fail
    refine (ofR_any oa cap l w3 (HR.out.below HB3.out) hl HSB.out.1).mono ?_
    rintro e w4 ⟨on2, cn2, oe2, ce2, rfl, hn, he, hb4⟩
    have HN2 := Lib.hid hn; have HE2 := Lib.hid he
    have HB4 := Lib.hid (HB3.out.trans (hb4.mono HB3.out.size))
    have HN1 := Lib.hid (HN.out.below hb4); have HE1 := Lib.hid (HE.out.below hb4)
    clear hn he hb4 HB3 HN HE
    go_wp2_with fail
    refine (sameG_any on on2 oe oe2 cn cn2 ce ce2 (nodesS l) (edgesS l) w4 HN1.out HN2.out HE1.out HE2.out (by have := nodes_len l; omega) (by have := edges_len l; omega)).mono ?_
    rintro e w5 ⟨rfl, hb5⟩
    have HB5 := Lib.hid (HB4.out.trans (hb5.mono HB4.out.size))
    clear hb5
    go_wp2_with fail
    go_ret
    exact ⟨rfl, HB5.out⟩
end Go.Proofs.YtcaamakodneplaaGreat
