import Derived.Deep.CutRange
import Derived.Test.YtdjkedcpehhmnaaGreatDoorUS41
import Derived.Test.YtdjkedcpehhmnaaGreatDoorUS42
namespace Go.Proofs.YtdjkedcpehhmnaaGreatDoor
open Go Go.RowKit
set_option linter.unusedVariables false
set_option linter.unusedSimpArgs false
set_option maxRecDepth 100000
set_option maxHeartbeats 16000000 in
theorem same10_any (ca cb : Array Value) (a b : UV) (w : World) (hsa : UnitSee w ca a) (hsb : UnitSee w cb b) (ta : TypedU a) (tb : TypedU b) (r : Bool) (hr : sameU a b = r) :
  Calls Tryz.prog 12 #[.agg ca, .agg cb] w fun e w' => e = .returned (.bool r) ∧ Below w.heap.size w w' := by
 rw [sameU_parts] at hr
 have HR := h_ hr
 have hB1 : Below w.heap.size w (w.alloc (.cells ca 30)) := (Below.refl _ _).alloc (Nat.le_refl _) _
 have hz : (w.alloc (.cells ca 30)).heap.size = w.heap.size + 1 := by simp
 have hB2 : Below (w.alloc (.cells ca 30)).heap.size (w.alloc (.cells ca 30)) ((w.alloc (.cells ca 30)).alloc (.cells cb 30)) := (Below.refl _ _).alloc (Nat.le_refl _) _
 have hga := heap_below (heap_alloc_new w (.cells ca 30)) hB2
 have hgb := heap_alloc_new (w.alloc (.cells ca 30)) (.cells cb 30)
 rw [hz] at hgb
 have HB := h_ (Below.more hB1 hB2)
 obtain ⟨w2, hw2⟩ : ∃ w2, w2 = (w.alloc (.cells ca 30)).alloc (.cells cb 30) := ⟨_, rfl⟩
 rw [← hw2] at hga hgb HB
 have HGA := h_ hga; have HGB := h_ hgb; have HW2 := h_ hw2
 have HSA := h_ (hsa.below HB.out); have HSB := h_ (hsb.below HB.out)
 have HTA := h_ ta; have HTB := h_ tb
 clear hr hB1 hB2 hz hga hgb hsa hsb ta tb hw2
 obtain ⟨pb, hpb⟩ : ∃ pb, plainU a b = pb := ⟨_, rfl⟩
 obtain ⟨eb, heb⟩ : ∃ eb, execsU a b = eb := ⟨_, rfl⟩
 obtain ⟨ib, hib⟩ : ∃ ib, intsU a b = ib := ⟨_, rfl⟩
 obtain ⟨nb, hnb⟩ : ∃ nb, namesU a b = nb := ⟨_, rfl⟩
 have HPB := h_ hpb; have HEB := h_ heb; have HIB := h_ hib; have HNB := h_ hnb
 rw [hpb, heb, hib, hnb] at HR
 clear hpb heb hib hnb
 go_enter Tryz.func12, Tryz.ntmps12
 go_upto_region 1 with fail
 rw [← HW2.out]
 clear HW2
 go_cut [5] from 9 to 125 (fun s5 w' => s5 = .bool pb ∧ w' = w2)
 case first =>
  rename_i J0 K0 hJ0 hK0
  have hp := HPB.out
  unfold plainU at hp
  obtain ⟨va0, qa0, sa0⟩ := HSA.out.at 0 (by decide)
  obtain ⟨xa0, ea0⟩ := tag_s (HTA.out 0)
  rw [ea0] at sa0
  obtain rfl : va0 = .string ⟨xa0.toArray⟩ := sa0
  have Ka0 := h_ (((rd HGA.out).1 0).trans qa0)
  rw [ea0] at hp
  clear qa0 ea0
  obtain ⟨vb0, qb0, sb0⟩ := HSB.out.at 0 (by decide)
  obtain ⟨xb0, eb0⟩ := tag_s (HTB.out 0)
  rw [eb0] at sb0
  obtain rfl : vb0 = .string ⟨xb0.toArray⟩ := sb0
  have Kb0 := h_ (((rd HGB.out).1 0).trans qb0)
  rw [eb0] at hp
  clear qb0 eb0
  obtain ⟨va1, qa1, sa1⟩ := HSA.out.at 1 (by decide)
  obtain ⟨xa1, ea1⟩ := tag_n (HTA.out 1)
  rw [ea1] at sa1
  obtain rfl : va1 = .int .i64 xa1 := sa1
  have Ka1 := h_ (((rd HGA.out).1 1).trans qa1)
  rw [ea1] at hp
  clear qa1 ea1
  obtain ⟨vb1, qb1, sb1⟩ := HSB.out.at 1 (by decide)
  obtain ⟨xb1, eb1⟩ := tag_n (HTB.out 1)
  rw [eb1] at sb1
  obtain rfl : vb1 = .int .i64 xb1 := sb1
  have Kb1 := h_ (((rd HGB.out).1 1).trans qb1)
  rw [eb1] at hp
  clear qb1 eb1
  obtain ⟨va2, qa2, sa2⟩ := HSA.out.at 2 (by decide)
  obtain ⟨xa2, ea2⟩ := tag_s (HTA.out 2)
  rw [ea2] at sa2
  obtain rfl : va2 = .string ⟨xa2.toArray⟩ := sa2
  have Ka2 := h_ (((rd HGA.out).1 2).trans qa2)
  rw [ea2] at hp
  clear qa2 ea2
  obtain ⟨vb2, qb2, sb2⟩ := HSB.out.at 2 (by decide)
  obtain ⟨xb2, eb2⟩ := tag_s (HTB.out 2)
  rw [eb2] at sb2
  obtain rfl : vb2 = .string ⟨xb2.toArray⟩ := sb2
  have Kb2 := h_ (((rd HGB.out).1 2).trans qb2)
  rw [eb2] at hp
  clear qb2 eb2
  obtain ⟨va3, qa3, sa3⟩ := HSA.out.at 3 (by decide)
  obtain ⟨xa3, ea3⟩ := tag_b (HTA.out 3)
  rw [ea3] at sa3
  obtain rfl : va3 = .bool xa3 := sa3
  have Ka3 := h_ (((rd HGA.out).1 3).trans qa3)
  rw [ea3] at hp
  clear qa3 ea3
  obtain ⟨vb3, qb3, sb3⟩ := HSB.out.at 3 (by decide)
  obtain ⟨xb3, eb3⟩ := tag_b (HTB.out 3)
  rw [eb3] at sb3
  obtain rfl : vb3 = .bool xb3 := sb3
  have Kb3 := h_ (((rd HGB.out).1 3).trans qb3)
  rw [eb3] at hp
  clear qb3 eb3
  obtain ⟨va5, qa5, sa5⟩ := HSA.out.at 5 (by decide)
  obtain ⟨xa5, ea5⟩ := tag_n (HTA.out 5)
  rw [ea5] at sa5
  obtain rfl : va5 = .int .i64 xa5 := sa5
  have Ka5 := h_ (((rd HGA.out).1 5).trans qa5)
  rw [ea5] at hp
  clear qa5 ea5
  obtain ⟨vb5, qb5, sb5⟩ := HSB.out.at 5 (by decide)
  obtain ⟨xb5, eb5⟩ := tag_n (HTB.out 5)
  rw [eb5] at sb5
  obtain rfl : vb5 = .int .i64 xb5 := sb5
  have Kb5 := h_ (((rd HGB.out).1 5).trans qb5)
  rw [eb5] at hp
  clear qb5 eb5
  obtain ⟨va6, qa6, sa6⟩ := HSA.out.at 6 (by decide)
  obtain ⟨xa6, ea6⟩ := tag_n (HTA.out 6)
  rw [ea6] at sa6
  obtain rfl : va6 = .int .i64 xa6 := sa6
  have Ka6 := h_ (((rd HGA.out).1 6).trans qa6)
  rw [ea6] at hp
  clear qa6 ea6
  obtain ⟨vb6, qb6, sb6⟩ := HSB.out.at 6 (by decide)
  obtain ⟨xb6, eb6⟩ := tag_n (HTB.out 6)
  rw [eb6] at sb6
  obtain rfl : vb6 = .int .i64 xb6 := sb6
  have Kb6 := h_ (((rd HGB.out).1 6).trans qb6)
  rw [eb6] at hp
  clear qb6 eb6
  obtain ⟨va7, qa7, sa7⟩ := HSA.out.at 7 (by decide)
  obtain ⟨xa7, ea7⟩ := tag_n (HTA.out 7)
  rw [ea7] at sa7
  obtain rfl : va7 = .int .i64 xa7 := sa7
  have Ka7 := h_ (((rd HGA.out).1 7).trans qa7)
  rw [ea7] at hp
  clear qa7 ea7
  obtain ⟨vb7, qb7, sb7⟩ := HSB.out.at 7 (by decide)
  obtain ⟨xb7, eb7⟩ := tag_n (HTB.out 7)
  rw [eb7] at sb7
  obtain rfl : vb7 = .int .i64 xb7 := sb7
  have Kb7 := h_ (((rd HGB.out).1 7).trans qb7)
  rw [eb7] at hp
  clear qb7 eb7
  obtain ⟨va13, qa13, sa13⟩ := HSA.out.at 13 (by decide)
  obtain ⟨xa13, ea13⟩ := tag_b (HTA.out 13)
  rw [ea13] at sa13
  obtain rfl : va13 = .bool xa13 := sa13
  have Ka13 := h_ (((rd HGA.out).1 13).trans qa13)
  rw [ea13] at hp
  clear qa13 ea13
  obtain ⟨vb13, qb13, sb13⟩ := HSB.out.at 13 (by decide)
  obtain ⟨xb13, eb13⟩ := tag_b (HTB.out 13)
  rw [eb13] at sb13
  obtain rfl : vb13 = .bool xb13 := sb13
  have Kb13 := h_ (((rd HGB.out).1 13).trans qb13)
  rw [eb13] at hp
  clear qb13 eb13
  obtain ⟨va14, qa14, sa14⟩ := HSA.out.at 14 (by decide)
  obtain ⟨xa14, ea14⟩ := tag_n (HTA.out 14)
  rw [ea14] at sa14
  obtain rfl : va14 = .int .i64 xa14 := sa14
  have Ka14 := h_ (((rd HGA.out).1 14).trans qa14)
  rw [ea14] at hp
  clear qa14 ea14
  obtain ⟨vb14, qb14, sb14⟩ := HSB.out.at 14 (by decide)
  obtain ⟨xb14, eb14⟩ := tag_n (HTB.out 14)
  rw [eb14] at sb14
  obtain rfl : vb14 = .int .i64 xb14 := sb14
  have Kb14 := h_ (((rd HGB.out).1 14).trans qb14)
  rw [eb14] at hp
  clear qb14 eb14
  obtain ⟨va15, qa15, sa15⟩ := HSA.out.at 15 (by decide)
  obtain ⟨xa15, ea15⟩ := tag_n (HTA.out 15)
  rw [ea15] at sa15
  obtain rfl : va15 = .int .i64 xa15 := sa15
  have Ka15 := h_ (((rd HGA.out).1 15).trans qa15)
  rw [ea15] at hp
  clear qa15 ea15
  obtain ⟨vb15, qb15, sb15⟩ := HSB.out.at 15 (by decide)
  obtain ⟨xb15, eb15⟩ := tag_n (HTB.out 15)
  rw [eb15] at sb15
  obtain rfl : vb15 = .int .i64 xb15 := sb15
  have Kb15 := h_ (((rd HGB.out).1 15).trans qb15)
  rw [eb15] at hp
  clear qb15 eb15
  obtain ⟨va16, qa16, sa16⟩ := HSA.out.at 16 (by decide)
  obtain ⟨xa16, ea16⟩ := tag_n (HTA.out 16)
  rw [ea16] at sa16
  obtain rfl : va16 = .int .i64 xa16 := sa16
  have Ka16 := h_ (((rd HGA.out).1 16).trans qa16)
  rw [ea16] at hp
  clear qa16 ea16
  obtain ⟨vb16, qb16, sb16⟩ := HSB.out.at 16 (by decide)
  obtain ⟨xb16, eb16⟩ := tag_n (HTB.out 16)
  rw [eb16] at sb16
  obtain rfl : vb16 = .int .i64 xb16 := sb16
  have Kb16 := h_ (((rd HGB.out).1 16).trans qb16)
  rw [eb16] at hp
  clear qb16 eb16
  obtain ⟨va17, qa17, sa17⟩ := HSA.out.at 17 (by decide)
  obtain ⟨xa17, ea17⟩ := tag_n (HTA.out 17)
  rw [ea17] at sa17
  obtain rfl : va17 = .int .i64 xa17 := sa17
  have Ka17 := h_ (((rd HGA.out).1 17).trans qa17)
  rw [ea17] at hp
  clear qa17 ea17
  obtain ⟨vb17, qb17, sb17⟩ := HSB.out.at 17 (by decide)
  obtain ⟨xb17, eb17⟩ := tag_n (HTB.out 17)
  rw [eb17] at sb17
  obtain rfl : vb17 = .int .i64 xb17 := sb17
  have Kb17 := h_ (((rd HGB.out).1 17).trans qb17)
  rw [eb17] at hp
  clear qb17 eb17
  obtain ⟨va22, qa22, sa22⟩ := HSA.out.at 22 (by decide)
  obtain ⟨xa22, ea22⟩ := tag_n (HTA.out 22)
  rw [ea22] at sa22
  obtain rfl : va22 = .int .i64 xa22 := sa22
  have Ka22 := h_ (((rd HGA.out).1 22).trans qa22)
  rw [ea22] at hp
  clear qa22 ea22
  obtain ⟨vb22, qb22, sb22⟩ := HSB.out.at 22 (by decide)
  obtain ⟨xb22, eb22⟩ := tag_n (HTB.out 22)
  rw [eb22] at sb22
  obtain rfl : vb22 = .int .i64 xb22 := sb22
  have Kb22 := h_ (((rd HGB.out).1 22).trans qb22)
  rw [eb22] at hp
  clear qb22 eb22
  obtain ⟨va23, qa23, sa23⟩ := HSA.out.at 23 (by decide)
  obtain ⟨xa23, ea23⟩ := tag_s (HTA.out 23)
  rw [ea23] at sa23
  obtain rfl : va23 = .string ⟨xa23.toArray⟩ := sa23
  have Ka23 := h_ (((rd HGA.out).1 23).trans qa23)
  rw [ea23] at hp
  clear qa23 ea23
  obtain ⟨vb23, qb23, sb23⟩ := HSB.out.at 23 (by decide)
  obtain ⟨xb23, eb23⟩ := tag_s (HTB.out 23)
  rw [eb23] at sb23
  obtain rfl : vb23 = .string ⟨xb23.toArray⟩ := sb23
  have Kb23 := h_ (((rd HGB.out).1 23).trans qb23)
  rw [eb23] at hp
  clear qb23 eb23
  obtain ⟨va24, qa24, sa24⟩ := HSA.out.at 24 (by decide)
  obtain ⟨xa24, ea24⟩ := tag_s (HTA.out 24)
  rw [ea24] at sa24
  obtain rfl : va24 = .string ⟨xa24.toArray⟩ := sa24
  have Ka24 := h_ (((rd HGA.out).1 24).trans qa24)
  rw [ea24] at hp
  clear qa24 ea24
  obtain ⟨vb24, qb24, sb24⟩ := HSB.out.at 24 (by decide)
  obtain ⟨xb24, eb24⟩ := tag_s (HTB.out 24)
  rw [eb24] at sb24
  obtain rfl : vb24 = .string ⟨xb24.toArray⟩ := sb24
  have Kb24 := h_ (((rd HGB.out).1 24).trans qb24)
  rw [eb24] at hp
  clear qb24 eb24
  obtain ⟨va29, qa29, sa29⟩ := HSA.out.at 29 (by decide)
  obtain ⟨xa29, ea29⟩ := tag_b (HTA.out 29)
  rw [ea29] at sa29
  obtain rfl : va29 = .bool xa29 := sa29
  have Ka29 := h_ (((rd HGA.out).1 29).trans qa29)
  rw [ea29] at hp
  clear qa29 ea29
  obtain ⟨vb29, qb29, sb29⟩ := HSB.out.at 29 (by decide)
  obtain ⟨xb29, eb29⟩ := tag_b (HTB.out 29)
  rw [eb29] at sb29
  obtain rfl : vb29 = .bool xb29 := sb29
  have Kb29 := h_ (((rd HGB.out).1 29).trans qb29)
  rw [eb29] at hp
  clear qb29 eb29
  obtain ⟨va34, qa34, sa34⟩ := HSA.out.at 34 (by decide)
  obtain ⟨xa34, ea34⟩ := tag_s (HTA.out 34)
  rw [ea34] at sa34
  obtain rfl : va34 = .string ⟨xa34.toArray⟩ := sa34
  have Ka34 := h_ (((rd HGA.out).1 34).trans qa34)
  rw [ea34] at hp
  clear qa34 ea34
  obtain ⟨vb34, qb34, sb34⟩ := HSB.out.at 34 (by decide)
  obtain ⟨xb34, eb34⟩ := tag_s (HTB.out 34)
  rw [eb34] at sb34
  obtain rfl : vb34 = .string ⟨xb34.toArray⟩ := sb34
  have Kb34 := h_ (((rd HGB.out).1 34).trans qb34)
  rw [eb34] at hp
  clear qb34 eb34
  simp only [beq_UCs, beq_UCn, beq_UCb] at hp
  have HP := h_ hp
  clear hp
  refine wp_region_lit ?_
  refine abs_act ?_
  intro a0 ha0
  have f2 : a0.tmps[2]? = some (.pointer (some ⟨w.heap.size, 0, none⟩)) := by rw [ha0]; rfl
  have f3 : a0.tmps[3]? = some (.pointer (some ⟨w.heap.size + 1, 0, none⟩)) := by rw [ha0]; rfl
  have fsz : a0.tmps.size = 256 := by rw [ha0]; rfl
  have HA0 := h_ ha0
  clear ha0
  have ka0 := Ka0.out; have kb0 := Kb0.out
  refine and_start 9 125 (.pointer (some ⟨w.heap.size, 0, none⟩)) (.pointer (some ⟨w.heap.size + 1, 0, none⟩)) (.string ⟨xa0.toArray⟩) (.string ⟨xb0.toArray⟩) (xa0 == xb0) (by decide) (by decide) fsz f2 f3 rfl rfl rfl rfl rfl rfl rfl rfl rfl rfl ⟨rfl, rfl⟩
   (fun a' h => by obtain ⟨y0, z0⟩ := ev_of h; go_simp) (fun a' h => by obtain ⟨y0, z0⟩ := ev_of h; go_simp) (fun a' h => by obtain ⟨y0, z0⟩ := ev_of h; go_simp) (fun a' h => by obtain ⟨y0, z0⟩ := ev_of h; go_simp) (fun a' h1 h2 => by obtain ⟨y0, z0⟩ := ev_of h1; obtain ⟨y1, z1⟩ := ev_of h2; go_simp) (fun a' v h => by obtain ⟨y0, z0⟩ := ev_of h; go_simp) ?_
  intro a1 K1 c1
  clear ka0 kb0
  have ka1 := Ka1.out; have kb1 := Kb1.out
  refine and_block 14 5 9 125 _ (xa1 == xb1) (.pointer (some ⟨w.heap.size, 0, none⟩)) (.pointer (some ⟨w.heap.size + 1, 0, none⟩)) (.pointer (some ⟨w.heap.size, 1, none⟩)) (.pointer (some ⟨w.heap.size + 1, 1, none⟩)) (.int .i64 xa1) (.int .i64 xb1) (by decide) (by decide) (by decide) (by rw [K1.size, fsz]; decide) rfl rfl rfl rfl rfl rfl rfl rfl rfl rfl rfl rfl rfl rfl rfl ((K1.slot 2 (.inl (by decide))).trans f2) ((K1.slot 3 (.inl (by decide))).trans f3) c1
   (fun a' h => by obtain ⟨y0, z0⟩ := ev_of h; go_simp) (fun a' h => by obtain ⟨y0, z0⟩ := ev_of h; go_simp) (fun a' h => by obtain ⟨y0, z0⟩ := ev_of h; go_simp) (fun a' h => by obtain ⟨y0, z0⟩ := ev_of h; go_simp) (fun a' h1 h2 => by obtain ⟨y0, z0⟩ := ev_of h1; obtain ⟨y1, z1⟩ := ev_of h2; go_simp) (fun a' c' v h1 h2 => by obtain ⟨y0, z0⟩ := ev_of h1; obtain ⟨y1, z1⟩ := ev_of h2; cases c' <;> go_simp) (fun a' v h => by obtain ⟨y0, z0⟩ := ev_of h; go_simp) ?_
  intro a2 KK2 c2
  have K2 := K1.trans KK2
  clear ka1 kb1 KK2
  have ka2 := Ka2.out; have kb2 := Kb2.out
  refine and_block 21 12 9 125 _ (xa2 == xb2) (.pointer (some ⟨w.heap.size, 0, none⟩)) (.pointer (some ⟨w.heap.size + 1, 0, none⟩)) (.pointer (some ⟨w.heap.size, 2, none⟩)) (.pointer (some ⟨w.heap.size + 1, 2, none⟩)) (.string ⟨xa2.toArray⟩) (.string ⟨xb2.toArray⟩) (by decide) (by decide) (by decide) (by rw [K2.size, fsz]; decide) rfl rfl rfl rfl rfl rfl rfl rfl rfl rfl rfl rfl rfl rfl rfl ((K2.slot 2 (.inl (by decide))).trans f2) ((K2.slot 3 (.inl (by decide))).trans f3) c2
   (fun a' h => by obtain ⟨y0, z0⟩ := ev_of h; go_simp) (fun a' h => by obtain ⟨y0, z0⟩ := ev_of h; go_simp) (fun a' h => by obtain ⟨y0, z0⟩ := ev_of h; go_simp) (fun a' h => by obtain ⟨y0, z0⟩ := ev_of h; go_simp) (fun a' h1 h2 => by obtain ⟨y0, z0⟩ := ev_of h1; obtain ⟨y1, z1⟩ := ev_of h2; go_simp) (fun a' c' v h1 h2 => by obtain ⟨y0, z0⟩ := ev_of h1; obtain ⟨y1, z1⟩ := ev_of h2; cases c' <;> go_simp) (fun a' v h => by obtain ⟨y0, z0⟩ := ev_of h; go_simp) ?_
  intro a3 KK3 c3
  have K3 := K2.trans KK3
  clear ka2 kb2 KK3
  have ka3 := Ka3.out; have kb3 := Kb3.out
  refine and_block 28 19 9 125 _ (xa3 == xb3) (.pointer (some ⟨w.heap.size, 0, none⟩)) (.pointer (some ⟨w.heap.size + 1, 0, none⟩)) (.pointer (some ⟨w.heap.size, 3, none⟩)) (.pointer (some ⟨w.heap.size + 1, 3, none⟩)) (.bool xa3) (.bool xb3) (by decide) (by decide) (by decide) (by rw [K3.size, fsz]; decide) rfl rfl rfl rfl rfl rfl rfl rfl rfl rfl rfl rfl rfl rfl rfl ((K3.slot 2 (.inl (by decide))).trans f2) ((K3.slot 3 (.inl (by decide))).trans f3) c3
   (fun a' h => by obtain ⟨y0, z0⟩ := ev_of h; go_simp) (fun a' h => by obtain ⟨y0, z0⟩ := ev_of h; go_simp) (fun a' h => by obtain ⟨y0, z0⟩ := ev_of h; go_simp) (fun a' h => by obtain ⟨y0, z0⟩ := ev_of h; go_simp) (fun a' h1 h2 => by obtain ⟨y0, z0⟩ := ev_of h1; obtain ⟨y1, z1⟩ := ev_of h2; go_simp) (fun a' c' v h1 h2 => by obtain ⟨y0, z0⟩ := ev_of h1; obtain ⟨y1, z1⟩ := ev_of h2; cases c' <;> go_simp) (fun a' v h => by obtain ⟨y0, z0⟩ := ev_of h; go_simp) ?_
  intro a4 KK4 c4
  have K4 := K3.trans KK4
  clear ka3 kb3 KK4
  have ka5 := Ka5.out; have kb5 := Kb5.out
  refine and_block 35 26 9 125 _ (xa5 == xb5) (.pointer (some ⟨w.heap.size, 0, none⟩)) (.pointer (some ⟨w.heap.size + 1, 0, none⟩)) (.pointer (some ⟨w.heap.size, 5, none⟩)) (.pointer (some ⟨w.heap.size + 1, 5, none⟩)) (.int .i64 xa5) (.int .i64 xb5) (by decide) (by decide) (by decide) (by rw [K4.size, fsz]; decide) rfl rfl rfl rfl rfl rfl rfl rfl rfl rfl rfl rfl rfl rfl rfl ((K4.slot 2 (.inl (by decide))).trans f2) ((K4.slot 3 (.inl (by decide))).trans f3) c4
   (fun a' h => by obtain ⟨y0, z0⟩ := ev_of h; go_simp) (fun a' h => by obtain ⟨y0, z0⟩ := ev_of h; go_simp) (fun a' h => by obtain ⟨y0, z0⟩ := ev_of h; go_simp) (fun a' h => by obtain ⟨y0, z0⟩ := ev_of h; go_simp) (fun a' h1 h2 => by obtain ⟨y0, z0⟩ := ev_of h1; obtain ⟨y1, z1⟩ := ev_of h2; go_simp) (fun a' c' v h1 h2 => by obtain ⟨y0, z0⟩ := ev_of h1; obtain ⟨y1, z1⟩ := ev_of h2; cases c' <;> go_simp) (fun a' v h => by obtain ⟨y0, z0⟩ := ev_of h; go_simp) ?_
  intro a5 KK5 c5
  have K5 := K4.trans KK5
  clear ka5 kb5 KK5
  have ka6 := Ka6.out; have kb6 := Kb6.out
  refine and_block 42 33 9 125 _ (xa6 == xb6) (.pointer (some ⟨w.heap.size, 0, none⟩)) (.pointer (some ⟨w.heap.size + 1, 0, none⟩)) (.pointer (some ⟨w.heap.size, 6, none⟩)) (.pointer (some ⟨w.heap.size + 1, 6, none⟩)) (.int .i64 xa6) (.int .i64 xb6) (by decide) (by decide) (by decide) (by rw [K5.size, fsz]; decide) rfl rfl rfl rfl rfl rfl rfl rfl rfl rfl rfl rfl rfl rfl rfl ((K5.slot 2 (.inl (by decide))).trans f2) ((K5.slot 3 (.inl (by decide))).trans f3) c5
   (fun a' h => by obtain ⟨y0, z0⟩ := ev_of h; go_simp) (fun a' h => by obtain ⟨y0, z0⟩ := ev_of h; go_simp) (fun a' h => by obtain ⟨y0, z0⟩ := ev_of h; go_simp) (fun a' h => by obtain ⟨y0, z0⟩ := ev_of h; go_simp) (fun a' h1 h2 => by obtain ⟨y0, z0⟩ := ev_of h1; obtain ⟨y1, z1⟩ := ev_of h2; go_simp) (fun a' c' v h1 h2 => by obtain ⟨y0, z0⟩ := ev_of h1; obtain ⟨y1, z1⟩ := ev_of h2; cases c' <;> go_simp) (fun a' v h => by obtain ⟨y0, z0⟩ := ev_of h; go_simp) ?_
  intro a6 KK6 c6
  have K6 := K5.trans KK6
  clear ka6 kb6 KK6
  have ka7 := Ka7.out; have kb7 := Kb7.out
  refine and_block 49 40 9 125 _ (xa7 == xb7) (.pointer (some ⟨w.heap.size, 0, none⟩)) (.pointer (some ⟨w.heap.size + 1, 0, none⟩)) (.pointer (some ⟨w.heap.size, 7, none⟩)) (.pointer (some ⟨w.heap.size + 1, 7, none⟩)) (.int .i64 xa7) (.int .i64 xb7) (by decide) (by decide) (by decide) (by rw [K6.size, fsz]; decide) rfl rfl rfl rfl rfl rfl rfl rfl rfl rfl rfl rfl rfl rfl rfl ((K6.slot 2 (.inl (by decide))).trans f2) ((K6.slot 3 (.inl (by decide))).trans f3) c6
   (fun a' h => by obtain ⟨y0, z0⟩ := ev_of h; go_simp) (fun a' h => by obtain ⟨y0, z0⟩ := ev_of h; go_simp) (fun a' h => by obtain ⟨y0, z0⟩ := ev_of h; go_simp) (fun a' h => by obtain ⟨y0, z0⟩ := ev_of h; go_simp) (fun a' h1 h2 => by obtain ⟨y0, z0⟩ := ev_of h1; obtain ⟨y1, z1⟩ := ev_of h2; go_simp) (fun a' c' v h1 h2 => by obtain ⟨y0, z0⟩ := ev_of h1; obtain ⟨y1, z1⟩ := ev_of h2; cases c' <;> go_simp) (fun a' v h => by obtain ⟨y0, z0⟩ := ev_of h; go_simp) ?_
  intro a7 KK7 c7
  have K7 := K6.trans KK7
  clear ka7 kb7 KK7
  have ka13 := Ka13.out; have kb13 := Kb13.out
  refine and_block 56 47 9 125 _ (xa13 == xb13) (.pointer (some ⟨w.heap.size, 0, none⟩)) (.pointer (some ⟨w.heap.size + 1, 0, none⟩)) (.pointer (some ⟨w.heap.size, 13, none⟩)) (.pointer (some ⟨w.heap.size + 1, 13, none⟩)) (.bool xa13) (.bool xb13) (by decide) (by decide) (by decide) (by rw [K7.size, fsz]; decide) rfl rfl rfl rfl rfl rfl rfl rfl rfl rfl rfl rfl rfl rfl rfl ((K7.slot 2 (.inl (by decide))).trans f2) ((K7.slot 3 (.inl (by decide))).trans f3) c7
   (fun a' h => by obtain ⟨y0, z0⟩ := ev_of h; go_simp) (fun a' h => by obtain ⟨y0, z0⟩ := ev_of h; go_simp) (fun a' h => by obtain ⟨y0, z0⟩ := ev_of h; go_simp) (fun a' h => by obtain ⟨y0, z0⟩ := ev_of h; go_simp) (fun a' h1 h2 => by obtain ⟨y0, z0⟩ := ev_of h1; obtain ⟨y1, z1⟩ := ev_of h2; go_simp) (fun a' c' v h1 h2 => by obtain ⟨y0, z0⟩ := ev_of h1; obtain ⟨y1, z1⟩ := ev_of h2; cases c' <;> go_simp) (fun a' v h => by obtain ⟨y0, z0⟩ := ev_of h; go_simp) ?_
  intro a8 KK8 c8
  have K8 := K7.trans KK8
  clear ka13 kb13 KK8
  have ka14 := Ka14.out; have kb14 := Kb14.out
  refine and_block 63 54 9 125 _ (xa14 == xb14) (.pointer (some ⟨w.heap.size, 0, none⟩)) (.pointer (some ⟨w.heap.size + 1, 0, none⟩)) (.pointer (some ⟨w.heap.size, 14, none⟩)) (.pointer (some ⟨w.heap.size + 1, 14, none⟩)) (.int .i64 xa14) (.int .i64 xb14) (by decide) (by decide) (by decide) (by rw [K8.size, fsz]; decide) rfl rfl rfl rfl rfl rfl rfl rfl rfl rfl rfl rfl rfl rfl rfl ((K8.slot 2 (.inl (by decide))).trans f2) ((K8.slot 3 (.inl (by decide))).trans f3) c8
   (fun a' h => by obtain ⟨y0, z0⟩ := ev_of h; go_simp) (fun a' h => by obtain ⟨y0, z0⟩ := ev_of h; go_simp) (fun a' h => by obtain ⟨y0, z0⟩ := ev_of h; go_simp) (fun a' h => by obtain ⟨y0, z0⟩ := ev_of h; go_simp) (fun a' h1 h2 => by obtain ⟨y0, z0⟩ := ev_of h1; obtain ⟨y1, z1⟩ := ev_of h2; go_simp) (fun a' c' v h1 h2 => by obtain ⟨y0, z0⟩ := ev_of h1; obtain ⟨y1, z1⟩ := ev_of h2; cases c' <;> go_simp) (fun a' v h => by obtain ⟨y0, z0⟩ := ev_of h; go_simp) ?_
  intro a9 KK9 c9
  have K9 := K8.trans KK9
  clear ka14 kb14 KK9
  have ka15 := Ka15.out; have kb15 := Kb15.out
  refine and_block 70 61 9 125 _ (xa15 == xb15) (.pointer (some ⟨w.heap.size, 0, none⟩)) (.pointer (some ⟨w.heap.size + 1, 0, none⟩)) (.pointer (some ⟨w.heap.size, 15, none⟩)) (.pointer (some ⟨w.heap.size + 1, 15, none⟩)) (.int .i64 xa15) (.int .i64 xb15) (by decide) (by decide) (by decide) (by rw [K9.size, fsz]; decide) rfl rfl rfl rfl rfl rfl rfl rfl rfl rfl rfl rfl rfl rfl rfl ((K9.slot 2 (.inl (by decide))).trans f2) ((K9.slot 3 (.inl (by decide))).trans f3) c9
   (fun a' h => by obtain ⟨y0, z0⟩ := ev_of h; go_simp) (fun a' h => by obtain ⟨y0, z0⟩ := ev_of h; go_simp) (fun a' h => by obtain ⟨y0, z0⟩ := ev_of h; go_simp) (fun a' h => by obtain ⟨y0, z0⟩ := ev_of h; go_simp) (fun a' h1 h2 => by obtain ⟨y0, z0⟩ := ev_of h1; obtain ⟨y1, z1⟩ := ev_of h2; go_simp) (fun a' c' v h1 h2 => by obtain ⟨y0, z0⟩ := ev_of h1; obtain ⟨y1, z1⟩ := ev_of h2; cases c' <;> go_simp) (fun a' v h => by obtain ⟨y0, z0⟩ := ev_of h; go_simp) ?_
  intro a10 KK10 c10
  have K10 := K9.trans KK10
  clear ka15 kb15 KK10
  have ka16 := Ka16.out; have kb16 := Kb16.out
  refine and_block 77 68 9 125 _ (xa16 == xb16) (.pointer (some ⟨w.heap.size, 0, none⟩)) (.pointer (some ⟨w.heap.size + 1, 0, none⟩)) (.pointer (some ⟨w.heap.size, 16, none⟩)) (.pointer (some ⟨w.heap.size + 1, 16, none⟩)) (.int .i64 xa16) (.int .i64 xb16) (by decide) (by decide) (by decide) (by rw [K10.size, fsz]; decide) rfl rfl rfl rfl rfl rfl rfl rfl rfl rfl rfl rfl rfl rfl rfl ((K10.slot 2 (.inl (by decide))).trans f2) ((K10.slot 3 (.inl (by decide))).trans f3) c10
   (fun a' h => by obtain ⟨y0, z0⟩ := ev_of h; go_simp) (fun a' h => by obtain ⟨y0, z0⟩ := ev_of h; go_simp) (fun a' h => by obtain ⟨y0, z0⟩ := ev_of h; go_simp) (fun a' h => by obtain ⟨y0, z0⟩ := ev_of h; go_simp) (fun a' h1 h2 => by obtain ⟨y0, z0⟩ := ev_of h1; obtain ⟨y1, z1⟩ := ev_of h2; go_simp) (fun a' c' v h1 h2 => by obtain ⟨y0, z0⟩ := ev_of h1; obtain ⟨y1, z1⟩ := ev_of h2; cases c' <;> go_simp) (fun a' v h => by obtain ⟨y0, z0⟩ := ev_of h; go_simp) ?_
  intro a11 KK11 c11
  have K11 := K10.trans KK11
  clear ka16 kb16 KK11
  have ka17 := Ka17.out; have kb17 := Kb17.out
  refine and_block 84 75 9 125 _ (xa17 == xb17) (.pointer (some ⟨w.heap.size, 0, none⟩)) (.pointer (some ⟨w.heap.size + 1, 0, none⟩)) (.pointer (some ⟨w.heap.size, 17, none⟩)) (.pointer (some ⟨w.heap.size + 1, 17, none⟩)) (.int .i64 xa17) (.int .i64 xb17) (by decide) (by decide) (by decide) (by rw [K11.size, fsz]; decide) rfl rfl rfl rfl rfl rfl rfl rfl rfl rfl rfl rfl rfl rfl rfl ((K11.slot 2 (.inl (by decide))).trans f2) ((K11.slot 3 (.inl (by decide))).trans f3) c11
   (fun a' h => by obtain ⟨y0, z0⟩ := ev_of h; go_simp) (fun a' h => by obtain ⟨y0, z0⟩ := ev_of h; go_simp) (fun a' h => by obtain ⟨y0, z0⟩ := ev_of h; go_simp) (fun a' h => by obtain ⟨y0, z0⟩ := ev_of h; go_simp) (fun a' h1 h2 => by obtain ⟨y0, z0⟩ := ev_of h1; obtain ⟨y1, z1⟩ := ev_of h2; go_simp) (fun a' c' v h1 h2 => by obtain ⟨y0, z0⟩ := ev_of h1; obtain ⟨y1, z1⟩ := ev_of h2; cases c' <;> go_simp) (fun a' v h => by obtain ⟨y0, z0⟩ := ev_of h; go_simp) ?_
  intro a12 KK12 c12
  have K12 := K11.trans KK12
  clear ka17 kb17 KK12
  have ka22 := Ka22.out; have kb22 := Kb22.out
  refine and_block 91 82 9 125 _ (xa22 == xb22) (.pointer (some ⟨w.heap.size, 0, none⟩)) (.pointer (some ⟨w.heap.size + 1, 0, none⟩)) (.pointer (some ⟨w.heap.size, 22, none⟩)) (.pointer (some ⟨w.heap.size + 1, 22, none⟩)) (.int .i64 xa22) (.int .i64 xb22) (by decide) (by decide) (by decide) (by rw [K12.size, fsz]; decide) rfl rfl rfl rfl rfl rfl rfl rfl rfl rfl rfl rfl rfl rfl rfl ((K12.slot 2 (.inl (by decide))).trans f2) ((K12.slot 3 (.inl (by decide))).trans f3) c12
   (fun a' h => by obtain ⟨y0, z0⟩ := ev_of h; go_simp) (fun a' h => by obtain ⟨y0, z0⟩ := ev_of h; go_simp) (fun a' h => by obtain ⟨y0, z0⟩ := ev_of h; go_simp) (fun a' h => by obtain ⟨y0, z0⟩ := ev_of h; go_simp) (fun a' h1 h2 => by obtain ⟨y0, z0⟩ := ev_of h1; obtain ⟨y1, z1⟩ := ev_of h2; go_simp) (fun a' c' v h1 h2 => by obtain ⟨y0, z0⟩ := ev_of h1; obtain ⟨y1, z1⟩ := ev_of h2; cases c' <;> go_simp) (fun a' v h => by obtain ⟨y0, z0⟩ := ev_of h; go_simp) ?_
  intro a13 KK13 c13
  have K13 := K12.trans KK13
  clear ka22 kb22 KK13
  have ka23 := Ka23.out; have kb23 := Kb23.out
  refine and_block 98 89 9 125 _ (xa23 == xb23) (.pointer (some ⟨w.heap.size, 0, none⟩)) (.pointer (some ⟨w.heap.size + 1, 0, none⟩)) (.pointer (some ⟨w.heap.size, 23, none⟩)) (.pointer (some ⟨w.heap.size + 1, 23, none⟩)) (.string ⟨xa23.toArray⟩) (.string ⟨xb23.toArray⟩) (by decide) (by decide) (by decide) (by rw [K13.size, fsz]; decide) rfl rfl rfl rfl rfl rfl rfl rfl rfl rfl rfl rfl rfl rfl rfl ((K13.slot 2 (.inl (by decide))).trans f2) ((K13.slot 3 (.inl (by decide))).trans f3) c13
   (fun a' h => by obtain ⟨y0, z0⟩ := ev_of h; go_simp) (fun a' h => by obtain ⟨y0, z0⟩ := ev_of h; go_simp) (fun a' h => by obtain ⟨y0, z0⟩ := ev_of h; go_simp) (fun a' h => by obtain ⟨y0, z0⟩ := ev_of h; go_simp) (fun a' h1 h2 => by obtain ⟨y0, z0⟩ := ev_of h1; obtain ⟨y1, z1⟩ := ev_of h2; go_simp) (fun a' c' v h1 h2 => by obtain ⟨y0, z0⟩ := ev_of h1; obtain ⟨y1, z1⟩ := ev_of h2; cases c' <;> go_simp) (fun a' v h => by obtain ⟨y0, z0⟩ := ev_of h; go_simp) ?_
  intro a14 KK14 c14
  have K14 := K13.trans KK14
  clear ka23 kb23 KK14
  have ka24 := Ka24.out; have kb24 := Kb24.out
  refine and_block 105 96 9 125 _ (xa24 == xb24) (.pointer (some ⟨w.heap.size, 0, none⟩)) (.pointer (some ⟨w.heap.size + 1, 0, none⟩)) (.pointer (some ⟨w.heap.size, 24, none⟩)) (.pointer (some ⟨w.heap.size + 1, 24, none⟩)) (.string ⟨xa24.toArray⟩) (.string ⟨xb24.toArray⟩) (by decide) (by decide) (by decide) (by rw [K14.size, fsz]; decide) rfl rfl rfl rfl rfl rfl rfl rfl rfl rfl rfl rfl rfl rfl rfl ((K14.slot 2 (.inl (by decide))).trans f2) ((K14.slot 3 (.inl (by decide))).trans f3) c14
   (fun a' h => by obtain ⟨y0, z0⟩ := ev_of h; go_simp) (fun a' h => by obtain ⟨y0, z0⟩ := ev_of h; go_simp) (fun a' h => by obtain ⟨y0, z0⟩ := ev_of h; go_simp) (fun a' h => by obtain ⟨y0, z0⟩ := ev_of h; go_simp) (fun a' h1 h2 => by obtain ⟨y0, z0⟩ := ev_of h1; obtain ⟨y1, z1⟩ := ev_of h2; go_simp) (fun a' c' v h1 h2 => by obtain ⟨y0, z0⟩ := ev_of h1; obtain ⟨y1, z1⟩ := ev_of h2; cases c' <;> go_simp) (fun a' v h => by obtain ⟨y0, z0⟩ := ev_of h; go_simp) ?_
  intro a15 KK15 c15
  have K15 := K14.trans KK15
  clear ka24 kb24 KK15
  have ka29 := Ka29.out; have kb29 := Kb29.out
  refine and_block 112 103 9 125 _ (xa29 == xb29) (.pointer (some ⟨w.heap.size, 0, none⟩)) (.pointer (some ⟨w.heap.size + 1, 0, none⟩)) (.pointer (some ⟨w.heap.size, 29, none⟩)) (.pointer (some ⟨w.heap.size + 1, 29, none⟩)) (.bool xa29) (.bool xb29) (by decide) (by decide) (by decide) (by rw [K15.size, fsz]; decide) rfl rfl rfl rfl rfl rfl rfl rfl rfl rfl rfl rfl rfl rfl rfl ((K15.slot 2 (.inl (by decide))).trans f2) ((K15.slot 3 (.inl (by decide))).trans f3) c15
   (fun a' h => by obtain ⟨y0, z0⟩ := ev_of h; go_simp) (fun a' h => by obtain ⟨y0, z0⟩ := ev_of h; go_simp) (fun a' h => by obtain ⟨y0, z0⟩ := ev_of h; go_simp) (fun a' h => by obtain ⟨y0, z0⟩ := ev_of h; go_simp) (fun a' h1 h2 => by obtain ⟨y0, z0⟩ := ev_of h1; obtain ⟨y1, z1⟩ := ev_of h2; go_simp) (fun a' c' v h1 h2 => by obtain ⟨y0, z0⟩ := ev_of h1; obtain ⟨y1, z1⟩ := ev_of h2; cases c' <;> go_simp) (fun a' v h => by obtain ⟨y0, z0⟩ := ev_of h; go_simp) ?_
  intro a16 KK16 c16
  have K16 := K15.trans KK16
  clear ka29 kb29 KK16
  have ka34 := Ka34.out; have kb34 := Kb34.out
  refine and_block6 119 110 9 125 _ (xa34 == xb34) (.pointer (some ⟨w.heap.size, 0, none⟩)) (.pointer (some ⟨w.heap.size + 1, 0, none⟩)) (.pointer (some ⟨w.heap.size, 34, none⟩)) (.pointer (some ⟨w.heap.size + 1, 34, none⟩)) (.string ⟨xa34.toArray⟩) (.string ⟨xb34.toArray⟩) (by decide) (by decide) (by decide) (by rw [K16.size, fsz]; decide) rfl rfl rfl rfl rfl rfl rfl rfl rfl rfl rfl rfl rfl ((K16.slot 2 (.inl (by decide))).trans f2) ((K16.slot 3 (.inl (by decide))).trans f3) c16
   (fun a' h => by obtain ⟨y0, z0⟩ := ev_of h; go_simp) (fun a' h => by obtain ⟨y0, z0⟩ := ev_of h; go_simp) (fun a' h => by obtain ⟨y0, z0⟩ := ev_of h; go_simp) (fun a' h => by obtain ⟨y0, z0⟩ := ev_of h; go_simp) (fun a' h1 h2 => by obtain ⟨y0, z0⟩ := ev_of h1; obtain ⟨y1, z1⟩ := ev_of h2; go_simp) (fun a' c' v h1 h2 => by obtain ⟨y0, z0⟩ := ev_of h1; obtain ⟨y1, z1⟩ := ev_of h2; cases c' <;> go_simp) ?_
  intro a17 KK17 c17
  have K17 := K16.trans KK17
  clear ka34 kb34 KK17
  have hfin := HP.out
  simp only [← Bool.and_assoc] at hfin
  rw [hfin] at c17
  refine l_take (d := 5) rfl (wanted_none rfl) (v := .bool pb) (by obtain ⟨y0, z0⟩ := ev_of c17; go_simp) ?_
  refine wpList_nil ?_
  obtain ⟨us, hus, hform⟩ := K17.form fsz
  rw [hform, HA0.out]
  clear HA0 hform K17 c17 hfin HP f2 f3 fsz K1 c1 K2 c2 K3 c3 K4 c4 K5 c5 K6 c6 K7 c7 K8 c8 K9 c9 K10 c10 K11 c11 K12 c12 K13 c13 K14 c14 K15 c15 K16 c16 Ka0 Kb0 Ka1 Kb1 Ka2 Kb2 Ka3 Kb3 Ka5 Kb5 Ka6 Kb6 Ka7 Kb7 Ka13 Kb13 Ka14 Kb14 Ka15 Kb15 Ka16 Kb16 Ka17 Kb17 Ka22 Kb22 Ka23 Kb23 Ka24 Kb24 Ka29 Kb29 Ka34 Kb34
  clear a17
  obtain ⟨y9, us9, rfl, hus9⟩ := ex_cons hus
  obtain ⟨y10, us10, rfl, hus10⟩ := ex_cons hus9
  obtain ⟨y11, us11, rfl, hus11⟩ := ex_cons hus10
  obtain ⟨y12, us12, rfl, hus12⟩ := ex_cons hus11
  obtain ⟨y13, us13, rfl, hus13⟩ := ex_cons hus12
  obtain ⟨y14, us14, rfl, hus14⟩ := ex_cons hus13
  obtain ⟨y15, us15, rfl, hus15⟩ := ex_cons hus14
  obtain ⟨y16, us16, rfl, hus16⟩ := ex_cons hus15
  obtain ⟨y17, us17, rfl, hus17⟩ := ex_cons hus16
  obtain ⟨y18, us18, rfl, hus18⟩ := ex_cons hus17
  obtain ⟨y19, us19, rfl, hus19⟩ := ex_cons hus18
  obtain ⟨y20, us20, rfl, hus20⟩ := ex_cons hus19
  obtain ⟨y21, us21, rfl, hus21⟩ := ex_cons hus20
  obtain ⟨y22, us22, rfl, hus22⟩ := ex_cons hus21
  obtain ⟨y23, us23, rfl, hus23⟩ := ex_cons hus22
  obtain ⟨y24, us24, rfl, hus24⟩ := ex_cons hus23
  obtain ⟨y25, us25, rfl, hus25⟩ := ex_cons hus24
  obtain ⟨y26, us26, rfl, hus26⟩ := ex_cons hus25
  obtain ⟨y27, us27, rfl, hus27⟩ := ex_cons hus26
  obtain ⟨y28, us28, rfl, hus28⟩ := ex_cons hus27
  obtain ⟨y29, us29, rfl, hus29⟩ := ex_cons hus28
  obtain ⟨y30, us30, rfl, hus30⟩ := ex_cons hus29
  obtain ⟨y31, us31, rfl, hus31⟩ := ex_cons hus30
  obtain ⟨y32, us32, rfl, hus32⟩ := ex_cons hus31
  obtain ⟨y33, us33, rfl, hus33⟩ := ex_cons hus32
  obtain ⟨y34, us34, rfl, hus34⟩ := ex_cons hus33
  obtain ⟨y35, us35, rfl, hus35⟩ := ex_cons hus34
  obtain ⟨y36, us36, rfl, hus36⟩ := ex_cons hus35
  obtain ⟨y37, us37, rfl, hus37⟩ := ex_cons hus36
  obtain ⟨y38, us38, rfl, hus38⟩ := ex_cons hus37
  obtain ⟨y39, us39, rfl, hus39⟩ := ex_cons hus38
  obtain ⟨y40, us40, rfl, hus40⟩ := ex_cons hus39
  obtain ⟨y41, us41, rfl, hus41⟩ := ex_cons hus40
  obtain ⟨y42, us42, rfl, hus42⟩ := ex_cons hus41
  obtain ⟨y43, us43, rfl, hus43⟩ := ex_cons hus42
  obtain ⟨y44, us44, rfl, hus44⟩ := ex_cons hus43
  obtain ⟨y45, us45, rfl, hus45⟩ := ex_cons hus44
  obtain ⟨y46, us46, rfl, hus46⟩ := ex_cons hus45
  obtain ⟨y47, us47, rfl, hus47⟩ := ex_cons hus46
  obtain ⟨y48, us48, rfl, hus48⟩ := ex_cons hus47
  obtain ⟨y49, us49, rfl, hus49⟩ := ex_cons hus48
  obtain ⟨y50, us50, rfl, hus50⟩ := ex_cons hus49
  obtain ⟨y51, us51, rfl, hus51⟩ := ex_cons hus50
  obtain ⟨y52, us52, rfl, hus52⟩ := ex_cons hus51
  obtain ⟨y53, us53, rfl, hus53⟩ := ex_cons hus52
  obtain ⟨y54, us54, rfl, hus54⟩ := ex_cons hus53
  obtain ⟨y55, us55, rfl, hus55⟩ := ex_cons hus54
  obtain ⟨y56, us56, rfl, hus56⟩ := ex_cons hus55
  obtain ⟨y57, us57, rfl, hus57⟩ := ex_cons hus56
  obtain ⟨y58, us58, rfl, hus58⟩ := ex_cons hus57
  obtain ⟨y59, us59, rfl, hus59⟩ := ex_cons hus58
  obtain ⟨y60, us60, rfl, hus60⟩ := ex_cons hus59
  obtain ⟨y61, us61, rfl, hus61⟩ := ex_cons hus60
  obtain ⟨y62, us62, rfl, hus62⟩ := ex_cons hus61
  obtain ⟨y63, us63, rfl, hus63⟩ := ex_cons hus62
  obtain ⟨y64, us64, rfl, hus64⟩ := ex_cons hus63
  obtain ⟨y65, us65, rfl, hus65⟩ := ex_cons hus64
  obtain ⟨y66, us66, rfl, hus66⟩ := ex_cons hus65
  obtain ⟨y67, us67, rfl, hus67⟩ := ex_cons hus66
  obtain ⟨y68, us68, rfl, hus68⟩ := ex_cons hus67
  obtain ⟨y69, us69, rfl, hus69⟩ := ex_cons hus68
  obtain ⟨y70, us70, rfl, hus70⟩ := ex_cons hus69
  obtain ⟨y71, us71, rfl, hus71⟩ := ex_cons hus70
  obtain ⟨y72, us72, rfl, hus72⟩ := ex_cons hus71
  obtain ⟨y73, us73, rfl, hus73⟩ := ex_cons hus72
  obtain ⟨y74, us74, rfl, hus74⟩ := ex_cons hus73
  obtain ⟨y75, us75, rfl, hus75⟩ := ex_cons hus74
  obtain ⟨y76, us76, rfl, hus76⟩ := ex_cons hus75
  obtain ⟨y77, us77, rfl, hus77⟩ := ex_cons hus76
  obtain ⟨y78, us78, rfl, hus78⟩ := ex_cons hus77
  obtain ⟨y79, us79, rfl, hus79⟩ := ex_cons hus78
  obtain ⟨y80, us80, rfl, hus80⟩ := ex_cons hus79
  obtain ⟨y81, us81, rfl, hus81⟩ := ex_cons hus80
  obtain ⟨y82, us82, rfl, hus82⟩ := ex_cons hus81
  obtain ⟨y83, us83, rfl, hus83⟩ := ex_cons hus82
  obtain ⟨y84, us84, rfl, hus84⟩ := ex_cons hus83
  obtain ⟨y85, us85, rfl, hus85⟩ := ex_cons hus84
  obtain ⟨y86, us86, rfl, hus86⟩ := ex_cons hus85
  obtain ⟨y87, us87, rfl, hus87⟩ := ex_cons hus86
  obtain ⟨y88, us88, rfl, hus88⟩ := ex_cons hus87
  obtain ⟨y89, us89, rfl, hus89⟩ := ex_cons hus88
  obtain ⟨y90, us90, rfl, hus90⟩ := ex_cons hus89
  obtain ⟨y91, us91, rfl, hus91⟩ := ex_cons hus90
  obtain ⟨y92, us92, rfl, hus92⟩ := ex_cons hus91
  obtain ⟨y93, us93, rfl, hus93⟩ := ex_cons hus92
  obtain ⟨y94, us94, rfl, hus94⟩ := ex_cons hus93
  obtain ⟨y95, us95, rfl, hus95⟩ := ex_cons hus94
  obtain ⟨y96, us96, rfl, hus96⟩ := ex_cons hus95
  obtain ⟨y97, us97, rfl, hus97⟩ := ex_cons hus96
  obtain ⟨y98, us98, rfl, hus98⟩ := ex_cons hus97
  obtain ⟨y99, us99, rfl, hus99⟩ := ex_cons hus98
  obtain ⟨y100, us100, rfl, hus100⟩ := ex_cons hus99
  obtain ⟨y101, us101, rfl, hus101⟩ := ex_cons hus100
  obtain ⟨y102, us102, rfl, hus102⟩ := ex_cons hus101
  obtain ⟨y103, us103, rfl, hus103⟩ := ex_cons hus102
  obtain ⟨y104, us104, rfl, hus104⟩ := ex_cons hus103
  obtain ⟨y105, us105, rfl, hus105⟩ := ex_cons hus104
  obtain ⟨y106, us106, rfl, hus106⟩ := ex_cons hus105
  obtain ⟨y107, us107, rfl, hus107⟩ := ex_cons hus106
  obtain ⟨y108, us108, rfl, hus108⟩ := ex_cons hus107
  obtain ⟨y109, us109, rfl, hus109⟩ := ex_cons hus108
  obtain ⟨y110, us110, rfl, hus110⟩ := ex_cons hus109
  obtain ⟨y111, us111, rfl, hus111⟩ := ex_cons hus110
  obtain ⟨y112, us112, rfl, hus112⟩ := ex_cons hus111
  obtain ⟨y113, us113, rfl, hus113⟩ := ex_cons hus112
  obtain ⟨y114, us114, rfl, hus114⟩ := ex_cons hus113
  obtain ⟨y115, us115, rfl, hus115⟩ := ex_cons hus114
  obtain ⟨y116, us116, rfl, hus116⟩ := ex_cons hus115
  obtain ⟨y117, us117, rfl, hus117⟩ := ex_cons hus116
  obtain ⟨y118, us118, rfl, hus118⟩ := ex_cons hus117
  obtain ⟨y119, us119, rfl, hus119⟩ := ex_cons hus118
  obtain ⟨y120, us120, rfl, hus120⟩ := ex_cons hus119
  obtain ⟨y121, us121, rfl, hus121⟩ := ex_cons hus120
  obtain ⟨y122, us122, rfl, hus122⟩ := ex_cons hus121
  obtain ⟨y123, us123, rfl, hus123⟩ := ex_cons hus122
  obtain ⟨y124, us124, rfl, hus124⟩ := ex_cons hus123
  obtain ⟨y125, us125, rfl, hus125⟩ := ex_cons hus124
  obtain rfl := List.eq_nil_of_length_eq_zero hus125
  simp only [Act.put, List.take_succ_cons, List.take_zero, List.drop_succ_cons, List.drop_zero, List.cons_append, List.nil_append, List.setIfInBounds_toArray, List.set_cons_zero, List.set_cons_succ, Exit.then]
  refine hK0 _ _ (Met.intro (hJ0 _ _ ?_))
  repeat apply Exists.intro
  exact ⟨⟨rfl, rfl⟩, rfl⟩
 case rest =>
  obtain ⟨rfl, hcw⟩ := hcut
  rw [hcw]
  clear hcw
  go_upto_region 2 with fail
  go_cut [6] from 126 to 158 (fun s6 w' => s6 = .bool eb ∧ Below w2.heap.size w2 w')
  case first =>
   rename_i J0 K0 hJ0 hK0
   have hp := HEB.out
   unfold execsU at hp
   obtain ⟨va8, qa8, sa8⟩ := HSA.out.at 8 (by decide)
   obtain ⟨xa8, ea8⟩ := tag_cs (HTA.out 8)
   rw [ea8] at sa8 hp
   obtain ⟨oa8, pa8, za8, rfl, ra8, la8⟩ := sa8
   clear ea8
   obtain ⟨vb8, qb8, sb8⟩ := HSB.out.at 8 (by decide)
   obtain ⟨xb8, eb8⟩ := tag_cs (HTB.out 8)
   rw [eb8] at sb8 hp
   obtain ⟨ob8, pb8, zb8, rfl, rb8, lb8⟩ := sb8
   clear eb8
   obtain ⟨t8, ht8⟩ : ∃ t, decide (xa8 = xb8) = t := ⟨_, rfl⟩
   obtain ⟨va9, qa9, sa9⟩ := HSA.out.at 9 (by decide)
   obtain ⟨xa9, ea9⟩ := tag_cs (HTA.out 9)
   rw [ea9] at sa9 hp
   obtain ⟨oa9, pa9, za9, rfl, ra9, la9⟩ := sa9
   clear ea9
   obtain ⟨vb9, qb9, sb9⟩ := HSB.out.at 9 (by decide)
   obtain ⟨xb9, eb9⟩ := tag_cs (HTB.out 9)
   rw [eb9] at sb9 hp
   obtain ⟨ob9, pb9, zb9, rfl, rb9, lb9⟩ := sb9
   clear eb9
   obtain ⟨t9, ht9⟩ : ∃ t, decide (xa9 = xb9) = t := ⟨_, rfl⟩
   obtain ⟨va10, qa10, sa10⟩ := HSA.out.at 10 (by decide)
   obtain ⟨xa10, ea10⟩ := tag_cs (HTA.out 10)
   rw [ea10] at sa10 hp
   obtain ⟨oa10, pa10, za10, rfl, ra10, la10⟩ := sa10
   clear ea10
   obtain ⟨vb10, qb10, sb10⟩ := HSB.out.at 10 (by decide)
   obtain ⟨xb10, eb10⟩ := tag_cs (HTB.out 10)
   rw [eb10] at sb10 hp
   obtain ⟨ob10, pb10, zb10, rfl, rb10, lb10⟩ := sb10
   clear eb10
   obtain ⟨t10, ht10⟩ : ∃ t, decide (xa10 = xb10) = t := ⟨_, rfl⟩
   obtain ⟨va11, qa11, sa11⟩ := HSA.out.at 11 (by decide)
   obtain ⟨xa11, ea11⟩ := tag_cs (HTA.out 11)
   rw [ea11] at sa11 hp
   obtain ⟨oa11, pa11, za11, rfl, ra11, la11⟩ := sa11
   clear ea11
   obtain ⟨vb11, qb11, sb11⟩ := HSB.out.at 11 (by decide)
   obtain ⟨xb11, eb11⟩ := tag_cs (HTB.out 11)
   rw [eb11] at sb11 hp
   obtain ⟨ob11, pb11, zb11, rfl, rb11, lb11⟩ := sb11
   clear eb11
   obtain ⟨t11, ht11⟩ : ∃ t, decide (xa11 = xb11) = t := ⟨_, rfl⟩
   obtain ⟨va12, qa12, sa12⟩ := HSA.out.at 12 (by decide)
   obtain ⟨xa12, ea12⟩ := tag_cs (HTA.out 12)
   rw [ea12] at sa12 hp
   obtain ⟨oa12, pa12, za12, rfl, ra12, la12⟩ := sa12
   clear ea12
   obtain ⟨vb12, qb12, sb12⟩ := HSB.out.at 12 (by decide)
   obtain ⟨xb12, eb12⟩ := tag_cs (HTB.out 12)
   rw [eb12] at sb12 hp
   obtain ⟨ob12, pb12, zb12, rfl, rb12, lb12⟩ := sb12
   clear eb12
   obtain ⟨t12, ht12⟩ : ∃ t, decide (xa12 = xb12) = t := ⟨_, rfl⟩
   simp only [beq_UCcs, beq_UCns, beq_UCss, ht8, ht9, ht10, ht11, ht12] at hp
   refine wp_region_lit ?_
   refine abs_act ?_
   intro a0 ha0
   have f2 : a0.tmps[2]? = some (.pointer (some ⟨w.heap.size, 0, none⟩)) := by rw [ha0]; rfl
   have f3 : a0.tmps[3]? = some (.pointer (some ⟨w.heap.size + 1, 0, none⟩)) := by rw [ha0]; rfl
   have fsz : a0.tmps.size = 256 := by rw [ha0]; rfl
   have HA0 := h_ ha0
   clear ha0
   refine call_start (I := fun W => Below w2.heap.size w2 W) (Below.refl _ _) 125 126 158 (.pointer (some ⟨w.heap.size, 0, none⟩)) (.pointer (some ⟨w.heap.size + 1, 0, none⟩)) (.pointer (some ⟨w.heap.size, 8, none⟩)) (.pointer (some ⟨w.heap.size + 1, 8, none⟩)) (.slice oa8 xa8.length pa8) (.slice ob8 xb8.length pb8) t8 (by decide) (by decide) (by rw [fsz]; decide) f2 f3 rfl rfl rfl rfl rfl rfl rfl rfl rfl rfl rfl rfl
    (fun a' W hI h => by obtain ⟨y0, z0⟩ := ev_of h; go_simp) (fun a' W hI h => by have kk := ((rd (heap_below HGA.out hI)).1 8).trans qa8; obtain ⟨y0, z0⟩ := ev_of h; go_simp) (fun a' W hI h => by obtain ⟨y0, z0⟩ := ev_of h; go_simp) (fun a' W hI h => by have kk := ((rd (heap_below HGB.out hI)).1 8).trans qb8; obtain ⟨y0, z0⟩ := ev_of h; go_simp) (fun a' W K hI h1 h2 hK => call_op (by obtain ⟨y0, z0⟩ := ev_of h1; obtain ⟨y1, z1⟩ := ev_of h2; go_simp) (sameExecs_any _ _ pa8 pb8 _ _ xa8 xb8 W (csBelow hI ra8) (csBelow hI rb8) la8 lb8 t8 ht8) (by rintro e w' ⟨rfl, n, rfl⟩; exact ⟨by first | rfl | rw [ht8], hK _ (hI.trans (below_dn ⟨_, rfl⟩))⟩)) (fun a' W v h => by obtain ⟨y0, z0⟩ := ev_of h; go_simp) ?_
   intro a1 w1 hI1 K1 c1
   refine call_block6 (I := fun W => Below w2.heap.size w2 W) hI1 131 5 126 158 _ t9 (.pointer (some ⟨w.heap.size, 0, none⟩)) (.pointer (some ⟨w.heap.size + 1, 0, none⟩)) (.pointer (some ⟨w.heap.size, 9, none⟩)) (.pointer (some ⟨w.heap.size + 1, 9, none⟩)) (.slice oa9 xa9.length pa9) (.slice ob9 xb9.length pb9) (by decide) (by decide) (by decide) (by rw [K1.size, fsz]; decide) rfl rfl rfl rfl rfl rfl rfl rfl rfl rfl rfl rfl rfl ((K1.slot 2 (.inl (by decide))).trans f2) ((K1.slot 3 (.inl (by decide))).trans f3) c1
    (fun a' W hI h => by obtain ⟨y0, z0⟩ := ev_of h; go_simp) (fun a' W hI h => by have kk := ((rd (heap_below HGA.out hI)).1 9).trans qa9; obtain ⟨y0, z0⟩ := ev_of h; go_simp) (fun a' W hI h => by obtain ⟨y0, z0⟩ := ev_of h; go_simp) (fun a' W hI h => by have kk := ((rd (heap_below HGB.out hI)).1 9).trans qb9; obtain ⟨y0, z0⟩ := ev_of h; go_simp) (fun a' W K hI h1 h2 hK => call_op (by obtain ⟨y0, z0⟩ := ev_of h1; obtain ⟨y1, z1⟩ := ev_of h2; go_simp) (sameExecs_any _ _ pa9 pb9 _ _ xa9 xb9 W (csBelow hI ra9) (csBelow hI rb9) la9 lb9 t9 ht9) (by rintro e w' ⟨rfl, n, rfl⟩; exact ⟨by first | rfl | rw [ht9], hK _ (hI.trans (below_dn ⟨_, rfl⟩))⟩)) (fun a' W c' v h1 h2 => by obtain ⟨y0, z0⟩ := ev_of h1; obtain ⟨y1, z1⟩ := ev_of h2; cases c' <;> go_simp) ?_
   intro b2 w2' hI2 KK2 cc2
   have L2 := K1.trans KK2
   refine l_take (d := 138) rfl (wanted_none rfl) (v := .bool (t8 && t9)) (by obtain ⟨y0, z0⟩ := ev_of cc2; go_simp) ?_
   have K2 := L2.put (.bool (t8 && t9)) (show 126 ≤ 138 by decide) (show 138 ≤ 158 by decide)
   have c2 := put_self (a := b2) (d := 138) (.bool (t8 && t9)) (by rw [L2.size, fsz]; decide)
   refine call_block6 (I := fun W => Below w2.heap.size w2 W) hI2 138 12 126 158 _ t10 (.pointer (some ⟨w.heap.size, 0, none⟩)) (.pointer (some ⟨w.heap.size + 1, 0, none⟩)) (.pointer (some ⟨w.heap.size, 10, none⟩)) (.pointer (some ⟨w.heap.size + 1, 10, none⟩)) (.slice oa10 xa10.length pa10) (.slice ob10 xb10.length pb10) (by decide) (by decide) (by decide) (by rw [K2.size, fsz]; decide) rfl rfl rfl rfl rfl rfl rfl rfl rfl rfl rfl rfl rfl ((K2.slot 2 (.inl (by decide))).trans f2) ((K2.slot 3 (.inl (by decide))).trans f3) c2
    (fun a' W hI h => by obtain ⟨y0, z0⟩ := ev_of h; go_simp) (fun a' W hI h => by have kk := ((rd (heap_below HGA.out hI)).1 10).trans qa10; obtain ⟨y0, z0⟩ := ev_of h; go_simp) (fun a' W hI h => by obtain ⟨y0, z0⟩ := ev_of h; go_simp) (fun a' W hI h => by have kk := ((rd (heap_below HGB.out hI)).1 10).trans qb10; obtain ⟨y0, z0⟩ := ev_of h; go_simp) (fun a' W K hI h1 h2 hK => call_op (by obtain ⟨y0, z0⟩ := ev_of h1; obtain ⟨y1, z1⟩ := ev_of h2; go_simp) (sameExecs_any _ _ pa10 pb10 _ _ xa10 xb10 W (csBelow hI ra10) (csBelow hI rb10) la10 lb10 t10 ht10) (by rintro e w' ⟨rfl, n, rfl⟩; exact ⟨by first | rfl | rw [ht10], hK _ (hI.trans (below_dn ⟨_, rfl⟩))⟩)) (fun a' W c' v h1 h2 => by obtain ⟨y0, z0⟩ := ev_of h1; obtain ⟨y1, z1⟩ := ev_of h2; cases c' <;> go_simp) ?_
   intro b3 w3' hI3 KK3 cc3
   have L3 := K2.trans KK3
   refine l_take (d := 145) rfl (wanted_none rfl) (v := .bool (t8 && t9 && t10)) (by obtain ⟨y0, z0⟩ := ev_of cc3; go_simp) ?_
   have K3 := L3.put (.bool (t8 && t9 && t10)) (show 126 ≤ 145 by decide) (show 145 ≤ 158 by decide)
   have c3 := put_self (a := b3) (d := 145) (.bool (t8 && t9 && t10)) (by rw [L3.size, fsz]; decide)
   refine call_block6 (I := fun W => Below w2.heap.size w2 W) hI3 145 19 126 158 _ t11 (.pointer (some ⟨w.heap.size, 0, none⟩)) (.pointer (some ⟨w.heap.size + 1, 0, none⟩)) (.pointer (some ⟨w.heap.size, 11, none⟩)) (.pointer (some ⟨w.heap.size + 1, 11, none⟩)) (.slice oa11 xa11.length pa11) (.slice ob11 xb11.length pb11) (by decide) (by decide) (by decide) (by rw [K3.size, fsz]; decide) rfl rfl rfl rfl rfl rfl rfl rfl rfl rfl rfl rfl rfl ((K3.slot 2 (.inl (by decide))).trans f2) ((K3.slot 3 (.inl (by decide))).trans f3) c3
    (fun a' W hI h => by obtain ⟨y0, z0⟩ := ev_of h; go_simp) (fun a' W hI h => by have kk := ((rd (heap_below HGA.out hI)).1 11).trans qa11; obtain ⟨y0, z0⟩ := ev_of h; go_simp) (fun a' W hI h => by obtain ⟨y0, z0⟩ := ev_of h; go_simp) (fun a' W hI h => by have kk := ((rd (heap_below HGB.out hI)).1 11).trans qb11; obtain ⟨y0, z0⟩ := ev_of h; go_simp) (fun a' W K hI h1 h2 hK => call_op (by obtain ⟨y0, z0⟩ := ev_of h1; obtain ⟨y1, z1⟩ := ev_of h2; go_simp) (sameExecs_any _ _ pa11 pb11 _ _ xa11 xb11 W (csBelow hI ra11) (csBelow hI rb11) la11 lb11 t11 ht11) (by rintro e w' ⟨rfl, n, rfl⟩; exact ⟨by first | rfl | rw [ht11], hK _ (hI.trans (below_dn ⟨_, rfl⟩))⟩)) (fun a' W c' v h1 h2 => by obtain ⟨y0, z0⟩ := ev_of h1; obtain ⟨y1, z1⟩ := ev_of h2; cases c' <;> go_simp) ?_
   intro b4 w4' hI4 KK4 cc4
   have L4 := K3.trans KK4
   refine l_take (d := 152) rfl (wanted_none rfl) (v := .bool (t8 && t9 && t10 && t11)) (by obtain ⟨y0, z0⟩ := ev_of cc4; go_simp) ?_
   have K4 := L4.put (.bool (t8 && t9 && t10 && t11)) (show 126 ≤ 152 by decide) (show 152 ≤ 158 by decide)
   have c4 := put_self (a := b4) (d := 152) (.bool (t8 && t9 && t10 && t11)) (by rw [L4.size, fsz]; decide)
   refine call_block6 (I := fun W => Below w2.heap.size w2 W) hI4 152 26 126 158 _ t12 (.pointer (some ⟨w.heap.size, 0, none⟩)) (.pointer (some ⟨w.heap.size + 1, 0, none⟩)) (.pointer (some ⟨w.heap.size, 12, none⟩)) (.pointer (some ⟨w.heap.size + 1, 12, none⟩)) (.slice oa12 xa12.length pa12) (.slice ob12 xb12.length pb12) (by decide) (by decide) (by decide) (by rw [K4.size, fsz]; decide) rfl rfl rfl rfl rfl rfl rfl rfl rfl rfl rfl rfl rfl ((K4.slot 2 (.inl (by decide))).trans f2) ((K4.slot 3 (.inl (by decide))).trans f3) c4
    (fun a' W hI h => by obtain ⟨y0, z0⟩ := ev_of h; go_simp) (fun a' W hI h => by have kk := ((rd (heap_below HGA.out hI)).1 12).trans qa12; obtain ⟨y0, z0⟩ := ev_of h; go_simp) (fun a' W hI h => by obtain ⟨y0, z0⟩ := ev_of h; go_simp) (fun a' W hI h => by have kk := ((rd (heap_below HGB.out hI)).1 12).trans qb12; obtain ⟨y0, z0⟩ := ev_of h; go_simp) (fun a' W K hI h1 h2 hK => call_op (by obtain ⟨y0, z0⟩ := ev_of h1; obtain ⟨y1, z1⟩ := ev_of h2; go_simp) (sameExecs_any _ _ pa12 pb12 _ _ xa12 xb12 W (csBelow hI ra12) (csBelow hI rb12) la12 lb12 t12 ht12) (by rintro e w' ⟨rfl, n, rfl⟩; exact ⟨by first | rfl | rw [ht12], hK _ (hI.trans (below_dn ⟨_, rfl⟩))⟩)) (fun a' W c' v h1 h2 => by obtain ⟨y0, z0⟩ := ev_of h1; obtain ⟨y1, z1⟩ := ev_of h2; cases c' <;> go_simp) ?_
   intro b5 w5' hI5 KK5 cc5
   have L5 := K4.trans KK5
   simp only [← Bool.and_assoc] at hp
   rw [hp] at cc5
   refine l_take (d := 6) rfl (wanted_none rfl) (v := .bool eb) (by obtain ⟨y0, z0⟩ := ev_of cc5; go_simp) ?_
   refine wpList_nil ?_
   obtain ⟨us, hus, hform⟩ := L5.form2 fsz (by decide) (by decide) 33 (by decide)
   rw [hform, HA0.out]
   clear HA0 hform KK5 L5 cc5 f2 f3 fsz hp
   clear b5
   obtain ⟨y126, us126, rfl, hus126⟩ := ex_cons hus
   obtain ⟨y127, us127, rfl, hus127⟩ := ex_cons hus126
   obtain ⟨y128, us128, rfl, hus128⟩ := ex_cons hus127
   obtain ⟨y129, us129, rfl, hus129⟩ := ex_cons hus128
   obtain ⟨y130, us130, rfl, hus130⟩ := ex_cons hus129
   obtain ⟨y131, us131, rfl, hus131⟩ := ex_cons hus130
   obtain ⟨y132, us132, rfl, hus132⟩ := ex_cons hus131
   obtain ⟨y133, us133, rfl, hus133⟩ := ex_cons hus132
   obtain ⟨y134, us134, rfl, hus134⟩ := ex_cons hus133
   obtain ⟨y135, us135, rfl, hus135⟩ := ex_cons hus134
   obtain ⟨y136, us136, rfl, hus136⟩ := ex_cons hus135
   obtain ⟨y137, us137, rfl, hus137⟩ := ex_cons hus136
   obtain ⟨y138, us138, rfl, hus138⟩ := ex_cons hus137
   obtain ⟨y139, us139, rfl, hus139⟩ := ex_cons hus138
   obtain ⟨y140, us140, rfl, hus140⟩ := ex_cons hus139
   obtain ⟨y141, us141, rfl, hus141⟩ := ex_cons hus140
   obtain ⟨y142, us142, rfl, hus142⟩ := ex_cons hus141
   obtain ⟨y143, us143, rfl, hus143⟩ := ex_cons hus142
   obtain ⟨y144, us144, rfl, hus144⟩ := ex_cons hus143
   obtain ⟨y145, us145, rfl, hus145⟩ := ex_cons hus144
   obtain ⟨y146, us146, rfl, hus146⟩ := ex_cons hus145
   obtain ⟨y147, us147, rfl, hus147⟩ := ex_cons hus146
   obtain ⟨y148, us148, rfl, hus148⟩ := ex_cons hus147
   obtain ⟨y149, us149, rfl, hus149⟩ := ex_cons hus148
   obtain ⟨y150, us150, rfl, hus150⟩ := ex_cons hus149
   obtain ⟨y151, us151, rfl, hus151⟩ := ex_cons hus150
   obtain ⟨y152, us152, rfl, hus152⟩ := ex_cons hus151
   obtain ⟨y153, us153, rfl, hus153⟩ := ex_cons hus152
   obtain ⟨y154, us154, rfl, hus154⟩ := ex_cons hus153
   obtain ⟨y155, us155, rfl, hus155⟩ := ex_cons hus154
   obtain ⟨y156, us156, rfl, hus156⟩ := ex_cons hus155
   obtain ⟨y157, us157, rfl, hus157⟩ := ex_cons hus156
   obtain ⟨y158, us158, rfl, hus158⟩ := ex_cons hus157
   obtain rfl := List.eq_nil_of_length_eq_zero hus158
   simp only [Act.put, List.take_succ_cons, List.take_zero, List.drop_succ_cons, List.drop_zero, List.cons_append, List.nil_append, List.setIfInBounds_toArray, List.set_cons_zero, List.set_cons_succ, Exit.then]
   refine hK0 _ _ (Met.intro (hJ0 _ _ ?_))
   repeat apply Exists.intro
   exact ⟨⟨rfl, hI5⟩, rfl⟩
  case rest =>
   obtain ⟨rfl, hcw⟩ := hcut
   go_upto_region 3 with fail
   go_cut [7] from 159 to 191 (fun s7 w' => s7 = .bool ib ∧ Below w2.heap.size w2 w')
   case first =>
    rename_i J0 K0 hJ0 hK0
    have hp := HIB.out
    unfold intsU at hp
    obtain ⟨va18, qa18, sa18⟩ := HSA.out.at 18 (by decide)
    obtain ⟨xa18, ea18⟩ := tag_ns (HTA.out 18)
    rw [ea18] at sa18 hp
    obtain ⟨oa18, pa18, rfl, ra18, la18⟩ := sa18
    clear ea18
    obtain ⟨vb18, qb18, sb18⟩ := HSB.out.at 18 (by decide)
    obtain ⟨xb18, eb18⟩ := tag_ns (HTB.out 18)
    rw [eb18] at sb18 hp
    obtain ⟨ob18, pb18, rfl, rb18, lb18⟩ := sb18
    clear eb18
    obtain ⟨t18, ht18⟩ : ∃ t, decide (xa18 = xb18) = t := ⟨_, rfl⟩
    obtain ⟨va21, qa21, sa21⟩ := HSA.out.at 21 (by decide)
    obtain ⟨xa21, ea21⟩ := tag_ns (HTA.out 21)
    rw [ea21] at sa21 hp
    obtain ⟨oa21, pa21, rfl, ra21, la21⟩ := sa21
    clear ea21
    obtain ⟨vb21, qb21, sb21⟩ := HSB.out.at 21 (by decide)
    obtain ⟨xb21, eb21⟩ := tag_ns (HTB.out 21)
    rw [eb21] at sb21 hp
    obtain ⟨ob21, pb21, rfl, rb21, lb21⟩ := sb21
    clear eb21
    obtain ⟨t21, ht21⟩ : ∃ t, decide (xa21 = xb21) = t := ⟨_, rfl⟩
    obtain ⟨va25, qa25, sa25⟩ := HSA.out.at 25 (by decide)
    obtain ⟨xa25, ea25⟩ := tag_ns (HTA.out 25)
    rw [ea25] at sa25 hp
    obtain ⟨oa25, pa25, rfl, ra25, la25⟩ := sa25
    clear ea25
    obtain ⟨vb25, qb25, sb25⟩ := HSB.out.at 25 (by decide)
    obtain ⟨xb25, eb25⟩ := tag_ns (HTB.out 25)
    rw [eb25] at sb25 hp
    obtain ⟨ob25, pb25, rfl, rb25, lb25⟩ := sb25
    clear eb25
    obtain ⟨t25, ht25⟩ : ∃ t, decide (xa25 = xb25) = t := ⟨_, rfl⟩
    obtain ⟨va26, qa26, sa26⟩ := HSA.out.at 26 (by decide)
    obtain ⟨xa26, ea26⟩ := tag_ns (HTA.out 26)
    rw [ea26] at sa26 hp
    obtain ⟨oa26, pa26, rfl, ra26, la26⟩ := sa26
    clear ea26
    obtain ⟨vb26, qb26, sb26⟩ := HSB.out.at 26 (by decide)
    obtain ⟨xb26, eb26⟩ := tag_ns (HTB.out 26)
    rw [eb26] at sb26 hp
    obtain ⟨ob26, pb26, rfl, rb26, lb26⟩ := sb26
    clear eb26
    obtain ⟨t26, ht26⟩ : ∃ t, decide (xa26 = xb26) = t := ⟨_, rfl⟩
    obtain ⟨va27, qa27, sa27⟩ := HSA.out.at 27 (by decide)
    obtain ⟨xa27, ea27⟩ := tag_ns (HTA.out 27)
    rw [ea27] at sa27 hp
    obtain ⟨oa27, pa27, rfl, ra27, la27⟩ := sa27
    clear ea27
    obtain ⟨vb27, qb27, sb27⟩ := HSB.out.at 27 (by decide)
    obtain ⟨xb27, eb27⟩ := tag_ns (HTB.out 27)
    rw [eb27] at sb27 hp
    obtain ⟨ob27, pb27, rfl, rb27, lb27⟩ := sb27
    clear eb27
    obtain ⟨t27, ht27⟩ : ∃ t, decide (xa27 = xb27) = t := ⟨_, rfl⟩
    simp only [beq_UCcs, beq_UCns, beq_UCss, ht18, ht21, ht25, ht26, ht27] at hp
    refine wp_region_lit ?_
    refine abs_act ?_
    intro a0 ha0
    have f2 : a0.tmps[2]? = some (.pointer (some ⟨w.heap.size, 0, none⟩)) := by rw [ha0]; rfl
    have f3 : a0.tmps[3]? = some (.pointer (some ⟨w.heap.size + 1, 0, none⟩)) := by rw [ha0]; rfl
    have fsz : a0.tmps.size = 256 := by rw [ha0]; rfl
    have HA0 := h_ ha0
    clear ha0
    refine call_start (I := fun W => Below w2.heap.size w2 W) (hcw) 158 159 191 (.pointer (some ⟨w.heap.size, 0, none⟩)) (.pointer (some ⟨w.heap.size + 1, 0, none⟩)) (.pointer (some ⟨w.heap.size, 18, none⟩)) (.pointer (some ⟨w.heap.size + 1, 18, none⟩)) (.slice oa18 xa18.length pa18) (.slice ob18 xb18.length pb18) t18 (by decide) (by decide) (by rw [fsz]; decide) f2 f3 rfl rfl rfl rfl rfl rfl rfl rfl rfl rfl rfl rfl
     (fun a' W hI h => by obtain ⟨y0, z0⟩ := ev_of h; go_simp) (fun a' W hI h => by have kk := ((rd (heap_below HGA.out hI)).1 18).trans qa18; obtain ⟨y0, z0⟩ := ev_of h; go_simp) (fun a' W hI h => by obtain ⟨y0, z0⟩ := ev_of h; go_simp) (fun a' W hI h => by have kk := ((rd (heap_below HGB.out hI)).1 18).trans qb18; obtain ⟨y0, z0⟩ := ev_of h; go_simp) (fun a' W K hI h1 h2 hK => call_op (by obtain ⟨y0, z0⟩ := ev_of h1; obtain ⟨y1, z1⟩ := ev_of h2; go_simp) (sameInts_any _ _ pa18 pb18 xa18 xb18 W (ra18.fr (M := fun _ => False) (Fr.of_below hI _) (fun _ _ _ e => e)) (rb18.fr (M := fun _ => False) (Fr.of_below hI _) (fun _ _ _ e => e)) la18 lb18 t18 ht18) (by rintro e w' ⟨rfl, n, rfl⟩; exact ⟨by first | rfl | rw [ht18], hK _ (hI.trans (below_dn ⟨_, rfl⟩))⟩)) (fun a' W v h => by obtain ⟨y0, z0⟩ := ev_of h; go_simp) ?_
    intro a1 w1 hI1 K1 c1
    refine call_block6 (I := fun W => Below w2.heap.size w2 W) hI1 164 5 159 191 _ t21 (.pointer (some ⟨w.heap.size, 0, none⟩)) (.pointer (some ⟨w.heap.size + 1, 0, none⟩)) (.pointer (some ⟨w.heap.size, 21, none⟩)) (.pointer (some ⟨w.heap.size + 1, 21, none⟩)) (.slice oa21 xa21.length pa21) (.slice ob21 xb21.length pb21) (by decide) (by decide) (by decide) (by rw [K1.size, fsz]; decide) rfl rfl rfl rfl rfl rfl rfl rfl rfl rfl rfl rfl rfl ((K1.slot 2 (.inl (by decide))).trans f2) ((K1.slot 3 (.inl (by decide))).trans f3) c1
     (fun a' W hI h => by obtain ⟨y0, z0⟩ := ev_of h; go_simp) (fun a' W hI h => by have kk := ((rd (heap_below HGA.out hI)).1 21).trans qa21; obtain ⟨y0, z0⟩ := ev_of h; go_simp) (fun a' W hI h => by obtain ⟨y0, z0⟩ := ev_of h; go_simp) (fun a' W hI h => by have kk := ((rd (heap_below HGB.out hI)).1 21).trans qb21; obtain ⟨y0, z0⟩ := ev_of h; go_simp) (fun a' W K hI h1 h2 hK => call_op (by obtain ⟨y0, z0⟩ := ev_of h1; obtain ⟨y1, z1⟩ := ev_of h2; go_simp) (sameInts_any _ _ pa21 pb21 xa21 xb21 W (ra21.fr (M := fun _ => False) (Fr.of_below hI _) (fun _ _ _ e => e)) (rb21.fr (M := fun _ => False) (Fr.of_below hI _) (fun _ _ _ e => e)) la21 lb21 t21 ht21) (by rintro e w' ⟨rfl, n, rfl⟩; exact ⟨by first | rfl | rw [ht21], hK _ (hI.trans (below_dn ⟨_, rfl⟩))⟩)) (fun a' W c' v h1 h2 => by obtain ⟨y0, z0⟩ := ev_of h1; obtain ⟨y1, z1⟩ := ev_of h2; cases c' <;> go_simp) ?_
    intro b2 w2' hI2 KK2 cc2
    have L2 := K1.trans KK2
    refine l_take (d := 171) rfl (wanted_none rfl) (v := .bool (t18 && t21)) (by obtain ⟨y0, z0⟩ := ev_of cc2; go_simp) ?_
    have K2 := L2.put (.bool (t18 && t21)) (show 159 ≤ 171 by decide) (show 171 ≤ 191 by decide)
    have c2 := put_self (a := b2) (d := 171) (.bool (t18 && t21)) (by rw [L2.size, fsz]; decide)
    refine call_block6 (I := fun W => Below w2.heap.size w2 W) hI2 171 12 159 191 _ t25 (.pointer (some ⟨w.heap.size, 0, none⟩)) (.pointer (some ⟨w.heap.size + 1, 0, none⟩)) (.pointer (some ⟨w.heap.size, 25, none⟩)) (.pointer (some ⟨w.heap.size + 1, 25, none⟩)) (.slice oa25 xa25.length pa25) (.slice ob25 xb25.length pb25) (by decide) (by decide) (by decide) (by rw [K2.size, fsz]; decide) rfl rfl rfl rfl rfl rfl rfl rfl rfl rfl rfl rfl rfl ((K2.slot 2 (.inl (by decide))).trans f2) ((K2.slot 3 (.inl (by decide))).trans f3) c2
     (fun a' W hI h => by obtain ⟨y0, z0⟩ := ev_of h; go_simp) (fun a' W hI h => by have kk := ((rd (heap_below HGA.out hI)).1 25).trans qa25; obtain ⟨y0, z0⟩ := ev_of h; go_simp) (fun a' W hI h => by obtain ⟨y0, z0⟩ := ev_of h; go_simp) (fun a' W hI h => by have kk := ((rd (heap_below HGB.out hI)).1 25).trans qb25; obtain ⟨y0, z0⟩ := ev_of h; go_simp) (fun a' W K hI h1 h2 hK => call_op (by obtain ⟨y0, z0⟩ := ev_of h1; obtain ⟨y1, z1⟩ := ev_of h2; go_simp) (sameInts_any _ _ pa25 pb25 xa25 xb25 W (ra25.fr (M := fun _ => False) (Fr.of_below hI _) (fun _ _ _ e => e)) (rb25.fr (M := fun _ => False) (Fr.of_below hI _) (fun _ _ _ e => e)) la25 lb25 t25 ht25) (by rintro e w' ⟨rfl, n, rfl⟩; exact ⟨by first | rfl | rw [ht25], hK _ (hI.trans (below_dn ⟨_, rfl⟩))⟩)) (fun a' W c' v h1 h2 => by obtain ⟨y0, z0⟩ := ev_of h1; obtain ⟨y1, z1⟩ := ev_of h2; cases c' <;> go_simp) ?_
    intro b3 w3' hI3 KK3 cc3
    have L3 := K2.trans KK3
    refine l_take (d := 178) rfl (wanted_none rfl) (v := .bool (t18 && t21 && t25)) (by obtain ⟨y0, z0⟩ := ev_of cc3; go_simp) ?_
    have K3 := L3.put (.bool (t18 && t21 && t25)) (show 159 ≤ 178 by decide) (show 178 ≤ 191 by decide)
    have c3 := put_self (a := b3) (d := 178) (.bool (t18 && t21 && t25)) (by rw [L3.size, fsz]; decide)
    refine call_block6 (I := fun W => Below w2.heap.size w2 W) hI3 178 19 159 191 _ t26 (.pointer (some ⟨w.heap.size, 0, none⟩)) (.pointer (some ⟨w.heap.size + 1, 0, none⟩)) (.pointer (some ⟨w.heap.size, 26, none⟩)) (.pointer (some ⟨w.heap.size + 1, 26, none⟩)) (.slice oa26 xa26.length pa26) (.slice ob26 xb26.length pb26) (by decide) (by decide) (by decide) (by rw [K3.size, fsz]; decide) rfl rfl rfl rfl rfl rfl rfl rfl rfl rfl rfl rfl rfl ((K3.slot 2 (.inl (by decide))).trans f2) ((K3.slot 3 (.inl (by decide))).trans f3) c3
     (fun a' W hI h => by obtain ⟨y0, z0⟩ := ev_of h; go_simp) (fun a' W hI h => by have kk := ((rd (heap_below HGA.out hI)).1 26).trans qa26; obtain ⟨y0, z0⟩ := ev_of h; go_simp) (fun a' W hI h => by obtain ⟨y0, z0⟩ := ev_of h; go_simp) (fun a' W hI h => by have kk := ((rd (heap_below HGB.out hI)).1 26).trans qb26; obtain ⟨y0, z0⟩ := ev_of h; go_simp) (fun a' W K hI h1 h2 hK => call_op (by obtain ⟨y0, z0⟩ := ev_of h1; obtain ⟨y1, z1⟩ := ev_of h2; go_simp) (sameInts_any _ _ pa26 pb26 xa26 xb26 W (ra26.fr (M := fun _ => False) (Fr.of_below hI _) (fun _ _ _ e => e)) (rb26.fr (M := fun _ => False) (Fr.of_below hI _) (fun _ _ _ e => e)) la26 lb26 t26 ht26) (by rintro e w' ⟨rfl, n, rfl⟩; exact ⟨by first | rfl | rw [ht26], hK _ (hI.trans (below_dn ⟨_, rfl⟩))⟩)) (fun a' W c' v h1 h2 => by obtain ⟨y0, z0⟩ := ev_of h1; obtain ⟨y1, z1⟩ := ev_of h2; cases c' <;> go_simp) ?_
    intro b4 w4' hI4 KK4 cc4
    have L4 := K3.trans KK4
    refine l_take (d := 185) rfl (wanted_none rfl) (v := .bool (t18 && t21 && t25 && t26)) (by obtain ⟨y0, z0⟩ := ev_of cc4; go_simp) ?_
    have K4 := L4.put (.bool (t18 && t21 && t25 && t26)) (show 159 ≤ 185 by decide) (show 185 ≤ 191 by decide)
    have c4 := put_self (a := b4) (d := 185) (.bool (t18 && t21 && t25 && t26)) (by rw [L4.size, fsz]; decide)
    refine call_block6 (I := fun W => Below w2.heap.size w2 W) hI4 185 26 159 191 _ t27 (.pointer (some ⟨w.heap.size, 0, none⟩)) (.pointer (some ⟨w.heap.size + 1, 0, none⟩)) (.pointer (some ⟨w.heap.size, 27, none⟩)) (.pointer (some ⟨w.heap.size + 1, 27, none⟩)) (.slice oa27 xa27.length pa27) (.slice ob27 xb27.length pb27) (by decide) (by decide) (by decide) (by rw [K4.size, fsz]; decide) rfl rfl rfl rfl rfl rfl rfl rfl rfl rfl rfl rfl rfl ((K4.slot 2 (.inl (by decide))).trans f2) ((K4.slot 3 (.inl (by decide))).trans f3) c4
     (fun a' W hI h => by obtain ⟨y0, z0⟩ := ev_of h; go_simp) (fun a' W hI h => by have kk := ((rd (heap_below HGA.out hI)).1 27).trans qa27; obtain ⟨y0, z0⟩ := ev_of h; go_simp) (fun a' W hI h => by obtain ⟨y0, z0⟩ := ev_of h; go_simp) (fun a' W hI h => by have kk := ((rd (heap_below HGB.out hI)).1 27).trans qb27; obtain ⟨y0, z0⟩ := ev_of h; go_simp) (fun a' W K hI h1 h2 hK => call_op (by obtain ⟨y0, z0⟩ := ev_of h1; obtain ⟨y1, z1⟩ := ev_of h2; go_simp) (sameInts_any _ _ pa27 pb27 xa27 xb27 W (ra27.fr (M := fun _ => False) (Fr.of_below hI _) (fun _ _ _ e => e)) (rb27.fr (M := fun _ => False) (Fr.of_below hI _) (fun _ _ _ e => e)) la27 lb27 t27 ht27) (by rintro e w' ⟨rfl, n, rfl⟩; exact ⟨by first | rfl | rw [ht27], hK _ (hI.trans (below_dn ⟨_, rfl⟩))⟩)) (fun a' W c' v h1 h2 => by obtain ⟨y0, z0⟩ := ev_of h1; obtain ⟨y1, z1⟩ := ev_of h2; cases c' <;> go_simp) ?_
    intro b5 w5' hI5 KK5 cc5
    have L5 := K4.trans KK5
    simp only [← Bool.and_assoc] at hp
    rw [hp] at cc5
    refine l_take (d := 7) rfl (wanted_none rfl) (v := .bool ib) (by obtain ⟨y0, z0⟩ := ev_of cc5; go_simp) ?_
    refine wpList_nil ?_
    obtain ⟨us, hus, hform⟩ := L5.form2 fsz (by decide) (by decide) 33 (by decide)
    rw [hform, HA0.out]
    clear HA0 hform KK5 L5 cc5 f2 f3 fsz hp
    clear b5
    obtain ⟨y159, us159, rfl, hus159⟩ := ex_cons hus
    obtain ⟨y160, us160, rfl, hus160⟩ := ex_cons hus159
    obtain ⟨y161, us161, rfl, hus161⟩ := ex_cons hus160
    obtain ⟨y162, us162, rfl, hus162⟩ := ex_cons hus161
    obtain ⟨y163, us163, rfl, hus163⟩ := ex_cons hus162
    obtain ⟨y164, us164, rfl, hus164⟩ := ex_cons hus163
    obtain ⟨y165, us165, rfl, hus165⟩ := ex_cons hus164
    obtain ⟨y166, us166, rfl, hus166⟩ := ex_cons hus165
    obtain ⟨y167, us167, rfl, hus167⟩ := ex_cons hus166
    obtain ⟨y168, us168, rfl, hus168⟩ := ex_cons hus167
    obtain ⟨y169, us169, rfl, hus169⟩ := ex_cons hus168
    obtain ⟨y170, us170, rfl, hus170⟩ := ex_cons hus169
    obtain ⟨y171, us171, rfl, hus171⟩ := ex_cons hus170
    obtain ⟨y172, us172, rfl, hus172⟩ := ex_cons hus171
    obtain ⟨y173, us173, rfl, hus173⟩ := ex_cons hus172
    obtain ⟨y174, us174, rfl, hus174⟩ := ex_cons hus173
    obtain ⟨y175, us175, rfl, hus175⟩ := ex_cons hus174
    obtain ⟨y176, us176, rfl, hus176⟩ := ex_cons hus175
    obtain ⟨y177, us177, rfl, hus177⟩ := ex_cons hus176
    obtain ⟨y178, us178, rfl, hus178⟩ := ex_cons hus177
    obtain ⟨y179, us179, rfl, hus179⟩ := ex_cons hus178
    obtain ⟨y180, us180, rfl, hus180⟩ := ex_cons hus179
    obtain ⟨y181, us181, rfl, hus181⟩ := ex_cons hus180
    obtain ⟨y182, us182, rfl, hus182⟩ := ex_cons hus181
    obtain ⟨y183, us183, rfl, hus183⟩ := ex_cons hus182
    obtain ⟨y184, us184, rfl, hus184⟩ := ex_cons hus183
    obtain ⟨y185, us185, rfl, hus185⟩ := ex_cons hus184
    obtain ⟨y186, us186, rfl, hus186⟩ := ex_cons hus185
    obtain ⟨y187, us187, rfl, hus187⟩ := ex_cons hus186
    obtain ⟨y188, us188, rfl, hus188⟩ := ex_cons hus187
    obtain ⟨y189, us189, rfl, hus189⟩ := ex_cons hus188
    obtain ⟨y190, us190, rfl, hus190⟩ := ex_cons hus189
    obtain ⟨y191, us191, rfl, hus191⟩ := ex_cons hus190
    obtain rfl := List.eq_nil_of_length_eq_zero hus191
    simp only [Act.put, List.take_succ_cons, List.take_zero, List.drop_succ_cons, List.drop_zero, List.cons_append, List.nil_append, List.setIfInBounds_toArray, List.set_cons_zero, List.set_cons_succ, Exit.then]
    refine hK0 _ _ (Met.intro (hJ0 _ _ ?_))
    repeat apply Exists.intro
    exact ⟨⟨rfl, hI5⟩, rfl⟩
   case rest =>
    obtain ⟨rfl, hcw⟩ := hcut
    go_upto_region 4 with fail
    go_cut [8] from 192 to 231 (fun s8 w' => s8 = .bool nb ∧ Below w2.heap.size w2 w')
    case first =>
     rename_i J0 K0 hJ0 hK0
     have hp := HNB.out
     unfold namesU at hp
     obtain ⟨va20, qa20, sa20⟩ := HSA.out.at 20 (by decide)
     obtain ⟨xa20, ea20⟩ := tag_ss (HTA.out 20)
     rw [ea20] at sa20 hp
     obtain ⟨oa20, pa20, rfl, ra20, la20⟩ := sa20
     clear ea20
     obtain ⟨vb20, qb20, sb20⟩ := HSB.out.at 20 (by decide)
     obtain ⟨xb20, eb20⟩ := tag_ss (HTB.out 20)
     rw [eb20] at sb20 hp
     obtain ⟨ob20, pb20, rfl, rb20, lb20⟩ := sb20
     clear eb20
     obtain ⟨t20, ht20⟩ : ∃ t, sameB xa20 xb20 = t := ⟨_, rfl⟩
     obtain ⟨va28, qa28, sa28⟩ := HSA.out.at 28 (by decide)
     obtain ⟨xa28, ea28⟩ := tag_ss (HTA.out 28)
     rw [ea28] at sa28 hp
     obtain ⟨oa28, pa28, rfl, ra28, la28⟩ := sa28
     clear ea28
     obtain ⟨vb28, qb28, sb28⟩ := HSB.out.at 28 (by decide)
     obtain ⟨xb28, eb28⟩ := tag_ss (HTB.out 28)
     rw [eb28] at sb28 hp
     obtain ⟨ob28, pb28, rfl, rb28, lb28⟩ := sb28
     clear eb28
     obtain ⟨t28, ht28⟩ : ∃ t, sameB xa28 xb28 = t := ⟨_, rfl⟩
     obtain ⟨va30, qa30, sa30⟩ := HSA.out.at 30 (by decide)
     obtain ⟨xa30, ea30⟩ := tag_ss (HTA.out 30)
     rw [ea30] at sa30 hp
     obtain ⟨oa30, pa30, rfl, ra30, la30⟩ := sa30
     clear ea30
     obtain ⟨vb30, qb30, sb30⟩ := HSB.out.at 30 (by decide)
     obtain ⟨xb30, eb30⟩ := tag_ss (HTB.out 30)
     rw [eb30] at sb30 hp
     obtain ⟨ob30, pb30, rfl, rb30, lb30⟩ := sb30
     clear eb30
     obtain ⟨t30, ht30⟩ : ∃ t, sameB xa30 xb30 = t := ⟨_, rfl⟩
     obtain ⟨va31, qa31, sa31⟩ := HSA.out.at 31 (by decide)
     obtain ⟨xa31, ea31⟩ := tag_ss (HTA.out 31)
     rw [ea31] at sa31 hp
     obtain ⟨oa31, pa31, rfl, ra31, la31⟩ := sa31
     clear ea31
     obtain ⟨vb31, qb31, sb31⟩ := HSB.out.at 31 (by decide)
     obtain ⟨xb31, eb31⟩ := tag_ss (HTB.out 31)
     rw [eb31] at sb31 hp
     obtain ⟨ob31, pb31, rfl, rb31, lb31⟩ := sb31
     clear eb31
     obtain ⟨t31, ht31⟩ : ∃ t, sameB xa31 xb31 = t := ⟨_, rfl⟩
     obtain ⟨va32, qa32, sa32⟩ := HSA.out.at 32 (by decide)
     obtain ⟨xa32, ea32⟩ := tag_ss (HTA.out 32)
     rw [ea32] at sa32 hp
     obtain ⟨oa32, pa32, rfl, ra32, la32⟩ := sa32
     clear ea32
     obtain ⟨vb32, qb32, sb32⟩ := HSB.out.at 32 (by decide)
     obtain ⟨xb32, eb32⟩ := tag_ss (HTB.out 32)
     rw [eb32] at sb32 hp
     obtain ⟨ob32, pb32, rfl, rb32, lb32⟩ := sb32
     clear eb32
     obtain ⟨t32, ht32⟩ : ∃ t, sameB xa32 xb32 = t := ⟨_, rfl⟩
     obtain ⟨va33, qa33, sa33⟩ := HSA.out.at 33 (by decide)
     obtain ⟨xa33, ea33⟩ := tag_ss (HTA.out 33)
     rw [ea33] at sa33 hp
     obtain ⟨oa33, pa33, rfl, ra33, la33⟩ := sa33
     clear ea33
     obtain ⟨vb33, qb33, sb33⟩ := HSB.out.at 33 (by decide)
     obtain ⟨xb33, eb33⟩ := tag_ss (HTB.out 33)
     rw [eb33] at sb33 hp
     obtain ⟨ob33, pb33, rfl, rb33, lb33⟩ := sb33
     clear eb33
     obtain ⟨t33, ht33⟩ : ∃ t, sameB xa33 xb33 = t := ⟨_, rfl⟩
     simp only [beq_UCcs, beq_UCns, beq_UCss, ht20, ht28, ht30, ht31, ht32, ht33] at hp
     refine wp_region_lit ?_
     refine abs_act ?_
     intro a0 ha0
     have f2 : a0.tmps[2]? = some (.pointer (some ⟨w.heap.size, 0, none⟩)) := by rw [ha0]; rfl
     have f3 : a0.tmps[3]? = some (.pointer (some ⟨w.heap.size + 1, 0, none⟩)) := by rw [ha0]; rfl
     have fsz : a0.tmps.size = 256 := by rw [ha0]; rfl
     have HA0 := h_ ha0
     clear ha0
     refine call_start (I := fun W => Below w2.heap.size w2 W) (hcw) 191 192 231 (.pointer (some ⟨w.heap.size, 0, none⟩)) (.pointer (some ⟨w.heap.size + 1, 0, none⟩)) (.pointer (some ⟨w.heap.size, 20, none⟩)) (.pointer (some ⟨w.heap.size + 1, 20, none⟩)) (.slice oa20 xa20.length pa20) (.slice ob20 xb20.length pb20) t20 (by decide) (by decide) (by rw [fsz]; decide) f2 f3 rfl rfl rfl rfl rfl rfl rfl rfl rfl rfl rfl rfl
      (fun a' W hI h => by obtain ⟨y0, z0⟩ := ev_of h; go_simp) (fun a' W hI h => by have kk := ((rd (heap_below HGA.out hI)).1 20).trans qa20; obtain ⟨y0, z0⟩ := ev_of h; go_simp) (fun a' W hI h => by obtain ⟨y0, z0⟩ := ev_of h; go_simp) (fun a' W hI h => by have kk := ((rd (heap_below HGB.out hI)).1 20).trans qb20; obtain ⟨y0, z0⟩ := ev_of h; go_simp) (fun a' W K hI h1 h2 hK => call_op (by obtain ⟨y0, z0⟩ := ev_of h1; obtain ⟨y1, z1⟩ := ev_of h2; go_simp) (same_any _ _ pa20 pb20 xa20 xb20 W (ra20.below hI) (rb20.below hI) la20 lb20) (by rintro e w' ⟨rfl, n, rfl⟩; exact ⟨by first | rfl | rw [ht20], hK _ (hI.trans (below_dn ⟨_, rfl⟩))⟩)) (fun a' W v h => by obtain ⟨y0, z0⟩ := ev_of h; go_simp) ?_
     intro a1 w1 hI1 K1 c1
     refine call_block6 (I := fun W => Below w2.heap.size w2 W) hI1 197 5 192 231 _ t28 (.pointer (some ⟨w.heap.size, 0, none⟩)) (.pointer (some ⟨w.heap.size + 1, 0, none⟩)) (.pointer (some ⟨w.heap.size, 28, none⟩)) (.pointer (some ⟨w.heap.size + 1, 28, none⟩)) (.slice oa28 xa28.length pa28) (.slice ob28 xb28.length pb28) (by decide) (by decide) (by decide) (by rw [K1.size, fsz]; decide) rfl rfl rfl rfl rfl rfl rfl rfl rfl rfl rfl rfl rfl ((K1.slot 2 (.inl (by decide))).trans f2) ((K1.slot 3 (.inl (by decide))).trans f3) c1
      (fun a' W hI h => by obtain ⟨y0, z0⟩ := ev_of h; go_simp) (fun a' W hI h => by have kk := ((rd (heap_below HGA.out hI)).1 28).trans qa28; obtain ⟨y0, z0⟩ := ev_of h; go_simp) (fun a' W hI h => by obtain ⟨y0, z0⟩ := ev_of h; go_simp) (fun a' W hI h => by have kk := ((rd (heap_below HGB.out hI)).1 28).trans qb28; obtain ⟨y0, z0⟩ := ev_of h; go_simp) (fun a' W K hI h1 h2 hK => call_op (by obtain ⟨y0, z0⟩ := ev_of h1; obtain ⟨y1, z1⟩ := ev_of h2; go_simp) (same_any _ _ pa28 pb28 xa28 xb28 W (ra28.below hI) (rb28.below hI) la28 lb28) (by rintro e w' ⟨rfl, n, rfl⟩; exact ⟨by first | rfl | rw [ht28], hK _ (hI.trans (below_dn ⟨_, rfl⟩))⟩)) (fun a' W c' v h1 h2 => by obtain ⟨y0, z0⟩ := ev_of h1; obtain ⟨y1, z1⟩ := ev_of h2; cases c' <;> go_simp) ?_
     intro b2 w2' hI2 KK2 cc2
     have L2 := K1.trans KK2
     refine l_take (d := 204) rfl (wanted_none rfl) (v := .bool (t20 && t28)) (by obtain ⟨y0, z0⟩ := ev_of cc2; go_simp) ?_
     have K2 := L2.put (.bool (t20 && t28)) (show 192 ≤ 204 by decide) (show 204 ≤ 231 by decide)
     have c2 := put_self (a := b2) (d := 204) (.bool (t20 && t28)) (by rw [L2.size, fsz]; decide)
     refine call_block6 (I := fun W => Below w2.heap.size w2 W) hI2 204 12 192 231 _ t30 (.pointer (some ⟨w.heap.size, 0, none⟩)) (.pointer (some ⟨w.heap.size + 1, 0, none⟩)) (.pointer (some ⟨w.heap.size, 30, none⟩)) (.pointer (some ⟨w.heap.size + 1, 30, none⟩)) (.slice oa30 xa30.length pa30) (.slice ob30 xb30.length pb30) (by decide) (by decide) (by decide) (by rw [K2.size, fsz]; decide) rfl rfl rfl rfl rfl rfl rfl rfl rfl rfl rfl rfl rfl ((K2.slot 2 (.inl (by decide))).trans f2) ((K2.slot 3 (.inl (by decide))).trans f3) c2
      (fun a' W hI h => by obtain ⟨y0, z0⟩ := ev_of h; go_simp) (fun a' W hI h => by have kk := ((rd (heap_below HGA.out hI)).1 30).trans qa30; obtain ⟨y0, z0⟩ := ev_of h; go_simp) (fun a' W hI h => by obtain ⟨y0, z0⟩ := ev_of h; go_simp) (fun a' W hI h => by have kk := ((rd (heap_below HGB.out hI)).1 30).trans qb30; obtain ⟨y0, z0⟩ := ev_of h; go_simp) (fun a' W K hI h1 h2 hK => call_op (by obtain ⟨y0, z0⟩ := ev_of h1; obtain ⟨y1, z1⟩ := ev_of h2; go_simp) (same_any _ _ pa30 pb30 xa30 xb30 W (ra30.below hI) (rb30.below hI) la30 lb30) (by rintro e w' ⟨rfl, n, rfl⟩; exact ⟨by first | rfl | rw [ht30], hK _ (hI.trans (below_dn ⟨_, rfl⟩))⟩)) (fun a' W c' v h1 h2 => by obtain ⟨y0, z0⟩ := ev_of h1; obtain ⟨y1, z1⟩ := ev_of h2; cases c' <;> go_simp) ?_
     intro b3 w3' hI3 KK3 cc3
     have L3 := K2.trans KK3
     refine l_take (d := 211) rfl (wanted_none rfl) (v := .bool (t20 && t28 && t30)) (by obtain ⟨y0, z0⟩ := ev_of cc3; go_simp) ?_
     have K3 := L3.put (.bool (t20 && t28 && t30)) (show 192 ≤ 211 by decide) (show 211 ≤ 231 by decide)
     have c3 := put_self (a := b3) (d := 211) (.bool (t20 && t28 && t30)) (by rw [L3.size, fsz]; decide)
     refine call_block6 (I := fun W => Below w2.heap.size w2 W) hI3 211 19 192 231 _ t31 (.pointer (some ⟨w.heap.size, 0, none⟩)) (.pointer (some ⟨w.heap.size + 1, 0, none⟩)) (.pointer (some ⟨w.heap.size, 31, none⟩)) (.pointer (some ⟨w.heap.size + 1, 31, none⟩)) (.slice oa31 xa31.length pa31) (.slice ob31 xb31.length pb31) (by decide) (by decide) (by decide) (by rw [K3.size, fsz]; decide) rfl rfl rfl rfl rfl rfl rfl rfl rfl rfl rfl rfl rfl ((K3.slot 2 (.inl (by decide))).trans f2) ((K3.slot 3 (.inl (by decide))).trans f3) c3
      (fun a' W hI h => by obtain ⟨y0, z0⟩ := ev_of h; go_simp) (fun a' W hI h => by have kk := ((rd (heap_below HGA.out hI)).1 31).trans qa31; obtain ⟨y0, z0⟩ := ev_of h; go_simp) (fun a' W hI h => by obtain ⟨y0, z0⟩ := ev_of h; go_simp) (fun a' W hI h => by have kk := ((rd (heap_below HGB.out hI)).1 31).trans qb31; obtain ⟨y0, z0⟩ := ev_of h; go_simp) (fun a' W K hI h1 h2 hK => call_op (by obtain ⟨y0, z0⟩ := ev_of h1; obtain ⟨y1, z1⟩ := ev_of h2; go_simp) (same_any _ _ pa31 pb31 xa31 xb31 W (ra31.below hI) (rb31.below hI) la31 lb31) (by rintro e w' ⟨rfl, n, rfl⟩; exact ⟨by first | rfl | rw [ht31], hK _ (hI.trans (below_dn ⟨_, rfl⟩))⟩)) (fun a' W c' v h1 h2 => by obtain ⟨y0, z0⟩ := ev_of h1; obtain ⟨y1, z1⟩ := ev_of h2; cases c' <;> go_simp) ?_
     intro b4 w4' hI4 KK4 cc4
     have L4 := K3.trans KK4
     refine l_take (d := 218) rfl (wanted_none rfl) (v := .bool (t20 && t28 && t30 && t31)) (by obtain ⟨y0, z0⟩ := ev_of cc4; go_simp) ?_
     have K4 := L4.put (.bool (t20 && t28 && t30 && t31)) (show 192 ≤ 218 by decide) (show 218 ≤ 231 by decide)
     have c4 := put_self (a := b4) (d := 218) (.bool (t20 && t28 && t30 && t31)) (by rw [L4.size, fsz]; decide)
     refine call_block6 (I := fun W => Below w2.heap.size w2 W) hI4 218 26 192 231 _ t32 (.pointer (some ⟨w.heap.size, 0, none⟩)) (.pointer (some ⟨w.heap.size + 1, 0, none⟩)) (.pointer (some ⟨w.heap.size, 32, none⟩)) (.pointer (some ⟨w.heap.size + 1, 32, none⟩)) (.slice oa32 xa32.length pa32) (.slice ob32 xb32.length pb32) (by decide) (by decide) (by decide) (by rw [K4.size, fsz]; decide) rfl rfl rfl rfl rfl rfl rfl rfl rfl rfl rfl rfl rfl ((K4.slot 2 (.inl (by decide))).trans f2) ((K4.slot 3 (.inl (by decide))).trans f3) c4
      (fun a' W hI h => by obtain ⟨y0, z0⟩ := ev_of h; go_simp) (fun a' W hI h => by have kk := ((rd (heap_below HGA.out hI)).1 32).trans qa32; obtain ⟨y0, z0⟩ := ev_of h; go_simp) (fun a' W hI h => by obtain ⟨y0, z0⟩ := ev_of h; go_simp) (fun a' W hI h => by have kk := ((rd (heap_below HGB.out hI)).1 32).trans qb32; obtain ⟨y0, z0⟩ := ev_of h; go_simp) (fun a' W K hI h1 h2 hK => call_op (by obtain ⟨y0, z0⟩ := ev_of h1; obtain ⟨y1, z1⟩ := ev_of h2; go_simp) (same_any _ _ pa32 pb32 xa32 xb32 W (ra32.below hI) (rb32.below hI) la32 lb32) (by rintro e w' ⟨rfl, n, rfl⟩; exact ⟨by first | rfl | rw [ht32], hK _ (hI.trans (below_dn ⟨_, rfl⟩))⟩)) (fun a' W c' v h1 h2 => by obtain ⟨y0, z0⟩ := ev_of h1; obtain ⟨y1, z1⟩ := ev_of h2; cases c' <;> go_simp) ?_
     intro b5 w5' hI5 KK5 cc5
     have L5 := K4.trans KK5
     refine l_take (d := 225) rfl (wanted_none rfl) (v := .bool (t20 && t28 && t30 && t31 && t32)) (by obtain ⟨y0, z0⟩ := ev_of cc5; go_simp) ?_
     have K5 := L5.put (.bool (t20 && t28 && t30 && t31 && t32)) (show 192 ≤ 225 by decide) (show 225 ≤ 231 by decide)
     have c5 := put_self (a := b5) (d := 225) (.bool (t20 && t28 && t30 && t31 && t32)) (by rw [L5.size, fsz]; decide)
     refine call_block6 (I := fun W => Below w2.heap.size w2 W) hI5 225 33 192 231 _ t33 (.pointer (some ⟨w.heap.size, 0, none⟩)) (.pointer (some ⟨w.heap.size + 1, 0, none⟩)) (.pointer (some ⟨w.heap.size, 33, none⟩)) (.pointer (some ⟨w.heap.size + 1, 33, none⟩)) (.slice oa33 xa33.length pa33) (.slice ob33 xb33.length pb33) (by decide) (by decide) (by decide) (by rw [K5.size, fsz]; decide) rfl rfl rfl rfl rfl rfl rfl rfl rfl rfl rfl rfl rfl ((K5.slot 2 (.inl (by decide))).trans f2) ((K5.slot 3 (.inl (by decide))).trans f3) c5
      (fun a' W hI h => by obtain ⟨y0, z0⟩ := ev_of h; go_simp) (fun a' W hI h => by have kk := ((rd (heap_below HGA.out hI)).1 33).trans qa33; obtain ⟨y0, z0⟩ := ev_of h; go_simp) (fun a' W hI h => by obtain ⟨y0, z0⟩ := ev_of h; go_simp) (fun a' W hI h => by have kk := ((rd (heap_below HGB.out hI)).1 33).trans qb33; obtain ⟨y0, z0⟩ := ev_of h; go_simp) (fun a' W K hI h1 h2 hK => call_op (by obtain ⟨y0, z0⟩ := ev_of h1; obtain ⟨y1, z1⟩ := ev_of h2; go_simp) (same_any _ _ pa33 pb33 xa33 xb33 W (ra33.below hI) (rb33.below hI) la33 lb33) (by rintro e w' ⟨rfl, n, rfl⟩; exact ⟨by first | rfl | rw [ht33], hK _ (hI.trans (below_dn ⟨_, rfl⟩))⟩)) (fun a' W c' v h1 h2 => by obtain ⟨y0, z0⟩ := ev_of h1; obtain ⟨y1, z1⟩ := ev_of h2; cases c' <;> go_simp) ?_
     intro b6 w6' hI6 KK6 cc6
     have L6 := K5.trans KK6
     simp only [← Bool.and_assoc] at hp
     rw [hp] at cc6
     refine l_take (d := 8) rfl (wanted_none rfl) (v := .bool nb) (by obtain ⟨y0, z0⟩ := ev_of cc6; go_simp) ?_
     refine wpList_nil ?_
     obtain ⟨us, hus, hform⟩ := L6.form2 fsz (by decide) (by decide) 40 (by decide)
     rw [hform, HA0.out]
     clear HA0 hform KK6 L6 cc6 f2 f3 fsz hp
     clear b6
     obtain ⟨y192, us192, rfl, hus192⟩ := ex_cons hus
     obtain ⟨y193, us193, rfl, hus193⟩ := ex_cons hus192
     obtain ⟨y194, us194, rfl, hus194⟩ := ex_cons hus193
     obtain ⟨y195, us195, rfl, hus195⟩ := ex_cons hus194
     obtain ⟨y196, us196, rfl, hus196⟩ := ex_cons hus195
     obtain ⟨y197, us197, rfl, hus197⟩ := ex_cons hus196
     obtain ⟨y198, us198, rfl, hus198⟩ := ex_cons hus197
     obtain ⟨y199, us199, rfl, hus199⟩ := ex_cons hus198
     obtain ⟨y200, us200, rfl, hus200⟩ := ex_cons hus199
     obtain ⟨y201, us201, rfl, hus201⟩ := ex_cons hus200
     obtain ⟨y202, us202, rfl, hus202⟩ := ex_cons hus201
     obtain ⟨y203, us203, rfl, hus203⟩ := ex_cons hus202
     obtain ⟨y204, us204, rfl, hus204⟩ := ex_cons hus203
     obtain ⟨y205, us205, rfl, hus205⟩ := ex_cons hus204
     obtain ⟨y206, us206, rfl, hus206⟩ := ex_cons hus205
     obtain ⟨y207, us207, rfl, hus207⟩ := ex_cons hus206
     obtain ⟨y208, us208, rfl, hus208⟩ := ex_cons hus207
     obtain ⟨y209, us209, rfl, hus209⟩ := ex_cons hus208
     obtain ⟨y210, us210, rfl, hus210⟩ := ex_cons hus209
     obtain ⟨y211, us211, rfl, hus211⟩ := ex_cons hus210
     obtain ⟨y212, us212, rfl, hus212⟩ := ex_cons hus211
     obtain ⟨y213, us213, rfl, hus213⟩ := ex_cons hus212
     obtain ⟨y214, us214, rfl, hus214⟩ := ex_cons hus213
     obtain ⟨y215, us215, rfl, hus215⟩ := ex_cons hus214
     obtain ⟨y216, us216, rfl, hus216⟩ := ex_cons hus215
     obtain ⟨y217, us217, rfl, hus217⟩ := ex_cons hus216
     obtain ⟨y218, us218, rfl, hus218⟩ := ex_cons hus217
     obtain ⟨y219, us219, rfl, hus219⟩ := ex_cons hus218
     obtain ⟨y220, us220, rfl, hus220⟩ := ex_cons hus219
     obtain ⟨y221, us221, rfl, hus221⟩ := ex_cons hus220
     obtain ⟨y222, us222, rfl, hus222⟩ := ex_cons hus221
     obtain ⟨y223, us223, rfl, hus223⟩ := ex_cons hus222
     obtain ⟨y224, us224, rfl, hus224⟩ := ex_cons hus223
     obtain ⟨y225, us225, rfl, hus225⟩ := ex_cons hus224
     obtain ⟨y226, us226, rfl, hus226⟩ := ex_cons hus225
     obtain ⟨y227, us227, rfl, hus227⟩ := ex_cons hus226
     obtain ⟨y228, us228, rfl, hus228⟩ := ex_cons hus227
     obtain ⟨y229, us229, rfl, hus229⟩ := ex_cons hus228
     obtain ⟨y230, us230, rfl, hus230⟩ := ex_cons hus229
     obtain ⟨y231, us231, rfl, hus231⟩ := ex_cons hus230
     obtain rfl := List.eq_nil_of_length_eq_zero hus231
     simp only [Act.put, List.take_succ_cons, List.take_zero, List.drop_succ_cons, List.drop_zero, List.cons_append, List.nil_append, List.setIfInBounds_toArray, List.set_cons_zero, List.set_cons_succ, Exit.then]
     refine hK0 _ _ (Met.intro (hJ0 _ _ ?_))
     repeat apply Exists.intro
     exact ⟨⟨rfl, hI6⟩, rfl⟩
    case rest =>
     obtain ⟨rfl, hcw⟩ := hcut
     go_upto_region 5 with fail
     go_cut [4] from 232 to 255 (fun s4 w' => s4 = .bool r ∧ Below w2.heap.size w2 w')
     case first =>
      rename_i J0 K0 hJ0 hK0
      have hp := HR.out
      obtain ⟨va19, qa19, sa19⟩ := HSA.out.at 19 (by decide)
      obtain ⟨xa19, ea19⟩ := tag_ps (HTA.out 19)
      rw [ea19] at sa19 hp
      obtain ⟨oa19, pa19, rfl, ra19, la19⟩ := sa19
      clear ea19
      obtain ⟨vb19, qb19, sb19⟩ := HSB.out.at 19 (by decide)
      obtain ⟨xb19, eb19⟩ := tag_ps (HTB.out 19)
      rw [eb19] at sb19 hp
      obtain ⟨ob19, pb19, rfl, rb19, lb19⟩ := sb19
      clear eb19
      obtain ⟨t19, ht19⟩ : ∃ t, decide (xa19 = xb19) = t := ⟨_, rfl⟩
      obtain ⟨va4, qa4, sa4⟩ := HSA.out.at 4 (by decide)
      obtain ⟨xa4, ea4⟩ := tag_rs (HTA.out 4)
      rw [ea4] at sa4 hp
      obtain ⟨oa4, pa4, rfl, ra4, la4⟩ := sa4
      clear ea4
      obtain ⟨vb4, qb4, sb4⟩ := HSB.out.at 4 (by decide)
      obtain ⟨xb4, eb4⟩ := tag_rs (HTB.out 4)
      rw [eb4] at sb4 hp
      obtain ⟨ob4, pb4, rfl, rb4, lb4⟩ := sb4
      clear eb4
      obtain ⟨t4, ht4⟩ : ∃ t, decide (xa4 = xb4) = t := ⟨_, rfl⟩
      simp only [beq_UCps, beq_UCrs, ht19, ht4] at hp
      refine wp_region_lit ?_
      refine abs_act ?_
      intro a0 ha0
      have f2 : a0.tmps[2]? = some (.pointer (some ⟨w.heap.size, 0, none⟩)) := by rw [ha0]; rfl
      have f3 : a0.tmps[3]? = some (.pointer (some ⟨w.heap.size + 1, 0, none⟩)) := by rw [ha0]; rfl
      have f5 : a0.tmps[5]? = some (.bool pb) := by rw [ha0]; rfl
      have f6 : a0.tmps[6]? = some (.bool eb) := by rw [ha0]; rfl
      have f7 : a0.tmps[7]? = some (.bool ib) := by rw [ha0]; rfl
      have f8 : a0.tmps[8]? = some (.bool nb) := by rw [ha0]; rfl
      have fsz : a0.tmps.size = 256 := by rw [ha0]; rfl
      have HA0 := h_ ha0
      clear ha0
      refine l_take (d := 232) rfl (wanted_none rfl) (v := .bool pb) (by obtain ⟨y0, z0⟩ := ev_of f5; go_simp) ?_
      have K1 := (Kept.refl 232 255 a0).put (.bool pb) (show 232 ≤ 232 by decide) (show 232 ≤ 255 by decide)
      have c1 := put_self (a := a0) (d := 232) (.bool pb) (by rw [fsz]; decide)
      refine l_take (d := 233) rfl (wanted_none rfl) (v := .bool pb) (by obtain ⟨y0, z0⟩ := ev_of c1; go_simp) ?_
      have K2 := K1.put (.bool pb) (show 232 ≤ 233 by decide) (show 233 ≤ 255 by decide)
      have c2 := put_self (a := a0.put (some 232) (.bool pb)) (d := 233) (.bool pb) (by rw [K1.size, fsz]; decide)
      refine mv_block 233 1 6 232 255 _ eb (by decide) (by decide) (by rw [K2.size, fsz]; decide) rfl rfl rfl rfl rfl rfl rfl ((K2.slot 6 (.inl (by decide))).trans f6) c2 (fun a' h => by obtain ⟨y0, z0⟩ := ev_of h; go_simp) (fun a' c' v h1 h2 => by obtain ⟨y0, z0⟩ := ev_of h1; obtain ⟨y1, z1⟩ := ev_of h2; cases c' <;> go_simp) (fun a' v h => by obtain ⟨y0, z0⟩ := ev_of h; go_simp) ?_
      intro a3 KK3 c3
      have K3 := K2.trans KK3
      refine mv_block 236 4 7 232 255 _ ib (by decide) (by decide) (by rw [K3.size, fsz]; decide) rfl rfl rfl rfl rfl rfl rfl ((K3.slot 7 (.inl (by decide))).trans f7) c3 (fun a' h => by obtain ⟨y0, z0⟩ := ev_of h; go_simp) (fun a' c' v h1 h2 => by obtain ⟨y0, z0⟩ := ev_of h1; obtain ⟨y1, z1⟩ := ev_of h2; cases c' <;> go_simp) (fun a' v h => by obtain ⟨y0, z0⟩ := ev_of h; go_simp) ?_
      intro a4 KK4 c4
      have K4 := K3.trans KK4
      refine mv_block 239 7 8 232 255 _ nb (by decide) (by decide) (by rw [K4.size, fsz]; decide) rfl rfl rfl rfl rfl rfl rfl ((K4.slot 8 (.inl (by decide))).trans f8) c4 (fun a' h => by obtain ⟨y0, z0⟩ := ev_of h; go_simp) (fun a' c' v h1 h2 => by obtain ⟨y0, z0⟩ := ev_of h1; obtain ⟨y1, z1⟩ := ev_of h2; cases c' <;> go_simp) (fun a' v h => by obtain ⟨y0, z0⟩ := ev_of h; go_simp) ?_
      intro a5 KK5 c5
      have K5 := K4.trans KK5
      refine call_block6 (I := fun W => Below w2.heap.size w2 W) hcw 242 10 232 255 _ t19 (.pointer (some ⟨w.heap.size, 0, none⟩)) (.pointer (some ⟨w.heap.size + 1, 0, none⟩)) (.pointer (some ⟨w.heap.size, 19, none⟩)) (.pointer (some ⟨w.heap.size + 1, 19, none⟩)) (.slice oa19 xa19.length pa19) (.slice ob19 xb19.length pb19) (by decide) (by decide) (by decide) (by rw [K5.size, fsz]; decide) rfl rfl rfl rfl rfl rfl rfl rfl rfl rfl rfl rfl rfl ((K5.slot 2 (.inl (by decide))).trans f2) ((K5.slot 3 (.inl (by decide))).trans f3) c5
       (fun a' W hI h => by obtain ⟨y0, z0⟩ := ev_of h; go_simp) (fun a' W hI h => by have kk := ((rd (heap_below HGA.out hI)).1 19).trans qa19; obtain ⟨y0, z0⟩ := ev_of h; go_simp) (fun a' W hI h => by obtain ⟨y0, z0⟩ := ev_of h; go_simp) (fun a' W hI h => by have kk := ((rd (heap_below HGB.out hI)).1 19).trans qb19; obtain ⟨y0, z0⟩ := ev_of h; go_simp) (fun a' W K hI h1 h2 hK => call_op (by obtain ⟨y0, z0⟩ := ev_of h1; obtain ⟨y1, z1⟩ := ev_of h2; go_simp) (samePairs_any _ _ pa19 pb19 xa19 xb19 W (ra19.below hI) (rb19.below hI) la19 lb19 t19 ht19) (by rintro e w' ⟨rfl, n, rfl⟩; exact ⟨rfl, hK _ (hI.trans (below_dn ⟨_, rfl⟩))⟩)) (fun a' W c' v h1 h2 => by obtain ⟨y0, z0⟩ := ev_of h1; obtain ⟨y1, z1⟩ := ev_of h2; cases c' <;> go_simp) ?_
      intro b6 w6' hI6 KK6 cc6
      have L6 := K5.trans KK6
      refine l_take (d := 249) rfl (wanted_none rfl) (v := .bool (pb && eb && ib && nb && t19)) (by obtain ⟨y0, z0⟩ := ev_of cc6; go_simp) ?_
      have K6 := L6.put (.bool (pb && eb && ib && nb && t19)) (show 232 ≤ 249 by decide) (show 249 ≤ 255 by decide)
      have c6 := put_self (a := b6) (d := 249) (.bool (pb && eb && ib && nb && t19)) (by rw [L6.size, fsz]; decide)
      refine call_block6 (I := fun W => Below w2.heap.size w2 W) hI6 249 17 232 255 _ t4 (.pointer (some ⟨w.heap.size, 0, none⟩)) (.pointer (some ⟨w.heap.size + 1, 0, none⟩)) (.pointer (some ⟨w.heap.size, 4, none⟩)) (.pointer (some ⟨w.heap.size + 1, 4, none⟩)) (.slice oa4 xa4.length pa4) (.slice ob4 xb4.length pb4) (by decide) (by decide) (by decide) (by rw [K6.size, fsz]; decide) rfl rfl rfl rfl rfl rfl rfl rfl rfl rfl rfl rfl rfl ((K6.slot 2 (.inl (by decide))).trans f2) ((K6.slot 3 (.inl (by decide))).trans f3) c6
       (fun a' W hI h => by obtain ⟨y0, z0⟩ := ev_of h; go_simp) (fun a' W hI h => by have kk := ((rd (heap_below HGA.out hI)).1 4).trans qa4; obtain ⟨y0, z0⟩ := ev_of h; go_simp) (fun a' W hI h => by obtain ⟨y0, z0⟩ := ev_of h; go_simp) (fun a' W hI h => by have kk := ((rd (heap_below HGB.out hI)).1 4).trans qb4; obtain ⟨y0, z0⟩ := ev_of h; go_simp) (fun a' W K hI h1 h2 hK => call_op (by obtain ⟨y0, z0⟩ := ev_of h1; obtain ⟨y1, z1⟩ := ev_of h2; go_simp) (sameRels_any _ _ pa4 pb4 xa4 xb4 W (ra4.below hI) (rb4.below hI) la4 lb4 t4 ht4) (by rintro e w' ⟨rfl, n, rfl⟩; exact ⟨rfl, hK _ (hI.trans (below_dn ⟨_, rfl⟩))⟩)) (fun a' W c' v h1 h2 => by obtain ⟨y0, z0⟩ := ev_of h1; obtain ⟨y1, z1⟩ := ev_of h2; cases c' <;> go_simp) ?_
      intro b7 w7' hI7 KK7 cc7
      have L7 := K6.trans KK7
      simp only [← Bool.and_assoc] at hp
      rw [hp] at cc7
      refine l_take (d := 4) rfl (wanted_none rfl) (v := .bool r) (by obtain ⟨y0, z0⟩ := ev_of cc7; go_simp) ?_
      refine wpList_nil ?_
      obtain ⟨us, hus, hform⟩ := L7.form2 fsz (by decide) (by decide) 24 (by decide)
      rw [hform, HA0.out]
      clear HA0 hform KK7 L7 cc7 f2 f3 f5 f6 f7 f8 fsz hp
      clear b7
      obtain ⟨y232, us232, rfl, hus232⟩ := ex_cons hus
      obtain ⟨y233, us233, rfl, hus233⟩ := ex_cons hus232
      obtain ⟨y234, us234, rfl, hus234⟩ := ex_cons hus233
      obtain ⟨y235, us235, rfl, hus235⟩ := ex_cons hus234
      obtain ⟨y236, us236, rfl, hus236⟩ := ex_cons hus235
      obtain ⟨y237, us237, rfl, hus237⟩ := ex_cons hus236
      obtain ⟨y238, us238, rfl, hus238⟩ := ex_cons hus237
      obtain ⟨y239, us239, rfl, hus239⟩ := ex_cons hus238
      obtain ⟨y240, us240, rfl, hus240⟩ := ex_cons hus239
      obtain ⟨y241, us241, rfl, hus241⟩ := ex_cons hus240
      obtain ⟨y242, us242, rfl, hus242⟩ := ex_cons hus241
      obtain ⟨y243, us243, rfl, hus243⟩ := ex_cons hus242
      obtain ⟨y244, us244, rfl, hus244⟩ := ex_cons hus243
      obtain ⟨y245, us245, rfl, hus245⟩ := ex_cons hus244
      obtain ⟨y246, us246, rfl, hus246⟩ := ex_cons hus245
      obtain ⟨y247, us247, rfl, hus247⟩ := ex_cons hus246
      obtain ⟨y248, us248, rfl, hus248⟩ := ex_cons hus247
      obtain ⟨y249, us249, rfl, hus249⟩ := ex_cons hus248
      obtain ⟨y250, us250, rfl, hus250⟩ := ex_cons hus249
      obtain ⟨y251, us251, rfl, hus251⟩ := ex_cons hus250
      obtain ⟨y252, us252, rfl, hus252⟩ := ex_cons hus251
      obtain ⟨y253, us253, rfl, hus253⟩ := ex_cons hus252
      obtain ⟨y254, us254, rfl, hus254⟩ := ex_cons hus253
      obtain ⟨y255, us255, rfl, hus255⟩ := ex_cons hus254
      obtain rfl := List.eq_nil_of_length_eq_zero hus255
      simp only [Act.put, List.take_succ_cons, List.take_zero, List.drop_succ_cons, List.drop_zero, List.cons_append, List.nil_append, List.setIfInBounds_toArray, List.set_cons_zero, List.set_cons_succ, Exit.then]
      refine hK0 _ _ (Met.intro (hJ0 _ _ ?_))
      repeat apply Exists.intro
      exact ⟨⟨rfl, hI7⟩, rfl⟩
     case rest =>
      obtain ⟨rfl, hcw⟩ := hcut
      have HC := h_ (Below.more HB.out hcw)
      clear hcw
      go_wp2_with fail
      go_ret
      exact ⟨rfl, HC.out⟩
end Go.Proofs.YtdjkedcpehhmnaaGreatDoor
