import Derived.Test.YtdjkedcpehhmnaaGreatDoorUS45
import Derived.Test.YtdjkedcpehhmnaaGreatDoorUS46
import Derived.Test.YtdjkedcpehhmnaaGreatDoorUS47
import Derived.Test.YtdjkedcpehhmnaaGreatDoorUS49
namespace Go.Proofs.YtdjkedcpehhmnaaGreatDoor
open Go Go.RowKit
set_option linter.unusedVariables false
set_option linter.unusedSimpArgs false
set_option maxRecDepth 100000
def plU (a b : UV) : Bool := ((a 0 == b 0) && ((a 2 == b 2) && ((a 23 == b 23) && ((a 24 == b 24) && ((a 34 == b 34) && ((a 1 == b 1) && ((a 5 == b 5) && ((a 6 == b 6) && ((a 7 == b 7) && ((a 14 == b 14) && ((a 15 == b 15) && ((a 16 == b 16) && ((a 17 == b 17) && ((a 22 == b 22) && ((a 3 == b 3) && ((a 13 == b 13) && (a 29 == b 29)))))))))))))))))
theorem sameU_left (a b : UV) : sameU a b = ((((((((((((((((((plU a b && (a 4 == b 4)) && (a 19 == b 19)) && (a 8 == b 8)) && (a 9 == b 9)) && (a 10 == b 10)) && (a 11 == b 11)) && (a 12 == b 12)) && (a 18 == b 18)) && (a 21 == b 21)) && (a 25 == b 25)) && (a 26 == b 26)) && (a 27 == b 27)) && (a 20 == b 20)) && (a 28 == b 28)) && (a 30 == b 30)) && (a 31 == b 31)) && (a 32 == b 32)) && (a 33 == b 33)) := by
 unfold sameU plU
 rw [show List.range 35 = [0, 1, 2, 3, 4, 5, 6, 7, 8, 9, 10, 11, 12, 13, 14, 15, 16, 17, 18, 19, 20, 21, 22, 23, 24, 25, 26, 27, 28, 29, 30, 31, 32, 33, 34] from rfl]
 simp only [List.all_cons, List.all_nil, Bool.and_true, Bool.and_assoc]
 ac_rfl
theorem allFrom1 {p : Nat → Oper → Prop} {i : Nat} {o : Oper} {rest : List Oper} (h : p i o) (hr : AllFrom p (i + 1) rest) : AllFrom p i (o :: rest) := ⟨h, hr⟩
theorem not_dst {ops : Array Oper} {k : Nat} (h : (ops.all fun o => !(o.dst == some k)) = true) : ∀ (i : Nat) (o : Oper), ops[i]? = some o → o.dst ≠ some k := fun i o ho e => by
 rw [Array.all_eq_true] at h
 obtain ⟨hi, he⟩ := Array.getElem?_eq_some_iff.1 ho
 have := h i hi
 rw [he, e] at this
 simp at this
theorem exec_eql_pl {a : Act} {W : World} {o : Oper} {x y : Operand} {B : TypeId} {xs ys : Array Value} {r : Bool} (ho : o.op = .binOp .eql 88 x y B) (h1 : a.eval x = .agg xs) (h2 : a.eval y = .agg ys)
  (hr : (binOp .eql 88 (.agg xs) (.agg ys)).run Tryz.prog W = .ok (.bool r) W) : (execOp a.eval o).run Tryz.prog W = .ok (.value (.bool r)) W := by
 simp [execOp, ho, h1, h2, run_guard_pl, hr, Result.andThen]
theorem at_s {w : World} {cs : Array Value} {u : UV} (h : UnitSee w cs u) (j : Nat) (ht : TypedU u) (hj : j < 35 := by decide) (hz : (zeroU j).tag = 0 := by exact rfl) : ∃ x, cs[j]? = some (.string ⟨x.toArray⟩) ∧ u j = .s x := by
 obtain ⟨v, q, s⟩ := h.at j hj
 obtain ⟨x, e⟩ := tag_s ((ht j).trans hz)
 rw [e] at s
 obtain rfl : v = .string ⟨x.toArray⟩ := s
 exact ⟨x, q, e⟩
theorem at_n {w : World} {cs : Array Value} {u : UV} (h : UnitSee w cs u) (j : Nat) (ht : TypedU u) (hj : j < 35 := by decide) (hz : (zeroU j).tag = 1 := by exact rfl) : ∃ x, cs[j]? = some (.int .i64 x) ∧ u j = .n x := by
 obtain ⟨v, q, s⟩ := h.at j hj
 obtain ⟨x, e⟩ := tag_n ((ht j).trans hz)
 rw [e] at s
 obtain rfl : v = .int .i64 x := s
 exact ⟨x, q, e⟩
theorem at_b {w : World} {cs : Array Value} {u : UV} (h : UnitSee w cs u) (j : Nat) (ht : TypedU u) (hj : j < 35 := by decide) (hz : (zeroU j).tag = 2 := by exact rfl) : ∃ x, cs[j]? = some (.bool x) ∧ u j = .b x := by
 obtain ⟨v, q, s⟩ := h.at j hj
 obtain ⟨x, e⟩ := tag_b ((ht j).trans hz)
 rw [e] at s
 obtain rfl : v = .bool x := s
 exact ⟨x, q, e⟩
theorem at_ss {w : World} {cs : Array Value} {u : UV} (h : UnitSee w cs u) (j : Nat) (ht : TypedU u) (hj : j < 35 := by decide) (hz : (zeroU j).tag = 3 := by exact rfl) : ∃ x oa cap, cs[j]? = some (.slice oa (List.length x) cap) ∧ StrRow w oa x ∧ x.length ≤ maxLen ∧ u j = .ss x := by
 obtain ⟨v, q, s⟩ := h.at j hj
 obtain ⟨x, e⟩ := tag_ss ((ht j).trans hz)
 rw [e] at s
 obtain ⟨oa, cap, rfl, r, l⟩ := s
 exact ⟨x, oa, cap, q, r, l, e⟩
theorem at_ns {w : World} {cs : Array Value} {u : UV} (h : UnitSee w cs u) (j : Nat) (ht : TypedU u) (hj : j < 35 := by decide) (hz : (zeroU j).tag = 4 := by exact rfl) : ∃ x oa cap, cs[j]? = some (.slice oa (List.length x) cap) ∧ IntRow w oa x ∧ x.length ≤ maxLen ∧ u j = .ns x := by
 obtain ⟨v, q, s⟩ := h.at j hj
 obtain ⟨x, e⟩ := tag_ns ((ht j).trans hz)
 rw [e] at s
 obtain ⟨oa, cap, rfl, r, l⟩ := s
 exact ⟨x, oa, cap, q, r, l, e⟩
theorem at_rs {w : World} {cs : Array Value} {u : UV} (h : UnitSee w cs u) (j : Nat) (ht : TypedU u) (hj : j < 35 := by decide) (hz : (zeroU j).tag = 5 := by exact rfl) : ∃ x oa cap, cs[j]? = some (.slice oa (List.length x) cap) ∧ RowRd encL 2 w oa x ∧ x.length ≤ maxLen ∧ u j = .rs x := by
 obtain ⟨v, q, s⟩ := h.at j hj
 obtain ⟨x, e⟩ := tag_rs ((ht j).trans hz)
 rw [e] at s
 obtain ⟨oa, cap, rfl, r, l⟩ := s
 exact ⟨x, oa, cap, q, r, l, e⟩
theorem at_ps {w : World} {cs : Array Value} {u : UV} (h : UnitSee w cs u) (j : Nat) (ht : TypedU u) (hj : j < 35 := by decide) (hz : (zeroU j).tag = 7 := by exact rfl) : ∃ x oa cap, cs[j]? = some (.slice oa (List.length x) cap) ∧ RowRd encP 2 w oa x ∧ x.length ≤ maxLen ∧ u j = .ps x := by
 obtain ⟨v, q, s⟩ := h.at j hj
 obtain ⟨x, e⟩ := tag_ps ((ht j).trans hz)
 rw [e] at s
 obtain ⟨oa, cap, rfl, r, l⟩ := s
 exact ⟨x, oa, cap, q, r, l, e⟩
theorem at_cs {w : World} {cs : Array Value} {u : UV} (h : UnitSee w cs u) (j : Nat) (ht : TypedU u) (hj : j < 35 := by decide) (hz : (zeroU j).tag = 6 := by exact rfl) : ∃ x oa cap xs, cs[j]? = some (.slice oa (List.length x) cap) ∧ CsRow w oa xs x ∧ x.length ≤ maxLen ∧ u j = .cs x := by
 obtain ⟨v, q, s⟩ := h.at j hj
 obtain ⟨x, e⟩ := tag_cs ((ht j).trans hz)
 rw [e] at s
 obtain ⟨oa, cap, xs, rfl, r, l⟩ := s
 exact ⟨x, oa, cap, xs, q, r, l, e⟩
set_option maxHeartbeats 16000000 in
theorem unitSame_any (ca cb : Array Value) (a b : UV) (w : World) (hsa : UnitSee w ca a) (hsb : UnitSee w cb b) (ta : TypedU a) (tb : TypedU b) (r : Bool) (hr : sameU a b = r) :
  Calls Tryz.prog 21 #[.agg ca, .agg cb] w fun e w' => e = .returned (.bool r) ∧ Below w.heap.size w w' := by
 rw [sameU_left] at hr
 have hB1 : Below w.heap.size w (w.alloc (.cells ca 30)) := (Below.refl _ _).alloc (Nat.le_refl _) _
 have hz : (w.alloc (.cells ca 30)).heap.size = w.heap.size + 1 := by simp
 have hB2 : Below (w.alloc (.cells ca 30)).heap.size (w.alloc (.cells ca 30)) ((w.alloc (.cells ca 30)).alloc (.cells cb 30)) := (Below.refl _ _).alloc (Nat.le_refl _) _
 have hga := heap_below (heap_alloc_new w (.cells ca 30)) hB2
 have hgb := heap_alloc_new (w.alloc (.cells ca 30)) (.cells cb 30)
 rw [hz] at hgb
 have HB := h_ (Below.more hB1 hB2)
 obtain ⟨w2, hw2⟩ : ∃ w2, w2 = (w.alloc (.cells ca 30)).alloc (.cells cb 30) := ⟨_, rfl⟩
 rw [← hw2] at hga hgb HB
 have HGA := h_ hga; have HGB := h_ hgb; have HW2 := h_ hw2
 have HSA := h_ (hsa.below HB.out); have HSB := h_ (hsb.below HB.out)
 have HTA := h_ ta; have HTB := h_ tb
 have HCA := h_ (show (Tryz.prog.info? 30).map (·.size) = some ca.size by rw [hsa.size]; rfl)
 have HCB := h_ (show (Tryz.prog.info? 30).map (·.size) = some cb.size by rw [hsb.size]; rfl)
 obtain ⟨pb, hpb⟩ : ∃ pb, plU a b = pb := ⟨_, rfl⟩
 rw [hpb] at hr
 have HR := h_ hr
 unfold plU at hpb
 clear hr hB1 hB2 hz hga hgb hsa hsb ta tb hw2
 obtain ⟨xa0, qa0, ea0⟩ := at_s HSA.out 0 HTA.out
 rw [ea0] at hpb
 clear ea0
 obtain ⟨xb0, qb0, eb0⟩ := at_s HSB.out 0 HTB.out
 rw [eb0] at hpb
 clear eb0
 obtain ⟨xa2, qa2, ea2⟩ := at_s HSA.out 2 HTA.out
 rw [ea2] at hpb
 clear ea2
 obtain ⟨xb2, qb2, eb2⟩ := at_s HSB.out 2 HTB.out
 rw [eb2] at hpb
 clear eb2
 obtain ⟨xa23, qa23, ea23⟩ := at_s HSA.out 23 HTA.out
 rw [ea23] at hpb
 clear ea23
 obtain ⟨xb23, qb23, eb23⟩ := at_s HSB.out 23 HTB.out
 rw [eb23] at hpb
 clear eb23
 obtain ⟨xa24, qa24, ea24⟩ := at_s HSA.out 24 HTA.out
 rw [ea24] at hpb
 clear ea24
 obtain ⟨xb24, qb24, eb24⟩ := at_s HSB.out 24 HTB.out
 rw [eb24] at hpb
 clear eb24
 obtain ⟨xa34, qa34, ea34⟩ := at_s HSA.out 34 HTA.out
 rw [ea34] at hpb
 clear ea34
 obtain ⟨xb34, qb34, eb34⟩ := at_s HSB.out 34 HTB.out
 rw [eb34] at hpb
 clear eb34
 obtain ⟨xa1, qa1, ea1⟩ := at_n HSA.out 1 HTA.out
 rw [ea1] at hpb
 clear ea1
 obtain ⟨xb1, qb1, eb1⟩ := at_n HSB.out 1 HTB.out
 rw [eb1] at hpb
 clear eb1
 obtain ⟨xa5, qa5, ea5⟩ := at_n HSA.out 5 HTA.out
 rw [ea5] at hpb
 clear ea5
 obtain ⟨xb5, qb5, eb5⟩ := at_n HSB.out 5 HTB.out
 rw [eb5] at hpb
 clear eb5
 obtain ⟨xa6, qa6, ea6⟩ := at_n HSA.out 6 HTA.out
 rw [ea6] at hpb
 clear ea6
 obtain ⟨xb6, qb6, eb6⟩ := at_n HSB.out 6 HTB.out
 rw [eb6] at hpb
 clear eb6
 obtain ⟨xa7, qa7, ea7⟩ := at_n HSA.out 7 HTA.out
 rw [ea7] at hpb
 clear ea7
 obtain ⟨xb7, qb7, eb7⟩ := at_n HSB.out 7 HTB.out
 rw [eb7] at hpb
 clear eb7
 obtain ⟨xa14, qa14, ea14⟩ := at_n HSA.out 14 HTA.out
 rw [ea14] at hpb
 clear ea14
 obtain ⟨xb14, qb14, eb14⟩ := at_n HSB.out 14 HTB.out
 rw [eb14] at hpb
 clear eb14
 obtain ⟨xa15, qa15, ea15⟩ := at_n HSA.out 15 HTA.out
 rw [ea15] at hpb
 clear ea15
 obtain ⟨xb15, qb15, eb15⟩ := at_n HSB.out 15 HTB.out
 rw [eb15] at hpb
 clear eb15
 obtain ⟨xa16, qa16, ea16⟩ := at_n HSA.out 16 HTA.out
 rw [ea16] at hpb
 clear ea16
 obtain ⟨xb16, qb16, eb16⟩ := at_n HSB.out 16 HTB.out
 rw [eb16] at hpb
 clear eb16
 obtain ⟨xa17, qa17, ea17⟩ := at_n HSA.out 17 HTA.out
 rw [ea17] at hpb
 clear ea17
 obtain ⟨xb17, qb17, eb17⟩ := at_n HSB.out 17 HTB.out
 rw [eb17] at hpb
 clear eb17
 obtain ⟨xa22, qa22, ea22⟩ := at_n HSA.out 22 HTA.out
 rw [ea22] at hpb
 clear ea22
 obtain ⟨xb22, qb22, eb22⟩ := at_n HSB.out 22 HTB.out
 rw [eb22] at hpb
 clear eb22
 obtain ⟨xa3, qa3, ea3⟩ := at_b HSA.out 3 HTA.out
 rw [ea3] at hpb
 clear ea3
 obtain ⟨xb3, qb3, eb3⟩ := at_b HSB.out 3 HTB.out
 rw [eb3] at hpb
 clear eb3
 obtain ⟨xa13, qa13, ea13⟩ := at_b HSA.out 13 HTA.out
 rw [ea13] at hpb
 clear ea13
 obtain ⟨xb13, qb13, eb13⟩ := at_b HSB.out 13 HTB.out
 rw [eb13] at hpb
 clear eb13
 obtain ⟨xa29, qa29, ea29⟩ := at_b HSA.out 29 HTA.out
 rw [ea29] at hpb
 clear ea29
 obtain ⟨xb29, qb29, eb29⟩ := at_b HSB.out 29 HTB.out
 rw [eb29] at hpb
 clear eb29
 simp only [beq_UCs, beq_UCn, beq_UCb] at hpb
 have HPB := h_ hpb
 clear hpb
 have HOFa := h_ (fun W => of_any ca HSA.out.size xa0 xa2 xa23 xa24 xa34 xa1 xa5 xa6 xa7 xa14 xa15 xa16 xa17 xa22 xa3 xa13 xa29 W qa0 qa2 qa23 qa24 qa34 qa1 qa5 qa6 qa7 qa14 qa15 qa16 qa17 qa22 qa3 qa13 qa29)
 have HOFb := h_ (fun W => of_any cb HSB.out.size xb0 xb2 xb23 xb24 xb34 xb1 xb5 xb6 xb7 xb14 xb15 xb16 xb17 xb22 xb3 xb13 xb29 W qb0 qb2 qb23 qb24 qb34 qb1 qb5 qb6 qb7 qb14 qb15 qb16 qb17 qb22 qb3 qb13 qb29)
 clear qa0 qb0 qa2 qb2 qa23 qb23 qa24 qb24 qa34 qb34 qa1 qb1 qa5 qb5 qa6 qb6 qa7 qb7 qa14 qb14 qa15 qb15 qa16 qb16 qa17 qb17 qa22 qb22 qa3 qb3 qa13 qb13 qa29 qb29
 go_enter Tryz.func21, Tryz.ntmps21
 go_upto_region 1 with fail
 rw [← HW2.out]
 clear HW2
 have hp := HR.out
 obtain ⟨xa4, oa4, pa4, qa4, ra4, la4, ea4⟩ := at_rs HSA.out 4 HTA.out
 rw [ea4] at hp
 clear ea4
 obtain ⟨xb4, ob4, pb4, qb4, rb4, lb4, eb4⟩ := at_rs HSB.out 4 HTB.out
 rw [eb4] at hp
 clear eb4
 obtain ⟨t4, ht4⟩ : ∃ t, decide (xa4 = xb4) = t := ⟨_, rfl⟩
 obtain ⟨xa19, oa19, pa19, qa19, ra19, la19, ea19⟩ := at_ps HSA.out 19 HTA.out
 rw [ea19] at hp
 clear ea19
 obtain ⟨xb19, ob19, pb19, qb19, rb19, lb19, eb19⟩ := at_ps HSB.out 19 HTB.out
 rw [eb19] at hp
 clear eb19
 obtain ⟨t19, ht19⟩ : ∃ t, decide (xa19 = xb19) = t := ⟨_, rfl⟩
 obtain ⟨xa8, oa8, pa8, za8, qa8, ra8, la8, ea8⟩ := at_cs HSA.out 8 HTA.out
 rw [ea8] at hp
 clear ea8
 obtain ⟨xb8, ob8, pb8, zb8, qb8, rb8, lb8, eb8⟩ := at_cs HSB.out 8 HTB.out
 rw [eb8] at hp
 clear eb8
 obtain ⟨t8, ht8⟩ : ∃ t, decide (xa8 = xb8) = t := ⟨_, rfl⟩
 obtain ⟨xa9, oa9, pa9, za9, qa9, ra9, la9, ea9⟩ := at_cs HSA.out 9 HTA.out
 rw [ea9] at hp
 clear ea9
 obtain ⟨xb9, ob9, pb9, zb9, qb9, rb9, lb9, eb9⟩ := at_cs HSB.out 9 HTB.out
 rw [eb9] at hp
 clear eb9
 obtain ⟨t9, ht9⟩ : ∃ t, decide (xa9 = xb9) = t := ⟨_, rfl⟩
 obtain ⟨xa10, oa10, pa10, za10, qa10, ra10, la10, ea10⟩ := at_cs HSA.out 10 HTA.out
 rw [ea10] at hp
 clear ea10
 obtain ⟨xb10, ob10, pb10, zb10, qb10, rb10, lb10, eb10⟩ := at_cs HSB.out 10 HTB.out
 rw [eb10] at hp
 clear eb10
 obtain ⟨t10, ht10⟩ : ∃ t, decide (xa10 = xb10) = t := ⟨_, rfl⟩
 obtain ⟨xa11, oa11, pa11, za11, qa11, ra11, la11, ea11⟩ := at_cs HSA.out 11 HTA.out
 rw [ea11] at hp
 clear ea11
 obtain ⟨xb11, ob11, pb11, zb11, qb11, rb11, lb11, eb11⟩ := at_cs HSB.out 11 HTB.out
 rw [eb11] at hp
 clear eb11
 obtain ⟨t11, ht11⟩ : ∃ t, decide (xa11 = xb11) = t := ⟨_, rfl⟩
 obtain ⟨xa12, oa12, pa12, za12, qa12, ra12, la12, ea12⟩ := at_cs HSA.out 12 HTA.out
 rw [ea12] at hp
 clear ea12
 obtain ⟨xb12, ob12, pb12, zb12, qb12, rb12, lb12, eb12⟩ := at_cs HSB.out 12 HTB.out
 rw [eb12] at hp
 clear eb12
 obtain ⟨t12, ht12⟩ : ∃ t, decide (xa12 = xb12) = t := ⟨_, rfl⟩
 obtain ⟨xa18, oa18, pa18, qa18, ra18, la18, ea18⟩ := at_ns HSA.out 18 HTA.out
 rw [ea18] at hp
 clear ea18
 obtain ⟨xb18, ob18, pb18, qb18, rb18, lb18, eb18⟩ := at_ns HSB.out 18 HTB.out
 rw [eb18] at hp
 clear eb18
 obtain ⟨t18, ht18⟩ : ∃ t, decide (xa18 = xb18) = t := ⟨_, rfl⟩
 obtain ⟨xa21, oa21, pa21, qa21, ra21, la21, ea21⟩ := at_ns HSA.out 21 HTA.out
 rw [ea21] at hp
 clear ea21
 obtain ⟨xb21, ob21, pb21, qb21, rb21, lb21, eb21⟩ := at_ns HSB.out 21 HTB.out
 rw [eb21] at hp
 clear eb21
 obtain ⟨t21, ht21⟩ : ∃ t, decide (xa21 = xb21) = t := ⟨_, rfl⟩
 obtain ⟨xa25, oa25, pa25, qa25, ra25, la25, ea25⟩ := at_ns HSA.out 25 HTA.out
 rw [ea25] at hp
 clear ea25
 obtain ⟨xb25, ob25, pb25, qb25, rb25, lb25, eb25⟩ := at_ns HSB.out 25 HTB.out
 rw [eb25] at hp
 clear eb25
 obtain ⟨t25, ht25⟩ : ∃ t, decide (xa25 = xb25) = t := ⟨_, rfl⟩
 obtain ⟨xa26, oa26, pa26, qa26, ra26, la26, ea26⟩ := at_ns HSA.out 26 HTA.out
 rw [ea26] at hp
 clear ea26
 obtain ⟨xb26, ob26, pb26, qb26, rb26, lb26, eb26⟩ := at_ns HSB.out 26 HTB.out
 rw [eb26] at hp
 clear eb26
 obtain ⟨t26, ht26⟩ : ∃ t, decide (xa26 = xb26) = t := ⟨_, rfl⟩
 obtain ⟨xa27, oa27, pa27, qa27, ra27, la27, ea27⟩ := at_ns HSA.out 27 HTA.out
 rw [ea27] at hp
 clear ea27
 obtain ⟨xb27, ob27, pb27, qb27, rb27, lb27, eb27⟩ := at_ns HSB.out 27 HTB.out
 rw [eb27] at hp
 clear eb27
 obtain ⟨t27, ht27⟩ : ∃ t, decide (xa27 = xb27) = t := ⟨_, rfl⟩
 obtain ⟨xa20, oa20, pa20, qa20, ra20, la20, ea20⟩ := at_ss HSA.out 20 HTA.out
 rw [ea20] at hp
 clear ea20
 obtain ⟨xb20, ob20, pb20, qb20, rb20, lb20, eb20⟩ := at_ss HSB.out 20 HTB.out
 rw [eb20] at hp
 clear eb20
 obtain ⟨t20, ht20⟩ : ∃ t, sameB xa20 xb20 = t := ⟨_, rfl⟩
 obtain ⟨xa28, oa28, pa28, qa28, ra28, la28, ea28⟩ := at_ss HSA.out 28 HTA.out
 rw [ea28] at hp
 clear ea28
 obtain ⟨xb28, ob28, pb28, qb28, rb28, lb28, eb28⟩ := at_ss HSB.out 28 HTB.out
 rw [eb28] at hp
 clear eb28
 obtain ⟨t28, ht28⟩ : ∃ t, sameB xa28 xb28 = t := ⟨_, rfl⟩
 obtain ⟨xa30, oa30, pa30, qa30, ra30, la30, ea30⟩ := at_ss HSA.out 30 HTA.out
 rw [ea30] at hp
 clear ea30
 obtain ⟨xb30, ob30, pb30, qb30, rb30, lb30, eb30⟩ := at_ss HSB.out 30 HTB.out
 rw [eb30] at hp
 clear eb30
 obtain ⟨t30, ht30⟩ : ∃ t, sameB xa30 xb30 = t := ⟨_, rfl⟩
 obtain ⟨xa31, oa31, pa31, qa31, ra31, la31, ea31⟩ := at_ss HSA.out 31 HTA.out
 rw [ea31] at hp
 clear ea31
 obtain ⟨xb31, ob31, pb31, qb31, rb31, lb31, eb31⟩ := at_ss HSB.out 31 HTB.out
 rw [eb31] at hp
 clear eb31
 obtain ⟨t31, ht31⟩ : ∃ t, sameB xa31 xb31 = t := ⟨_, rfl⟩
 obtain ⟨xa32, oa32, pa32, qa32, ra32, la32, ea32⟩ := at_ss HSA.out 32 HTA.out
 rw [ea32] at hp
 clear ea32
 obtain ⟨xb32, ob32, pb32, qb32, rb32, lb32, eb32⟩ := at_ss HSB.out 32 HTB.out
 rw [eb32] at hp
 clear eb32
 obtain ⟨t32, ht32⟩ : ∃ t, sameB xa32 xb32 = t := ⟨_, rfl⟩
 obtain ⟨xa33, oa33, pa33, qa33, ra33, la33, ea33⟩ := at_ss HSA.out 33 HTA.out
 rw [ea33] at hp
 clear ea33
 obtain ⟨xb33, ob33, pb33, qb33, rb33, lb33, eb33⟩ := at_ss HSB.out 33 HTB.out
 rw [eb33] at hp
 clear eb33
 obtain ⟨t33, ht33⟩ : ∃ t, sameB xa33 xb33 = t := ⟨_, rfl⟩
 simp only [beq_UCcs, beq_UCns, beq_UCss, beq_UCrs, beq_UCps, ht4, ht19, ht8, ht9, ht10, ht11, ht12, ht18, ht21, ht25, ht26, ht27, ht20, ht28, ht30, ht31, ht32, ht33] at hp
 obtain ⟨q0, hq0⟩ : ∃ q, pb = q := ⟨_, rfl⟩
 rw [hq0] at hp HPB
 obtain ⟨q1, hq1⟩ : ∃ q, (q0 && t4) = q := ⟨_, rfl⟩
 rw [hq1] at hp
 obtain ⟨q2, hq2⟩ : ∃ q, (q1 && t19) = q := ⟨_, rfl⟩
 rw [hq2] at hp
 obtain ⟨q3, hq3⟩ : ∃ q, (q2 && t8) = q := ⟨_, rfl⟩
 rw [hq3] at hp
 obtain ⟨q4, hq4⟩ : ∃ q, (q3 && t9) = q := ⟨_, rfl⟩
 rw [hq4] at hp
 obtain ⟨q5, hq5⟩ : ∃ q, (q4 && t10) = q := ⟨_, rfl⟩
 rw [hq5] at hp
 obtain ⟨q6, hq6⟩ : ∃ q, (q5 && t11) = q := ⟨_, rfl⟩
 rw [hq6] at hp
 obtain ⟨q7, hq7⟩ : ∃ q, (q6 && t12) = q := ⟨_, rfl⟩
 rw [hq7] at hp
 obtain ⟨q8, hq8⟩ : ∃ q, (q7 && t18) = q := ⟨_, rfl⟩
 rw [hq8] at hp
 obtain ⟨q9, hq9⟩ : ∃ q, (q8 && t21) = q := ⟨_, rfl⟩
 rw [hq9] at hp
 obtain ⟨q10, hq10⟩ : ∃ q, (q9 && t25) = q := ⟨_, rfl⟩
 rw [hq10] at hp
 obtain ⟨q11, hq11⟩ : ∃ q, (q10 && t26) = q := ⟨_, rfl⟩
 rw [hq11] at hp
 obtain ⟨q12, hq12⟩ : ∃ q, (q11 && t27) = q := ⟨_, rfl⟩
 rw [hq12] at hp
 obtain ⟨q13, hq13⟩ : ∃ q, (q12 && t20) = q := ⟨_, rfl⟩
 rw [hq13] at hp
 obtain ⟨q14, hq14⟩ : ∃ q, (q13 && t28) = q := ⟨_, rfl⟩
 rw [hq14] at hp
 obtain ⟨q15, hq15⟩ : ∃ q, (q14 && t30) = q := ⟨_, rfl⟩
 rw [hq15] at hp
 obtain ⟨q16, hq16⟩ : ∃ q, (q15 && t31) = q := ⟨_, rfl⟩
 rw [hq16] at hp
 obtain ⟨q17, hq17⟩ : ∃ q, (q16 && t32) = q := ⟨_, rfl⟩
 rw [hq17] at hp
 obtain ⟨q18, hq18⟩ : ∃ q, (q17 && t33) = q := ⟨_, rfl⟩
 rw [hq18] at hp
 let vals : List Value := [.agg ca, .agg #[.string ⟨xa0.toArray⟩, .string ⟨xa2.toArray⟩, .string ⟨xa23.toArray⟩, .string ⟨xa24.toArray⟩, .string ⟨xa34.toArray⟩, .int .i64 xa1, .int .i64 xa5, .int .i64 xa6, .int .i64 xa7, .int .i64 xa14, .int .i64 xa15, .int .i64 xa16, .int .i64 xa17, .int .i64 xa22, .bool xa3, .bool xa13, .bool xa29], .agg cb, .agg #[.string ⟨xb0.toArray⟩, .string ⟨xb2.toArray⟩, .string ⟨xb23.toArray⟩, .string ⟨xb24.toArray⟩, .string ⟨xb34.toArray⟩, .int .i64 xb1, .int .i64 xb5, .int .i64 xb6, .int .i64 xb7, .int .i64 xb14, .int .i64 xb15, .int .i64 xb16, .int .i64 xb17, .int .i64 xb22, .bool xb3, .bool xb13, .bool xb29], .bool q0, .bool q0, if q0 then .pointer (some ⟨w.heap.size, 4, none⟩) else undef, if q0 then .slice oa4 xa4.length pa4 else undef, if q0 then .pointer (some ⟨w.heap.size + 1, 4, none⟩) else undef, if q0 then .slice ob4 xb4.length pb4 else undef, if q0 then .bool t4 else undef, .bool (q0 && t4), .bool (q0 && t4), if q1 then .pointer (some ⟨w.heap.size, 19, none⟩) else undef, if q1 then .slice oa19 xa19.length pa19 else undef, if q1 then .pointer (some ⟨w.heap.size + 1, 19, none⟩) else undef, if q1 then .slice ob19 xb19.length pb19 else undef, if q1 then .bool t19 else undef, .bool (q1 && t19), .bool (q1 && t19), if q2 then .pointer (some ⟨w.heap.size, 8, none⟩) else undef, if q2 then .slice oa8 xa8.length pa8 else undef, if q2 then .pointer (some ⟨w.heap.size + 1, 8, none⟩) else undef, if q2 then .slice ob8 xb8.length pb8 else undef, if q2 then .bool t8 else undef, .bool (q2 && t8), .bool (q2 && t8), if q3 then .pointer (some ⟨w.heap.size, 9, none⟩) else undef, if q3 then .slice oa9 xa9.length pa9 else undef, if q3 then .pointer (some ⟨w.heap.size + 1, 9, none⟩) else undef, if q3 then .slice ob9 xb9.length pb9 else undef, if q3 then .bool t9 else undef, .bool (q3 && t9), .bool (q3 && t9), if q4 then .pointer (some ⟨w.heap.size, 10, none⟩) else undef, if q4 then .slice oa10 xa10.length pa10 else undef, if q4 then .pointer (some ⟨w.heap.size + 1, 10, none⟩) else undef, if q4 then .slice ob10 xb10.length pb10 else undef, if q4 then .bool t10 else undef, .bool (q4 && t10), .bool (q4 && t10), if q5 then .pointer (some ⟨w.heap.size, 11, none⟩) else undef, if q5 then .slice oa11 xa11.length pa11 else undef, if q5 then .pointer (some ⟨w.heap.size + 1, 11, none⟩) else undef, if q5 then .slice ob11 xb11.length pb11 else undef, if q5 then .bool t11 else undef, .bool (q5 && t11), .bool (q5 && t11), if q6 then .pointer (some ⟨w.heap.size, 12, none⟩) else undef, if q6 then .slice oa12 xa12.length pa12 else undef, if q6 then .pointer (some ⟨w.heap.size + 1, 12, none⟩) else undef, if q6 then .slice ob12 xb12.length pb12 else undef, if q6 then .bool t12 else undef, .bool (q6 && t12), .bool (q6 && t12), if q7 then .pointer (some ⟨w.heap.size, 18, none⟩) else undef, if q7 then .slice oa18 xa18.length pa18 else undef, if q7 then .pointer (some ⟨w.heap.size + 1, 18, none⟩) else undef, if q7 then .slice ob18 xb18.length pb18 else undef, if q7 then .bool t18 else undef, .bool (q7 && t18), .bool (q7 && t18), if q8 then .pointer (some ⟨w.heap.size, 21, none⟩) else undef, if q8 then .slice oa21 xa21.length pa21 else undef, if q8 then .pointer (some ⟨w.heap.size + 1, 21, none⟩) else undef, if q8 then .slice ob21 xb21.length pb21 else undef, if q8 then .bool t21 else undef, .bool (q8 && t21), .bool (q8 && t21), if q9 then .pointer (some ⟨w.heap.size, 25, none⟩) else undef, if q9 then .slice oa25 xa25.length pa25 else undef, if q9 then .pointer (some ⟨w.heap.size + 1, 25, none⟩) else undef, if q9 then .slice ob25 xb25.length pb25 else undef, if q9 then .bool t25 else undef, .bool (q9 && t25), .bool (q9 && t25), if q10 then .pointer (some ⟨w.heap.size, 26, none⟩) else undef, if q10 then .slice oa26 xa26.length pa26 else undef, if q10 then .pointer (some ⟨w.heap.size + 1, 26, none⟩) else undef, if q10 then .slice ob26 xb26.length pb26 else undef, if q10 then .bool t26 else undef, .bool (q10 && t26), .bool (q10 && t26), if q11 then .pointer (some ⟨w.heap.size, 27, none⟩) else undef, if q11 then .slice oa27 xa27.length pa27 else undef, if q11 then .pointer (some ⟨w.heap.size + 1, 27, none⟩) else undef, if q11 then .slice ob27 xb27.length pb27 else undef, if q11 then .bool t27 else undef, .bool (q11 && t27), .bool (q11 && t27), if q12 then .pointer (some ⟨w.heap.size, 20, none⟩) else undef, if q12 then .slice oa20 xa20.length pa20 else undef, if q12 then .pointer (some ⟨w.heap.size + 1, 20, none⟩) else undef, if q12 then .slice ob20 xb20.length pb20 else undef, if q12 then .bool t20 else undef, .bool (q12 && t20), .bool (q12 && t20), if q13 then .pointer (some ⟨w.heap.size, 28, none⟩) else undef, if q13 then .slice oa28 xa28.length pa28 else undef, if q13 then .pointer (some ⟨w.heap.size + 1, 28, none⟩) else undef, if q13 then .slice ob28 xb28.length pb28 else undef, if q13 then .bool t28 else undef, .bool (q13 && t28), .bool (q13 && t28), if q14 then .pointer (some ⟨w.heap.size, 30, none⟩) else undef, if q14 then .slice oa30 xa30.length pa30 else undef, if q14 then .pointer (some ⟨w.heap.size + 1, 30, none⟩) else undef, if q14 then .slice ob30 xb30.length pb30 else undef, if q14 then .bool t30 else undef, .bool (q14 && t30), .bool (q14 && t30), if q15 then .pointer (some ⟨w.heap.size, 31, none⟩) else undef, if q15 then .slice oa31 xa31.length pa31 else undef, if q15 then .pointer (some ⟨w.heap.size + 1, 31, none⟩) else undef, if q15 then .slice ob31 xb31.length pb31 else undef, if q15 then .bool t31 else undef, .bool (q15 && t31), .bool (q15 && t31), if q16 then .pointer (some ⟨w.heap.size, 32, none⟩) else undef, if q16 then .slice oa32 xa32.length pa32 else undef, if q16 then .pointer (some ⟨w.heap.size + 1, 32, none⟩) else undef, if q16 then .slice ob32 xb32.length pb32 else undef, if q16 then .bool t32 else undef, .bool (q16 && t32), .bool (q16 && t32), if q17 then .pointer (some ⟨w.heap.size, 33, none⟩) else undef, if q17 then .slice oa33 xa33.length pa33 else undef, if q17 then .pointer (some ⟨w.heap.size + 1, 33, none⟩) else undef, if q17 then .slice ob33 xb33.length pb33 else undef, if q17 then .bool t33 else undef, .bool (q17 && t33), .bool (q17 && t33)]
 refine wp_region_vals (N := 136) (fun a => a.tmps[2]? = some (.pointer (some ⟨w.heap.size, 0, none⟩)) ∧ a.tmps[3]? = some (.pointer (some ⟨w.heap.size + 1, 0, none⟩))) (fun W => Below w2.heap.size w2 W) (fun i => vals.getD i undef) [5, 6, 7, 8, 9, 10, 11, 12, 13, 14, 15, 16, 17, 18, 19, 20, 21, 22, 23, 24, 25, 26, 27, 28, 29, 30, 31, 32, 33, 34, 35, 36, 37, 38, 39, 40, 41, 42, 43, 44, 45, 46, 47, 48, 49, 50, 51, 52, 53, 54, 55, 56, 57, 58, 59, 60, 61, 62, 63, 64, 65, 66, 67, 68, 69, 70, 71, 72, 73, 74, 75, 76, 77, 78, 79, 80, 81, 82, 83, 84, 85, 86, 87, 88, 89, 90, 91, 92, 93, 94, 95, 96, 97, 98, 99, 100, 101, 102, 103, 104, 105, 106, 107, 108, 109, 110, 111, 112, 113, 114, 115, 116, 117, 118, 119, 120, 121, 122, 123, 124, 125, 126, 127, 128, 129, 130, 131, 132, 133, 134, 135, 4] (by kernel_rfl) (by kernel_rfl) rfl (below_dn ⟨1, rfl⟩) (fun a' h => ⟨(h 2 (not_dst (by kernel_rfl))).trans rfl, (h 3 (not_dst (by kernel_rfl))).trans rfl⟩) ?_ ?_
 ·refine ops_all ?_
  simp only [List.append_eq, List.cons_append, List.nil_append]
  refine allFrom1 (stepV_plain rfl fun a W hS hF hs => ?_) ?_
  ·exact oper_load_all 30 (.tmp 2) w.heap.size ca 30 _ rfl (ev_of hF.1).1 (heap_below HGA.out hS) rfl rfl HCA.out ⟨rfl, hS⟩
  refine allFrom1 (stepV_plain rfl fun a W hS hF hs => ?_) ?_
  ·have s5 : a.tmps[5]? = some (.agg ca) := hs 0 _ 5 ⟨⟨0, .data⟩, by simp, rfl, rfl⟩ rfl rfl
   exact call_op (by obtain ⟨y0, z0⟩ := ev_of s5; clear hs hS hF; go_simp) (HOFa.out W) (by rintro e w' ⟨rfl, hb⟩; exact ⟨rfl, rfl, hS.trans (hb.mono hS.size)⟩)
  refine allFrom1 (stepV_plain rfl fun a W hS hF hs => ?_) ?_
  ·exact oper_load_all 30 (.tmp 3) (w.heap.size + 1) cb 30 _ rfl (ev_of hF.2).1 (heap_below HGB.out hS) rfl rfl HCB.out ⟨rfl, hS⟩
  refine allFrom1 (stepV_plain rfl fun a W hS hF hs => ?_) ?_
  ·have s7 : a.tmps[7]? = some (.agg cb) := hs 2 _ 7 ⟨⟨2, .data⟩, by simp, rfl, rfl⟩ rfl rfl
   exact call_op (by obtain ⟨y0, z0⟩ := ev_of s7; clear hs hS hF; go_simp) (HOFb.out W) (by rintro e w' ⟨rfl, hb⟩; exact ⟨rfl, rfl, hS.trans (hb.mono hS.size)⟩)
  refine allFrom1 (stepV_plain rfl fun a W hS hF hs => ?_) ?_
  ·have s6 : a.tmps[6]? = some (.agg #[.string ⟨xa0.toArray⟩, .string ⟨xa2.toArray⟩, .string ⟨xa23.toArray⟩, .string ⟨xa24.toArray⟩, .string ⟨xa34.toArray⟩, .int .i64 xa1, .int .i64 xa5, .int .i64 xa6, .int .i64 xa7, .int .i64 xa14, .int .i64 xa15, .int .i64 xa16, .int .i64 xa17, .int .i64 xa22, .bool xa3, .bool xa13, .bool xa29]) := hs 1 _ 6 ⟨⟨1, .data⟩, by simp, rfl, rfl⟩ rfl rfl
   have s8 : a.tmps[8]? = some (.agg #[.string ⟨xb0.toArray⟩, .string ⟨xb2.toArray⟩, .string ⟨xb23.toArray⟩, .string ⟨xb24.toArray⟩, .string ⟨xb34.toArray⟩, .int .i64 xb1, .int .i64 xb5, .int .i64 xb6, .int .i64 xb7, .int .i64 xb14, .int .i64 xb15, .int .i64 xb16, .int .i64 xb17, .int .i64 xb22, .bool xb3, .bool xb13, .bool xb29]) := hs 3 _ 8 ⟨⟨3, .data⟩, by simp, rfl, rfl⟩ rfl rfl
   have heq := run_eql_pl xa0 xa2 xa23 xa24 xa34 xa1 xa5 xa6 xa7 xa14 xa15 xa16 xa17 xa22 xa3 xa13 xa29 xb0 xb2 xb23 xb24 xb34 xb1 xb5 xb6 xb7 xb14 xb15 xb16 xb17 xb22 xb3 xb13 xb29 W q0 HPB.out
   exact oper_val (.bool q0) (exec_eql_pl rfl (ev_of s6).1 (ev_of s8).1 heq) ⟨rfl, hS⟩
  refine allFrom1 (stepV_plain rfl fun a W hS hF hs => ?_) ?_
  ·have s9 : a.tmps[9]? = some (.bool q0) := hs 4 _ 9 ⟨⟨4, .data⟩, by simp, rfl, rfl⟩ rfl rfl
   exact oper_val (.bool q0) (by obtain ⟨y0, z0⟩ := ev_of s9; clear hs hS hF; go_simp) ⟨rfl, hS⟩
  refine allFrom7 (call_block7 _ 6 5 10 17 q0 t4 (.pointer (some ⟨w.heap.size, 4, none⟩)) (.pointer (some ⟨w.heap.size + 1, 4, none⟩)) (.slice oa4 xa4.length pa4) (.slice ob4 xb4.length pb4) (fun a h => h) (rfl) (fun a' W hI h => by have kk := ((rd (heap_below HGA.out hI)).1 4).trans qa4; obtain ⟨y0, z0⟩ := ev_of h; go_simp) (fun a' W hI h => by have kk := ((rd (heap_below HGB.out hI)).1 4).trans qb4; obtain ⟨y0, z0⟩ := ev_of h; go_simp) (fun a' W K hI h1 h2 hK => call_op (by obtain ⟨y0, z0⟩ := ev_of h1; obtain ⟨y1, z1⟩ := ev_of h2; go_simp) (eqRels_any _ _ pa4 pb4 xa4 xb4 W (ra4.below hI) (rb4.below hI) la4 lb4 t4 ht4) (by rintro e w' ⟨rfl, n, rfl⟩; exact ⟨by first | rfl | rw [ht4], hK _ (hI.trans (below_dn ⟨_, rfl⟩))⟩))) ?_
  refine allFrom7 (call_block7 _ 13 12 17 24 q1 t19 (.pointer (some ⟨w.heap.size, 19, none⟩)) (.pointer (some ⟨w.heap.size + 1, 19, none⟩)) (.slice oa19 xa19.length pa19) (.slice ob19 xb19.length pb19) (fun a h => h) (congrArg Value.bool hq1) (fun a' W hI h => by have kk := ((rd (heap_below HGA.out hI)).1 19).trans qa19; obtain ⟨y0, z0⟩ := ev_of h; go_simp) (fun a' W hI h => by have kk := ((rd (heap_below HGB.out hI)).1 19).trans qb19; obtain ⟨y0, z0⟩ := ev_of h; go_simp) (fun a' W K hI h1 h2 hK => call_op (by obtain ⟨y0, z0⟩ := ev_of h1; obtain ⟨y1, z1⟩ := ev_of h2; go_simp) (eqPairs_any _ _ pa19 pb19 xa19 xb19 W (ra19.below hI) (rb19.below hI) la19 lb19 t19 ht19) (by rintro e w' ⟨rfl, n, rfl⟩; exact ⟨by first | rfl | rw [ht19], hK _ (hI.trans (below_dn ⟨_, rfl⟩))⟩))) ?_
  refine allFrom7 (call_block7 _ 20 19 24 31 q2 t8 (.pointer (some ⟨w.heap.size, 8, none⟩)) (.pointer (some ⟨w.heap.size + 1, 8, none⟩)) (.slice oa8 xa8.length pa8) (.slice ob8 xb8.length pb8) (fun a h => h) (congrArg Value.bool hq2) (fun a' W hI h => by have kk := ((rd (heap_below HGA.out hI)).1 8).trans qa8; obtain ⟨y0, z0⟩ := ev_of h; go_simp) (fun a' W hI h => by have kk := ((rd (heap_below HGB.out hI)).1 8).trans qb8; obtain ⟨y0, z0⟩ := ev_of h; go_simp) (fun a' W K hI h1 h2 hK => call_op (by obtain ⟨y0, z0⟩ := ev_of h1; obtain ⟨y1, z1⟩ := ev_of h2; go_simp) (execs_any _ _ pa8 pb8 _ _ xa8 xb8 W (csBelow hI ra8) (csBelow hI rb8) la8 lb8 t8 ht8) (by rintro e w' ⟨rfl, hb⟩; exact ⟨rfl, hK _ (hI.trans (hb.mono hI.size))⟩))) ?_
  refine allFrom7 (call_block7 _ 27 26 31 38 q3 t9 (.pointer (some ⟨w.heap.size, 9, none⟩)) (.pointer (some ⟨w.heap.size + 1, 9, none⟩)) (.slice oa9 xa9.length pa9) (.slice ob9 xb9.length pb9) (fun a h => h) (congrArg Value.bool hq3) (fun a' W hI h => by have kk := ((rd (heap_below HGA.out hI)).1 9).trans qa9; obtain ⟨y0, z0⟩ := ev_of h; go_simp) (fun a' W hI h => by have kk := ((rd (heap_below HGB.out hI)).1 9).trans qb9; obtain ⟨y0, z0⟩ := ev_of h; go_simp) (fun a' W K hI h1 h2 hK => call_op (by obtain ⟨y0, z0⟩ := ev_of h1; obtain ⟨y1, z1⟩ := ev_of h2; go_simp) (execs_any _ _ pa9 pb9 _ _ xa9 xb9 W (csBelow hI ra9) (csBelow hI rb9) la9 lb9 t9 ht9) (by rintro e w' ⟨rfl, hb⟩; exact ⟨rfl, hK _ (hI.trans (hb.mono hI.size))⟩))) ?_
  refine allFrom7 (call_block7 _ 34 33 38 45 q4 t10 (.pointer (some ⟨w.heap.size, 10, none⟩)) (.pointer (some ⟨w.heap.size + 1, 10, none⟩)) (.slice oa10 xa10.length pa10) (.slice ob10 xb10.length pb10) (fun a h => h) (congrArg Value.bool hq4) (fun a' W hI h => by have kk := ((rd (heap_below HGA.out hI)).1 10).trans qa10; obtain ⟨y0, z0⟩ := ev_of h; go_simp) (fun a' W hI h => by have kk := ((rd (heap_below HGB.out hI)).1 10).trans qb10; obtain ⟨y0, z0⟩ := ev_of h; go_simp) (fun a' W K hI h1 h2 hK => call_op (by obtain ⟨y0, z0⟩ := ev_of h1; obtain ⟨y1, z1⟩ := ev_of h2; go_simp) (execs_any _ _ pa10 pb10 _ _ xa10 xb10 W (csBelow hI ra10) (csBelow hI rb10) la10 lb10 t10 ht10) (by rintro e w' ⟨rfl, hb⟩; exact ⟨rfl, hK _ (hI.trans (hb.mono hI.size))⟩))) ?_
  refine allFrom7 (call_block7 _ 41 40 45 52 q5 t11 (.pointer (some ⟨w.heap.size, 11, none⟩)) (.pointer (some ⟨w.heap.size + 1, 11, none⟩)) (.slice oa11 xa11.length pa11) (.slice ob11 xb11.length pb11) (fun a h => h) (congrArg Value.bool hq5) (fun a' W hI h => by have kk := ((rd (heap_below HGA.out hI)).1 11).trans qa11; obtain ⟨y0, z0⟩ := ev_of h; go_simp) (fun a' W hI h => by have kk := ((rd (heap_below HGB.out hI)).1 11).trans qb11; obtain ⟨y0, z0⟩ := ev_of h; go_simp) (fun a' W K hI h1 h2 hK => call_op (by obtain ⟨y0, z0⟩ := ev_of h1; obtain ⟨y1, z1⟩ := ev_of h2; go_simp) (execs_any _ _ pa11 pb11 _ _ xa11 xb11 W (csBelow hI ra11) (csBelow hI rb11) la11 lb11 t11 ht11) (by rintro e w' ⟨rfl, hb⟩; exact ⟨rfl, hK _ (hI.trans (hb.mono hI.size))⟩))) ?_
  refine allFrom7 (call_block7 _ 48 47 52 59 q6 t12 (.pointer (some ⟨w.heap.size, 12, none⟩)) (.pointer (some ⟨w.heap.size + 1, 12, none⟩)) (.slice oa12 xa12.length pa12) (.slice ob12 xb12.length pb12) (fun a h => h) (congrArg Value.bool hq6) (fun a' W hI h => by have kk := ((rd (heap_below HGA.out hI)).1 12).trans qa12; obtain ⟨y0, z0⟩ := ev_of h; go_simp) (fun a' W hI h => by have kk := ((rd (heap_below HGB.out hI)).1 12).trans qb12; obtain ⟨y0, z0⟩ := ev_of h; go_simp) (fun a' W K hI h1 h2 hK => call_op (by obtain ⟨y0, z0⟩ := ev_of h1; obtain ⟨y1, z1⟩ := ev_of h2; go_simp) (execs_any _ _ pa12 pb12 _ _ xa12 xb12 W (csBelow hI ra12) (csBelow hI rb12) la12 lb12 t12 ht12) (by rintro e w' ⟨rfl, hb⟩; exact ⟨rfl, hK _ (hI.trans (hb.mono hI.size))⟩))) ?_
  refine allFrom7 (call_block7 _ 55 54 59 66 q7 t18 (.pointer (some ⟨w.heap.size, 18, none⟩)) (.pointer (some ⟨w.heap.size + 1, 18, none⟩)) (.slice oa18 xa18.length pa18) (.slice ob18 xb18.length pb18) (fun a h => h) (congrArg Value.bool hq7) (fun a' W hI h => by have kk := ((rd (heap_below HGA.out hI)).1 18).trans qa18; obtain ⟨y0, z0⟩ := ev_of h; go_simp) (fun a' W hI h => by have kk := ((rd (heap_below HGB.out hI)).1 18).trans qb18; obtain ⟨y0, z0⟩ := ev_of h; go_simp) (fun a' W K hI h1 h2 hK => call_op (by obtain ⟨y0, z0⟩ := ev_of h1; obtain ⟨y1, z1⟩ := ev_of h2; go_simp) (eqInts_any _ _ pa18 pb18 xa18 xb18 W (ra18.fr (M := fun _ => False) (Fr.of_below hI _) (fun _ _ _ e => e)) (rb18.fr (M := fun _ => False) (Fr.of_below hI _) (fun _ _ _ e => e)) la18 lb18 t18 ht18) (by rintro e w' ⟨rfl, n, rfl⟩; exact ⟨by first | rfl | rw [ht18], hK _ (hI.trans (below_dn ⟨_, rfl⟩))⟩))) ?_
  refine allFrom7 (call_block7 _ 62 61 66 73 q8 t21 (.pointer (some ⟨w.heap.size, 21, none⟩)) (.pointer (some ⟨w.heap.size + 1, 21, none⟩)) (.slice oa21 xa21.length pa21) (.slice ob21 xb21.length pb21) (fun a h => h) (congrArg Value.bool hq8) (fun a' W hI h => by have kk := ((rd (heap_below HGA.out hI)).1 21).trans qa21; obtain ⟨y0, z0⟩ := ev_of h; go_simp) (fun a' W hI h => by have kk := ((rd (heap_below HGB.out hI)).1 21).trans qb21; obtain ⟨y0, z0⟩ := ev_of h; go_simp) (fun a' W K hI h1 h2 hK => call_op (by obtain ⟨y0, z0⟩ := ev_of h1; obtain ⟨y1, z1⟩ := ev_of h2; go_simp) (eqInts_any _ _ pa21 pb21 xa21 xb21 W (ra21.fr (M := fun _ => False) (Fr.of_below hI _) (fun _ _ _ e => e)) (rb21.fr (M := fun _ => False) (Fr.of_below hI _) (fun _ _ _ e => e)) la21 lb21 t21 ht21) (by rintro e w' ⟨rfl, n, rfl⟩; exact ⟨by first | rfl | rw [ht21], hK _ (hI.trans (below_dn ⟨_, rfl⟩))⟩))) ?_
  refine allFrom7 (call_block7 _ 69 68 73 80 q9 t25 (.pointer (some ⟨w.heap.size, 25, none⟩)) (.pointer (some ⟨w.heap.size + 1, 25, none⟩)) (.slice oa25 xa25.length pa25) (.slice ob25 xb25.length pb25) (fun a h => h) (congrArg Value.bool hq9) (fun a' W hI h => by have kk := ((rd (heap_below HGA.out hI)).1 25).trans qa25; obtain ⟨y0, z0⟩ := ev_of h; go_simp) (fun a' W hI h => by have kk := ((rd (heap_below HGB.out hI)).1 25).trans qb25; obtain ⟨y0, z0⟩ := ev_of h; go_simp) (fun a' W K hI h1 h2 hK => call_op (by obtain ⟨y0, z0⟩ := ev_of h1; obtain ⟨y1, z1⟩ := ev_of h2; go_simp) (eqInts_any _ _ pa25 pb25 xa25 xb25 W (ra25.fr (M := fun _ => False) (Fr.of_below hI _) (fun _ _ _ e => e)) (rb25.fr (M := fun _ => False) (Fr.of_below hI _) (fun _ _ _ e => e)) la25 lb25 t25 ht25) (by rintro e w' ⟨rfl, n, rfl⟩; exact ⟨by first | rfl | rw [ht25], hK _ (hI.trans (below_dn ⟨_, rfl⟩))⟩))) ?_
  refine allFrom7 (call_block7 _ 76 75 80 87 q10 t26 (.pointer (some ⟨w.heap.size, 26, none⟩)) (.pointer (some ⟨w.heap.size + 1, 26, none⟩)) (.slice oa26 xa26.length pa26) (.slice ob26 xb26.length pb26) (fun a h => h) (congrArg Value.bool hq10) (fun a' W hI h => by have kk := ((rd (heap_below HGA.out hI)).1 26).trans qa26; obtain ⟨y0, z0⟩ := ev_of h; go_simp) (fun a' W hI h => by have kk := ((rd (heap_below HGB.out hI)).1 26).trans qb26; obtain ⟨y0, z0⟩ := ev_of h; go_simp) (fun a' W K hI h1 h2 hK => call_op (by obtain ⟨y0, z0⟩ := ev_of h1; obtain ⟨y1, z1⟩ := ev_of h2; go_simp) (eqInts_any _ _ pa26 pb26 xa26 xb26 W (ra26.fr (M := fun _ => False) (Fr.of_below hI _) (fun _ _ _ e => e)) (rb26.fr (M := fun _ => False) (Fr.of_below hI _) (fun _ _ _ e => e)) la26 lb26 t26 ht26) (by rintro e w' ⟨rfl, n, rfl⟩; exact ⟨by first | rfl | rw [ht26], hK _ (hI.trans (below_dn ⟨_, rfl⟩))⟩))) ?_
  refine allFrom7 (call_block7 _ 83 82 87 94 q11 t27 (.pointer (some ⟨w.heap.size, 27, none⟩)) (.pointer (some ⟨w.heap.size + 1, 27, none⟩)) (.slice oa27 xa27.length pa27) (.slice ob27 xb27.length pb27) (fun a h => h) (congrArg Value.bool hq11) (fun a' W hI h => by have kk := ((rd (heap_below HGA.out hI)).1 27).trans qa27; obtain ⟨y0, z0⟩ := ev_of h; go_simp) (fun a' W hI h => by have kk := ((rd (heap_below HGB.out hI)).1 27).trans qb27; obtain ⟨y0, z0⟩ := ev_of h; go_simp) (fun a' W K hI h1 h2 hK => call_op (by obtain ⟨y0, z0⟩ := ev_of h1; obtain ⟨y1, z1⟩ := ev_of h2; go_simp) (eqInts_any _ _ pa27 pb27 xa27 xb27 W (ra27.fr (M := fun _ => False) (Fr.of_below hI _) (fun _ _ _ e => e)) (rb27.fr (M := fun _ => False) (Fr.of_below hI _) (fun _ _ _ e => e)) la27 lb27 t27 ht27) (by rintro e w' ⟨rfl, n, rfl⟩; exact ⟨by first | rfl | rw [ht27], hK _ (hI.trans (below_dn ⟨_, rfl⟩))⟩))) ?_
  refine allFrom7 (call_block7 _ 90 89 94 101 q12 t20 (.pointer (some ⟨w.heap.size, 20, none⟩)) (.pointer (some ⟨w.heap.size + 1, 20, none⟩)) (.slice oa20 xa20.length pa20) (.slice ob20 xb20.length pb20) (fun a h => h) (congrArg Value.bool hq12) (fun a' W hI h => by have kk := ((rd (heap_below HGA.out hI)).1 20).trans qa20; obtain ⟨y0, z0⟩ := ev_of h; go_simp) (fun a' W hI h => by have kk := ((rd (heap_below HGB.out hI)).1 20).trans qb20; obtain ⟨y0, z0⟩ := ev_of h; go_simp) (fun a' W K hI h1 h2 hK => call_op (by obtain ⟨y0, z0⟩ := ev_of h1; obtain ⟨y1, z1⟩ := ev_of h2; go_simp) (eqStrs_any _ _ pa20 pb20 xa20 xb20 W (ra20.below hI) (rb20.below hI) la20 lb20) (by rintro e w' ⟨rfl, n, rfl⟩; exact ⟨by first | rfl | rw [ht20], hK _ (hI.trans (below_dn ⟨_, rfl⟩))⟩))) ?_
  refine allFrom7 (call_block7 _ 97 96 101 108 q13 t28 (.pointer (some ⟨w.heap.size, 28, none⟩)) (.pointer (some ⟨w.heap.size + 1, 28, none⟩)) (.slice oa28 xa28.length pa28) (.slice ob28 xb28.length pb28) (fun a h => h) (congrArg Value.bool hq13) (fun a' W hI h => by have kk := ((rd (heap_below HGA.out hI)).1 28).trans qa28; obtain ⟨y0, z0⟩ := ev_of h; go_simp) (fun a' W hI h => by have kk := ((rd (heap_below HGB.out hI)).1 28).trans qb28; obtain ⟨y0, z0⟩ := ev_of h; go_simp) (fun a' W K hI h1 h2 hK => call_op (by obtain ⟨y0, z0⟩ := ev_of h1; obtain ⟨y1, z1⟩ := ev_of h2; go_simp) (eqStrs_any _ _ pa28 pb28 xa28 xb28 W (ra28.below hI) (rb28.below hI) la28 lb28) (by rintro e w' ⟨rfl, n, rfl⟩; exact ⟨by first | rfl | rw [ht28], hK _ (hI.trans (below_dn ⟨_, rfl⟩))⟩))) ?_
  refine allFrom7 (call_block7 _ 104 103 108 115 q14 t30 (.pointer (some ⟨w.heap.size, 30, none⟩)) (.pointer (some ⟨w.heap.size + 1, 30, none⟩)) (.slice oa30 xa30.length pa30) (.slice ob30 xb30.length pb30) (fun a h => h) (congrArg Value.bool hq14) (fun a' W hI h => by have kk := ((rd (heap_below HGA.out hI)).1 30).trans qa30; obtain ⟨y0, z0⟩ := ev_of h; go_simp) (fun a' W hI h => by have kk := ((rd (heap_below HGB.out hI)).1 30).trans qb30; obtain ⟨y0, z0⟩ := ev_of h; go_simp) (fun a' W K hI h1 h2 hK => call_op (by obtain ⟨y0, z0⟩ := ev_of h1; obtain ⟨y1, z1⟩ := ev_of h2; go_simp) (eqStrs_any _ _ pa30 pb30 xa30 xb30 W (ra30.below hI) (rb30.below hI) la30 lb30) (by rintro e w' ⟨rfl, n, rfl⟩; exact ⟨by first | rfl | rw [ht30], hK _ (hI.trans (below_dn ⟨_, rfl⟩))⟩))) ?_
  refine allFrom7 (call_block7 _ 111 110 115 122 q15 t31 (.pointer (some ⟨w.heap.size, 31, none⟩)) (.pointer (some ⟨w.heap.size + 1, 31, none⟩)) (.slice oa31 xa31.length pa31) (.slice ob31 xb31.length pb31) (fun a h => h) (congrArg Value.bool hq15) (fun a' W hI h => by have kk := ((rd (heap_below HGA.out hI)).1 31).trans qa31; obtain ⟨y0, z0⟩ := ev_of h; go_simp) (fun a' W hI h => by have kk := ((rd (heap_below HGB.out hI)).1 31).trans qb31; obtain ⟨y0, z0⟩ := ev_of h; go_simp) (fun a' W K hI h1 h2 hK => call_op (by obtain ⟨y0, z0⟩ := ev_of h1; obtain ⟨y1, z1⟩ := ev_of h2; go_simp) (eqStrs_any _ _ pa31 pb31 xa31 xb31 W (ra31.below hI) (rb31.below hI) la31 lb31) (by rintro e w' ⟨rfl, n, rfl⟩; exact ⟨by first | rfl | rw [ht31], hK _ (hI.trans (below_dn ⟨_, rfl⟩))⟩))) ?_
  refine allFrom7 (call_block7 _ 118 117 122 129 q16 t32 (.pointer (some ⟨w.heap.size, 32, none⟩)) (.pointer (some ⟨w.heap.size + 1, 32, none⟩)) (.slice oa32 xa32.length pa32) (.slice ob32 xb32.length pb32) (fun a h => h) (congrArg Value.bool hq16) (fun a' W hI h => by have kk := ((rd (heap_below HGA.out hI)).1 32).trans qa32; obtain ⟨y0, z0⟩ := ev_of h; go_simp) (fun a' W hI h => by have kk := ((rd (heap_below HGB.out hI)).1 32).trans qb32; obtain ⟨y0, z0⟩ := ev_of h; go_simp) (fun a' W K hI h1 h2 hK => call_op (by obtain ⟨y0, z0⟩ := ev_of h1; obtain ⟨y1, z1⟩ := ev_of h2; go_simp) (eqStrs_any _ _ pa32 pb32 xa32 xb32 W (ra32.below hI) (rb32.below hI) la32 lb32) (by rintro e w' ⟨rfl, n, rfl⟩; exact ⟨by first | rfl | rw [ht32], hK _ (hI.trans (below_dn ⟨_, rfl⟩))⟩))) ?_
  refine allFrom7 (call_block7 _ 125 124 129 4 q17 t33 (.pointer (some ⟨w.heap.size, 33, none⟩)) (.pointer (some ⟨w.heap.size + 1, 33, none⟩)) (.slice oa33 xa33.length pa33) (.slice ob33 xb33.length pb33) (fun a h => h) (congrArg Value.bool hq17) (fun a' W hI h => by have kk := ((rd (heap_below HGA.out hI)).1 33).trans qa33; obtain ⟨y0, z0⟩ := ev_of h; go_simp) (fun a' W hI h => by have kk := ((rd (heap_below HGB.out hI)).1 33).trans qb33; obtain ⟨y0, z0⟩ := ev_of h; go_simp) (fun a' W K hI h1 h2 hK => call_op (by obtain ⟨y0, z0⟩ := ev_of h1; obtain ⟨y1, z1⟩ := ev_of h2; go_simp) (eqStrs_any _ _ pa33 pb33 xa33 xb33 W (ra33.below hI) (rb33.below hI) la33 lb33) (by rintro e w' ⟨rfl, n, rfl⟩; exact ⟨by first | rfl | rw [ht33], hK _ (hI.trans (below_dn ⟨_, rfl⟩))⟩))) ?_
  exact trivial
 ·intro a W hS hsz hdf _ hall
  have s4 := hall 131 _ 4 rfl rfl
  have s4' : a.tmps[4]? = some (.bool r) := s4.trans (congrArg (fun q => some (Value.bool q)) (hq18.trans hp))
  have hge : a.tmps.getD 4 undef = .bool r := (ev_of s4').2
  have HFF := h_ (Below.more HB.out hS)
  simp only [Exit.then]
  go_wp2_with fail
  refine bodyPost_ret (results_tmp rfl _ _ _) hdf ⟨by rw [hge], HFF.out⟩
end Go.Proofs.YtdjkedcpehhmnaaGreatDoor
