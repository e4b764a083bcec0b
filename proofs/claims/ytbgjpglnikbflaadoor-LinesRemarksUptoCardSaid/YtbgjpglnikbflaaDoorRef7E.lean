/-
  The reference's SameLines; the law's same.
-/
import Derived.Test.YtbgjpglnikbflaaDoorRef7A
import Derived.Test.YtbgjpglnikbflaaDoorLinesB
import Derived.Laws.StructEq
namespace Go.Proofs.YtbgjpglnikbflaaDoor
open Go Go.RowKit
set_option linter.unusedVariables false
set_option maxRecDepth 100000

theorem lineFields : (Tryd.prog.fieldsOf 34).toList.map (fun f => (f.name, f.type, f.offset)) = [("Section", 9, 0), ("Key", 9, 1), ("Value", 9, 2), ("At", 3, 3)] := by kernel_rfl
theorem lineStruct : Tryd.prog.underlying 34 = some (.struct (Tryd.prog.fieldsOf 34)) := by kernel_rfl
theorem lineHeld : Tryd.prog.stoodInHeld 34 = false := by kernel_rfl
theorem lineGuard : Tryd.prog.eqGuardType Tryd.prog.depth 34 = false := by kernel_rfl

theorem part_str {P : Program} (w : World) {t : TypeId} (ht : P.underlying t = some .string) {xs : Array Value} {off : Nat} {v : Value} (hx : xs[off]? = some v) : (part t xs off).run P w = .ok v w := by
  simp [part, isAgg, run_underlying ht, hx]
theorem part_int {P : Program} (w : World) {t : TypeId} {k : IntKind} (ht : P.underlying t = some (.int k)) {xs : Array Value} {off : Nat} {v : Value} (hx : xs[off]? = some v) : (part t xs off).run P w = .ok v w := by
  simp [part, isAgg, run_underlying ht, hx]
/-- Equality of two structs, field by field: a string's field. -/
theorem eqF_str {P : Program} (w : World) (d : Nat) {xs ys : Array Value} {f : Field} {fs : List Field} {a b : ByteArray} (hn : f.name ≠ "_") (ht : P.underlying f.type = some .string) (hx : xs[f.offset]? = some (.string a)) (hy : ys[f.offset]? = some (.string b)) (r : Bool) (hr : (a.toList == b.toList) = r) :
    (Op.eqFields (d + 1) xs ys (f :: fs)).run P w = if r = true then (Op.eqFields (d + 1) xs ys fs).run P w else .ok false w := by
  simp only [Op.eqFields, if_pos hn, Sem.run_bind, part_str w ht hx, part_str w ht hy, Result.andThen_ok, run_equalIn_string w d f.type a b ht, hr]
  cases r <;> simp
theorem eqF_int {P : Program} (w : World) (d : Nat) {xs ys : Array Value} {f : Field} {fs : List Field} {k k' : IntKind} {a b : Int} (hn : f.name ≠ "_") (ht : P.underlying f.type = some (.int k')) (hx : xs[f.offset]? = some (.int k a)) (hy : ys[f.offset]? = some (.int k b)) (r : Bool) (hr : (a == b) = r) :
    (Op.eqFields (d + 1) xs ys (f :: fs)).run P w = if r = true then (Op.eqFields (d + 1) xs ys fs).run P w else .ok false w := by
  simp only [Op.eqFields, if_pos hn, Sem.run_bind, part_int w ht hx, part_int w ht hy, Result.andThen_ok, run_equalIn_int w d f.type k k' a b ht, hr]
  cases r <;> simp

theorem str_beq' (a b : Str) : ((⟨a.toArray⟩ : ByteArray).toList == (⟨b.toArray⟩ : ByteArray).toList) = (a == b) := by
  rw [ByteArray.toList_eq, ByteArray.toList_eq]
theorem eqLine (l m : Ln) (w : World) : (Op.equalIn 10000 34 (.agg #[.string ⟨l.sec.toArray⟩, .string ⟨l.key.toArray⟩, .string ⟨l.val.toArray⟩, .int .i64 l.at_]) (.agg #[.string ⟨m.sec.toArray⟩, .string ⟨m.key.toArray⟩, .string ⟨m.val.toArray⟩, .int .i64 m.at_])).run Tryd.prog w = .ok (decide (l = m)) w := by
  rw [run_equalIn_agg _ _ _ _ _ lineStruct lineHeld]
  have hd : decide (l = m) = (l.sec == m.sec && (l.key == m.key && (l.val == m.val && l.at_ == m.at_))) := by
    rw [Bool.eq_iff_iff]
    simp
    constructor
    · rintro rfl; simp
    · rintro ⟨h1, h2, h3, h4⟩; cases l; cases m; simp_all
  generalize hf : (Tryd.prog.fieldsOf 34).toList = fs
  have h0 := lineFields
  rw [hf] at h0
  clear hf
  rcases fs with _ | ⟨f0, _ | ⟨f1, _ | ⟨f2, _ | ⟨f3, _ | ⟨f4, fs⟩⟩⟩⟩⟩
  · simp at h0
  · simp at h0
  · simp at h0
  · simp at h0
  · simp only [List.map_cons, List.map_nil, List.cons.injEq, Prod.mk.injEq, and_true] at h0
    obtain ⟨⟨n0, t0, o0⟩, ⟨n1, t1, o1⟩, ⟨n2, t2, o2⟩, ⟨n3, t3, o3⟩⟩ := h0
    rw [eqF_str w 9998 (by rw [n0]; decide) (by rw [t0]; exact Tryd.underlying9) (by rw [o0]; rfl) (by rw [o0]; rfl) _ (str_beq' _ _),
      eqF_str w 9998 (by rw [n1]; decide) (by rw [t1]; exact Tryd.underlying9) (by rw [o1]; rfl) (by rw [o1]; rfl) _ (str_beq' _ _),
      eqF_str w 9998 (by rw [n2]; decide) (by rw [t2]; exact Tryd.underlying9) (by rw [o2]; rfl) (by rw [o2]; rfl) _ (str_beq' _ _),
      eqF_int w 9998 (by rw [n3]; decide) (by rw [t3]; exact Tryd.underlying3) (by rw [o3]; rfl) (by rw [o3]; rfl) _ rfl, hd]
    cases (l.sec == m.sec) <;> cases (l.key == m.key) <;> cases (l.val == m.val) <;> cases (l.at_ == m.at_) <;> simp [Op.eqFields]
  · simp at h0
theorem run_neq_line (l m : Ln) (b : Bool) (h : decide (l = m) = b) (w : World) : (binOp .neq 34 (.agg #[.string ⟨l.sec.toArray⟩, .string ⟨l.key.toArray⟩, .string ⟨l.val.toArray⟩, .int .i64 l.at_]) (.agg #[.string ⟨m.sec.toArray⟩, .string ⟨m.key.toArray⟩, .string ⟨m.val.toArray⟩, .int .i64 m.at_])).run Tryd.prog w = .ok (.bool (!b)) w := by
  rw [run_neq_struct, eqLine, h]; rfl
theorem guard_line (op : BinOp) (x y : Operand) (xs ys : Array Value) (w : World) : (eqGuard op 34 x y (.agg xs) (.agg ys)).run Tryd.prog w = .ok () w := run_eqGuard_agg w op _ x y xs ys lineGuard

set_option maxHeartbeats 1000000 in
theorem sameLines_any (oa ob : Option Addr) (ca cb : Nat) (l m : List Ln) (w : World) (hl : LnRow w oa l) (hm : LnRow w ob m) (hll : l.length ≤ 100000000) (hml : m.length ≤ 100000000) :
    Calls Tryd.prog 13 #[.slice oa l.length ca, .slice ob m.length cb] w fun e w' => e = .returned (.bool (decide (l = m))) ∧ ∃ n, w' = w.drewN n := by
  by_cases hlen : l.length = m.length
  · have hne : ((l.length : Int) != (m.length : Int)) = false := by simp [hlen]
    have Hlen := Lib.hid hlen; clear hlen
    go_enter Tryd.func13, Tryd.ntmps13
    have HL := Lib.hid hl; clear hl
    have HM := Lib.hid hm; clear hm
    go_wp2_with fail
    go_loopg [13] (l.length + 1) (fun f i wr => ∃ k : Nat, k ≤ l.length ∧ i = .int .i64 k ∧ l.length - k < f ∧ Hid (l.take k = m.take k) ∧ ∃ n, wr = w.drewN n)
    case atStart => exact ⟨0, by omega, rfl, by omega, rfl, 0, rfl⟩
    case round =>
      obtain ⟨k, hk, rfl, hfu, Hq, n, rfl⟩ := hrel
      by_cases hlt : k < l.length
      · have hlt2 : k < m.length := by have := Hlen.out; omega
        obtain ⟨b1, o1, rfl, c0, c1, c2, c3⟩ := HL.out k hlt
        obtain ⟨b2, o2, rfl, d0, d1, d2, d3⟩ := HM.out k hlt2
        cases hb : decide (l[k] = m[k]) with
        | true =>
          have HT := Lib.hid (show l.take (k + 1) = m.take (k + 1) by
            rw [List.take_succ_eq_append_getElem hlt, List.take_succ_eq_append_getElem hlt2, Hq.out, of_decide_eq_true hb])
          have hrun := run_neq_line l[k] m[k] true hb
          have hgd := guard_line
          clear hb
          go_wp2_with fail
          go_quiet (fail)
          go_wp2_with fail
          go_roundg (l.length - k)
          case measure => omega
          case rel => exact ⟨k + 1, by omega, by go_num, by omega, HT, (by first | exact dn0 _ | exact dn_trans (dn _ _) | exact dn _ _)⟩
        | false =>
          have HR := Lib.hid (show decide (l = m) = false by
            rw [decide_eq_false_iff_not]; intro e; subst e; simp at hb)
          have hrun := run_neq_line l[k] m[k] false hb
          have hgd := guard_line
          clear hb
          go_wp2_with fail
          go_quiet (fail)
          go_wp2_with fail
          go_ret
          exact ⟨ret_bool HR.out.symm, (by first | exact dn0 _ | exact dn_trans (dn _ _) | exact dn _ _)⟩
      · have HR := Lib.hid (show decide (l = m) = true by
          have h1 := Hq.out
          rw [List.take_of_length_le (by omega), List.take_of_length_le (by have := Hlen.out; omega)] at h1
          rw [h1]; simp)
        go_wp2_with fail
        go_ret
        exact ⟨ret_bool HR.out.symm, dn _ _⟩
  · have hne : ((l.length : Int) != (m.length : Int)) = true := by simp; omega
    have HR := Lib.hid (show decide (l = m) = false by
      rw [decide_eq_false_iff_not]; intro e; exact hlen (by rw [e]))
    go_enter Tryd.func13, Tryd.ntmps13
    go_wp2_with fail
    go_ret
    exact ⟨ret_bool HR.out.symm, dn0 _⟩

theorem sameLines_b (oa ob : Option Addr) (ca cb : Nat) (l : List Ln) (w : World) (hl : LnRow w oa l) (hm : LnRow w ob l) (hll : l.length ≤ 100000000) :
    Calls Tryd.prog 13 #[.slice oa l.length ca, .slice ob l.length cb] w fun e w' => e = .returned (.bool true) ∧ Below w.heap.size w w' := by
  refine (sameLines_any oa ob ca cb l l w hl hm hll hll).mono ?_
  rintro e w' ⟨rfl, hw⟩
  exact ⟨by simp, below_dn hw⟩
end Go.Proofs.YtbgjpglnikbflaaDoor
