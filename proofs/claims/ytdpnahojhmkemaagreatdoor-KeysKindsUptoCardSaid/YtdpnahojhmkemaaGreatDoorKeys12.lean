/-
  Package keys: Value at words and names; the two lines of shown, plain and walked.
-/
import Derived.Test.YtdpnahojhmkemaaGreatDoorKeys11
namespace Go.Proofs.YtdpnahojhmkemaaGreatDoor
open Go Go.RowKit
set_option linter.unusedVariables false
set_option linter.unusedSimpArgs false
set_option maxRecDepth 100000

/-- right's answer, at names and at words. -/
def rightW (k : KeyS) (v : Str) : Bool := if k.form = 6 then eachB unitB (blanksS v) else k.words.contains v
def valW (v : Str) (k : KeyS) : Int := valE k.form k.list v (rightW k v)
def lnW (kind : Int) (x : Ln) : Int := lineE (valW x.val) kind x.sec x.key

theorem value_w (k : KeyS) (kv : KeyV) (v : Str) (w : World) (hk : KvRd w kv k) (hf : k.form = 6 ∨ k.form = 10) (hw : k.words.length ≤ 4294967296) (hl : v.length < 4294967281) (hM : MaxAt w) :
    Calls Tryz.prog 15 #[.agg (encK kv).toArray, .string ⟨v.toArray⟩] w fun e w' => e = .returned (.int .i64 (valW v k)) ∧ Below w.heap.size w w' := by
  refine value_any kv v w (rightW k v) (fun W hW => ?_) _ (by unfold valW; rw [hk.form, hk.list])
  unfold rightW
  rcases hf with hf | hf
  · rw [if_pos hf]
    exact right_names kv v W (hk.form.trans hf) hl (hM.below hW) _ rfl
  · rw [if_neg (by rw [hf]; decide)]
    exact right_word kv k.words v W (hk.form.trans hf) hk.wl hw (hk.row.below hW) _ rfl

theorem line_w (kind : Int) (x : Ln) (w : World) (hM : MaxAt w) (hf : ∀ k, findKey x.sec x.key = some k → (k.form = 6 ∨ k.form = 10) ∧ k.words.length ≤ 4294967296) (hl : x.val.length < 4294967281) :
    Calls Tryz.prog 38 #[.int .i64 kind, .agg (encLn x).toArray] w fun e w' => e = .returned (.int .i64 (lnW kind x)) ∧ Below w.heap.size w w' :=
  line_any (valW x.val) kind x.sec x.key x.val x.at_ w hM (fun k kv W hk hkv hM2 => value_w k kv x.val W hkv (hf k hk).1 (hf k hk).2 hl hM2) _ rfl

theorem check_w (kind : Int) (l : List Ln) (oa : Option Addr) (cap : Nat) (w : World) (hl : l.length ≤ 4294967296) (hM : MaxAt w) (hr : RowRd encLn 4 w oa l)
    (hf : ∀ x ∈ l, (∀ k, findKey x.sec x.key = some k → (k.form = 6 ∨ k.form = 10) ∧ k.words.length ≤ 4294967296) ∧ x.val.length < 4294967281) (c a : Int) (hc : checkS (lnW kind) l = (c, a)) :
    Calls Tryz.prog 17 #[.int .i64 kind, .slice oa l.length cap] w fun e w' => e = .returned (.agg #[.int .i64 c, .int .i64 a]) ∧ Below w.heap.size w w' :=
  check_any (lnW kind) kind l oa cap w hl hM hr (fun i h W hW => line_w kind l[i] W hW (hf _ (List.getElem_mem h)).1 (hf _ (List.getElem_mem h)).2) c a hc

abbrev vAService : Str := [97, 46, 115, 101, 114, 118, 105, 99, 101]
abbrev vOdd : Str := [111, 100, 100]
def shLines : List Ln := [⟨nUnit, nAfter, vAService, 2⟩, ⟨nService, nType, vOdd, 4⟩]
def keyType : KeyS := ⟨nService, nType, 10, false, 2, [nsimple, noneshot, nnotify]⟩
theorem find_type : findKey nService nType = some keyType := by kernel_rfl
def keyAfter : KeyS := ⟨nUnit, nAfter, 6, true, 30, []⟩
theorem find_after : findKey nUnit nAfter = some keyAfter := by kernel_rfl
theorem val_type : valW nnotify keyType = 0 := by kernel_rfl
theorem check1 : checkS (lnW 1) shLines = (12, 4) := by kernel_rfl
theorem check4 : checkS (lnW 4) shLines = (10, 4) := by kernel_rfl
theorem sh_forms : ∀ x ∈ shLines, (∀ k, findKey x.sec x.key = some k → (k.form = 6 ∨ k.form = 10) ∧ k.words.length ≤ 4294967296) ∧ x.val.length < 4294967281 := by
  intro x hx
  unfold shLines at hx
  rcases List.mem_cons.1 hx with rfl | hx
  · refine ⟨fun k hk => ?_, by decide⟩
    have := find_after.symm.trans hk
    injection this with this
    subst this
    exact ⟨.inl rfl, by decide⟩
  · rcases List.mem_cons.1 hx with rfl | hx
    · refine ⟨fun k hk => ?_, by decide⟩
      have := find_type.symm.trans hk
      injection this with this
      subst this
      exact ⟨.inr rfl, by decide⟩
    · cases hx
end Go.Proofs.YtdpnahojhmkemaaGreatDoor
