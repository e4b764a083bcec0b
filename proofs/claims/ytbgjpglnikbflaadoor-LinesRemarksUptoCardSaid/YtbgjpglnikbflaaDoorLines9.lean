/-
  Package lines: Parse.
-/
import Derived.Test.YtbgjpglnikbflaaDoorLines8
namespace Go.Proofs.YtbgjpglnikbflaaDoor
open Go Go.RowKit
set_option linter.unusedVariables false
set_option maxRecDepth 100000

def faultV (c n : Int) : Value := .agg #[.int .i64 c, .int .i64 n]
/-- What Parse leaves. -/
def OutP (w : World) (res : Except (Nat × Nat) (List Ln)) (e : Ending) (w' : World) : Prop :=
  Below w.heap.size w w' ∧ match res with
  | .error (c, n) => e = .returned (.tuple #[.slice none 0 0, faultV c n])
  | .ok l => ∃ v, e = .returned (.tuple #[v, faultV 0 0]) ∧ w'.ownsRow w.heap.size 34 4 v l.length (lnVals l)

theorem split_rows (s : ByteArray) (w : World) (hs : s.size < 1000000) (hm : MaxAt w) :
    Calls Tryd.prog 20 #[.string s, .string ⟨#[10]⟩] w fun e w' => e = .returned (.slice (some ⟨w.heap.size, 0, none⟩) (rowsS s.data.toList).length (rowsS s.data.toList).length) ∧ w' = w.alloc (.cells (strVals (rowsS s.data.toList)).toArray 9) := by
  obtain ⟨m, hm⟩ := hm
  refine (Tryd.strings_Split s ⟨#[10]⟩ m w (by omega) hm (by decide)).mono ?_
  rintro e w' ⟨rfl, rfl⟩
  rw [splitB_rows, countB_nl, rows_count]
  exact ⟨rfl, rfl⟩

set_option maxHeartbeats 400000 in
theorem parse_long (s : ByteArray) (w : World) (hs : 20000 < s.size) :
    Calls Tryd.prog 11 #[.string s] w fun e w' => OutP w (.error (2, 0)) e w' := by
  have hs' : (20000 : Int) < (s.size : Int) := by omega
  go_enter Tryd.func11, Tryd.ntmps11
  go_wp2_with fail
  refine bodyPost_ret (v := .tuple #[.slice none 0 0, faultV 2 0]) (by simp [results, Tryd.results11, go_sem, faultV]) rfl ⟨(Below.refl _ _).alloc (Nat.le_refl _) _, rfl⟩

/-- The world in which Parse's loop begins. -/
theorem parse_start (w : World) (rows : List Str) (hm : MaxAt w) (hr : rows.length ≤ 1000000) (w2 : World) (hw2 : w2 = ((w.alloc (.cells #[.int .i64 0, .int .i64 0] 26)).alloc (.cells (strVals rows).toArray 9)).alloc
      (.cells #[.slice (some ⟨w.heap.size + 1, 0, none⟩) rows.length rows.length, .int .i64 0, .string ⟨#[]⟩, .slice none 0 0] 42)) :
    LRd (w.heap.size + 1 + 1) rows 0 [] (.slice none 0 0) w2 ∧ Said (w.heap.size + 1 + 1) [] (.slice none 0 0) w2 ∧ w2.heap[w.heap.size]? = some (.cells #[.int .i64 0, .int .i64 0] 26 (0, 0)) ∧ Below w.heap.size w w2 ∧ MaxAt w2 := by
  have hb : Below w.heap.size w w2 := by
    rw [hw2]; exact (((Below.refl _ _).alloc (Nat.le_refl _) _).alloc (by simp) _).alloc (by simp; omega) _
  have h1 : w2.heap[w.heap.size]? = some (.cells #[.int .i64 0, .int .i64 0] 26 (0, 0)) := by
    rw [hw2]; exact heap_alloc (heap_alloc (heap_alloc_new w _) _) _
  have h2 : w2.heap[w.heap.size + 1]? = some (.cells (strVals rows).toArray 9 (0, 0)) := by
    rw [hw2]
    have := heap_alloc_new (w.alloc (.cells #[.int .i64 0, .int .i64 0] 26)) (.cells (strVals rows).toArray 9)
    simp only [World.size_alloc] at this
    exact heap_alloc this _
  have h3 : w2.heap[w.heap.size + 1 + 1]? = some (.cells #[.slice (some ⟨w.heap.size + 1, 0, none⟩) rows.length rows.length, .int .i64 0, .string ⟨#[]⟩, .slice none 0 0] 42 (0, 0)) := by
    rw [hw2]
    have := heap_alloc_new ((w.alloc (.cells #[.int .i64 0, .int .i64 0] 26)).alloc (.cells (strVals rows).toArray 9)) (.cells #[.slice (some ⟨w.heap.size + 1, 0, none⟩) rows.length rows.length, .int .i64 0, .string ⟨#[]⟩, .slice none 0 0] 42)
    simp only [World.size_alloc] at this
    exact this
  refine ⟨⟨_, h3, ⟨some ⟨w.heap.size + 1, 0, none⟩, rows.length, rfl, Nat.le_refl _, hr, ?_, ?_⟩, none, 0, 0, rfl⟩, World.ownsRow_nil _ _ _ _, h1, hb, hm.below hb⟩
  · intro i hi
    refine ⟨w.heap.size + 1, 0, rfl, ?_⟩
    rw [(rd h2).1, Nat.zero_add]
    simp [strVals, hi]
  · intro a e; injection e with e; subst e; show w.heap.size + 1 < _; omega

theorem joinS_num : ∀ (r : List Str) (s : Str) (n : Nat), (joinS s r n).2.2 + (joinS s r n).2.1.length = n + r.length
  | [], s, n => by unfold joinS; split <;> simp
  | x :: r, s, n => by
    unfold joinS
    split
    · split
      · have := joinS_num r s (n + 1); simp; omega
      · have := joinS_num r (s.dropLast ++ [32] ++ x) (n + 1); simp at this ⊢; omega
    · simp
theorem line_at (a : Int) (R : Nat) (rows : List Str) (n : Nat) (sec : Str) (ov : Value) (out : List Ln) (at_ : Nat) (s : Str) (w : World) (ha : a = (at_ : Int)) (hL : LRd R rows n sec ov w) (hS : Said R out ov w) (hm : MaxAt w) (hs : s.length ≤ 1000000) (hout : out.length ≤ 1000000) (hat : at_ ≤ 1000000)
    (says : Says) (hsays : saysS sec s = says) :
    Calls Tryd.prog 24 #[.pointer (some ⟨R, 0, none⟩), .string ⟨s.toArray⟩, .int .i64 a] w fun e w' => OutLn R rows n sec ov out at_ says w e w' := by
  subst ha; exact line_any R rows n sec ov out at_ s w hL hS hm hs hout hat says hsays
theorem ownsRow_mono {w : World} {base base' : Nat} {e : TypeId} {size : Nat} {v : Value} {n : Nat} {xs : List Value} (h : w.ownsRow base e size v n xs) (hB : base' ≤ base) : w.ownsRow base' e size v n xs := by
  refine ⟨h.1, ?_⟩
  rcases h.2 with hn | ⟨g, cap, cur, rfl, hb, rest⟩
  · exact .inl hn
  · exact .inr ⟨g, cap, cur, rfl, by omega, rest⟩
theorem parse_ok {w wr w' : World} {F : Nat} {out : List Ln} {ov : Value} (hF : w.heap.size = F) (hb : Below F w wr) (hS : Said (F + 1 + 1) out ov wr) (hf : Fr (· = F) wr w') : OutP w (.ok out) (.returned (.tuple #[ov, faultV 0 0])) w' := by
  subst hF
  refine ⟨hb.trans (hf.below w.heap.size hb.size (by intro k hk; omega)), ov, rfl, ?_⟩
  have h := hS.fr hf (fun k hk => by omega)
  exact ownsRow_mono h (by omega)
theorem parse_err' {w wr w' : World} {F : Nat} {c n : Nat} {e : Ending} (hF : w.heap.size = F) (hb : Below F w wr) (hf : Fr (· = F) wr w') (he : e = .returned (.tuple #[.slice none 0 0, faultV c n])) : OutP w (.error (c, n)) e w' := by
  subst hF
  exact ⟨hb.trans (hf.below w.heap.size hb.size (by intro k hk; omega)), he⟩

set_option maxHeartbeats 4000000 in
theorem parse_any (s : ByteArray) (w : World) (hm : MaxAt w) (hs : s.size ≤ 20000) (res : Except (Nat × Nat) (List Ln)) (hres : parseR (rowsS s.data.toList) = res) :
    Calls Tryd.prog 11 #[.string s] w fun e w' => OutP w res e w' := by
  have Hres := Lib.hid hres; clear hres
  have hs' : ¬ (20000 : Int) < (s.size : Int) := by omega
  have hsz : s.data.toList.length = s.size := by simp
  have hrl := rowsS_len s.data.toList
  have hrb := rowsS_bulk s.data.toList
  rw [hsz] at hrl hrb
  clear hsz
  have hm1 : MaxAt (w.alloc (.cells #[.int .i64 0, .int .i64 0] 26)) := hm.below ((Below.refl _ _).alloc (Nat.le_refl _) _)
  go_enter Tryd.func11, Tryd.ntmps11
  go_wp2_with (go_at_call 20; refine (split_rows s _ (by omega) hm1).mono ?_; rintro e w' ⟨rfl, rfl⟩)
  generalize hrows : rowsS s.data.toList = rows at *
  have HRows := Lib.hid hrows; clear hrows
  obtain ⟨w2, hw2⟩ : ∃ w2, w2 = ((w.alloc (.cells #[.int .i64 0, .int .i64 0] 26)).alloc (.cells (strVals rows).toArray 9)).alloc
      (.cells #[.slice (some ⟨w.heap.size + 1, 0, none⟩) rows.length rows.length, .int .i64 0, .string ⟨#[]⟩, .slice none 0 0] 42) := ⟨_, rfl⟩
  obtain ⟨hL, hS, hF, hB, hm2⟩ := parse_start w rows hm (by omega) w2 hw2
  rw [← hw2]
  clear hw2 hm hm1
  have HB := Lib.hid hB; clear hB
  have HF := Lib.hid hF; clear hF
  have HM := Lib.hid hm2; clear hm2
  have HS := Lib.hid hS; clear hS
  generalize hFn : w.heap.size = F at *
  have HFn := Lib.hid hFn; clear hFn
  go_loopg [5, 6] (rows.length + 1) (fun f _ _ wr => ∃ (rs : List Str) (m : Nat) (sec : Str) (ov : Value) (out : List Ln), LRd (F + 1 + 1) rs m sec ov wr ∧ Hid (Said (F + 1 + 1) out ov wr) ∧ rs.length < f ∧ bulkR rs ≤ 900000 ∧ m + rs.length ≤ 900000 ∧ out.length ≤ m ∧ Hid (readS (wholes rs m) sec out = res) ∧ Hid (Fr (fun b => F + 1 + 1 ≤ b) w2 wr))
  case atStart => exact ⟨rows, 0, [], .slice none 0 0, [], hL, HS.out, by omega, by omega, by omega, by simp, by rw [← parseR_eq]; exact Hres.out, Fr.refl _ _⟩
  case round =>
    obtain ⟨rs, m, sec, ov, out, hL, HSa, hfu, hbu, hmn, hol, Hq, Hf⟩ := hrel
    have hF1 : wr.heap[F]? = some (.cells #[.int .i64 0, .int .i64 0] 26 (0, 0)) := Hf.out.heap HF.out (by omega)
    have hMr : MaxAt wr := HM.out.fr Hf.out (by omega)
    have hBr : Below F w wr := HB.out.trans (Hf.out.below F (by have := lt_heap HF.out; omega) (by intro k hk; omega))
    have HF1 := Lib.hid hF1
    have HMr := Lib.hid hMr; clear hMr
    have HBr := Lib.hid hBr; clear hBr
    have hFlt := lt_heap hF1
    obtain ⟨fc, ff, fs, -⟩ := rd hF1
    have fc0 : wr.cell? ⟨F, 0, none⟩ = some (.int .i64 0) := by rw [fc]; rfl
    have fc1 : wr.cell? ⟨F, 1, none⟩ = some (.int .i64 0) := by rw [fc]; rfl
    have ff0 := ff 0
    have ff1 := ff 1
    have fs' : wr.shape? F = some (26, 2) := fs
    clear fc ff fs hF1
    obtain ⟨oa, cap, c0, c1, c2, c3, f2, f3, hhead⟩ := hL.rd
    rcases rs with _ | ⟨x, r⟩
    · clear hhead
      simp only [List.length_nil] at c0
      have HR := Lib.hid (show res = .ok out from Hq.out.symm)
      obtain ⟨va, vl, vc, hov⟩ : ∃ oa ln c, ov = .slice oa ln c := by obtain ⟨_, _, _, h⟩ := hL; exact h
      subst hov
      go_wp2_with fail
      refine bodyPost_ret (v := .tuple #[.slice va vl vc, faultV 0 0]) (by simp [results, Tryd.results11, go_sem, faultV, fc0, fc1]) rfl ?_
      rw [HR.out]
      exact parse_ok HFn.out HBr.out HSa.out (Fr.setCell (M := (· = F)) (p := ⟨F, 1, none⟩) (Fr.setCell (M := (· = F)) (p := ⟨F, 0, none⟩) (Fr.refl _ _) (fun _ => rfl) _) (fun _ => rfl) _)
    · obtain ⟨b, o, rfl, hx⟩ := hhead x r rfl
      clear hhead
      simp only [List.length_cons] at hmn hfu c0
      simp only [bulkR] at hbu
      have hxs : (⟨x.toArray⟩ : ByteArray).size ≤ 9223372036854775807 := by show x.length ≤ _; omega
      cases hrem : isRemark x with
      | true =>
        have HR := Lib.hid (show readS (wholes r (m + 1)) sec out = res by rw [← Hq.out, wholes_skip (by rw [hrem]; rfl)])
        have HRem := Lib.hid hrem; clear hrem
        go_wp2_with (go_at_call 21; refine (remark_any _ _ hxs _ HRem.out).mono ?_)
        rintro e w3 ⟨rfl, hb3⟩
        have hL3 := hL.below hb3
        have HS3 := Lib.hid (Said.below HSa.out hb3)
        have HF3 := Lib.hid (Hf.out.trans (Fr.of_below hb3 _))
        clear hb3 c0 c1 c2 c3 f2 f3
        go_wp2_with (go_at_call 23; refine (take_any (F + 1 + 1) x r m sec ov _ hL3 (by omega)).mono ?_)
        rintro e w4 ⟨rfl, hL4, hf4⟩
        have HS4 := Lib.hid (HS3.out.fr hf4 (fun k hk => by omega))
        have HF4 := Lib.hid (HF3.out.trans (hf4.mono (fun i _ (h : i = F + 1 + 1) => by omega)))
        clear hf4
        go_wp2_with fail
        go_roundg (gk - 1)
        case measure => omega
        case rel => exact ⟨r, m + 1, sec, ov, out, hL4, HS4, by omega, by omega, by omega, by omega, HR, HF4⟩
      | false =>
        cases hvo : isVoid x with
        | true =>
          have HR := Lib.hid (show readS (wholes r (m + 1)) sec out = res by rw [← Hq.out, wholes_skip (by rw [hvo, Bool.or_true])])
          have HRem := Lib.hid hrem; clear hrem
          have HVo := Lib.hid (show trimS x = [] by unfold isVoid at hvo; simpa using hvo); clear hvo
          go_wp2_with (go_at_call 21; refine (remark_any _ _ hxs _ HRem.out).mono ?_)
          rintro e w3 ⟨rfl, hb3⟩
          have hL3 := hL.below hb3
          have HS3 := Lib.hid (Said.below HSa.out hb3)
          have HF3 := Lib.hid (Hf.out.trans (Fr.of_below hb3 (fun b => F + 1 + 1 ≤ b)))
          clear hb3 c0 c1 c2 c3 f2 f3 hL
          obtain ⟨oa3, cap3, c0, c1, c2, c3, f2, f3, hhead⟩ := hL3.rd
          obtain ⟨b3, o3, rfl, hx3⟩ := hhead x r rfl
          clear hhead
          simp only [List.length_cons] at c0
          go_wp2_with (go_at_call 22; refine (trim_any _ _ hxs _ HVo.out).mono ?_)
          rintro e w5 ⟨rfl, hb5⟩
          have hL5 := hL3.below hb5
          have HS5 := Lib.hid (Said.below HS3.out hb5)
          have HF5 := Lib.hid (HF3.out.trans (Fr.of_below hb5 _))
          clear hb5 c0 c1 c2 c3 f2 f3
          go_wp2_with (go_at_call 23; refine (take_any (F + 1 + 1) x r m sec ov _ hL5 (by omega)).mono ?_)
          rintro e w4 ⟨rfl, hL4, hf4⟩
          have HS4 := Lib.hid (HS5.out.fr hf4 (fun k hk => by omega))
          have HF4 := Lib.hid (HF5.out.trans (hf4.mono (fun i _ (h : i = F + 1 + 1) => by omega)))
          clear hf4
          go_wp2_with fail
          go_roundg (gk - 1)
          case measure => omega
          case rel => exact ⟨r, m + 1, sec, ov, out, hL4, HS4, by omega, by omega, by omega, by omega, HR, HF4⟩
        | false =>
          have hj1 := joinS_len r x (m + 1)
          have hj2 := joinS_bulk r x (m + 1)
          have hj3 := joinS_num r x (m + 1)
          have hwl := wholes_line (x := x) (r := r) (n := m) (by rw [hrem, hvo]; rfl)
          have hq := Hq.out
          rw [hwl] at hq
          clear hwl Hq
          obtain ⟨J, hJ⟩ : ∃ J, joinS x r (m + 1) = J := ⟨_, rfl⟩
          rw [hJ] at hj1 hj2 hj3 hq
          obtain ⟨t, rs', m'⟩ := J
          simp only at hj1 hj2 hj3 hq
          have HJ := Lib.hid hJ; clear hJ
          have HRem := Lib.hid hrem; clear hrem
          obtain ⟨tx, htx⟩ : ∃ tx, trimS x = tx := ⟨_, rfl⟩
          obtain ⟨y, hy⟩ : ∃ y : ByteArray, y = ⟨tx.toArray⟩ := ⟨_, rfl⟩
          have hy0 : y.size ≠ 0 := by
            rw [hy]; intro e
            have e' : tx = [] := List.eq_nil_of_length_eq_zero e
            unfold isVoid at hvo; rw [htx, e'] at hvo; cases hvo
          obtain ⟨n1, n2, n3, n4⟩ := str_ne hy0
          have HY := Lib.hid hy.symm; clear hy hvo
          have HTx := Lib.hid htx; clear htx
          go_wp2_with (go_at_call 21; refine (remark_any _ _ hxs _ HRem.out).mono ?_)
          rintro e w3 ⟨rfl, hb3⟩
          have hL3 := hL.below hb3
          have HS3 := Lib.hid (Said.below HSa.out hb3)
          have HF3 := Lib.hid (Hf.out.trans (Fr.of_below hb3 (fun b => F + 1 + 1 ≤ b)))
          clear hb3 c0 c1 c2 c3 f2 f3 hL
          obtain ⟨oa3, cap3, c0, c1, c2, c3, f2, f3, hhead⟩ := hL3.rd
          obtain ⟨b3, o3, rfl, hx3⟩ := hhead x r rfl
          clear hhead
          simp only [List.length_cons] at c0
          go_wp2_with (go_at_call 22; refine (trim_any _ _ hxs _ HTx.out).mono ?_)
          rintro e w5 ⟨rfl, hb5⟩
          have hL5 := hL3.below hb5
          have HS5 := Lib.hid (Said.below HS3.out hb5)
          have HF5 := Lib.hid (HF3.out.trans (Fr.of_below hb5 _))
          rw [HY.out]
          clear hb5 c0 c1 c2 c3 f2 f3
          obtain ⟨oa5, cap5, c0, c1, c2, c3, f2, f3, -⟩ := hL5.rd
          go_wp2_with (go_at_call 25; refine (join_rd_any (F + 1 + 1) x r m sec ov _ hL5 (by omega) (by simp only [bulkR]; omega) _ HJ.out).mono ?_)
          rintro e w6 ⟨rfl, hL6, hf6⟩
          have HS6 := Lib.hid (HS5.out.fr hf6 (fun k hk => by omega))
          have HF6 := Lib.hid (HF5.out.trans (hf6.mono (fun i _ (h : i = F + 1 + 1) => by omega)))
          simp only at hL6
          clear hf6 c0 c1 c2 c3 f2 f3 fc0 fc1 ff0 ff1 fs' n1 n2 n3 n4
          have hM6 : MaxAt w6 := HM.out.fr HF6.out (by omega)
          go_wp2_with fail
          refine (line_at _ (F + 1 + 1) rs' m' sec ov out (m + 1) t w6 rfl hL6 HS6.out hM6 (by omega) (by omega) (by omega) _ rfl).mono ?_
          intro e w7 hout
          simp only [readS] at hq
          cases hs7 : saysS sec t with
          | err c =>
            rw [hs7] at hout hq
            obtain ⟨rfl, hb7⟩ := hout
            have hc := says_err hs7
            have hc0 : ((c : Int) != 0) = true := by rw [bne_iff_ne]; omega
            simp only at hq
            have HR := Lib.hid hq.symm
            have HF7 := Lib.hid (HF6.out.trans (Fr.of_below hb7 _))
            have hF7 : w7.heap[F]? = some (.cells #[.int .i64 0, .int .i64 0] 26 (0, 0)) := HF7.out.heap HF.out (by omega)
            have hBr7 : Below F w w7 := HB.out.trans (HF7.out.below F (by have := lt_heap HF.out; omega) (by intro k hk; omega))
            have HBr7 := Lib.hid hBr7
            have hFlt7 := lt_heap hF7
            obtain ⟨fc, ff, fs, -⟩ := rd hF7
            have fc0 : w7.cell? ⟨F, 0, none⟩ = some (.int .i64 0) := by rw [fc]; rfl
            have fc1 : w7.cell? ⟨F, 1, none⟩ = some (.int .i64 0) := by rw [fc]; rfl
            have ff0 := ff 0
            have ff1 := ff 1
            have fs' : w7.shape? F = some (26, 2) := fs
            clear fc ff fs hF7 hq hs7 hc hb7 hBr7
            go_wp2_with fail
            refine bodyPost_ret (v := .tuple #[.slice none 0 0, faultV c ((m : Int) + 1)]) (by simp [results, Tryd.results11, go_sem, faultV, fc0, fc1]) rfl ?_
            rw [HR.out]
            exact parse_err' HFn.out HBr7.out (Fr.setCell (M := (· = F)) (p := ⟨F, 1, none⟩) (Fr.setCell (M := (· = F)) (p := ⟨F, 0, none⟩) (Fr.refl _ _) (fun _ => rfl) _) (fun _ => rfl) _) rfl
          | nothing =>
            rw [hs7] at hout hq
            obtain ⟨rfl, hb7⟩ := hout
            have HR := Lib.hid hq
            have hL7 := hL6.below hb7
            have HS7 := Lib.hid (Said.below HS6.out hb7)
            have HF7 := Lib.hid (HF6.out.trans (Fr.of_below hb7 _))
            clear hb7 hq hs7
            go_wp2_with fail
            go_roundg (gk - 1)
            case measure => omega
            case rel => exact ⟨rs', m', sec, ov, out, hL7, HS7, by omega, by omega, by omega, by omega, HR, HF7⟩
          | sect name =>
            rw [hs7] at hout hq
            obtain ⟨rfl, hL7, hS7, hf7⟩ := hout
            have HR := Lib.hid hq
            have HS7 := Lib.hid hS7
            have HF7 := Lib.hid (HF6.out.trans (hf7.mono (fun i _ (h : i = F + 1 + 1) => by omega)))
            clear hf7 hq hs7 hS7
            go_wp2_with fail
            go_roundg (gk - 1)
            case measure => omega
            case rel => exact ⟨rs', m', name, ov, out, hL7, HS7, by omega, by omega, by omega, by omega, HR, HF7⟩
          | pair k v =>
            rw [hs7] at hout hq
            obtain ⟨rfl, ov', hL7, hS7, hf7⟩ := hout
            have HR := Lib.hid hq
            have HS7 := Lib.hid hS7
            have HF7 := Lib.hid (HF6.out.trans hf7)
            clear hf7 hq hs7 hS7
            go_wp2_with fail
            go_roundg (gk - 1)
            case measure => omega
            case rel => exact ⟨rs', m', sec, ov', _, hL7, HS7, by omega, by omega, by omega, by simp; omega, HR, HF7⟩
end Go.Proofs.YtbgjpglnikbflaaDoor
