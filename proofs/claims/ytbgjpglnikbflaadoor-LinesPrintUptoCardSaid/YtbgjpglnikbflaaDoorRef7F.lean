/-
  The reference's mayLine, write, MayLines, Print.
-/
import Derived.Test.YtbgjpglnikbflaaDoorRef7A
import Derived.Test.YtbgjpglnikbflaaDoorLinesD
namespace Go.Proofs.YtbgjpglnikbflaaDoor
open Go Go.RowKit
set_option linter.unusedVariables false
set_option maxRecDepth 100000

theorem goesOn_last' {x : ByteArray} (h : x.size - 1 < x.size) : goesOn x.data.toList = (x[x.size - 1] == 92) := by
  unfold goesOn
  rw [last_of x h]
  rfl

theorem sectRw (s : ByteArray) (h63 : s.size ≤ 9223372036854775807) (b : Bool) (hb : sectB s.data.toList = b) :
    Hid (∀ w, Calls Tryd.prog 29 #[.string s, .int .i64 20, .bool false] w fun e w' => e = .returned (.bool b) ∧ w = w') := Lib.hid fun w => sectR_any s w h63 b hb
theorem keyRw (s : ByteArray) (h63 : s.size ≤ 9223372036854775807) (b : Bool) (hb : keyB s.data.toList = b) :
    Hid (∀ w, Calls Tryd.prog 29 #[.string s, .int .i64 40, .bool true] w fun e w' => e = .returned (.bool b) ∧ w = w') := Lib.hid fun w => keyR_any s w h63 b hb
theorem cleanRw (s : ByteArray) (h63 : s.size ≤ 9223372036854775807) (b : Bool) (hb : goodS s.data.toList = b) :
    Hid (∀ w, Calls Tryd.prog 19 #[.string s] w fun e w' => e = .returned (.bool b) ∧ w = w') := Lib.hid fun w => cleanR_any s w h63 b hb
theorem trimRw (s y : ByteArray) (h63 : s.size ≤ 9223372036854775807) (hy : y = ⟨(trimS s.data.toList).toArray⟩) :
    Hid (∀ w, Calls Tryd.prog 27 #[.string s] w fun e w' => e = .returned (.string y) ∧ w = w') := Lib.hid fun w => by rw [hy]; exact trimR_any s w h63 _ rfl

set_option maxHeartbeats 4000000 in
theorem mayLineR_any (sa ka va : ByteArray) (n : Int) (w : World) (hs : sa.size ≤ 1000000000) (hk : ka.size ≤ 1000000000) (hv : va.size ≤ 1000000000) (b : Bool) (hb : mayLn ⟨sa.data.toList, ka.data.toList, va.data.toList, n⟩ = b) :
    Calls Tryd.prog 34 #[.agg #[.string sa, .string ka, .string va, .int .i64 n]] w fun e w' => e = .returned (.bool b) ∧ Below w.heap.size w w' := by
  obtain ⟨y, hy⟩ : ∃ y : ByteArray, y = ⟨(trimS va.data.toList).toArray⟩ := ⟨_, rfl⟩
  have hyl : y.data.toList = trimS va.data.toList := by rw [hy]
  have hlk : ka.data.toList.length = ka.size := by simp
  have hlv : va.data.toList.length = va.size := by simp
  have hc := mayCase _ _ _ n b hb
  have HB := Lib.hid (show Below w.heap.size w (w.alloc (.cells #[.string sa, .string ka, .string va, .int .i64 n] 34)) from (Below.refl _ _).alloc (Nat.le_refl _) _)
  have heq : ∀ q, (trimS va.data.toList == va.data.toList) = q → (y.toList == va.toList) = q := by
    intro q hq
    rw [← hq, ByteArray.toList_eq, ByteArray.toList_eq, hyl]
  have HTv := trimRw va y (by omega) hy
  have Hy := Lib.hid hy; clear hy hyl hb
  cases hc with
  | sec h1 hb =>
    subst hb
    have H1 := sectRw sa (by omega) _ h1; clear h1 heq hlk hlv
    go_enter Tryd.func34, Tryd.ntmps34
    go_wp2_with (go_at_call 29; with_reducible refine (H1.out _).mono ?_; rintro e w' ⟨rfl, rfl⟩)
    go_ret
    exact ⟨rfl, HB.out⟩
  | key h1 h2 hb =>
    subst hb
    have H1 := sectRw sa (by omega) _ h1; clear h1 heq hlk hlv
    have H2 := keyRw ka (by omega) _ h2; clear h2
    go_enter Tryd.func34, Tryd.ntmps34
    go_wp2_with (first
      | (go_at_call 29; with_reducible refine (H1.out _).mono ?_; rintro e w' ⟨rfl, rfl⟩)
      | (go_at_call 29; with_reducible refine (H2.out _).mono ?_; rintro e w' ⟨rfl, rfl⟩))
    go_ret
    exact ⟨rfl, HB.out⟩
  | good h1 h2 h3 hb =>
    subst hb
    have H1 := sectRw sa (by omega) _ h1; clear h1 heq hlk hlv
    have H2 := keyRw ka (by omega) _ h2; clear h2
    have H3 := cleanRw va (by omega) _ h3; clear h3
    go_enter Tryd.func34, Tryd.ntmps34
    go_wp2_with (first
      | (go_at_call 29; with_reducible refine (H1.out _).mono ?_; rintro e w' ⟨rfl, rfl⟩)
      | (go_at_call 29; with_reducible refine (H2.out _).mono ?_; rintro e w' ⟨rfl, rfl⟩)
      | (go_at_call 19; with_reducible refine (H3.out _).mono ?_; rintro e w' ⟨rfl, rfl⟩))
    go_ret
    exact ⟨rfl, HB.out⟩
  | trim h1 h2 h3 h4 hb =>
    subst hb
    have q4 := heq _ h4
    have H1 := sectRw sa (by omega) _ h1; clear h1 heq hlk hlv h4
    have H2 := keyRw ka (by omega) _ h2; clear h2
    have H3 := cleanRw va (by omega) _ h3; clear h3
    go_enter Tryd.func34, Tryd.ntmps34
    go_wp2_with (first
      | (go_at_call 29; with_reducible refine (H1.out _).mono ?_; rintro e w' ⟨rfl, rfl⟩)
      | (go_at_call 29; with_reducible refine (H2.out _).mono ?_; rintro e w' ⟨rfl, rfl⟩)
      | (go_at_call 19; with_reducible refine (H3.out _).mono ?_; rintro e w' ⟨rfl, rfl⟩)
      | (go_at_call 27; with_reducible refine (HTv.out _).mono ?_; rintro e w' ⟨rfl, rfl⟩))
    go_ret
    exact ⟨rfl, HB.out⟩
  | back h1 h2 h3 h4 h5 hb =>
    subst hb
    have q4 := heq _ h4
    have hz : va.size - 1 < va.size := by
      rcases Nat.eq_zero_or_pos va.size with h | h
      · have := str_nil h; subst this; cases h5
      · omega
    obtain ⟨n1, n2, n3, n4⟩ := str_ne (s := va) (by omega)
    have i1 : ((va.size : Int) - 1).toNat = va.size - 1 := by omega
    have i2 : 0 ≤ (va.size : Int) - 1 := by omega
    have i3 : (va.size : Int) - 1 < (va.size : Int) := by omega
    have e92 : ((va[va.size - 1].toNat : Int) == 92) = true := by rw [← (goesOn_last' hz).symm.trans h5]; exact beqU' (by decide)
    have e92' : ((va[va.size - 1].toNat : Int) != 92) = false := by simp [bne, e92]
    have H1 := sectRw sa (by omega) _ h1; clear h1 heq hlk hlv h4 h5
    have H2 := keyRw ka (by omega) _ h2; clear h2
    have H3 := cleanRw va (by omega) _ h3; clear h3
    go_enter Tryd.func34, Tryd.ntmps34
    go_wp2_with (first
      | (go_at_call 29; with_reducible refine (H1.out _).mono ?_; rintro e w' ⟨rfl, rfl⟩)
      | (go_at_call 29; with_reducible refine (H2.out _).mono ?_; rintro e w' ⟨rfl, rfl⟩)
      | (go_at_call 19; with_reducible refine (H3.out _).mono ?_; rintro e w' ⟨rfl, rfl⟩)
      | (go_at_call 27; with_reducible refine (HTv.out _).mono ?_; rintro e w' ⟨rfl, rfl⟩))
    go_ret
    exact ⟨rfl, HB.out⟩
  | len h1 h2 h3 h4 h5 h6 =>
    have q4 := heq _ h4
    rw [hlk, hlv] at h6
    have H6 := Lib.hid h6; clear h6
    have H1 := sectRw sa (by omega) _ h1; clear h1 heq hlk hlv h4
    have H2 := keyRw ka (by omega) _ h2; clear h2
    have H3 := cleanRw va (by omega) _ h3; clear h3
    have key : va.size = 0 ∨ ∃ hz : va.size - 1 < va.size, ((va[va.size - 1].toNat : Int) == 92) = false := by
      rcases Nat.eq_zero_or_pos va.size with h | h
      · exact .inl h
      · exact .inr ⟨by omega, by rw [← (goesOn_last' (by omega)).symm.trans h5]; exact beqU' (by decide)⟩
    clear h5
    rcases key with h0 | ⟨hz, e92⟩
    · have := str_nil h0
      subst this
      have : y = ⟨#[]⟩ := by rw [Hy.out]; rfl
      subst this
      clear h0 q4
      go_enter Tryd.func34, Tryd.ntmps34
      go_wp2_with (first
        | (go_at_call 29; with_reducible refine (H1.out _).mono ?_; rintro e w' ⟨rfl, rfl⟩)
        | (go_at_call 29; with_reducible refine (H2.out _).mono ?_; rintro e w' ⟨rfl, rfl⟩)
        | (go_at_call 19; with_reducible refine (H3.out _).mono ?_; rintro e w' ⟨rfl, rfl⟩)
        | (go_at_call 27; with_reducible refine (HTv.out _).mono ?_; rintro e w' ⟨rfl, rfl⟩))
      go_ret
      refine ⟨ret_bool ?_, HB.out⟩
      rw [← H6.out, decide_eq_decide]
      show _ ↔ ka.size + 1 + 0 ≤ 400
      omega
    · obtain ⟨n1, n2, n3, n4⟩ := str_ne (s := va) (by omega)
      have i1 : ((va.size : Int) - 1).toNat = va.size - 1 := by omega
      have i2 : 0 ≤ (va.size : Int) - 1 := by omega
      have i3 : (va.size : Int) - 1 < (va.size : Int) := by omega
      have e92' : ((va[va.size - 1].toNat : Int) != 92) = true := by simp [bne, e92]
      go_enter Tryd.func34, Tryd.ntmps34
      go_wp2_with (first
        | (go_at_call 29; with_reducible refine (H1.out _).mono ?_; rintro e w' ⟨rfl, rfl⟩)
        | (go_at_call 29; with_reducible refine (H2.out _).mono ?_; rintro e w' ⟨rfl, rfl⟩)
        | (go_at_call 19; with_reducible refine (H3.out _).mono ?_; rintro e w' ⟨rfl, rfl⟩)
        | (go_at_call 27; with_reducible refine (HTv.out _).mono ?_; rintro e w' ⟨rfl, rfl⟩))
      go_ret
      refine ⟨ret_bool ?_, HB.out⟩
      rw [← H6.out, decide_eq_decide]
      omega

theorem text_ne {l : List Ln} {k : Nat} (h : 0 < k) (hk : k ≤ l.length) : textS none (l.take k) ≠ [] := by
  cases l with
  | nil => simp at hk; omega
  | cons x r =>
    cases k with
    | zero => omega
    | succ k => simp [textS, headS]

set_option maxHeartbeats 4000000 in
theorem writeR_any (oa : Option Addr) (cap : Nat) (l : List Ln) (w : World) (h : LnRow w oa l) (hl : l.length ≤ 100000000) (hx : ∀ x ∈ l, LnSmall x) (hn : ∀ x ∈ l, x.sec ≠ []) (hw : (writeS l).length ≤ 1000000000) :
    Calls Tryd.prog 35 #[.slice oa l.length cap] w fun e w' => OutTx w l e w' := by
  have HX := Lib.hid hx; clear hx
  have HN := Lib.hid hn; clear hn
  have HR := Lib.hid h; clear h
  go_enter Tryd.func35, Tryd.ntmps35
  go_wp2_with fail
  go_loopg [3, 4, 9] (l.length + 1) (fun f sv qv i wr => ∃ (k : Nat) (sb qb : ByteArray), k ≤ l.length ∧ i = .int .i64 k ∧ sv = .string sb ∧ qv = .string qb ∧ l.length - k < f ∧ sb.size ≤ (writeS l).length ∧ Hid (sb.data.toList = textS none (l.take k)) ∧
    Hid (∀ h0 : 0 < k, ∃ hk : k - 1 < l.length, qb.data.toList = (l[k - 1]'hk).sec) ∧ Hid (k = 0 → qb = ⟨#[]⟩) ∧ Hid (Below w.heap.size w wr))
  case atStart => exact ⟨0, ⟨#[]⟩, ⟨#[]⟩, by omega, rfl, rfl, rfl, by omega, Nat.zero_le _, rfl, (fun h => absurd h (by omega)), (fun _ => rfl), Below.refl _ _⟩
  case round =>
    obtain ⟨k, sb, qb, hk, rfl, rfl, rfl, hfu, hsl, HS, HQ, HQ0, HB⟩ := hrel
    have hsz := HB.out.size
    by_cases hlt : k < l.length
    · obtain ⟨bb, o, rfl, c0, c1, c2, c3⟩ := (HR.out.below HB.out (Nat.le_refl _)) k hlt
      have hxk := HX.out l[k] (List.getElem_mem _)
      have hnk := HN.out l[k] (List.getElem_mem _)
      have hlen := text_take_len l (k + 1)
      obtain ⟨sx, hsx⟩ : ∃ sx : ByteArray, sx = ⟨l[k].sec.toArray⟩ := ⟨_, rfl⟩
      obtain ⟨kx, hkx⟩ : ∃ kx : ByteArray, kx = ⟨l[k].key.toArray⟩ := ⟨_, rfl⟩
      obtain ⟨vx, hvx⟩ : ∃ vx : ByteArray, vx = ⟨l[k].val.toArray⟩ := ⟨_, rfl⟩
      have zs : sx.size ≤ 1000000000 := by rw [hsx]; exact hxk.sec
      have zk : kx.size ≤ 1000000000 := by rw [hkx]; exact hxk.key
      have zv : vx.size ≤ 1000000000 := by rw [hvx]; exact hxk.val
      have hs0 : sx.size ≠ 0 := by
        rw [hsx]; intro e; exact hnk (List.eq_nil_of_length_eq_zero e)
      obtain ⟨n1, n2, n3, n4⟩ := str_ne hs0
      rw [← hsx] at c0
      rw [← hkx] at c1
      rw [← hvx] at c2
      have HSx := Lib.hid hsx; clear hsx
      have HKx := Lib.hid hkx; clear hkx
      have HVx := Lib.hid hvx; clear hvx
      generalize l[k].at_ = xat at c3
      have HB3 := Lib.hid (HB.out.trans ((show Below wr.heap.size wr (wr.alloc (.cells #[.string sx, .string kx, .string vx, .int .i64 xat] 34)) from (Below.refl _ _).alloc (Nat.le_refl _) _).mono hsz))
      have HQ1 := Lib.hid (show ∀ h0 : 0 < k + 1, ∃ hk : k + 1 - 1 < l.length, sx.data.toList = (l[k + 1 - 1]'hk).sec from fun _ => ⟨by omega, by rw [HSx.out]; simp⟩)
      have hlb : ∀ y : ByteArray, y.data.toList = textS none (l.take (k + 1)) → y.size ≤ (writeS l).length := by
        intro y hy
        have : y.data.toList.length = y.size := by simp
        rw [← this, hy]; exact hlen
      have HLb := Lib.hid hlb; clear hlb hlen hnk hxk
      by_cases h0 : k = 0
      · have hq0 := HQ0.out h0
        subst hq0
        have hs1 : sb.data.toList = [] := by rw [HS.out, h0]; simp [textS]
        have : sb = ⟨#[]⟩ := bytes_ext hs1
        subst this
        clear hs1
        subst h0
        simp only [Nat.zero_mul, Nat.add_zero] at c0 c1 c2 c3
        have HT := Lib.hid (show (((⟨#[]⟩ : ByteArray) ++ ((⟨#[91]⟩ ++ sx) ++ ⟨#[93, 10]⟩)) ++ (((kx ++ (⟨#[61]⟩ : ByteArray)) ++ vx) ++ ⟨#[10]⟩)).data.toList = textS none (l.take (0 + 1)) by
          rw [text_snoc hlt, dif_pos rfl, Joins.data_append, Joins.data_append, pair_bytes kx vx l[0] (by rw [HKx.out]) (by rw [HVx.out]), Joins.data_append, Joins.data_append, HSx.out]
          simp [headS, textS])
        go_wp2_with fail
        go_roundg (l.length - 0)
        case measure => omega
        case rel => exact ⟨0 + 1, _, sx, by omega, by go_num, rfl, rfl, by omega, HLb.out _ HT.out, HT, HQ1, (fun h => absurd h (by omega)), HB3⟩
      · obtain ⟨hk1, hqb⟩ := HQ.out (by omega)
        have hsb0 : sb.size ≠ 0 := by
          intro e
          have := str_nil e
          subst this
          exact text_ne (by omega : 0 < k) hk HS.out.symm
        obtain ⟨m1, m2, m3, m4⟩ := str_ne hsb0
        have HQb := Lib.hid hqb; clear hqb
        cases hq : (sx.toList == qb.toList) with
        | true =>
          have hq' : (sx.toList != qb.toList) = false := by simp [bne, hq]
          have HT := Lib.hid (show (sb ++ (((kx ++ (⟨#[61]⟩ : ByteArray)) ++ vx) ++ ⟨#[10]⟩)).data.toList = textS none (l.take (k + 1)) by
            have e : l[k].sec = (l[k - 1]'hk1).sec := by
              have h1 := eq_of_beq hq
              rw [ByteArray.toList_eq, ByteArray.toList_eq, HSx.out, HQb.out] at h1
              exact h1
            rw [text_snoc hlt, dif_neg h0, if_pos e, Joins.data_append, pair_bytes kx vx l[k] (by rw [HKx.out]) (by rw [HVx.out]), HS.out]
            simp)
          have HQ2 := Lib.hid (show ∀ h0 : 0 < k + 1, ∃ hk : k + 1 - 1 < l.length, qb.data.toList = (l[k + 1 - 1]'hk).sec from fun _ => ⟨by omega, by
            have h1 := eq_of_beq hq
            rw [ByteArray.toList_eq, ByteArray.toList_eq] at h1
            rw [← h1, HSx.out]; simp⟩)
          go_wp2_with fail
          go_roundg (l.length - k)
          case measure => omega
          case rel => exact ⟨k + 1, _, qb, by omega, by go_num, rfl, rfl, by omega, HLb.out _ HT.out, HT, HQ2, (fun h => absurd h (by omega)), HB3⟩
        | false =>
          have hq' : (sx.toList != qb.toList) = true := by simp [bne, hq]
          have HT := Lib.hid (show (((sb ++ (⟨#[10]⟩ : ByteArray)) ++ ((⟨#[91]⟩ ++ sx) ++ ⟨#[93, 10]⟩)) ++ (((kx ++ (⟨#[61]⟩ : ByteArray)) ++ vx) ++ ⟨#[10]⟩)).data.toList = textS none (l.take (k + 1)) by
            have e : ¬ l[k].sec = (l[k - 1]'hk1).sec := by
              intro h1
              rw [beq_eq_false_iff_ne] at hq
              apply hq
              rw [ByteArray.toList_eq, ByteArray.toList_eq, HSx.out, HQb.out]
              exact h1
            rw [text_snoc hlt, dif_neg h0, if_neg e, Joins.data_append, pair_bytes kx vx l[k] (by rw [HKx.out]) (by rw [HVx.out]), Joins.data_append, Joins.data_append, Joins.data_append, Joins.data_append, HS.out, HSx.out]
            simp [headS])
          go_wp2_with fail
          go_roundg (l.length - k)
          case measure => omega
          case rel => exact ⟨k + 1, _, sx, by omega, by go_num, rfl, rfl, by omega, HLb.out _ HT.out, HT, HQ1, (fun h => absurd h (by omega)), HB3⟩
    · have : k = l.length := by omega
      subst this
      have HT := Lib.hid (show sb = ⟨(writeS l).toArray⟩ by
        apply bytes_ext; rw [HS.out, List.take_length]; rfl)
      go_wp2_with fail
      go_ret
      exact ⟨by rw [← HT.out]; rfl, HB.out⟩
end Go.Proofs.YtbgjpglnikbflaaDoor
