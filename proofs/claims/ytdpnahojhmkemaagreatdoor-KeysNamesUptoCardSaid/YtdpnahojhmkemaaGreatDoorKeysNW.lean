/-
  KeysNames walked.
-/
import Derived.Test.YtdpnahojhmkemaaGreatDoorKeysN
import Derived.Test.YtdpnahojhmkemaaGreatDoorKeysT
import Derived.Test.YtdpnahojhmkemaaGreatDoorKeysSh
namespace Go.Proofs.YtdpnahojhmkemaaGreatDoor
open Go Go.RowKit
set_option linter.unusedVariables false
set_option linter.unusedSimpArgs false
set_option maxRecDepth 100000

def keyWants : KeyS := ⟨nUnit, nWants, 6, true, 30, []⟩
theorem find_wants : findKey nUnit nWants = some keyWants := by kernel_rfl

theorem filter_join (n : Nat) : ∀ l : List Str, (l.filter fun w => !w.isEmpty) = [] → joinN n l = []
  | [], _ => rfl
  | w :: t, h => by
    unfold joinN
    by_cases hw : w = []
    · subst hw
      rw [if_pos rfl]
      exact filter_join n t (by simpa using h)
    · simp [hw] at h
theorem names_val (n : Nat) (l : List Str) (h : ∀ w ∈ l, ∀ c ∈ w, c ≠ 32) : valW (joinN (n + 1) l) keyWants = if goodN l = true then 0 else 12 := by
  have hb := blanks_join n l h
  have hg := good_all l
  by_cases hj : joinN (n + 1) l = []
  · have hf := join_nil _ _ hj
    rw [hf] at hg
    rw [hj, hg]
    rfl
  · have hf : ¬ (l.filter fun w => !w.isEmpty) = [] := fun e => hj (filter_join _ _ e)
    have hr : rightW keyWants (joinN (n + 1) l) = goodN l := by
      unfold rightW
      rw [if_pos (show keyWants.form = 6 from rfl), hb, hg]
      unfold eachB
      generalize (l.filter fun w => !w.isEmpty) = q at *
      cases q with
      | nil => exact absurd rfl hf
      | cons a t => simp
    unfold valW
    rw [hr]
    unfold valE
    simp only [keyWants]
    rw [if_neg (by decide), if_neg (by simp [hj])]
    cases goodN l <;> simp [hj]

theorem joinN_len2 (n : Nat) : ∀ l : List Str, (∀ x ∈ l, x.length ≤ 1048576) → (joinN n l).length ≤ l.length * (1048576 + n)
  | [], _ => by simp [joinN]
  | a :: t, h => by
    have ih := joinN_len2 n t (fun x hx => h x (by simp [hx]))
    have h1 := h a (by simp)
    unfold joinN
    rw [List.length_cons, Nat.add_mul, Nat.one_mul]
    by_cases ha : a = []
    · rw [if_pos ha]; omega
    · rw [if_neg ha, List.length_append, List.length_append, List.length_replicate]; omega
theorem and_small (x : Int) (m : Nat) (hm : m < 9223372036854775808) : ∃ n : Nat, n ≤ m ∧ bits BinOp.and IntKind.i64 x (m : Int) = (n : Int) := by
  have h1 : (BitVec.ofInt 64 (m : Int)).toNat = m := by
    rw [BitVec.ofInt_natCast, BitVec.toNat_ofNat]; exact Nat.mod_eq_of_lt (by omega)
  have h2 : (BitVec.ofInt 64 x &&& BitVec.ofInt 64 (m : Int)).toNat ≤ m := by
    rw [BitVec.toNat_and, h1]; exact Nat.and_le_right
  refine ⟨_, h2, ?_⟩
  show IntKind.i64.wrap ((BitVec.ofInt 64 x &&& BitVec.ofInt 64 (m : Int)).toNat : Int) = _
  generalize (BitVec.ofInt 64 x &&& BitVec.ofInt 64 (m : Int)).toNat = q at *
  rw [IntKind.wrap_i64]
  omega

set_option maxHeartbeats 4000000 in
theorem namesLaw_any (oa : Option Addr) (cap : Nat) (l : List Str) (bl : Int) (w : World) (hM : MaxAt w) (hr : StrRow w oa l) (hz : ∀ x ∈ l, x.length ≤ 1048576) (hl : l.length ≤ 1048576) (hcap : l.length ≤ cap) (hcap2 : cap ≤ 9223372036854775807) :
    Calls Tryz.prog 7 #[.slice oa l.length cap, .int .i64 bl] w fun e w' => e = .returned (.bool true) ∧ Below w.heap.size w w' := by
  have HM := Lib.hid hM; have HR := Lib.hid hr; have HZ := Lib.hid hz
  have HS := Lib.hid (shown_any w hM)
  clear hM hr hz
  obtain ⟨m, hm⟩ : ∃ m, m = min l.length 20 := ⟨_, rfl⟩
  have HMN := Lib.hid hm
  have hm1 : m ≤ l.length := by omega
  have hm2 : m ≤ 20 := by omega
  have hm3 : (min (l.length : Int) 20) = (m : Int) := by omega
  clear hm
  go_enter Tryz.func7, Tryz.ntmps7
  go_wp2_with fail
  refine HS.out.mono ?_
  rintro e w1 ⟨rfl, hb1⟩
  have HB1 := Lib.hid hb1
  have HF := Lib.hid (find_any nUnit nWants w1)
  clear hb1 HS
  go_wp2_with fail
  refine HF.out.mono ?_
  rintro e w2 ⟨kv, rfl, hkv, hb2⟩
  rw [find_wants] at hkv ⊢
  have hkv' : KvRd w2 kv keyWants := hkv
  simp only [Option.isSome_some]
  obtain ⟨n, hn3, hn⟩ := and_small bl 3 (by decide)
  have hn' : bits BinOp.and IntKind.i64 bl 3 = (n : Int) := hn
  have HB2 := Lib.hid (HB1.out.trans (hb2.mono HB1.out.size))
  have HK := Lib.hid hkv'
  have HN := Lib.hid hn'
  obtain ⟨w3, hw3⟩ : ∃ w3, w3 = w2.alloc (.cells (encK kv).toArray 28) := ⟨_, rfl⟩
  have hB3 : Below w.heap.size w w3 := by rw [hw3]; exact HB2.out.trans ((Below.refl _ _).alloc (Nat.le_refl _) _ |>.mono HB2.out.size)
  have hK3 : KvRd w3 kv keyWants := by rw [hw3]; exact hkv'.below ((Below.refl _ _).alloc (Nat.le_refl _) _)
  have hH3 : w3.heap[w2.heap.size]? = some (.cells (encK kv).toArray 28 (0, 0)) := by rw [hw3]; exact heap_alloc_new w2 _
  have HB3 := Lib.hid hB3; have HK3 := Lib.hid hK3; have HH3 := Lib.hid hH3
  have HW3 := Lib.hid hw3
  clear hkv hkv' hb2 HF hn hn' hw3 hB3 hK3 hH3 HB1 HB2 HK
  unfold encK at *
  go_wp2
  rw [← HW3.out]
  generalize w2.heap.size = R at *
  go_loopg [7, 8, 26] m (fun f s7 s8 s26 wr => ∃ (k : Nat) (T : ByteArray) (g : Bool), k + f = m ∧ s26 = .int .i64 k ∧ s7 = .string T ∧ s8 = .bool g ∧ Hid (T.data.toList = joinN (n + 1) (l.take k)) ∧ Hid (goodN (l.take k) = g) ∧ Hid (∀ x ∈ l.take k, ∀ c ∈ x, c ≠ 32) ∧ Hid (Below w3.heap.size w3 wr))
  case atStart => exact ⟨0, ⟨#[]⟩, true, by omega, rfl, rfl, rfl, rfl, rfl, by simp [Hid], Below.refl _ _⟩
  case round =>
    obtain ⟨k, T, g, hk, rfl, rfl, rfl, HT, HG, HC, HB⟩ := hrel
    by_cases hlt : k < m
    · have hz : (k : Int) < (m : Int) := by omega
      have hkl : k < l.length := by omega
      obtain ⟨b, o, rfl, hcell⟩ := (HR.out.below (HB3.out.trans (HB.out.mono HB3.out.size))) k hkl
      obtain ⟨x, hx⟩ : ∃ x, x = l[k] := ⟨_, rfl⟩
      rw [← hx] at hcell
      have htk : l.take (k + 1) = l.take k ++ [x] := by rw [hx]; exact List.take_succ_eq_append_getElem hkl
      have hxl : x.length ≤ 1048576 := by
        rw [hx]
        exact HZ.out _ (List.getElem_mem hkl)
      have HTK := Lib.hid htk
      have HXL := Lib.hid hxl
      have hxs : (⟨x.toArray⟩ : ByteArray).size = x.length := by simp [ByteArray.size]
      have HXS := Lib.hid hxs
      obtain ⟨X, hX⟩ : ∃ X : ByteArray, X = ⟨x.toArray⟩ := ⟨_, rfl⟩
      rw [← hX] at hcell hxs
      have HX := Lib.hid hX
      have hX63 : X.size ≤ 1048576 := by omega
      clear hx htk hxs hX hxl
      obtain ⟨gk0, hgk0⟩ : ∃ g1, g1 = gk := ⟨_, rfl⟩
      subst hgk0
      obtain ⟨wr0, hwr0⟩ : ∃ g1, g1 = wr := ⟨_, rfl⟩
      subst hwr0
      go_wp2
      go_loopg [11] X.size (fun f s11 wr => wr = wr0 ∧ ∃ (i : Nat), i + f = X.size ∧ s11 = .int .i64 i ∧ Hid (∀ j (h : j < X.size), j < i → X[j] ≠ 32))
      case atStart => exact ⟨rfl, 0, by omega, rfl, fun j h hj => absurd hj (by omega)⟩
      case round =>
        obtain ⟨rfl, i, hi, rfl, HI⟩ := hrel
        by_cases hli : i < X.size
        · have hz2 : (i : Int) < (X.size : Int) := by omega
          by_cases h32 : X[i] = 32
          · have hc : (X[i].toNat : Int) = 32 := by rw [h32]; rfl
            clear h32
            go_wp2_with fail
            go_ret
            exact ⟨rfl, HB3.out.trans (HB.out.mono HB3.out.size)⟩
          · have hc : ¬ ((X[i].toNat : Int) = 32) := fun e => h32 (by rw [← UInt8.toNat_inj]; exact (by omega : X[i].toNat = 32))
            have HI2 := Lib.hid (show ∀ j (h : j < X.size), j < i + 1 → X[j] ≠ 32 from fun j h hj => by
              by_cases e : j = i
              · subst e; exact h32
              · exact HI.out j h (by omega))
            clear h32
            go_wp2_with fail
            go_roundg (X.size - (i + 1))
            case measure => omega
            case rel => exact ⟨rfl, i + 1, by omega, by go_num, HI2⟩
        · have hz2 : ¬ ((i : Int) < (X.size : Int)) := by omega
          have HNO := Lib.hid (show ∀ c ∈ x, c ≠ 32 from fun c hc => by
            obtain ⟨j, hj, rfl⟩ := List.getElem_of_mem hc
            have e := HX.out
            subst e
            have := HI.out j (by simp [ByteArray.size]; exact hj) (by have := HXS.out; omega)
            exact this)
          have HC2 := Lib.hid (show ∀ y ∈ l.take (k + 1), ∀ c ∈ y, c ≠ 32 from fun y hy => by
            rw [HTK.out] at hy
            rcases List.mem_append.1 hy with hy | hy
            · exact HC.out y hy
            · rw [List.mem_singleton.1 hy]; exact HNO.out)
          by_cases hx0 : X.size = 0
          · have hxn : x = [] := List.eq_nil_of_length_eq_zero (by have := HXS.out; rw [← HX.out] at this; omega)
            have HT2 := Lib.hid (show T.data.toList = joinN (n + 1) (l.take (k + 1)) by rw [HTK.out, joinN_snoc, if_pos hxn]; exact HT.out)
            have HG2 := Lib.hid (show goodN (l.take (k + 1)) = g by rw [HTK.out, goodN_snoc, if_pos hxn]; exact HG.out)
            obtain rfl : X = ⟨#[]⟩ := str_nil hx0
            clear hxn
            go_wp2_with fail
            go_roundg (m - (k + 1))
            case measure => omega
            case rel => exact ⟨k + 1, T, g, by omega, by go_num, rfl, rfl, HT2, HG2, HC2, HB⟩
          -- LEAF
          · obtain ⟨n1, n2, n3, n4⟩ := str_ne hx0
            have HXN := Lib.hid (show x ≠ [] from fun e => hx0 (by rw [HX.out, HXS.out, e]; rfl))
            have HTL := Lib.hid (show T.size + X.size ≤ 30000000 by
              have h1 := congrArg List.length HT.out
              have h2 := joinN_len2 (n + 1) (l.take k) (fun x hx => HZ.out x (List.mem_of_mem_take hx))
              have h5 : (l.take k).length ≤ 20 := by simp; omega
              have h6 : (l.take k).length * (1048576 + (n + 1)) ≤ 20 * 1048580 := Nat.mul_le_mul h5 (by omega)
              have h8 : T.data.toList.length = T.size := by simp
              omega)
            obtain ⟨b1, hb1⟩ : ∃ b, decide (kindS X.data.toList ≠ 0) = b := ⟨_, rfl⟩
            obtain ⟨b2, hb2⟩ : ∃ b, ((ofS X.data.toList).at_ && (ofS X.data.toList).inst.isEmpty) = b := ⟨_, rfl⟩
            have HM1 := Lib.hid (fun W => may1_any X W b1 hb1)
            have HI1 := Lib.hid (fun W => istpl_any X W b2 hb2)
            have hxd : X.data.toList = x := by rw [HX.out]
            have hg2 : goodN (l.take (k + 1)) = (g && (b1 && !b2)) := by
              rw [HTK.out, goodN_snoc, if_neg HXN.out, HG.out, ← hb1, ← hb2, hxd]; rfl
            have HGX := Lib.hid hg2
            clear hb1 hb2 hg2 hxd
            cases g with
            | false =>
              have HG2 := Lib.hid (show goodN (l.take (k + 1)) = false by rw [HGX.out]; rfl)
              obtain ⟨w5, hw5⟩ : ∃ g1, g1 = wr := ⟨_, rfl⟩
              subst hw5
              have HB5 := Lib.hid HB.out
              have hcat := concat_ok T X (by have := HTL.out; omega)
              have hUX := Lib.hid (show (T ++ X).data.toList = T.data.toList ++ x by rw [HX.out]; simp)
              go_wp2
              go_loopg [7, 12] (n + 1) (fun f s7 s12 wx => wx = w5 ∧ ∃ (i : Nat) (U : ByteArray), i + f = n + 1 ∧ s12 = .int .i64 i ∧ s7 = .string U ∧ Hid (U.data.toList = T.data.toList ++ (x ++ List.replicate i 32)))
              case atStart => exact ⟨rfl, 0, T ++ X, by omega, rfl, rfl, show (T ++ X).data.toList = T.data.toList ++ (x ++ List.replicate 0 32) from by rw [hUX.out]; simp⟩
              case round =>
                obtain ⟨rfl, i2, U, hi2, rfl, rfl, HU⟩ := hrel
                have hUl : U.size ≤ 60000000 := by
                  have h0 : U.data.toList.length = U.size := by simp
                  have h8 : T.data.toList.length = T.size := by simp
                  have h2 := HTL.out
                  have h3 := HXL.out
                  rw [HU.out, List.length_append, List.length_append, List.length_replicate, h8] at h0
                  omega
                by_cases hle : i2 ≤ n
                · have hz3 : (i2 : Int) ≤ (n : Int) := by omega
                  have hcat2 := concat_ok U ⟨#[32]⟩ (by have : (⟨#[32]⟩ : ByteArray).size = 1 := rfl; omega)
                  have hnn := HN.out
                  have HU2 := Lib.hid (show (U ++ ⟨#[32]⟩).data.toList = T.data.toList ++ (x ++ List.replicate (i2 + 1) 32) by
                    rw [List.replicate_succ', ← List.append_assoc x, ← List.append_assoc T.data.toList, ← HU.out]; simp)
                  go_wp2_with fail
                  go_roundg (n - i2)
                  case measure => omega
                  case rel => exact ⟨rfl, i2 + 1, U ++ ⟨#[32]⟩, by omega, by go_num, rfl, HU2⟩
                · have hz3 : ¬ ((i2 : Int) ≤ (n : Int)) := by omega
                  have hnn := HN.out
                  obtain rfl : i2 = n + 1 := by omega
                  have HT2 := Lib.hid (show U.data.toList = joinN (n + 1) (l.take (k + 1)) by rw [HTK.out, joinN_snoc, if_neg HXN.out, HU.out, HT.out])
                  have hk20 : (k : Int) < 20 := by omega
                  go_wp2_with fail
                  go_roundg (m - (k + 1))
                  case measure => omega
                  case rel => exact ⟨k + 1, U, false, by omega, by go_num, rfl, rfl, HT2, HG2, HC2, HB5⟩
            | true =>
              cases b1 with
              | false =>
                have HG2 := Lib.hid (show goodN (l.take (k + 1)) = false by rw [HGX.out]; rfl)
                go_wp2_with fail
                refine (HM1.out _).mono ?_
                rintro e w5 ⟨rfl, hb5⟩
                have HB5 := Lib.hid (HB.out.trans (hb5.mono HB.out.size))
                clear hb5 HM1 HI1
                have hcat := concat_ok T X (by have := HTL.out; omega)
                have hUX := Lib.hid (show (T ++ X).data.toList = T.data.toList ++ x by rw [HX.out]; simp)
                go_wp2
                go_loopg [7, 12] (n + 1) (fun f s7 s12 wx => wx = w5 ∧ ∃ (i : Nat) (U : ByteArray), i + f = n + 1 ∧ s12 = .int .i64 i ∧ s7 = .string U ∧ Hid (U.data.toList = T.data.toList ++ (x ++ List.replicate i 32)))
                case atStart => exact ⟨rfl, 0, T ++ X, by omega, rfl, rfl, show (T ++ X).data.toList = T.data.toList ++ (x ++ List.replicate 0 32) from by rw [hUX.out]; simp⟩
                case round =>
                  obtain ⟨rfl, i2, U, hi2, rfl, rfl, HU⟩ := hrel
                  have hUl : U.size ≤ 60000000 := by
                    have h0 : U.data.toList.length = U.size := by simp
                    have h8 : T.data.toList.length = T.size := by simp
                    have h2 := HTL.out
                    have h3 := HXL.out
                    rw [HU.out, List.length_append, List.length_append, List.length_replicate, h8] at h0
                    omega
                  by_cases hle : i2 ≤ n
                  · have hz3 : (i2 : Int) ≤ (n : Int) := by omega
                    have hcat2 := concat_ok U ⟨#[32]⟩ (by have : (⟨#[32]⟩ : ByteArray).size = 1 := rfl; omega)
                    have hnn := HN.out
                    have HU2 := Lib.hid (show (U ++ ⟨#[32]⟩).data.toList = T.data.toList ++ (x ++ List.replicate (i2 + 1) 32) by
                      rw [List.replicate_succ', ← List.append_assoc x, ← List.append_assoc T.data.toList, ← HU.out]; simp)
                    go_wp2_with fail
                    go_roundg (n - i2)
                    case measure => omega
                    case rel => exact ⟨rfl, i2 + 1, U ++ ⟨#[32]⟩, by omega, by go_num, rfl, HU2⟩
                  · have hz3 : ¬ ((i2 : Int) ≤ (n : Int)) := by omega
                    have hnn := HN.out
                    obtain rfl : i2 = n + 1 := by omega
                    have HT2 := Lib.hid (show U.data.toList = joinN (n + 1) (l.take (k + 1)) by rw [HTK.out, joinN_snoc, if_neg HXN.out, HU.out, HT.out])
                    have hk20 : (k : Int) < 20 := by omega
                    go_wp2_with fail
                    go_roundg (m - (k + 1))
                    case measure => omega
                    case rel => exact ⟨k + 1, U, false, by omega, by go_num, rfl, rfl, HT2, HG2, HC2, HB5⟩
              | true =>
                have HG2 := Lib.hid (show goodN (l.take (k + 1)) = !b2 by rw [HGX.out]; simp)
                go_wp2_with fail
                refine (HM1.out _).mono ?_
                rintro e w4 ⟨rfl, hb4⟩
                have HB4 := Lib.hid (HB.out.trans (hb4.mono HB.out.size))
                clear hb4 HM1
                go_wp2_with fail
                refine (HI1.out _).mono ?_
                rintro e w5 ⟨rfl, hb5⟩
                have HB5 := Lib.hid (HB4.out.trans (hb5.mono HB4.out.size))
                clear hb5 HI1
                have hcat := concat_ok T X (by have := HTL.out; omega)
                have hUX := Lib.hid (show (T ++ X).data.toList = T.data.toList ++ x by rw [HX.out]; simp)
                go_wp2
                go_loopg [7, 12] (n + 1) (fun f s7 s12 wx => wx = w5 ∧ ∃ (i : Nat) (U : ByteArray), i + f = n + 1 ∧ s12 = .int .i64 i ∧ s7 = .string U ∧ Hid (U.data.toList = T.data.toList ++ (x ++ List.replicate i 32)))
                case atStart => exact ⟨rfl, 0, T ++ X, by omega, rfl, rfl, show (T ++ X).data.toList = T.data.toList ++ (x ++ List.replicate 0 32) from by rw [hUX.out]; simp⟩
                case round =>
                  obtain ⟨rfl, i2, U, hi2, rfl, rfl, HU⟩ := hrel
                  have hUl : U.size ≤ 60000000 := by
                    have h0 : U.data.toList.length = U.size := by simp
                    have h8 : T.data.toList.length = T.size := by simp
                    have h2 := HTL.out
                    have h3 := HXL.out
                    rw [HU.out, List.length_append, List.length_append, List.length_replicate, h8] at h0
                    omega
                  by_cases hle : i2 ≤ n
                  · have hz3 : (i2 : Int) ≤ (n : Int) := by omega
                    have hcat2 := concat_ok U ⟨#[32]⟩ (by have : (⟨#[32]⟩ : ByteArray).size = 1 := rfl; omega)
                    have hnn := HN.out
                    have HU2 := Lib.hid (show (U ++ ⟨#[32]⟩).data.toList = T.data.toList ++ (x ++ List.replicate (i2 + 1) 32) by
                      rw [List.replicate_succ', ← List.append_assoc x, ← List.append_assoc T.data.toList, ← HU.out]; simp)
                    go_wp2_with fail
                    go_roundg (n - i2)
                    case measure => omega
                    case rel => exact ⟨rfl, i2 + 1, U ++ ⟨#[32]⟩, by omega, by go_num, rfl, HU2⟩
                  · have hz3 : ¬ ((i2 : Int) ≤ (n : Int)) := by omega
                    have hnn := HN.out
                    obtain rfl : i2 = n + 1 := by omega
                    have HT2 := Lib.hid (show U.data.toList = joinN (n + 1) (l.take (k + 1)) by rw [HTK.out, joinN_snoc, if_neg HXN.out, HU.out, HT.out])
                    have hk20 : (k : Int) < 20 := by omega
                    go_wp2_with fail
                    go_roundg (m - (k + 1))
                    case measure => omega
                    case rel => exact ⟨k + 1, U, !b2, by omega, by go_num, rfl, rfl, HT2, HG2, HC2, HB5⟩
          -- END
    · have hz : ¬ ((k : Int) < (m : Int)) := by omega
      obtain ⟨v, hv⟩ : ∃ v : Str, T = ⟨v.toArray⟩ := ⟨T.data.toList, by cases T; simp⟩
      subst hv
      have hv2 : v = joinN (n + 1) (l.take k) := by have := HT.out; simpa using this
      have hvl : v.length < 4294967281 := by
        rw [hv2]
        have h1 := joinN_len2 (n + 1) (l.take k) (fun x hx => HZ.out x (List.mem_of_mem_take hx))
        have h5 : (l.take k).length ≤ 20 := by simp; omega
        have h6 : (l.take k).length * (1048576 + (n + 1)) ≤ 20 * 1048580 := Nat.mul_le_mul h5 (by omega)
        omega
      have hval := value_w keyWants kv v wr (HK3.out.below HB.out) (.inl rfl) (by decide) hvl (HM.out.below (HB3.out.trans (HB.out.mono HB3.out.size)))
      have hnv : valW v keyWants = if g = true then 0 else 12 := by rw [hv2, names_val n _ HC.out, HG.out]
      rw [hnv] at hval
      unfold encK at hval
      obtain ⟨cc, fc, sc, lc⟩ := rd (heap_below HH3.out HB.out)
      have c0 := cc 0; have c1 := cc 1; have c2 := cc 2; have c3 := cc 3; have c4 := cc 4; have c5 := cc 5
      simp only [List.getElem?_toArray, List.getElem?_cons_zero, List.getElem?_cons_succ] at c0 c1 c2 c3 c4 c5
      clear cc fc sc lc hv2 hvl hnv HT HG HC
      have HB4 := Lib.hid (HB3.out.trans (HB.out.mono HB3.out.size))
      cases g with
      | true =>
        have HV := Lib.hid hval
        clear hval
        go_wp2_with fail
        refine HV.out.mono ?_
        rintro e w4 ⟨rfl, hb4⟩
        have HB5 := Lib.hid (HB4.out.trans (hb4.mono HB4.out.size))
        clear hb4 HV
        simp only [if_pos]
        go_wp2_with fail
        go_ret
        exact ⟨rfl, HB5.out⟩
      | false =>
        have HV := Lib.hid hval
        clear hval
        go_wp2_with fail
        refine HV.out.mono ?_
        rintro e w4 ⟨rfl, hb4⟩
        have HB5 := Lib.hid (HB4.out.trans (hb4.mono HB4.out.size))
        clear hb4 HV
        simp only [Bool.false_eq_true, if_false]
        go_wp2_with fail
        go_ret
        exact ⟨rfl, HB5.out⟩
end Go.Proofs.YtdpnahojhmkemaaGreatDoor
