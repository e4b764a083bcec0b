import Derived.Test.YtdjkedcpehhmnaaGreatDoorUP30
import Derived.Test.YtdjkedcpehhmnaaGreatDoorUP31
namespace Go.Proofs.YtdjkedcpehhmnaaGreatDoor
set_option linter.unusedVariables false
set_option linter.unusedSimpArgs false
theorem linesU_append (name : Str) (kind : Int) : ∀ (a b : List Ln) (u : UV), linesU name kind u (a ++ b) = match linesU name kind u a with
  | .error e => .error e
  | .ok r => linesU name kind r b
 | [], b, u => rfl
 | x :: t, b, u => by
  rw [List.cons_append, linesU, linesU]
  cases lineU name kind u x with
  | error e => rfl
  | ok r => exact linesU_append name kind t b r
theorem makeU_two (name : Str) (l : List Ln) : (makeU name l).1 = zeroU ∨ (makeU name l).2 = (0, 0) := by
 unfold makeU
 split
 ·exact .inl rfl
 ·split
  ·exact .inl rfl
  ·split
   ·exact .inl rfl
   ·exact .inr rfl
theorem wholeU_cases (kind : Int) (u : UV) : wholeU kind u = 0 ∨ wholeU kind u = 6 ∨ wholeU kind u = 7 := by
 unfold wholeU
 split
 ·exact .inr (.inl rfl)
 ·split
  ·exact .inr (.inr rfl)
  ·exact .inl rfl
theorem rows_law (name : Str) (a b : List Ln) (h : (makeU name a).2.1 ≠ 0 ∧ (makeU name a).2.1 ≠ 6 ∧ (makeU name a).2.1 ≠ 7) :
  (makeU name (a ++ b)).2 = (makeU name a).2 ∧ (makeU name (a ++ b)).1 = zeroU := by
 obtain ⟨h0, h6, h7⟩ := h
 unfold makeU at h0 h6 h7 ⊢
 by_cases hn : kindS name = 0 ∨ bareS name = true
 ·rw [if_pos hn, if_pos hn]; exact ⟨rfl, rfl⟩
 ·rw [if_neg hn] at h0 h6 h7 ⊢
  rw [if_neg hn, linesU_append]
  cases hl : linesU name (kindS name : Nat) (newU name) a with
  | error e => exact ⟨rfl, rfl⟩
  | ok u =>
   rw [hl] at h0 h6 h7
   simp only at h0 h6 h7
   rcases wholeU_cases (kindS name : Nat) u with hw | hw | hw
   ·rw [if_neg (by rw [hw]; simp)] at h0; exact absurd rfl h0
   ·rw [if_pos (by rw [hw]; decide), hw] at h6; exact absurd rfl h6
   ·rw [if_pos (by rw [hw]; decide), hw] at h7; exact absurd rfl h7
def dblS : Str → Str
 | [] => []
 | c :: t => if c = 37 then 37 :: 37 :: dblS t else c :: dblS t
theorem pctS_plain (unit : Str) (c : UInt8) (t : Str) (hc : c ≠ 37) : pctS unit (c :: t) = (pctS unit t).map fun r => c :: r := by
 cases t with
 | nil =>
  show (if c = 37 then none else some [c]) = _
  rw [if_neg hc]; rfl
 | cons d t => rw [pctS, if_neg hc]
theorem pctS_dbl (unit : Str) : ∀ v : Str, pctS unit (dblS v) = some v
 | [] => rfl
 | c :: t => by
  rw [dblS]
  by_cases hc : c = 37
  ·rw [if_pos hc, pctS, if_pos rfl]
   have hs : standsS unit 37 = some [37] := by unfold standsS; rw [if_pos rfl]
   rw [hs, pctS_dbl unit t, hc]
   rfl
  ·rw [if_neg hc, pctS_plain unit c _ hc, pctS_dbl unit t]
   rfl
theorem pctS_none (unit : Str) : ∀ v : Str, (∀ c ∈ v, c ≠ 37) → pctS unit v = some v
 | [], _ => rfl
 | c :: t, h => by
  rw [pctS_plain unit c t (h c (by simp)), pctS_none unit t (fun d hd => h d (by simp [hd]))]
  rfl
theorem specS_dbl (s unit v : Str) (h : specS s unit = .ok v) : specS (dblS v) unit = .ok v := by
 unfold specS at h ⊢
 by_cases hk : kindS unit = 0
 ·rw [if_pos hk] at h; cases h
 ·rw [if_neg hk, pctS_dbl]
def SpecRow (name : Str) : List Ln → List Ln → Prop
 | [], [] => True
 | x :: t, y :: r => (∃ v, specS x.val name = .ok v ∧ y = { x with val := dblS v }) ∧ SpecRow name t r
 | _, _ => False
theorem lineU_spec (name : Str) (kind : Int) (u : UV) (x : Ln) (v : Str) (h : specS x.val name = .ok v) : lineU name kind u { x with val := dblS v } = lineU name kind u x := by
 unfold lineU
 rw [h]
 simp only
 rw [specS_dbl x.val name v h]
theorem linesU_spec (name : Str) (kind : Int) : ∀ (l m : List Ln) (u : UV), SpecRow name l m → linesU name kind u m = linesU name kind u l
 | [], [], _, _ => rfl
 | [], _ :: _, _, h => h.elim
 | _ :: _, [], _, h => h.elim
 | x :: t, y :: r, u, ⟨⟨v, hv, hy⟩, ht⟩ => by
  subst hy
  rw [linesU, linesU, lineU_spec name kind u x v hv]
  cases lineU name kind u x with
  | error e => rfl
  | ok w => exact linesU_spec name kind t r w ht
theorem spec_law (name : Str) (l m : List Ln) (h : SpecRow name l m) : makeU name m = makeU name l := by
 unfold makeU
 rw [linesU_spec name _ l m _ h]
theorem slotK_ge (key : Str) : 2 ≤ slotK key := by
 have h0 : ∀ p ∈ slotTab, 2 ≤ p.2 := by decide
 unfold slotK
 cases h : slotTab.find? (fun p => p.1 == key) with
 | none => decide
 | some p => exact h0 p (List.mem_of_find?_eq_some h)
def AlikeU (u v : UV) : Prop := ∀ j, j ≠ 0 → u j = v j
theorem AlikeU.upd {u v : UV} (h : AlikeU u v) (i : Nat) (c : UC) : AlikeU (u.upd i c) (v.upd i c) := by
 intro j hj
 unfold UV.upd
 by_cases e : j = i
 ·rw [if_pos e, if_pos e]
 ·rw [if_neg e, if_neg e]; exact h j hj
theorem AlikeU.long {u v : UV} (h : AlikeU u v) : longU u = longU v := by
 unfold longU
 rw [h 4 (by decide)]
 congr 1
 unfold listIx
 simp only [List.any_cons, List.any_nil]
 rw [h 8 (by decide), h 9 (by decide), h 10 (by decide), h 11 (by decide), h 12 (by decide), h 18 (by decide), h 19 (by decide), h 20 (by decide), h 21 (by decide), h 25 (by decide), h 26 (by decide), h 27 (by decide), h 28 (by decide), h 30 (by decide), h 31 (by decide), h 32 (by decide), h 33 (by decide)]
theorem AlikeU.whole {u v : UV} (h : AlikeU u v) (kind : Int) : wholeU kind u = wholeU kind v := by
 unfold wholeU
 rw [h 7 (by decide), h 9 (by decide), h 21 (by decide), h 25 (by decide), h 26 (by decide), h 27 (by decide), h 28 (by decide)]
theorem relsPut_name (na nb : Str) (rel : Int) : ∀ (ws : List Str) (l : List (Int × Str)), (∀ s ∈ ws, s ≠ na ∧ s ≠ nb) → relsPut na rel l ws = relsPut nb rel l ws
 | [], l, _ => rfl
 | s :: t, l, h => by
  obtain ⟨h1, h2⟩ := h s (by simp)
  rw [relsPut, relsPut]
  simp only [h1, h2, ne_eq, not_false_eq_true, true_and]
  exact relsPut_name na nb rel t _ (fun r hr => h r (by simp [hr]))
theorem fldS_bytes (p : UInt8 → Prop) : ∀ (v cur : Str), (∀ c ∈ v, p c) → (∀ c ∈ cur, p c) → ∀ x ∈ fldS v cur, ∀ c ∈ x, p c
 | [], cur, _, hc, x, hx => by
  unfold fldS at hx
  split at hx
  ·simp at hx
  ·simp at hx; subst hx; exact hc
 | d :: t, cur, hv, hc, x, hx => by
  unfold fldS at hx
  split at hx
  ·split at hx
   ·exact fldS_bytes p t [] (fun c h => hv c (by simp [h])) (by simp) x hx
   ·rcases List.mem_cons.1 hx with rfl | hx
    ·exact hc
    ·exact fldS_bytes p t [] (fun c h => hv c (by simp [h])) (by simp) x hx
  ·refine fldS_bytes p t (cur ++ [d]) (fun c h => hv c (by simp [h])) (fun c h => ?_) x hx
   rcases List.mem_append.1 h with h | h
   ·exact hc c h
   ·have : c = d := by simpa using h
    subst this; exact hv c (by simp)
theorem fieldS_name (na nb : Str) (ha : (64 : UInt8) ∈ na) (hb : (64 : UInt8) ∈ nb) (k : KeyS) (v : Str) (hv : ∀ c ∈ v, c ≠ 64) (c : UC) : fieldS na k v c = fieldS nb k v c := by
 have hw : ∀ s ∈ blanksS v, s ≠ na ∧ s ≠ nb := fun s hs => by
  have := fldS_bytes (fun c => c ≠ 64) v [] hv (by simp) s hs
  exact ⟨fun e => this 64 (by rw [e]; exact ha) rfl, fun e => this 64 (by rw [e]; exact hb) rfl⟩
 unfold fieldS
 rw [relsPut_name na nb _ _ _ hw]
theorem lineU_alike (na nb : Str) (ha : (64 : UInt8) ∈ na) (hb : (64 : UInt8) ∈ nb) (ka : kindS na ≠ 0) (kb : kindS nb ≠ 0) (kind : Int) (u v : UV) (h : AlikeU u v) (x : Ln) (h37 : ∀ c ∈ x.val, c ≠ 37) (h64 : ∀ c ∈ x.val, c ≠ 64) :
  (∃ e, lineU na kind u x = .error e ∧ lineU nb kind v x = .error e) ∨ ∃ r q, lineU na kind u x = .ok r ∧ lineU nb kind v x = .ok q ∧ AlikeU r q ∧ r 0 = u 0 ∧ q 0 = v 0 := by
 have sa : specS x.val na = .ok x.val := by unfold specS; rw [if_neg ka, pctS_none na _ h37]
 have sb : specS x.val nb = .ok x.val := by unfold specS; rw [if_neg kb, pctS_none nb _ h37]
 unfold lineU
 rw [sa, sb]
 simp only
 by_cases h0 : lnS kind { x with val := x.val } ≠ 0
 ·rw [if_pos h0, if_pos h0]; exact .inl ⟨_, rfl, rfl⟩
 ·rw [if_neg h0, if_neg h0]
  cases hk : findKey x.sec x.key with
  | none => exact .inl ⟨_, rfl, rfl⟩
  | some k =>
   simp only
   have hs := slotK_ge k.name
   rw [← h (slotK k.name) (by omega), ← fieldS_name na nb ha hb k x.val h64]
   have hu := h.upd (slotK k.name) (fieldS na k x.val (u (slotK k.name)))
   rw [← hu.long]
   by_cases h1 : afterS k x.val = false
   ·rw [if_pos h1, if_pos h1]; exact .inl ⟨_, rfl, rfl⟩
   ·rw [if_neg h1, if_neg h1]
    by_cases h2 : longU (u.upd (slotK k.name) (fieldS na k x.val (u (slotK k.name)))) = true
    ·rw [if_pos h2, if_pos h2]; exact .inl ⟨_, rfl, rfl⟩
    ·rw [if_neg h2, if_neg h2]
     exact .inr ⟨_, _, rfl, rfl, hu, UV.upd_ne _ _ (by omega), UV.upd_ne _ _ (by omega)⟩
theorem linesU_alike (na nb : Str) (ha : (64 : UInt8) ∈ na) (hb : (64 : UInt8) ∈ nb) (ka : kindS na ≠ 0) (kb : kindS nb ≠ 0) (kind : Int) : ∀ (l : List Ln) (u v : UV), AlikeU u v → (∀ x ∈ l, (∀ c ∈ x.val, c ≠ 37) ∧ ∀ c ∈ x.val, c ≠ 64) →
  (∃ e, linesU na kind u l = .error e ∧ linesU nb kind v l = .error e) ∨ ∃ r q, linesU na kind u l = .ok r ∧ linesU nb kind v l = .ok q ∧ AlikeU r q ∧ r 0 = u 0 ∧ q 0 = v 0
 | [], u, v, h, _ => .inr ⟨u, v, rfl, rfl, h, rfl, rfl⟩
 | x :: t, u, v, h, hl => by
  obtain ⟨h37, h64⟩ := hl x (by simp)
  rcases lineU_alike na nb ha hb ka kb kind u v h x h37 h64 with ⟨e, e1, e2⟩ | ⟨r, q, e1, e2, h2, r0, q0⟩
  ·exact .inl ⟨(e, x.at_), by rw [linesU, e1], by rw [linesU, e2]⟩
  ·rw [linesU, linesU, e1, e2]
   simp only
   rcases linesU_alike na nb ha hb ka kb kind t r q h2 (fun y hy => hl y (by simp [hy])) with ⟨e, g1, g2⟩ | ⟨r', q', g1, g2, h3, r1, q1⟩
   ·exact .inl ⟨e, g1, g2⟩
   ·exact .inr ⟨r', q', g1, g2, h3, by rw [r1, r0], by rw [q1, q0]⟩
theorem newU_alike (na nb : Str) (h : kindS na = kindS nb) (h0 : kindS na ≠ 0) : AlikeU (newU na) (newU nb) ∧ newU na 0 = .s na ∧ newU nb 0 = .s nb := by
 unfold newU
 rw [← h, if_neg h0, if_neg h0]
 have hb : AlikeU ((((zeroU.upd 0 (.s na)).upd 1 (.n (kindS na : Nat))).upd 3 (.b true)).upd 5 (.n 10)) ((((zeroU.upd 0 (.s nb)).upd 1 (.n (kindS na : Nat))).upd 3 (.b true)).upd 5 (.n 10)) := by
  refine AlikeU.upd (AlikeU.upd (AlikeU.upd ?_ _ _) _ _) _ _
  intro j hj
  rw [UV.upd_ne _ _ hj, UV.upd_ne _ _ hj]
 refine ⟨?_, ?_, ?_⟩
 ·simp only
  split
  ·exact ((((hb.upd 6 _).upd 7 _).upd 14 _).upd 16 _).upd 17 _
  ·split
   ·exact (hb.upd 6 _).upd 22 _
   ·exact hb.upd 6 _
 ·split
  ·rfl
  ·split <;> rfl
 ·split
  ·rfl
  ·split <;> rfl
theorem instances_law (na nb : Str) (ha : (64 : UInt8) ∈ na) (hb : (64 : UInt8) ∈ nb) (hkk : kindS na ≠ 0 → kindS nb ≠ 0 → kindS na = kindS nb) (l : List Ln) (hl : ∀ x ∈ l, (∀ c ∈ x.val, c ≠ 37) ∧ ∀ c ∈ x.val, c ≠ 64)
  (h5 : (makeU na l).2.1 ≠ 5) (g5 : (makeU nb l).2.1 ≠ 5) : (makeU na l).2 = (makeU nb l).2 ∧ ((makeU nb l).1.upd 0 ((makeU na l).1 0)) = (makeU na l).1 := by
 have zz : zeroU.upd 0 (zeroU 0) = zeroU := by
  funext j
  unfold UV.upd
  split
  ·rename_i e; rw [e]
  ·rfl
 unfold makeU at h5 g5 ⊢
 by_cases ka : kindS na = 0 ∨ bareS na = true
 ·rw [if_pos ka] at h5; exact absurd rfl h5
 ·by_cases kb : kindS nb = 0 ∨ bareS nb = true
  ·rw [if_pos kb] at g5; exact absurd rfl g5
  ·have ka0 : kindS na ≠ 0 := fun e => ka (.inl e)
   have kb0 : kindS nb ≠ 0 := fun e => kb (.inl e)
   have hk := hkk ka0 kb0
   obtain ⟨hn, n1, n2⟩ := newU_alike na nb hk ka0
   rw [if_neg ka, if_neg kb, ← hk]
   rcases linesU_alike na nb ha hb ka0 kb0 (kindS na : Nat) l _ _ hn hl with ⟨e, e1, e2⟩ | ⟨r, q, e1, e2, h2, r0, q0⟩
   ·rw [e1, e2]; exact ⟨rfl, zz⟩
   ·rw [e1, e2]
    simp only
    rw [← h2.whole]
    by_cases hw : wholeU (kindS na : Nat) r ≠ 0
    ·rw [if_pos hw, if_pos hw]; exact ⟨rfl, zz⟩
    ·rw [if_neg hw, if_neg hw]
     refine ⟨rfl, ?_⟩
     funext j
     unfold UV.upd
     split
     ·rename_i e; rw [e]
     ·rename_i e; exact (h2 j e).symm
def overF (i : Nat) (c : UC) : Bool := if i = 4 then decide (64 < c.len) else listIx.contains i && decide (16 < c.len)
def okU (u : UV) : Prop := ∀ j, overF j (u j) = false
theorem longU_iff (u : UV) : longU u = false ↔ okU u := by
 unfold longU okU
 rw [Bool.or_eq_false_iff]
 constructor
 ·rintro ⟨h4, hl⟩ j
  unfold overF
  split
  ·rename_i e; rw [e]; exact h4
  ·cases hc : listIx.contains j with
   | false => rfl
   | true =>
    have := List.any_eq_false.1 hl j (by simpa using hc)
    simpa using this
 ·intro h
  refine ⟨by have := h 4; unfold overF at this; rw [if_pos rfl] at this; exact this, ?_⟩
  rw [List.any_eq_false]
  intro j hj
  have := h j
  unfold overF at this
  have hne : j ≠ 4 := by rintro rfl; revert hj; decide
  rw [if_neg hne, show listIx.contains j = true from by simpa using hj] at this
  simpa using this
theorem okU_upd (u : UV) (h : okU u) (i : Nat) (c : UC) : okU (u.upd i c) ↔ overF i c = false := by
 constructor
 ·intro k; have := k i; rw [UV.upd_at] at this; exact this
 ·intro k j
  by_cases e : j = i
  ·subst e; rw [UV.upd_at]; exact k
  ·rw [UV.upd_ne _ _ e]; exact h j
def goodL (name : Str) (kind : Int) (x : Ln) : Option (KeyS × Str) :=
 match specS x.val name with
 | .error _ => none
 | .ok v => if lnS kind { x with val := v } ≠ 0 then none else match findKey x.sec x.key with
  | none => none
  | some k => if afterS k v = false then none else some (k, v)
def stepU (name : Str) (u : UV) (k : KeyS) (v : Str) : UV := u.upd (slotK k.name) (fieldS name k v (u (slotK k.name)))
def Except.opt {ε α : Type} : Except ε α → Option α | .ok a => some a | .error _ => none
theorem lineU_opt (name : Str) (kind : Int) (u : UV) (x : Ln) : Except.opt (lineU name kind u x) = match goodL name kind x with
  | none => none
  | some (k, v) => if longU (stepU name u k v) = true then none else some (stepU name u k v) := by
 unfold lineU goodL stepU
 cases specS x.val name with
 | error e => rfl
 | ok v =>
  simp only
  by_cases h0 : lnS kind { x with val := v } ≠ 0
  ·rw [if_pos h0, if_pos h0]; rfl
  ·rw [if_neg h0, if_neg h0]
   cases findKey x.sec x.key with
   | none => rfl
   | some k =>
    simp only
    by_cases h1 : afterS k v = false
    ·rw [if_pos h1, if_pos h1]; rfl
    ·rw [if_neg h1, if_neg h1]
     simp only
     split <;> rfl
theorem linesU_opt (name : Str) (kind : Int) (u : UV) (x : Ln) (t : List Ln) : Except.opt (linesU name kind u (x :: t)) = (Except.opt (lineU name kind u x)).bind fun r => Except.opt (linesU name kind r t) := by
 rw [linesU]
 cases lineU name kind u x with
 | error e => rfl
 | ok r => rfl
theorem lineU_ok (name : Str) (kind : Int) (u r : UV) (x : Ln) (h : lineU name kind u x = .ok r) : okU r := by
 have ho := lineU_opt name kind u x
 rw [h] at ho
 cases hg : goodL name kind x with
 | none => rw [hg] at ho; cases ho
 | some p =>
  obtain ⟨k, v⟩ := p
  rw [hg] at ho
  simp only at ho
  split at ho
  ·cases ho
  ·rename_i hl
   have : r = stepU name u k v := by injection ho
   rw [this]
   exact (longU_iff _).1 (by simpa using hl)
theorem two_comm (name : Str) (kind : Int) (u : UV) (hu : okU u) (a b : Ln) (ka kb : KeyS) (va vb : Str) (ha : goodL name kind a = some (ka, va)) (hb : goodL name kind b = some (kb, vb)) (hne : slotK ka.name ≠ slotK kb.name) (t : List Ln) :
  Except.opt (linesU name kind u (a :: b :: t)) = Except.opt (linesU name kind u (b :: a :: t)) := by
 have hab : stepU name (stepU name u ka va) kb vb = stepU name (stepU name u kb vb) ka va := by
  unfold stepU
  rw [UV.upd_ne _ _ (fun e => hne e.symm), UV.upd_ne _ _ hne, UV.upd_comm _ _ _ hne]
 have la : longU (stepU name u ka va) = false ↔ overF (slotK ka.name) (fieldS name ka va (u (slotK ka.name))) = false := (longU_iff _).trans (okU_upd u hu _ _)
 have lb : longU (stepU name u kb vb) = false ↔ overF (slotK kb.name) (fieldS name kb vb (u (slotK kb.name))) = false := (longU_iff _).trans (okU_upd u hu _ _)
 have two (x y : KeyS) (vx vy : Str) (hxy : slotK x.name ≠ slotK y.name) (hx : longU (stepU name u x vx) = false) :
   longU (stepU name (stepU name u x vx) y vy) = false ↔ overF (slotK y.name) (fieldS name y vy (u (slotK y.name))) = false := by
  rw [longU_iff]
  unfold stepU at hx ⊢
  rw [okU_upd _ ((longU_iff _).1 hx), UV.upd_ne _ _ (fun e => hxy e.symm)]
 rw [linesU_opt, linesU_opt, lineU_opt, lineU_opt, ha, hb]
 simp only
 by_cases h1 : longU (stepU name u ka va) = true
 ·rw [if_pos h1]
  by_cases h2 : longU (stepU name u kb vb) = true
  ·rw [if_pos h2]; rfl
  ·rw [if_neg h2]
   have h2' : longU (stepU name u kb vb) = false := by simpa using h2
   simp only [Option.bind_none, Option.bind_some]
   rw [linesU_opt, lineU_opt, ha]
   simp only
   have : ¬ longU (stepU name (stepU name u kb vb) ka va) = false := by
    rw [two kb ka vb va (fun e => hne e.symm) h2', ← la]; simp [h1]
   rw [if_pos (by simpa using this)]
   rfl
 ·have h1' : longU (stepU name u ka va) = false := by simpa using h1
  rw [if_neg h1]
  simp only [Option.bind_some]
  rw [linesU_opt, lineU_opt, hb]
  simp only
  by_cases h2 : longU (stepU name u kb vb) = true
  ·rw [if_pos h2]
   have : ¬ longU (stepU name (stepU name u ka va) kb vb) = false := by
    rw [two ka kb va vb hne h1', ← lb]; simp [h2]
   rw [if_pos (by simpa using this)]
   rfl
  ·have h2' : longU (stepU name u kb vb) = false := by simpa using h2
   have h3 : longU (stepU name (stepU name u ka va) kb vb) = false := (two ka kb va vb hne h1').2 (lb.1 h2')
   rw [if_neg h2, if_neg (by rw [h3]; simp)]
   simp only [Option.bind_some]
   rw [linesU_opt, lineU_opt, ha]
   simp only
   rw [← hab, if_neg (by rw [h3]; simp)]
   rfl
theorem none_comm (name : Str) (kind : Int) (u : UV) (a b : Ln) (t : List Ln) (h : goodL name kind a = none ∨ goodL name kind b = none) :
  Except.opt (linesU name kind u (a :: b :: t)) = none := by
 rw [linesU_opt, lineU_opt]
 rcases h with h | h
 ·rw [h]; rfl
 ·cases goodL name kind a with
  | none => rfl
  | some p =>
   obtain ⟨k, v⟩ := p
   simp only
   split
   ·rfl
   ·simp only [Option.bind_some]
    rw [linesU_opt, lineU_opt, h]; rfl
theorem slots0 : (allKeys.all fun k => allKeys.all fun q => !(slotK k.name == slotK q.name) || ((k.sec == q.sec && k.name == q.name) || ((decide (0 < relK k.name) && decide (0 < relK q.name)) || ([1, 2, 3, 4] : List Int).all fun n => !(someK k.sec n && someK q.sec n)))) = true := by decide +kernel
theorem find_is (sec name : Str) (k : KeyS) (h : findKey sec name = some k) : k.sec = sec ∧ k.name = name := by
 unfold findKey at h
 have := List.find?_some h
 simpa using this
theorem someK_range (sec : Str) (kind : Int) (h : someK sec kind = true) : kind = 1 ∨ kind = 2 ∨ kind = 3 ∨ kind = 4 := by
 unfold someK at h
 rw [List.any_eq_true] at h
 obtain ⟨k, _, h⟩ := h
 rw [Bool.and_eq_true] at h
 have h2 := h.2
 unfold inKind at h2
 simp only [Bool.and_eq_true, decide_eq_true_eq] at h2
 omega
theorem goodL_is (name : Str) (kind : Int) (x : Ln) (k : KeyS) (v : Str) (h : goodL name kind x = some (k, v)) : findKey x.sec x.key = some k ∧ someK x.sec kind = true := by
 unfold goodL at h
 cases hs : specS x.val name with
 | error e => rw [hs] at h; cases h
 | ok v' =>
  rw [hs] at h
  simp only at h
  by_cases h0 : lnS kind { x with val := v' } ≠ 0
  ·rw [if_pos h0] at h; cases h
  ·rw [if_neg h0] at h
   cases hk : findKey x.sec x.key with
   | none => rw [hk] at h; cases h
   | some k' =>
    rw [hk] at h
    simp only at h
    split at h
    ·cases h
    ·have : k' = k := by injection h with h; injection h
     subst this
     refine ⟨rfl, ?_⟩
     cases hq : someK x.sec kind with
     | true => rfl
     | false =>
      exfalso
      apply h0
      unfold lnS lineE
      simp only
      rw [if_pos hq]
      decide
theorem swap_opt (name : Str) (kind : Int) (a b : Ln) (h1 : ¬ (a.sec = b.sec ∧ a.key = b.key)) (h2 : ¬ (0 < relK a.key ∧ 0 < relK b.key)) (t : List Ln) :
  ∀ (p : List Ln) (u : UV), okU u → Except.opt (linesU name kind u (p ++ a :: b :: t)) = Except.opt (linesU name kind u (p ++ b :: a :: t))
 | [], u, hu => by
  simp only [List.nil_append]
  cases ha : goodL name kind a with
  | none => rw [none_comm name kind u a b t (.inl ha), none_comm name kind u b a t (.inr ha)]
  | some x =>
   cases hb : goodL name kind b with
   | none => rw [none_comm name kind u a b t (.inr hb), none_comm name kind u b a t (.inl hb)]
   | some y =>
    obtain ⟨ka, va⟩ := x
    obtain ⟨kb, vb⟩ := y
    refine two_comm name kind u hu a b ka kb va vb ha hb ?_ t
    intro e
    obtain ⟨fa, sa⟩ := goodL_is name kind a ka va ha
    obtain ⟨fb, sb⟩ := goodL_is name kind b kb vb hb
    obtain ⟨a1, a2⟩ := find_is _ _ _ fa
    obtain ⟨b1, b2⟩ := find_is _ _ _ fb
    have hs := List.all_eq_true.1 (List.all_eq_true.1 slots0 ka (find_mem _ _ _ fa)) kb (find_mem _ _ _ fb)
    rw [e, beq_self_eq_true, Bool.not_true, Bool.false_or, Bool.or_eq_true, Bool.or_eq_true] at hs
    rcases hs with hs | hs | hs
    ·apply h1; rw [← a1, ← a2, ← b1, ← b2]; simpa using hs
    ·apply h2; rw [← a2, ← b2]; simpa using hs
    ·have := List.all_eq_true.1 hs kind (by rcases someK_range _ _ sa with rfl | rfl | rfl | rfl <;> simp)
     rw [a1, b1, sa, sb] at this
     simp at this
 | x :: p, u, hu => by
  rw [List.cons_append, List.cons_append, linesU_opt, linesU_opt]
  cases hx : lineU name kind u x with
  | error e => rfl
  | ok r => exact swap_opt name kind a b h1 h2 t p r (lineU_ok name kind u r x hx)
theorem lineU_err (name : Str) (kind : Int) (u : UV) (x : Ln) (e : Int) (h : lineU name kind u x = .error e) : e ≠ 0 := by
 unfold lineU at h
 cases hs : specS x.val name with
 | error c =>
  rw [hs] at h
  injection h with h
  subst h
  unfold specS at hs
  split at hs
  ·injection hs with hs; subst hs; decide
  ·split at hs
   ·injection hs with hs; subst hs; decide
   ·cases hs
 | ok v =>
  rw [hs] at h
  simp only at h
  by_cases h0 : lnS kind { x with val := v } ≠ 0
  ·rw [if_pos h0] at h
   injection h with h
   subst h; exact h0
  ·rw [if_neg h0] at h
   cases hk : findKey x.sec x.key with
   | none => rw [hk] at h; injection h with h; subst h; decide
   | some k =>
    rw [hk] at h
    simp only at h
    split at h
    ·injection h with h; subst h; decide
    ·split at h
     ·injection h with h; subst h; decide
     ·cases h
theorem linesU_err (name : Str) (kind : Int) : ∀ (l : List Ln) (u : UV) (e : Int × Int), linesU name kind u l = .error e → e.1 ≠ 0
 | [], u, e, h => by cases h
 | x :: t, u, e, h => by
  rw [linesU] at h
  cases hx : lineU name kind u x with
  | error c => rw [hx] at h; injection h with h; subst h; exact lineU_err name kind u x c hx
  | ok r => rw [hx] at h; exact linesU_err name kind t r e h
theorem okU_zero : okU zeroU := by
 intro j
 unfold overF
 split
 ·rename_i e; subst e; rfl
 ·cases hc : listIx.contains j with
  | false => rfl
  | true =>
   have : ∀ i ∈ listIx, decide (16 < (zeroU i).len) = false := by decide
   rw [this j (by simpa using hc)]; rfl
theorem overF_small (i : Nat) (c : UC) (h : c.len = 0) : overF i c = false := by
 unfold overF
 rw [h]
 split
 ·rfl
 ·simp
theorem okU_new (name : Str) : okU (newU name) := by
 unfold newU
 split
 ·exact okU_zero
 ·have h1 : okU (((((zeroU.upd 0 (.s name)).upd 1 (.n (kindS name : Nat))).upd 3 (.b true)).upd 5 (.n 10)).upd 6 (.n 5)) := by
   refine (okU_upd _ ((okU_upd _ ((okU_upd _ ((okU_upd _ ((okU_upd _ okU_zero _ _).2 ?_) _ _).2 ?_) _ _).2 ?_) _ _).2 ?_) _ _).2 ?_ <;> exact overF_small _ _ rfl
  simp only
  split
  ·refine (okU_upd _ ((okU_upd _ ((okU_upd _ ((okU_upd _ h1 _ _).2 ?_) _ _).2 ?_) _ _).2 ?_) _ _).2 ?_ <;> exact overF_small _ _ rfl
  ·split
   ·exact (okU_upd _ h1 _ _).2 (overF_small _ _ rfl)
   ·exact h1
theorem makeU_opt (name : Str) (l m : List Ln) (h : Except.opt (linesU name (kindS name : Nat) (newU name) l) = Except.opt (linesU name (kindS name : Nat) (newU name) m)) :
  ((makeU name l).2.1 = 0 ↔ (makeU name m).2.1 = 0) ∧ (makeU name l).1 = (makeU name m).1 := by
 unfold makeU
 by_cases hn : kindS name = 0 ∨ bareS name = true
 ·rw [if_pos hn, if_pos hn]; exact ⟨Iff.rfl, rfl⟩
 ·rw [if_neg hn, if_neg hn]
  cases hl : linesU name (kindS name : Nat) (newU name) l with
  | error e =>
   rw [hl] at h
   cases hm : linesU name (kindS name : Nat) (newU name) m with
   | error c =>
    exact ⟨⟨fun q => absurd q (linesU_err _ _ _ _ _ hl), fun q => absurd q (linesU_err _ _ _ _ _ hm)⟩, rfl⟩
   | ok r => rw [hm] at h; cases h
  | ok r =>
   rw [hl] at h
   cases hm : linesU name (kindS name : Nat) (newU name) m with
   | error c => rw [hm] at h; cases h
   | ok q =>
    rw [hm] at h
    have : r = q := by injection h
    subst this
    exact ⟨Iff.rfl, rfl⟩
theorem order_law (name : Str) (p t : List Ln) (a b : Ln) (h1 : ¬ (a.sec = b.sec ∧ a.key = b.key)) (h2 : ¬ (0 < relK a.key ∧ 0 < relK b.key)) :
  ((makeU name (p ++ a :: b :: t)).2.1 = 0 ↔ (makeU name (p ++ b :: a :: t)).2.1 = 0) ∧ (makeU name (p ++ a :: b :: t)).1 = (makeU name (p ++ b :: a :: t)).1 :=
 makeU_opt name _ _ (swap_opt name _ a b h1 h2 t p _ (okU_new name))
open Go Go.RowKit
set_option maxRecDepth 100000
theorem same_kinds0 : (allKeys.all fun k => allKeys.all fun q => !(q.sec == k.sec) || decide (q.kinds = k.kinds)) = true := by kernel_rfl
theorem some_kinds (k : KeyS) (hk : k ∈ allKeys) (kind : Int) : someK k.sec kind = inKind k.kinds kind := by
 have hs : ∀ q ∈ allKeys, (q.sec == k.sec) = true → q.kinds = k.kinds := fun q hq h => by
  have := List.all_eq_true.1 (List.all_eq_true.1 same_kinds0 k hk) q hq
  rw [h] at this
  simpa using this
 unfold someK
 rw [Bool.eq_iff_iff, List.any_eq_true]
 constructor
 ·rintro ⟨q, hq, h⟩
  rw [Bool.and_eq_true] at h
  rw [← hs q hq h.1]; exact h.2
 ·intro h
  exact ⟨k, hk, by rw [h]; simp⟩
theorem ln_key (k : KeyS) (hk : k ∈ allKeys) (kind at_ : Int) (val : Str) : lnS kind ⟨k.sec, k.name, val, at_⟩ = if inKind k.kinds kind = false then 10 else if valS val k = 0 then 0 else 12 := by
 unfold lnS lineE
 simp only
 rw [some_kinds k hk, find_each k hk]
theorem listKeys0 : (allKeys.all fun k => !k.list || (
  (k.form == 7 && ([8, 9, 10, 11, 12] : List Nat).contains (slotK k.name)) || (k.form == 8 && slotK k.name == 19) || (k.form == 9 && slotK k.name == 28) || (k.form == 11 && ([18, 21] : List Nat).contains (slotK k.name)) ||
  (k.form == 4 && ([25, 26, 27] : List Nat).contains (slotK k.name)) || (k.form == 6 && (relK k.name == 0 && ([20, 30, 31, 32, 33] : List Nat).contains (slotK k.name))) || (k.form == 6 && (decide (0 < relK k.name) && slotK k.name == 4)))) = true := by decide +kernel
theorem relKeys0 : (allKeys.all fun k => !decide (0 < relK k.name) || (k.form == 6 && slotK k.name == 4)) = true := by decide +kernel
theorem relInj0 : (allKeys.all fun k => allKeys.all fun q => !(decide (0 < relK k.name) && relK k.name == relK q.name) || (k.sec == q.sec && k.name == q.name)) = true := by decide +kernel
theorem relsPut_filter (name : Str) (rk rq : Int) (h : rk ≠ rq) : ∀ (ws : List Str) (l : List (Int × Str)), (relsPut name rq l ws).filter (fun r => r.1 != rk) = relsPut name rq (l.filter (fun r => r.1 != rk)) ws
 | [], l => rfl
 | s :: t, l => by
  rw [relsPut, relsPut, relsPut_filter name rk rq h t]
  congr 1
  have hm : (rq, s) ∈ l.filter (fun r => r.1 != rk) ↔ (rq, s) ∈ l := by
   rw [List.mem_filter]
   simp only [bne_iff_ne, ne_eq, and_iff_left_iff_imp]
   exact fun _ e => h e.symm
  by_cases hc : s ≠ name ∧ (rq, s) ∉ l
  ·rw [if_pos hc, if_pos ⟨hc.1, fun e => hc.2 (hm.1 e)⟩, List.filter_append]
   congr 1
   rw [List.filter_cons, if_pos (by simpa using fun e => h e.symm)]
   rfl
  ·rw [if_neg hc, if_neg (fun e => hc ⟨e.1, fun q => e.2 (hm.2 q)⟩)]
theorem relsPut_gone (name : Str) (rk : Int) : ∀ (ws : List Str) (l : List (Int × Str)), (relsPut name rk l ws).filter (fun r => r.1 != rk) = l.filter (fun r => r.1 != rk)
 | [], l => rfl
 | s :: t, l => by
  rw [relsPut, relsPut_gone name rk t]
  split
  ·rw [List.filter_append]
   have : List.filter (fun r : Int × Str => r.1 != rk) [(rk, s)] = [] := by rw [List.filter_cons, if_neg (by simp)]; rfl
   rw [this, List.append_nil]
  ·rfl
theorem blanks_nilE : blanksS [] = [] := by decide
theorem env_nil : (envS []).1 = [] := by decide +kernel
theorem empty_list (name : Str) (k : KeyS) (hk : k ∈ allKeys) (hl : k.list = true) (hr : relK k.name = 0) : ∃ E : UC, E.len = 0 ∧ (∀ c, fieldS name k [] c = E) ∧ zeroU (slotK k.name) = E ∧ slotK k.name ≠ 4 ∧ slotK k.name ∉ ([0, 1, 3, 5, 6, 7, 14, 16, 17, 22] : List Nat) := by
 have h := List.all_eq_true.1 listKeys0 k hk
 rw [hl] at h
 simp only [Bool.not_true, Bool.false_or, Bool.or_eq_true, Bool.and_eq_true, beq_iff_eq, decide_eq_true_eq, List.contains_iff_mem] at h
 unfold fieldS
 rw [blanks_nilE, env_nil]
 rcases h with (((((⟨f, s⟩ | ⟨f, s⟩) | ⟨f, s⟩) | ⟨f, s⟩) | ⟨f, s⟩) | ⟨f, _, s⟩) | ⟨f, h0, s⟩
 ·refine ⟨.cs [], rfl, fun c => by rw [f]; rfl, ?_⟩
  revert s; generalize slotK k.name = i; intro s
  simp only [List.mem_cons, List.not_mem_nil, or_false] at s
  rcases s with rfl | rfl | rfl | rfl | rfl <;> exact ⟨rfl, by decide, by decide⟩
 ·refine ⟨.ps [], rfl, fun c => by rw [f]; rfl, ?_⟩
  rw [s]; exact ⟨rfl, by decide, by decide⟩
 ·refine ⟨.ss [], rfl, fun c => by rw [f]; rfl, ?_⟩
  rw [s]; exact ⟨rfl, by decide, by decide⟩
 ·refine ⟨.ns [], rfl, fun c => by rw [f]; rfl, ?_⟩
  revert s; generalize slotK k.name = i; intro s
  simp only [List.mem_cons, List.not_mem_nil, or_false] at s
  rcases s with rfl | rfl <;> exact ⟨rfl, by decide, by decide⟩
 ·refine ⟨.ns [], rfl, fun c => by rw [f, hl]; rfl, ?_⟩
  revert s; generalize slotK k.name = i; intro s
  simp only [List.mem_cons, List.not_mem_nil, or_false] at s
  rcases s with rfl | rfl | rfl <;> exact ⟨rfl, by decide, by decide⟩
 ·refine ⟨.ss [], rfl, fun c => by rw [f, hr]; rfl, ?_⟩
  revert s; generalize slotK k.name = i; intro s
  simp only [List.mem_cons, List.not_mem_nil, or_false] at s
  rcases s with rfl | rfl | rfl | rfl | rfl <;> exact ⟨rfl, by decide, by decide⟩
 ·omega
theorem rel_form (k : KeyS) (hk : k ∈ allKeys) (hr : 0 < relK k.name) : k.form = 6 ∧ slotK k.name = 4 := by
 have h := List.all_eq_true.1 relKeys0 k hk
 rw [decide_eq_true hr] at h
 simpa using h
theorem field_rel (name : Str) (k : KeyS) (f : k.form = 6) (hr : 0 < relK k.name) (v : Str) (c : UC) :
  fieldS name k v c = .rs (relsPut name (relK k.name : Nat) (if v = [] then c.rels.filter (fun r => r.1 != (relK k.name : Nat)) else c.rels) (blanksS v)) := by
 unfold fieldS
 rw [f, if_neg (by decide), if_neg (by decide), if_neg (by decide), if_neg (by decide), if_neg (by decide), if_neg (by decide), if_neg (by decide), if_neg (by decide), if_neg (by decide), if_neg (by omega)]
theorem empty_after (name : Str) (k : KeyS) (hk : k ∈ allKeys) (hl : k.list = true) (v : Str) (c : UC) : fieldS name k [] (fieldS name k v c) = fieldS name k [] c := by
 by_cases hr : relK k.name = 0
 ·obtain ⟨E, _, h, _⟩ := empty_list name k hk hl hr
  rw [h, h]
 ·obtain ⟨f, _⟩ := rel_form k hk (by omega)
  rw [field_rel name k f (by omega) [] c, field_rel name k f (by omega) v c, field_rel name k f (by omega) [] (.rs _), if_pos rfl, if_pos rfl, blanks_nilE]
  show UC.rs ((relsPut name _ _ _).filter _) = UC.rs (c.rels.filter _)
  rw [relsPut_gone]
  split
  ·rw [List.filter_filter]; simp
  ·rfl
def eraseU (name : Str) (k : KeyS) (u : UV) : UV := u.upd (slotK k.name) (fieldS name k [] (u (slotK k.name)))
theorem empty_len (name : Str) (k : KeyS) (hk : k ∈ allKeys) (hl : k.list = true) (c : UC) (i : Nat) (hi : i = slotK k.name) (h : overF i c = false) : overF i (fieldS name k [] c) = false := by
 by_cases hr : relK k.name = 0
 ·obtain ⟨E, h0, h1, _⟩ := empty_list name k hk hl hr
  rw [h1]; exact overF_small _ _ h0
 ·obtain ⟨f, s⟩ := rel_form k hk (by omega)
  rw [field_rel name k f (by omega) [] c, if_pos rfl, blanks_nilE]
  subst hi
  rw [s] at h ⊢
  unfold overF at h ⊢
  rw [if_pos rfl] at h ⊢
  show decide (64 < (c.rels.filter _).length) = false
  have h2 := List.length_filter_le (fun r : Int × Str => r.1 != (relK k.name : Nat)) c.rels
  have h3 : c.rels.length ≤ c.len := by cases c <;> simp [UC.rels, UC.len]
  have h4 : ¬ 64 < c.len := by simpa using h
  exact decide_eq_false (by omega)
theorem line_erase (name : Str) (kind : Int) (k : KeyS) (hk : k ∈ allKeys) (hl : k.list = true) (hkk : someK k.sec kind = true) (u r : UV) (hu : okU u) (x : Ln) (hx : ¬ (x.sec = k.sec ∧ x.key = k.name)) (h : lineU name kind u x = .ok r) :
  lineU name kind (eraseU name k u) x = .ok (eraseU name k r) := by
 have ho := lineU_opt name kind u x
 rw [h] at ho
 cases hg : goodL name kind x with
 | none => rw [hg] at ho; cases ho
 | some p =>
  obtain ⟨q, v⟩ := p
  obtain ⟨fq, sq⟩ := goodL_is name kind x q v hg
  obtain ⟨q1, q2⟩ := find_is _ _ _ fq
  have hqm := find_mem _ _ _ fq
  rw [hg] at ho
  simp only at ho
  by_cases hlg : longU (stepU name u q v) = true
  ·rw [if_pos hlg] at ho; cases ho
  ·rw [if_neg hlg] at ho
   have hr : r = stepU name u q v := by injection ho
   have hok : okU r := lineU_ok name kind u r x h
   have hstep : stepU name (eraseU name k u) q v = eraseU name k r ∧ okU (eraseU name k r) := by
    rw [hr] at hok ⊢
    have her : okU (eraseU name k (stepU name u q v)) := (okU_upd _ hok _ _).2 (empty_len name k hk hl _ _ rfl (hok _))
    refine ⟨?_, her⟩
    unfold stepU eraseU
    by_cases hij : slotK q.name = slotK k.name
    ·have hs := List.all_eq_true.1 (List.all_eq_true.1 slots0 q hqm) k hk
     rw [hij, beq_self_eq_true, Bool.not_true, Bool.false_or, Bool.or_eq_true, Bool.or_eq_true] at hs
     rcases hs with hs | hs | hs
     ·exact absurd (by rw [← q1, ← q2]; simpa using hs) hx
     ·have hs2 : 0 < relK q.name ∧ 0 < relK k.name := by simpa using hs
      obtain ⟨fq6, s4⟩ := rel_form q hqm hs2.1
      obtain ⟨fk6, t4⟩ := rel_form k hk hs2.2
      rw [s4, t4, UV.upd_at, UV.upd_at, UV.upd_same, UV.upd_same]
      congr 1
      have hne : ((relK k.name : Nat) : Int) ≠ ((relK q.name : Nat) : Int) := by
       intro e
       have hi := List.all_eq_true.1 (List.all_eq_true.1 relInj0 q hqm) k hk
       have e2 : relK q.name = relK k.name := by omega
       rw [decide_eq_true hs2.1, e2, beq_self_eq_true] at hi
       exact hx (by rw [← q1, ← q2]; simpa using hi)
      rw [field_rel name q fq6 hs2.1, field_rel name q fq6 hs2.1, field_rel name k fk6 hs2.2, field_rel name k fk6 hs2.2, if_pos rfl, if_pos rfl, blanks_nilE]
      show UC.rs (relsPut name _ (if v = [] then List.filter _ (List.filter _ (u 4).rels) else List.filter _ (u 4).rels) (blanksS v)) = UC.rs (List.filter _ (relsPut name _ _ (blanksS v)))
      rw [relsPut_filter name _ _ hne]
      congr 2
      split
      ·rw [List.filter_filter, List.filter_filter]
       congr 1
       funext r
       exact Bool.and_comm _ _
      ·rfl
     ·have := List.all_eq_true.1 hs kind (by rcases someK_range _ _ hkk with rfl | rfl | rfl | rfl <;> simp)
      rw [q1, sq, hkk] at this
      simp at this
    ·rw [UV.upd_ne _ _ hij, UV.upd_ne _ _ (fun e => hij e.symm), UV.upd_comm _ _ _ (fun e => hij e.symm)]
   have ho2 := lineU_opt name kind (eraseU name k u) x
   rw [hg] at ho2
   simp only at ho2
   rw [hstep.1, if_neg (by rw [(longU_iff _).2 hstep.2]; simp)] at ho2
   cases hq : lineU name kind (eraseU name k u) x with
   | error e => rw [hq] at ho2; cases ho2
   | ok w =>
    rw [hq] at ho2
    have : w = eraseU name k r := by injection ho2
    rw [this]
theorem line_self (name : Str) (kind : Int) (k : KeyS) (hk : k ∈ allKeys) (hl : k.list = true) (u r : UV) (x : Ln) (hx : x.sec = k.sec ∧ x.key = k.name) (h : lineU name kind u x = .ok r) : eraseU name k r = eraseU name k u := by
 have ho := lineU_opt name kind u x
 rw [h] at ho
 cases hg : goodL name kind x with
 | none => rw [hg] at ho; cases ho
 | some p =>
  obtain ⟨q, v⟩ := p
  obtain ⟨fq, sq⟩ := goodL_is name kind x q v hg
  rw [hx.1, hx.2, find_each k hk] at fq
  have hqk : k = q := by injection fq
  subst hqk
  rw [hg] at ho
  simp only at ho
  by_cases hlg : longU (stepU name u k v) = true
  ·rw [if_pos hlg] at ho; cases ho
  ·rw [if_neg hlg] at ho
   have hr : r = stepU name u k v := by injection ho
   rw [hr]
   unfold eraseU stepU
   rw [UV.upd_at, UV.upd_same, empty_after name k hk hl]
def otherKey (k : KeyS) (x : Ln) : Bool := x.sec != k.sec || x.key != k.name
theorem otherKey_no (k : KeyS) (x : Ln) : otherKey k x = false ↔ x.sec = k.sec ∧ x.key = k.name := by
 unfold otherKey; simp
theorem lines_erase (name : Str) (kind : Int) (k : KeyS) (hk : k ∈ allKeys) (hl : k.list = true) (hkk : someK k.sec kind = true) : ∀ (l : List Ln) (u r : UV), okU u → linesU name kind u l = .ok r → linesU name kind (eraseU name k u) (l.filter (otherKey k)) = .ok (eraseU name k r)
 | [], u, r, hu, h => by
  have : u = r := by injection h
  rw [this]; rfl
 | x :: t, u, r, hu, h => by
  rw [linesU] at h
  cases hx : lineU name kind u x with
  | error e => rw [hx] at h; cases h
  | ok w =>
   rw [hx] at h
   have hw := lineU_ok name kind u w x hx
   have ih := lines_erase name kind k hk hl hkk t w r hw h
   cases ho : otherKey k x with
   | true =>
    rw [List.filter_cons, if_pos ho, linesU, line_erase name kind k hk hl hkk u w hu x (fun e => by rw [(otherKey_no k x).2 e] at ho; cases ho) hx]
    exact ih
   | false =>
    rw [List.filter_cons, if_neg (by rw [ho]; simp), ← line_self name kind k hk hl u w x ((otherKey_no k x).1 ho) hx]
    exact ih
theorem newU_at (name : Str) (i : Nat) (h : i ∉ ([0, 1, 3, 5, 6, 7, 14, 16, 17, 22] : List Nat)) : newU name i = zeroU i := by
 simp only [List.mem_cons, List.not_mem_nil, or_false, not_or] at h
 obtain ⟨h0, h1, h3, h5, h6, h7, h14, h16, h17, h22⟩ := h
 unfold newU
 split
 ·rfl
 ·have hb : ((((((zeroU.upd 0 (.s name)).upd 1 (.n (kindS name : Nat))).upd 3 (.b true)).upd 5 (.n 10)).upd 6 (.n 5)) : UV) i = zeroU i := by
   rw [UV.upd_ne _ _ h6, UV.upd_ne _ _ h5, UV.upd_ne _ _ h3, UV.upd_ne _ _ h1, UV.upd_ne _ _ h0]
  simp only
  split
  ·rw [UV.upd_ne _ _ h17, UV.upd_ne _ _ h16, UV.upd_ne _ _ h14, UV.upd_ne _ _ h7, hb]
  ·split
   ·rw [UV.upd_ne _ _ h22, hb]
   ·exact hb
theorem erase_new (name : Str) (k : KeyS) (hk : k ∈ allKeys) (hl : k.list = true) : eraseU name k (newU name) = newU name := by
 have key : fieldS name k [] (newU name (slotK k.name)) = newU name (slotK k.name) := by
  by_cases hr : relK k.name = 0
  ·obtain ⟨E, _, h1, h2, _, h4⟩ := empty_list name k hk hl hr
   rw [h1, newU_at name _ h4, h2]
  ·obtain ⟨f, s⟩ := rel_form k hk (by omega)
   rw [s, newU_at name 4 (by decide), field_rel name k f (by omega), if_pos rfl, blanks_nilE]
   rfl
 funext j
 unfold eraseU UV.upd
 split
 ·rename_i e; rw [key, e]
 ·rfl
theorem valS_empty (k : KeyS) (hk : k ∈ allKeys) (hl : k.list = true) : valS [] k = 0 := by
 have h0 : (allKeys.all fun k => decide (1 ≤ k.form) && decide (k.form ≤ 11)) = true := by kernel_rfl
 have h1 := List.all_eq_true.1 h0 k hk
 simp only [Bool.and_eq_true, decide_eq_true_eq] at h1
 have hn : ¬ (k.form < 1 ∨ 11 < k.form) := by omega
 unfold valS valE
 rw [if_neg hn, if_pos ⟨rfl, .inl hl⟩]
theorem after_empty (k : KeyS) (hk : k ∈ allKeys) (hl : k.list = true) : afterS k [] = true := by
 have h0 : (allKeys.all fun k => !k.list || !(k.form == 5)) = true := by kernel_rfl
 have h1 := List.all_eq_true.1 h0 k hk
 rw [hl] at h1
 unfold afterS
 rw [if_neg (by intro e; rw [e] at h1; simp at h1), blanks_nilE]
 split <;> simp
theorem line_empty (name : Str) (kind : Int) (hn : kindS name ≠ 0) (k : KeyS) (hk : k ∈ allKeys) (hl : k.list = true) (hkk : inKind k.kinds kind = true) (u : UV) (hu : okU u) (at_ : Int) :
  lineU name kind u ⟨k.sec, k.name, [], at_⟩ = .ok (eraseU name k u) := by
 have hs : specS [] name = .ok [] := by unfold specS; rw [if_neg hn]; rfl
 have h0 : lnS kind ⟨k.sec, k.name, [], at_⟩ = 0 := by rw [ln_key k hk, if_neg (by rw [hkk]; simp), valS_empty k hk hl, if_pos rfl]
 have hlong : longU (eraseU name k u) = false := (longU_iff _).2 ((okU_upd _ hu _ _).2 (empty_len name k hk hl _ _ rfl (hu _)))
 unfold eraseU at hlong
 unfold lineU eraseU
 simp only [hs]
 rw [if_neg (by rw [h0]; simp), find_each k hk]
 simp only
 rw [after_empty k hk hl, if_neg (by simp), if_neg (by rw [hlong]; simp)]
theorem lists_law (name : Str) (k : KeyS) (hk : k ∈ allKeys) (hl : k.list = true) (l : List Ln) (at_ : Int) (hf : (makeU name l).2.1 = 0) (hkk : inKind k.kinds (kindS name : Nat) = true) :
  makeU name (l ++ [⟨k.sec, k.name, [], at_⟩]) = makeU name (l.filter (otherKey k)) := by
 unfold makeU at hf ⊢
 by_cases hn : kindS name = 0 ∨ bareS name = true
 ·rw [if_pos hn] at hf; exact absurd hf (by decide)
 ·rw [if_neg hn] at hf
  rw [if_neg hn, if_neg hn, linesU_append]
  cases hq : linesU name (kindS name : Nat) (newU name) l with
  | error e => rw [hq] at hf; exact absurd hf (linesU_err _ _ _ _ _ hq)
  | ok u =>
   have hok : ∀ (l : List Ln) (u r : UV), okU u → linesU name (kindS name : Nat) u l = .ok r → okU r := by
    intro l
    induction l with
    | nil =>
     intro u r hu h
     have : u = r := by injection h
     rw [← this]; exact hu
    | cons x t ih =>
     intro u r hu h
     rw [linesU] at h
     cases hx : lineU name (kindS name : Nat) u x with
     | error e => rw [hx] at h; cases h
     | ok w => rw [hx] at h; exact ih w r (lineU_ok _ _ _ _ _ hx) h
   have hu := hok l _ _ (okU_new name) hq
   have hsk : someK k.sec (kindS name : Nat) = true := by rw [some_kinds k hk]; exact hkk
   have he := lines_erase name _ k hk hl hsk l _ _ (okU_new name) hq
   rw [erase_new name k hk hl] at he
   rw [he]
   simp only
   rw [linesU, line_empty name _ (fun e => hn (.inl e)) k hk hl hkk u hu at_]
   simp only
   rw [linesU]
end Go.Proofs.YtdjkedcpehhmnaaGreatDoor
