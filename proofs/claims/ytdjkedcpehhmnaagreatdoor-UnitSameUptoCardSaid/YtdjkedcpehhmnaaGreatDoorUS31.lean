import Derived.Test.YtdjkedcpehhmnaaGreatDoorUS1
import Derived.Test.YtdjkedcpehhmnaaGreatDoorUS5
import Derived.Test.YtdjkedcpehhmnaaGreatDoorUS8
import Derived.Test.YtdjkedcpehhmnaaGreatDoorUS10
import Derived.Test.YtdjkedcpehhmnaaGreatDoorUS16
import Derived.Test.YtdjkedcpehhmnaaGreatDoorUS30
namespace Go.Proofs.YtdjkedcpehhmnaaGreatDoor
set_option linter.unusedVariables false
structure CutS where
 kind : Nat
 pre : Str
 inst : Str
 at_ : Bool
deriving DecidableEq
def cutZ : CutS := ⟨0, [], [], false⟩
def ofS (s : Str) : CutS := if kindS s = 0 then cutZ else ⟨kindS s, (cutAt (cutPt s).1).1, (cutAt (cutPt s).1).2.1, (cutAt (cutPt s).1).2.2⟩
theorem kindOf_iff (t : Str) (k : Nat) (h1 : 1 ≤ k) (h4 : k ≤ 4) : kindOf t = k ↔ t = sufS k := by
 constructor
 ·intro h
  unfold kindOf at h
  split at h
  ·subst h; assumption
  split at h
  ·subst h; assumption
  split at h
  ·subst h; assumption
  split at h
  ·subst h; assumption
  ·omega
 ·rintro rfl
  match k, h1, h4 with
  | 1, _, _ => decide
  | 2, _, _ => decide
  | 3, _, _ => decide
  | 4, _, _ => decide
theorem suf_len (k : Nat) : (sufS k).length ≤ 7 := by
 unfold sufS; repeat' split <;> first | decide | skip
theorem of_match {s : Str} {k : Nat} (h1 : 1 ≤ k) (h4 : k ≤ 4) (hn : (cutPt s).1 ≠ []) (hk : kindOf (cutPt s).2 = k) : s = (cutPt s).1 ++ 46 :: sufS k := by
 rw [kindOf_iff _ k h1 h4] at hk
 rw [← hk]
 unfold cutPt at *
 rcases lastPt_cases s with ⟨h, _⟩ | ⟨a, b, h, h2, _⟩
 ·rw [h] at hn; exact absurd rfl hn
 ·rw [h]; exact h2
def keptC (c : UInt8) : Bool := isLetter c || (isDigit c || (c == 58 || (c == 95 || c == 46)))
def unescS : Str → Option Str
 | [] => some []
 | c :: t =>
  if c = 45 then (unescS t).map fun r => 47 :: r
  else if keptC c = true then (unescS t).map fun r => c :: r
  else match c, t with
   | 92, 120 :: a :: b :: u => match twoOf [a, b] with
    | none => none
    | some d => (unescS u).map fun r => d :: r
   | _, _ => none
def standsS (unit : Str) (c : UInt8) : Option Str :=
 if c = 37 then some [37]
 else if c = 110 then some unit
 else if c = 78 then some (cutPt unit).1
 else if c = 112 then some (ofS unit).pre
 else if c = 105 then some (ofS unit).inst
 else if c = 73 then some ((unescS (ofS unit).inst).getD (ofS unit).inst)
 else none
def pctS (unit : Str) : Str → Option Str
 | [] => some []
 | [c] => if c = 37 then none else some [c]
 | c :: d :: t =>
  if c = 37 then (match standsS unit d with
   | none => none
   | some x => (pctS unit t).map fun r => x ++ r)
  else (pctS unit (d :: t)).map fun r => c :: r
def specS (s unit : Str) : Except Int Str := if kindS unit = 0 then .error 5 else match pctS unit s with | none => .error 14 | some r => .ok r
abbrev CmdS := Bool × List Str
inductive UC where
 | s (x : Str)
 | n (x : Int)
 | b (x : Bool)
 | ss (l : List Str)
 | ns (l : List Int)
 | rs (l : List (Int × Str))
 | cs (l : List CmdS)
 | ps (l : List (Str × Str))
deriving DecidableEq
namespace UC
def num : UC → Int | .n x => x | _ => 0
def strs : UC → List Str | .ss l => l | _ => []
def nums : UC → List Int | .ns l => l | _ => []
def rels : UC → List (Int × Str) | .rs l => l | _ => []
def cmds : UC → List CmdS | .cs l => l | _ => []
def prs : UC → List (Str × Str) | .ps l => l | _ => []
def len : UC → Nat
 | .ss l => l.length
 | .ns l => l.length
 | .rs l => l.length
 | .cs l => l.length
 | .ps l => l.length
 | _ => 0
end UC
abbrev UV := Nat → UC
def UV.upd (u : UV) (i : Nat) (c : UC) : UV := fun j => if j = i then c else u j
theorem UV.upd_at (u : UV) (i : Nat) (c : UC) : u.upd i c i = c := by unfold UV.upd; rw [if_pos rfl]
theorem UV.upd_ne (u : UV) {i j : Nat} (c : UC) (h : j ≠ i) : u.upd i c j = u j := by unfold UV.upd; rw [if_neg h]
def zeroU : UV := fun i =>
 if i = 1 ∨ i = 5 ∨ i = 6 ∨ i = 7 ∨ i = 14 ∨ i = 15 ∨ i = 16 ∨ i = 17 ∨ i = 22 then .n 0
 else if i = 3 ∨ i = 13 ∨ i = 29 then .b false
 else if i = 4 then .rs []
 else if i = 8 ∨ i = 9 ∨ i = 10 ∨ i = 11 ∨ i = 12 then .cs []
 else if i = 18 ∨ i = 21 ∨ i = 25 ∨ i = 26 ∨ i = 27 then .ns []
 else if i = 19 then .ps []
 else if i = 20 ∨ i = 28 ∨ i = 30 ∨ i = 31 ∨ i = 32 ∨ i = 33 then .ss []
 else .s []
def newU (unit : Str) : UV :=
 if kindS unit = 0 then zeroU else
  let u := ((((zeroU.upd 0 (.s unit)).upd 1 (.n (kindS unit : Nat))).upd 3 (.b true)).upd 5 (.n 10)).upd 6 (.n 5)
  if kindS unit = 1 then (((u.upd 7 (.n 1)).upd 14 (.n 1)).upd 16 (.n 90)).upd 17 (.n 90)
  else if kindS unit = 2 then u.upd 22 (.n 16)
  else u
def relK (key : Str) : Nat := List.idxOf key [[82, 101, 113, 117, 105, 114, 101, 115], [87, 97, 110, 116, 115], [82, 101, 113, 117, 105, 115, 105, 116, 101], [66, 105, 110, 100, 115, 84, 111], [80, 97, 114, 116, 79, 102], [67, 111, 110, 102, 108, 105, 99, 116, 115], [66, 101, 102, 111, 114, 101], [65, 102, 116, 101, 114], [79, 110, 70, 97, 105, 108, 117, 114, 101]] % 9 + (if key ∈ ([[82, 101, 113, 117, 105, 114, 101, 115], [87, 97, 110, 116, 115], [82, 101, 113, 117, 105, 115, 105, 116, 101], [66, 105, 110, 100, 115, 84, 111], [80, 97, 114, 116, 79, 102], [67, 111, 110, 102, 108, 105, 99, 116, 115], [66, 101, 102, 111, 114, 101], [65, 102, 116, 101, 114], [79, 110, 70, 97, 105, 108, 117, 114, 101]] : List Str) then 1 else 0)
def onceS {α : Type} [DecidableEq α] (l some_ : List α) : List α := if some_ = [] then [] else some_.foldl (fun l x => if x ∈ l then l else l ++ [x]) l
def moreS {α : Type} (l : List α) (v : Str) (x : α) : List α := if v = [] then [] else l ++ [x]
def envPut (l : List (Str × Str)) : List (Str × Str) → List (Str × Str)
 | [] => l
 | p :: t => envPut (l.filter (fun x => x.1 != p.1) ++ [p]) t
def relsPut (name : Str) (rel : Int) : List (Int × Str) → List Str → List (Int × Str)
 | l, [] => l
 | l, s :: t => relsPut name rel (if s ≠ name ∧ (rel, s) ∉ l then l ++ [(rel, s)] else l) t
def slotTab : List (Str × Nat) := [([68, 101, 115, 99, 114, 105, 112, 116, 105, 111, 110], 2), ([68, 101, 102, 97, 117, 108, 116, 68, 101, 112, 101, 110, 100, 101, 110, 99, 105, 101, 115], 3), ([83, 116, 97, 114, 116, 76, 105, 109, 105, 116, 73, 110, 116, 101, 114, 118, 97, 108, 83, 101, 99], 5), ([83, 116, 97, 114, 116, 76, 105, 109, 105, 116, 66, 117, 114, 115, 116], 6), ([84, 121, 112, 101], 7), ([69, 120, 101, 99, 83, 116, 97, 114, 116, 80, 114, 101], 8), ([69, 120, 101, 99, 83, 116, 97, 114, 116], 9), ([69, 120, 101, 99, 83, 116, 97, 114, 116, 80, 111, 115, 116], 10), ([69, 120, 101, 99, 83, 116, 111, 112], 11), ([69, 120, 101, 99, 82, 101, 108, 111, 97, 100], 12), ([82, 101, 109, 97, 105, 110, 65, 102, 116, 101, 114, 69, 120, 105, 116], 13), ([82, 101, 115, 116, 97, 114, 116], 14), ([82, 101, 115, 116, 97, 114, 116, 83, 101, 99], 15), ([84, 105, 109, 101, 111, 117, 116, 83, 116, 97, 114, 116, 83, 101, 99], 16), ([84, 105, 109, 101, 111, 117, 116, 83, 116, 111, 112, 83, 101, 99], 17), ([83, 117, 99, 99, 101, 115, 115, 69, 120, 105, 116, 83, 116, 97, 116, 117, 115], 18), ([69, 110, 118, 105, 114, 111, 110, 109, 101, 110, 116], 19), ([83, 111, 99, 107, 101, 116, 115], 20), ([76, 105, 115, 116, 101, 110, 83, 116, 114, 101, 97, 109], 21), ([66, 97, 99, 107, 108, 111, 103], 22), ([70, 105, 108, 101, 68, 101, 115, 99, 114, 105, 112, 116, 111, 114, 78, 97, 109, 101], 23), ([83, 101, 114, 118, 105, 99, 101], 24), ([85, 110, 105, 116], 24), ([79, 110, 66, 111, 111, 116, 83, 101, 99], 25), ([79, 110, 65, 99, 116, 105, 118, 101, 83, 101, 99], 26), ([79, 110, 85, 110, 105, 116, 73, 110, 97, 99, 116, 105, 118, 101, 83, 101, 99], 27), ([79, 110, 67, 97, 108, 101, 110, 100, 97, 114], 28), ([80, 101, 114, 115, 105, 115, 116, 101, 110, 116], 29), ([87, 97, 110, 116, 101, 100, 66, 121], 30), ([82, 101, 113, 117, 105, 114, 101, 100, 66, 121], 31), ([65, 108, 105, 97, 115], 32), ([65, 108, 115, 111], 33), ([68, 101, 102, 97, 117, 108, 116, 73, 110, 115, 116, 97, 110, 99, 101], 34)]
def slotK (key : Str) : Nat := match slotTab.find? (fun p => p.1 == key) with | some p => p.2 | none => 4
def truthS (v : Str) : Bool := v == [121, 101, 115] || (v == [116, 114, 117, 101] || v == [49])
def wordIx : List Str → Str → Nat → Int
 | [], _, _ => -1
 | x :: t, s, i => if x = s then (i : Int) else wordIx t s (i + 1)
def fieldS (name : Str) (k : KeyS) (v : Str) (c : UC) : UC :=
 if k.form = 1 ∨ k.form = 5 then .s v
 else if k.form = 2 then .b (truthS v)
 else if k.form = 3 then .n (numK v).1
 else if k.form = 10 then .n (wordIx k.words v 0 + 1)
 else if k.form = 7 then .cs (moreS c.cmds v ((execS v).getD (false, [])))
 else if k.form = 8 then .ps (envPut (if v = [] then [] else c.prs) (envS v).1)
 else if k.form = 9 then .ss (moreS c.strs v v)
 else if k.form = 11 then .ns (onceS c.nums ((blanksS v).map fun w => (numK w).1))
 else if k.form = 4 then (if k.list then .ns (moreS c.nums v (spanS v).1) else .n (spanS v).1)
 else if relK k.name = 0 then .ss (onceS c.strs (blanksS v))
 else .rs (relsPut name (relK k.name : Nat) (if v = [] then c.rels.filter (fun r => r.1 != (relK k.name : Nat)) else c.rels) (blanksS v))
def afterS (k : KeyS) (v : Str) : Bool :=
 if k.form = 5 then (k.name != [83, 101, 114, 118, 105, 99, 101] || kindS v == 1)
 else if k.form = 11 then (k.name != [76, 105, 115, 116, 101, 110, 83, 116, 114, 101, 97, 109] || !((blanksS v).any fun w => (numK w).1 == 0))
 else true
def listIx : List Nat := [8, 9, 10, 11, 12, 18, 19, 20, 21, 25, 26, 27, 28, 30, 31, 32, 33]
def longU (u : UV) : Bool := decide (64 < (u 4).len) || listIx.any fun i => decide (16 < (u i).len)
def lineU (name : Str) (kind : Int) (u : UV) (x : Ln) : Except Int UV :=
 match specS x.val name with
 | .error e => .error e
 | .ok v =>
  if lnS kind { x with val := v } ≠ 0 then .error (lnS kind { x with val := v })
  else match findKey x.sec x.key with
   | none => .error 11
   | some k =>
    if afterS k v = false then .error 12
    else if longU (u.upd (slotK k.name) (fieldS name k v (u (slotK k.name)))) = true then .error 2
    else .ok (u.upd (slotK k.name) (fieldS name k v (u (slotK k.name))))
def linesU (name : Str) (kind : Int) : UV → List Ln → Except (Int × Int) UV
 | u, [] => .ok u
 | u, x :: t => match lineU name kind u x with
  | .error e => .error (e, x.at_)
  | .ok r => linesU name kind r t
def wholeU (kind : Int) (u : UV) : Int :=
 if (kind = 1 ∧ (u 9).len = 0) ∨ (kind = 2 ∧ (u 21).len = 0) ∨ (kind = 3 ∧ (u 25).len + (u 26).len + (u 27).len + (u 28).len = 0) then 6
 else if kind = 1 ∧ (u 7).num ≠ 2 ∧ 1 < (u 9).len then 7
 else 0
def makeU (name : Str) (l : List Ln) : UV × (Int × Int) :=
 if kindS name = 0 ∨ bareS name = true then (zeroU, (5, 0))
 else match linesU name (kindS name : Nat) (newU name) l with
  | .error e => (zeroU, e)
  | .ok u => if wholeU (kindS name : Nat) u ≠ 0 then (zeroU, (wholeU (kindS name : Nat) u, 0)) else (u, (0, 0))
open Go Go.RowKit
set_option linter.unusedSimpArgs false
set_option maxRecDepth 100000
theorem slotText_0 (U : Nat) (w : World) : Calls Tryz.prog 85 #[.pointer (some ⟨U, 0, none⟩), .string ⟨#[68, 101, 115, 99, 114, 105, 112, 116, 105, 111, 110]⟩] w fun e w' => e = .returned (.pointer (some ⟨U, 2, none⟩)) ∧ w' = w := by
 go_enter Tryz.func85, Tryz.ntmps85
 go_wp2_with fail
 go_ret
 exact ⟨rfl, rfl⟩
theorem slotText_1 (U : Nat) (w : World) : Calls Tryz.prog 85 #[.pointer (some ⟨U, 0, none⟩), .string ⟨#[70, 105, 108, 101, 68, 101, 115, 99, 114, 105, 112, 116, 111, 114, 78, 97, 109, 101]⟩] w fun e w' => e = .returned (.pointer (some ⟨U, 23, none⟩)) ∧ w' = w := by
 go_enter Tryz.func85, Tryz.ntmps85
 go_wp2_with fail
 go_ret
 exact ⟨rfl, rfl⟩
theorem slotText_2 (U : Nat) (w : World) : Calls Tryz.prog 85 #[.pointer (some ⟨U, 0, none⟩), .string ⟨#[83, 101, 114, 118, 105, 99, 101]⟩] w fun e w' => e = .returned (.pointer (some ⟨U, 24, none⟩)) ∧ w' = w := by
 go_enter Tryz.func85, Tryz.ntmps85
 go_wp2_with fail
 go_ret
 exact ⟨rfl, rfl⟩
theorem slotText_3 (U : Nat) (w : World) : Calls Tryz.prog 85 #[.pointer (some ⟨U, 0, none⟩), .string ⟨#[85, 110, 105, 116]⟩] w fun e w' => e = .returned (.pointer (some ⟨U, 24, none⟩)) ∧ w' = w := by
 go_enter Tryz.func85, Tryz.ntmps85
 go_wp2_with fail
 go_ret
 exact ⟨rfl, rfl⟩
theorem slotText_4 (U : Nat) (w : World) : Calls Tryz.prog 85 #[.pointer (some ⟨U, 0, none⟩), .string ⟨#[68, 101, 102, 97, 117, 108, 116, 73, 110, 115, 116, 97, 110, 99, 101]⟩] w fun e w' => e = .returned (.pointer (some ⟨U, 34, none⟩)) ∧ w' = w := by
 go_enter Tryz.func85, Tryz.ntmps85
 go_wp2_with fail
 go_ret
 exact ⟨rfl, rfl⟩
def slotTextK : List (Str × Nat) := [([68, 101, 115, 99, 114, 105, 112, 116, 105, 111, 110], 2), ([70, 105, 108, 101, 68, 101, 115, 99, 114, 105, 112, 116, 111, 114, 78, 97, 109, 101], 23), ([83, 101, 114, 118, 105, 99, 101], 24), ([85, 110, 105, 116], 24), ([68, 101, 102, 97, 117, 108, 116, 73, 110, 115, 116, 97, 110, 99, 101], 34)]
theorem slotText_any (U : Nat) (w : World) : ∀ p ∈ slotTextK, Calls Tryz.prog 85 #[.pointer (some ⟨U, 0, none⟩), .string ⟨p.1.toArray⟩] w fun e w' => e = .returned (.pointer (some ⟨U, p.2, none⟩)) ∧ w' = w := by
 intro p hp
 simp only [slotTextK, List.mem_cons, List.not_mem_nil, or_false] at hp
 rcases hp with rfl | rfl | rfl | rfl | rfl
 ·exact slotText_0 U w
 ·exact slotText_1 U w
 ·exact slotText_2 U w
 ·exact slotText_3 U w
 ·exact slotText_4 U w
theorem slotFlag_0 (U : Nat) (w : World) : Calls Tryz.prog 86 #[.pointer (some ⟨U, 0, none⟩), .string ⟨#[68, 101, 102, 97, 117, 108, 116, 68, 101, 112, 101, 110, 100, 101, 110, 99, 105, 101, 115]⟩] w fun e w' => e = .returned (.pointer (some ⟨U, 3, none⟩)) ∧ w' = w := by
 go_enter Tryz.func86, Tryz.ntmps86
 go_wp2_with fail
 go_ret
 exact ⟨rfl, rfl⟩
theorem slotFlag_1 (U : Nat) (w : World) : Calls Tryz.prog 86 #[.pointer (some ⟨U, 0, none⟩), .string ⟨#[82, 101, 109, 97, 105, 110, 65, 102, 116, 101, 114, 69, 120, 105, 116]⟩] w fun e w' => e = .returned (.pointer (some ⟨U, 13, none⟩)) ∧ w' = w := by
 go_enter Tryz.func86, Tryz.ntmps86
 go_wp2_with fail
 go_ret
 exact ⟨rfl, rfl⟩
theorem slotFlag_2 (U : Nat) (w : World) : Calls Tryz.prog 86 #[.pointer (some ⟨U, 0, none⟩), .string ⟨#[80, 101, 114, 115, 105, 115, 116, 101, 110, 116]⟩] w fun e w' => e = .returned (.pointer (some ⟨U, 29, none⟩)) ∧ w' = w := by
 go_enter Tryz.func86, Tryz.ntmps86
 go_wp2_with fail
 go_ret
 exact ⟨rfl, rfl⟩
def slotFlagK : List (Str × Nat) := [([68, 101, 102, 97, 117, 108, 116, 68, 101, 112, 101, 110, 100, 101, 110, 99, 105, 101, 115], 3), ([82, 101, 109, 97, 105, 110, 65, 102, 116, 101, 114, 69, 120, 105, 116], 13), ([80, 101, 114, 115, 105, 115, 116, 101, 110, 116], 29)]
theorem slotFlag_any (U : Nat) (w : World) : ∀ p ∈ slotFlagK, Calls Tryz.prog 86 #[.pointer (some ⟨U, 0, none⟩), .string ⟨p.1.toArray⟩] w fun e w' => e = .returned (.pointer (some ⟨U, p.2, none⟩)) ∧ w' = w := by
 intro p hp
 simp only [slotFlagK, List.mem_cons, List.not_mem_nil, or_false] at hp
 rcases hp with rfl | rfl | rfl
 ·exact slotFlag_0 U w
 ·exact slotFlag_1 U w
 ·exact slotFlag_2 U w
theorem slotNumber_0 (U : Nat) (w : World) : Calls Tryz.prog 88 #[.pointer (some ⟨U, 0, none⟩), .string ⟨#[83, 116, 97, 114, 116, 76, 105, 109, 105, 116, 73, 110, 116, 101, 114, 118, 97, 108, 83, 101, 99]⟩] w fun e w' => e = .returned (.pointer (some ⟨U, 5, none⟩)) ∧ w' = w := by
 go_enter Tryz.func88, Tryz.ntmps88
 go_wp2_with fail
 go_ret
 exact ⟨rfl, rfl⟩
theorem slotNumber_1 (U : Nat) (w : World) : Calls Tryz.prog 88 #[.pointer (some ⟨U, 0, none⟩), .string ⟨#[83, 116, 97, 114, 116, 76, 105, 109, 105, 116, 66, 117, 114, 115, 116]⟩] w fun e w' => e = .returned (.pointer (some ⟨U, 6, none⟩)) ∧ w' = w := by
 go_enter Tryz.func88, Tryz.ntmps88
 go_wp2_with fail
 go_ret
 exact ⟨rfl, rfl⟩
theorem slotNumber_2 (U : Nat) (w : World) : Calls Tryz.prog 88 #[.pointer (some ⟨U, 0, none⟩), .string ⟨#[84, 121, 112, 101]⟩] w fun e w' => e = .returned (.pointer (some ⟨U, 7, none⟩)) ∧ w' = w := by
 go_enter Tryz.func88, Tryz.ntmps88
 go_wp2_with fail
 go_ret
 exact ⟨rfl, rfl⟩
theorem slotNumber_3 (U : Nat) (w : World) : Calls Tryz.prog 88 #[.pointer (some ⟨U, 0, none⟩), .string ⟨#[82, 101, 115, 116, 97, 114, 116]⟩] w fun e w' => e = .returned (.pointer (some ⟨U, 14, none⟩)) ∧ w' = w := by
 go_enter Tryz.func88, Tryz.ntmps88
 go_wp2_with fail
 go_ret
 exact ⟨rfl, rfl⟩
theorem slotNumber_4 (U : Nat) (w : World) : Calls Tryz.prog 88 #[.pointer (some ⟨U, 0, none⟩), .string ⟨#[82, 101, 115, 116, 97, 114, 116, 83, 101, 99]⟩] w fun e w' => e = .returned (.pointer (some ⟨U, 15, none⟩)) ∧ w' = w := by
 go_enter Tryz.func88, Tryz.ntmps88
 go_wp2_with fail
 go_ret
 exact ⟨rfl, rfl⟩
theorem slotNumber_5 (U : Nat) (w : World) : Calls Tryz.prog 88 #[.pointer (some ⟨U, 0, none⟩), .string ⟨#[84, 105, 109, 101, 111, 117, 116, 83, 116, 97, 114, 116, 83, 101, 99]⟩] w fun e w' => e = .returned (.pointer (some ⟨U, 16, none⟩)) ∧ w' = w := by
 go_enter Tryz.func88, Tryz.ntmps88
 go_wp2_with fail
 go_ret
 exact ⟨rfl, rfl⟩
theorem slotNumber_6 (U : Nat) (w : World) : Calls Tryz.prog 88 #[.pointer (some ⟨U, 0, none⟩), .string ⟨#[84, 105, 109, 101, 111, 117, 116, 83, 116, 111, 112, 83, 101, 99]⟩] w fun e w' => e = .returned (.pointer (some ⟨U, 17, none⟩)) ∧ w' = w := by
 go_enter Tryz.func88, Tryz.ntmps88
 go_wp2_with fail
 go_ret
 exact ⟨rfl, rfl⟩
theorem slotNumber_7 (U : Nat) (w : World) : Calls Tryz.prog 88 #[.pointer (some ⟨U, 0, none⟩), .string ⟨#[66, 97, 99, 107, 108, 111, 103]⟩] w fun e w' => e = .returned (.pointer (some ⟨U, 22, none⟩)) ∧ w' = w := by
 go_enter Tryz.func88, Tryz.ntmps88
 go_wp2_with fail
 go_ret
 exact ⟨rfl, rfl⟩
def slotNumberK : List (Str × Nat) := [([83, 116, 97, 114, 116, 76, 105, 109, 105, 116, 73, 110, 116, 101, 114, 118, 97, 108, 83, 101, 99], 5), ([83, 116, 97, 114, 116, 76, 105, 109, 105, 116, 66, 117, 114, 115, 116], 6), ([84, 121, 112, 101], 7), ([82, 101, 115, 116, 97, 114, 116], 14), ([82, 101, 115, 116, 97, 114, 116, 83, 101, 99], 15), ([84, 105, 109, 101, 111, 117, 116, 83, 116, 97, 114, 116, 83, 101, 99], 16), ([84, 105, 109, 101, 111, 117, 116, 83, 116, 111, 112, 83, 101, 99], 17), ([66, 97, 99, 107, 108, 111, 103], 22)]
theorem slotNumber_any (U : Nat) (w : World) : ∀ p ∈ slotNumberK, Calls Tryz.prog 88 #[.pointer (some ⟨U, 0, none⟩), .string ⟨p.1.toArray⟩] w fun e w' => e = .returned (.pointer (some ⟨U, p.2, none⟩)) ∧ w' = w := by
 intro p hp
 simp only [slotNumberK, List.mem_cons, List.not_mem_nil, or_false] at hp
 rcases hp with rfl | rfl | rfl | rfl | rfl | rfl | rfl | rfl
 ·exact slotNumber_0 U w
 ·exact slotNumber_1 U w
 ·exact slotNumber_2 U w
 ·exact slotNumber_3 U w
 ·exact slotNumber_4 U w
 ·exact slotNumber_5 U w
 ·exact slotNumber_6 U w
 ·exact slotNumber_7 U w
theorem slotNumbers_0 (U : Nat) (w : World) : Calls Tryz.prog 137 #[.pointer (some ⟨U, 0, none⟩), .string ⟨#[83, 117, 99, 99, 101, 115, 115, 69, 120, 105, 116, 83, 116, 97, 116, 117, 115]⟩] w fun e w' => e = .returned (.pointer (some ⟨U, 18, none⟩)) ∧ w' = w := by
 go_enter Tryz.func137, Tryz.ntmps137
 go_wp2_with fail
 go_ret
 exact ⟨rfl, rfl⟩
theorem slotNumbers_1 (U : Nat) (w : World) : Calls Tryz.prog 137 #[.pointer (some ⟨U, 0, none⟩), .string ⟨#[76, 105, 115, 116, 101, 110, 83, 116, 114, 101, 97, 109]⟩] w fun e w' => e = .returned (.pointer (some ⟨U, 21, none⟩)) ∧ w' = w := by
 go_enter Tryz.func137, Tryz.ntmps137
 go_wp2_with fail
 go_ret
 exact ⟨rfl, rfl⟩
theorem slotNumbers_2 (U : Nat) (w : World) : Calls Tryz.prog 137 #[.pointer (some ⟨U, 0, none⟩), .string ⟨#[79, 110, 66, 111, 111, 116, 83, 101, 99]⟩] w fun e w' => e = .returned (.pointer (some ⟨U, 25, none⟩)) ∧ w' = w := by
 go_enter Tryz.func137, Tryz.ntmps137
 go_wp2_with fail
 go_ret
 exact ⟨rfl, rfl⟩
theorem slotNumbers_3 (U : Nat) (w : World) : Calls Tryz.prog 137 #[.pointer (some ⟨U, 0, none⟩), .string ⟨#[79, 110, 65, 99, 116, 105, 118, 101, 83, 101, 99]⟩] w fun e w' => e = .returned (.pointer (some ⟨U, 26, none⟩)) ∧ w' = w := by
 go_enter Tryz.func137, Tryz.ntmps137
 go_wp2_with fail
 go_ret
 exact ⟨rfl, rfl⟩
theorem slotNumbers_4 (U : Nat) (w : World) : Calls Tryz.prog 137 #[.pointer (some ⟨U, 0, none⟩), .string ⟨#[79, 110, 85, 110, 105, 116, 73, 110, 97, 99, 116, 105, 118, 101, 83, 101, 99]⟩] w fun e w' => e = .returned (.pointer (some ⟨U, 27, none⟩)) ∧ w' = w := by
 go_enter Tryz.func137, Tryz.ntmps137
 go_wp2_with fail
 go_ret
 exact ⟨rfl, rfl⟩
def slotNumbersK : List (Str × Nat) := [([83, 117, 99, 99, 101, 115, 115, 69, 120, 105, 116, 83, 116, 97, 116, 117, 115], 18), ([76, 105, 115, 116, 101, 110, 83, 116, 114, 101, 97, 109], 21), ([79, 110, 66, 111, 111, 116, 83, 101, 99], 25), ([79, 110, 65, 99, 116, 105, 118, 101, 83, 101, 99], 26), ([79, 110, 85, 110, 105, 116, 73, 110, 97, 99, 116, 105, 118, 101, 83, 101, 99], 27)]
theorem slotNumbers_any (U : Nat) (w : World) : ∀ p ∈ slotNumbersK, Calls Tryz.prog 137 #[.pointer (some ⟨U, 0, none⟩), .string ⟨p.1.toArray⟩] w fun e w' => e = .returned (.pointer (some ⟨U, p.2, none⟩)) ∧ w' = w := by
 intro p hp
 simp only [slotNumbersK, List.mem_cons, List.not_mem_nil, or_false] at hp
 rcases hp with rfl | rfl | rfl | rfl | rfl
 ·exact slotNumbers_0 U w
 ·exact slotNumbers_1 U w
 ·exact slotNumbers_2 U w
 ·exact slotNumbers_3 U w
 ·exact slotNumbers_4 U w
theorem slotTexts_0 (U : Nat) (w : World) : Calls Tryz.prog 95 #[.pointer (some ⟨U, 0, none⟩), .string ⟨#[83, 111, 99, 107, 101, 116, 115]⟩] w fun e w' => e = .returned (.pointer (some ⟨U, 20, none⟩)) ∧ w' = w := by
 go_enter Tryz.func95, Tryz.ntmps95
 go_wp2_with fail
 go_ret
 exact ⟨rfl, rfl⟩
theorem slotTexts_1 (U : Nat) (w : World) : Calls Tryz.prog 95 #[.pointer (some ⟨U, 0, none⟩), .string ⟨#[79, 110, 67, 97, 108, 101, 110, 100, 97, 114]⟩] w fun e w' => e = .returned (.pointer (some ⟨U, 28, none⟩)) ∧ w' = w := by
 go_enter Tryz.func95, Tryz.ntmps95
 go_wp2_with fail
 go_ret
 exact ⟨rfl, rfl⟩
theorem slotTexts_2 (U : Nat) (w : World) : Calls Tryz.prog 95 #[.pointer (some ⟨U, 0, none⟩), .string ⟨#[87, 97, 110, 116, 101, 100, 66, 121]⟩] w fun e w' => e = .returned (.pointer (some ⟨U, 30, none⟩)) ∧ w' = w := by
 go_enter Tryz.func95, Tryz.ntmps95
 go_wp2_with fail
 go_ret
 exact ⟨rfl, rfl⟩
theorem slotTexts_3 (U : Nat) (w : World) : Calls Tryz.prog 95 #[.pointer (some ⟨U, 0, none⟩), .string ⟨#[82, 101, 113, 117, 105, 114, 101, 100, 66, 121]⟩] w fun e w' => e = .returned (.pointer (some ⟨U, 31, none⟩)) ∧ w' = w := by
 go_enter Tryz.func95, Tryz.ntmps95
 go_wp2_with fail
 go_ret
 exact ⟨rfl, rfl⟩
theorem slotTexts_4 (U : Nat) (w : World) : Calls Tryz.prog 95 #[.pointer (some ⟨U, 0, none⟩), .string ⟨#[65, 108, 105, 97, 115]⟩] w fun e w' => e = .returned (.pointer (some ⟨U, 32, none⟩)) ∧ w' = w := by
 go_enter Tryz.func95, Tryz.ntmps95
 go_wp2_with fail
 go_ret
 exact ⟨rfl, rfl⟩
theorem slotTexts_5 (U : Nat) (w : World) : Calls Tryz.prog 95 #[.pointer (some ⟨U, 0, none⟩), .string ⟨#[65, 108, 115, 111]⟩] w fun e w' => e = .returned (.pointer (some ⟨U, 33, none⟩)) ∧ w' = w := by
 go_enter Tryz.func95, Tryz.ntmps95
 go_wp2_with fail
 go_ret
 exact ⟨rfl, rfl⟩
def slotTextsK : List (Str × Nat) := [([83, 111, 99, 107, 101, 116, 115], 20), ([79, 110, 67, 97, 108, 101, 110, 100, 97, 114], 28), ([87, 97, 110, 116, 101, 100, 66, 121], 30), ([82, 101, 113, 117, 105, 114, 101, 100, 66, 121], 31), ([65, 108, 105, 97, 115], 32), ([65, 108, 115, 111], 33)]
theorem slotTexts_any (U : Nat) (w : World) : ∀ p ∈ slotTextsK, Calls Tryz.prog 95 #[.pointer (some ⟨U, 0, none⟩), .string ⟨p.1.toArray⟩] w fun e w' => e = .returned (.pointer (some ⟨U, p.2, none⟩)) ∧ w' = w := by
 intro p hp
 simp only [slotTextsK, List.mem_cons, List.not_mem_nil, or_false] at hp
 rcases hp with rfl | rfl | rfl | rfl | rfl | rfl
 ·exact slotTexts_0 U w
 ·exact slotTexts_1 U w
 ·exact slotTexts_2 U w
 ·exact slotTexts_3 U w
 ·exact slotTexts_4 U w
 ·exact slotTexts_5 U w
theorem slotExecs_0 (U : Nat) (w : World) : Calls Tryz.prog 92 #[.pointer (some ⟨U, 0, none⟩), .string ⟨#[69, 120, 101, 99, 83, 116, 97, 114, 116, 80, 114, 101]⟩] w fun e w' => e = .returned (.pointer (some ⟨U, 8, none⟩)) ∧ w' = w := by
 go_enter Tryz.func92, Tryz.ntmps92
 go_wp2_with fail
 go_ret
 exact ⟨rfl, rfl⟩
theorem slotExecs_1 (U : Nat) (w : World) : Calls Tryz.prog 92 #[.pointer (some ⟨U, 0, none⟩), .string ⟨#[69, 120, 101, 99, 83, 116, 97, 114, 116]⟩] w fun e w' => e = .returned (.pointer (some ⟨U, 9, none⟩)) ∧ w' = w := by
 go_enter Tryz.func92, Tryz.ntmps92
 go_wp2_with fail
 go_ret
 exact ⟨rfl, rfl⟩
theorem slotExecs_2 (U : Nat) (w : World) : Calls Tryz.prog 92 #[.pointer (some ⟨U, 0, none⟩), .string ⟨#[69, 120, 101, 99, 83, 116, 97, 114, 116, 80, 111, 115, 116]⟩] w fun e w' => e = .returned (.pointer (some ⟨U, 10, none⟩)) ∧ w' = w := by
 go_enter Tryz.func92, Tryz.ntmps92
 go_wp2_with fail
 go_ret
 exact ⟨rfl, rfl⟩
theorem slotExecs_3 (U : Nat) (w : World) : Calls Tryz.prog 92 #[.pointer (some ⟨U, 0, none⟩), .string ⟨#[69, 120, 101, 99, 83, 116, 111, 112]⟩] w fun e w' => e = .returned (.pointer (some ⟨U, 11, none⟩)) ∧ w' = w := by
 go_enter Tryz.func92, Tryz.ntmps92
 go_wp2_with fail
 go_ret
 exact ⟨rfl, rfl⟩
theorem slotExecs_4 (U : Nat) (w : World) : Calls Tryz.prog 92 #[.pointer (some ⟨U, 0, none⟩), .string ⟨#[69, 120, 101, 99, 82, 101, 108, 111, 97, 100]⟩] w fun e w' => e = .returned (.pointer (some ⟨U, 12, none⟩)) ∧ w' = w := by
 go_enter Tryz.func92, Tryz.ntmps92
 go_wp2_with fail
 go_ret
 exact ⟨rfl, rfl⟩
def slotExecsK : List (Str × Nat) := [([69, 120, 101, 99, 83, 116, 97, 114, 116, 80, 114, 101], 8), ([69, 120, 101, 99, 83, 116, 97, 114, 116], 9), ([69, 120, 101, 99, 83, 116, 97, 114, 116, 80, 111, 115, 116], 10), ([69, 120, 101, 99, 83, 116, 111, 112], 11), ([69, 120, 101, 99, 82, 101, 108, 111, 97, 100], 12)]
theorem slotExecs_any (U : Nat) (w : World) : ∀ p ∈ slotExecsK, Calls Tryz.prog 92 #[.pointer (some ⟨U, 0, none⟩), .string ⟨p.1.toArray⟩] w fun e w' => e = .returned (.pointer (some ⟨U, p.2, none⟩)) ∧ w' = w := by
 intro p hp
 simp only [slotExecsK, List.mem_cons, List.not_mem_nil, or_false] at hp
 rcases hp with rfl | rfl | rfl | rfl | rfl
 ·exact slotExecs_0 U w
 ·exact slotExecs_1 U w
 ·exact slotExecs_2 U w
 ·exact slotExecs_3 U w
 ·exact slotExecs_4 U w
theorem slotRel_0 (w : World) : Calls Tryz.prog 142 #[.string ⟨#[82, 101, 113, 117, 105, 114, 101, 115]⟩] w fun e w' => e = .returned (.int .i64 1) ∧ w' = w := by
 go_enter Tryz.func142, Tryz.ntmps142
 go_wp2_with fail
 go_ret
 exact ⟨rfl, rfl⟩
theorem slotRel_1 (w : World) : Calls Tryz.prog 142 #[.string ⟨#[87, 97, 110, 116, 115]⟩] w fun e w' => e = .returned (.int .i64 2) ∧ w' = w := by
 go_enter Tryz.func142, Tryz.ntmps142
 go_wp2_with fail
 go_ret
 exact ⟨rfl, rfl⟩
theorem slotRel_2 (w : World) : Calls Tryz.prog 142 #[.string ⟨#[82, 101, 113, 117, 105, 115, 105, 116, 101]⟩] w fun e w' => e = .returned (.int .i64 3) ∧ w' = w := by
 go_enter Tryz.func142, Tryz.ntmps142
 go_wp2_with fail
 go_ret
 exact ⟨rfl, rfl⟩
theorem slotRel_3 (w : World) : Calls Tryz.prog 142 #[.string ⟨#[66, 105, 110, 100, 115, 84, 111]⟩] w fun e w' => e = .returned (.int .i64 4) ∧ w' = w := by
 go_enter Tryz.func142, Tryz.ntmps142
 go_wp2_with fail
 go_ret
 exact ⟨rfl, rfl⟩
theorem slotRel_4 (w : World) : Calls Tryz.prog 142 #[.string ⟨#[80, 97, 114, 116, 79, 102]⟩] w fun e w' => e = .returned (.int .i64 5) ∧ w' = w := by
 go_enter Tryz.func142, Tryz.ntmps142
 go_wp2_with fail
 go_ret
 exact ⟨rfl, rfl⟩
theorem slotRel_5 (w : World) : Calls Tryz.prog 142 #[.string ⟨#[67, 111, 110, 102, 108, 105, 99, 116, 115]⟩] w fun e w' => e = .returned (.int .i64 6) ∧ w' = w := by
 go_enter Tryz.func142, Tryz.ntmps142
 go_wp2_with fail
 go_ret
 exact ⟨rfl, rfl⟩
theorem slotRel_6 (w : World) : Calls Tryz.prog 142 #[.string ⟨#[66, 101, 102, 111, 114, 101]⟩] w fun e w' => e = .returned (.int .i64 7) ∧ w' = w := by
 go_enter Tryz.func142, Tryz.ntmps142
 go_wp2_with fail
 go_ret
 exact ⟨rfl, rfl⟩
theorem slotRel_7 (w : World) : Calls Tryz.prog 142 #[.string ⟨#[65, 102, 116, 101, 114]⟩] w fun e w' => e = .returned (.int .i64 8) ∧ w' = w := by
 go_enter Tryz.func142, Tryz.ntmps142
 go_wp2_with fail
 go_ret
 exact ⟨rfl, rfl⟩
theorem slotRel_8 (w : World) : Calls Tryz.prog 142 #[.string ⟨#[79, 110, 70, 97, 105, 108, 117, 114, 101]⟩] w fun e w' => e = .returned (.int .i64 9) ∧ w' = w := by
 go_enter Tryz.func142, Tryz.ntmps142
 go_wp2_with fail
 go_ret
 exact ⟨rfl, rfl⟩
theorem slotRel_9 (w : World) : Calls Tryz.prog 142 #[.string ⟨#[83, 111, 99, 107, 101, 116, 115]⟩] w fun e w' => e = .returned (.int .i64 0) ∧ w' = w := by
 go_enter Tryz.func142, Tryz.ntmps142
 go_wp2_with fail
 go_ret
 exact ⟨rfl, rfl⟩
theorem slotRel_10 (w : World) : Calls Tryz.prog 142 #[.string ⟨#[87, 97, 110, 116, 101, 100, 66, 121]⟩] w fun e w' => e = .returned (.int .i64 0) ∧ w' = w := by
 go_enter Tryz.func142, Tryz.ntmps142
 go_wp2_with fail
 go_ret
 exact ⟨rfl, rfl⟩
theorem slotRel_11 (w : World) : Calls Tryz.prog 142 #[.string ⟨#[82, 101, 113, 117, 105, 114, 101, 100, 66, 121]⟩] w fun e w' => e = .returned (.int .i64 0) ∧ w' = w := by
 go_enter Tryz.func142, Tryz.ntmps142
 go_wp2_with fail
 go_ret
 exact ⟨rfl, rfl⟩
theorem slotRel_12 (w : World) : Calls Tryz.prog 142 #[.string ⟨#[65, 108, 105, 97, 115]⟩] w fun e w' => e = .returned (.int .i64 0) ∧ w' = w := by
 go_enter Tryz.func142, Tryz.ntmps142
 go_wp2_with fail
 go_ret
 exact ⟨rfl, rfl⟩
theorem slotRel_13 (w : World) : Calls Tryz.prog 142 #[.string ⟨#[65, 108, 115, 111]⟩] w fun e w' => e = .returned (.int .i64 0) ∧ w' = w := by
 go_enter Tryz.func142, Tryz.ntmps142
 go_wp2_with fail
 go_ret
 exact ⟨rfl, rfl⟩
def keyNames : List Str := [[82, 101, 113, 117, 105, 114, 101, 115], [87, 97, 110, 116, 115], [82, 101, 113, 117, 105, 115, 105, 116, 101], [66, 105, 110, 100, 115, 84, 111], [80, 97, 114, 116, 79, 102], [67, 111, 110, 102, 108, 105, 99, 116, 115], [66, 101, 102, 111, 114, 101], [65, 102, 116, 101, 114], [79, 110, 70, 97, 105, 108, 117, 114, 101], [83, 111, 99, 107, 101, 116, 115], [87, 97, 110, 116, 101, 100, 66, 121], [82, 101, 113, 117, 105, 114, 101, 100, 66, 121], [65, 108, 105, 97, 115], [65, 108, 115, 111]]
theorem slotRel_any (w : World) : ∀ s ∈ keyNames, Calls Tryz.prog 142 #[.string ⟨s.toArray⟩] w fun e w' => e = .returned (.int .i64 (relK s : Nat)) ∧ w' = w := by
 intro s hs
 simp only [keyNames, List.mem_cons, List.not_mem_nil, or_false] at hs
 rcases hs with rfl | rfl | rfl | rfl | rfl | rfl | rfl | rfl | rfl | rfl | rfl | rfl | rfl | rfl
 ·exact slotRel_0 w
 ·exact slotRel_1 w
 ·exact slotRel_2 w
 ·exact slotRel_3 w
 ·exact slotRel_4 w
 ·exact slotRel_5 w
 ·exact slotRel_6 w
 ·exact slotRel_7 w
 ·exact slotRel_8 w
 ·exact slotRel_9 w
 ·exact slotRel_10 w
 ·exact slotRel_11 w
 ·exact slotRel_12 w
 ·exact slotRel_13 w
theorem key_names : ∀ k ∈ allKeys, k.form = 6 → k.name ∈ keyNames := by decide +kernel
end Go.Proofs.YtdjkedcpehhmnaaGreatDoor
