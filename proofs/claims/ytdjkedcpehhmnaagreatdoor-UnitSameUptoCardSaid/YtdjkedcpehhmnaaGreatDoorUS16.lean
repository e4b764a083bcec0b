import Derived.Lib.AppendZerosOnto
import Derived.Lib.SliceRun
import Derived.Test.YtdjkedcpehhmnaaGreatDoorUS3
import Derived.Test.YtdjkedcpehhmnaaGreatDoorUS4
import Derived.Test.YtdjkedcpehhmnaaGreatDoorUS6
import Derived.Test.YtdjkedcpehhmnaaGreatDoorUS9
namespace Go.Proofs.YtdjkedcpehhmnaaGreatDoor
set_option linter.unusedVariables false
set_option maxRecDepth 100000
structure KeyS where
 sec : Str
 name : Str
 form : Int
 list : Bool
 kinds : Int
 words : List Str
deriving DecidableEq
abbrev nUnit : Str := [85, 110, 105, 116]
abbrev nDescription : Str := [68, 101, 115, 99, 114, 105, 112, 116, 105, 111, 110]
abbrev nDefaultDependencies : Str := [68, 101, 102, 97, 117, 108, 116, 68, 101, 112, 101, 110, 100, 101, 110, 99, 105, 101, 115]
abbrev nRequires : Str := [82, 101, 113, 117, 105, 114, 101, 115]
abbrev nWants : Str := [87, 97, 110, 116, 115]
abbrev nRequisite : Str := [82, 101, 113, 117, 105, 115, 105, 116, 101]
abbrev nBindsTo : Str := [66, 105, 110, 100, 115, 84, 111]
abbrev nPartOf : Str := [80, 97, 114, 116, 79, 102]
abbrev nConflicts : Str := [67, 111, 110, 102, 108, 105, 99, 116, 115]
abbrev nBefore : Str := [66, 101, 102, 111, 114, 101]
abbrev nAfter : Str := [65, 102, 116, 101, 114]
abbrev nOnFailure : Str := [79, 110, 70, 97, 105, 108, 117, 114, 101]
abbrev nStartLimitIntervalSec : Str := [83, 116, 97, 114, 116, 76, 105, 109, 105, 116, 73, 110, 116, 101, 114, 118, 97, 108, 83, 101, 99]
abbrev nStartLimitBurst : Str := [83, 116, 97, 114, 116, 76, 105, 109, 105, 116, 66, 117, 114, 115, 116]
abbrev nService : Str := [83, 101, 114, 118, 105, 99, 101]
abbrev nType : Str := [84, 121, 112, 101]
abbrev nExecStartPre : Str := [69, 120, 101, 99, 83, 116, 97, 114, 116, 80, 114, 101]
abbrev nExecStart : Str := [69, 120, 101, 99, 83, 116, 97, 114, 116]
abbrev nExecStartPost : Str := [69, 120, 101, 99, 83, 116, 97, 114, 116, 80, 111, 115, 116]
abbrev nExecStop : Str := [69, 120, 101, 99, 83, 116, 111, 112]
abbrev nExecReload : Str := [69, 120, 101, 99, 82, 101, 108, 111, 97, 100]
abbrev nRemainAfterExit : Str := [82, 101, 109, 97, 105, 110, 65, 102, 116, 101, 114, 69, 120, 105, 116]
abbrev nRestart : Str := [82, 101, 115, 116, 97, 114, 116]
abbrev nRestartSec : Str := [82, 101, 115, 116, 97, 114, 116, 83, 101, 99]
abbrev nTimeoutStartSec : Str := [84, 105, 109, 101, 111, 117, 116, 83, 116, 97, 114, 116, 83, 101, 99]
abbrev nTimeoutStopSec : Str := [84, 105, 109, 101, 111, 117, 116, 83, 116, 111, 112, 83, 101, 99]
abbrev nSuccessExitStatus : Str := [83, 117, 99, 99, 101, 115, 115, 69, 120, 105, 116, 83, 116, 97, 116, 117, 115]
abbrev nEnvironment : Str := [69, 110, 118, 105, 114, 111, 110, 109, 101, 110, 116]
abbrev nSockets : Str := [83, 111, 99, 107, 101, 116, 115]
abbrev nsimple : Str := [115, 105, 109, 112, 108, 101]
abbrev noneshot : Str := [111, 110, 101, 115, 104, 111, 116]
abbrev nnotify : Str := [110, 111, 116, 105, 102, 121]
abbrev nno : Str := [110, 111]
abbrev non_success : Str := [111, 110, 45, 115, 117, 99, 99, 101, 115, 115]
abbrev non_failure : Str := [111, 110, 45, 102, 97, 105, 108, 117, 114, 101]
abbrev non_abnormal : Str := [111, 110, 45, 97, 98, 110, 111, 114, 109, 97, 108]
abbrev nalways : Str := [97, 108, 119, 97, 121, 115]
abbrev nSocket : Str := [83, 111, 99, 107, 101, 116]
abbrev nListenStream : Str := [76, 105, 115, 116, 101, 110, 83, 116, 114, 101, 97, 109]
abbrev nBacklog : Str := [66, 97, 99, 107, 108, 111, 103]
abbrev nFileDescriptorName : Str := [70, 105, 108, 101, 68, 101, 115, 99, 114, 105, 112, 116, 111, 114, 78, 97, 109, 101]
abbrev nTimer : Str := [84, 105, 109, 101, 114]
abbrev nOnBootSec : Str := [79, 110, 66, 111, 111, 116, 83, 101, 99]
abbrev nOnActiveSec : Str := [79, 110, 65, 99, 116, 105, 118, 101, 83, 101, 99]
abbrev nOnUnitInactiveSec : Str := [79, 110, 85, 110, 105, 116, 73, 110, 97, 99, 116, 105, 118, 101, 83, 101, 99]
abbrev nOnCalendar : Str := [79, 110, 67, 97, 108, 101, 110, 100, 97, 114]
abbrev nPersistent : Str := [80, 101, 114, 115, 105, 115, 116, 101, 110, 116]
abbrev nInstall : Str := [73, 110, 115, 116, 97, 108, 108]
abbrev nWantedBy : Str := [87, 97, 110, 116, 101, 100, 66, 121]
abbrev nRequiredBy : Str := [82, 101, 113, 117, 105, 114, 101, 100, 66, 121]
abbrev nAlias : Str := [65, 108, 105, 97, 115]
abbrev nAlso : Str := [65, 108, 115, 111]
abbrev nDefaultInstance : Str := [68, 101, 102, 97, 117, 108, 116, 73, 110, 115, 116, 97, 110, 99, 101]
abbrev rowUnit0 : List Str := [nDescription]
abbrev rowUnit1 : List Str := [nDefaultDependencies]
abbrev rowUnit2 : List Str := [nRequires, nWants, nRequisite, nBindsTo, nPartOf, nConflicts, nBefore, nAfter, nOnFailure]
abbrev rowUnit3 : List Str := [nStartLimitIntervalSec]
abbrev rowUnit4 : List Str := [nStartLimitBurst]
abbrev wrdService0 : List Str := [nsimple, noneshot, nnotify]
abbrev rowService1 : List Str := [nExecStartPre, nExecStart, nExecStartPost, nExecStop, nExecReload]
abbrev rowService2 : List Str := [nRemainAfterExit]
abbrev wrdService3 : List Str := [nno, non_success, non_failure, non_abnormal, nalways]
abbrev rowService4 : List Str := [nRestartSec, nTimeoutStartSec, nTimeoutStopSec]
abbrev rowService5 : List Str := [nSuccessExitStatus]
abbrev rowService6 : List Str := [nEnvironment]
abbrev rowService7 : List Str := [nSockets]
abbrev rowSocket0 : List Str := [nListenStream]
abbrev rowSocket1 : List Str := [nBacklog]
abbrev rowSocket2 : List Str := [nFileDescriptorName]
abbrev rowSocket3 : List Str := [nService]
abbrev rowTimer0 : List Str := [nOnBootSec, nOnActiveSec, nOnUnitInactiveSec]
abbrev rowTimer1 : List Str := [nOnCalendar]
abbrev rowTimer2 : List Str := [nPersistent]
abbrev rowTimer3 : List Str := [nUnit]
abbrev rowInstall0 : List Str := [nWantedBy, nRequiredBy, nAlias, nAlso]
abbrev rowInstall1 : List Str := [nDefaultInstance]
def keysOf (sec : Str) (kinds form : Int) (list : Bool) (names : List Str) : List KeyS := names.map fun n => ⟨sec, n, form, list, kinds, []⟩
def keysUnit : List KeyS := keysOf nUnit 30 1 false rowUnit0 ++ keysOf nUnit 30 2 false rowUnit1 ++ keysOf nUnit 30 6 true rowUnit2 ++ keysOf nUnit 30 4 false rowUnit3 ++ keysOf nUnit 30 3 false rowUnit4
def keysService : List KeyS := [⟨nService, nType, 10, false, 2, wrdService0⟩] ++ keysOf nService 2 7 true rowService1 ++ keysOf nService 2 2 false rowService2 ++ [⟨nService, nRestart, 10, false, 2, wrdService3⟩] ++ keysOf nService 2 4 false rowService4 ++ keysOf nService 2 11 true rowService5 ++ keysOf nService 2 8 true rowService6 ++ keysOf nService 2 6 true rowService7
def keysSocket : List KeyS := keysOf nSocket 4 11 true rowSocket0 ++ keysOf nSocket 4 3 false rowSocket1 ++ keysOf nSocket 4 1 false rowSocket2 ++ keysOf nSocket 4 5 false rowSocket3
def keysTimer : List KeyS := keysOf nTimer 8 4 true rowTimer0 ++ keysOf nTimer 8 9 true rowTimer1 ++ keysOf nTimer 8 2 false rowTimer2 ++ keysOf nTimer 8 5 false rowTimer3
def keysInstall : List KeyS := keysOf nInstall 30 6 true rowInstall0 ++ keysOf nInstall 30 1 false rowInstall1
def allKeys : List KeyS := keysUnit ++ (keysService ++ (keysSocket ++ (keysTimer ++ (keysInstall))))
def findKey (sec name : Str) : Option KeyS := allKeys.find? fun k => k.sec == sec && k.name == name
theorem allKeys_len : allKeys.length = 42 := by decide
open Go Go.RowKit
set_option linter.unusedSimpArgs false
structure KeyV where
 sec : Str
 name : Str
 form : Int
 list : Bool
 kinds : Int
 wa : Option Addr
 wn : Nat
 wc : Nat
def encK (k : KeyV) : List Value := [.string ⟨k.sec.toArray⟩, .string ⟨k.name.toArray⟩, .int .i64 k.form, .bool k.list, .int .i64 k.kinds, .slice k.wa k.wn k.wc]
theorem encK_one (k : KeyV) : ∀ v ∈ encK k, v.oneCell' = true := by intro v hv; simp [encK] at hv; rcases hv with rfl | rfl | rfl | rfl | rfl | rfl <;> rfl
def plainK (sec : Str) (kinds form : Int) (list : Bool) (n : Str) : KeyV := ⟨sec, n, form, list, kinds, none, 0, 0⟩
theorem infoKey : (Tryz.prog.info? 41).map (fun i => (i.zero, i.size, i.bytes)) = some (some (.agg #[.string ⟨#[]⟩, .string ⟨#[]⟩, .int .i64 0, .bool false, .int .i64 0, .slice none 0 0]), 6, 80) := by kernel_rfl
theorem own_built6 (w : World) (a b c d e f : Value) (T : TypeId) : (w.alloc (.cells #[a, b, c, d, e, f] T)).ownsRow w.heap.size T 6 (.slice (some ⟨w.heap.size, 0, none⟩) 1 1) 1 [a, b, c, d, e, f] :=
 ⟨rfl, .inr ⟨w.heap.size, 1, #[a, b, c, d, e, f], rfl, Nat.le_refl _, heap_alloc_new _ _, Nat.le_refl _, by decide, rfl, rfl⟩⟩
theorem ownsRow_row {w : World} {B e k n : Nat} {v : Value} {xs : List Value} (h : w.ownsRow B e k v n xs) : ∀ g, v.ownBlock = some g → B ≤ g ∧ RowOf e w g := by
 intro g hg
 rcases h.2 with ⟨rfl, _⟩ | ⟨g', cap, cur, rfl, hb, hh, _⟩
 ·simp [Value.ownBlock] at hg
 ·simp [Value.ownBlock] at hg
  subst hg
  exact ⟨hb, cur, (0, 0), hh⟩
structure GrpAt (w : World) (P B : Nat) (sec : Str) (kinds : Int) (kvs : List KeyV) : Prop where
 ex : ∃ ga gc, w.heap[P]? = some (.cells #[.string ⟨sec.toArray⟩, .int .i64 kinds, .slice ga kvs.length gc] 158 (0, 0)) ∧ w.ownsRow B 41 6 (.slice ga kvs.length gc) kvs.length (flatL encK kvs)
theorem GrpAt.below {w w' : World} {P B : Nat} {sec : Str} {kinds : Int} {kvs : List KeyV} (h : GrpAt w P B sec kinds kvs) (hb : Below w.heap.size w w') : GrpAt w' P B sec kinds kvs := by
 obtain ⟨ga, gc, h1, h2⟩ := h.ex
 exact ⟨ga, gc, heap_below h1 hb, own_keeps h2 hb⟩
theorem GrpAt.more {wr w7 w8 : World} {P B : Nat} {sec : Str} {kinds : Int} {kvs : List KeyV} {k : KeyV} {ga ga2 : Option Addr} {gc gc2 : Nat} (hb : Below wr.heap.size wr w7)
  (h1 : wr.heap[P]? = some (.cells #[.string ⟨sec.toArray⟩, .int .i64 kinds, .slice ga kvs.length gc] 158 (0, 0))) (h2 : wr.ownsRow B 41 6 (.slice ga kvs.length gc) kvs.length (flatL encK kvs)) (hPB : P < B)
  (hg : w7.grownBy w8 (Value.slice ga kvs.length gc).ownBlock) (ho : w8.ownsRow B 41 6 (.slice ga2 (kvs.length + 1) gc2) (kvs.length + 1) (flatL encK kvs ++ encK k)) :
  GrpAt (w8.setCell ⟨P, 2, none⟩ (.slice ga2 (kvs.length + 1) gc2)) P B sec kinds (kvs ++ [k]) ∧ FrB P B 41 wr (w8.setCell ⟨P, 2, none⟩ (.slice ga2 (kvs.length + 1) gc2)) := by
 have b7 := heap_below h1 hb
 have o7 := own_keeps h2 hb
 have b8 : w8.heap[P]? = some (.cells #[.string ⟨sec.toArray⟩, .int .i64 kinds, .slice ga kvs.length gc] 158 (0, 0)) := by
  rw [hg.block P (lt_heap b7) (own_not_box o7 b7 (by decide))]; exact b7
 have e : (kvs ++ [k]).length = kvs.length + 1 := by simp
 refine ⟨⟨ga2, gc2, ?_, ?_⟩, ?_⟩
 ·have := heap_setCell b8 2 (.slice ga2 (kvs.length + 1) gc2)
  rw [this, e]; rfl
 ·rw [e, flatL_append, flatL_one]
  refine ⟨ho.1, ?_⟩
  rcases ho.2 with hn | ⟨g, cp, cur, hv, hg2, hgg, rest⟩
  ·exact .inl hn
  ·refine .inr ⟨g, cp, cur, hv, hg2, ?_, rest⟩
   have hne : g ≠ P := by omega
   exact heap_other hgg (a := ⟨P, 2, none⟩) hne _
 ·have f1 : FrB P B 41 wr w7 := Fr.of_below hb _
  exact (f1.trans ((FrB.refl P B 41 w7).grown hg (ownsRow_row o7))).setCell 2 _
set_option maxHeartbeats 2000000 in
theorem some_any (P B : Nat) (sec : Str) (kinds form : Int) (list : Bool) (kvs : List KeyV) (NB nc : Nat) (names : List Str) (w : World) (hG : GrpAt w P B sec kinds kvs) (hPB : P < B) (hBw : B ≤ w.heap.size)
  (hN : w.heap[NB]? = some (.cells (strVals names).toArray 9 (0, 0))) (hl : names.length ≤ 100) (hk : kvs.length ≤ 100) :
  Calls Tryz.prog 125 #[.pointer (some ⟨P, 0, none⟩), .int .i64 form, .bool list, .slice (some ⟨NB, 0, none⟩) names.length nc] w fun e w' => e = .returned (.tuple #[]) ∧ GrpAt w' P B sec kinds (kvs ++ names.map (plainK sec kinds form list)) ∧ FrB P B 41 w w' := by
 obtain ⟨i0, hi0, hz0, hz1, hz2⟩ := info_parts infoKey
 have HN := h_ hN
 have HG0 := h_ (show GrpAt w P B sec kinds (kvs ++ (names.take 0).map (plainK sec kinds form list)) by simpa using hG)
 have HNP := h_ (show NB ≠ P from by rintro rfl; obtain ⟨ga, gc, h1, _⟩ := hG.ex; rw [hN] at h1; simp at h1)
 clear hN hG
 go_enter Tryz.func125, Tryz.ntmps125
 go_wp2_with fail
 go_loopg [12] (names.length + 1) (fun f i wr => ∃ k : Nat, k ≤ names.length ∧ i = .int .i64 k ∧ names.length - k < f ∧ Hid (GrpAt wr P B sec kinds (kvs ++ (names.take k).map (plainK sec kinds form list))) ∧ Hid (FrB P B 41 w wr))
 case atStart => exact ⟨0, by omega, rfl, by omega, HG0, FrB.refl _ _ _ _⟩
 case round =>
  obtain ⟨k, hk2, rfl, hfu, HGk, Hf⟩ := hrel
  clear HG0
  by_cases hlt : k < names.length
  ·obtain ⟨n, hn⟩ : ∃ n, n = names[k] := ⟨_, rfl⟩
   have hb2 := Hf.out.heap HN.out HNP.out (by decide)
   have d0 : wr.cell? ⟨NB, k, none⟩ = some (.string ⟨n.toArray⟩) := by
    rw [(rd hb2).1 k, List.getElem?_toArray, strVals, List.getElem?_map, List.getElem?_eq_getElem hlt, hn]; rfl
   have HSN := h_ (show kvs ++ (names.take (k + 1)).map (plainK sec kinds form list) = (kvs ++ (names.take k).map (plainK sec kinds form list)) ++ [plainK sec kinds form list n] by
    rw [List.take_succ_eq_append_getElem hlt, List.map_append, hn]; simp)
   have hlen : (kvs ++ (names.take k).map (plainK sec kinds form list)).length ≤ 200 := by rw [List.length_append, List.length_map, List.length_take]; omega
   have hsz := Hf.out.size
   generalize kvs ++ (names.take k).map (plainK sec kinds form list) = ks at *
   obtain ⟨ga, gc, hbx, hown⟩ := HGk.out.ex
   have HBX := h_ hbx; have HOW := h_ hown
   have i5 : (k : Int) < (names.length : Int) := by omega
   clear hb2 hn hbx hown
   go_wp2_with fail
   refine wp_region_drawT (S := fun V => V.heap[P]? = some (.cells #[.string ⟨sec.toArray⟩, .int .i64 kinds, .slice ga ks.length gc] 158 (0, 0))) 19 (by kernel_rfl) (by kernel_rfl) HBX.out (fun hHeld => ?_)
   try simp only [Act.put, sA_, sB_, sC_]
   refine dT_ (i := 0) (v := .pointer (some ⟨P, 0, none⟩)) (gT_ rfl) (fun W hW => by obtain ⟨q0, q1, q2⟩ := cells3 hW; clear hW; go_simp) ?_
   try simp only [Act.put, sA_, sB_, sC_]
   refine dT_ (i := 1) (v := .pointer (some ⟨P, 0, none⟩)) (gT_ rfl) (fun W hW => by obtain ⟨q0, q1, q2⟩ := cells3 hW; clear hW; go_simp) ?_
   try simp only [Act.put, sA_, sB_, sC_]
   refine dT_ (i := 2) (v := .pointer (some ⟨P, 0, none⟩)) (gT_ rfl) (fun W hW => by obtain ⟨q0, q1, q2⟩ := cells3 hW; clear hW; go_simp) ?_
   try simp only [Act.put, sA_, sB_, sC_]
   refine dT_ (i := 3) (v := .pointer (some ⟨P, 2, none⟩)) (gT_ rfl) (fun W hW => by obtain ⟨q0, q1, q2⟩ := cells3 hW; clear hW; go_simp) ?_
   try simp only [Act.put, sA_, sB_, sC_]
   refine dT_ (i := 4) (v := .slice ga ks.length gc) (gT_ rfl) (fun W hW => by obtain ⟨q0, q1, q2⟩ := cells3 hW; clear hW; go_simp) ?_
   try simp only [Act.put, sA_, sB_, sC_]
   refine dT_ (i := 5) (v := .pointer (some ⟨P, 0, none⟩)) (gT_ rfl) (fun W hW => by obtain ⟨q0, q1, q2⟩ := cells3 hW; clear hW; go_simp) ?_
   try simp only [Act.put, sA_, sB_, sC_]
   refine dT_ (i := 6) (v := .pointer (some ⟨P, 0, none⟩)) (gT_ rfl) (fun W hW => by obtain ⟨q0, q1, q2⟩ := cells3 hW; clear hW; go_simp) ?_
   try simp only [Act.put, sA_, sB_, sC_]
   refine dT_ (i := 7) (v := .pointer (some ⟨P, 0, none⟩)) (gT_ rfl) (fun W hW => by obtain ⟨q0, q1, q2⟩ := cells3 hW; clear hW; go_simp) ?_
   try simp only [Act.put, sA_, sB_, sC_]
   refine dT_ (i := 8) (v := .string ⟨sec.toArray⟩) (gT_ rfl) (fun W hW => by obtain ⟨q0, q1, q2⟩ := cells3 hW; clear hW; go_simp) ?_
   try simp only [Act.put, sA_, sB_, sC_]
   refine dT_ (i := 9) (v := .string ⟨n.toArray⟩) (gT_ rfl) (fun W hW => by obtain ⟨q0, q1, q2⟩ := cells3 hW; clear hW; go_simp) ?_
   try simp only [Act.put, sA_, sB_, sC_]
   refine dT_ (i := 10) (v := .int .i64 form) (gT_ rfl) (fun W hW => by obtain ⟨q0, q1, q2⟩ := cells3 hW; clear hW; go_simp) ?_
   try simp only [Act.put, sA_, sB_, sC_]
   refine dT_ (i := 11) (v := .bool list) (gT_ rfl) (fun W hW => by obtain ⟨q0, q1, q2⟩ := cells3 hW; clear hW; go_simp) ?_
   try simp only [Act.put, sA_, sB_, sC_]
   refine dT_ (i := 12) (v := .pointer (some ⟨P, 0, none⟩)) (gT_ rfl) (fun W hW => by obtain ⟨q0, q1, q2⟩ := cells3 hW; clear hW; go_simp) ?_
   try simp only [Act.put, sA_, sB_, sC_]
   refine dT_ (i := 13) (v := .pointer (some ⟨P, 0, none⟩)) (gT_ rfl) (fun W hW => by obtain ⟨q0, q1, q2⟩ := cells3 hW; clear hW; go_simp) ?_
   try simp only [Act.put, sA_, sB_, sC_]
   refine dT_ (i := 14) (v := .pointer (some ⟨P, 1, none⟩)) (gT_ rfl) (fun W hW => by obtain ⟨q0, q1, q2⟩ := cells3 hW; clear hW; go_simp) ?_
   try simp only [Act.put, sA_, sB_, sC_]
   refine dT_ (i := 15) (v := .int .i64 kinds) (gT_ rfl) (fun W hW => by obtain ⟨q0, q1, q2⟩ := cells3 hW; clear hW; go_simp) ?_
   try simp only [Act.put, sA_, sB_, sC_]
   refine dT_ (i := 16) (v := .agg #[.string ⟨sec.toArray⟩, .string ⟨n.toArray⟩, .int .i64 form, .bool list, .int .i64 kinds, .slice none 0 0]) (gT_ rfl) (fun W hW => by obtain ⟨q0, q1, q2⟩ := cells3 hW; clear hW; go_simp) ?_
   try simp only [Act.put, sA_, sB_, sC_]
   refine drawT_one (i := 17) (gT_ rfl) (by kernel_rfl) (by kernel_rfl) (fun K hK => ?_)
   clear hHeld
   rw [if_pos (by rfl)]
   go_simp
   have HBJ := h_ (show Below wr.heap.size wr (wr.drew.alloc (.cells #[.string ⟨sec.toArray⟩, .string ⟨n.toArray⟩, .int .i64 form, .bool list, .int .i64 kinds, .slice none 0 0] 41)) from (show Below wr.heap.size wr wr.drew from below_dn ⟨1, rfl⟩).alloc (Nat.le_refl _) _)
   have HBL := h_ (RowRd.of_own (enc := encK) (k := 6) (l := [plainK sec kinds form list n]) (oa := some ⟨wr.drew.heap.size, 0, none⟩) (cap := 1) (fun _ => rfl) (own_built6 wr.drew (.string ⟨sec.toArray⟩) (.string ⟨n.toArray⟩) (.int .i64 form) (.bool list) (.int .i64 kinds) (.slice none 0 0) 41))
   refine hK.out _ _ (heap_below HBX.out HBJ.out) (fun hHeld => ?_)
   clear hK K
   try simp only [Act.put, sA_, sB_, sC_]
   refine drawT_one (i := 18) (gT_ rfl) (by kernel_rfl) (by kernel_rfl) (fun K hK => ?_)
   clear hHeld
   refine step_append_rows (by rfl) (.tmp 20) (.tmp 33) 38 (by rfl) B 41 i0 (.agg #[.string ⟨#[]⟩, .string ⟨#[]⟩, .int .i64 0, .bool false, .int .i64 0, .slice none 0 0]) 6 80 Tryz.underlying38 hi0 hz0 hz1 hz2 (by rfl) (by decide) (.slice ga ks.length gc) ks.length (flatL encK ks) (by rfl) (own_keeps HOW.out HBJ.out) (some ⟨wr.heap.size, 0, none⟩) 1 1 (flatL encK [plainK sec kinds form list n]) (by rfl)
     rfl (RowRd.flat (enc := encK) (k := 6) (fun _ => rfl) (by omega) HBL.out) (flatL_oneCell encK_one _) (by unfold maxLen; omega) (by omega) (Nat.le_trans (Nat.le_trans hBw hsz) HBJ.out.size) ?_
   intro v1 w7 hown1 hgrow1
   obtain ⟨ga2, gc2, rfl⟩ := ownsRow_form hown1
   have HM := h_ (GrpAt.more (k := plainK sec kinds form list n) HBJ.out HBX.out HOW.out hPB hgrow1 (by rw [← flatL_one encK]; exact hown1))
   have HBX7 := h_ (show w7.heap[P]? = some (.cells #[.string ⟨sec.toArray⟩, .int .i64 kinds, .slice ga ks.length gc] 158 (0, 0)) from by
    rw [hgrow1.block P (lt_heap (heap_below HBX.out HBJ.out)) (own_not_box (own_keeps HOW.out HBJ.out) (heap_below HBX.out HBJ.out) (by decide))]; exact heap_below HBX.out HBJ.out)
   clear hown1 hgrow1
   refine hK.out _ _ HBX7.out (fun hHeld => ?_)
   clear hK K
   try simp only [Act.put, sA_, sB_, sC_]
   refine drawT_done (by kernel_rfl) ?_
   clear hHeld
   have hgb := rd HBX7.out
   have s3 := (cells3 HBX7.out).2.2; have s4 := hgb.2.1 2; have s5 := hgb.2.2.1
   clear hgb
   go_wp2_with fail
   go_roundg (gk - 1)
   case measure => omega
   case rel => exact ⟨k + 1, by omega, by go_num, by omega, by rw [HSN.out]; exact HM.out.1, Hf.out.trans HM.out.2⟩
  ·have hk3 : k = names.length := by omega
   subst hk3
   rw [List.take_of_length_le (Nat.le_refl _)] at HGk
   go_wp2_with fail
   refine ⟨rfl, _, results_none rfl _ _ _, ?_⟩
   exact ⟨rfl, HGk.out, Hf.out⟩
theorem own_set_at {w : World} {base k : Nat} {e : TypeId} {g n cap : Nat} {xs : List Value} (h : w.ownsRow base e k (.slice (some ⟨g, 0, none⟩) n cap) n xs) (j : Nat) (hj : j < xs.length) (y : Value) :
  (w.setCell ⟨g, j, none⟩ y).ownsRow base e k (.slice (some ⟨g, 0, none⟩) n cap) n (xs.set j y) ∧ (∃ x, w.cell? ⟨g, j, none⟩ = some x) ∧ w.frozen? ⟨g, j, none⟩ = false ∧ base ≤ g ∧ g < w.heap.size ∧ (∃ s, w.shape? g = some (e, s)) := by
 have hl : xs.length = n * k := h.1
 rcases h.2 with ⟨h0, _⟩ | ⟨g', cap', cur, hv, hb, hg, hnc, hcm, hcs, ht⟩
 ·cases h0
 ·injection hv with e1 e2 e3
  injection e1 with e1
  injection e1 with e1 _ _
  subst e1; subst e3
  have hsz : j < cur.size := by
   have := congrArg List.length ht
   rw [List.length_take, Array.length_toList] at this
   omega
  refine ⟨⟨by simp [hl], .inr ⟨g, cap, cur.setIfInBounds j y, rfl, hb, heap_setCell hg j y, hnc, hcm, by simpa using hcs, ?_⟩⟩, ⟨cur[j], by simp [World.cell?, hg, hsz]⟩, by simp [World.frozen?, hg], hb, lt_heap hg, ⟨cur.size, by simp [World.shape?, hg]⟩⟩
  rw [Array.toList_setIfInBounds, List.take_set, ht]
theorem infoStr : (Tryz.prog.info? 9).map (fun i => (i.zero, i.size, i.bytes)) = some (some (.string ⟨#[]⟩), 1, 16) := by kernel_rfl
def WordsAt (w : World) (B : Nat) (k : KeyV) (words : List Str) : Prop := k.wn = words.length ∧ w.ownsRow B 9 1 (.slice k.wa k.wn k.wc) k.wn (strVals words)
theorem own_frb {w w' : World} {P B B' k n : Nat} {e e' : TypeId} {v : Value} {xs : List Value} (h : w.ownsRow B' e' k v n xs) (hf : FrB P B e w w') (he : e' ≠ e) (hP : v.ownBlock ≠ some P) : w'.ownsRow B' e' k v n xs := by
 refine ⟨h.1, ?_⟩
 rcases h.2 with hn | ⟨g, cap, cur, rfl, hg, hgg, rest⟩
 ·exact .inl hn
 ·refine .inr ⟨g, cap, cur, rfl, hg, ?_, rest⟩
  exact hf.heap hgg (fun q => hP (by simp [Value.ownBlock, q])) he
set_option maxHeartbeats 2000000 in
theorem word_any (P B : Nat) (sec : Str) (kinds : Int) (kvs : List KeyV) (name : Str) (WB wc : Nat) (words : List Str) (w : World) (hG : GrpAt w P B sec kinds kvs) (hPB : P < B) (hBw : B ≤ w.heap.size)
  (hW : w.heap[WB]? = some (.cells (strVals words).toArray 9 (0, 0))) (hl : words.length ≤ 100) (hk : kvs.length ≤ 90) :
  Calls Tryz.prog 126 #[.pointer (some ⟨P, 0, none⟩), .string ⟨name.toArray⟩, .slice (some ⟨WB, 0, none⟩) words.length wc] w fun e w' => e = .returned (.tuple #[]) ∧ ∃ k : KeyV, (k.sec = sec ∧ k.name = name ∧ k.form = 10 ∧ k.list = false ∧ k.kinds = kinds) ∧ WordsAt w' w.heap.size k words ∧ GrpAt w' P B sec kinds (kvs ++ [k]) ∧ FrB P B 41 w w' := by
 obtain ⟨i0, hi0, hz0, hz1, hz2⟩ := info_parts infoStr
 have hb1 := (Below.refl w.heap.size w).alloc (Nat.le_refl _) (.cells #[.string ⟨name.toArray⟩] 9)
 have HS := h_ (some_any P B sec kinds 10 false kvs w.heap.size 1 [name] (w.alloc (.cells #[.string ⟨name.toArray⟩] 9)) (hG.below hb1) hPB (Nat.le_trans hBw hb1.size) (heap_alloc_new w _) (by simp) (by omega))
 have HW := h_ hW
 have HWP := h_ (show WB ≠ P from by rintro rfl; obtain ⟨ga, gc, h1, _⟩ := hG.ex; rw [hW] at h1; simp at h1)
 have HB1 := h_ hb1
 have HW1 := h_ (heap_below hW hb1)
 clear hG hW hb1
 go_enter Tryz.func126, Tryz.ntmps126
 go_wp2_with fail
 refine HS.out.mono ?_
 rintro e w2 ⟨rfl, hg2, hf2⟩
 have hf0 : FrB P B 41 w w2 := FrB.trans (show FrB P B 41 w (w.alloc (.cells #[.string ⟨name.toArray⟩] 9)) from Fr.of_below HB1.out _) hf2
 have HF2 := h_ hf0
 have HW2 := h_ (hf2.heap HW1.out HWP.out (by decide))
 obtain ⟨ga, gc, hbx, hown⟩ := hg2.ex
 have HBX := h_ hbx; have HOW := h_ hown
 have hln : (kvs ++ [name].map (plainK sec kinds 10 false)).length = kvs.length + 1 := by simp
 rw [hln] at HBX HOW
 obtain ⟨g, gc', e3, hcell, hBg, hglt⟩ := own_openK HOW.out (by omega)
 injection e3 with e3 _ e4
 subst e3; subst e4
 have HC := h_ (fun V (h : V.os = V.os ∨ True) (hc : ∀ j u, (strVals words)[j]? = some u → V.cell? ⟨WB, 0 + j, none⟩ = some u) => Tryz.slices_Clone i0 (.string ⟨#[]⟩) 1 16 hi0 hz0 hz1 hz2 (by rfl) (by decide) (fun w => by rfl) WB 0 words.length wc (strVals words) V (by simp [strVals]) (by unfold maxLen; omega) (by omega) hc (strVals_one _))
 have HST := h_ (own_set_at HOW.out (kvs.length * 6 + 5) (by rw [HOW.out.1]; omega))
 have hflat : flatL encK (kvs ++ [name].map (plainK sec kinds 10 false)) = flatL encK kvs ++ encK (plainK sec kinds 10 false name) := by rw [flatL_append]; simp [flatL]
 have HFL := h_ hflat
 have hgP : g ≠ P := by omega
 have i1 : (kvs.length : Int) ≤ 90 := by omega
 have i2 : IntKind.i64.wrap (kvs.length : Int) = (kvs.length : Int) := IntWalk.i64_in _ (by omega)
 clear hf2 hf0 hg2 hbx hown hcell hln hflat HS HW1
 go_wp2_with fail
 refine wp_region_drawT (S := fun V => V.heap[P]? = some (.cells #[.string ⟨sec.toArray⟩, .int .i64 kinds, .slice (some ⟨g, 0, none⟩) (kvs.length + 1) gc] 158 (0, 0)) ∧ Below w2.heap.size w2 V) 12 (by kernel_rfl) (by kernel_rfl) ⟨HBX.out, below_dn ⟨1, rfl⟩⟩ (fun hHeld => ?_)
 try simp only [Act.put, sA_, sB_, sC_]
 refine dT_ (i := 0) (v := .pointer (some ⟨P, 0, none⟩)) (gT_ rfl) (fun W hW => by obtain ⟨q0, q1, q2⟩ := cells3 hW.1; clear hW; go_simp) ?_
 try simp only [Act.put, sA_, sB_, sC_]
 refine dT_ (i := 1) (v := .pointer (some ⟨P, 0, none⟩)) (gT_ rfl) (fun W hW => by obtain ⟨q0, q1, q2⟩ := cells3 hW.1; clear hW; go_simp) ?_
 try simp only [Act.put, sA_, sB_, sC_]
 refine dT_ (i := 2) (v := .pointer (some ⟨P, 2, none⟩)) (gT_ rfl) (fun W hW => by obtain ⟨q0, q1, q2⟩ := cells3 hW.1; clear hW; go_simp) ?_
 try simp only [Act.put, sA_, sB_, sC_]
 refine dT_ (i := 3) (v := .slice (some ⟨g, 0, none⟩) (kvs.length + 1) gc) (gT_ rfl) (fun W hW => by obtain ⟨q0, q1, q2⟩ := cells3 hW.1; clear hW; go_simp) ?_
 try simp only [Act.put, sA_, sB_, sC_]
 refine dT_ (i := 4) (v := .pointer (some ⟨P, 0, none⟩)) (gT_ rfl) (fun W hW => by obtain ⟨q0, q1, q2⟩ := cells3 hW.1; clear hW; go_simp) ?_
 try simp only [Act.put, sA_, sB_, sC_]
 refine dT_ (i := 5) (v := .pointer (some ⟨P, 0, none⟩)) (gT_ rfl) (fun W hW => by obtain ⟨q0, q1, q2⟩ := cells3 hW.1; clear hW; go_simp) ?_
 try simp only [Act.put, sA_, sB_, sC_]
 refine dT_ (i := 6) (v := .pointer (some ⟨P, 2, none⟩)) (gT_ rfl) (fun W hW => by obtain ⟨q0, q1, q2⟩ := cells3 hW.1; clear hW; go_simp) ?_
 try simp only [Act.put, sA_, sB_, sC_]
 refine dT_ (i := 7) (v := .slice (some ⟨g, 0, none⟩) (kvs.length + 1) gc) (gT_ rfl) (fun W hW => by obtain ⟨q0, q1, q2⟩ := cells3 hW.1; clear hW; go_simp) ?_
 try simp only [Act.put, sA_, sB_, sC_]
 refine dT_ (i := 8) (v := .int .i64 ((kvs.length : Int) + 1)) (gT_ rfl) (fun W hW => by obtain ⟨q0, q1, q2⟩ := cells3 hW.1; clear hW; go_simp) ?_
 try simp only [Act.put, sA_, sB_, sC_]
 refine dT_ (i := 9) (v := .int .i64 kvs.length) (gT_ rfl) (fun W hW => by obtain ⟨q0, q1, q2⟩ := cells3 hW.1; clear hW; go_simp) ?_
 try simp only [Act.put, sA_, sB_, sC_]
 refine dT_ (i := 10) (v := .slice (some ⟨WB, 0, none⟩) words.length wc) (gT_ rfl) (fun W hW => by obtain ⟨q0, q1, q2⟩ := cells3 hW.1; clear hW; go_simp) ?_
 try simp only [Act.put, sA_, sB_, sC_]
 refine drawT_one (i := 11) (gT_ rfl) (by kernel_rfl) (by kernel_rfl) (fun K hK => ?_)
 clear hHeld
 rw [if_pos (by rfl)]
 go_simp
 refine (HC.out _ (.inr trivial) (fun j u hj => by rw [Nat.zero_add]; show w2.cell? ⟨WB, j, none⟩ = some u; rw [(rd HW2.out).1 j, List.getElem?_toArray]; exact hj)).mono ?_
 rintro e w3 ⟨v3, rfl, ho3, hne3, hb3⟩
 obtain ⟨wa3, wc3, rfl⟩ := ownsRow_form ho3
 have HB3 := h_ ((show Below w2.heap.size w2 w2.drew from below_dn ⟨1, rfl⟩).trans hb3)
 have HO3 := h_ (show w3.ownsRow w2.heap.size 9 1 (.slice wa3 words.length wc3) words.length (strVals words) from ho3)
 clear ho3 hne3 hb3
 refine hK.out _ _ ⟨heap_below HBX.out HB3.out, HB3.out⟩ (fun hHeld => ?_)
 clear hK K
 try simp only [Act.put, sA_, sB_, sC_]
 refine drawT_done (by kernel_rfl) ?_
 clear hHeld
 obtain ⟨hset, ⟨ox, hox⟩, hfz, -, -, hshape⟩ := own_set_at (own_keeps HOW.out HB3.out) (kvs.length * 6 + 5) (by rw [HOW.out.1]; omega) (.slice wa3 words.length wc3)
 obtain ⟨sh, hshape⟩ := hshape
 go_wp2_with fail
 refine ⟨rfl, _, results_none rfl _ _ _, rfl, ⟨sec, name, 10, false, kinds, wa3, words.length, wc3⟩, ⟨rfl, rfl, rfl, rfl, rfl⟩, ⟨rfl, ?_⟩, ⟨some ⟨g, 0, none⟩, gc, ?_, ?_⟩, ?_⟩
 ·have hne : (Value.slice wa3 words.length wc3).ownBlock ≠ some g := by
   intro q
   have := (World.ownsRow.lt HO3.out g q).1
   omega
  have h1 : (w3.setCell ⟨g, kvs.length * 6 + 5, none⟩ (.slice wa3 words.length wc3)).ownsRow w2.heap.size 9 1 (.slice wa3 words.length wc3) words.length (strVals words) := by
   refine ⟨HO3.out.1, ?_⟩
   rcases HO3.out.2 with hn | ⟨g2, cp, cur, hv, hg2, hgg, rest⟩
   ·exact .inl hn
   ·refine .inr ⟨g2, cp, cur, hv, hg2, heap_other hgg (a := ⟨g, kvs.length * 6 + 5, none⟩) (by show g2 ≠ g; omega) _, rest⟩
  refine ⟨h1.1, ?_⟩
  rcases h1.2 with hn | ⟨g2, cp, cur, hv, hg2, hgg, rest⟩
  ·exact .inl hn
  ·exact .inr ⟨g2, cp, cur, hv, by have := HF2.out.size; omega, hgg, rest⟩
 ·rw [List.length_append]
  exact heap_other (heap_below HBX.out HB3.out) (a := ⟨g, kvs.length * 6 + 5, none⟩) (by show P ≠ g; omega) _
 ·have e1 : (flatL encK (kvs ++ [name].map (plainK sec kinds 10 false))).set (kvs.length * 6 + 5) (.slice wa3 words.length wc3) = flatL encK (kvs ++ [⟨sec, name, 10, false, kinds, wa3, words.length, wc3⟩]) := by
   rw [HFL.out, flatL_append, flatL_one]
   have hlk : (flatL encK kvs).length = kvs.length * 6 := flatL_length (enc := encK) (k := 6) (fun _ => rfl) kvs
   rw [List.set_append_right _ _ (by omega), hlk, show kvs.length * 6 + 5 - kvs.length * 6 = 5 by omega]
   rfl
  have e2 : (kvs ++ [(⟨sec, name, 10, false, kinds, wa3, words.length, wc3⟩ : KeyV)]).length = kvs.length + 1 := by simp
  rw [e1] at hset
  rw [e2]
  exact hset
 ·have f3 : FrB P B 41 w w3 := HF2.out.trans (show FrB P B 41 w2 w3 from Fr.of_below HB3.out _)
  refine Fr.setCell f3 (p := ⟨g, kvs.length * 6 + 5, none⟩) (fun hgw => .inr ⟨hBg, ?_⟩) _
  obtain ⟨cs, fz, hh⟩ := (ownsRow_row HOW.out g rfl).2
  by_cases hm : g = P ∨ (B ≤ g ∧ RowOf 41 w g)
  ·rcases hm with h | h
   ·omega
   ·exact h.2
  ·exact ⟨cs, fz, by rw [← HF2.out.block g hgw hm]; exact hh⟩
theorem wpList_append_run2 {P : Program} {w : World} {ops : Array Oper} {rest : List Oper} {o : Oper} {a : Act} {Q : Exit → Act → World → Prop} (hw : Region.wanted o (yielded ops a.tmps) = true) (s x : Operand) (t t2 : TypeId)
  (ho : o.op = .call { callee := .builtin .append, args := #[s, x], argTypes := #[t, t2] }) {v xv v' : Value} {w' : World} (hr : (Builtin.append_ #[t, t2] o.type #[v, xv]).run P w = .ok v' w') (hs : a.eval s = v) (hx : a.eval x = xv)
  (h : wpList P ops Q rest (a.put o.dst v') w') : wpList P ops Q (o :: rest) a w := by
 refine wpList_step fun K hK => ?_
 rw [if_pos hw]
 unfold Oper.wp execOp
 simp only [ho, resolve, invoke, builtin, Sem.run_bind, Sem.run_pure, Result.andThen_ok, List.map_toArray, List.map_cons, List.map_nil, hs, hx, hr]
 exact hK _ _ h
def OwnOutK (w : World) (l : List KeyV) (e : Ending) (w' : World) : Prop := ∃ v, e = .returned v ∧ w'.ownsRow w.heap.size 41 6 v l.length (flatL encK l) ∧ Below w.heap.size w w'
set_option maxHeartbeats 1000000 in
theorem growK_any (n : Nat) (w : World) (hn : n < 1073741824) : Calls Tryz.prog 163 #[.slice none 0 0, .int .i64 n] w fun e w' => ∃ v, e = .returned v ∧ w'.ownsRow w.heap.size 41 6 v 0 [] ∧ Below w.heap.size w w' := by
 obtain ⟨i0, hi0, hz0, hz1, hz2⟩ := info_parts infoKey
 by_cases h0 : n = 0
 ·subst h0
  go_enter Tryz.func163, Tryz.ntmps163
  go_wp2_with fail
  go_ret
  exact ⟨_, rfl, World.ownsRow_nil _ _ _ _, Below.refl _ _⟩
 ·have hrun : ∀ ty, (Builtin.append_ #[38, 3] ty #[.slice none 0 0, .int .i64 (n : Int)]).run Tryz.prog w = .ok (.slice (some ⟨w.heap.size, 0, none⟩) (0 + n) (grownCap w (0 + n) 0 41)) (w.drew.alloc (.cells (#[] ++ Builtin.zeroCells (Value.agg #[.string ⟨#[]⟩, .string ⟨#[]⟩, .int .i64 0, .bool false, .int .i64 0, .slice none 0 0]).cells n ++ Builtin.zeroCells (Value.agg #[.string ⟨#[]⟩, .string ⟨#[]⟩, .int .i64 0, .bool false, .int .i64 0, .slice none 0 0]).cells (grownCap w (0 + n) 0 41 - (0 + n))) 41)) := fun ty =>
   Lib.run_append_grow_zeros w 38 3 ty 41 i0 (.agg #[.string ⟨#[]⟩, .string ⟨#[]⟩, .int .i64 0, .bool false, .int .i64 0, .slice none 0 0]) .i64 .i64 Tryz.underlying38 Tryz.underlying3 hi0 hz0 none 0 0 [] (run_firstCells_none w.drew i0.size 0 0 0) n (by omega) (by omega) (by omega) (by omega) (by rw [hz2]; omega) (growslice_fits (by omega) (by rw [hz2]; omega))
  have hG := grownCap_ge w (0 + n) 0 41
  have hM := grownCap_le_maxLen w (0 + n) 0 41 (by unfold maxLen; omega)
  generalize grownCap w (0 + n) 0 41 = G at *
  have HR := h_ hrun
  have hown : (w.drew.alloc (.cells (#[] ++ Builtin.zeroCells (Value.agg #[.string ⟨#[]⟩, .string ⟨#[]⟩, .int .i64 0, .bool false, .int .i64 0, .slice none 0 0]).cells n ++ Builtin.zeroCells (Value.agg #[.string ⟨#[]⟩, .string ⟨#[]⟩, .int .i64 0, .bool false, .int .i64 0, .slice none 0 0]).cells (G - (0 + n))) 41)).ownsRow w.heap.size 41 6 (.slice (some ⟨w.heap.size, 0, none⟩) 0 G) 0 [] := by
   refine ⟨rfl, .inr ⟨w.heap.size, G, _, rfl, Nat.le_refl _, heap_alloc_new w.drew _, Nat.zero_le _, hM, ?_, by simp⟩⟩
   simp [Builtin.zeroCells, Value.cells]
   omega
  have HO := h_ hown
  have HB := h_ ((show Below w.heap.size w w.drew from below_dn ⟨1, rfl⟩).alloc (Nat.le_refl _) (.cells (#[] ++ Builtin.zeroCells (Value.agg #[.string ⟨#[]⟩, .string ⟨#[]⟩, .int .i64 0, .bool false, .int .i64 0, .slice none 0 0]).cells n ++ Builtin.zeroCells (Value.agg #[.string ⟨#[]⟩, .string ⟨#[]⟩, .int .i64 0, .bool false, .int .i64 0, .slice none 0 0]).cells (G - (0 + n))) 41))
  clear hrun hown
  have h1 : ¬ ((n : Int) < 0) := by omega
  have h2 : wrap64 ((n : Int) - 0) = (n : Int) := by unfold wrap64; omega
  have h2b : wrap64 (n : Int) = (n : Int) := by unfold wrap64; omega
  have h4 : (n : Int) > 0 := by omega
  have h5 : (0 : Int) < n := h4
  have hM2 : (G : Int) ≤ 9223372036854775807 := by unfold maxLen at hM; omega
  generalize hw1 : w.drew.alloc _ = w1 at *
  clear hw1
  go_enter Tryz.func163, Tryz.ntmps163
  go_wp2_with (at_builtin; refine wpList_append_run2 rfl _ _ 38 3 rfl (HR.out _) rfl rfl ?_)
  go_ret
  exact ⟨_, rfl, HO.out, HB.out⟩
structure RowsK (w : World) (G : Nat) (ls : List (List KeyV)) : Prop where
 lt : G < w.heap.size
 row : ∀ k (h : k < ls.length), ∃ oa cap, w.cell? ⟨G, k, none⟩ = some (.slice oa ls[k].length cap) ∧ RowRd encK 6 w oa ls[k]
theorem RowsK.below {w w' : World} {G : Nat} {ls : List (List KeyV)} (h : RowsK w G ls) (hb : Below w.heap.size w w') : RowsK w' G ls :=
 ⟨Nat.lt_of_lt_of_le h.lt hb.size, fun k hk => by obtain ⟨oa, cap, h1, h2⟩ := h.row k hk; exact ⟨oa, cap, by rw [hb.cell h.lt]; exact h1, h2.below hb⟩⟩
theorem flat_take_succ (ls : List (List KeyV)) (k : Nat) (h : k < ls.length) : (ls.take (k + 1)).flatten = (ls.take k).flatten ++ ls[k] := by
 rw [List.take_succ_eq_append_getElem h, List.flatten_append]; simp
theorem flat_take_le (ls : List (List KeyV)) (k : Nat) : (ls.take k).flatten.length ≤ ls.flatten.length := by
 have : ls.flatten = (ls.take k).flatten ++ (ls.drop k).flatten := by rw [← List.flatten_append, List.take_append_drop]
 rw [this, List.length_append]; omega
set_option maxHeartbeats 1000000 in
theorem concatK_any (G cap0 : Nat) (ls : List (List KeyV)) (w : World) (hr : RowsK w G ls) (hl : ls.length < 1000) (hs : ls.flatten.length < 1073741824) :
  Calls Tryz.prog 127 #[.slice (some ⟨G, 0, none⟩) ls.length cap0] w fun e w' => OwnOutK w ls.flatten e w' := by
 obtain ⟨i0, hi0, hz0, hz1, hz2⟩ := info_parts infoKey
 have HR := h_ hr; clear hr
 have HS := h_ hs
 go_enter Tryz.func127, Tryz.ntmps127
 go_wp2_with fail
 go_loopg [3, 11] (ls.length + 1) (fun f n i wr => ∃ k : Nat, k ≤ ls.length ∧ i = .int .i64 k ∧ n = .int .i64 ((ls.take k).flatten.length : Nat) ∧ ls.length - k < f ∧ w = wr)
 case atStart => exact ⟨0, by omega, rfl, by simp, by omega, rfl⟩
 case round =>
  obtain ⟨k, hk, rfl, rfl, hfu, rfl⟩ := hrel
  by_cases hlt : k < ls.length
  ·obtain ⟨oa, cap, hc, -⟩ := HR.out.row k hlt
   have hN := flat_take_succ ls k hlt
   have hle := flat_take_le ls (k + 1)
   have hlen : (ls.take (k + 1)).flatten.length = (ls.take k).flatten.length + ls[k].length := by rw [hN, List.length_append]
   rw [hlen] at hle
   have HL := h_ hlen
   clear hN hlen
   generalize (ls.take k).flatten.length = a at *
   generalize ls[k].length = b at *
   have i5 : (k : Int) < (ls.length : Int) := by omega
   have h2 : wrap64 ((a : Int) + (b : Int)) = (a : Int) + (b : Int) := by unfold wrap64; omega
   have h3 : ¬ ((a : Int) + (b : Int) < 0) := by omega
   go_wp2_with fail
   go_roundg (gk - 1)
   case measure => omega
   case rel => exact ⟨k + 1, by omega, by go_num, by rw [HL.out]; go_num, by omega, rfl⟩
  ·have hke : k = ls.length := by omega
   subst hke
   rw [List.take_length]
   have hge : ¬ ((ls.length : Int) < (ls.length : Int)) := by omega
   have HG := h_ (growK_any ls.flatten.length w hs)
   generalize hFN : ls.flatten.length = N at HG ⊢
   have HFN := h_ hFN; clear hFN
   go_wp2_with fail
   refine HG.out.mono ?_
   rintro e w1 ⟨v0, rfl, ho, hb⟩
   obtain ⟨ao, cap1, rfl⟩ := ownsRow_form ho
   have HO := h_ ho; have HB := h_ hb
   clear ho hb HG hfu hk hlt
   go_wp2_with fail
   go_loopg [6, 27] (ls.length + 1) (fun f v i w2 => ∃ k : Nat, k ≤ ls.length ∧ i = .int .i64 k ∧ ls.length - k < f ∧ Hid (w2.ownsRow w.heap.size 41 6 v (ls.take k).flatten.length (flatL encK (ls.take k).flatten)) ∧ Hid (Below w.heap.size w w2))
   case atStart => exact ⟨0, by omega, rfl, by omega, HO, HB⟩
   case round =>
    obtain ⟨k, hk, rfl, hfu, Hown, Hb⟩ := hrel
    clear HO HB
    obtain ⟨oa', cap', rfl⟩ := ownsRow_form Hown.out
    by_cases hlt : k < ls.length
    ·obtain ⟨oa, cap, hc, hrow⟩ := (HR.out.below Hb.out).row k hlt
     have hN := flat_take_succ ls k hlt
     have hle := Nat.lt_of_le_of_lt (flat_take_le ls (k + 1)) HS.out
     rw [hN, List.length_append] at hle
     have HN := h_ hN
     have i5 : (k : Int) < (ls.length : Int) := by omega
     obtain ⟨v', w3, hrun, hown, hgrow⟩ := append_rows w.heap.size 38 38 41 i0 (.agg #[.string ⟨#[]⟩, .string ⟨#[]⟩, .int .i64 0, .bool false, .int .i64 0, .slice none 0 0]) 6 80 Tryz.underlying38 hi0 hz0 hz1 hz2 rfl (by decide) _ _ _ Hown.out oa ls[k].length cap (flatL encK ls[k]) (by rw [flatL_length (enc := encK) (k := 6) (fun _ => rfl)]) (RowRd.flat (enc := encK) (k := 6) (fun _ => rfl) (by omega) hrow) (flatL_oneCell encK_one _) (by unfold maxLen; omega) (by omega) Hb.out.size
     have HRUN := h_ hrun
     have HB3 := h_ (Hb.out.grown hgrow Hb.out.size (fun g hg => (Hown.out.lt g hg).1))
     have HO3 := h_ (show w3.ownsRow w.heap.size 41 6 v' (ls.take (k + 1)).flatten.length (flatL encK (ls.take (k + 1)).flatten) by rw [hN, List.length_append, flatL_append]; exact hown)
     clear hrun hown hgrow hN hrow
     go_wp2_with (at_builtin; refine wpList_append_run rfl _ _ 38 rfl HRUN.out rfl rfl ?_)
     obtain ⟨ao, cap2, rfl⟩ := ownsRow_form HO3.out
     go_roundg (gk - 1)
     case measure => omega
     case rel => exact ⟨k + 1, by omega, by go_num, by omega, HO3, HB3⟩
    ·have hke : k = ls.length := by omega
     subst hke
     have hge : ¬ ((ls.length : Int) < (ls.length : Int)) := by omega
     have HO3 := h_ (by have := Hown.out; rw [List.take_length] at this; exact this)
     clear Hown
     rw [List.take_length]
     generalize hFL : ls.flatten = FL at HO3 ⊢
     have HFL := h_ hFL; clear hFL
     go_wp2_with fail
     go_ret
     exact ⟨_, rfl, by rw [HFL.out]; exact HO3.out, Hb.out⟩
end Go.Proofs.YtdjkedcpehhmnaaGreatDoor
