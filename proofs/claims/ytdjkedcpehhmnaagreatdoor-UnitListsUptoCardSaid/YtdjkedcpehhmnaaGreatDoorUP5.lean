import Derived.Test.YtdjkedcpehhmnaaGreatDoorUP1
import Derived.Test.YtdjkedcpehhmnaaGreatDoorUP2
import Derived.Test.YtdjkedcpehhmnaaGreatDoorUP4
namespace Go.Proofs.YtdjkedcpehhmnaaGreatDoor
set_option linter.unusedVariables false
set_option maxRecDepth 100000
structure KeyS where
 sec : Str
 name : Str
 form : Int
 list : Bool
 kinds : Int
 words : List Str
deriving DecidableEq
abbrev nUnit : Str := [85, 110, 105, 116]
abbrev nDescription : Str := [68, 101, 115, 99, 114, 105, 112, 116, 105, 111, 110]
abbrev nDefaultDependencies : Str := [68, 101, 102, 97, 117, 108, 116, 68, 101, 112, 101, 110, 100, 101, 110, 99, 105, 101, 115]
abbrev nRequires : Str := [82, 101, 113, 117, 105, 114, 101, 115]
abbrev nWants : Str := [87, 97, 110, 116, 115]
abbrev nRequisite : Str := [82, 101, 113, 117, 105, 115, 105, 116, 101]
abbrev nBindsTo : Str := [66, 105, 110, 100, 115, 84, 111]
abbrev nPartOf : Str := [80, 97, 114, 116, 79, 102]
abbrev nConflicts : Str := [67, 111, 110, 102, 108, 105, 99, 116, 115]
abbrev nBefore : Str := [66, 101, 102, 111, 114, 101]
abbrev nAfter : Str := [65, 102, 116, 101, 114]
abbrev nOnFailure : Str := [79, 110, 70, 97, 105, 108, 117, 114, 101]
abbrev nStartLimitIntervalSec : Str := [83, 116, 97, 114, 116, 76, 105, 109, 105, 116, 73, 110, 116, 101, 114, 118, 97, 108, 83, 101, 99]
abbrev nStartLimitBurst : Str := [83, 116, 97, 114, 116, 76, 105, 109, 105, 116, 66, 117, 114, 115, 116]
abbrev nService : Str := [83, 101, 114, 118, 105, 99, 101]
abbrev nType : Str := [84, 121, 112, 101]
abbrev nExecStartPre : Str := [69, 120, 101, 99, 83, 116, 97, 114, 116, 80, 114, 101]
abbrev nExecStart : Str := [69, 120, 101, 99, 83, 116, 97, 114, 116]
abbrev nExecStartPost : Str := [69, 120, 101, 99, 83, 116, 97, 114, 116, 80, 111, 115, 116]
abbrev nExecStop : Str := [69, 120, 101, 99, 83, 116, 111, 112]
abbrev nExecReload : Str := [69, 120, 101, 99, 82, 101, 108, 111, 97, 100]
abbrev nRemainAfterExit : Str := [82, 101, 109, 97, 105, 110, 65, 102, 116, 101, 114, 69, 120, 105, 116]
abbrev nRestart : Str := [82, 101, 115, 116, 97, 114, 116]
abbrev nRestartSec : Str := [82, 101, 115, 116, 97, 114, 116, 83, 101, 99]
abbrev nTimeoutStartSec : Str := [84, 105, 109, 101, 111, 117, 116, 83, 116, 97, 114, 116, 83, 101, 99]
abbrev nTimeoutStopSec : Str := [84, 105, 109, 101, 111, 117, 116, 83, 116, 111, 112, 83, 101, 99]
abbrev nSuccessExitStatus : Str := [83, 117, 99, 99, 101, 115, 115, 69, 120, 105, 116, 83, 116, 97, 116, 117, 115]
abbrev nEnvironment : Str := [69, 110, 118, 105, 114, 111, 110, 109, 101, 110, 116]
abbrev nSockets : Str := [83, 111, 99, 107, 101, 116, 115]
abbrev nsimple : Str := [115, 105, 109, 112, 108, 101]
abbrev noneshot : Str := [111, 110, 101, 115, 104, 111, 116]
abbrev nnotify : Str := [110, 111, 116, 105, 102, 121]
abbrev nno : Str := [110, 111]
abbrev non_success : Str := [111, 110, 45, 115, 117, 99, 99, 101, 115, 115]
abbrev non_failure : Str := [111, 110, 45, 102, 97, 105, 108, 117, 114, 101]
abbrev non_abnormal : Str := [111, 110, 45, 97, 98, 110, 111, 114, 109, 97, 108]
abbrev nalways : Str := [97, 108, 119, 97, 121, 115]
abbrev nSocket : Str := [83, 111, 99, 107, 101, 116]
abbrev nListenStream : Str := [76, 105, 115, 116, 101, 110, 83, 116, 114, 101, 97, 109]
abbrev nBacklog : Str := [66, 97, 99, 107, 108, 111, 103]
abbrev nFileDescriptorName : Str := [70, 105, 108, 101, 68, 101, 115, 99, 114, 105, 112, 116, 111, 114, 78, 97, 109, 101]
abbrev nTimer : Str := [84, 105, 109, 101, 114]
abbrev nOnBootSec : Str := [79, 110, 66, 111, 111, 116, 83, 101, 99]
abbrev nOnActiveSec : Str := [79, 110, 65, 99, 116, 105, 118, 101, 83, 101, 99]
abbrev nOnUnitInactiveSec : Str := [79, 110, 85, 110, 105, 116, 73, 110, 97, 99, 116, 105, 118, 101, 83, 101, 99]
abbrev nOnCalendar : Str := [79, 110, 67, 97, 108, 101, 110, 100, 97, 114]
abbrev nPersistent : Str := [80, 101, 114, 115, 105, 115, 116, 101, 110, 116]
abbrev nInstall : Str := [73, 110, 115, 116, 97, 108, 108]
abbrev nWantedBy : Str := [87, 97, 110, 116, 101, 100, 66, 121]
abbrev nRequiredBy : Str := [82, 101, 113, 117, 105, 114, 101, 100, 66, 121]
abbrev nAlias : Str := [65, 108, 105, 97, 115]
abbrev nAlso : Str := [65, 108, 115, 111]
abbrev nDefaultInstance : Str := [68, 101, 102, 97, 117, 108, 116, 73, 110, 115, 116, 97, 110, 99, 101]
abbrev rowUnit0 : List Str := [nDescription]
abbrev rowUnit1 : List Str := [nDefaultDependencies]
abbrev rowUnit2 : List Str := [nRequires, nWants, nRequisite, nBindsTo, nPartOf, nConflicts, nBefore, nAfter, nOnFailure]
abbrev rowUnit3 : List Str := [nStartLimitIntervalSec]
abbrev rowUnit4 : List Str := [nStartLimitBurst]
abbrev wrdService0 : List Str := [nsimple, noneshot, nnotify]
abbrev rowService1 : List Str := [nExecStartPre, nExecStart, nExecStartPost, nExecStop, nExecReload]
abbrev rowService2 : List Str := [nRemainAfterExit]
abbrev wrdService3 : List Str := [nno, non_success, non_failure, non_abnormal, nalways]
abbrev rowService4 : List Str := [nRestartSec, nTimeoutStartSec, nTimeoutStopSec]
abbrev rowService5 : List Str := [nSuccessExitStatus]
abbrev rowService6 : List Str := [nEnvironment]
abbrev rowService7 : List Str := [nSockets]
abbrev rowSocket0 : List Str := [nListenStream]
abbrev rowSocket1 : List Str := [nBacklog]
abbrev rowSocket2 : List Str := [nFileDescriptorName]
abbrev rowSocket3 : List Str := [nService]
abbrev rowTimer0 : List Str := [nOnBootSec, nOnActiveSec, nOnUnitInactiveSec]
abbrev rowTimer1 : List Str := [nOnCalendar]
abbrev rowTimer2 : List Str := [nPersistent]
abbrev rowTimer3 : List Str := [nUnit]
abbrev rowInstall0 : List Str := [nWantedBy, nRequiredBy, nAlias, nAlso]
abbrev rowInstall1 : List Str := [nDefaultInstance]
def keysOf (sec : Str) (kinds form : Int) (list : Bool) (names : List Str) : List KeyS := names.map fun n => ⟨sec, n, form, list, kinds, []⟩
def keysUnit : List KeyS := keysOf nUnit 30 1 false rowUnit0 ++ keysOf nUnit 30 2 false rowUnit1 ++ keysOf nUnit 30 6 true rowUnit2 ++ keysOf nUnit 30 4 false rowUnit3 ++ keysOf nUnit 30 3 false rowUnit4
def keysService : List KeyS := [⟨nService, nType, 10, false, 2, wrdService0⟩] ++ keysOf nService 2 7 true rowService1 ++ keysOf nService 2 2 false rowService2 ++ [⟨nService, nRestart, 10, false, 2, wrdService3⟩] ++ keysOf nService 2 4 false rowService4 ++ keysOf nService 2 11 true rowService5 ++ keysOf nService 2 8 true rowService6 ++ keysOf nService 2 6 true rowService7
def keysSocket : List KeyS := keysOf nSocket 4 11 true rowSocket0 ++ keysOf nSocket 4 3 false rowSocket1 ++ keysOf nSocket 4 1 false rowSocket2 ++ keysOf nSocket 4 5 false rowSocket3
def keysTimer : List KeyS := keysOf nTimer 8 4 true rowTimer0 ++ keysOf nTimer 8 9 true rowTimer1 ++ keysOf nTimer 8 2 false rowTimer2 ++ keysOf nTimer 8 5 false rowTimer3
def keysInstall : List KeyS := keysOf nInstall 30 6 true rowInstall0 ++ keysOf nInstall 30 1 false rowInstall1
def allKeys : List KeyS := keysUnit ++ (keysService ++ (keysSocket ++ (keysTimer ++ (keysInstall))))
def findKey (sec name : Str) : Option KeyS := allKeys.find? fun k => k.sec == sec && k.name == name
theorem allKeys_len : allKeys.length = 42 := by decide
theorem find_each : ∀ k ∈ allKeys, findKey k.sec k.name = some k := by decide +kernel
open Go Go.RowKit
set_option linter.unusedSimpArgs false
structure KeyV where
 sec : Str
 name : Str
 form : Int
 list : Bool
 kinds : Int
 wa : Option Addr
 wn : Nat
 wc : Nat
def encK (k : KeyV) : List Value := [.string ⟨k.sec.toArray⟩, .string ⟨k.name.toArray⟩, .int .i64 k.form, .bool k.list, .int .i64 k.kinds, .slice k.wa k.wn k.wc]
theorem encK_one (k : KeyV) : ∀ v ∈ encK k, v.oneCell' = true := by intro v hv; simp [encK] at hv; rcases hv with rfl | rfl | rfl | rfl | rfl | rfl <;> rfl
def plainK (sec : Str) (kinds form : Int) (list : Bool) (n : Str) : KeyV := ⟨sec, n, form, list, kinds, none, 0, 0⟩
theorem infoKey : (Tryz.prog.info? 41).map (fun i => (i.zero, i.size, i.bytes)) = some (some (.agg #[.string ⟨#[]⟩, .string ⟨#[]⟩, .int .i64 0, .bool false, .int .i64 0, .slice none 0 0]), 6, 80) := by kernel_rfl
theorem own_built6 (w : World) (a b c d e f : Value) (T : TypeId) : (w.alloc (.cells #[a, b, c, d, e, f] T)).ownsRow w.heap.size T 6 (.slice (some ⟨w.heap.size, 0, none⟩) 1 1) 1 [a, b, c, d, e, f] :=
 ⟨rfl, .inr ⟨w.heap.size, 1, #[a, b, c, d, e, f], rfl, Nat.le_refl _, heap_alloc_new _ _, Nat.le_refl _, by decide, rfl, rfl⟩⟩
theorem ownsRow_row {w : World} {B e k n : Nat} {v : Value} {xs : List Value} (h : w.ownsRow B e k v n xs) : ∀ g, v.ownBlock = some g → B ≤ g ∧ RowOf e w g := by
 intro g hg
 rcases h.2 with ⟨rfl, _⟩ | ⟨g', cap, cur, rfl, hb, hh, _⟩
 ·simp [Value.ownBlock] at hg
 ·simp [Value.ownBlock] at hg
  subst hg
  exact ⟨hb, cur, (0, 0), hh⟩
structure GrpAt (w : World) (P B : Nat) (sec : Str) (kinds : Int) (kvs : List KeyV) : Prop where
 ex : ∃ ga gc, w.heap[P]? = some (.cells #[.string ⟨sec.toArray⟩, .int .i64 kinds, .slice ga kvs.length gc] 158 (0, 0)) ∧ w.ownsRow B 41 6 (.slice ga kvs.length gc) kvs.length (flatL encK kvs)
theorem GrpAt.below {w w' : World} {P B : Nat} {sec : Str} {kinds : Int} {kvs : List KeyV} (h : GrpAt w P B sec kinds kvs) (hb : Below w.heap.size w w') : GrpAt w' P B sec kinds kvs := by
 obtain ⟨ga, gc, h1, h2⟩ := h.ex
 exact ⟨ga, gc, heap_below h1 hb, own_keeps h2 hb⟩
theorem GrpAt.more {wr w7 w8 : World} {P B : Nat} {sec : Str} {kinds : Int} {kvs : List KeyV} {k : KeyV} {ga ga2 : Option Addr} {gc gc2 : Nat} (hb : Below wr.heap.size wr w7)
  (h1 : wr.heap[P]? = some (.cells #[.string ⟨sec.toArray⟩, .int .i64 kinds, .slice ga kvs.length gc] 158 (0, 0))) (h2 : wr.ownsRow B 41 6 (.slice ga kvs.length gc) kvs.length (flatL encK kvs)) (hPB : P < B)
  (hg : w7.grownBy w8 (Value.slice ga kvs.length gc).ownBlock) (ho : w8.ownsRow B 41 6 (.slice ga2 (kvs.length + 1) gc2) (kvs.length + 1) (flatL encK kvs ++ encK k)) :
  GrpAt (w8.setCell ⟨P, 2, none⟩ (.slice ga2 (kvs.length + 1) gc2)) P B sec kinds (kvs ++ [k]) ∧ FrB P B 41 wr (w8.setCell ⟨P, 2, none⟩ (.slice ga2 (kvs.length + 1) gc2)) := by
 have b7 := heap_below h1 hb
 have o7 := own_keeps h2 hb
 have b8 : w8.heap[P]? = some (.cells #[.string ⟨sec.toArray⟩, .int .i64 kinds, .slice ga kvs.length gc] 158 (0, 0)) := by
  rw [hg.block P (lt_heap b7) (own_not_box o7 b7 (by decide))]; exact b7
 have e : (kvs ++ [k]).length = kvs.length + 1 := by simp
 refine ⟨⟨ga2, gc2, ?_, ?_⟩, ?_⟩
 ·have := heap_setCell b8 2 (.slice ga2 (kvs.length + 1) gc2)
  rw [this, e]; rfl
 ·rw [e, flatL_append, flatL_one]
  refine ⟨ho.1, ?_⟩
  rcases ho.2 with hn | ⟨g, cp, cur, hv, hg2, hgg, rest⟩
  ·exact .inl hn
  ·refine .inr ⟨g, cp, cur, hv, hg2, ?_, rest⟩
   have hne : g ≠ P := by omega
   exact heap_other hgg (a := ⟨P, 2, none⟩) hne _
 ·have f1 : FrB P B 41 wr w7 := Fr.of_below hb _
  exact (f1.trans ((FrB.refl P B 41 w7).grown hg (ownsRow_row o7))).setCell 2 _
set_option maxHeartbeats 2000000 in
theorem some_any (P B : Nat) (sec : Str) (kinds form : Int) (list : Bool) (kvs : List KeyV) (NB nc : Nat) (names : List Str) (w : World) (hG : GrpAt w P B sec kinds kvs) (hPB : P < B) (hBw : B ≤ w.heap.size)
  (hN : w.heap[NB]? = some (.cells (strVals names).toArray 9 (0, 0))) (hl : names.length ≤ 100) (hk : kvs.length ≤ 100) :
  Calls Tryz.prog 125 #[.pointer (some ⟨P, 0, none⟩), .int .i64 form, .bool list, .slice (some ⟨NB, 0, none⟩) names.length nc] w fun e w' => e = .returned (.tuple #[]) ∧ GrpAt w' P B sec kinds (kvs ++ names.map (plainK sec kinds form list)) ∧ FrB P B 41 w w' := by
 obtain ⟨i0, hi0, hz0, hz1, hz2⟩ := info_parts infoKey
 have HN := h_ hN
 have HG0 := h_ (show GrpAt w P B sec kinds (kvs ++ (names.take 0).map (plainK sec kinds form list)) by simpa using hG)
 have HNP := h_ (show NB ≠ P from by rintro rfl; obtain ⟨ga, gc, h1, _⟩ := hG.ex; rw [hN] at h1; simp at h1)
 clear hN hG
 go_enter Tryz.func125, Tryz.ntmps125
 go_wp2_with fail
 go_loopg [12] (names.length + 1) (fun f i wr => ∃ k : Nat, k ≤ names.length ∧ i = .int .i64 k ∧ names.length - k < f ∧ Hid (GrpAt wr P B sec kinds (kvs ++ (names.take k).map (plainK sec kinds form list))) ∧ Hid (FrB P B 41 w wr))
 case atStart => exact ⟨0, by omega, rfl, by omega, HG0, FrB.refl _ _ _ _⟩
 case round =>
  obtain ⟨k, hk2, rfl, hfu, HGk, Hf⟩ := hrel
  clear HG0
  by_cases hlt : k < names.length
  ·obtain ⟨n, hn⟩ : ∃ n, n = names[k] := ⟨_, rfl⟩
   have hb2 := Hf.out.heap HN.out HNP.out (by decide)
   have d0 : wr.cell? ⟨NB, k, none⟩ = some (.string ⟨n.toArray⟩) := by
    rw [(rd hb2).1 k, List.getElem?_toArray, strVals, List.getElem?_map, List.getElem?_eq_getElem hlt, hn]; rfl
   have HSN := h_ (show kvs ++ (names.take (k + 1)).map (plainK sec kinds form list) = (kvs ++ (names.take k).map (plainK sec kinds form list)) ++ [plainK sec kinds form list n] by
    rw [List.take_succ_eq_append_getElem hlt, List.map_append, hn]; simp)
   have hlen : (kvs ++ (names.take k).map (plainK sec kinds form list)).length ≤ 200 := by rw [List.length_append, List.length_map, List.length_take]; omega
   have hsz := Hf.out.size
   generalize kvs ++ (names.take k).map (plainK sec kinds form list) = ks at *
   obtain ⟨ga, gc, hbx, hown⟩ := HGk.out.ex
   have HBX := h_ hbx; have HOW := h_ hown
   have i5 : (k : Int) < (names.length : Int) := by omega
   clear hb2 hn hbx hown
   go_wp2_with fail
   refine wp_region_drawT (S := fun V => V.heap[P]? = some (.cells #[.string ⟨sec.toArray⟩, .int .i64 kinds, .slice ga ks.length gc] 158 (0, 0))) 19 (by kernel_rfl) (by kernel_rfl) HBX.out (fun hHeld => ?_)
   try simp only [Act.put, sA_, sB_, sC_]
   refine dT_ (i := 0) (v := .pointer (some ⟨P, 0, none⟩)) (gT_ rfl) (fun W hW => by obtain ⟨q0, q1, q2⟩ := cells3 hW; clear hW; go_simp) ?_
   try simp only [Act.put, sA_, sB_, sC_]
   refine dT_ (i := 1) (v := .pointer (some ⟨P, 0, none⟩)) (gT_ rfl) (fun W hW => by obtain ⟨q0, q1, q2⟩ := cells3 hW; clear hW; go_simp) ?_
   try simp only [Act.put, sA_, sB_, sC_]
   refine dT_ (i := 2) (v := .pointer (some ⟨P, 0, none⟩)) (gT_ rfl) (fun W hW => by obtain ⟨q0, q1, q2⟩ := cells3 hW; clear hW; go_simp) ?_
   try simp only [Act.put, sA_, sB_, sC_]
   refine dT_ (i := 3) (v := .pointer (some ⟨P, 2, none⟩)) (gT_ rfl) (fun W hW => by obtain ⟨q0, q1, q2⟩ := cells3 hW; clear hW; go_simp) ?_
   try simp only [Act.put, sA_, sB_, sC_]
   refine dT_ (i := 4) (v := .slice ga ks.length gc) (gT_ rfl) (fun W hW => by obtain ⟨q0, q1, q2⟩ := cells3 hW; clear hW; go_simp) ?_
   try simp only [Act.put, sA_, sB_, sC_]
   refine dT_ (i := 5) (v := .pointer (some ⟨P, 0, none⟩)) (gT_ rfl) (fun W hW => by obtain ⟨q0, q1, q2⟩ := cells3 hW; clear hW; go_simp) ?_
   try simp only [Act.put, sA_, sB_, sC_]
   refine dT_ (i := 6) (v := .pointer (some ⟨P, 0, none⟩)) (gT_ rfl) (fun W hW => by obtain ⟨q0, q1, q2⟩ := cells3 hW; clear hW; go_simp) ?_
   try simp only [Act.put, sA_, sB_, sC_]
   refine dT_ (i := 7) (v := .pointer (some ⟨P, 0, none⟩)) (gT_ rfl) (fun W hW => by obtain ⟨q0, q1, q2⟩ := cells3 hW; clear hW; go_simp) ?_
   try simp only [Act.put, sA_, sB_, sC_]
   refine dT_ (i := 8) (v := .string ⟨sec.toArray⟩) (gT_ rfl) (fun W hW => by obtain ⟨q0, q1, q2⟩ := cells3 hW; clear hW; go_simp) ?_
   try simp only [Act.put, sA_, sB_, sC_]
   refine dT_ (i := 9) (v := .string ⟨n.toArray⟩) (gT_ rfl) (fun W hW => by obtain ⟨q0, q1, q2⟩ := cells3 hW; clear hW; go_simp) ?_
   try simp only [Act.put, sA_, sB_, sC_]
   refine dT_ (i := 10) (v := .int .i64 form) (gT_ rfl) (fun W hW => by obtain ⟨q0, q1, q2⟩ := cells3 hW; clear hW; go_simp) ?_
   try simp only [Act.put, sA_, sB_, sC_]
   refine dT_ (i := 11) (v := .bool list) (gT_ rfl) (fun W hW => by obtain ⟨q0, q1, q2⟩ := cells3 hW; clear hW; go_simp) ?_
   try simp only [Act.put, sA_, sB_, sC_]
   refine dT_ (i := 12) (v := .pointer (some ⟨P, 0, none⟩)) (gT_ rfl) (fun W hW => by obtain ⟨q0, q1, q2⟩ := cells3 hW; clear hW; go_simp) ?_
   try simp only [Act.put, sA_, sB_, sC_]
   refine dT_ (i := 13) (v := .pointer (some ⟨P, 0, none⟩)) (gT_ rfl) (fun W hW => by obtain ⟨q0, q1, q2⟩ := cells3 hW; clear hW; go_simp) ?_
   try simp only [Act.put, sA_, sB_, sC_]
   refine dT_ (i := 14) (v := .pointer (some ⟨P, 1, none⟩)) (gT_ rfl) (fun W hW => by obtain ⟨q0, q1, q2⟩ := cells3 hW; clear hW; go_simp) ?_
   try simp only [Act.put, sA_, sB_, sC_]
   refine dT_ (i := 15) (v := .int .i64 kinds) (gT_ rfl) (fun W hW => by obtain ⟨q0, q1, q2⟩ := cells3 hW; clear hW; go_simp) ?_
   try simp only [Act.put, sA_, sB_, sC_]
   refine dT_ (i := 16) (v := .agg #[.string ⟨sec.toArray⟩, .string ⟨n.toArray⟩, .int .i64 form, .bool list, .int .i64 kinds, .slice none 0 0]) (gT_ rfl) (fun W hW => by obtain ⟨q0, q1, q2⟩ := cells3 hW; clear hW; go_simp) ?_
   try simp only [Act.put, sA_, sB_, sC_]
   refine drawT_one (i := 17) (gT_ rfl) (by kernel_rfl) (by kernel_rfl) (fun K hK => ?_)
   clear hHeld
   rw [if_pos (by rfl)]
   go_simp
   have HBJ := h_ (show Below wr.heap.size wr (wr.drew.alloc (.cells #[.string ⟨sec.toArray⟩, .string ⟨n.toArray⟩, .int .i64 form, .bool list, .int .i64 kinds, .slice none 0 0] 41)) from (show Below wr.heap.size wr wr.drew from below_dn ⟨1, rfl⟩).alloc (Nat.le_refl _) _)
   have HBL := h_ (RowRd.of_own (enc := encK) (k := 6) (l := [plainK sec kinds form list n]) (oa := some ⟨wr.drew.heap.size, 0, none⟩) (cap := 1) (fun _ => rfl) (own_built6 wr.drew (.string ⟨sec.toArray⟩) (.string ⟨n.toArray⟩) (.int .i64 form) (.bool list) (.int .i64 kinds) (.slice none 0 0) 41))
   refine hK.out _ _ (heap_below HBX.out HBJ.out) (fun hHeld => ?_)
   clear hK K
   try simp only [Act.put, sA_, sB_, sC_]
   refine drawT_one (i := 18) (gT_ rfl) (by kernel_rfl) (by kernel_rfl) (fun K hK => ?_)
   clear hHeld
   refine step_append_rows (by rfl) (.tmp 20) (.tmp 33) 38 (by rfl) B 41 i0 (.agg #[.string ⟨#[]⟩, .string ⟨#[]⟩, .int .i64 0, .bool false, .int .i64 0, .slice none 0 0]) 6 80 Tryz.underlying38 hi0 hz0 hz1 hz2 (by rfl) (by decide) (.slice ga ks.length gc) ks.length (flatL encK ks) (by rfl) (own_keeps HOW.out HBJ.out) (some ⟨wr.heap.size, 0, none⟩) 1 1 (flatL encK [plainK sec kinds form list n]) (by rfl)
     rfl (RowRd.flat (enc := encK) (k := 6) (fun _ => rfl) (by omega) HBL.out) (flatL_oneCell encK_one _) (by unfold maxLen; omega) (by omega) (Nat.le_trans (Nat.le_trans hBw hsz) HBJ.out.size) ?_
   intro v1 w7 hown1 hgrow1
   obtain ⟨ga2, gc2, rfl⟩ := ownsRow_form hown1
   have HM := h_ (GrpAt.more (k := plainK sec kinds form list n) HBJ.out HBX.out HOW.out hPB hgrow1 (by rw [← flatL_one encK]; exact hown1))
   have HBX7 := h_ (show w7.heap[P]? = some (.cells #[.string ⟨sec.toArray⟩, .int .i64 kinds, .slice ga ks.length gc] 158 (0, 0)) from by
    rw [hgrow1.block P (lt_heap (heap_below HBX.out HBJ.out)) (own_not_box (own_keeps HOW.out HBJ.out) (heap_below HBX.out HBJ.out) (by decide))]; exact heap_below HBX.out HBJ.out)
   clear hown1 hgrow1
   refine hK.out _ _ HBX7.out (fun hHeld => ?_)
   clear hK K
   try simp only [Act.put, sA_, sB_, sC_]
   refine drawT_done (by kernel_rfl) ?_
   clear hHeld
   have hgb := rd HBX7.out
   have s3 := (cells3 HBX7.out).2.2; have s4 := hgb.2.1 2; have s5 := hgb.2.2.1
   clear hgb
   go_wp2_with fail
   go_roundg (gk - 1)
   case measure => omega
   case rel => exact ⟨k + 1, by omega, by go_num, by omega, by rw [HSN.out]; exact HM.out.1, Hf.out.trans HM.out.2⟩
  ·have hk3 : k = names.length := by omega
   subst hk3
   rw [List.take_of_length_le (Nat.le_refl _)] at HGk
   go_wp2_with fail
   refine ⟨rfl, _, results_none rfl _ _ _, ?_⟩
   exact ⟨rfl, HGk.out, Hf.out⟩
end Go.Proofs.YtdjkedcpehhmnaaGreatDoor
