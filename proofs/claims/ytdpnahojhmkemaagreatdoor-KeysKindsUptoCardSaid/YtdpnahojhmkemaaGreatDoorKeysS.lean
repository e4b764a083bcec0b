/-
  The table of keys, plain. No program in sight.
-/
import Derived.Test.YtdpnahojhmkemaaGreatDoorWordsS
namespace Go.Proofs.YtdpnahojhmkemaaGreatDoor
set_option linter.unusedVariables false
set_option maxRecDepth 100000

structure KeyS where
  sec : Str
  name : Str
  form : Int
  list : Bool
  kinds : Int
  words : List Str
deriving DecidableEq

abbrev nUnit : Str := [85, 110, 105, 116]
abbrev nDescription : Str := [68, 101, 115, 99, 114, 105, 112, 116, 105, 111, 110]
abbrev nDefaultDependencies : Str := [68, 101, 102, 97, 117, 108, 116, 68, 101, 112, 101, 110, 100, 101, 110, 99, 105, 101, 115]
abbrev nRequires : Str := [82, 101, 113, 117, 105, 114, 101, 115]
abbrev nWants : Str := [87, 97, 110, 116, 115]
abbrev nRequisite : Str := [82, 101, 113, 117, 105, 115, 105, 116, 101]
abbrev nBindsTo : Str := [66, 105, 110, 100, 115, 84, 111]
abbrev nPartOf : Str := [80, 97, 114, 116, 79, 102]
abbrev nConflicts : Str := [67, 111, 110, 102, 108, 105, 99, 116, 115]
abbrev nBefore : Str := [66, 101, 102, 111, 114, 101]
abbrev nAfter : Str := [65, 102, 116, 101, 114]
abbrev nOnFailure : Str := [79, 110, 70, 97, 105, 108, 117, 114, 101]
abbrev nStartLimitIntervalSec : Str := [83, 116, 97, 114, 116, 76, 105, 109, 105, 116, 73, 110, 116, 101, 114, 118, 97, 108, 83, 101, 99]
abbrev nStartLimitBurst : Str := [83, 116, 97, 114, 116, 76, 105, 109, 105, 116, 66, 117, 114, 115, 116]
abbrev nService : Str := [83, 101, 114, 118, 105, 99, 101]
abbrev nType : Str := [84, 121, 112, 101]
abbrev nExecStartPre : Str := [69, 120, 101, 99, 83, 116, 97, 114, 116, 80, 114, 101]
abbrev nExecStart : Str := [69, 120, 101, 99, 83, 116, 97, 114, 116]
abbrev nExecStartPost : Str := [69, 120, 101, 99, 83, 116, 97, 114, 116, 80, 111, 115, 116]
abbrev nExecStop : Str := [69, 120, 101, 99, 83, 116, 111, 112]
abbrev nExecReload : Str := [69, 120, 101, 99, 82, 101, 108, 111, 97, 100]
abbrev nRemainAfterExit : Str := [82, 101, 109, 97, 105, 110, 65, 102, 116, 101, 114, 69, 120, 105, 116]
abbrev nRestart : Str := [82, 101, 115, 116, 97, 114, 116]
abbrev nRestartSec : Str := [82, 101, 115, 116, 97, 114, 116, 83, 101, 99]
abbrev nTimeoutStartSec : Str := [84, 105, 109, 101, 111, 117, 116, 83, 116, 97, 114, 116, 83, 101, 99]
abbrev nTimeoutStopSec : Str := [84, 105, 109, 101, 111, 117, 116, 83, 116, 111, 112, 83, 101, 99]
abbrev nSuccessExitStatus : Str := [83, 117, 99, 99, 101, 115, 115, 69, 120, 105, 116, 83, 116, 97, 116, 117, 115]
abbrev nEnvironment : Str := [69, 110, 118, 105, 114, 111, 110, 109, 101, 110, 116]
abbrev nSockets : Str := [83, 111, 99, 107, 101, 116, 115]
abbrev nsimple : Str := [115, 105, 109, 112, 108, 101]
abbrev noneshot : Str := [111, 110, 101, 115, 104, 111, 116]
abbrev nnotify : Str := [110, 111, 116, 105, 102, 121]
abbrev nno : Str := [110, 111]
abbrev non_success : Str := [111, 110, 45, 115, 117, 99, 99, 101, 115, 115]
abbrev non_failure : Str := [111, 110, 45, 102, 97, 105, 108, 117, 114, 101]
abbrev non_abnormal : Str := [111, 110, 45, 97, 98, 110, 111, 114, 109, 97, 108]
abbrev nalways : Str := [97, 108, 119, 97, 121, 115]
abbrev nSocket : Str := [83, 111, 99, 107, 101, 116]
abbrev nListenStream : Str := [76, 105, 115, 116, 101, 110, 83, 116, 114, 101, 97, 109]
abbrev nBacklog : Str := [66, 97, 99, 107, 108, 111, 103]
abbrev nFileDescriptorName : Str := [70, 105, 108, 101, 68, 101, 115, 99, 114, 105, 112, 116, 111, 114, 78, 97, 109, 101]
abbrev nTimer : Str := [84, 105, 109, 101, 114]
abbrev nOnBootSec : Str := [79, 110, 66, 111, 111, 116, 83, 101, 99]
abbrev nOnActiveSec : Str := [79, 110, 65, 99, 116, 105, 118, 101, 83, 101, 99]
abbrev nOnUnitInactiveSec : Str := [79, 110, 85, 110, 105, 116, 73, 110, 97, 99, 116, 105, 118, 101, 83, 101, 99]
abbrev nOnCalendar : Str := [79, 110, 67, 97, 108, 101, 110, 100, 97, 114]
abbrev nPersistent : Str := [80, 101, 114, 115, 105, 115, 116, 101, 110, 116]
abbrev nInstall : Str := [73, 110, 115, 116, 97, 108, 108]
abbrev nWantedBy : Str := [87, 97, 110, 116, 101, 100, 66, 121]
abbrev nRequiredBy : Str := [82, 101, 113, 117, 105, 114, 101, 100, 66, 121]
abbrev nAlias : Str := [65, 108, 105, 97, 115]
abbrev nAlso : Str := [65, 108, 115, 111]
abbrev nDefaultInstance : Str := [68, 101, 102, 97, 117, 108, 116, 73, 110, 115, 116, 97, 110, 99, 101]
abbrev rowUnit0 : List Str := [nDescription]
abbrev rowUnit1 : List Str := [nDefaultDependencies]
abbrev rowUnit2 : List Str := [nRequires, nWants, nRequisite, nBindsTo, nPartOf, nConflicts, nBefore, nAfter, nOnFailure]
abbrev rowUnit3 : List Str := [nStartLimitIntervalSec]
abbrev rowUnit4 : List Str := [nStartLimitBurst]
abbrev rowService0 : List Str := [nType]
abbrev wrdService0 : List Str := [nsimple, noneshot, nnotify]
abbrev rowService1 : List Str := [nExecStartPre, nExecStart, nExecStartPost, nExecStop, nExecReload]
abbrev rowService2 : List Str := [nRemainAfterExit]
abbrev rowService3 : List Str := [nRestart]
abbrev wrdService3 : List Str := [nno, non_success, non_failure, non_abnormal, nalways]
abbrev rowService4 : List Str := [nRestartSec, nTimeoutStartSec, nTimeoutStopSec]
abbrev rowService5 : List Str := [nSuccessExitStatus]
abbrev rowService6 : List Str := [nEnvironment]
abbrev rowService7 : List Str := [nSockets]
abbrev rowSocket0 : List Str := [nListenStream]
abbrev rowSocket1 : List Str := [nBacklog]
abbrev rowSocket2 : List Str := [nFileDescriptorName]
abbrev rowSocket3 : List Str := [nService]
abbrev rowTimer0 : List Str := [nOnBootSec, nOnActiveSec, nOnUnitInactiveSec]
abbrev rowTimer1 : List Str := [nOnCalendar]
abbrev rowTimer2 : List Str := [nPersistent]
abbrev rowTimer3 : List Str := [nUnit]
abbrev rowInstall0 : List Str := [nWantedBy, nRequiredBy, nAlias, nAlso]
abbrev rowInstall1 : List Str := [nDefaultInstance]
/-- Keys of one form. -/
def keysOf (sec : Str) (kinds form : Int) (list : Bool) (names : List Str) : List KeyS := names.map fun n => ⟨sec, n, form, list, kinds, []⟩

def keysUnit : List KeyS := keysOf nUnit 30 1 false rowUnit0 ++ keysOf nUnit 30 2 false rowUnit1 ++ keysOf nUnit 30 6 true rowUnit2 ++ keysOf nUnit 30 4 false rowUnit3 ++ keysOf nUnit 30 3 false rowUnit4
def keysService : List KeyS := [⟨nService, nType, 10, false, 2, wrdService0⟩] ++ keysOf nService 2 7 true rowService1 ++ keysOf nService 2 2 false rowService2 ++ [⟨nService, nRestart, 10, false, 2, wrdService3⟩] ++ keysOf nService 2 4 false rowService4 ++ keysOf nService 2 11 true rowService5 ++ keysOf nService 2 8 true rowService6 ++ keysOf nService 2 6 true rowService7
def keysSocket : List KeyS := keysOf nSocket 4 11 true rowSocket0 ++ keysOf nSocket 4 3 false rowSocket1 ++ keysOf nSocket 4 1 false rowSocket2 ++ keysOf nSocket 4 5 false rowSocket3
def keysTimer : List KeyS := keysOf nTimer 8 4 true rowTimer0 ++ keysOf nTimer 8 9 true rowTimer1 ++ keysOf nTimer 8 2 false rowTimer2 ++ keysOf nTimer 8 5 false rowTimer3
def keysInstall : List KeyS := keysOf nInstall 30 6 true rowInstall0 ++ keysOf nInstall 30 1 false rowInstall1
def allKeys : List KeyS := keysUnit ++ (keysService ++ (keysSocket ++ (keysTimer ++ (keysInstall))))
def findKey (sec name : Str) : Option KeyS := allKeys.find? fun k => k.sec == sec && k.name == name
theorem allKeys_len : allKeys.length = 42 := by decide
theorem find_each : ∀ k ∈ allKeys, findKey k.sec k.name = some k := by decide +kernel
theorem find_low : ∀ k ∈ allKeys, findKey k.name k.sec = none := by decide +kernel
theorem keys_small : ∀ k ∈ allKeys, k.sec.length ≤ 30 ∧ k.name.length ≤ 30 ∧ k.words.length ≤ 5 := by decide +kernel
end Go.Proofs.YtdpnahojhmkemaaGreatDoor
