import Derived.Test.YtmgmbeipbeknaaaGreatDoorRB2
import Derived.Test.YtmgmbeipbeknaaaGreatDoorRB9
import Derived.Test.YtmgmbeipbeknaaaGreatDoorRB23
import Derived.Test.YtmgmbeipbeknaaaGreatDoorRB26
namespace Go.Proofs.YtmgmbeipbeknaaaGreatDoor
open Go Go.RowKit
set_option linter.all false
set_option maxHeartbeats 16000000
set_option maxRecDepth 100000
theorem Zii(sec name:Str)(k:ZE)(h:findKey sec name=some k):k.sec=sec/\k.name=name:=by
 unfold findKey at h
 have:=List.find?_some h
 simp only [Bool.and_eq_true,beq_iff_eq] at this;exact this
theorem Zvz(kind:Int)(x:Ln)(h:lnS kind x=0):∃k,findKey x.sec x.key=some k/\k∈Zc/\k.sec=x.sec/\k.name=x.key/\ZeK x.val k=0:=by
 unfold lnS Zlh at h;split at h
 ·exact absurd h d_
 ·split at h
  ·exact absurd h d_
  ·rename_i k hk
   refine ⟨k,hk,Zit _ _ k hk,(Zii _ _ k hk).1,(Zii _ _ k hk).2,?_⟩;split at h
   ·assumption
   ·exact absurd h d_
open Go.Proofs.Tryz
theorem m169_{p:Prop}(h:p:=by go_wp2_with fail;go_ret;exact ⟨rfl,rfl⟩):p:=h
def Jr:List Str:=[[83,111,99,107,101,116,115],[87,97,110,116,101,100,66,121],[82,101,113,117,105,114,101,100,66,121],[65,108,105,97,115],[65,108,115,111],[69,120,101,99,83,116,97,114,116,80,114,101],[69,120,101,99,83,116,97,114,116],[69,120,101,99,83,116,97,114,116,80,111,115,116],[69,120,101,99,83,116,111,112],[69,120,101,99,82,101,108,111,97,100],[79,110,66,111,111,116,83,101,99],[79,110,65,99,116,105,118,101,83,101,99],[79,110,85,110,105,116,73,110,97,99,116,105,118,101,83,101,99],[83,117,99,99,101,115,115,69,120,105,116,83,116,97,116,117,115],[76,105,115,116,101,110,83,116,114,101,97,109],[69,110,118,105,114,111,110,109,101,110,116],[79,110,67,97,108,101,110,100,97,114]]
def Zvf(s:Str):Option Nat:=([([83,111,99,107,101,116,115],20),([87,97,110,116,101,100,66,121],30),([82,101,113,117,105,114,101,100,66,121],31),([65,108,105,97,115],32),([65,108,115,111],33)]:List (Str×Nat)).lookup s
theorem Yx(U:Nat)(w:World):∀s∈Jr,Calls prog 104 #[.pointer (some ⟨U,0,none⟩),.string ⟨s.toArray⟩] w fun e w'=>e=.returned (.pointer ((Zvf s).map fun j=>⟨U,j,none⟩))/\w'=w:=by
 intro s hs;simp only [Jr,List.mem_cons,List.not_mem_nil,or_false] at hs;rcases hs with rfl|rfl|rfl|rfl|rfl|rfl|rfl|rfl|rfl|rfl|rfl|rfl|rfl|rfl|rfl|rfl|rfl
 all_goals
  go_enter func104,ntmps104;exact m169_
def ZqM(s:Str):Option Nat:=([([69,120,101,99,83,116,97,114,116,80,114,101],8),([69,120,101,99,83,116,97,114,116],9),([69,120,101,99,83,116,97,114,116,80,111,115,116],10),([69,120,101,99,83,116,111,112],11),([69,120,101,99,82,101,108,111,97,100],12)]:List (Str×Nat)).lookup s
theorem Z5(U:Nat)(w:World):∀s∈Jr,Calls prog 105 #[.pointer (some ⟨U,0,none⟩),.string ⟨s.toArray⟩] w fun e w'=>e=.returned (.pointer ((ZqM s).map fun j=>⟨U,j,none⟩))/\w'=w:=by
 intro s hs;simp only [Jr,List.mem_cons,List.not_mem_nil,or_false] at hs;rcases hs with rfl|rfl|rfl|rfl|rfl|rfl|rfl|rfl|rfl|rfl|rfl|rfl|rfl|rfl|rfl|rfl|rfl
 all_goals
  go_enter func105,ntmps105;exact m169_
def Zvn(s:Str):Option Nat:=([([79,110,66,111,111,116,83,101,99],25),([79,110,65,99,116,105,118,101,83,101,99],26),([79,110,85,110,105,116,73,110,97,99,116,105,118,101,83,101,99],27)]:List (Str×Nat)).lookup s
theorem Yv(U:Nat)(w:World):∀s∈Jr,Calls prog 107 #[.pointer (some ⟨U,0,none⟩),.string ⟨s.toArray⟩] w fun e w'=>e=.returned (.pointer ((Zvn s).map fun j=>⟨U,j,none⟩))/\w'=w:=by
 intro s hs;simp only [Jr,List.mem_cons,List.not_mem_nil,or_false] at hs;rcases hs with rfl|rfl|rfl|rfl|rfl|rfl|rfl|rfl|rfl|rfl|rfl|rfl|rfl|rfl|rfl|rfl|rfl
 all_goals
  go_enter func107,ntmps107;exact m169_
end Go.Proofs.YtmgmbeipbeknaaaGreatDoor
