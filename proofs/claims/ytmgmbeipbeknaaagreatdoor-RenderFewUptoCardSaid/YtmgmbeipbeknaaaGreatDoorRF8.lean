import Derived.Shelf.Abstract
import Derived.Deep.LoopGhost
import Derived.Test.YtmgmbeipbeknaaaGreatDoorRF1
import Derived.Test.YtmgmbeipbeknaaaGreatDoorRF2
namespace Go.Proofs.YtmgmbeipbeknaaaGreatDoor
open Go.Proofs.Tryz
open Go Go.RowKit
set_option linter.unusedVariables false
set_option linter.unusedSimpArgs false
set_option maxHeartbeats 16000000
set_option maxRecDepth 100000
theorem ZhZ(c:UInt8):Yd c=decide ((97<=(c.toNat:Int)/\(c.toNat:Int)<=122)\/(65<=(c.toNat:Int)/\(c.toNat:Int)<=90)):=by
 rw [Bool.eq_iff_iff];simp [Yd,UInt8.le_iff_toNat_le];omega
theorem ZjQ(c:UInt8):isDigit c=decide (48<=(c.toNat:Int)/\(c.toNat:Int)<=57):=by
 rw [Bool.eq_iff_iff];simp [isDigit,UInt8.le_iff_toNat_le];omega
theorem QK(c:UInt8)(w:World) :
  Calls prog 153 #[.int .u8 c.toNat] w fun e w'=>e=.returned (.bool (Yd c))/\w=w':=by
 go_enter func153,ntmps153;go_wp2;all_goals
  go_ret;refine ⟨ZP ?_,rfl⟩;rw [ZhZ,Bool.eq_iff_iff];simp;omega
theorem Y7(c:UInt8)(w:World) :
  Calls prog 154 #[.int .u8 c.toNat] w fun e w'=>e=.returned (.bool (isDigit c))/\w=w':=by
 go_enter func154,ntmps154;go_wp2;all_goals
  go_ret;refine ⟨ZP ?_,rfl⟩;rw [ZjQ,Bool.eq_iff_iff];simp;omega
theorem QO(args:Array Value)(w:World):(callFunc 153 args).run prog w=.ok (.enter 153 args) w:=enters_of func153 k_ rfl args w
theorem Xj(args:Array Value)(w:World):(callFunc 154 args).run prog w=.ok (.enter 154 args) w:=enters_of func154 k_ rfl args w
theorem Zbs(args:Array Value)(w:World):(callFunc 223 args).run prog w=.ok (.enter 223 args) w:=enters_of func223 k_ rfl args w
theorem Zow(s:ByteArray)(f:FuncId)(fr cap:Array Value)(p:UInt8->Bool)(b:Bool)(w:World)(h63:s.size<=9223372036854775807)
  (HE:∀args w,(callFunc f args).run prog w=.ok (.enter f args) w)
  (H:∀c:UInt8,Calls prog f (fr.push (.int .u8 c.toNat)++cap) w fun e w'=>e=.returned (.bool (p c))/\w=w') (hb:s.data.toList.all p=b) :
  Calls prog 151 #[.string s,.func (.func f) fr cap] w fun e w'=>e=.returned (.bool b)/\w=w':=by
 refine (Zmm s f fr cap p w h63 HE H).mono ?_;rintro e w' ⟨rfl,rfl⟩;exact ⟨by rw [hb],rfl⟩
def Zse(w:World)(v:Value)(p:UInt8->Bool):Prop:=
 ∃f fr cap,v=.func (.func f) fr cap/\(∀args w,(callFunc f args).run prog w=.ok (.enter f args) w)/\
  ∀c:UInt8,Calls prog f (fr.push (.int .u8 c.toNat)++cap) w fun e w'=>e=.returned (.bool (p c))/\w=w'
theorem ZeO(c:UInt8)(bl bs:Nat)(cap:Nat)(ps:List (UInt8->Bool))(w:World)(hl:w.cell? ⟨bl,0,none⟩=some (.slice (some ⟨bs,0,none⟩) ps.length cap))(hn:ps.length<=1000)
  (hc:∀i (h:i<ps.length),∃v,w.cell? ⟨bs,i,none⟩=some v/\Zse w v ps[i]) :
  Calls prog 223 #[.int .u8 c.toNat,.pointer (some ⟨bl,0,none⟩)] w fun e w'=>e=.returned (.bool (ps.any fun p=>p c))/\w=w':=by
 have HC:=h_ hc;clear hc;go_enter func223,ntmps223;go_wp2;go_loop [5,8] (fun _ i=>∃k:Nat,k<=ps.length/\i=.int .i64 k/\Hid ((ps.take k).any (fun p=>p c)=false)) (fun _ i=>ps.length-(intOf i).toNat)
 case atStart=>exact ⟨0,Nat.zero_le _,rfl,rfl⟩
 case round=>
  obtain ⟨k,hk,rfl,hall⟩:=hrel;by_cases hlt:k<ps.length
  ·obtain ⟨v,hv,f,fr,cp,rfl,hE,hA⟩:=HC.out k hlt
   have HA:=h_ (hA c);clear hA;cases hp:ps[k] c with
   |true=>
    have HT:=h_ (show ps.any (fun p=>p c)=true by rw [List.any_eq_true];exact ⟨ps[k],List.getElem_mem _,hp⟩);have HP:=h_ hp;clear hp;go_wp2_with (refine HA.out.mono ?_;rintro e w' ⟨rfl,rfl⟩;rw [HP.out]);go_ret;exact ⟨ZP HT.out.symm,rfl⟩
   |false=>
    have HT:=h_ (show (ps.take (k+1)).any (fun p=>p c)=false by rw [List.take_succ_eq_append_getElem hlt,List.any_append,hall.out];simp [hp]);have HP:=h_ hp;clear hp;go_wp2_with (refine HA.out.mono ?_;rintro e w' ⟨rfl,rfl⟩;rw [HP.out]);go_round
    case rel=>exact ⟨k+1,o_,n14_,HT⟩
    case measure=>simp [intOf];omega
  ·go_wp2
   go_ret
   have:k=ps.length:=o_
   subst this
   have:=hall.out
   rw [List.take_length] at this;exact ⟨ZP this.symm,rfl⟩
theorem ZeM(oa:Option Addr)(n cap:Nat)(w:World) :
  Calls prog 152 #[.slice oa n cap] w fun e w'=>e=.returned (.func (.func 223) #[] #[.pointer (some ⟨w.heap.size,0,none⟩)])/\w'=w.alloc (.cells #[.slice oa n cap] 217):=by
 go_enter func152,ntmps152;go_wp2;go_ret;exact ⟨rfl,rfl⟩
def JU(s:Str)(n:Int)(p:UInt8->Bool):Bool:=!s.isEmpty&&decide ((s.length:Int)<=n)&&s.all p
theorem JA(s:ByteArray)(n:Int)(f:FuncId)(fr cap:Array Value)(p:UInt8->Bool)(b:Bool)(w:World)(h63:s.size<=9223372036854775807)
  (HE:∀args w,(callFunc f args).run prog w=.ok (.enter f args) w)
  (H:∀c:UInt8,Calls prog f (fr.push (.int .u8 c.toNat)++cap) w fun e w'=>e=.returned (.bool (p c))/\w=w') (hb:JU s.data.toList n p=b) :
  Calls prog 170 #[.string s,.int .i64 n,.func (.func f) fr cap] w fun e w'=>e=.returned (.bool b)/\w=w':=by
 by_cases h0:s.size=0
 ·have:=ZhP h0
  subst this
  have:b=false:=hb.symm
  subst this;clear hb h0;have HH:=h_ H;clear H;go_enter func170,ntmps170;go_wp2;go_ret;exact ⟨rfl,rfl⟩
 ·obtain ⟨n1,n2,n3,n4⟩:=Zdp h0
  have hne:s.data.toList.isEmpty=false:=by rw [<-ByteArray.toList_eq];exact n1
  have hlen:s.data.toList.length=s.size:=s_;unfold JU at hb;rw [hne,hlen] at hb;clear hne hlen;by_cases hn:(s.size:Int)<=n
  ·have hd:decide ((s.size:Int)<=n)=true:=by simpa using hn
   rw [hd] at hb;simp only [Bool.not_false,Bool.true_and] at hb;have HA:=h_ (Zow s f fr cap p b w h63 HE H hb);clear hb H HE;go_enter func170,ntmps170;go_wp2_with (go_at_call 151;refine HA.out.mono ?_;rintro e w' ⟨rfl,rfl⟩);go_ret;exact ⟨rfl,rfl⟩
  ·have hd:decide ((s.size:Int)<=n)=false:=by simpa using hn
   rw [hd] at hb
   have:b=false:=hb.symm
   subst this;clear hb H HE;go_enter func170,ntmps170;go_wp2;go_ret;exact ⟨rfl,rfl⟩
def QR(l m:List Str):Bool:=l==m
end Go.Proofs.YtmgmbeipbeknaaaGreatDoor
