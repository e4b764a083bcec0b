import Derived.Test.YtmgmbeipbeknaaaGreatDoorProg
import Derived.Deep.QuietTactic
import Derived.BigQuiet
import Derived.BigRegion
import Derived.Lib.Hide
import Derived.Shelf.Abstract
import Derived.Deep.LoopGhost
import Derived.Test.YtmgmbeipbeknaaaGreatDoorRT1
import Derived.Test.YtmgmbeipbeknaaaGreatDoorRT2
namespace Go.Proofs.YtmgmbeipbeknaaaGreatDoor
open Go.Proofs.Tryz
open Go Go.RowKit
set_option linter.unusedVariables false
set_option linter.unusedSimpArgs false
set_option maxHeartbeats 16000000
theorem ZrH(c:UInt8):((c.toNat:Int).toNat.toUInt8)=c:=s_
theorem Zjf(c:UInt8):Zg c=decide ((c.toNat:Int)=32\/(c.toNat:Int)=9):=by
 rw [Bool.eq_iff_iff];simp [Zg,<-UInt8.toNat_inj];omega
theorem ZnR(c:UInt8):XW c=decide (((c.toNat:Int)<32/\(c.toNat:Int)≠9)\/(c.toNat:Int)=127):=by
 rw [Bool.eq_iff_iff];simp [XW,<-UInt8.toNat_inj,UInt8.lt_iff_toNat_lt];omega
theorem YZ{a b:ByteArray}(h:a.data.toList=b.data.toList):a=b:=by
 obtain ⟨⟨a⟩⟩:=a;obtain ⟨⟨b⟩⟩:=b;simp at h;rw [h]
theorem ZgX(l:List UInt8)(k:Nat)(h:k<l.length):l.take (k+1)=l.take k++[l[k]]:=by
 rw [List.take_succ_eq_append_getElem h]
theorem Znf(s:ByteArray)(f:FuncId)(fr cap:Array Value)(p:UInt8->Bool)(w:World)(h63:s.size<=9223372036854775807)
  (HE:∀args w,(callFunc f args).run prog w=.ok (.enter f args) w)
  (H:∀c:UInt8,Calls prog f (fr.push (.int .u8 c.toNat)++cap) w fun e w'=>e=.returned (.bool (p c))/\w=w') :
  Calls prog 151 #[.string s,.func (.func f) fr cap] w fun e w'=>e=.returned (.bool (s.data.toList.all p))/\w=w':=by
 have HH:=h_ H;clear H;go_enter func151,ntmps151;go_wp2;go_loop [5,8] (fun _ i=>∃k:Nat,k<=s.size/\i=.int .i64 k/\Hid ((s.data.toList.take k).all p=true)) (fun _ i=>s.size-(intOf i).toNat)
 case atStart=>exact ⟨0,Nat.zero_le _,rfl,by simp [Hid]⟩
 case round=>
  obtain ⟨k,hk,rfl,hall⟩:=hrel;by_cases hlt:k<s.size
  ·have hsn:=ZgX s.data.toList k n24_
   have hgk:s.data.toList[k]' n24_=s[k]:=rfl;rw [hgk] at hsn;cases hp:p s[k] with
   |true=>
    have HT:=h_ (show (s.data.toList.take (k+1)).all p=true by rw [hsn,List.all_append,hall.out];simp [hp]);have HP:=h_ hp;clear hsn hgk hp;go_wp2_with (refine (HH.out s[k]).mono ?_;rintro e w' ⟨rfl,rfl⟩;rw [HP.out]);go_round
    case rel=>exact ⟨k+1,o_,n15_,HT⟩
    case measure=>simp [intOf];omega
   |false=>
    have HT:=h_ (show s.data.toList.all p=false by
     rw [List.all_eq_false];exact ⟨s[k],by rw [<-hgk];exact List.getElem_mem _,by simp [hp]⟩)
    have HP:=h_ hp;clear hsn hgk hp;go_wp2_with (refine (HH.out s[k]).mono ?_;rintro e w' ⟨rfl,rfl⟩;rw [HP.out]);go_ret;exact ⟨ZC HT.out.symm,rfl⟩
  ·go_wp2
   go_ret
   have:k=s.size:=o_
   subst this
   have:=hall.out
   rw [List.take_of_length_le s_] at this;refine ⟨ZC ?_,rfl⟩;exact this.symm.trans (Array.all_toList )
set_option maxRecDepth 100000
theorem Zh4(c:UInt8):ZR c=decide ((97<=(c.toNat:Int)/\(c.toNat:Int)<=122)\/(65<=(c.toNat:Int)/\(c.toNat:Int)<=90)):=by
 rw [Bool.eq_iff_iff];simp [ZR,UInt8.le_iff_toNat_le];omega
theorem ZkZ(c:UInt8):isDigit c=decide (48<=(c.toNat:Int)/\(c.toNat:Int)<=57):=by
 rw [Bool.eq_iff_iff];simp [isDigit,UInt8.le_iff_toNat_le];omega
theorem QJ(c:UInt8)(w:World) :
  Calls prog 153 #[.int .u8 c.toNat] w fun e w'=>e=.returned (.bool (ZR c))/\w=w':=by
 go_enter func153,ntmps153;go_wp2;all_goals
  go_ret;refine ⟨ZC ?_,rfl⟩;rw [Zh4,Bool.eq_iff_iff];simp;omega
theorem Y5(c:UInt8)(w:World) :
  Calls prog 154 #[.int .u8 c.toNat] w fun e w'=>e=.returned (.bool (isDigit c))/\w=w':=by
 go_enter func154,ntmps154;go_wp2;all_goals
  go_ret;refine ⟨ZC ?_,rfl⟩;rw [ZkZ,Bool.eq_iff_iff];simp;omega
theorem QZ(args:Array Value)(w:World):(callFunc 153 args).run prog w=.ok (.enter 153 args) w:=enters_of func153 k_ rfl args w
theorem Xf(args:Array Value)(w:World):(callFunc 154 args).run prog w=.ok (.enter 154 args) w:=enters_of func154 k_ rfl args w
theorem ZbP(args:Array Value)(w:World):(callFunc 223 args).run prog w=.ok (.enter 223 args) w:=enters_of func223 k_ rfl args w
theorem Zqy(s:ByteArray)(f:FuncId)(fr cap:Array Value)(p:UInt8->Bool)(b:Bool)(w:World)(h63:s.size<=9223372036854775807)
  (HE:∀args w,(callFunc f args).run prog w=.ok (.enter f args) w)
  (H:∀c:UInt8,Calls prog f (fr.push (.int .u8 c.toNat)++cap) w fun e w'=>e=.returned (.bool (p c))/\w=w') (hb:s.data.toList.all p=b) :
  Calls prog 151 #[.string s,.func (.func f) fr cap] w fun e w'=>e=.returned (.bool b)/\w=w':=by
 refine (Znf s f fr cap p w h63 HE H).mono ?_;rintro e w' ⟨rfl,rfl⟩;exact ⟨by rw [hb],rfl⟩
def Zs4(w:World)(v:Value)(p:UInt8->Bool):Prop:=
 ∃f fr cap,v=.func (.func f) fr cap/\(∀args w,(callFunc f args).run prog w=.ok (.enter f args) w)/\
  ∀c:UInt8,Calls prog f (fr.push (.int .u8 c.toNat)++cap) w fun e w'=>e=.returned (.bool (p c))/\w=w'
theorem ZfE(c:UInt8)(bl bs:Nat)(cap:Nat)(ps:List (UInt8->Bool))(w:World)(hl:w.cell? ⟨bl,0,none⟩=some (.slice (some ⟨bs,0,none⟩) ps.length cap))(hn:ps.length<=1000)
  (hc:∀i (h:i<ps.length),∃v,w.cell? ⟨bs,i,none⟩=some v/\Zs4 w v ps[i]) :
  Calls prog 223 #[.int .u8 c.toNat,.pointer (some ⟨bl,0,none⟩)] w fun e w'=>e=.returned (.bool (ps.any fun p=>p c))/\w=w':=by
 have HC:=h_ hc;clear hc;go_enter func223,ntmps223;go_wp2;go_loop [5,8] (fun _ i=>∃k:Nat,k<=ps.length/\i=.int .i64 k/\Hid ((ps.take k).any (fun p=>p c)=false)) (fun _ i=>ps.length-(intOf i).toNat)
 case atStart=>exact ⟨0,Nat.zero_le _,rfl,rfl⟩
 case round=>
  obtain ⟨k,hk,rfl,hall⟩:=hrel;by_cases hlt:k<ps.length
  ·obtain ⟨v,hv,f,fr,cp,rfl,hE,hA⟩:=HC.out k hlt
   have HA:=h_ (hA c);clear hA;cases hp:ps[k] c with
   |true=>
    have HT:=h_ (show ps.any (fun p=>p c)=true by rw [List.any_eq_true];exact ⟨ps[k],List.getElem_mem _,hp⟩);have HP:=h_ hp;clear hp;go_wp2_with (refine HA.out.mono ?_;rintro e w' ⟨rfl,rfl⟩;rw [HP.out]);go_ret;exact ⟨ZC HT.out.symm,rfl⟩
   |false=>
    have HT:=h_ (show (ps.take (k+1)).any (fun p=>p c)=false by rw [List.take_succ_eq_append_getElem hlt,List.any_append,hall.out];simp [hp]);have HP:=h_ hp;clear hp;go_wp2_with (refine HA.out.mono ?_;rintro e w' ⟨rfl,rfl⟩;rw [HP.out]);go_round
    case rel=>exact ⟨k+1,o_,n15_,HT⟩
    case measure=>simp [intOf];omega
  ·go_wp2
   go_ret
   have:k=ps.length:=o_
   subst this
   have:=hall.out
   rw [List.take_length] at this;exact ⟨ZC this.symm,rfl⟩
theorem ZeZ(oa:Option Addr)(n cap:Nat)(w:World) :
  Calls prog 152 #[.slice oa n cap] w fun e w'=>e=.returned (.func (.func 223) #[] #[.pointer (some ⟨w.heap.size,0,none⟩)])/\w'=w.alloc (.cells #[.slice oa n cap] 217):=by
 go_enter func152,ntmps152;go_wp2;go_ret;exact ⟨rfl,rfl⟩
theorem Zc2(c:UInt8)(w:World) :
  Calls prog 167 #[.int .u8 c.toNat] w fun e w'=>e=.returned (.bool (XW c))/\w=w':=by
 go_enter func167,ntmps167;go_wp2;all_goals
  go_ret;refine ⟨ZC ?_,rfl⟩;rw [ZnR,Bool.eq_iff_iff];simp;omega
def Q7(l m:List Str):Bool:=l==m
end Go.Proofs.YtmgmbeipbeknaaaGreatDoor
