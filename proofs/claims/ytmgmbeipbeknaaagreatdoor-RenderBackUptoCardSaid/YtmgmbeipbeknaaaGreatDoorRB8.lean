import Derived.Shelf.Abstract
import Derived.IntWalk
import Derived.Deep.LoopGhost
import Derived.Lib.SmallJoins
import Derived.Test.YtmgmbeipbeknaaaGreatDoorRB1
import Derived.Test.YtmgmbeipbeknaaaGreatDoorRB3
import Derived.Test.YtmgmbeipbeknaaaGreatDoorRB4
import Derived.Test.YtmgmbeipbeknaaaGreatDoorRB5
namespace Go.Proofs.YtmgmbeipbeknaaaGreatDoor
open Go.Proofs.Tryz
open Go Go.RowKit
set_option linter.all false
set_option maxHeartbeats 16000000
set_option maxRecDepth 100000
theorem Zcm(c:UInt8):Yi c=decide ((97<=(c.toNat:Int)/\(c.toNat:Int)<=122)\/(65<=(c.toNat:Int)/\(c.toNat:Int)<=90)):=by
 rw [Bool.eq_iff_iff];simp [Yi,UInt8.le_iff_toNat_le];omega
theorem Zc2(c:UInt8):isDigit c=decide (48<=(c.toNat:Int)/\(c.toNat:Int)<=57):=by
 rw [Bool.eq_iff_iff];simp [isDigit,UInt8.le_iff_toNat_le];omega
theorem JE(c:UInt8)(w:World) :
  Calls prog 153 #[.int .u8 c.toNat] w fun e w'=>e=.returned (.bool (Yi c))/\w=w':=by
 go_enter func153,ntmps153;go_wp2;all_goals
  go_ret;refine ⟨ZB ?_,rfl⟩;rw [Zcm,Bool.eq_iff_iff];simp;omega
theorem XM(c:UInt8)(w:World) :
  Calls prog 154 #[.int .u8 c.toNat] w fun e w'=>e=.returned (.bool (isDigit c))/\w=w':=by
 go_enter func154,ntmps154;go_wp2;all_goals
  go_ret;refine ⟨ZB ?_,rfl⟩;rw [Zc2,Bool.eq_iff_iff];simp;omega
theorem JW(args:Array Value)(w:World):(callFunc 153 args).run prog w=.ok (.enter 153 args) w:=enters_of func153 k_ rfl args w
theorem Qd(args:Array Value)(w:World):(callFunc 154 args).run prog w=.ok (.enter 154 args) w:=enters_of func154 k_ rfl args w
theorem ZdB(args:Array Value)(w:World):(callFunc 223 args).run prog w=.ok (.enter 223 args) w:=enters_of func223 k_ rfl args w
theorem Ztq(s:ByteArray)(f:FuncId)(fr cap:Array Value)(p:UInt8->Bool)(b:Bool)(w:World)(h63:s.size<=9223372036854775807)
  (HE:∀args w,(callFunc f args).run prog w=.ok (.enter f args) w)
  (H:∀c:UInt8,Calls prog f (fr.push (.int .u8 c.toNat)++cap) w fun e w'=>e=.returned (.bool (p c))/\w=w') (hb:s.data.toList.all p=b) :
  Calls prog 151 #[.string s,.func (.func f) fr cap] w fun e w'=>e=.returned (.bool b)/\w=w':=by
 refine (ZpL s f fr cap p w h63 HE H).mono ?_;rintro e w' ⟨rfl,rfl⟩;exact ⟨by rw [hb],rfl⟩
def Zwc(w:World)(v:Value)(p:UInt8->Bool):Prop:=
 ∃f fr cap,v=.func (.func f) fr cap/\(∀args w,(callFunc f args).run prog w=.ok (.enter f args) w)/\
  ∀c:UInt8,Calls prog f (fr.push (.int .u8 c.toNat)++cap) w fun e w'=>e=.returned (.bool (p c))/\w=w'
theorem Zh7(c:UInt8)(bl bs:Nat)(cap:Nat)(ps:List (UInt8->Bool))(w:World)(hl:w.cell? ⟨bl,0,none⟩=some (.slice (some ⟨bs,0,none⟩) ps.length cap))(hn:ps.length<=1000)
  (hc:∀i (h:i<ps.length),∃v,w.cell? ⟨bs,i,none⟩=some v/\Zwc w v ps[i]) :
  Calls prog 223 #[.int .u8 c.toNat,.pointer (some ⟨bl,0,none⟩)] w fun e w'=>e=.returned (.bool (ps.any fun p=>p c))/\w=w':=by
 have HC:=h_ hc;clear hc;go_enter func223,ntmps223;go_wp2;go_loop [5,8] (fun _ i=>∃k:Nat,k<=ps.length/\i=.int .i64 k/\Hid ((ps.take k).any (fun p=>p c)=false)) (fun _ i=>ps.length-(intOf i).toNat)
 case atStart=>exact ⟨0,Nat.zero_le _,rfl,rfl⟩
 case round=>
  obtain ⟨k,hk,rfl,hall⟩:=hrel;by_cases hlt:k<ps.length
  ·obtain ⟨v,hv,f,fr,cp,rfl,hE,hA⟩:=HC.out k hlt
   have HA:=h_ (hA c);clear hA;cases hp:ps[k] c with
   |true=>
    have HT:=h_ (show ps.any (fun p=>p c)=true by rw [List.any_eq_true];exact ⟨ps[k],List.getElem_mem _,hp⟩);have HP:=h_ hp;clear hp;go_wp2_with (refine HA.out.mono ?_;rintro e w' ⟨rfl,rfl⟩;rw [HP.out]);go_ret;exact ⟨ZB HT.out.symm,rfl⟩
   |false=>
    have HT:=h_ (show (ps.take (k+1)).any (fun p=>p c)=false by rw [c4_ hlt,List.any_append,hall.out];simp [hp]);have HP:=h_ hp;clear hp;go_wp2_with (refine HA.out.mono ?_;rintro e w' ⟨rfl,rfl⟩;rw [HP.out]);go_round
    case rel=>exact ⟨k+1,o_,n9_,HT⟩
    case measure=>simp [intOf];omega
  ·go_wp2
   go_ret
   have:k=ps.length:=o_
   subst this
   have:=hall.out
   rw [List.take_length] at this;exact ⟨ZB this.symm,rfl⟩
theorem ZgT(oa:Option Addr)(n cap:Nat)(w:World) :
  Calls prog 152 #[.slice oa n cap] w fun e w'=>e=.returned (.func (.func 223) #[] #[.pointer (some ⟨w.heap.size,0,none⟩)])/\w'=w.alloc (.cells #[.slice oa n cap] 217):=by
 go_enter func152,ntmps152;go_wp2;go_ret;exact ⟨rfl,rfl⟩
def Ju:Str->Option (Str×Str)
 |[]=>none
 |c::r=>match Ju r with
  |some (a,b)=>some (c::a,b)
  |none=>if c==46 then some ([],r) else none
def ZX(s:Str):Str×Str:=(Ju s).getD ([],[])
def cutAt:Str->Str×Str×Bool
 |[]=>([],[],false)
 |c::r=>if c==64 then ([],r,true) else (c::(cutAt r).1,(cutAt r).2.1,(cutAt r).2.2)
def Zeb(c:UInt8):Bool:=Yi c||(isDigit c||([58,45,95,46,92]:Str).contains c)
def Jl(s:Str):Bool:=s.all Zeb
abbrev Ze7:Str:=[115,101,114,118,105,99,101]
abbrev ZgN:Str:=[115,111,99,107,101,116]
abbrev Zkg:Str:=[116,105,109,101,114]
abbrev ZgW:Str:=[116,97,114,103,101,116]
def X5(k:Nat):Str:=if k=1 then Ze7 else if k=2 then ZgN else if k=3 then Zkg else if k=4 then ZgW else []
def kindOf(suf:Str):Nat:=if suf=Ze7 then 1 else if suf=ZgN then 2 else if suf=Zkg then 3 else if suf=ZgW then 4 else 0
def Zt(s:Str):Nat:=
 if s.length<=60/\(cutAt (ZX s).1).1≠[]/\Jl (cutAt (ZX s).1).1=true/\Jl (cutAt (ZX s).1).2.1=true then kindOf (ZX s).2 else 0
theorem ZjE{s:Str}(h:s.contains 46=false):Ju s=none:=by
 induction s with
 |nil=>rfl
 |cons c r ih=>
  rw [List.contains_cons,Bool.or_eq_false_iff] at h;have hc:(c==46)=false:=by
   rw [c11_];intro e;subst e;simp at h
  simp [Ju,ih h.2,hc]
theorem ZhK(a:Str){b:Str}(h:b.contains 46=false):Ju (a++46::b)=some (a,b):=by
 induction a with
 |nil=>simp [Ju,ZjE h]
 |cons c r ih=>simp [Ju,ih]
theorem Ze5(s:Str):(Ju s=none/\s.contains 46=false)\/∃a b,Ju s=some (a,b)/\s=a++46::b/\b.contains 46=false:=by
 induction s with
 |nil=>exact .inl ⟨rfl,rfl⟩
 |cons c r ih=>
  rcases ih with ⟨h1,h2⟩|⟨a,b,h1,h2,h3⟩
  ·cases hc:(c==46) with
   |true=>
    have:=eq_of_beq hc
    subst this;exact .inr ⟨[],r,by simp [Ju,h1],rfl,h2⟩
   |false=>
    refine .inl ⟨by simp [Ju,h1,hc],?_⟩;rw [List.contains_cons,h2,Bool.or_false,c11_];rw [c11_] at hc;exact fun e=>hc e.symm
  ·exact .inr ⟨c::a,b,by simp [Ju,h1],by rw [h2];rfl,h3⟩
theorem ZfL(s:Str):kindOf s<=4:=by
 unfold kindOf;repeat' split<;>first|omega|skip
theorem J3(s:Str):Zt s<=4:=by
 unfold Zt;split
 ·exact ZfL _
 ·omega
theorem ZbQ(s:Str):(ZX s).1.length<=s.length/\(ZX s).2.length<=s.length:=by
 unfold ZX;rcases Ze5 s with ⟨h,_⟩|⟨a,b,h,h2,_⟩
 ·rw [h];simp
 ·rw [h,h2];simp;omega
theorem ZdI:∀(s:Str),(cutAt s).1.length<=s.length/\(cutAt s).2.1.length<=s.length
 |[]=>by simp [cutAt]
 |c::r=>by
  have:=ZdI r
  unfold cutAt;split<;>simp<;>omega
theorem m4_{p:Prop}(h:p:=by go_enter func80,ntmps80;go_wp2;go_ret;exact ⟨rfl,rfl⟩):p:=h
theorem ZnW(s:ByteArray):(Lib.lastIndexByte s 46 = -1/\Ju s.data.toList=none)\/∃a b,Lib.lastIndexByte s 46=(a.length:Int)/\Ju s.data.toList=some (a,b)/\s.data.toList=a++46::b:=by
 have hl:s.data.toList.length=s.size:=s_;have hget:∀j (h:j<s.size),s.data[j]! =s.data.toList[j]'(by rw [hl];exact h):=fun j h=>by
  rw [getElem!_pos s.data j (by exact h)];simp
 unfold Lib.lastIndexByte;rcases Lib.lastIdx_spec s 46 s.size with ⟨h1,h2⟩|⟨i,hi,h1,h3,h4⟩
 ·refine .inl ⟨h1,ZjE ?_⟩
  rw [<-Bool.not_eq_true,List.contains_iff_mem];intro hm;obtain ⟨j,hj,e⟩:=List.getElem_of_mem hm;rw [hl] at hj
  have:=h2 j hj
  rw [hget j hj,e] at this;exact this rfl
 ·have hi':i<s.data.toList.length:=by rw [hl];exact hi
  have e46:s.data.toList[i]=46:=by
   rw [hget i hi] at h3;rw [<-UInt8.toNat_inj]
   have:((46:UInt8).toNat:Int)=46:=rfl
   omega
  have hs:s.data.toList=s.data.toList.take i++46::s.data.toList.drop (i+1):=by
   conv=>lhs;rw [<-List.take_append_drop i s.data.toList,List.drop_eq_getElem_cons hi',e46]
  have hno:(s.data.toList.drop (i+1)).contains 46=false:=by
   rw [<-Bool.not_eq_true,List.contains_iff_mem];intro hm;obtain ⟨j,hj,e⟩:=List.getElem_of_mem hm;rw [List.getElem_drop] at e;simp at hj
   have:=h4 (i+1+j) o_ o_
   rw [hget _ o_,e] at this;exact this rfl
  refine .inr ⟨s.data.toList.take i,s.data.toList.drop (i+1),?_,?_,hs⟩
  ·rw [h1,List.length_take,Nat.min_eq_left o_]
  ·rw [hs,ZhK _ hno]
   conv=>rhs;rw [<-hs]
theorem ZlX(s:ByteArray)(a b:Nat)(l:Str)(h:(s.extract a b).data.toList=l):s.extract a b=⟨l.toArray⟩:=by
 apply Yu;rw [h]
theorem ZpJ(s:ByteArray)(w:World)(hs:s.size<4611686018427387904)(a b:Str)(hc:ZX s.data.toList=(a,b)) :
  Calls prog 77 #[.string s] w fun e w'=>e=.returned (.tuple #[.string ⟨a.toArray⟩,.string ⟨b.toArray⟩])/\∃n,w'=w.drewN n:=by
 unfold ZX at hc;have HC:=h_ (Tryz.strings_LastIndex_one s ⟨#[46]⟩ rfl hs w);rcases ZnW s with ⟨h1,h2⟩|⟨x,y,h1,h2,h3⟩
 ·rw [h2] at hc
  have:a=[]/\b=[]:=by simp at hc;exact ⟨hc.1,hc.2⟩
  obtain ⟨rfl,rfl⟩:=this;have H1:=h_ h1;clear h1 h2 hc;go_enter func77,ntmps77;go_wp2_with fail;refine HC.out.mono ?_;rintro e w' ⟨rfl,rfl⟩;have e1:Lib.lastIndexByte s (((⟨#[46]⟩:ByteArray)[0]' d_).toNat:Int) = -1:=H1.out;rw [e1];clear e1;go_wp2_with fail;go_ret2;exact ⟨rfl,0,rfl⟩
 ·rw [h2] at hc
  have:x=a/\y=b:=by simp at hc;exact hc
  obtain ⟨rfl,rfl⟩:=this;have hxl:x.length+1<=s.size:=by
   have:s.data.toList.length=s.size:=s_
   rw [<-this,h3];simp
  have H1:=h_ h1;have HA:=h_ (show s.extract 0 x.length=⟨x.toArray⟩ from ZlX s 0 x.length _ (by rw [Lib.extract_data,h3];simp));have HB:=h_ (show s.extract (x.length+1) s.size=⟨y.toArray⟩ from ZlX s _ _ _ (by rw [Lib.extract_to_end,h3];simp));clear h1 h2 h3 hc;have hx1:x.length<=s.size:=o_;have hx2:((x.length:Int)+1)<=(s.size:Int):=o_;have k1:IntKind.i64.wrap ((x.length:Int)+1)=(x.length:Int)+1:=IntWalk.i64_in _ o_;have k2:0<=(x.length:Int)+1:=o_;have k3:((x.length:Int)+1).toNat=x.length+1:=o_;go_enter func77,ntmps77;go_wp2_with fail;refine HC.out.mono ?_;rintro e w' ⟨rfl,rfl⟩;have e1:Lib.lastIndexByte s (((⟨#[46]⟩:ByteArray)[0]' d_).toNat:Int)=(x.length:Int):=H1.out;rw [e1];clear e1;go_wp2_with fail;go_quiet (fail);go_wp2_with fail;go_ret2;refine ⟨?_,_,rfl⟩;rw [<-HA.out,<-HB.out];rfl
theorem Zrl(s:Str):Lib.cut s [64]=cutAt s:=by
 have key:∀(s:Str),(Lib.index s [64] = -1/\cutAt s=(s,[],false))\/∃a b,Lib.index s [64]=(a.length:Int)/\s=a++64::b/\cutAt s=(a,b,true):=by
  intro s;induction s with
  |nil=>exact .inl ⟨rfl,rfl⟩
  |cons c r ih=>
   cases hc:(c==64) with
   |true=>
    have:=eq_of_beq hc
    subst this;refine .inr ⟨[],r,?_,rfl,by simp [cutAt]⟩;unfold Lib.index;rw [show List.isPrefixOf [64] (64::r)=true by simp [List.isPrefixOf]];rfl
   |false=>
    have hp:List.isPrefixOf [64] (c::r)=false:=by
     simp only [List.isPrefixOf,Bool.and_true];rw [c11_] at hc⊢;exact fun e=>hc e.symm
    rcases ih with ⟨h1,h2⟩|⟨a,b,h1,h2,h3⟩
    ·refine .inl ⟨?_,by simp [cutAt,hc,h2]⟩
     unfold Lib.index;rw [hp,h1];rfl
    ·refine .inr ⟨c::a,b,?_,by rw [h2];rfl,by simp [cutAt,hc,h3]⟩
     unfold Lib.index;rw [hp,h1]
     have:((a.length:Int)==-1)=false:=n15_
     simp [this]
 unfold Lib.cut;rcases key s with ⟨h1,h2⟩|⟨a,b,h1,h2,h3⟩
 ·rw [h1,h2];simp
 ·rw [h1,h3,if_pos o_,h2]
  simp
theorem Zju(s:ByteArray)(w:World)(hs:s.size<4294967281)(hm:Zz w)(a b:Str)(f:Bool)(hc:cutAt s.data.toList=(a,b,f)) :
  Calls prog 78 #[.string s,.string ⟨#[64]⟩] w fun e w'=>e=.returned (.tuple #[.string ⟨a.toArray⟩,.string ⟨b.toArray⟩,.bool f])/\∃n,w'=w.drewN n:=by
 obtain ⟨m,hm⟩:=hm;refine (Tryz.strings_Cut s ⟨#[64]⟩ m w hs hm).mono ?_;rintro e w' ⟨rfl,hw⟩;refine ⟨?_,hw⟩;show Ending.returned (.tuple #[.string ⟨(Lib.cut s.data.toList [64]).1.toArray⟩,.string ⟨(Lib.cut s.data.toList [64]).2.1.toArray⟩,.bool (Lib.cut s.data.toList [64]).2.2])=_;rw [Zrl,hc]
def Zsp(n:Int):Str:=if n=1 then Ze7 else if n=2 then ZgN else if n=3 then Zkg else if n=4 then ZgW else []
theorem Zl8(k:Nat):Zsp (k:Int)=X5 k:=by
 unfold Zsp X5;by_cases h1:k=1
 ·subst h1;rfl
 by_cases h2:k=2
 ·subst h2;rfl
 by_cases h3:k=3
 ·subst h3;rfl
 by_cases h4:k=4
 ·subst h4;rfl
 rw [if_neg o_,if_neg o_,if_neg o_,if_neg o_,if_neg h1,if_neg h2,if_neg h3,if_neg h4]
theorem ZgZ(n:Int)(w:World)(t:Str)(ht:Zsp n=t) :
  Calls prog 80 #[.int .i64 n] w fun e w'=>e=.returned (.string ⟨t.toArray⟩)/\w=w':=by
 subst ht;by_cases h1:n=1
 ·subst h1
  exact m4_
 by_cases h2:n=2
 ·subst h2
  clear h1;exact m4_
 by_cases h3:n=3
 ·subst h3
  clear h1 h2;exact m4_
 by_cases h4:n=4
 ·subst h4
  clear h1 h2 h3;exact m4_
 have e:Zsp n=[]:=by unfold Zsp;rw [if_neg h1,if_neg h2,if_neg h3,if_neg h4]
 rw [e];have q1:(n==1)=false:=n72_;have q2:(n==2)=false:=n73_;have q3:(n==3)=false:=n50_;have q4:(n==4)=false:=n51_;clear e h1 h2 h3 h4;exact m4_
theorem Zpg(c:UInt8)(b:Nat)(t:ByteArray)(w:World)(hl:w.cell? ⟨b,0,none⟩=some (.string t))(r:Bool)(hr:t.data.toList.contains c=r) :
  Calls prog 224 #[.int .u8 c.toNat,.pointer (some ⟨b,0,none⟩)] w fun e w'=>e=.returned (.bool r)/\w=w':=by
 have hix:decide (0<=Lib.indexByte t.data.toList c)=r:=by
  rw [<-hr];have key:∀l:Str,(0<=Lib.indexByte l c/\l.contains c=true)\/(Lib.indexByte l c = -1/\l.contains c=false):=by
   intro l;induction l with
   |nil=>exact .inr ⟨rfl,rfl⟩
   |cons x l ih=>
    by_cases hx:x=c
    ·subst hx
     exact .inl ⟨by simp [Lib.indexByte],s_⟩
    ·rcases ih with ⟨h1,h2⟩|⟨h1,h2⟩
     ·left
      refine ⟨?_,by rw [List.contains_cons,h2,Bool.or_true]⟩
      have:¬Lib.indexByte l c = -1:=o_
      simp [Lib.indexByte,hx,this];omega
     ·right
      refine ⟨by simp [Lib.indexByte,hx,h1],?_⟩;rw [List.contains_cons,h2,Bool.or_false,c11_];exact fun e=>hx e.symm
  rcases key t.data.toList with ⟨h1,h2⟩|⟨h1,h2⟩
  ·rw [h2];simpa using h1
  ·rw [h2,h1];rfl
 have HI:=h_ hix;clear hix hr;have HC:=h_ (Tryz.strings_IndexByte t c.toNat w);go_enter func224,ntmps224;go_wp2_with fail;refine HC.out.mono ?_;rintro e w' ⟨rfl,rfl⟩;rw [ZuQ];go_wp2_with fail;go_ret;exact ⟨ZB HI.out,rfl⟩
theorem Zoq(s:ByteArray)(w:World) :
  Calls prog 155 #[.string s] w fun e w'=>e=.returned (.func (.func 224) #[] #[.pointer (some ⟨w.heap.size,0,none⟩)])/\w'=w.alloc (.cells #[.string s] 9):=by
 go_enter func155,ntmps155;go_wp2;go_ret;exact ⟨rfl,rfl⟩
theorem ZhF(args:Array Value)(w:World):(callFunc 224 args).run prog w=.ok (.enter 224 args) w:=enters_of func224 k_ rfl args w
theorem m5_{p:Prop}(h:p:=by
  clear hab hpi hA hB hP hI HP HI hPe hal hpl hil hl;go_enter func37,ntmps37;go_wp2_with (first
   |(go_at_call 77;refine HC1.out.mono ?_;rintro e w' ⟨rfl,n,rfl⟩)
   |(go_at_call 78;refine (HC2.out _ (Ze ⟨_,rfl⟩)).mono ?_;rintro e w' ⟨rfl,n,rfl⟩)
   |fail)
  go_ret;exact ⟨rfl,Ze ⟨_,rfl⟩⟩):p:=h
theorem ZrC(s:Str):s.all (fun c=>([Yi,isDigit,fun c=>([58,45,95,46,92]:Str).contains c]:List (UInt8->Bool)).any fun p=>p c)=Jl s:=by
 unfold Jl;congr 1;funext c;simp [Zeb]
theorem ZjN(s:ByteArray)(w:World)(h63:s.size<=9223372036854775807)(b:Bool)(hb:Jl s.data.toList=b) :
  Calls prog 79 #[.string s] w fun e w'=>e=.returned (.bool b)/\Below w.heap.size w w':=by
 rw [<-ZrC] at hb;let w1:=w.alloc (.cells #[.string ⟨#[58,45,95,46,92]⟩] 9);let w2:=w1.alloc (.cells #[.func (.func 153) #[] #[],.func (.func 154) #[] #[],.func (.func 224) #[] #[.pointer (some ⟨w.heap.size,0,none⟩)]] 148);have hB:Below w.heap.size w (w2.alloc (.cells #[.slice (some ⟨w.heap.size+1,0,none⟩) 3 3] 217)):=
  ((b_.alloc l_ _).alloc s_ _).alloc n6_ _
 have HA:∀w':World,w'=(w2.alloc (.cells #[.slice (some ⟨w.heap.size+1,0,none⟩) 3 3] 217))->
   Calls prog 151 #[.string s,.func (.func 223) #[] #[.pointer (some ⟨w.heap.size+1+1,0,none⟩)]] w' fun e w''=>e=.returned (.bool b)/\w'=w'':=by
  intro w' hw';have z1:w1.heap.size=w.heap.size+1:=by simp [w1]
  have z2:w2.heap.size=w.heap.size+1+1:=by simp [w2,z1]
  have h0:w'.heap[w.heap.size]?=some (.cells #[.string ⟨#[58,45,95,46,92]⟩] 9 (0,0)):=by
   rw [hw'];exact heap_alloc (heap_alloc (heap_alloc_new w _) _) _
  have h2:w'.heap[w.heap.size+1]?=some (.cells #[.func (.func 153) #[] #[],.func (.func 154) #[] #[],.func (.func 224) #[] #[.pointer (some ⟨w.heap.size,0,none⟩)]] 148 (0,0)):=by
   rw [hw',<-z1];exact heap_alloc (heap_alloc_new w1 _) _
  have h1:w'.cell? ⟨w.heap.size+1+1,0,none⟩=some (.slice (some ⟨w.heap.size+1,0,none⟩) 3 3):=by
   have h0:w'.heap[w.heap.size+1+1]?=some (.cells #[.slice (some ⟨w.heap.size+1,0,none⟩) 3 3] 217 (0,0)):=by
    rw [hw',<-z2];exact heap_alloc_new w2 _
   rw [(rd h0).1];rfl
  obtain ⟨hc,_⟩:=rd h2;have hs:w'.cell? ⟨w.heap.size,0,none⟩=some (.string ⟨#[58,45,95,46,92]⟩):=by rw [(rd h0).1];rfl
  refine Ztq s 223 #[] _ (fun c=>([Yi,isDigit,fun c=>([58,45,95,46,92]:Str).contains c]:List (UInt8->Bool)).any fun p=>p c) b w' h63 ZdB (fun c=>?_) hb;refine (Zh7 c (w.heap.size+1+1) (w.heap.size+1) 3 [Yi,isDigit,fun c=>([58,45,95,46,92]:Str).contains c] w' h1 s_ ?_).mono ?_
  ·intro i hi
   match i,hi with
   |0,_=>exact ⟨_,hc 0,_,_,_,rfl,JW,fun c=>JE c w'⟩
   |1,_=>exact ⟨_,hc 1,_,_,_,rfl,Qd,fun c=>XM c w'⟩
   |2,_=>exact ⟨_,hc 2,_,_,_,rfl,ZhF,fun c=>Zpg c w.heap.size _ w' hs _ rfl⟩
   |n+3,hi=>exact absurd hi s_
  ·rintro e w'' ⟨rfl,rfl⟩
   exact ⟨rfl,rfl⟩
 have HH:=h_ HA;clear HA hb;have HB:=h_ hB;clear hB;go_enter func79,ntmps79;go_wp2_with (first
  |(go_at_call 155;refine (Zoq _ _).mono ?_;rintro e w' ⟨rfl,rfl⟩)
  |(go_at_call 152;refine (ZgT _ _ _ _).mono ?_;rintro e w' ⟨rfl,rfl⟩)
  |(go_at_call 151;refine ((HH.out _ (by simp [w1,w2])).mono ?_);rintro e w' ⟨rfl,rfl⟩))
 go_ret;exact ⟨rfl,HB.out⟩
theorem Zo7(k:Nat)(h1:1<=k)(h4:k<=4):kindOf (X5 k)=k:=by
 match k,h1,h4 with
 |1,_,_=>decide
 |2,_,_=>decide
 |3,_,_=>decide
 |4,_,_=>decide
theorem ZmP{t:Str}(h:∀j,1<=j->j<5->X5 j≠t):kindOf t=0:=by
 unfold kindOf;rw [if_neg (fun e=>h 1 o_ o_ e.symm),if_neg (fun e=>h 2 o_ o_ e.symm),if_neg (fun e=>h 3 o_ o_ e.symm),if_neg (fun e=>h 4 o_ o_ e.symm)]
theorem J2(s:ByteArray)(w:World)(hs:s.size<4294967281)(hm:Zz w)(n:Nat)(hn:Zt s.data.toList=n) :
  Calls prog 37 #[.string s] w fun e w'=>e=.returned (.int .i64 n)/\Below w.heap.size w w':=by
 obtain ⟨a,b,hab⟩:∃a b,ZX s.data.toList=(a,b):=⟨_,_,rfl⟩;obtain ⟨p,i,f,hpi⟩:∃p i f,cutAt a=(p,i,f):=⟨_,_,_,rfl⟩;have hl:s.data.toList.length=s.size:=s_;have hal:a.length<=s.size:=by have:=(ZbQ s.data.toList).1;rw [hab,hl] at this;exact this
 have hpl:p.length<=s.size:=by have:=(ZdI a).1;rw [hpi] at this;exact Nat.le_trans this hal
 have hil:i.length<=s.size:=by have:=(ZdI a).2;rw [hpi] at this;exact Nat.le_trans this hal
 unfold Zt at hn;rw [hab] at hn;simp only [hpi,hl] at hn;obtain ⟨A,hA⟩:∃A:ByteArray,A=⟨a.toArray⟩:=⟨_,rfl⟩;obtain ⟨B,hB⟩:∃B:ByteArray,B=⟨b.toArray⟩:=⟨_,rfl⟩;obtain ⟨P,hP⟩:∃P:ByteArray,P=⟨p.toArray⟩:=⟨_,rfl⟩;obtain ⟨I,hI⟩:∃I:ByteArray,I=⟨i.toArray⟩:=⟨_,rfl⟩;have HC1:=h_ (ZpJ s w o_ a b hab);have HC2:=h_ (fun w' (h:Below w.heap.size w w')=>Zju A w' (by subst hA;show a.toArray.size<_;simp;omega) (hm.below h) p i f (by subst hA;exact hpi));have HP:=h_ (fun w' (c:Bool) (h:Jl p=c)=>ZjN P w' (by subst hP;show p.toArray.size<=_;simp;omega) c (by subst hP;exact h));have HI:=h_ (fun w' (c:Bool) (h:Jl i=c)=>ZjN I w' (by subst hI;show i.toArray.size<=_;simp;omega) c (by subst hI;exact h));rw [<-hA,<-hB] at HC1;rw [<-hP,<-hI] at HC2;have hPe:P.size=p.length:=by subst hP;show p.toArray.size=_;simp
 by_cases h60:60<s.size
 ·rw [if_neg o_] at hn
  subst hn;exact m5_
 by_cases h0:p=[]
 ·rw [if_neg (by intro e;exact e.2.1 h0)] at hn
  subst hn h0;have hPn:P=⟨#[]⟩:=hP;subst hPn;exact m5_
 obtain ⟨n1,n2,n3,n4⟩:=Xo (s:=P) (by rw [hPe];exact fun e=>h0 (List.length_eq_zero_iff.mp e));cases hp:Jl p with
 |false=>
  rw [if_neg (by rw [hp];rintro ⟨_,_,e,_⟩;cases e)] at hn;subst hn;have HP':=h_ (fun w'=>HP.out w' false hp);clear hab hpi hA hB hP hI HP HI hPe hal hpl hil hl hp h0;go_enter func37,ntmps37;go_wp2_with (first
   |(go_at_call 77;refine HC1.out.mono ?_;rintro e w' ⟨rfl,n,rfl⟩)
   |(go_at_call 78;refine (HC2.out _ (Ze ⟨_,rfl⟩)).mono ?_;rintro e w' ⟨rfl,n,rfl⟩)
   |(go_at_call 79;refine (HP'.out _).mono ?_;rintro e w' ⟨rfl,hb1⟩))
  go_ret;exact ⟨rfl,Below.more (Ze ⟨_,rfl⟩) hb1⟩
 |true=>
 have HP':=h_ (fun w'=>HP.out w' true hp);cases hi:Jl i with
 |false=>
  rw [if_neg (by rw [hi];rintro ⟨_,_,_,e⟩;cases e)] at hn;subst hn;have HI':=h_ (fun w'=>HI.out w' false hi);clear hab hpi hA hB hP hI HP HI hPe hal hpl hil hl hp h0 hi;go_enter func37,ntmps37;go_wp2_with (first
   |(go_at_call 77;refine HC1.out.mono ?_;rintro e w' ⟨rfl,n,rfl⟩)
   |(go_at_call 78;refine (HC2.out _ (Ze ⟨_,rfl⟩)).mono ?_;rintro e w' ⟨rfl,n,rfl⟩)
   |fail)
  with_reducible refine (HP'.out _).mono ?_
  rintro e w' ⟨rfl,hb1⟩;go_wp2_with fail
  with_reducible refine (HI'.out _).mono ?_
  rintro e w'' ⟨rfl,hb2⟩;go_wp2_with fail;go_ret;exact ⟨rfl,Below.more (Below.more (Ze ⟨_,rfl⟩) hb1) hb2⟩
 |true=>
  rw [if_pos ⟨o_,h0,hp,hi⟩] at hn;subst hn;have HI':=h_ (fun w'=>HI.out w' true hi);have HS:=h_ (fun (w':World) (k:Nat)=>ZgZ (k:Int) w' (X5 k) (Zl8 k));obtain ⟨SF,hSF⟩:∃SF:Nat->ByteArray,∀k,SF k=⟨(X5 k).toArray⟩:=⟨_,fun _=>rfl⟩;have HB':=h_ (fun k=>show (SF k=B)↔X5 k=b by rw [hSF,hB];simp);have HSF:=h_ hSF;clear hSF hab hpi hA hB hP hI HP HI hPe hal hpl hil hl hp h0 hi;go_enter func37,ntmps37;go_wp2_with (first
   |(go_at_call 77;refine HC1.out.mono ?_;rintro e w' ⟨rfl,n,rfl⟩)
   |(go_at_call 78;refine (HC2.out _ (Ze ⟨_,rfl⟩)).mono ?_;rintro e w' ⟨rfl,n,rfl⟩)
   |fail)
  with_reducible refine (HP'.out _).mono ?_
  rintro e w' ⟨rfl,hb1⟩;go_wp2_with fail
  with_reducible refine (HI'.out _).mono ?_
  rintro e w'' ⟨rfl,hb2⟩;go_wp2_with fail;have hbb:=Below.more (Below.more (Ze (a:=w) ⟨_,rfl⟩) hb1) hb2;clear hb1 hb2;go_loop [8] (fun i=>∃k:Nat,1<=k/\k<=5/\i=.int .i64 k/\Hid (∀j,1<=j->j<k->X5 j≠b)) (fun i=>5-(intOf i).toNat)
  case atStart=>exact ⟨1,o_,o_,rfl,h_ (fun j h1 h2=>by omega)⟩
  case round=>
   obtain ⟨k,hk1,hk5,rfl,hj⟩:=hrel;by_cases hlt:k<=4
   ·by_cases hsk:X5 k=b
    ·have e1:SF k=B:=(HB'.out k).mpr hsk
     have HK:=h_ (show kindOf b=k by rw [<-hsk];exact Zo7 k hk1 hlt);have HS1:=h_ (HS.out w'' k);rw [<-HSF.out,e1] at HS1;clear hsk;go_wp2_with (refine HS1.out.mono ?_;rintro e w3 ⟨rfl,rfl⟩);go_ret;exact ⟨Zfp (by rw [HK.out]),hbb⟩
    ·have e2:((SF k).toList==B.toList)=false:=by rw [c11_];exact fun e=>hsk ((HB'.out k).mp (by rw [ByteArray.toList_eq,ByteArray.toList_eq] at e;exact Yu e))
     have HS1:=h_ (HS.out w'' k);have HJ:=h_ (show ∀j,1<=j->j<k+1->X5 j≠b from fun j h1 h2=>by
      by_cases hjk:j=k
      ·subst hjk;exact hsk
      ·exact hj.out j h1 o_)
     rw [<-HSF.out] at HS1;clear hsk;go_wp2_with (refine HS1.out.mono ?_;rintro e w3 ⟨rfl,rfl⟩);refine ⟨⟨k+1,o_,o_,n9_,HJ⟩,?_⟩;simp [intOf];omega
   ·have HK:=h_ (show kindOf b=0 from ZmP fun j h1 h2=>hj.out j h1 o_)
    go_wp2_with fail;go_ret;exact ⟨Zfp (by rw [HK.out];rfl),hbb⟩
def JC(s:Str)(n:Int)(p:UInt8->Bool):Bool:=!s.isEmpty&&decide ((s.length:Int)<=n)&&s.all p
theorem Za1(s:ByteArray)(n:Int)(f:FuncId)(fr cap:Array Value)(p:UInt8->Bool)(b:Bool)(w:World)(h63:s.size<=9223372036854775807)
  (HE:∀args w,(callFunc f args).run prog w=.ok (.enter f args) w)
  (H:∀c:UInt8,Calls prog f (fr.push (.int .u8 c.toNat)++cap) w fun e w'=>e=.returned (.bool (p c))/\w=w') (hb:JC s.data.toList n p=b) :
  Calls prog 170 #[.string s,.int .i64 n,.func (.func f) fr cap] w fun e w'=>e=.returned (.bool b)/\w=w':=by
 by_cases h0:s.size=0
 ·have:=QH h0
  subst this
  have:b=false:=hb.symm
  subst this;clear hb h0;have HH:=h_ H;clear H;go_enter func170,ntmps170;go_wp2;go_ret;exact ⟨rfl,rfl⟩
 ·obtain ⟨n1,n2,n3,n4⟩:=Xo h0
  have hne:s.data.toList.isEmpty=false:=by rw [<-ByteArray.toList_eq];exact n1
  have hlen:s.data.toList.length=s.size:=s_;unfold JC at hb;rw [hne,hlen] at hb;clear hne hlen;by_cases hn:(s.size:Int)<=n
  ·have hd:decide ((s.size:Int)<=n)=true:=by simpa using hn
   rw [hd] at hb;simp only [Bool.not_false,Bool.true_and] at hb;have HA:=h_ (Ztq s f fr cap p b w h63 HE H hb);clear hb H HE;go_enter func170,ntmps170;go_wp2_with (go_at_call 151;refine HA.out.mono ?_;rintro e w' ⟨rfl,rfl⟩);go_ret;exact ⟨rfl,rfl⟩
  ·have hd:decide ((s.size:Int)<=n)=false:=by simpa using hn
   rw [hd] at hb
   have:b=false:=hb.symm
   subst this;clear hb H HE;go_enter func170,ntmps170;go_wp2;go_ret;exact ⟨rfl,rfl⟩
def Zal(l m:List Str):Bool:=l==m
end Go.Proofs.YtmgmbeipbeknaaaGreatDoor
