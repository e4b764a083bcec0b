import Derived.Shelf.Abstract
import Derived.Deep.LoopGhost
import Derived.Test.YtmgmbeipbeknaaaGreatDoorRF13
import Derived.Test.YtmgmbeipbeknaaaGreatDoorRF29
import Derived.Test.YtmgmbeipbeknaaaGreatDoorRF39
namespace Go.Proofs.YtmgmbeipbeknaaaGreatDoor
open Go.Proofs.Tryz
open Go Go.RowKit
set_option linter.unusedVariables false
set_option linter.unusedSimpArgs false
set_option maxHeartbeats 16000000
set_option maxRecDepth 100000
theorem ZkS(c:UInt8):((⟨#[92,120]⟩:ByteArray)++(⟨ZgU.toArray⟩:ByteArray).extract (c.toNat / 16) (c.toNat / 16+1)++(⟨ZgU.toArray⟩:ByteArray).extract (c.toNat % 16) (c.toNat % 16+1))=⟨(92::120::XH c).toArray⟩:=by
 apply Xo
 have:=Jk (p:=fun c=>decide (((⟨#[92,120]⟩:ByteArray)++(⟨ZgU.toArray⟩:ByteArray).extract (c.toNat / 16) (c.toNat / 16+1)++(⟨ZgU.toArray⟩:ByteArray).extract (c.toNat % 16) (c.toNat % 16+1)).data.toList=(92::120::XH c))) n4_ c
 exact of_decide_eq_true this
theorem ZjT(c:UInt8)(w:World) :
  Calls prog 235 #[.int .u8 c.toNat] w fun e w'=>e=.returned (.string ⟨(92::120::XH c).toArray⟩)/\∃n,w'=w.drewN n:=by
 have hc:=UInt8.toNat_lt c;have h1:((c.toNat:Int) / 16+1) % 256=(c.toNat:Int) / 16+1:=o_;have h2:0<=(c.toNat:Int) / 16:=o_;have h3:(c.toNat:Int) / 16+1<=16:=o_;have h4:0<=(c.toNat:Int) / 16+1:=o_;have h5:(c.toNat:Int) / 16<=(c.toNat:Int) / 16+1:=o_;go_enter func235,ntmps235;go_wp2;go_quiet (fail);go_wp2;go_ret;refine ⟨Zh9 (congrArg Value.string (ZkS c)),_,rfl⟩
theorem m105_{p:Prop}(h:p:=by
  have HQ:=h_ (show ZG s[k]=92::120::XH s[k] by
   unfold ZG;rw [hN];simp [UInt8.le_iff_toNat_le,UInt8.lt_iff_toNat_lt];omega)
  clear hN;have hh:(⟨(92::120::XH s[k]).toArray⟩:ByteArray).size=4:=rfl;have hws:(34::(s.data.toList.take k).flatMap ZG).length+(⟨(92::120::XH s[k]).toArray⟩:ByteArray).size<1099511627776:=o_;clear hh;go_wp2_with (go_at_call 235;refine (ZjT s[k] _).mono ?_;rintro e w3 ⟨rfl,n,rfl⟩);go_wp2_with fail;refine (Bld.writeString (by exact hb.drewN _) ⟨(92::120::XH s[k]).toArray⟩ hws).mono ?_;rintro e w4 ⟨rfl,hb4,hf4'⟩;have hf4:=(FrB.drewN (FrB.refl R (R+1) _ wr) n).trans hf4';go_wp2_with fail;go_roundg (s.size-k)
  case measure=>omega
  case rel=>
   refine ⟨k+1,o_,n14_,o_,?_,?_⟩
   ·rw [HS.out,HQ.out];exact hb4
   ·exact HB.out.trans (hf4.below R o_ o_ o_)):p:=h
theorem m106_{p:Prop}(h:p:=by go_wp2_with (go_at_call 127;refine (hb.writeByte 92 o_).mono ?_);rintro e w3 ⟨rfl,hb3,hf3⟩;go_wp2_with (go_at_call 127;refine (hb3.writeByte s[k] (by rw [List.length_append];simp only [List.length_cons,List.length_nil] at hlen'⊢;omega)).mono ?_);rintro e w4 ⟨rfl,hb4,hf4'⟩;have hf4:=hf3.trans hf4';exact m108_):p:=h
theorem m107_{p:Prop}(h:p:=by go_enter func234,ntmps234;go_wp2;go_ret;exact ⟨ZP HP.out.symm,rfl⟩):p:=h
theorem m108_{p:Prop}(h:p:=by
  go_wp2_with fail;go_roundg (s.size-k)
  case measure=>omega
  case rel=>
   refine ⟨k+1,o_,n14_,o_,?_,?_⟩
   ·rw [HS.out,HQ.out];first|exact hb4|(rw [<-List.append_assoc];exact hb4)
   ·exact HB.out.trans (hf4.below R o_ o_ o_)):p:=h
theorem m109_{p:Prop}(h:p:=by have HP:=h_ (HE.out.trans <| show decide ((32:Int)<n/\n<127/\n≠39/\n≠34/\n≠92)=false by simp;omega);exact m107_):p:=h
def Zbx(c:UInt8):Bool:=32<c&&c<127&&c !=39&&c !=34&&c !=92
theorem Zk1(c:UInt8):Zbx c=decide ((32:Int)<c.toNat/\(c.toNat:Int)<127/\(c.toNat:Int)≠39/\(c.toNat:Int)≠34/\(c.toNat:Int)≠92):=by
 rw [Bool.eq_iff_iff];simp [Zbx,<-UInt8.toNat_inj,UInt8.lt_iff_toNat_lt];omega
theorem ZlF(c:UInt8)(w:World) :
  Calls prog 234 #[.int .u8 c.toNat] w fun e w'=>e=.returned (.bool (Zbx c))/\w=w':=by
 have HE:=h_ (Zk1 c);generalize Zbx c=v at HE⊢;generalize (c.toNat:Int)=n at HE⊢;by_cases h1:(32:Int)<n
 ·by_cases h2:n<127
  ·cases h3:(n==39) with
   |true=>
    have h3':=Zaa h3;have HP:=h_ (HE.out.trans <| show decide ((32:Int)<n/\n<127/\n≠39/\n≠34/\n≠92)=false by simp at h3;subst h3;rfl);exact m107_
   |false=>
    have h3':=Zaa h3;cases h4:(n==34) with
    |true=>
     have h4':=Zaa h4;have HP:=h_ (HE.out.trans <| show decide ((32:Int)<n/\n<127/\n≠39/\n≠34/\n≠92)=false by simp at h4;subst h4;rfl);exact m107_
    |false=>
     have h4':=Zaa h4;have HP:=h_ (HE.out.trans <| show decide ((32:Int)<n/\n<127/\n≠39/\n≠34/\n≠92)=(n !=92) by
      rw [Bool.eq_iff_iff];simp at h3 h4⊢;omega)
     exact m107_
  ·exact m109_
 ·exact m109_
theorem Zn1(w:Str):Za5 w=(match w with|[]=>false|c::_=>c !=45&&w.all Zbx):=by
 cases w<;>rfl
theorem Zf7(s:ByteArray)(w:World)(h63:s.size<=9223372036854775807) :
  Calls prog 176 #[.string s] w fun e w'=>e=.returned (.bool (Za5 s.data.toList))/\w=w':=by
 have HC:=@Zmm s 234 #[] #[] Zbx w h63 (enters_of func234 k_ rfl) (fun c=>ZlF c w);by_cases h0:s.size=0
 ·have:=ZhP h0
  subst this;clear h0 HC;go_enter func176,ntmps176;go_wp2;go_ret;exact ⟨rfl,rfl⟩
 ·obtain ⟨n1,n2,n3,n4⟩:=Zdp h0
  have hl:s.data.toList=s[0]::s.data.toList.drop 1:=drop_cons s 0 n3;have HB:=h_ (show Za5 s.data.toList=(s[0]!=45&&s.data.toList.all Zbx) by rw [Zn1,hl]);clear hl;have HCC:=h_ HC;clear HC;cases h45:((s[0].toNat:Int)==45) with
  |true=>
   have h45':=Zaa h45;have HR:=h_ (show Za5 s.data.toList=false by rw [HB.out,bne,QI,show ((45:UInt8).toNat:Int)=45 from rfl,h45];rfl);go_enter func176,ntmps176;go_wp2;go_ret;exact ⟨ZP HR.out.symm,rfl⟩
  |false=>
   have h45':=Zaa h45;have HR:=h_ (show Za5 s.data.toList=s.data.toList.all Zbx by rw [HB.out,bne,QI,show ((45:UInt8).toNat:Int)=45 from rfl,h45];rfl);go_enter func176,ntmps176;go_wp2_with (go_at_call 151;refine HCC.out.mono ?_;rintro e w' ⟨rfl,rfl⟩;rw [<-HR.out]);go_ret;exact ⟨rfl,rfl⟩
theorem ZgC(c:UInt8):(ZG c).length<=4:=by
 unfold ZG XH;split
 ·simp
 ·split<;>simp
theorem ZdQ(l:Str):(l.flatMap ZG).length<=4*l.length:=by
 induction l with
 |nil=>simp
 |cons a l ih=>have:=ZgC a;simp only [List.flatMap_cons,List.length_append,List.length_cons];omega
theorem Znw(s:ByteArray)(w:World)(hs:s.size<137438953472) :
  Calls prog 177 #[.string s] w fun e w'=>e=.returned (.string ⟨(Zbn s.data.toList).toArray⟩)/\Below w.heap.size w w':=by
 have hb0:=Bld.new w;have hB0:Below w.heap.size w (w.alloc (.cells #[.pointer none,.slice none 0 0] 127)):=b_.alloc l_ _;go_enter func177,ntmps177;go_wp2_with fail;generalize w.alloc (.cells #[.pointer none,.slice none 0 0] 127)=w1 at hb0 hB0⊢;generalize hRn:w.heap.size=R at *;have HRn:=h_ hRn;clear hRn;refine (hb0.writeByte 34 s_).mono ?_;rintro e w2 ⟨rfl,hb2,hf2⟩;have hB2:Below R w w2:=hB0.trans (hf2.below R o_ o_ (by have:=hb0.lt;omega));clear hb0 hB0 hf2;go_wp2_with fail;go_loopg [9] (s.size+1) (fun f i wr=>∃k:Nat,k<=s.size/\i=.int .i64 k/\s.size-k<f/\Bld R (R+1) (34::(s.data.toList.take k).flatMap ZG) wr/\Below R w wr)
 case atStart=>exact ⟨0,o_,rfl,o_,hb2,hB2⟩
 case round=>
  obtain ⟨k,hk,rfl,hfu,hb,hB⟩:=hrel;have hlen:=ZdQ (s.data.toList.take k);have htk:(s.data.toList.take k).length<=k:=List.length_take_le _ _;have hlen':(34::(s.data.toList.take k).flatMap ZG).length<=4*k+1:=by simp only [List.length_cons];omega
  have hRl:=hb.lt;have HB:=h_ hB;clear hB hlen htk;by_cases hlt:k<s.size
  ·have hsn:=Zhk s.data.toList k n24_
   have hgk:s.data.toList[k]' n24_=s[k]:=rfl;rw [hgk] at hsn;have HS:=h_ (show 34::(s.data.toList.take (k+1)).flatMap ZG=(34::(s.data.toList.take k).flatMap ZG)++ZG s[k] by rw [hsn];simp);clear hsn hgk;cases h34:((s[k].toNat:Int)==34) with
   |true=>
    have HQ:=h_ (show ZG s[k]=[92]++[s[k]] by unfold ZG;rw [QI,show ((34:UInt8).toNat:Int)=34 from rfl,h34];rfl);exact m106_
   |false=>
    cases h92:((s[k].toNat:Int)==92) with
    |true=>
     have HQ:=h_ (show ZG s[k]=[92]++[s[k]] by unfold ZG;rw [QI,QI,show ((34:UInt8).toNat:Int)=34 from rfl,show ((92:UInt8).toNat:Int)=92 from rfl,h34,h92];rfl);exact m106_
    |false=>
     have hN:(s[k]==34||s[k]==92)=false:=by rw [QI,QI,show ((34:UInt8).toNat:Int)=34 from rfl,show ((92:UInt8).toNat:Int)=92 from rfl,h34,h92];rfl
     by_cases h32:(32:Int)<=s[k].toNat
     ·by_cases h127:(s[k].toNat:Int)<127
      ·have HQ:=h_ (show ZG s[k]=[s[k]] by
        unfold ZG;rw [hN];simp [UInt8.le_iff_toNat_le,UInt8.lt_iff_toNat_lt];omega)
       clear hN;go_wp2_with (go_at_call 127;refine (hb.writeByte s[k] o_).mono ?_);rintro e w4 ⟨rfl,hb4,hf4⟩;exact m108_
      ·exact m105_
     ·exact m105_
  ·have:k=s.size:=o_
   subst this;have HE:=h_ (show Zbn s.data.toList=(34::(s.data.toList.take s.size).flatMap ZG)++[34] by
    rw [List.take_of_length_le s_];rfl)
   go_wp2_with (go_at_call 127;refine (hb.writeByte 34 o_).mono ?_);rintro e w3 ⟨rfl,hb3,hf3⟩;go_wp2_with (go_at_call 100;refine hb3.string.mono ?_;rintro e w4 ⟨rfl,hb4,hf4⟩);go_ret;refine ⟨by rw [HE.out];rfl,?_⟩;rw [HRn.out];exact HB.out.trans ((hf3.trans hf4).below R o_ o_ o_)
theorem m110_{p:Prop}(h:p:=by
  have HO4:=h_ (show w4.ownsRow w.heap.size 9 1 v' (k+1) (Zr ((l.map YG).take (k+1))) by rw [HS.out,XK,HW.out];exact hown');clear hgrow hnil hown';obtain ⟨ao,cap2,rfl⟩:=ownsRow_form HO4.out;go_wp2_with fail;go_roundg (l.length-k)
  case measure=>omega
  case rel=>exact ⟨k+1,o_,n14_,o_,HO4,HZ,HB4⟩):p:=h
theorem Zhg(sep:Str)(l:List Str):Lib.join l sep=Yq sep l:=by
 induction l with
 |nil=>rfl
 |cons a l ih=>
  cases l with
  |nil=>simp [Lib.join,Yq]
  |cons b r=>simp only [Yq,<-ih];simp [Lib.join]
theorem ZeS(sep:Str)(m:Nat):∀(l:List Str),(∀x∈l,x.length<=m)->(Yq sep l).length<=l.length*(m+sep.length)
 |[],_=>by simp [Yq]
 |[a],h=>by have:=h a s_;simp [Yq];omega
 |a::b::r,h=>by
  have h1:=h a s_;have ih:=ZeS sep m (b::r) (fun x hx=>h x (by simp [hx]));simp only [Yq,List.length_append];rw [List.length_cons,Nat.add_mul];omega
theorem ZbQ(x:Str):(YG x).length<=4*x.length+2:=by
 unfold YG Zbn;split
 ·omega
 ·have:=ZdQ x;simp only [List.length_cons,List.length_append,List.length_nil];omega
theorem ZfE(l:Str):(0<=Lib.indexByte l 0)=(l.contains 0=true):=by
 induction l with
 |nil=>simp [Lib.indexByte]
 |cons a l ih=>
  simp only [Lib.indexByte];by_cases h:a=0
  ·simp [h]
  ·have hge:=Lib.indexByte_ge l 0
   rw [List.contains_cons];have h2:((0:UInt8)==a)=false:=by simpa using (fun e:(0:UInt8)=a=>h e.symm)
   rw [h2,Bool.false_or,<-ih];have h3:(a==0)=false:=n27_;rw [h3];by_cases h4:Lib.indexByte l 0 = -1
   ·simp [h4]
   ·have:(Lib.indexByte l 0==-1)=false:=by simpa using h4
    rw [this];simp;omega
theorem Ze3(s:ByteArray)(w:World)(v:Int)(hv:Lib.indexByte s.data.toList 0=v) :
  Calls prog 175 #[.string s,.int .u8 0] w fun e w'=>e=.returned (.int .i64 v)/\w=w':=by
 subst hv;refine (Tryz.strings_IndexByte s 0 w).mono ?_;rintro e w' ⟨rfl,rfl⟩;exact ⟨rfl,rfl⟩
theorem Zgn(l:List Str)(k:Nat)(h:k<l.length):(l.map YG).take (k+1)=(l.map YG).take k++[YG l[k]]:=by
 rw [List.take_succ_eq_append_getElem n27_];simp
theorem ZgI(l:List Str)(k:Nat)(h:k<l.length)(h1:(l.take k).any (fun x=>x.contains 0)=false)(h2:l[k].contains 0=false):(l.take (k+1)).any (fun x=>x.contains 0)=false:=by
 rw [List.take_succ_eq_append_getElem h,List.any_append,h1];simp only [List.any_cons,h2];rfl
def Zsn(w:World)(l:List Str)(e:Ending)(w':World):Prop:=e=.returned (.string ⟨(join l).toArray⟩)/\Below w.heap.size w w'
theorem Zkp(oa:Option Addr)(cap:Nat)(l:List Str)(w:World)(h:Zu w oa l)(hm:l.length<=maxLen)(hl:∀x∈l,x.length<137438953472) :
  Calls prog 94 #[.slice oa l.length cap] w fun e w'=>Zsn w l e w':=by
 unfold maxLen at hm;obtain ⟨i0,hi,hz0,hz1,hz2⟩:=info_parts Zfz;by_cases h32:32<l.length
 ·have HR:=h_ (show join l=[] by unfold join;rw [if_pos h32])
  go_enter func94,ntmps94;go_wp2_with fail;go_ret;exact ⟨n9_,Below.refl _ _⟩
 ·have Hl:=h_ hl;clear hl
  have Hr:=h_ h;clear h;go_enter func94,ntmps94;go_wp2_with fail;go_loopg [3,5,11] (l.length+1) (fun f v _ i wr=>∃k:Nat,k<=l.length/\i=.int .i64 k/\l.length-k<f/\Hid (wr.ownsRow w.heap.size 9 1 v k (Zr ((l.map YG).take k)))/\Hid ((l.take k).any (fun x=>x.contains 0)=false)/\Hid (Below w.heap.size w wr))
  case atStart=>exact ⟨0,o_,rfl,o_,World.ownsRow_nil _ _ _ _,rfl,Below.refl _ _⟩
  case round=>
   obtain ⟨k,hk,rfl,hfu,Hown,Hz,Hb⟩:=hrel;obtain ⟨oa',cap',rfl⟩:=ownsRow_form Hown.out;by_cases hlt:k<l.length
   ·obtain ⟨b,o,rfl,hc⟩:=(Hr.out.below Hb.out) k hlt
    have hxl:=Hl.out l[k] (List.getElem_mem _);cases hz:l[k].contains 0 with
    |true=>
     have h0:0<=Lib.indexByte l[k] 0:=by rw [ZfE];exact hz
     obtain ⟨n,hn⟩:∃n:Nat,Lib.indexByte l[k] 0=n:=⟨_,(Int.toNat_of_nonneg h0).symm⟩;have HN:=h_ hn;have HR:=h_ (show join l=[] by
      unfold join;rw [if_neg h32,if_pos];rw [List.any_eq_true];exact ⟨l[k],List.getElem_mem _,hz⟩)
     clear hn h0 hz;go_wp2_with (go_at_call 175;refine (Ze3 _ _ n HN.out).mono ?_;rintro e w' ⟨rfl,rfl⟩);go_ret;exact ⟨n9_,Hb.out⟩
    |false=>
     have h0:Lib.indexByte l[k] 0 = -1:=by
      have h1:¬0<=Lib.indexByte l[k] 0:=by rw [ZfE,hz];exact Bool.false_ne_true
      have:=Lib.indexByte_ge l[k] 0
      omega
     have HN:=h_ h0;have HZ:=h_ (ZgI l k hlt Hz.out hz);have HS:=h_ (Zgn l k hlt);clear h0 hz;cases hp:Za5 l[k] with
     |true=>
      have HW:=h_ (show YG l[k]=l[k] by unfold YG;rw [if_pos hp]);have HP:=h_ hp;have HO:=h_ (Hown.out.alloc (.cells #[.string ⟨l[k].toArray⟩] 9));clear hp;go_wp2_with (first
       |(go_at_call 175;refine (Ze3 _ _ (-1) HN.out).mono ?_;rintro e w' ⟨rfl,rfl⟩)
       |(go_at_call 176;refine (Zf7 _ _ (by show l[k].length<=_;omega)).mono ?_;rintro e w' ⟨rfl,rfl⟩;rw [HP.out])
       |(at_builtin;refine wpList_append_own _ rfl _ _ 26 rfl w.heap.size 9 i0 (.string ⟨#[]⟩) 1 16 underlying26 hi hz0 hz1 hz2 rfl d_ _ _ _ rfl HO.out ⟨wr.heap.size,0,none⟩ 1 1 [.string ⟨l[k].toArray⟩] rfl rfl ?c1 ?c2 ?c3 ?c4 ?c5 ?_))
      case c1=>exact cell_one_new _ _ _
      case c2=>simp [Value.oneCell']
      case c3=>unfold maxLen;omega
      case c4=>omega
      case c5=>have:=Hb.out.size;simp;omega
      intro v' w4 hown' hgrow hnil;have HB4:=h_ (((Hb.out.alloc Hb.out.size _).grown hgrow (by have:=Hb.out.size;simp;omega) (fun g hg=>(Hown.out.lt g hg).1)));exact m110_
     |false=>
      have HW:=h_ (show YG l[k]=Zbn l[k] by unfold YG;rw [if_neg (by simp [hp])]);have HP:=h_ hp;clear hp;go_wp2_with (first
       |(go_at_call 175;refine (Ze3 _ _ (-1) HN.out).mono ?_;rintro e w' ⟨rfl,rfl⟩)
       |(go_at_call 176;refine (Zf7 _ _ (by show l[k].length<=_;omega)).mono ?_;rintro e w' ⟨rfl,rfl⟩;rw [HP.out]))
      refine (Znw _ wr (by show l[k].length<_;omega)).mono ?_;rintro e w3 ⟨rfl,hb3⟩;have HO:=h_ ((ZO Hown.out (Fr.of_below hb3 (fun _=>False)) (fun _ _ _ e=>e)).alloc (.cells #[.string ⟨(Zbn l[k]).toArray⟩] 9));have HB3:=h_ (Hb.out.trans (hb3.mono Hb.out.size));have hsz:=HB3.out.size;have hsz2:=Hb.out.size;clear hb3;go_wp2_with ((at_builtin;refine wpList_append_own _ rfl _ _ 26 rfl w.heap.size 9 i0 (.string ⟨#[]⟩) 1 16 underlying26 hi hz0 hz1 hz2 rfl d_ _ _ _ rfl HO.out ⟨w3.heap.size,0,none⟩ 1 1 [.string ⟨(Zbn l[k]).toArray⟩] rfl rfl ?c1 ?c2 ?c3 ?c4 ?c5 ?_))
      case c1=>exact cell_one_new _ _ _
      case c2=>simp [Value.oneCell']
      case c3=>unfold maxLen;omega
      case c4=>omega
      case c5=>simp;omega
      intro v' w4 hown' hgrow hnil;have HB4:=h_ (((HB3.out.alloc hsz _).grown hgrow n6_ (fun g hg=>(Hown.out.lt g hg).1)));exact m110_
   ·have:k=l.length:=o_
    subst this;have hz:=Hz.out;rw [List.take_length] at hz;have HR:=h_ (show join l=Lib.join (l.map YG) [32] by unfold join;rw [if_neg h32,hz,Zhg];rfl);by_cases h0:l.length=0
    ·have hl0:l=[]:=List.eq_nil_of_length_eq_zero h0
     subst hl0;go_wp2_with (go_at_call 178;refine (Tryz.strings_Join_none _ _ _ _).mono ?_;rintro e w' ⟨rfl,rfl⟩);go_ret;exact ⟨n9_,Hb.out⟩
    ·have hrow:=Zu.of_own Hown.out
     rw [List.take_of_length_le s_] at hrow;obtain ⟨b,o,rfl,-⟩:=hrow 0 n6_;have hcells:∀(j:Nat) (x:ByteArray),((l.map YG).map fun y=>(⟨y.toArray⟩:ByteArray))[j]?=some x->wr.cell? ⟨b,o+j,none⟩=some (.string x):=by
      intro j x hx;simp at hx;obtain ⟨y,hy,rfl⟩:=hx;obtain ⟨hj,rfl⟩:=List.getElem?_eq_some_iff.1 hy;obtain ⟨b',o',e,hc⟩:=hrow j n89_;injection e with e;injection e with e1 e2;subst e1;subst e2
      simpa using hc
     have hblt:b<wr.heap.size:=by
      obtain ⟨b',o',e,hc⟩:=hrow 0 n6_;injection e with e;injection e with e1 e2;subst e1
      exact World.block_lt_of_cell? wr _ hc
     have hmm:(((l.map YG).map fun y=>(⟨y.toArray⟩:ByteArray)).map (·.data.toList))=l.map YG:=by simp [Function.comp_def]
     have hjl:(Lib.join (((l.map YG).map fun y=>(⟨y.toArray⟩:ByteArray)).map (·.data.toList)) [32]).length<=140737488355328:=by
      rw [hmm,Zhg]
      have:=ZeS [32] (4*137438953472+2) (l.map YG) (by
       intro x hx;obtain ⟨y,hy,rfl⟩:=List.mem_map.1 hx;have h1:=ZbQ y;have h2:=Hl.out y hy;omega)
      rw [List.length_map] at this;simp only [List.length_cons,List.length_nil] at this;have h3:l.length*(4*137438953472+2+1)<=32*(4*137438953472+2+1):=Nat.mul_le_mul_right _ o_;omega
     have hcap:l.length<=cap':=by
      rcases Hown.out.2 with ⟨h,_⟩|⟨g,cap2,cur,h,_,_,h2,_⟩
      ·cases h
      ·injection h with _ _ h;subst h;exact h2
     have HJ:=h_ (Tryz.strings_Join b o cap' ((l.map YG).map fun y=>(⟨y.toArray⟩:ByteArray)) ⟨#[32]⟩ wr hcells hblt n6_ (by simpa using hcap) hjl);have hlen:((l.map YG).map fun y=>(⟨y.toArray⟩:ByteArray)).length=l.length:=s_;have HLen:=h_ hlen;clear hrow hcells hmm hjl hlen hz;go_wp2_with fail;have H:=HJ.out;rw [HLen.out] at H;refine H.mono ?_;rintro e w3 ⟨rfl,hb3⟩;go_wp2_with fail;go_ret;refine ⟨?_,Hb.out.trans (hb3.mono Hb.out.size)⟩;rw [HR.out];simp [Function.comp_def]
theorem m111_{p:Prop}(h:p:=by go_wp2_with fail;go_end0;refine ⟨rfl,YB.below HWR.out ?_,FrB.trans HF2.out (FrB.trans HFR.out (Fr.of_below ?_ _))⟩;all_goals (repeat (first|exact Below.refl _ _|refine Ya ?_|refine Z7 ?_))):p:=h
theorem m112_{p:Prop}(h:p:=by
  clear hw5 hf5;go_wp2_with fail;go_roundg (xs.length-m)
  case measure=>omega
  case rel=>exact ⟨m+1,o_,n14_,o_,n63_,HF5⟩):p:=h
theorem m113_{p:Prop}(h:p:=by go_quiet (first|(go_at_call 179;exact Calls.quiet_of_same (HNU.out _))|(go_at_call 145;exact Calls.quiet_of_same (HTX.out _))|(go_at_call 142;exact Calls.quiet_of_same (HEX.out _)));exact m111_):p:=h
theorem YB.rdU{w0 w:World}{R B:Nat}{us fs:Array Value}{l:List Ln}(h:YB w0 w R B us fs l){j:Nat}{x:Value}(hx:us[j]?=some x):w.cell? ⟨R,j,none⟩=some x:=by
 obtain ⟨_,c,d,_,_,la,lc,g,_⟩:=h;exact ((Proofs.YtmgmbeipbeknaaaGreatDoor.rd g).1 j).trans (Zsb c d _ _ _ hx)
theorem ZpX{w w':World}{oa:Option Addr}{xs:List ZbV}{l:List JB}(hb:Below w.heap.size w w')(h:Zav w oa xs l):Zav w' oa xs l:=⟨h.len,h.row.below hb,fun i h1 h2=>let s:=h.see i h1 h2;⟨s.dash,s.wn,s.row.below hb,s.few⟩⟩
theorem Zlq(d:Bool)(w:World):Calls prog 181 #[.string ⟨#[45]⟩,.int .i64 (if d then 1 else 0)] w fun e w'=>e=.returned (.string ⟨(if d then [45] else []:Str).toArray⟩)/\Below w.heap.size w w':=by
 cases d with
 |true=>exact (Tryz.strings_Repeat_one ⟨#[45]⟩ w).mono fun e w' h=>⟨h.1,by rw [h.2];exact Below.refl _ _⟩
 |false=>exact (Tryz.strings_Repeat_zero ⟨#[45]⟩ w).mono fun e w' h=>⟨h.1,by rw [h.2];exact Below.refl _ _⟩
theorem Zm0(d:Bool)(x:JB)(hd:d=x.1):(⟨(if d then [45] else []:Str).toArray⟩:ByteArray)++(⟨(join x.2).toArray⟩:ByteArray)=⟨(J9 x).toArray⟩:=by
 subst hd;apply Xo;rw [Joins.data_append];rfl
theorem Zqe(d:Bool)(x:JB)(hd:d=x.1)(h:(J9 x).length<=1000000000):(if d then [45] else []:Str).length+(join x.2).length<=9223372036854775807:=by
 subst hd;unfold J9 at h;rw [List.length_append] at h;omega
theorem Zu.base{w w':World}{oa:Option Addr}{l:List Str}(h:Zu w oa l)(hb:Below w.heap.size w w'):Zu w' oa l:=h.below hb
theorem YZ.below{w w':World}{oa:Option Addr}{l:List Int}(h:YZ w oa l)(hb:Below w.heap.size w w'):YZ w' oa l:=by
 intro i hi;obtain ⟨b,o,e,hc⟩:=h i hi;exact ⟨b,o,e,(hb.cell (World.block_lt_of_cell? w _ hc)).trans hc⟩
theorem ZlB(R B j:Nat)(us fs:Array Value)(l:List Ln)(k:ZC)(kv:ZM)(oa:Option Addr)(cap:Nat)(xs:List Int)(w0 w:World)(hW:YB w0 w R B us fs l)(hM:Zt w0)(hP:Pow w0)(hK:YJ w kv k)(hkw:k.words.length<=1000)(hl:l.length+xs.length<=100000000)
  (hj:us[j]?=some (.slice oa xs.length cap)) (hrow:YZ w0 oa xs) (hv:∀x∈xs,(QD k x).length<=1000000000) (hk0:k.words=[]) (hxr:∀x∈xs,-9223372036854775808<=x/\x<=9223372036854775807)
  (hNumbers:∀W,Calls prog 179 #[.pointer (some ⟨R,0,none⟩),.string ⟨k.name.toArray⟩] W fun e w'=>e=.returned (.pointer (some ⟨R,j,none⟩))/\w'=W)
  (hTexts:∀W,Calls prog 145 #[.pointer (some ⟨R,0,none⟩),.string ⟨k.name.toArray⟩] W fun e w'=>e=.returned (.pointer (none))/\w'=W)
  (hExecs:∀W,Calls prog 142 #[.pointer (some ⟨R,0,none⟩),.string ⟨k.name.toArray⟩] W fun e w'=>e=.returned (.pointer (none))/\w'=W)
  : Calls prog 95 #[.pointer (some ⟨R,0,none⟩),.agg (Zp kv).toArray] w fun e w'=>Xd w0 w R B us fs (l++Z5 k.sec (xs.map fun x=>(k.name,QD k x))) e w':=by
 have hsec:=hK.sec;have hname:=hK.name;have HKV:=h_ hK;obtain ⟨ks,kn,kf,kl,kk,wa,wn,wc⟩:=kv;simp only at hsec hname;subst hsec;subst hname;have hlt:R<w.heap.size:=n8_;have hB:=(Below.refl w.heap.size w).alloc l_ (.cells #[.string ⟨k.sec.toArray⟩,.string ⟨k.name.toArray⟩,.int .i64 kf,.bool kl,.int .i64 kk,.slice wa wn wc] 82);have HB:=h_ hB;have HW1:=h_ (hW.below hB);have HK1:=h_ (heap_alloc_new w (.cells #[.string ⟨k.sec.toArray⟩,.string ⟨k.name.toArray⟩,.int .i64 kf,.bool kl,.int .i64 kk,.slice wa wn wc] 82));have HNU:=h_ hNumbers;have HTX:=h_ hTexts;have HEX:=h_ hExecs;have HM:=h_ hM;have HP:=h_ hP;have HL:=h_ hl;have HV:=h_ hv;have HJ:=h_ hj;have HKW:=h_ hkw;have HROW:=h_ hrow;have HXR:=h_ hxr;have HK0:=h_ hk0;clear hxr hk0;unfold Zp Xd;simp only;clear hB hW hM hP hK hl hv hj hkw hNumbers hTexts hExecs hrow;have HNR:=h_ (show w.heap.size≠R by omega);have HRD:=h_ (fun (W:World) (h:FrB R B 53 (w.alloc (.cells #[.string ⟨k.sec.toArray⟩,.string ⟨k.name.toArray⟩,.int .i64 kf,.bool kl,.int .i64 kk,.slice wa wn wc] 82)) W)=>show W.heap[w.heap.size]?=some (.cells #[.string ⟨k.sec.toArray⟩,.string ⟨k.name.toArray⟩,.int .i64 kf,.bool kl,.int .i64 kk,.slice wa wn wc] 82 (0,0))/\W.cell? ⟨w.heap.size,0,none⟩=some (.string ⟨k.sec.toArray⟩)/\W.cell? ⟨w.heap.size,1,none⟩=some (.string ⟨k.name.toArray⟩) from
  ⟨FrB.heap h HK1.out HNR.out d_,(rd (FrB.heap h HK1.out HNR.out d_)).1 0,(rd (FrB.heap h HK1.out HNR.out d_)).1 1⟩)
 go_enter func95,ntmps95;go_wp2_with fail;generalize w.alloc (.cells #[.string ⟨k.sec.toArray⟩,.string ⟨k.name.toArray⟩,.int .i64 kf,.bool kl,.int .i64 kk,.slice wa wn wc] 82)=w1 at HB HW1 HK1 HRD⊢;clear HK1;obtain ⟨-,d3,d4⟩:=HRD.out w1 (FrB.refl _ _ _ _);have hj1:=HW1.out.rdU HJ.out;go_quiet (first|(go_at_call 179;exact Calls.quiet_of_same (HNU.out _))|(go_at_call 145;exact Calls.quiet_of_same (HTX.out _))|(go_at_call 142;exact Calls.quiet_of_same (HEX.out _)));go_wp2_with fail;refine YX (P:=fun V=>Code.wp _ _ _ _ V) (w1:=w1) (by repeat (first|exact Below.refl _ _|refine Ya ?_|refine Z7 ?_)) (fun w9 hb2=>?_);have HF2:=h_ (show FrB R B 53 w w9 from Fr.of_below (HB.out.trans (hb2.mono HB.out.size)) _);have HW2:=h_ (HW1.out.below hb2);have HRD2:=h_ (fun (W:World) (h:FrB R B 53 w9 W)=>HRD.out W (FrB.trans (show FrB R B 53 w1 w9 from Fr.of_below hb2 _) h));clear hb2 d3 d4 HRD HB hj1;go_loopg [6,25] (xs.length+1) (fun f _ i wr=>∃m:Nat,m<=xs.length/\i=.int .i64 m/\xs.length-m<f/\Hid (YB w0 wr R B us fs (l++Z5 k.sec ((xs.take m).map fun x=>(k.name,QD k x))))/\Hid (FrB R B 53 w9 wr))
 case atStart=>exact ⟨0,o_,rfl,o_,n20_,FrB.refl _ _ _ _⟩
 case round=>
  obtain ⟨m,hm,rfl,hf,HWR,HFR⟩:=hrel;have HRW:=h_ (fun (W:World) (h:Below wr.heap.size wr W)=>HRD2.out W (FrB.trans HFR.out (show FrB R B 53 wr W from Fr.of_below h _)));obtain ⟨-,d3,d4⟩:=HRW.out wr b_;by_cases hlt2:m<xs.length
  ·obtain ⟨x,hx⟩:=e_ (xs[m])
   have HSN:=h_ (show l++Z5 k.sec ((xs.take (m+1)).map fun x=>(k.name,QD k x))=(l++Z5 k.sec ((xs.take m).map fun x=>(k.name,QD k x)))++[JZ k.sec k.name (QD k x)] by
    rw [List.take_succ_eq_append_getElem hlt2,List.map_append,<-hx];simp [Z5])
   have HVX:=h_ (HV.out x n25_);have HLM:=h_ (show (l++Z5 k.sec ((xs.take m).map fun x=>(k.name,QD k x))).length<=100000000 by
    have:=HL.out;rw [List.length_append,Z5,List.length_map,List.length_map,List.length_take];omega)
   have hm2:(m:Int)<(xs.length:Int):=o_;have hmb:m<=100000000:=n88_;obtain ⟨b,o,e1,d5⟩:=YZ.below HROW.out HWR.out.base  m hlt2;subst e1;rw [<-hx] at d5;have HXX:=h_ (HXR.out x n25_);clear hx;generalize l++Z5 k.sec ((xs.take m).map fun x=>(k.name,QD k x))=lm at HWR HSN HLM;go_wp2_with fail;refine Zh (S:=fun V=>Below wr.heap.size wr V) 8 k_ k_ (Zd ⟨1,rfl⟩) (fun hHeld=>?_);refine u_ ?_;refine dT_ (i:=0) (v:=.pointer (some ⟨R,0,none⟩)) (gT_ rfl) (fun W hW=>by clear hW;go_simp) (u_ ?_);refine dT_ (i:=1) (v:=.pointer (some ⟨w.heap.size,0,none⟩)) (gT_ rfl) (fun W hW=>by clear hW;go_simp) (u_ ?_);refine dT_ (i:=2) (v:=.string ⟨k.sec.toArray⟩) (gT_ rfl) (fun W hW=>by obtain ⟨-,q3,q4⟩:=HRW.out W hW;clear hW;go_simp) (u_ ?_);refine dT_ (i:=3) (v:=.pointer (some ⟨w.heap.size,1,none⟩)) (gT_ rfl) (fun W hW=>by clear hW;go_simp) (u_ ?_);refine dT_ (i:=4) (v:=.string ⟨k.name.toArray⟩) (gT_ rfl) (fun W hW=>by obtain ⟨-,q3,q4⟩:=HRW.out W hW;clear hW;go_simp) (u_ ?_);refine dT_ (i:=5) (v:=.agg #[.string ⟨k.sec.toArray⟩,.string ⟨k.name.toArray⟩,.int .i64 kf,.bool kl,.int .i64 kk,.slice wa wn wc]) (gT_ rfl) (fun W hW=>J3 82 (.tmp 3) w.heap.size #[.string ⟨k.sec.toArray⟩,.string ⟨k.name.toArray⟩,.int .i64 kf,.bool kl,.int .i64 kk,.slice wa wn wc] 82 _ rfl rfl (HRW.out W hW).1 rfl rfl n13_) (u_ ?_);refine dT_ (i:=6) (v:=.int .i64 x) (gT_ rfl) (fun W hW=>by clear hW;go_simp) (u_ ?_);refine Zn (i:=7) (gT_ rfl) k_ k_ (fun K hK=>?_);clear hHeld;rw [if_pos n13_];go_simp;have HB3:=h_ (show Below wr.heap.size wr wr.drew from Zd ⟨1,rfl⟩);refine (ZiU k _ x wr.drew { HKV.out with ww:=.inl HK0.out } HKW.out (HP.out.below ((HWR.out.below HB3.out).base)) HXX.out.1 HXX.out.2).mono ?_;rintro e w4 ⟨rfl,hb4⟩;have HB4:=h_ (show Below wr.heap.size wr w4 from HB3.out.trans hb4);clear hb4;refine hK.out _ _ HB4.out (fun hHeld=>?_);clear hK K;refine u_ ?_;refine Zv k_ ?_;clear hHeld;go_wp2_with fail;refine (QW R B us fs lm k.sec k.name (QD k x) w0 w4 (HWR.out.below HB4.out) HM.out HLM.out HVX.out).mono ?_;rintro e w5 ⟨rfl,hw5,hf5⟩;have HW5:=h_ hw5;have HF5:=h_ (show FrB R B 53 w9 w5 from FrB.trans (FrB.trans HFR.out (show FrB R B 53 wr w4 from Fr.of_below HB4.out _)) hf5);exact m112_
  ·obtain rfl:m=xs.length:=o_
   rw [List.take_of_length_le l_] at HWR;have hm2:¬((xs.length:Int)<(xs.length:Int)):=o_;go_wp2_with fail;go_quiet (first|(go_at_call 179;exact Calls.quiet_of_same (HNU.out _))|(go_at_call 145;exact Calls.quiet_of_same (HTX.out _))|(go_at_call 142;exact Calls.quiet_of_same (HEX.out _)));go_wp2_with fail;refine YX (P:=fun V=>Code.wp _ _ _ _ V) (w1:=wr) (by repeat (first|exact Below.refl _ _|refine Ya ?_|refine Z7 ?_)) (fun wy1 hb2=>?_);replace HWR:=h_ (HWR.out.below hb2);replace HFR:=h_ (FrB.trans HFR.out (show FrB R B 53 wr wy1 from Fr.of_below hb2 _));replace HRW:=h_ (fun (W:World) (h:Below wy1.heap.size wy1 W)=>HRW.out W (hb2.trans (h.mono hb2.size)));clear hb2 d3 d4;obtain ⟨-,d3,d4⟩:=HRW.out wy1 b_;exact m113_
theorem Zln(R B j:Nat)(us fs:Array Value)(l:List Ln)(k:ZC)(kv:ZM)(oa:Option Addr)(cap:Nat)(xs:List Str)(w0 w:World)(hW:YB w0 w R B us fs l)(hM:Zt w0)(hP:Pow w0)(hK:YJ w kv k)(hkw:k.words.length<=1000)(hl:l.length+xs.length<=100000000)
  (hj:us[j]?=some (.slice oa xs.length cap)) (hrow:Zu w0 oa xs) (hv:∀x∈xs,(x).length<=1000000000)
  (hNumbers:∀W,Calls prog 179 #[.pointer (some ⟨R,0,none⟩),.string ⟨k.name.toArray⟩] W fun e w'=>e=.returned (.pointer (none))/\w'=W)
  (hTexts:∀W,Calls prog 145 #[.pointer (some ⟨R,0,none⟩),.string ⟨k.name.toArray⟩] W fun e w'=>e=.returned (.pointer (some ⟨R,j,none⟩))/\w'=W)
  (hExecs:∀W,Calls prog 142 #[.pointer (some ⟨R,0,none⟩),.string ⟨k.name.toArray⟩] W fun e w'=>e=.returned (.pointer (none))/\w'=W)
  : Calls prog 95 #[.pointer (some ⟨R,0,none⟩),.agg (Zp kv).toArray] w fun e w'=>Xd w0 w R B us fs (l++Z5 k.sec (xs.map fun x=>(k.name,x))) e w':=by
 have hsec:=hK.sec;have hname:=hK.name;have HKV:=h_ hK;obtain ⟨ks,kn,kf,kl,kk,wa,wn,wc⟩:=kv;simp only at hsec hname;subst hsec;subst hname;have hlt:R<w.heap.size:=n8_;have hB:=(Below.refl w.heap.size w).alloc l_ (.cells #[.string ⟨k.sec.toArray⟩,.string ⟨k.name.toArray⟩,.int .i64 kf,.bool kl,.int .i64 kk,.slice wa wn wc] 82);have HB:=h_ hB;have HW1:=h_ (hW.below hB);have HK1:=h_ (heap_alloc_new w (.cells #[.string ⟨k.sec.toArray⟩,.string ⟨k.name.toArray⟩,.int .i64 kf,.bool kl,.int .i64 kk,.slice wa wn wc] 82));have HNU:=h_ hNumbers;have HTX:=h_ hTexts;have HEX:=h_ hExecs;have HM:=h_ hM;have HP:=h_ hP;have HL:=h_ hl;have HV:=h_ hv;have HJ:=h_ hj;have HKW:=h_ hkw;have HROW:=h_ hrow;skip;unfold Zp Xd;simp only;clear hB hW hM hP hK hl hv hj hkw hNumbers hTexts hExecs hrow;have HNR:=h_ (show w.heap.size≠R by omega);have HRD:=h_ (fun (W:World) (h:FrB R B 53 (w.alloc (.cells #[.string ⟨k.sec.toArray⟩,.string ⟨k.name.toArray⟩,.int .i64 kf,.bool kl,.int .i64 kk,.slice wa wn wc] 82)) W)=>show W.heap[w.heap.size]?=some (.cells #[.string ⟨k.sec.toArray⟩,.string ⟨k.name.toArray⟩,.int .i64 kf,.bool kl,.int .i64 kk,.slice wa wn wc] 82 (0,0))/\W.cell? ⟨w.heap.size,0,none⟩=some (.string ⟨k.sec.toArray⟩)/\W.cell? ⟨w.heap.size,1,none⟩=some (.string ⟨k.name.toArray⟩) from
  ⟨FrB.heap h HK1.out HNR.out d_,(rd (FrB.heap h HK1.out HNR.out d_)).1 0,(rd (FrB.heap h HK1.out HNR.out d_)).1 1⟩)
 go_enter func95,ntmps95;go_wp2_with fail;generalize w.alloc (.cells #[.string ⟨k.sec.toArray⟩,.string ⟨k.name.toArray⟩,.int .i64 kf,.bool kl,.int .i64 kk,.slice wa wn wc] 82)=w1 at HB HW1 HK1 HRD⊢;clear HK1;obtain ⟨-,d3,d4⟩:=HRD.out w1 (FrB.refl _ _ _ _);go_quiet (first|(go_at_call 179;exact Calls.quiet_of_same (HNU.out _))|(go_at_call 145;exact Calls.quiet_of_same (HTX.out _))|(go_at_call 142;exact Calls.quiet_of_same (HEX.out _)));go_wp2_with fail;refine YX (P:=fun V=>Code.wp _ _ _ _ V) (w1:=w1) (by repeat (first|exact Below.refl _ _|refine Ya ?_|refine Z7 ?_)) (fun w2 hb2=>?_);replace HRD:=h_ (fun (W:World) (h:FrB R B 53 w2 W)=>HRD.out W (FrB.trans (show FrB R B 53 w1 w2 from Fr.of_below hb2 _) h));replace HB:=h_ (HB.out.trans (hb2.mono HB.out.size));replace HW1:=h_ (HW1.out.below hb2);clear hb2 d3 d4;obtain ⟨-,d3,d4⟩:=HRD.out w2 (FrB.refl _ _ _ _);have hj1:=HW1.out.rdU HJ.out;go_quiet (first|(go_at_call 179;exact Calls.quiet_of_same (HNU.out _))|(go_at_call 145;exact Calls.quiet_of_same (HTX.out _))|(go_at_call 142;exact Calls.quiet_of_same (HEX.out _)));go_wp2_with fail;refine YX (P:=fun V=>Code.wp _ _ _ _ V) (w1:=w2) (by repeat (first|exact Below.refl _ _|refine Ya ?_|refine Z7 ?_)) (fun w9 hb2=>?_);have HF2:=h_ (show FrB R B 53 w w9 from Fr.of_below (HB.out.trans (hb2.mono HB.out.size)) _);have HW2:=h_ (HW1.out.below hb2);have HRD2:=h_ (fun (W:World) (h:FrB R B 53 w9 W)=>HRD.out W (FrB.trans (show FrB R B 53 w2 w9 from Fr.of_below hb2 _) h));clear hb2 d3 d4 HRD HB hj1;go_loopg [9,51] (xs.length+1) (fun f _ i wr=>∃m:Nat,m<=xs.length/\i=.int .i64 m/\xs.length-m<f/\Hid (YB w0 wr R B us fs (l++Z5 k.sec ((xs.take m).map fun x=>(k.name,x))))/\Hid (FrB R B 53 w9 wr))
 case atStart=>exact ⟨0,o_,rfl,o_,n20_,FrB.refl _ _ _ _⟩
 case round=>
  obtain ⟨m,hm,rfl,hf,HWR,HFR⟩:=hrel;have HRW:=h_ (fun (W:World) (h:Below wr.heap.size wr W)=>HRD2.out W (FrB.trans HFR.out (show FrB R B 53 wr W from Fr.of_below h _)));obtain ⟨-,d3,d4⟩:=HRW.out wr b_;by_cases hlt2:m<xs.length
  ·obtain ⟨x,hx⟩:=e_ (xs[m])
   have HSN:=h_ (show l++Z5 k.sec ((xs.take (m+1)).map fun x=>(k.name,x))=(l++Z5 k.sec ((xs.take m).map fun x=>(k.name,x)))++[JZ k.sec k.name (x)] by
    rw [List.take_succ_eq_append_getElem hlt2,List.map_append,<-hx];simp [Z5])
   have HVX:=h_ (HV.out x n25_);have HLM:=h_ (show (l++Z5 k.sec ((xs.take m).map fun x=>(k.name,x))).length<=100000000 by
    have:=HL.out;rw [List.length_append,Z5,List.length_map,List.length_map,List.length_take];omega)
   have hm2:(m:Int)<(xs.length:Int):=o_;have hmb:m<=100000000:=n88_;obtain ⟨b,o,e1,d5⟩:=Zu.below HROW.out HWR.out.base  m hlt2;subst e1;rw [<-hx] at d5;clear hx;generalize l++Z5 k.sec ((xs.take m).map fun x=>(k.name,x))=lm at HWR HSN HLM;go_wp2_with fail;refine (QW R B us fs lm k.sec k.name (x) w0 wr (HWR.out.below b_) HM.out HLM.out HVX.out).mono ?_;rintro e w5 ⟨rfl,hw5,hf5⟩;have HW5:=h_ hw5;have HF5:=h_ (show FrB R B 53 w9 w5 from FrB.trans (FrB.trans HFR.out (show FrB R B 53 wr wr from Fr.of_below b_ _)) hf5);exact m112_
  ·obtain rfl:m=xs.length:=o_
   rw [List.take_of_length_le l_] at HWR;have hm2:¬((xs.length:Int)<(xs.length:Int)):=o_;go_wp2_with fail;exact m113_
theorem Zl9(R B j:Nat)(us fs:Array Value)(l:List Ln)(k:ZC)(kv:ZM)(oa:Option Addr)(cap:Nat)(cr:List ZbV)(xs:List JB)(w0 w:World)(hW:YB w0 w R B us fs l)(hM:Zt w0)(hP:Pow w0)(hK:YJ w kv k)(hkw:k.words.length<=1000)(hl:l.length+xs.length<=100000000)
  (hj:us[j]?=some (.slice oa xs.length cap)) (hrow:Zav w0 oa cr xs) (hv:∀x∈xs,(J9 x).length<=1000000000) (hwl:∀x∈xs,∀y∈x.2,y.length<137438953472)
  (hNumbers:∀W,Calls prog 179 #[.pointer (some ⟨R,0,none⟩),.string ⟨k.name.toArray⟩] W fun e w'=>e=.returned (.pointer (none))/\w'=W)
  (hTexts:∀W,Calls prog 145 #[.pointer (some ⟨R,0,none⟩),.string ⟨k.name.toArray⟩] W fun e w'=>e=.returned (.pointer (none))/\w'=W)
  (hExecs:∀W,Calls prog 142 #[.pointer (some ⟨R,0,none⟩),.string ⟨k.name.toArray⟩] W fun e w'=>e=.returned (.pointer (some ⟨R,j,none⟩))/\w'=W)
  : Calls prog 95 #[.pointer (some ⟨R,0,none⟩),.agg (Zp kv).toArray] w fun e w'=>Xd w0 w R B us fs (l++Z5 k.sec (xs.map fun x=>(k.name,J9 x))) e w':=by
 have hsec:=hK.sec;have hname:=hK.name;have HKV:=h_ hK;obtain ⟨ks,kn,kf,kl,kk,wa,wn,wc⟩:=kv;simp only at hsec hname;subst hsec;subst hname;have hlt:R<w.heap.size:=n8_;have hB:=(Below.refl w.heap.size w).alloc l_ (.cells #[.string ⟨k.sec.toArray⟩,.string ⟨k.name.toArray⟩,.int .i64 kf,.bool kl,.int .i64 kk,.slice wa wn wc] 82);have HB:=h_ hB;have HW1:=h_ (hW.below hB);have HK1:=h_ (heap_alloc_new w (.cells #[.string ⟨k.sec.toArray⟩,.string ⟨k.name.toArray⟩,.int .i64 kf,.bool kl,.int .i64 kk,.slice wa wn wc] 82));have HNU:=h_ hNumbers;have HTX:=h_ hTexts;have HEX:=h_ hExecs;have HM:=h_ hM;have HP:=h_ hP;have HL:=h_ hl;have HV:=h_ hv;have HJ:=h_ hj;have HKW:=h_ hkw;have HROW:=h_ hrow;have HWL:=h_ hwl;clear hwl;unfold Zp Xd;simp only;clear hB hW hM hP hK hl hv hj hkw hNumbers hTexts hExecs hrow;have HNR:=h_ (show w.heap.size≠R by omega);have HRD:=h_ (fun (W:World) (h:FrB R B 53 (w.alloc (.cells #[.string ⟨k.sec.toArray⟩,.string ⟨k.name.toArray⟩,.int .i64 kf,.bool kl,.int .i64 kk,.slice wa wn wc] 82)) W)=>show W.heap[w.heap.size]?=some (.cells #[.string ⟨k.sec.toArray⟩,.string ⟨k.name.toArray⟩,.int .i64 kf,.bool kl,.int .i64 kk,.slice wa wn wc] 82 (0,0))/\W.cell? ⟨w.heap.size,0,none⟩=some (.string ⟨k.sec.toArray⟩)/\W.cell? ⟨w.heap.size,1,none⟩=some (.string ⟨k.name.toArray⟩) from
  ⟨FrB.heap h HK1.out HNR.out d_,(rd (FrB.heap h HK1.out HNR.out d_)).1 0,(rd (FrB.heap h HK1.out HNR.out d_)).1 1⟩)
 go_enter func95,ntmps95;go_wp2_with fail;generalize w.alloc (.cells #[.string ⟨k.sec.toArray⟩,.string ⟨k.name.toArray⟩,.int .i64 kf,.bool kl,.int .i64 kk,.slice wa wn wc] 82)=w1 at HB HW1 HK1 HRD⊢;clear HK1;obtain ⟨-,d3,d4⟩:=HRD.out w1 (FrB.refl _ _ _ _);go_quiet (first|(go_at_call 179;exact Calls.quiet_of_same (HNU.out _))|(go_at_call 145;exact Calls.quiet_of_same (HTX.out _))|(go_at_call 142;exact Calls.quiet_of_same (HEX.out _)));go_wp2_with fail;refine YX (P:=fun V=>Code.wp _ _ _ _ V) (w1:=w1) (by repeat (first|exact Below.refl _ _|refine Ya ?_|refine Z7 ?_)) (fun w2 hb2=>?_);replace HRD:=h_ (fun (W:World) (h:FrB R B 53 w2 W)=>HRD.out W (FrB.trans (show FrB R B 53 w1 w2 from Fr.of_below hb2 _) h));replace HB:=h_ (HB.out.trans (hb2.mono HB.out.size));replace HW1:=h_ (HW1.out.below hb2);clear hb2 d3 d4;obtain ⟨-,d3,d4⟩:=HRD.out w2 (FrB.refl _ _ _ _);go_quiet (first|(go_at_call 179;exact Calls.quiet_of_same (HNU.out _))|(go_at_call 145;exact Calls.quiet_of_same (HTX.out _))|(go_at_call 142;exact Calls.quiet_of_same (HEX.out _)));go_wp2_with fail;refine YX (P:=fun V=>Code.wp _ _ _ _ V) (w1:=w2) (by repeat (first|exact Below.refl _ _|refine Ya ?_|refine Z7 ?_)) (fun w3 hb2=>?_);replace HRD:=h_ (fun (W:World) (h:FrB R B 53 w3 W)=>HRD.out W (FrB.trans (show FrB R B 53 w2 w3 from Fr.of_below hb2 _) h));replace HB:=h_ (HB.out.trans (hb2.mono HB.out.size));replace HW1:=h_ (HW1.out.below hb2);clear hb2 d3 d4;obtain ⟨-,d3,d4⟩:=HRD.out w3 (FrB.refl _ _ _ _);have hj1:=HW1.out.rdU HJ.out;go_quiet (first|(go_at_call 179;exact Calls.quiet_of_same (HNU.out _))|(go_at_call 145;exact Calls.quiet_of_same (HTX.out _))|(go_at_call 142;exact Calls.quiet_of_same (HEX.out _)));go_wp2_with fail;refine YX (P:=fun V=>Code.wp _ _ _ _ V) (w1:=w3) (by repeat (first|exact Below.refl _ _|refine Ya ?_|refine Z7 ?_)) (fun w9 hb2=>?_);have HF2:=h_ (show FrB R B 53 w w9 from Fr.of_below (HB.out.trans (hb2.mono HB.out.size)) _);have HW2:=h_ (HW1.out.below hb2);have HRD2:=h_ (fun (W:World) (h:FrB R B 53 w9 W)=>HRD.out W (FrB.trans (show FrB R B 53 w3 w9 from Fr.of_below hb2 _) h));clear hb2 d3 d4 HRD HB hj1;go_loopg [12,75] (xs.length+1) (fun f _ i wr=>∃m:Nat,m<=xs.length/\i=.int .i64 m/\xs.length-m<f/\Hid (YB w0 wr R B us fs (l++Z5 k.sec ((xs.take m).map fun x=>(k.name,J9 x))))/\Hid (FrB R B 53 w9 wr))
 case atStart=>exact ⟨0,o_,rfl,o_,n20_,FrB.refl _ _ _ _⟩
 case round=>
  obtain ⟨m,hm,rfl,hf,HWR,HFR⟩:=hrel;have HRW:=h_ (fun (W:World) (h:Below wr.heap.size wr W)=>HRD2.out W (FrB.trans HFR.out (show FrB R B 53 wr W from Fr.of_below h _)));obtain ⟨-,d3,d4⟩:=HRW.out wr b_;by_cases hlt2:m<xs.length
  ·obtain ⟨x,hx⟩:=e_ (xs[m])
   have HSN:=h_ (show l++Z5 k.sec ((xs.take (m+1)).map fun x=>(k.name,J9 x))=(l++Z5 k.sec ((xs.take m).map fun x=>(k.name,J9 x)))++[JZ k.sec k.name (J9 x)] by
    rw [List.take_succ_eq_append_getElem hlt2,List.map_append,<-hx];simp [Z5])
   have HVX:=h_ (HV.out x n25_);have HLM:=h_ (show (l++Z5 k.sec ((xs.take m).map fun x=>(k.name,J9 x))).length<=100000000 by
    have:=HL.out;rw [List.length_append,Z5,List.length_map,List.length_map,List.length_take];omega)
   have hm2:(m:Int)<(xs.length:Int):=o_;have hmb:m<=100000000:=n88_;have hcr:=ZpX HWR.out.base HROW.out;have hml:m<cr.length:=by rw [hcr.len];exact hlt2
   obtain ⟨b,o,e1,_,hc⟩:=hcr.row m hml;have hse:=hcr.see m hml hlt2;rw [<-hx] at hse;obtain ⟨xv,hxv⟩:=e_ (cr[m]);rw [<-hxv] at hc hse;obtain ⟨xd,xa,xn,xc⟩:=xv;obtain ⟨hd,hn,hr,hfew⟩:=hse;simp only at hd hn;have d5:=hc 0 (.bool xd) rfl;have d6:=hc 1 (.slice xa xn xc) rfl;rw [Nat.add_zero] at d5;subst e1;have HD:=h_ hd;have HNN:=h_ hn;have HRR:=h_ hr;have HFW:=h_ hfew;have HWX:=h_ (HWL.out x n25_);clear hx hcr hml hc hxv hd hn hr hfew;generalize l++Z5 k.sec ((xs.take m).map fun x=>(k.name,J9 x))=lm at HWR HSN HLM;have hda:=fun W=>Zla xd (.slice xa xn xc) rfl xa xn xc rfl W
   have hre:=fun W=>Zlq xd W
   have hct:=Zm0 xd x HD.out;have hcl:=Zqe xd x HD.out HVX.out;generalize (if xd=true then (1:Int) else 0)=dv at hda hre;generalize (if xd=true then [45] else []:Str)=ds at hre hct hcl;have HDA:=h_ hda;have HRE:=h_ hre;have HCT:=h_ hct;have HCL:=h_ hcl;clear hda hre hct hcl;go_wp2_with fail;have HBE:=h_ ((Below.refl wr.heap.size wr).alloc l_ (.cells #[.bool xd,.slice xa xn xc] 49));have HE:=h_ (heap_alloc_new wr (.cells #[.bool xd,.slice xa xn xc] 49));generalize wr.alloc (.cells #[.bool xd,.slice xa xn xc] 49)=we at HBE HE⊢;refine Zh (S:=fun V=>Below we.heap.size we V) 12 k_ k_ (Zd ⟨1,rfl⟩) (fun hHeld=>?_);refine u_ ?_;refine dT_ (i:=0) (v:=.pointer (some ⟨R,0,none⟩)) (gT_ rfl) (fun W hW=>by clear hW;go_simp) (u_ ?_);refine dT_ (i:=1) (v:=.pointer (some ⟨w.heap.size,0,none⟩)) (gT_ rfl) (fun W hW=>by clear hW;go_simp) (u_ ?_);refine dT_ (i:=2) (v:=.string ⟨k.sec.toArray⟩) (gT_ rfl) (fun W hW=>by obtain ⟨-,q3,q4⟩:=HRW.out W (HBE.out.trans (hW.mono HBE.out.size));have q5:=(rd (Za HE.out hW)).1 0;have q6:=(rd (Za HE.out hW)).1 1;simp at q5 q6;clear hW;go_simp) (u_ ?_);refine dT_ (i:=3) (v:=.pointer (some ⟨w.heap.size,1,none⟩)) (gT_ rfl) (fun W hW=>by clear hW;go_simp) (u_ ?_);refine dT_ (i:=4) (v:=.string ⟨k.name.toArray⟩) (gT_ rfl) (fun W hW=>by obtain ⟨-,q3,q4⟩:=HRW.out W (HBE.out.trans (hW.mono HBE.out.size));have q5:=(rd (Za HE.out hW)).1 0;have q6:=(rd (Za HE.out hW)).1 1;simp at q5 q6;clear hW;go_simp) (u_ ?_);refine dT_ (i:=5) (v:=.agg #[.bool xd,.slice xa xn xc]) (gT_ rfl) (fun W hW=>by obtain ⟨-,q3,q4⟩:=HRW.out W (HBE.out.trans (hW.mono HBE.out.size));have q5:=(rd (Za HE.out hW)).1 0;have q6:=(rd (Za HE.out hW)).1 1;simp at q5 q6;clear hW;go_simp) (u_ ?_);refine dT_ (i:=8) (v:=.pointer (some ⟨wr.heap.size,1,none⟩)) (gT_ rfl) (fun W hW=>by clear hW;go_simp) (u_ ?_);refine dT_ (i:=9) (v:=.slice xa xn xc) (gT_ rfl) (fun W hW=>by obtain ⟨-,q3,q4⟩:=HRW.out W (HBE.out.trans (hW.mono HBE.out.size));have q5:=(rd (Za HE.out hW)).1 0;have q6:=(rd (Za HE.out hW)).1 1;simp at q5 q6;clear hW;go_simp) (u_ ?_);refine Zn (i:=6) (gT_ rfl) k_ k_ (fun K hK=>?_);clear hHeld;rw [if_pos n13_];go_simp;have HB3:=h_ (show Below we.heap.size we we.drew from Zd ⟨1,rfl⟩);refine (HDA.out we.drew).mono ?_;rintro e w4 ⟨rfl,hb4⟩;have HB4:=h_ (show Below we.heap.size we w4 from HB3.out.trans hb4);clear hb4;refine hK.out _ _ HB4.out (fun hHeld=>?_);clear hK K;refine u_ ?_;refine Zn (i:=7) (gT_ rfl) k_ k_ (fun K hK=>?_);clear hHeld;rw [if_pos n13_];go_simp;refine (HRE.out w4).mono ?_;rintro e w6 ⟨rfl,hb6⟩;have HB6:=h_ (show Below we.heap.size we w6 from HB4.out.trans (hb6.mono HB4.out.size));clear hb6;refine hK.out _ _ HB6.out (fun hHeld=>?_);clear hK K;refine u_ ?_;refine Zn (i:=10) (gT_ rfl) k_ k_ (fun K hK=>?_);clear hHeld;rw [if_pos n13_];go_simp;have hj:=Zkp xa xc x.2 w6 (HRR.out.below (HBE.out.trans (HB6.out.mono HBE.out.size))) HFW.out HWX.out;rw [<-HNN.out] at hj;refine hj.mono ?_;rintro e w7 ⟨rfl,hb7⟩;have HB7:=h_ (show Below we.heap.size we w7 from HB6.out.trans (hb7.mono HB6.out.size));clear hb7 hj;refine hK.out _ _ HB7.out (fun hHeld=>?_);clear hK K;refine u_ ?_;refine dT_ (i:=11) (v:=.string ⟨(J9 x).toArray⟩) (gT_ rfl) (fun W hW=>by clear hW;rw [<-HCT.out];go_simp;exact HCL.out) (u_ ?_);refine Zv k_ ?_;clear hHeld;go_wp2_with fail;refine (QW R B us fs lm k.sec k.name (J9 x) w0 w7 (HWR.out.below (HBE.out.trans (HB7.out.mono HBE.out.size))) HM.out HLM.out HVX.out).mono ?_;rintro e w5 ⟨rfl,hw5,hf5⟩;have HW5:=h_ hw5;have HF5:=h_ (show FrB R B 53 w9 w5 from FrB.trans (FrB.trans HFR.out (show FrB R B 53 wr w7 from Fr.of_below (HBE.out.trans (HB7.out.mono HBE.out.size)) _)) hf5);exact m112_
  ·obtain rfl:m=xs.length:=o_
   rw [List.take_of_length_le l_] at HWR;have hm2:¬((xs.length:Int)<(xs.length:Int)):=o_;exact m111_
end Go.Proofs.YtmgmbeipbeknaaaGreatDoor
