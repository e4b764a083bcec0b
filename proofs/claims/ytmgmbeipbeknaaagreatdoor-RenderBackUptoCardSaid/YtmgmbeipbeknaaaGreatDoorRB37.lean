import Derived.Shelf.Abstract
import Derived.Deep.LoopGhost
import Derived.Lib.SmallJoins
import Derived.Test.YtmgmbeipbeknaaaGreatDoorRB5
import Derived.Test.YtmgmbeipbeknaaaGreatDoorRB25
namespace Go.Proofs.YtmgmbeipbeknaaaGreatDoor
open Go.Proofs.Tryz
open Go Go.RowKit
set_option linter.all false
set_option maxHeartbeats 16000000
set_option maxRecDepth 100000
theorem Zoy(c:UInt8):((⟨#[92,120]⟩:ByteArray)++(⟨Zd8.toArray⟩:ByteArray).extract (c.toNat / 16) (c.toNat / 16+1)++(⟨Zd8.toArray⟩:ByteArray).extract (c.toNat % 16) (c.toNat % 16+1))=⟨(92::120::YG c).toArray⟩:=by
 apply Yu
 have:=JR (p:=fun c=>decide (((⟨#[92,120]⟩:ByteArray)++(⟨Zd8.toArray⟩:ByteArray).extract (c.toNat / 16) (c.toNat / 16+1)++(⟨Zd8.toArray⟩:ByteArray).extract (c.toNat % 16) (c.toNat % 16+1)).data.toList=(92::120::YG c))) n1_ c
 exact of_decide_eq_true this
theorem ZmW(c:UInt8)(w:World) :
  Calls prog 235 #[.int .u8 c.toNat] w fun e w'=>e=.returned (.string ⟨(92::120::YG c).toArray⟩)/\∃n,w'=w.drewN n:=by
 have hc:=UInt8.toNat_lt c;have h1:((c.toNat:Int) / 16+1) % 256=(c.toNat:Int) / 16+1:=o_;have h2:0<=(c.toNat:Int) / 16:=o_;have h3:(c.toNat:Int) / 16+1<=16:=o_;have h4:0<=(c.toNat:Int) / 16+1:=o_;have h5:(c.toNat:Int) / 16<=(c.toNat:Int) / 16+1:=o_;go_enter func235,ntmps235;go_wp2;go_quiet (fail);go_wp2;go_ret;refine ⟨Zbg (congrArg Value.string (Zoy c)),_,rfl⟩
theorem m106_{p:Prop}(h:p:=by
  have HQ:=h_ (show ZI s[k]=92::120::YG s[k] by
   unfold ZI;rw [hN];simp [UInt8.le_iff_toNat_le,UInt8.lt_iff_toNat_lt];omega)
  clear hN;have hh:(⟨(92::120::YG s[k]).toArray⟩:ByteArray).size=4:=rfl;have hws:(34::(s.data.toList.take k).flatMap ZI).length+(⟨(92::120::YG s[k]).toArray⟩:ByteArray).size<1099511627776:=o_;clear hh;go_wp2_with (go_at_call 235;refine (ZmW s[k] _).mono ?_;rintro e w3 ⟨rfl,n,rfl⟩);go_wp2_with fail;refine (Bld.writeString (by exact hb.drewN _) ⟨(92::120::YG s[k]).toArray⟩ hws).mono ?_;rintro e w4 ⟨rfl,hb4,hf4'⟩;have hf4:=(FrB.drewN (FrB.refl R (R+1) _ wr) n).trans hf4';go_wp2_with fail;go_roundg (s.size-k)
  case measure=>omega
  case rel=>
   refine ⟨k+1,o_,n9_,o_,?_,?_⟩
   ·rw [HS.out,HQ.out];exact hb4
   ·exact HB.out.trans (hf4.below R o_ o_ o_)):p:=h
theorem m107_{p:Prop}(h:p:=by go_wp2_with (go_at_call 127;refine (hb.writeByte 92 o_).mono ?_);rintro e w3 ⟨rfl,hb3,hf3⟩;go_wp2_with (go_at_call 127;refine (hb3.writeByte s[k] (by rw [c5_];simp only [c14_,List.length_nil] at hlen'⊢;omega)).mono ?_);rintro e w4 ⟨rfl,hb4,hf4'⟩;have hf4:=hf3.trans hf4';exact m109_):p:=h
theorem m108_{p:Prop}(h:p:=by go_enter func234,ntmps234;go_wp2;go_ret;exact ⟨ZB HP.out.symm,rfl⟩):p:=h
theorem m109_{p:Prop}(h:p:=by
  go_wp2_with fail;go_roundg (s.size-k)
  case measure=>omega
  case rel=>
   refine ⟨k+1,o_,n9_,o_,?_,?_⟩
   ·rw [HS.out,HQ.out];first|exact hb4|(rw [<-List.append_assoc];exact hb4)
   ·exact HB.out.trans (hf4.below R o_ o_ o_)):p:=h
theorem m110_{p:Prop}(h:p:=by have HP:=h_ (HE.out.trans <| show decide ((32:Int)<n/\n<127/\n≠39/\n≠34/\n≠92)=false by simp;omega);exact m108_):p:=h
def Jv(c:UInt8):Bool:=32<c&&c<127&&c !=39&&c !=34&&c !=92
theorem ZiI(c:UInt8):Jv c=decide ((32:Int)<c.toNat/\(c.toNat:Int)<127/\(c.toNat:Int)≠39/\(c.toNat:Int)≠34/\(c.toNat:Int)≠92):=by
 rw [Bool.eq_iff_iff];simp [Jv,<-UInt8.toNat_inj,UInt8.lt_iff_toNat_lt];omega
theorem ZnB(c:UInt8)(w:World) :
  Calls prog 234 #[.int .u8 c.toNat] w fun e w'=>e=.returned (.bool (Jv c))/\w=w':=by
 have HE:=h_ (ZiI c);generalize Jv c=v at HE⊢;generalize (c.toNat:Int)=n at HE⊢;by_cases h1:(32:Int)<n
 ·by_cases h2:n<127
  ·cases h3:(n==39) with
   |true=>
    have h3':=Zap h3;have HP:=h_ (HE.out.trans <| show decide ((32:Int)<n/\n<127/\n≠39/\n≠34/\n≠92)=false by simp at h3;subst h3;rfl);exact m108_
   |false=>
    have h3':=Zap h3;cases h4:(n==34) with
    |true=>
     have h4':=Zap h4;have HP:=h_ (HE.out.trans <| show decide ((32:Int)<n/\n<127/\n≠39/\n≠34/\n≠92)=false by simp at h4;subst h4;rfl);exact m108_
    |false=>
     have h4':=Zap h4;have HP:=h_ (HE.out.trans <| show decide ((32:Int)<n/\n<127/\n≠39/\n≠34/\n≠92)=(n !=92) by
      rw [Bool.eq_iff_iff];simp at h3 h4⊢;omega)
     exact m108_
  ·exact m110_
 ·exact m110_
theorem Zji(w:Str):XP w=(match w with|[]=>false|c::_=>c !=45&&w.all Jv):=by
 cases w<;>rfl
theorem Zhe(s:ByteArray)(w:World)(h63:s.size<=9223372036854775807) :
  Calls prog 176 #[.string s] w fun e w'=>e=.returned (.bool (XP s.data.toList))/\w=w':=by
 have HC:=@ZpL s 234 #[] #[] Jv w h63 (enters_of func234 k_ rfl) (fun c=>ZnB c w);by_cases h0:s.size=0
 ·have:=QH h0
  subst this;clear h0 HC;go_enter func176,ntmps176;go_wp2;go_ret;exact ⟨rfl,rfl⟩
 ·obtain ⟨n1,n2,n3,n4⟩:=Xo h0
  have hl:s.data.toList=s[0]::s.data.toList.drop 1:=drop_cons s 0 n3;have HB:=h_ (show XP s.data.toList=(s[0]!=45&&s.data.toList.all Jv) by rw [Zji,hl]);clear hl;have HCC:=h_ HC;clear HC;cases h45:((s[0].toNat:Int)==45) with
  |true=>
   have h45':=Zap h45;have HR:=h_ (show XP s.data.toList=false by rw [HB.out,bne,Xn,show ((45:UInt8).toNat:Int)=45 from rfl,h45];rfl);go_enter func176,ntmps176;go_wp2;go_ret;exact ⟨ZB HR.out.symm,rfl⟩
  |false=>
   have h45':=Zap h45;have HR:=h_ (show XP s.data.toList=s.data.toList.all Jv by rw [HB.out,bne,Xn,show ((45:UInt8).toNat:Int)=45 from rfl,h45];rfl);go_enter func176,ntmps176;go_wp2_with (go_at_call 151;refine HCC.out.mono ?_;rintro e w' ⟨rfl,rfl⟩;rw [<-HR.out]);go_ret;exact ⟨rfl,rfl⟩
theorem ZiY(c:UInt8):(ZI c).length<=4:=by
 unfold ZI YG;split
 ·simp
 ·split<;>simp
theorem Zc8(l:Str):(l.flatMap ZI).length<=4*l.length:=by
 induction l with
 |nil=>simp
 |cons a l ih=>have:=ZiY a;simp only [List.flatMap_cons,c5_,c14_];omega
theorem ZqW(s:ByteArray)(w:World)(hs:s.size<137438953472) :
  Calls prog 177 #[.string s] w fun e w'=>e=.returned (.string ⟨(Qt s.data.toList).toArray⟩)/\Below w.heap.size w w':=by
 have hb0:=Bld.new w;have hB0:Below w.heap.size w (w.alloc (.cells #[.pointer none,.slice none 0 0] 127)):=b_.alloc l_ _;go_enter func177,ntmps177;go_wp2_with fail;generalize w.alloc (.cells #[.pointer none,.slice none 0 0] 127)=w1 at hb0 hB0⊢;generalize hRn:w.heap.size=R at *;have HRn:=h_ hRn;clear hRn;refine (hb0.writeByte 34 s_).mono ?_;rintro e w2 ⟨rfl,hb2,hf2⟩;have hB2:Below R w w2:=hB0.trans (hf2.below R o_ o_ (by have:=hb0.lt;omega));clear hb0 hB0 hf2;go_wp2_with fail;go_loopg [9] (s.size+1) (fun f i wr=>∃k:Nat,k<=s.size/\i=.int .i64 k/\s.size-k<f/\Bld R (R+1) (34::(s.data.toList.take k).flatMap ZI) wr/\Below R w wr)
 case atStart=>exact ⟨0,o_,rfl,o_,hb2,hB2⟩
 case round=>
  obtain ⟨k,hk,rfl,hfu,hb,hB⟩:=hrel;have hlen:=Zc8 (s.data.toList.take k);have htk:(s.data.toList.take k).length<=k:=List.length_take_le _ _;have hlen':(34::(s.data.toList.take k).flatMap ZI).length<=4*k+1:=by simp only [c14_];omega
  have hRl:=hb.lt;have HB:=h_ hB;clear hB hlen htk;by_cases hlt:k<s.size
  ·have hsn:=Ji s.data.toList k n31_
   have hgk:s.data.toList[k]' n31_=s[k]:=rfl;rw [hgk] at hsn;have HS:=h_ (show 34::(s.data.toList.take (k+1)).flatMap ZI=(34::(s.data.toList.take k).flatMap ZI)++ZI s[k] by rw [hsn];simp);clear hsn hgk;cases h34:((s[k].toNat:Int)==34) with
   |true=>
    have HQ:=h_ (show ZI s[k]=[92]++[s[k]] by unfold ZI;rw [Xn,show ((34:UInt8).toNat:Int)=34 from rfl,h34];rfl);exact m107_
   |false=>
    cases h92:((s[k].toNat:Int)==92) with
    |true=>
     have HQ:=h_ (show ZI s[k]=[92]++[s[k]] by unfold ZI;rw [Xn,Xn,show ((34:UInt8).toNat:Int)=34 from rfl,show ((92:UInt8).toNat:Int)=92 from rfl,h34,h92];rfl);exact m107_
    |false=>
     have hN:(s[k]==34||s[k]==92)=false:=by rw [Xn,Xn,show ((34:UInt8).toNat:Int)=34 from rfl,show ((92:UInt8).toNat:Int)=92 from rfl,h34,h92];rfl
     by_cases h32:(32:Int)<=s[k].toNat
     ·by_cases h127:(s[k].toNat:Int)<127
      ·have HQ:=h_ (show ZI s[k]=[s[k]] by
        unfold ZI;rw [hN];simp [UInt8.le_iff_toNat_le,UInt8.lt_iff_toNat_lt];omega)
       clear hN;go_wp2_with (go_at_call 127;refine (hb.writeByte s[k] o_).mono ?_);rintro e w4 ⟨rfl,hb4,hf4⟩;exact m109_
      ·exact m106_
     ·exact m106_
  ·have:k=s.size:=o_
   subst this;have HE:=h_ (show Qt s.data.toList=(34::(s.data.toList.take s.size).flatMap ZI)++[34] by
    rw [c9_ s_];rfl)
   go_wp2_with (go_at_call 127;refine (hb.writeByte 34 o_).mono ?_);rintro e w3 ⟨rfl,hb3,hf3⟩;go_wp2_with (go_at_call 100;refine hb3.string.mono ?_;rintro e w4 ⟨rfl,hb4,hf4⟩);go_ret;refine ⟨n69_,?_⟩;rw [HRn.out];exact HB.out.trans ((hf3.trans hf4).below R o_ o_ o_)
theorem hexDigits(c:UInt8):((⟨Zd8.toArray⟩:ByteArray).extract (c.toNat / 16) (c.toNat / 16+1)++(⟨Zd8.toArray⟩:ByteArray).extract (c.toNat % 16) (c.toNat % 16+1))=⟨(YG c).toArray⟩:=by
 apply Yu
 have:=JR (p:=fun c=>decide (((⟨Zd8.toArray⟩:ByteArray).extract (c.toNat / 16) (c.toNat / 16+1)++(⟨Zd8.toArray⟩:ByteArray).extract (c.toNat % 16) (c.toNat % 16+1)).data.toList=YG c)) n1_ c
 exact of_decide_eq_true this
theorem Zf8(c:UInt8)(w:World) :
  Calls prog 243 #[.int .u8 c.toNat] w fun e w'=>e=.returned (.string ⟨(YG c).toArray⟩)/\∃n,w'=w.drewN n:=by
 have hc:=UInt8.toNat_lt c;have h1:((c.toNat:Int) / 16+1) % 256=(c.toNat:Int) / 16+1:=o_;have h2:0<=(c.toNat:Int) / 16:=o_;have h3:(c.toNat:Int) / 16+1<=16:=o_;have h4:0<=(c.toNat:Int) / 16+1:=o_;have h5:(c.toNat:Int) / 16<=(c.toNat:Int) / 16+1:=o_;have g1:((c.toNat:Int) % 16+1) % 256=(c.toNat:Int) % 16+1:=o_;have g2:0<=(c.toNat:Int) % 16:=o_;have g3:(c.toNat:Int) % 16+1<=16:=o_;have g4:0<=(c.toNat:Int) % 16+1:=o_;have g5:(c.toNat:Int) % 16<=(c.toNat:Int) % 16+1:=o_;go_enter func243,ntmps243;go_wp2;go_quiet (fail);go_wp2;go_ret;exact ⟨Zbg (congrArg Value.string (hexDigits c)),_,rfl⟩
end Go.Proofs.YtmgmbeipbeknaaaGreatDoor
