import Derived.Deep.LoopGhost
import Derived.Lib.SmallJoins
import Derived.Test.YtmgmbeipbeknaaaGreatDoorRB35
import Derived.Test.YtmgmbeipbeknaaaGreatDoorRB37
import Derived.Test.YtmgmbeipbeknaaaGreatDoorRB41
import Derived.Test.YtmgmbeipbeknaaaGreatDoorRB43
namespace Go.Proofs.YtmgmbeipbeknaaaGreatDoor
open Go.Proofs.Tryz
open Go Go.RowKit
set_option linter.all false
set_option maxHeartbeats 16000000
set_option maxRecDepth 100000
theorem m130_{p:Prop}(h:p:=by
  have HR:=h_ (show r=true by
   have h1:=Hq.out;rw [c9_ o_,c9_ n40_] at h1;rw [<-HRS.out,h1];simp)
  go_wp2_with fail;go_ret;exact ⟨n14_,dn _ _⟩):p:=h
theorem m131_{p:Prop}(h:p:=by clear hb hx hy;go_wp2_with fail;go_quiet (fail);go_wp2_with fail;exact m134_):p:=h
theorem m132_{p:Prop}(h:p:=by clear hb hx hy;go_wp2_with fail;go_quiet (fail);go_wp2_with fail;go_ret;exact ⟨n14_,n19_⟩):p:=h
theorem m133_{p:Prop}(h:p:=by go_wp2_with fail;go_ret;exact ⟨n14_,dn0 _⟩):p:=h
theorem m134_{p:Prop}(h:p:=by
  go_roundg (l.length-k)
  case measure=>omega
  case rel=>exact ⟨k+1,o_,n9_,o_,HT,n19_⟩):p:=h
theorem ZaT(oa ob:Option Addr)(ca cb:Nat)(l m:List (Int))(w:World)(hl:Y8 w oa l)(hm:Y8 w ob m)(hll:l.length<=9223372036854775807)(hml:m.length<=9223372036854775807)(r:Bool)(hr:decide (l=m)=r) :
  Calls prog 35 #[.slice oa l.length ca,.slice ob m.length cb] w fun e w'=>e=.returned (.bool r)/\∃n,w'=w.drewN n:=by
 have HRS:=h_ hr;clear hr;by_cases hlen:l.length=m.length
 ·have hne:((l.length:Int)!=(m.length:Int))=false:=by simp [hlen]
  have Hlen:=h_ hlen;clear hlen;have HL:=h_ hl;clear hl;have HM:=h_ hm;clear hm;go_enter func35,ntmps35;go_wp2_with fail;go_loopg [13] (l.length+1) (fun f i wr=>∃k:Nat,k<=l.length/\i=.int .i64 k/\l.length-k<f/\Hid (l.take k=m.take k)/\∃n,wr=w.drewN n)
  case atStart=>exact ⟨0,o_,rfl,o_,rfl,0,rfl⟩
  case round=>
   obtain ⟨k,hk,rfl,hfu,Hq,n,rfl⟩:=hrel;by_cases hlt:k<l.length
   ·have hlt2:k<m.length:=n40_
    have i5:(k:Int)<(l.length:Int):=o_;have i6:(k:Int)<(m.length:Int):=o_;obtain ⟨b1,o1,rfl,d0⟩:=HL.out k hlt;obtain ⟨b2,o2,rfl,e0⟩:=HM.out k hlt2;obtain ⟨x,hx⟩:=e_ (l[k]);obtain ⟨y,hy⟩:=e_ (m[k]);rw [<-hx] at d0;rw [<-hy] at e0;by_cases hb:x=y
    ·have HT:=h_ (show l.take (k+1)=m.take (k+1) by
      rw [c4_ hlt,c4_ hlt2,Hq.out,<-hx,<-hy,hb])
     have hq:(x !=y)=false:=by rw [hb];simp
     exact m131_
    ·have HR:=h_ (show r=false by
      rw [<-HRS.out];apply decide_eq_false;intro e;subst e;exact hb (hx.trans hy.symm))
     have hq:(x !=y)=true:=by rw [bne_iff_ne];exact hb
     exact m132_
   ·exact m130_
 ·have hne:((l.length:Int)!=(m.length:Int))=true:=n6_
  have HR:=h_ (show r=false by
   rw [<-HRS.out];apply decide_eq_false;intro e;exact hlen (by rw [e]))
  clear hlen;go_enter func35,ntmps35;exact m133_
theorem ZmV(oa ob:Option Addr)(ca cb:Nat)(l m:List (Str×Str))(w:World)(hl:ZG Qu 2 w oa l)(hm:ZG Qu 2 w ob m)(hll:l.length<=9223372036854775807)(hml:m.length<=9223372036854775807)(r:Bool)(hr:decide (l=m)=r) :
  Calls prog 33 #[.slice oa l.length ca,.slice ob m.length cb] w fun e w'=>e=.returned (.bool r)/\∃n,w'=w.drewN n:=by
 have HRS:=h_ hr;clear hr;by_cases hlen:l.length=m.length
 ·have hne:((l.length:Int)!=(m.length:Int))=false:=by simp [hlen]
  have Hlen:=h_ hlen;clear hlen;have HL:=h_ hl;clear hl;have HM:=h_ hm;clear hm;go_enter func33,ntmps33;go_wp2_with fail;go_loopg [13] (l.length+1) (fun f i wr=>∃k:Nat,k<=l.length/\i=.int .i64 k/\l.length-k<f/\Hid (l.take k=m.take k)/\∃n,wr=w.drewN n)
  case atStart=>exact ⟨0,o_,rfl,o_,rfl,0,rfl⟩
  case round=>
   obtain ⟨k,hk,rfl,hfu,Hq,n,rfl⟩:=hrel;by_cases hlt:k<l.length
   ·have hlt2:k<m.length:=n40_
    have i5:(k:Int)<(l.length:Int):=o_;have i6:(k:Int)<(m.length:Int):=o_;obtain ⟨x,hx⟩:=e_ (l[k]);obtain ⟨y,hy⟩:=e_ (m[k]);obtain ⟨b1,o1,rfl,-,hc1⟩:=HL.out k hlt;obtain ⟨b2,o2,rfl,-,hc2⟩:=HM.out k hlt2;rw [<-hx] at hc1;rw [<-hy] at hc2;have d0:=hc1 0 _ rfl;have d1:=hc1 1 _ rfl;have e0:=hc2 0 _ rfl;have e1:=hc2 1 _ rfl;simp only [Nat.add_zero] at d0 e0;clear hc1 hc2;by_cases hb:x=y
    ·have HT:=h_ (show l.take (k+1)=m.take (k+1) by
      rw [c4_ hlt,c4_ hlt2,Hq.out,<-hx,<-hy,hb])
     have hgd:=Zfv;have hrun:=Zg8 x y true (by rw [hb];simp);exact m131_
    ·have HR:=h_ (show r=false by
      rw [<-HRS.out];apply decide_eq_false;intro e;subst e;exact hb (hx.trans hy.symm))
     have hgd:=Zfv;have hrun:=Zg8 x y false (by exact decide_eq_false hb);exact m132_
   ·exact m130_
 ·have hne:((l.length:Int)!=(m.length:Int))=true:=n6_
  have HR:=h_ (show r=false by
   rw [<-HRS.out];apply decide_eq_false;intro e;exact hlen (by rw [e]))
  clear hlen;go_enter func33,ntmps33;exact m133_
theorem Zob(oa ob:Option Addr)(ca cb:Nat)(l m:List (Int×Str))(w:World)(hl:ZG JK 2 w oa l)(hm:ZG JK 2 w ob m)(hll:l.length<=9223372036854775807)(hml:m.length<=9223372036854775807)(r:Bool)(hr:decide (l=m)=r) :
  Calls prog 32 #[.slice oa l.length ca,.slice ob m.length cb] w fun e w'=>e=.returned (.bool r)/\∃n,w'=w.drewN n:=by
 have HRS:=h_ hr;clear hr;by_cases hlen:l.length=m.length
 ·have hne:((l.length:Int)!=(m.length:Int))=false:=by simp [hlen]
  have Hlen:=h_ hlen;clear hlen;have HL:=h_ hl;clear hl;have HM:=h_ hm;clear hm;go_enter func32,ntmps32;go_wp2_with fail;go_loopg [13] (l.length+1) (fun f i wr=>∃k:Nat,k<=l.length/\i=.int .i64 k/\l.length-k<f/\Hid (l.take k=m.take k)/\∃n,wr=w.drewN n)
  case atStart=>exact ⟨0,o_,rfl,o_,rfl,0,rfl⟩
  case round=>
   obtain ⟨k,hk,rfl,hfu,Hq,n,rfl⟩:=hrel;by_cases hlt:k<l.length
   ·have hlt2:k<m.length:=n40_
    have i5:(k:Int)<(l.length:Int):=o_;have i6:(k:Int)<(m.length:Int):=o_;obtain ⟨x,hx⟩:=e_ (l[k]);obtain ⟨y,hy⟩:=e_ (m[k]);obtain ⟨b1,o1,rfl,-,hc1⟩:=HL.out k hlt;obtain ⟨b2,o2,rfl,-,hc2⟩:=HM.out k hlt2;rw [<-hx] at hc1;rw [<-hy] at hc2;have d0:=hc1 0 _ rfl;have d1:=hc1 1 _ rfl;have e0:=hc2 0 _ rfl;have e1:=hc2 1 _ rfl;simp only [Nat.add_zero] at d0 e0;clear hc1 hc2;by_cases hb:x=y
    ·have HT:=h_ (show l.take (k+1)=m.take (k+1) by
      rw [c4_ hlt,c4_ hlt2,Hq.out,<-hx,<-hy,hb])
     have hgd:=ZcB;have hrun:=Zik x y true (by rw [hb];simp);exact m131_
    ·have HR:=h_ (show r=false by
      rw [<-HRS.out];apply decide_eq_false;intro e;subst e;exact hb (hx.trans hy.symm))
     have hgd:=ZcB;have hrun:=Zik x y false (by exact decide_eq_false hb);exact m132_
   ·exact m130_
 ·have hne:((l.length:Int)!=(m.length:Int))=true:=n6_
  have HR:=h_ (show r=false by
   rw [<-HRS.out];apply decide_eq_false;intro e;exact hlen (by rw [e]))
  clear hlen;go_enter func32,ntmps32;exact m133_
theorem Q6(oa ob:Option Addr)(ca cb:Nat)(l m:List Str)(w:World)(hl:Zp w oa l)(hm:Zp w ob m)(hll:l.length<=maxLen)(hml:m.length<=maxLen) :
  Calls prog 36 #[.slice oa l.length ca,.slice ob m.length cb] w fun e w'=>e=.returned (.bool (Zal l m))/\∃n,w'=w.drewN n:=by
 unfold maxLen at hll hml;by_cases hlen:l.length=m.length
 ·have hne:((l.length:Int)!=(m.length:Int))=false:=by simp [hlen]
  have Hlen:=h_ hlen;clear hlen;go_enter func36,ntmps36;have HL:=h_ hl;clear hl;have HM:=h_ hm;clear hm;go_wp2_with fail;go_loopg [13] (l.length+1) (fun f i wr=>∃k:Nat,k<=l.length/\i=.int .i64 k/\l.length-k<f/\Hid (l.take k=m.take k)/\∃n,wr=w.drewN n)
  case atStart=>exact ⟨0,o_,rfl,o_,rfl,0,rfl⟩
  case round=>
   obtain ⟨k,hk,rfl,hfu,Hq,n,rfl⟩:=hrel;by_cases hlt:k<l.length
   ·have hlt2:k<m.length:=n40_
    obtain ⟨b1,o1,rfl,hc1⟩:=HL.out k hlt;obtain ⟨b2,o2,rfl,hc2⟩:=HM.out k hlt2;cases hb:(l[k]==m[k]) with
    |true=>
     have HT:=h_ (show l.take (k+1)=m.take (k+1) by
      rw [c4_ hlt,c4_ hlt2,Hq.out,eq_of_beq hb])
     go_wp2_with fail;go_quiet (fail);go_wp2;exact m134_
    |false=>
     have HR:=h_ (show Zal l m=false by
      unfold Zal;rw [c11_];intro e;subst e;simp at hb)
     go_wp2_with fail;go_quiet (fail);go_wp2;go_ret;exact ⟨ZB HR.out.symm,n19_⟩
   ·have HR:=h_ (show Zal l m=true by
     have h1:=Hq.out;rw [c9_ o_,c9_ n40_] at h1;unfold Zal;rw [h1];simp)
    go_wp2;go_ret;exact ⟨ZB HR.out.symm,dn _ _⟩
 ·have hne:((l.length:Int)!=(m.length:Int))=true:=n6_
  have HR:=h_ (show Zal l m=false by
   unfold Zal;rw [c11_];intro e;exact hlen (by rw [e]))
  go_enter func36,ntmps36;go_wp2_with fail;go_ret;exact ⟨ZB HR.out.symm,dn0 _⟩
theorem Zmc{w w':World}{oa:Option Addr}{xs:List Zdy}{l:List Zar}(hb:Below w.heap.size w w')(h:ZbB w oa xs l):ZbB w' oa xs l:=⟨h.len,h.row.below hb,fun i h1 h2=>let s:=h.see i h1 h2;⟨s.dash,s.wn,s.row.below hb,s.few⟩⟩
theorem Zrj(d1 d2:Bool)(a1 a2:Option Addr)(c1 c2:Nat)(w1 w2:List Str)(w:World)(h1:Zp w a1 w1)(h2:Zp w a2 w2)(l1:w1.length<=maxLen)(l2:w2.length<=maxLen)(r:Bool)(hr:decide ((d1,w1)=(d2,w2))=r) :
  Calls prog 76 #[.agg #[.bool d1,.slice a1 w1.length c1],.agg #[.bool d2,.slice a2 w2.length c2]] w fun e w'=>e=.returned (.bool r)/\Below w.heap.size w w':=by
 have hB:Below w.heap.size w ((w.alloc (.cells #[.bool d1,.slice a1 w1.length c1] 49)).alloc (.cells #[.bool d2,.slice a2 w2.length c2] 49)):=(b_.alloc l_ _).alloc s_ _;have HB:=h_ hB;obtain ⟨sb,hsb⟩:∃sb,Zal w1 w2=sb:=⟨_,rfl⟩;have HS:=h_ (Q6 a1 a2 c1 c2 w1 w2 _ (h1.below hB) (h2.below hB) l1 l2);rw [hsb] at HS;have HD:=h_ (show r=(d1==d2&&sb) by
  rw [<-hr,<-hsb];unfold Zal;rw [Bool.eq_iff_iff];simp)
 clear hB h1 h2 hr hsb;cases hd:(d1==d2) with
 |false=>
  have HR:=h_ (show r=false by rw [HD.out,hd];rfl);go_enter func76,ntmps76;go_wp2_with fail;go_ret;exact ⟨ZB HR.out.symm,HB.out⟩
 |true=>
  have HR:=h_ (show r=sb by rw [HD.out,hd];rfl);go_enter func76,ntmps76;go_wp2_with fail;refine HS.out.mono ?_;rintro e w3 ⟨rfl,n,rfl⟩;have HB3:=h_ (HB.out.trans (Ze ⟨n,rfl⟩));go_wp2_with fail;go_ret;exact ⟨ZB HR.out.symm,HB3.out⟩
theorem ZlT(oa ob:Option Addr)(ca cb:Nat)(xs ys:List Zdy)(l m:List Zar)(w:World)(hl:ZbB w oa xs l)(hm:ZbB w ob ys m)(hll:l.length<=9223372036854775807)(hml:m.length<=9223372036854775807)(r:Bool)(hr:decide (l=m)=r) :
  Calls prog 75 #[.slice oa l.length ca,.slice ob m.length cb,.func (.func 76) #[] #[]] w fun e w'=>e=.returned (.bool r)/\Below w.heap.size w w':=by
 have HRS:=h_ hr;clear hr;by_cases hlen:l.length=m.length
 ·have hne:((l.length:Int)!=(m.length:Int))=false:=by simp [hlen]
  have Hlen:=h_ hlen;clear hlen;have HL:=h_ hl;clear hl;have HM:=h_ hm;clear hm;go_enter func75,ntmps75;go_wp2_with fail;go_loopg [17] (l.length+1) (fun f i wr=>∃k:Nat,k<=l.length/\i=.int .i64 k/\l.length-k<f/\Hid (l.take k=m.take k)/\Hid (Below w.heap.size w wr))
  case atStart=>exact ⟨0,o_,rfl,o_,rfl,Below.refl _ _⟩
  case round=>
   obtain ⟨k,hk,rfl,hfu,Hq,HB⟩:=hrel;by_cases hlt:k<l.length
   ·have hlt2:k<m.length:=n40_
    have i5:(k:Int)<(l.length:Int):=o_;have i6:(k:Int)<(m.length:Int):=o_;have hL:=Zmc HB.out HL.out;have hM:=Zmc HB.out HM.out;have hx1:k<xs.length:=by rw [hL.len];exact hlt
    have hy1:k<ys.length:=by rw [hM.len];exact hlt2
    obtain ⟨b1,o1,rfl,-,hc1⟩:=hL.row k hx1;obtain ⟨b2,o2,rfl,hb2l,hc2⟩:=hM.row k hy1;have hne2:b2≠wr.heap.size:=o_;have sx:=hL.see k hx1 hlt;have sy:=hM.see k hy1 hlt2;obtain ⟨x,hx⟩:=e_ (l[k]);obtain ⟨y,hy⟩:=e_ (m[k]);rw [<-hx] at sx;rw [<-hy] at sy;generalize xs[k]=xv at hc1 sx;generalize ys[k]=yv at hc2 sy;obtain ⟨xd,xa,xn,xc⟩:=xv;obtain ⟨yd,ya,yn,yc⟩:=yv;obtain ⟨rfl,rfl,sx3,sx4⟩:=sx;obtain ⟨rfl,rfl,sy3,sy4⟩:=sy;obtain ⟨xd,xw⟩:=x;obtain ⟨yd,yw⟩:=y;have d0:=hc1 0 _ rfl;have d1:=hc1 1 _ rfl;have e0:=hc2 0 _ rfl;have e1:=hc2 1 _ rfl;simp only [Nat.add_zero] at d0 e0;simp only at sx3 sx4 sy3 sy4 d0 d1 e0 e1;have hB1:Below wr.heap.size wr ((wr.alloc (.cells #[.bool xd,.slice xa xw.length xc] 49)).alloc (.cells #[.bool yd,.slice ya yw.length yc] 49)):=(b_.alloc l_ _).alloc s_ _;obtain ⟨q,hq⟩:∃q,decide ((xd,xw)=(yd,yw))=q:=⟨_,rfl⟩;have HS:=h_ (Zrj xd yd xa ya xc yc xw yw _ (sx3.below hB1) (sy3.below hB1) sx4 sy4 q hq);have HB1:=h_ (HB.out.trans (hB1.mono HB.out.size));clear hc1 hc2 sx3 sx4 sy3 sy4 hB1 hL hM hx1 hy1;cases q with
    |true=>
     have HT:=h_ (show l.take (k+1)=m.take (k+1) by
      rw [c4_ hlt,c4_ hlt2,Hq.out,<-hx,<-hy,of_decide_eq_true hq])
     clear hx hy hq;go_wp2_with fail;refine HS.out.mono ?_;rintro e w3 ⟨rfl,hb3⟩;have HB3:=h_ (HB1.out.trans (hb3.mono HB1.out.size));clear hb3;go_wp2_with fail;go_roundg (gk-1)
     case measure=>omega
     case rel=>exact ⟨k+1,o_,n9_,o_,HT,HB3⟩
    |false=>
     have HR:=h_ (show r=false by
      rw [<-HRS.out];apply decide_eq_false;intro e;subst e;exact of_decide_eq_false hq (hx.trans hy.symm))
     clear hx hy hq;go_wp2_with fail;refine HS.out.mono ?_;rintro e w3 ⟨rfl,hb3⟩;have HB3:=h_ (HB1.out.trans (hb3.mono HB1.out.size));clear hb3;go_wp2_with fail;go_ret;exact ⟨ZB HR.out.symm,HB3.out⟩
   ·have HR:=h_ (show r=true by
     have h1:=Hq.out;rw [c9_ o_,c9_ n40_] at h1;rw [<-HRS.out,h1];simp)
    go_wp2_with fail;go_ret;exact ⟨ZB HR.out.symm,HB.out⟩
 ·have hne:((l.length:Int)!=(m.length:Int))=true:=n6_
  have HR:=h_ (show r=false by
   rw [<-HRS.out];apply decide_eq_false;intro e;exact hlen (by rw [e]))
  go_enter func75,ntmps75;go_wp2_with fail;go_ret;exact ⟨ZB HR.out.symm,Below.refl _ _⟩
theorem ZbY(oa ob:Option Addr)(ca cb:Nat)(xs ys:List Zdy)(l m:List Zar)(w:World)(hl:ZbB w oa xs l)(hm:ZbB w ob ys m)(hll:l.length<=9223372036854775807)(hml:m.length<=9223372036854775807)(r:Bool)(hr:decide (l=m)=r) :
  Calls prog 34 #[.slice oa l.length ca,.slice ob m.length cb] w fun e w'=>e=.returned (.bool r)/\Below w.heap.size w w':=by
 have HC:=h_ (ZlT oa ob ca cb xs ys l m w hl hm hll hml r hr);clear hl hm hr;go_enter func34,ntmps34;go_wp2_with fail;refine HC.out.mono ?_;rintro e w3 ⟨rfl,hb3⟩;have HB3:=h_ hb3;clear hb3;go_wp2_with fail;go_ret;exact ⟨rfl,HB3.out⟩
theorem m157_{p:Prop}(h:p:=by
  have HQ:=ZiA h34 h92 o_;have HY:=h_ (QAt.step HX.out hlt ((⟨#[92,120]⟩:ByteArray)++⟨(YG s[k]).toArray⟩) (by rw [Joins.data_append,HQ];rfl));have hh:(⟨(YG s[k]).toArray⟩:ByteArray).size=2:=rfl;have hh':(YG s[k]).length=2:=rfl;clear HQ;have HC:=Zf8 s[k];generalize YG s[k]=hb at HY hh hh' HC;go_wp2_with (go_at_call 243;refine (HC _).mono ?_;rintro e w' ⟨rfl,q,rfl⟩);go_wp2_with fail;go_roundg (s.size-k)
  case measure=>omega
  case rel=>exact ⟨k+1,_,_,o_,n9_,o_,rfl,HY,n92_⟩):p:=h
theorem m158_{p:Prop}(h:p:=by go_wp2_with fail;go_ret;exact ⟨ZB HR'.out.symm,rfl⟩):p:=h
theorem m159_{p:Prop}(h:p:=by
  go_wp2_with fail;go_roundg (s.size-k)
  case measure=>omega
  case rel=>exact ⟨k+1,_,_,o_,n9_,o_,rfl,HY,rfl⟩):p:=h
theorem m160_{p:Prop}(h:p:=by unfold ZI;rw [Xn,Xn,show ((34:UInt8).toNat:Int)=34 from rfl,show ((92:UInt8).toNat:Int)=92 from rfl,h,h'];simp [UInt8.le_iff_toNat_le,UInt8.lt_iff_toNat_lt];omega):p:=h
inductive Zwi(n:Int):Prop where
 |low (h:n<33)
 |high (h:126<n) (h1:¬n<33)
 |sq (h:(n==39)=true) (h1:¬n<33) (h2:¬126<n)
 |dq (h:(n==34)=true) (h1:¬n<33) (h2:¬126<n) (h3:(n==39)=false)
 |bs (h:(n==92)=true) (h1:¬n<33) (h2:¬126<n) (h3:(n==39)=false) (h4:(n==34)=false)
 |ok (h1:¬n<33) (h2:¬126<n) (h3:(n==39)=false) (h4:(n==34)=false) (h5:(n==92)=false)
theorem Zwg(n:Int):Zwi n:=by
 by_cases h1:n<33
 ·exact .low h1
 by_cases h2:126<n
 ·exact .high h2 h1
 cases h3:(n==39) with
 |true=>exact .sq h3 h1 h2
 |false=>
  cases h4:(n==34) with
  |true=>exact .dq h4 h1 h2 h3
  |false=>
   cases h5:(n==92) with
   |true=>exact .bs h5 h1 h2 h3 h4
   |false=>exact .ok h1 h2 h3 h4 h5
theorem Zm6(s:ByteArray)(w:World)(h63:s.size<=9223372036854775807) :
  Calls prog 189 #[.string s] w fun e w'=>e=.returned (.bool (XP s.data.toList))/\w=w':=by
 by_cases h0:s.size=0
 ·have:=QH h0
  subst this;clear h0;go_enter func189,ntmps189;go_wp2;go_ret;exact ⟨rfl,rfl⟩
 ·obtain ⟨n1,n2,n3,n4⟩:=Xo h0
  have hl:s.data.toList=s[0]::s.data.toList.drop 1:=drop_cons s 0 n3;have HB:=h_ (show XP s.data.toList=(s[0]!=45&&s.data.toList.all Jv) by rw [Zji,hl]);clear hl;cases h45:((s[0].toNat:Int)==45) with
  |true=>
   have h45':=Zap h45;have HR:=h_ (show XP s.data.toList=false by rw [HB.out,bne,Xn,show ((45:UInt8).toNat:Int)=45 from rfl,h45];rfl);go_enter func189,ntmps189;go_wp2_with fail;go_ret;exact ⟨ZB HR.out.symm,rfl⟩
  |false=>
   have h45':=Zap h45;have HR:=h_ (show XP s.data.toList=s.data.toList.all Jv by rw [HB.out,bne,Xn,show ((45:UInt8).toNat:Int)=45 from rfl,h45];rfl);go_enter func189,ntmps189;go_wp2_with fail;go_loopg [3] (s.size+1) (fun f i wr=>∃k:Nat,k<=s.size/\i=.int .i64 k/\s.size-k<f/\Hid (XP s.data.toList=(s.data.toList.drop k).all Jv)/\w=wr)
   case atStart=>exact ⟨0,o_,rfl,o_,HR,rfl⟩
   case round=>
    obtain ⟨k,hk,rfl,hfu,HA,rfl⟩:=hrel;by_cases hlt:k<s.size
    ·have HC:=h_ (ZiI s[k])
     have HD:=h_ (drop_cons s k hlt);clear HR HB;have bad:Jv s[k]=false->Hid (XP s.data.toList=false):=fun h=>h_ (by rw [HA.out,HD.out,List.all_cons,h];rfl)
     have good:Jv s[k]=true->Hid (XP s.data.toList=(s.data.toList.drop (k+1)).all Jv):=fun h=>h_ (by rw [HA.out,HD.out,List.all_cons,h];rfl)
     rw [HC.out] at bad good;have BAD:=h_ bad;have GOOD:=h_ good;clear bad good;cases Zwg (s[k].toNat:Int) with
     |low h=>
      have HR':=BAD.out n6_;exact m158_
     |high h h1=>
      have HR':=BAD.out n6_;exact m158_
     |sq h h1 h2=>
      have HR':=BAD.out n105_;exact m158_
     |dq h h1 h2 h3=>
      have HR':=BAD.out n105_;exact m158_
     |bs h h1 h2 h3 h4=>
      have HR':=BAD.out n105_;exact m158_
     |ok h1 h2 h3 h4 h5=>
      have HA':=GOOD.out (by simp at h3 h4 h5⊢;omega);go_wp2_with fail;go_roundg (s.size-k)
      case measure=>omega
      case rel=>exact ⟨k+1,o_,n9_,o_,HA',rfl⟩
    ·have HR':=h_ (show XP s.data.toList=true by
      rw [HA.out,List.drop_eq_nil_of_le (by show s.size<=k;omega)];rfl)
     exact m158_
theorem Zhw{c:UInt8}(h:((c.toNat:Int)==34)=true\/((c.toNat:Int)==92)=true):ZI c=[92,c]:=by
 unfold ZI;rw [Xn,Xn,show ((34:UInt8).toNat:Int)=34 from rfl,show ((92:UInt8).toNat:Int)=92 from rfl];rcases h with h|h<;>rw [h]<;>simp
theorem Zoz{c:UInt8}(h:((c.toNat:Int)==34)=false)(h':((c.toNat:Int)==92)=false)(h1:(32:Int)<=c.toNat)(h2:(c.toNat:Int)<=126):ZI c=[c]:=by
 exact m160_
theorem ZiA{c:UInt8}(h:((c.toNat:Int)==34)=false)(h':((c.toNat:Int)==92)=false)(h1:¬((32:Int)<=c.toNat/\(c.toNat:Int)<=126)):ZI c=92::120::YG c:=by
 exact m160_
def QAt(s:ByteArray)(k:Nat)(x:ByteArray):Prop:=x.data.toList=34::(s.data.toList.take k).flatMap ZI
theorem QAt.step{s:ByteArray}{k:Nat}{x:ByteArray}(h:QAt s k x)(hk:k<s.size)(y:ByteArray)(hy:y.data.toList=ZI s[k]):QAt s (k+1) (x++y):=by
 unfold QAt at *;have hsn:=Ji s.data.toList k (by simpa using hk);have hgk:s.data.toList[k]'(by simpa using hk)=s[k]:=rfl;rw [Joins.data_append,h,hy,hsn,hgk];simp
theorem QAt.size{s:ByteArray}{k:Nat}{x:ByteArray}(h:QAt s k x):x.size<=4*k+1:=by
 have h1:=Zc8 (s.data.toList.take k);have h2:(s.data.toList.take k).length<=k:=List.length_take_le _ _;have h3:x.size=x.data.toList.length:=rfl;rw [h3,h,c14_];omega
theorem ZiR(s:ByteArray)(w:World)(hs:s.size<137438953472) :
  Calls prog 190 #[.string s] w fun e w'=>e=.returned (.string ⟨(Qt s.data.toList).toArray⟩)/\∃n,w'=w.drewN n:=by
 go_enter func190,ntmps190;go_wp2_with fail;go_loopg [3,4,5] (s.size+1) (fun f v i _ wr=>∃(k:Nat) (x:ByteArray) (m:Nat),k<=s.size/\i=.int .i64 k/\s.size-k<f/\v=.string x/\Hid (QAt s k x)/\wr=w.drewN m)
 case atStart=>exact ⟨0,⟨#[34]⟩,0,o_,rfl,o_,rfl,h_ rfl,rfl⟩
 case round=>
  obtain ⟨k,x,m,hk,rfl,hfu,rfl,HX,rfl⟩:=hrel;have hx:=QAt.size HX.out;by_cases hlt:k<s.size
  ·have hk1:(k:Int)+1<=(s.size:Int):=o_
   have hex1:(s.extract k (k+1)).data.toList=[s[k]]:=by
    rw [Lib.extract_data,drop_cons s k hlt];simp
   have HE1:=h_ hex1;clear hex1;cases h34:((s[k].toNat:Int)==34) with
   |true=>
    have HY:=h_ (QAt.step HX.out hlt ((⟨#[92]⟩:ByteArray)++s.extract k (k+1)) (by rw [Joins.data_append,HE1.out,Zhw (.inl h34)];rfl));exact m159_
   |false=>
    cases h92:((s[k].toNat:Int)==92) with
    |true=>
     have HY:=h_ (QAt.step HX.out hlt ((⟨#[92]⟩:ByteArray)++s.extract k (k+1)) (by rw [Joins.data_append,HE1.out,Zhw (.inr h92)];rfl));exact m159_
    |false=>
     by_cases h32:(32:Int)<=s[k].toNat
     ·by_cases h126:(s[k].toNat:Int)<=126
      ·have HY:=h_ (QAt.step HX.out hlt (s.extract k (k+1)) (by rw [HE1.out,Zoz h34 h92 h32 h126]))
       exact m159_
      ·exact m157_
     ·exact m157_
  ·have HR:=h_ (show x++⟨#[34]⟩=(⟨(Qt s.data.toList).toArray⟩:ByteArray) by
    apply Yu;have h:=HX.out;unfold QAt at h;rw [Joins.data_append,h,c9_ (by show s.size<=k;omega)];simp [Qt])
   go_wp2_with fail;go_ret;exact ⟨n14_,_,rfl⟩
theorem m161_{p:Prop}(h:p:=by
  cases hp:XP l[k] with
  |true=>
   have HJ:=h_ (J ⟨l[k].toArray⟩ (by unfold YC;rw [if_pos hp]));have HP:=fun w=>(HP w)
   rw [hp] at HP;clear J hp HQ hwl;go_wp2_with (go_at_call 189;refine (HP _).mono ?_;rintro e w' ⟨rfl,rfl⟩);go_roundg (l.length-k)
   case measure=>omega
   case rel=>exact ⟨k+1,_,_,o_,n9_,o_,rfl,HJ,HZ',rfl⟩
  |false=>
   have hW:YC l[k]=Qt l[k]:=by unfold YC;rw [if_neg (by simp [hp])]
   rw [hW] at hwl;have HJ:=h_ (J ⟨(Qt l[k]).toArray⟩ (by rw [hW]));rw [hp] at HP;clear J hp hW;generalize Qt l[k]=qw at HJ HQ hwl;have hqs:(⟨qw.toArray⟩:ByteArray).size=qw.length:=n17_;go_wp2_with (first
    |(go_at_call 189;refine (HP _).mono ?_;rintro e w' ⟨rfl,rfl⟩)
    |(go_at_call 190;refine (HQ _).mono ?_;rintro e w' ⟨rfl,q,rfl⟩))
   go_roundg (l.length-k)
   case measure=>omega
   case rel=>exact ⟨k+1,_,_,o_,n9_,o_,rfl,HJ,HZ',n92_⟩):p:=h
theorem Zgd(sep a:Str):∀(l:List Str),l≠[]->Ya sep (l++[a])=Ya sep l++sep++a
 |[],h=>absurd rfl h
 |[b],_=>rfl
 |b::c::r,_=>by
  have ih:=Zgd sep a (c::r) s_;show b++sep++Ya sep ((c::r)++[a])=_;rw [ih];simp [Ya]
def JAt(l:List Str)(k:Nat)(x:ByteArray):Prop:=x.data.toList=Ya [32] ((l.map YC).take k)
theorem JAt.first{l:List Str}{k:Nat}{x:ByteArray}(h:JAt l k x)(hk:k<l.length)(h0:¬(0:Int)<(k:Int))(y:ByteArray)(hy:y.data.toList=YC l[k]):JAt l (k+1) (x++y):=by
 have:k=0:=o_
 subst this;unfold JAt at *;rw [Joins.data_append,h,hy,ZbM l 0 hk];simp [Ya]
theorem JAt.more{l:List Str}{k:Nat}{x:ByteArray}(h:JAt l k x)(hk:k<l.length)(h0:(0:Int)<(k:Int))(y:ByteArray)(hy:y.data.toList=YC l[k]):JAt l (k+1) ((x++⟨#[32]⟩)++y):=by
 unfold JAt at *;rw [Joins.data_append,Joins.data_append,h,hy,ZbM l k hk,Zgd];intro e;rw [List.take_eq_nil_iff] at e;rcases e with e|e
 ·omega
 ·rw [List.map_eq_nil_iff] at e;subst e;simp at hk
theorem JAt.size{l:List Str}{k:Nat}{x:ByteArray}(h:JAt l k x)(hl:∀x∈l,x.length<137438953472)(h32:l.length<=32):x.size<=17592190000000:=by
 have h3:x.size=x.data.toList.length:=rfl;have h4:=Zek [32] (4*137438953472+2) ((l.map YC).take k) (by
  intro x hx;obtain ⟨y,hy,rfl⟩:=List.mem_map.1 (List.mem_of_mem_take hx);have h1:=ZaB y;have h2:=hl y hy;omega)
 rw [h3,h];have h5:((l.map YC).take k).length<=32:=n6_;have h6:=Nat.mul_le_mul_right (4*137438953472+2+([32]:Str).length) h5;simp only [c14_,List.length_nil] at h4 h6;omega
def ZjV(x:Str)(j:Nat):Bool:=(x.take j).contains 0
theorem Zoa(x:Str)(j:Nat)(h:j<x.length):ZjV x (j+1)=(ZjV x j||(x[j]==0)):=by
 unfold ZjV;rw [c4_ h];simp only [List.contains_append];congr 1;rw [Bool.eq_iff_iff];simp;exact eq_comm
theorem Znp(oa:Option Addr)(cap:Nat)(l:List Str)(w:World)(h:Zp w oa l)(hm:l.length<=maxLen)(hl:∀x∈l,x.length<137438953472) :
  Calls prog 106 #[.slice oa l.length cap] w fun e w'=>e=.returned (.string ⟨(join l).toArray⟩)/\∃n,w'=w.drewN n:=by
 unfold maxLen at hm;by_cases h32:32<l.length
 ·have HR:=h_ (show join l=[] by unfold join;rw [if_pos h32])
  go_enter func106,ntmps106;go_wp2_with fail;go_ret;exact ⟨n14_,0,rfl⟩
 ·have Hl:=h_ hl;clear hl
  have Hr:=h_ h;clear h;go_enter func106,ntmps106;go_wp2_with fail;go_loopg [3,6,12] (l.length+1) (fun f v _ i wr=>∃(k:Nat) (x:ByteArray) (m:Nat),k<=l.length/\i=.int .i64 k/\l.length-k<f/\v=.string x/\Hid (JAt l k x)/\Hid ((l.take k).any (fun x=>x.contains 0)=false)/\wr=w.drewN m)
  case atStart=>exact ⟨0,⟨#[]⟩,0,o_,rfl,o_,rfl,h_ rfl,h_ rfl,rfl⟩
  case round=>
   obtain ⟨k,x,m,hk,rfl,hfu,rfl,HX,HZ,rfl⟩:=hrel;have hx:=HX.out.size Hl.out o_;by_cases hlt:k<l.length
   ·obtain ⟨b,o,rfl,hc⟩:=Hr.out k hlt
    have hxl:=Hl.out l[k] (List.getElem_mem _);have hsz:(⟨l[k].toArray⟩:ByteArray).size=l[k].length:=n17_;go_wp2_with fail;go_loopg [6] (l[k].length+1) (fun f i wr2=>∃(j m2:Nat),j<=l[k].length/\i=.int .i64 j/\l[k].length-j<f/\Hid (ZjV l[k] j=false)/\wr2=w.drewN m2)
    case atStart=>exact ⟨0,m,o_,rfl,o_,h_ rfl,rfl⟩
    case round=>
     obtain ⟨j,m2,hj,rfl,hfj,HF,rfl⟩:=hrel;by_cases hjl:j<l[k].length
     ·have HS:=h_ (Zoa l[k] j hjl)
      cases hz:(((l[k][j]).toNat:Int)==0) with
      |true=>
       have HR:=h_ (show join l=[] by
        unfold join;rw [if_neg h32,if_pos];rw [List.any_eq_true];refine ⟨l[k],List.getElem_mem _,?_⟩;rw [List.contains_iff_mem];have e:l[k][j]=0:=by
         apply UInt8.toNat_inj.1
         have:=eq_of_beq hz
         simpa using this
        rw [<-e];exact List.getElem_mem _)
       have hz2:((((⟨l[k].toArray⟩:ByteArray)[j]'(by rw [hsz];exact hjl)).toNat:Int)==0)=true:=hz;clear hz;go_wp2_with fail;go_ret;exact ⟨n14_,_,rfl⟩
      |false=>
       have HF':=h_ (show ZjV l[k] (j+1)=false by rw [HS.out,HF.out,Xn];exact hz);have hz2:((((⟨l[k].toArray⟩:ByteArray)[j]'(by rw [hsz];exact hjl)).toNat:Int)==0)=false:=hz;clear hz;go_wp2_with fail;go_roundg (l[k].length-j)
       case measure=>omega
       case rel=>exact ⟨j+1,_,o_,n9_,o_,HF',rfl⟩
     ·have:j=l[k].length:=o_
      subst this;have HZ':=h_ (ZdT l k hlt HZ.out (by have:=HF.out;unfold ZjV at this;rwa [List.take_length] at this));have HP:=fun w=>Zm6 ⟨l[k].toArray⟩ w n116_
      have HQ:=fun w=>ZiR ⟨l[k].toArray⟩ w n116_
      have HP:∀w,Calls prog 189 #[.string ⟨l[k].toArray⟩] w fun e w'=>e=.returned (.bool (XP l[k]))/\w=w':=HP
      have HQ:∀w,Calls prog 190 #[.string ⟨l[k].toArray⟩] w fun e w'=>e=.returned (.string ⟨(Qt l[k]).toArray⟩)/\∃n,w'=w.drewN n:=HQ
      have hwl:=ZaB l[k];clear HF;by_cases hk0:(0:Int)<(k:Int)
      ·have J:=fun y hy=>HX.out.more hlt hk0 y hy
       exact m161_
      ·have J:=fun y hy=>HX.out.first hlt hk0 y hy
       exact m161_
   ·have:k=l.length:=o_
    subst this;have HR:=h_ (show x=⟨(join l).toArray⟩ by
     apply Yu;have h1:=HX.out;have h2:=HZ.out;unfold JAt at h1;rw [c9_ s_] at h1;rw [List.take_length] at h2;rw [h1];unfold join;rw [if_neg h32,if_neg (by rw [h2];exact Bool.false_ne_true)])
    go_wp2_with fail;go_ret;exact ⟨n67_,_,rfl⟩
end Go.Proofs.YtmgmbeipbeknaaaGreatDoor
