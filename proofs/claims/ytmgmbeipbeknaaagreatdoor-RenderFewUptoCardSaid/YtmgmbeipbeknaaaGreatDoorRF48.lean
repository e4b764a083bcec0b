import Derived.Deep.LoopGhost
import Derived.Test.YtmgmbeipbeknaaaGreatDoorRF38
import Derived.Test.YtmgmbeipbeknaaaGreatDoorRF47
namespace Go.Proofs.YtmgmbeipbeknaaaGreatDoor
open Go.Proofs.Tryz
open Go Go.RowKit
set_option linter.unusedVariables false
set_option linter.unusedSimpArgs false
set_option maxHeartbeats 16000000
set_option maxRecDepth 100000
theorem m124_{p:Prop}(h:p:=by
  have HR:=h_ (show r=true by
   have h1:=Hq.out;rw [List.take_of_length_le o_,List.take_of_length_le n26_] at h1;rw [<-HRS.out,h1];simp)
  go_wp2_with fail;go_ret;exact ⟨n9_,dn _ _⟩):p:=h
theorem m125_{p:Prop}(h:p:=by clear hb hx hy;go_wp2_with fail;go_quiet (fail);go_wp2_with fail;exact m128_):p:=h
theorem m126_{p:Prop}(h:p:=by clear hb hx hy;go_wp2_with fail;go_quiet (fail);go_wp2_with fail;go_ret;exact ⟨n9_,n10_⟩):p:=h
theorem m127_{p:Prop}(h:p:=by go_wp2_with fail;go_ret;exact ⟨n9_,dn0 _⟩):p:=h
theorem m128_{p:Prop}(h:p:=by
  go_roundg (l.length-k)
  case measure=>omega
  case rel=>exact ⟨k+1,o_,n14_,o_,HT,n10_⟩):p:=h
theorem Jp(oa ob:Option Addr)(ca cb:Nat)(l m:List (Int))(w:World)(hl:YZ w oa l)(hm:YZ w ob m)(hll:l.length<=9223372036854775807)(hml:m.length<=9223372036854775807)(r:Bool)(hr:decide (l=m)=r) :
  Calls prog 35 #[.slice oa l.length ca,.slice ob m.length cb] w fun e w'=>e=.returned (.bool r)/\∃n,w'=w.drewN n:=by
 have HRS:=h_ hr;clear hr;by_cases hlen:l.length=m.length
 ·have hne:((l.length:Int)!=(m.length:Int))=false:=by simp [hlen]
  have Hlen:=h_ hlen;clear hlen;have HL:=h_ hl;clear hl;have HM:=h_ hm;clear hm;go_enter func35,ntmps35;go_wp2_with fail;go_loopg [13] (l.length+1) (fun f i wr=>∃k:Nat,k<=l.length/\i=.int .i64 k/\l.length-k<f/\Hid (l.take k=m.take k)/\∃n,wr=w.drewN n)
  case atStart=>exact ⟨0,o_,rfl,o_,rfl,0,rfl⟩
  case round=>
   obtain ⟨k,hk,rfl,hfu,Hq,n,rfl⟩:=hrel;by_cases hlt:k<l.length
   ·have hlt2:k<m.length:=n26_
    have i5:(k:Int)<(l.length:Int):=o_;have i6:(k:Int)<(m.length:Int):=o_;obtain ⟨b1,o1,rfl,d0⟩:=HL.out k hlt;obtain ⟨b2,o2,rfl,e0⟩:=HM.out k hlt2;obtain ⟨x,hx⟩:=e_ (l[k]);obtain ⟨y,hy⟩:=e_ (m[k]);rw [<-hx] at d0;rw [<-hy] at e0;by_cases hb:x=y
    ·have HT:=h_ (show l.take (k+1)=m.take (k+1) by
      rw [List.take_succ_eq_append_getElem hlt,List.take_succ_eq_append_getElem hlt2,Hq.out,<-hx,<-hy,hb])
     have hq:(x !=y)=false:=by rw [hb];simp
     exact m125_
    ·have HR:=h_ (show r=false by
      rw [<-HRS.out];apply decide_eq_false;intro e;subst e;exact hb (hx.trans hy.symm))
     have hq:(x !=y)=true:=by rw [bne_iff_ne];exact hb
     exact m126_
   ·exact m124_
 ·have hne:((l.length:Int)!=(m.length:Int))=true:=n6_
  have HR:=h_ (show r=false by
   rw [<-HRS.out];apply decide_eq_false;intro e;exact hlen (by rw [e]))
  clear hlen;go_enter func35,ntmps35;exact m127_
theorem ZjM(oa ob:Option Addr)(ca cb:Nat)(l m:List (Str×Str))(w:World)(hl:Zx Xy 2 w oa l)(hm:Zx Xy 2 w ob m)(hll:l.length<=9223372036854775807)(hml:m.length<=9223372036854775807)(r:Bool)(hr:decide (l=m)=r) :
  Calls prog 33 #[.slice oa l.length ca,.slice ob m.length cb] w fun e w'=>e=.returned (.bool r)/\∃n,w'=w.drewN n:=by
 have HRS:=h_ hr;clear hr;by_cases hlen:l.length=m.length
 ·have hne:((l.length:Int)!=(m.length:Int))=false:=by simp [hlen]
  have Hlen:=h_ hlen;clear hlen;have HL:=h_ hl;clear hl;have HM:=h_ hm;clear hm;go_enter func33,ntmps33;go_wp2_with fail;go_loopg [13] (l.length+1) (fun f i wr=>∃k:Nat,k<=l.length/\i=.int .i64 k/\l.length-k<f/\Hid (l.take k=m.take k)/\∃n,wr=w.drewN n)
  case atStart=>exact ⟨0,o_,rfl,o_,rfl,0,rfl⟩
  case round=>
   obtain ⟨k,hk,rfl,hfu,Hq,n,rfl⟩:=hrel;by_cases hlt:k<l.length
   ·have hlt2:k<m.length:=n26_
    have i5:(k:Int)<(l.length:Int):=o_;have i6:(k:Int)<(m.length:Int):=o_;obtain ⟨x,hx⟩:=e_ (l[k]);obtain ⟨y,hy⟩:=e_ (m[k]);obtain ⟨b1,o1,rfl,-,hc1⟩:=HL.out k hlt;obtain ⟨b2,o2,rfl,-,hc2⟩:=HM.out k hlt2;rw [<-hx] at hc1;rw [<-hy] at hc2;have d0:=hc1 0 _ rfl;have d1:=hc1 1 _ rfl;have e0:=hc2 0 _ rfl;have e1:=hc2 1 _ rfl;simp only [Nat.add_zero] at d0 e0;clear hc1 hc2;by_cases hb:x=y
    ·have HT:=h_ (show l.take (k+1)=m.take (k+1) by
      rw [List.take_succ_eq_append_getElem hlt,List.take_succ_eq_append_getElem hlt2,Hq.out,<-hx,<-hy,hb])
     have hgd:=ZcL;have hrun:=Zfb x y true (by rw [hb];simp);exact m125_
    ·have HR:=h_ (show r=false by
      rw [<-HRS.out];apply decide_eq_false;intro e;subst e;exact hb (hx.trans hy.symm))
     have hgd:=ZcL;have hrun:=Zfb x y false (by exact decide_eq_false hb);exact m126_
   ·exact m124_
 ·have hne:((l.length:Int)!=(m.length:Int))=true:=n6_
  have HR:=h_ (show r=false by
   rw [<-HRS.out];apply decide_eq_false;intro e;exact hlen (by rw [e]))
  clear hlen;go_enter func33,ntmps33;exact m127_
theorem Zlj(oa ob:Option Addr)(ca cb:Nat)(l m:List (Int×Str))(w:World)(hl:Zx Qx 2 w oa l)(hm:Zx Qx 2 w ob m)(hll:l.length<=9223372036854775807)(hml:m.length<=9223372036854775807)(r:Bool)(hr:decide (l=m)=r) :
  Calls prog 32 #[.slice oa l.length ca,.slice ob m.length cb] w fun e w'=>e=.returned (.bool r)/\∃n,w'=w.drewN n:=by
 have HRS:=h_ hr;clear hr;by_cases hlen:l.length=m.length
 ·have hne:((l.length:Int)!=(m.length:Int))=false:=by simp [hlen]
  have Hlen:=h_ hlen;clear hlen;have HL:=h_ hl;clear hl;have HM:=h_ hm;clear hm;go_enter func32,ntmps32;go_wp2_with fail;go_loopg [13] (l.length+1) (fun f i wr=>∃k:Nat,k<=l.length/\i=.int .i64 k/\l.length-k<f/\Hid (l.take k=m.take k)/\∃n,wr=w.drewN n)
  case atStart=>exact ⟨0,o_,rfl,o_,rfl,0,rfl⟩
  case round=>
   obtain ⟨k,hk,rfl,hfu,Hq,n,rfl⟩:=hrel;by_cases hlt:k<l.length
   ·have hlt2:k<m.length:=n26_
    have i5:(k:Int)<(l.length:Int):=o_;have i6:(k:Int)<(m.length:Int):=o_;obtain ⟨x,hx⟩:=e_ (l[k]);obtain ⟨y,hy⟩:=e_ (m[k]);obtain ⟨b1,o1,rfl,-,hc1⟩:=HL.out k hlt;obtain ⟨b2,o2,rfl,-,hc2⟩:=HM.out k hlt2;rw [<-hx] at hc1;rw [<-hy] at hc2;have d0:=hc1 0 _ rfl;have d1:=hc1 1 _ rfl;have e0:=hc2 0 _ rfl;have e1:=hc2 1 _ rfl;simp only [Nat.add_zero] at d0 e0;clear hc1 hc2;by_cases hb:x=y
    ·have HT:=h_ (show l.take (k+1)=m.take (k+1) by
      rw [List.take_succ_eq_append_getElem hlt,List.take_succ_eq_append_getElem hlt2,Hq.out,<-hx,<-hy,hb])
     have hgd:=ZaW;have hrun:=Zfr x y true (by rw [hb];simp);exact m125_
    ·have HR:=h_ (show r=false by
      rw [<-HRS.out];apply decide_eq_false;intro e;subst e;exact hb (hx.trans hy.symm))
     have hgd:=ZaW;have hrun:=Zfr x y false (by exact decide_eq_false hb);exact m126_
   ·exact m124_
 ·have hne:((l.length:Int)!=(m.length:Int))=true:=n6_
  have HR:=h_ (show r=false by
   rw [<-HRS.out];apply decide_eq_false;intro e;exact hlen (by rw [e]))
  clear hlen;go_enter func32,ntmps32;exact m127_
theorem X5(oa ob:Option Addr)(ca cb:Nat)(l m:List Str)(w:World)(hl:Zu w oa l)(hm:Zu w ob m)(hll:l.length<=maxLen)(hml:m.length<=maxLen) :
  Calls prog 36 #[.slice oa l.length ca,.slice ob m.length cb] w fun e w'=>e=.returned (.bool (QR l m))/\∃n,w'=w.drewN n:=by
 unfold maxLen at hll hml;by_cases hlen:l.length=m.length
 ·have hne:((l.length:Int)!=(m.length:Int))=false:=by simp [hlen]
  have Hlen:=h_ hlen;clear hlen;go_enter func36,ntmps36;have HL:=h_ hl;clear hl;have HM:=h_ hm;clear hm;go_wp2_with fail;go_loopg [13] (l.length+1) (fun f i wr=>∃k:Nat,k<=l.length/\i=.int .i64 k/\l.length-k<f/\Hid (l.take k=m.take k)/\∃n,wr=w.drewN n)
  case atStart=>exact ⟨0,o_,rfl,o_,rfl,0,rfl⟩
  case round=>
   obtain ⟨k,hk,rfl,hfu,Hq,n,rfl⟩:=hrel;by_cases hlt:k<l.length
   ·have hlt2:k<m.length:=n26_
    obtain ⟨b1,o1,rfl,hc1⟩:=HL.out k hlt;obtain ⟨b2,o2,rfl,hc2⟩:=HM.out k hlt2;cases hb:(l[k]==m[k]) with
    |true=>
     have HT:=h_ (show l.take (k+1)=m.take (k+1) by
      rw [List.take_succ_eq_append_getElem hlt,List.take_succ_eq_append_getElem hlt2,Hq.out,eq_of_beq hb])
     go_wp2_with fail;go_quiet (fail);go_wp2;exact m128_
    |false=>
     have HR:=h_ (show QR l m=false by
      unfold QR;rw [beq_eq_false_iff_ne];intro e;subst e;simp at hb)
     go_wp2_with fail;go_quiet (fail);go_wp2;go_ret;exact ⟨ZP HR.out.symm,n10_⟩
   ·have HR:=h_ (show QR l m=true by
     have h1:=Hq.out;rw [List.take_of_length_le o_,List.take_of_length_le n26_] at h1;unfold QR;rw [h1];simp)
    go_wp2;go_ret;exact ⟨ZP HR.out.symm,dn _ _⟩
 ·have hne:((l.length:Int)!=(m.length:Int))=true:=n6_
  have HR:=h_ (show QR l m=false by
   unfold QR;rw [beq_eq_false_iff_ne];intro e;exact hlen (by rw [e]))
  go_enter func36,ntmps36;go_wp2_with fail;go_ret;exact ⟨ZP HR.out.symm,dn0 _⟩
theorem ZjI{w w':World}{oa:Option Addr}{xs:List ZbV}{l:List JB}(hb:Below w.heap.size w w')(h:Zav w oa xs l):Zav w' oa xs l:=⟨h.len,h.row.below hb,fun i h1 h2=>let s:=h.see i h1 h2;⟨s.dash,s.wn,s.row.below hb,s.few⟩⟩
theorem ZnD(d1 d2:Bool)(a1 a2:Option Addr)(c1 c2:Nat)(w1 w2:List Str)(w:World)(h1:Zu w a1 w1)(h2:Zu w a2 w2)(l1:w1.length<=maxLen)(l2:w2.length<=maxLen)(r:Bool)(hr:decide ((d1,w1)=(d2,w2))=r) :
  Calls prog 76 #[.agg #[.bool d1,.slice a1 w1.length c1],.agg #[.bool d2,.slice a2 w2.length c2]] w fun e w'=>e=.returned (.bool r)/\Below w.heap.size w w':=by
 have hB:Below w.heap.size w ((w.alloc (.cells #[.bool d1,.slice a1 w1.length c1] 49)).alloc (.cells #[.bool d2,.slice a2 w2.length c2] 49)):=(b_.alloc l_ _).alloc s_ _;have HB:=h_ hB;obtain ⟨sb,hsb⟩:∃sb,QR w1 w2=sb:=⟨_,rfl⟩;have HS:=h_ (X5 a1 a2 c1 c2 w1 w2 _ (h1.below hB) (h2.below hB) l1 l2);rw [hsb] at HS;have HD:=h_ (show r=(d1==d2&&sb) by
  rw [<-hr,<-hsb];unfold QR;rw [Bool.eq_iff_iff];simp)
 clear hB h1 h2 hr hsb;cases hd:(d1==d2) with
 |false=>
  have HR:=h_ (show r=false by rw [HD.out,hd];rfl);go_enter func76,ntmps76;go_wp2_with fail;go_ret;exact ⟨ZP HR.out.symm,HB.out⟩
 |true=>
  have HR:=h_ (show r=sb by rw [HD.out,hd];rfl);go_enter func76,ntmps76;go_wp2_with fail;refine HS.out.mono ?_;rintro e w3 ⟨rfl,n,rfl⟩;have HB3:=h_ (HB.out.trans (Zd ⟨n,rfl⟩));go_wp2_with fail;go_ret;exact ⟨ZP HR.out.symm,HB3.out⟩
theorem Zjk(oa ob:Option Addr)(ca cb:Nat)(xs ys:List ZbV)(l m:List JB)(w:World)(hl:Zav w oa xs l)(hm:Zav w ob ys m)(hll:l.length<=9223372036854775807)(hml:m.length<=9223372036854775807)(r:Bool)(hr:decide (l=m)=r) :
  Calls prog 75 #[.slice oa l.length ca,.slice ob m.length cb,.func (.func 76) #[] #[]] w fun e w'=>e=.returned (.bool r)/\Below w.heap.size w w':=by
 have HRS:=h_ hr;clear hr;by_cases hlen:l.length=m.length
 ·have hne:((l.length:Int)!=(m.length:Int))=false:=by simp [hlen]
  have Hlen:=h_ hlen;clear hlen;have HL:=h_ hl;clear hl;have HM:=h_ hm;clear hm;go_enter func75,ntmps75;go_wp2_with fail;go_loopg [17] (l.length+1) (fun f i wr=>∃k:Nat,k<=l.length/\i=.int .i64 k/\l.length-k<f/\Hid (l.take k=m.take k)/\Hid (Below w.heap.size w wr))
  case atStart=>exact ⟨0,o_,rfl,o_,rfl,Below.refl _ _⟩
  case round=>
   obtain ⟨k,hk,rfl,hfu,Hq,HB⟩:=hrel;by_cases hlt:k<l.length
   ·have hlt2:k<m.length:=n26_
    have i5:(k:Int)<(l.length:Int):=o_;have i6:(k:Int)<(m.length:Int):=o_;have hL:=ZjI HB.out HL.out;have hM:=ZjI HB.out HM.out;have hx1:k<xs.length:=by rw [hL.len];exact hlt
    have hy1:k<ys.length:=by rw [hM.len];exact hlt2
    obtain ⟨b1,o1,rfl,-,hc1⟩:=hL.row k hx1;obtain ⟨b2,o2,rfl,hb2l,hc2⟩:=hM.row k hy1;have hne2:b2≠wr.heap.size:=o_;have sx:=hL.see k hx1 hlt;have sy:=hM.see k hy1 hlt2;obtain ⟨x,hx⟩:=e_ (l[k]);obtain ⟨y,hy⟩:=e_ (m[k]);rw [<-hx] at sx;rw [<-hy] at sy;generalize xs[k]=xv at hc1 sx;generalize ys[k]=yv at hc2 sy;obtain ⟨xd,xa,xn,xc⟩:=xv;obtain ⟨yd,ya,yn,yc⟩:=yv;obtain ⟨rfl,rfl,sx3,sx4⟩:=sx;obtain ⟨rfl,rfl,sy3,sy4⟩:=sy;obtain ⟨xd,xw⟩:=x;obtain ⟨yd,yw⟩:=y;have d0:=hc1 0 _ rfl;have d1:=hc1 1 _ rfl;have e0:=hc2 0 _ rfl;have e1:=hc2 1 _ rfl;simp only [Nat.add_zero] at d0 e0;simp only at sx3 sx4 sy3 sy4 d0 d1 e0 e1;have hB1:Below wr.heap.size wr ((wr.alloc (.cells #[.bool xd,.slice xa xw.length xc] 49)).alloc (.cells #[.bool yd,.slice ya yw.length yc] 49)):=(b_.alloc l_ _).alloc s_ _;obtain ⟨q,hq⟩:∃q,decide ((xd,xw)=(yd,yw))=q:=⟨_,rfl⟩;have HS:=h_ (ZnD xd yd xa ya xc yc xw yw _ (sx3.below hB1) (sy3.below hB1) sx4 sy4 q hq);have HB1:=h_ (HB.out.trans (hB1.mono HB.out.size));clear hc1 hc2 sx3 sx4 sy3 sy4 hB1 hL hM hx1 hy1;cases q with
    |true=>
     have HT:=h_ (show l.take (k+1)=m.take (k+1) by
      rw [List.take_succ_eq_append_getElem hlt,List.take_succ_eq_append_getElem hlt2,Hq.out,<-hx,<-hy,of_decide_eq_true hq])
     clear hx hy hq;go_wp2_with fail;refine HS.out.mono ?_;rintro e w3 ⟨rfl,hb3⟩;have HB3:=h_ (HB1.out.trans (hb3.mono HB1.out.size));clear hb3;go_wp2_with fail;go_roundg (gk-1)
     case measure=>omega
     case rel=>exact ⟨k+1,o_,n14_,o_,HT,HB3⟩
    |false=>
     have HR:=h_ (show r=false by
      rw [<-HRS.out];apply decide_eq_false;intro e;subst e;exact of_decide_eq_false hq (hx.trans hy.symm))
     clear hx hy hq;go_wp2_with fail;refine HS.out.mono ?_;rintro e w3 ⟨rfl,hb3⟩;have HB3:=h_ (HB1.out.trans (hb3.mono HB1.out.size));clear hb3;go_wp2_with fail;go_ret;exact ⟨ZP HR.out.symm,HB3.out⟩
   ·have HR:=h_ (show r=true by
     have h1:=Hq.out;rw [List.take_of_length_le o_,List.take_of_length_le n26_] at h1;rw [<-HRS.out,h1];simp)
    go_wp2_with fail;go_ret;exact ⟨ZP HR.out.symm,HB.out⟩
 ·have hne:((l.length:Int)!=(m.length:Int))=true:=n6_
  have HR:=h_ (show r=false by
   rw [<-HRS.out];apply decide_eq_false;intro e;exact hlen (by rw [e]))
  go_enter func75,ntmps75;go_wp2_with fail;go_ret;exact ⟨ZP HR.out.symm,Below.refl _ _⟩
theorem Zac(oa ob:Option Addr)(ca cb:Nat)(xs ys:List ZbV)(l m:List JB)(w:World)(hl:Zav w oa xs l)(hm:Zav w ob ys m)(hll:l.length<=9223372036854775807)(hml:m.length<=9223372036854775807)(r:Bool)(hr:decide (l=m)=r) :
  Calls prog 34 #[.slice oa l.length ca,.slice ob m.length cb] w fun e w'=>e=.returned (.bool r)/\Below w.heap.size w w':=by
 have HC:=h_ (Zjk oa ob ca cb xs ys l m w hl hm hll hml r hr);clear hl hm hr;go_enter func34,ntmps34;go_wp2_with fail;refine HC.out.mono ?_;rintro e w3 ⟨rfl,hb3⟩;have HB3:=h_ hb3;clear hb3;go_wp2_with fail;go_ret;exact ⟨rfl,HB3.out⟩
end Go.Proofs.YtmgmbeipbeknaaaGreatDoor
