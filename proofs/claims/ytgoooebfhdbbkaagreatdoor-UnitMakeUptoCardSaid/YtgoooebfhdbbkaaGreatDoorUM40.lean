import Derived.Test.YtgoooebfhdbbkaaGreatDoorUM4
import Derived.Test.YtgoooebfhdbbkaaGreatDoorUM15
import Derived.Test.YtgoooebfhdbbkaaGreatDoorUM30
namespace Go.Proofs.YtgoooebfhdbbkaaGreatDoor
open Go.Proofs.Tryz
open Go Go.RowKit
set_option linter.unusedVariables false
set_option linter.unusedSimpArgs false
set_option maxHeartbeats 16000000
set_option maxRecDepth 100000
theorem m165_{p:Prop}(h:p:=by
  obtain ⟨x0,x1,x2,y0,y1,y2⟩:=Zd HX9.out;refine Zq (i:=9) (gT_ rfl) k_ k_ (fun K hK=>?_);clear hHeld;rw [if_pos n19_];go_simp;refine hK.out _ _ n1_ (fun hHeld=>?_);clear hK K;refine u_ ?_;refine Zr k_ ?_;clear hHeld;go_wp2_with fail;(try clear p0 p1 p2 r0 r1 r2);obtain ⟨p0,p1,p2,r0,r1,r2⟩:=Zd HP9.out;refine bodyPost_ret (v:=.tuple #[.agg #[.int .i64 m1,.int .i64 m2,.int .i64 m0],.bool (ZF s.data.toList).isSome]) ?_ rfl ⟨⟨m1,m2,m0⟩,rfl,?_,?_⟩
  ·exact m171_
  ·exact m172_
  ·exact m170_):p:=h
theorem m166_{p:Prop}(h:p:=by
  obtain ⟨x0,x1,x2,y0,y1,y2⟩:=Zd HX9.out;refine Zq (i:=9) (gT_ rfl) k_ k_ (fun K hK=>?_);clear hHeld;rw [if_pos n19_];go_simp;refine hK.out _ _ n1_ (fun hHeld=>?_);clear hK K;refine u_ ?_;refine Zr k_ ?_;clear hHeld;go_wp2_with fail;(try clear p0 p1 p2 r0 r1 r2);obtain ⟨p0,p1,p2,r0,r1,r2⟩:=Zd HP9.out;refine bodyPost_ret (v:=.tuple #[.agg #[.int .i64 m1,.int .i64 m2,.int .i64 0],.bool (ZF s.data.toList).isSome]) ?_ rfl ⟨⟨m1,m2,0⟩,rfl,?_,?_⟩
  ·exact m171_
  ·exact m172_
  ·exact m170_):p:=h
theorem m167_{p:Prop}(h:p:=by
  obtain ⟨x0,x1,x2,y0,y1,y2⟩:=Zd HX9.out;refine Zq (i:=4) (gT_ rfl) k_ k_ (fun K hK=>?_);clear hHeld;rw [if_pos n19_];go_simp;refine hK.out _ _ n1_ (fun hHeld=>?_);clear hK K;refine u_ ?_;refine Zr k_ ?_;clear hHeld;go_wp2_with fail;(try clear p0 p1 p2 r0 r1 r2);obtain ⟨p0,p1,p2,r0,r1,r2⟩:=Zd HP9.out;refine bodyPost_ret (v:=.tuple #[.agg #[.int .i64 m1,.int .i64 (-1),.int .i64 m0],.bool (ZF s.data.toList).isSome]) ?_ rfl ⟨⟨m1,(-1),m0⟩,rfl,?_,?_⟩
  ·exact m171_
  ·exact m172_
  ·exact m170_):p:=h
theorem m168_{p:Prop}(h:p:=by
  obtain ⟨x0,x1,x2,y0,y1,y2⟩:=Zd HX9.out;refine Zq (i:=4) (gT_ rfl) k_ k_ (fun K hK=>?_);clear hHeld;rw [if_pos n19_];go_simp;refine hK.out _ _ n1_ (fun hHeld=>?_);clear hK K;refine u_ ?_;refine Zr k_ ?_;clear hHeld;go_wp2_with fail;(try clear p0 p1 p2 r0 r1 r2);obtain ⟨p0,p1,p2,r0,r1,r2⟩:=Zd HP9.out;refine bodyPost_ret (v:=.tuple #[.agg #[.int .i64 m1,.int .i64 (-1),.int .i64 0],.bool (ZF s.data.toList).isSome]) ?_ rfl ⟨⟨m1,(-1),0⟩,rfl,?_,?_⟩
  ·exact m171_
  ·exact m172_
  ·exact m170_):p:=h
theorem m169_{p:Prop}(h:p:=by
  go_wp2_with fail;refine bodyPost_ret (v:=.tuple #[.agg #[.int .i64 (-1),.int .i64 (-1),.int .i64 0],.bool (ZF s.data.toList).isSome]) ?_ rfl ⟨⟨(-1),(-1),0⟩,rfl,?_,?_⟩
  ·exact m171_
  ·exact m172_
  ·exact (((HB1.out.setCell (p:=⟨w.heap.size,0,none⟩) l_ _).setCell (p:=⟨w.heap.size,1,none⟩) l_ _).setCell (p:=⟨w.heap.size,2,none⟩) l_ _)):p:=h
theorem m170_{p:Prop}(h:p:=by exact (((HB9.out.setCell (p:=⟨w.heap.size,0,none⟩) l_ _).setCell (p:=⟨w.heap.size,1,none⟩) l_ _).setCell (p:=⟨w.heap.size,2,none⟩) l_ _).trans (Zb ⟨1,rfl⟩)):p:=h
theorem m171_{p:Prop}(h:p:=by rw [HR.out];simp [results,results228,go_sem,x0,x1,x2,p0,p1,p2]):p:=h
theorem m172_{p:Prop}(h:p:=by rw [HR.out];intro q hq;first|(cases hq;done)|(injection hq)):p:=h
theorem m173_{p:Prop}(h:p:=by refine dT_ (i:=8) (v:=.bool false) (gT_ rfl) (fun W hW=>by obtain ⟨p0,p1,p2,-,-,-⟩:=Zd hW;clear hW;go_simp) (u_ ?_);exact m165_):p:=h
theorem m174_{p:Prop}(h:p:=by refine dT_ (i:=8) (v:=.bool false) (gT_ rfl) (fun W hW=>by obtain ⟨p0,p1,p2,-,-,-⟩:=Zd hW;clear hW;go_simp) (u_ ?_);exact m166_):p:=h
def partT:List Str->Option Yc
 |[a]=>XP a 0
 |[a,b]=>if (ZQ b).2=false\/(ZQ b).1=0 then none else XP a (ZQ b).1
 |_=>none
theorem Zmi(s:Str)(c:UInt8)(hc:c∈s)(hd:isDigit c=false):ZQ s=(0,false):=by
 unfold ZQ;rw [if_neg];unfold Qk;rw [Bool.and_eq_true,not_and];intro _ h;rw [List.all_eq_true] at h;rw [h c hc] at hd;cases hd
theorem ZfT(s:Str):ZF s=partT (Zl 47 s):=by
 have hidx:Lib.index s [47]=Lib.indexByte s 47:=Lib.index_one s 47;rcases ZaZ 47 s with ⟨h1,h2⟩|⟨i,a,b,h1,h2,h3,h4⟩
 ·have hcut:Lib.cut s [47]=(s,[],false):=by
   unfold Lib.cut;rw [hidx,h1];rfl
  unfold ZF;rw [hcut,QL 47 s h2];rfl
 ·have hcut:Lib.cut s [47]=(a,b,true):=by
   unfold Lib.cut;rw [hidx,h1,if_pos o_,h2];simp [<-h3]
  unfold ZF;rw [hcut,h2,Jp 47 a b h4];simp only;rcases ZaZ 47 b with ⟨g1,g2⟩|⟨i2,a2,b2,g1,g2,g3,g4⟩
  ·rw [QL 47 b g2]
   rfl
  ·have hn:=Zmi b 47 (by rw [g2];simp) d_
   rw [hn];have hs:Zl 47 b=a2::Zl 47 b2:=by rw [g2];exact Jp 47 a2 b2 g4
   rw [hs];cases h:Zl 47 b2 with
   |nil=>exact absurd h (Qr 47 b2)
   |cons x t=>rfl
theorem YQ(s:Str)(h:(ZQ s).2=true):JC s=(ZQ s).1/\0<=(ZQ s).1:=by
 refine ⟨by unfold JC;rw [if_pos h],?_⟩;unfold ZQ at *;split<;>simp
theorem Jm(s:Str)(h:(ZQ s).2=false):JC s = -1:=by unfold JC;rw [if_neg (by rw [h];simp)]
theorem ZjI(a:Str)(st:Int)(h0:a≠[42])(h:Qe a 0 = -1):XP a st=if (ZQ a).2=true then some ⟨(ZQ a).1,-1,st⟩ else none:=by
 unfold XP;rw [if_neg h0,Zp6 a h];cases (ZQ a).2<;>simp
theorem Zjb(a:Str)(st:Int)(k:Nat)(h0:a≠[42])(h:Qe a 0=k):XP a st=if (ZQ (a.take k)).2=true/\(ZQ (a.drop (k+2))).2=true then some ⟨(ZQ (a.take k)).1,(ZQ (a.drop (k+2))).1,st⟩ else none:=by
 unfold XP;rw [if_neg h0,Zon a k h];cases (ZQ (a.take k)).2<;>cases (ZQ (a.drop (k+2))).2<;>simp
theorem Zqz(s:ByteArray)(k:Nat):s.extract k s.size=⟨(s.data.toList.drop k).toArray⟩:=by
 apply Yb;rw [Lib.extract_to_end]
theorem ZmS(s:ByteArray)(k:Nat):s.extract 0 k=⟨(s.data.toList.take k).toArray⟩:=by
 apply Yb;rw [Lib.extract_data];simp
theorem Zj.fr3{C:Nat}{w V:World}{oa:Option Addr}{l:List Str}(h:Zj w oa l)(hf:Fr (fun k=>k=C) w V)(hne:∀b o,oa=some ⟨b,o,none⟩->b≠C/\b<w.heap.size):Zj V oa l:=by
 intro i hi;obtain ⟨b,o,e,hc⟩:=h i hi;refine ⟨b,o,e,?_⟩;unfold World.cell? at hc⊢;rw [hf.block b (hne b o e).2 (hne b o e).1];exact hc
theorem ZjW(s:ByteArray)(w:World)(hs:s.size<=1000000000):Calls prog 228 #[.string s] w fun e w'=>Zdj w s.data.toList e w':=by
 obtain ⟨l,hl⟩:∃l,Zl 47 s.data.toList=l:=⟨_,rfl⟩;have HSP:=h_ (fun W=>XW s 47 W hs l hl);have HMEM:=h_ (fun x (hx:x∈l)=>show x.length<=1000000000 from by rw [<-hl] at hx;have:=YP 47 _ x hx;have h2:s.data.toList.length=s.size:=s_;omega);have HPT:=h_ (show ZF s.data.toList=partT l by rw [ZfT,hl]);have hl0:l≠[]:=by rw [<-hl];exact Qr 47 _
 let w0:=(w.alloc (.cells #[.int .i64 0,.int .i64 0,.int .i64 0] 233)).alloc (.cells #[.int .i64 (-1),.int .i64 (-1),.int .i64 0] 233);have hB0:Below w.heap.size w w0:=(b_.alloc l_ _).alloc s_ _;have hx0:w0.heap[w.heap.size]?=some (.cells #[.int .i64 0,.int .i64 0,.int .i64 0] 233 (0,0)):=heap_alloc (heap_alloc_new w _) _;have hp0:w0.heap[w.heap.size+1]?=some (.cells #[.int .i64 (-1),.int .i64 (-1),.int .i64 0] 233 (0,0)):=by
  have:=heap_alloc_new (w.alloc (.cells #[.int .i64 0,.int .i64 0,.int .i64 0] 233)) (.cells #[.int .i64 (-1),.int .i64 (-1),.int .i64 0] 233)
  rw [show (w.alloc (.cells #[.int .i64 0,.int .i64 0,.int .i64 0] 233)).heap.size=w.heap.size+1 by simp] at this;exact this
 have hz0:w0.heap.size=w.heap.size+2:=by simp [w0]
 have HB0:=h_ hB0;have HX0:=h_ hx0;have HP0:=h_ hp0;have HZ0:=h_ hz0;have HS0:=h_ (HSP.out w0);unfold Zdj;clear hB0 hx0 hp0 hz0 hl HSP;go_enter func228,ntmps228;go_wp2_with fail;refine HS0.out.mono ?_;rintro e w1 ⟨hb1,v,rfl,hown⟩;obtain ⟨oa,cap,rfl⟩:=ownsRow_form hown;have hz0:=HZ0.out;have HST:=h_ (fun V (h:Fr (fun k=>k=w.heap.size+1) w1 V)=>(Zj.of_own hown).fr3 h (fun b o e=>by
  have:=hown.lt b n100_
  omega))
 have hne4:=h_ (show ∀b o,oa=some (⟨b,o,none⟩:Addr)->b≠w.heap.size+1 from fun b o e=>by
  have:=hown.lt b n100_
  omega)
 have HB1:=h_ (HB0.out.trans (hb1.mono HB0.out.size));have HX1:=h_ (Za HX0.out hb1);have HP1:=h_ (Za HP0.out hb1);have HF1:=h_ (Fr.refl (fun k=>k=w.heap.size+1) w1);have HZ1:=h_ (show w.heap.size+2<=w1.heap.size by have:=hb1.size;omega);clear hown hb1 HB0 HX0 HP0 HZ0 HS0 hz0;clear w0;obtain ⟨n,hn⟩:=e_ l.length;rw [<-hn];rcases l with _|⟨a,_|⟨b,_|⟨c,t⟩⟩⟩
 ·exact absurd rfl hl0
 ·obtain rfl:n=1:=hn
  have HPB:=h_ (show ZF s.data.toList=XP a 0 from HPT.out);have hal:=HMEM.out a s_;obtain ⟨A,hA⟩:∃A:ByteArray,A=⟨a.toArray⟩:=⟨_,rfl⟩;have hAs:A.size<=1000000000:=by rw [hA];show a.toArray.size<=_;simpa using hal
  clear HPT HMEM hl0 hal;obtain ⟨x0,x1,x2,y0,y1,y2⟩:=Zd HX1.out;obtain ⟨p0,p1,p2,r0,r1,r2⟩:=Zd HP1.out;obtain ⟨b4,o4,e4,-⟩:=HST.out w1 HF1.out 0 s_;subst e4;have HA:=h_ (fun V (h:Fr (fun k=>k=w.heap.size+1) w1 V)=>show V.cell? ⟨b4,o4,none⟩=some (.string A) from by
   obtain ⟨b5,o5,e5,d5⟩:=HST.out V h 0 s_;injection e5 with e5;injection e5 with e6 e7
   subst e6;subst e7;simp only [Nat.add_zero,List.getElem_cons_zero] at d5;rw [hA];exact d5)
  have d0:=HA.out w1 HF1.out;cases hst:(a==[42]) with
  |true=>
   have hA2:A=⟨#[42]⟩:=by rw [hA,eq_of_beq hst]
   have HR:=h_ (show ZF s.data.toList=some ⟨-1,-1,0⟩ by rw [HPB.out];unfold XP;rw [if_pos (eq_of_beq hst)]);subst hA2;clear HPB hA hst HA;exact m169_
  |false=>
   have hst2:a≠[42]:=n71_;have hAx:A.data.toList=a:=by rw [hA]
   have hne:(A.toList==[42])=false:=by
    rw [beq_eq_false_iff_ne,ByteArray.toList_eq,hAx];exact hst2
   have HPT2:=h_ (fun W=>Zgz A W hAs (Qe a 0) (by rw [hAx]));rcases Zbt a 0 with hq|⟨k,hq,-,hkl⟩
   ·have HPB2:=h_ (show ZF s.data.toList=if (ZQ a).2=true then some ⟨(ZQ a).1,-1,0⟩ else none by rw [HPB.out,ZjI a _ hst2 hq])
    obtain ⟨m1,hm1⟩:∃m,JC a=m:=⟨_,rfl⟩;have HN1:=h_ (fun W=>Qj A W m1 (by rw [hAx];exact hm1));rw [hq] at HPT2;cases hnc:(ZQ a).2 with
    |true=>
     obtain ⟨q1,q2⟩:=YQ a hnc;have HR:=h_ (show ZF s.data.toList=some ⟨m1,-1,0⟩ by rw [HPB2.out,hnc,if_pos rfl,<-hm1,q1]);have hge:(0:Int)<=m1:=by rw [<-hm1,q1];exact q2
     have hge2:m1>=(0:Int):=hge;clear q1 q2;clear hnc hm1 HPB2 HPB hq hst hst2 hAx hA;go_wp2_with fail
     first|(refine (HPT2.out _).mono ?_)|(go_at_call 240;refine (HPT2.out _).mono ?_)
     rintro e w2 ⟨rfl,hb⟩;have HB2:=h_ (HB1.out.trans (hb.mono HB1.out.size));have HX2:=h_ (Za HX1.out hb);have HP2:=h_ (Za HP1.out hb);have HF2:=h_ (HF1.out.trans (Fr.of_below hb _));clear hb HPT2 d0;(try clear d1 hb4 hb5);clear x0 x1 x2 y0 y1 y2 p0 p1 p2 r0 r1 r2;have d0:=HA.out w2 HF2.out;obtain ⟨x0,x1,x2,y0,y1,y2⟩:=Zd HX2.out;obtain ⟨p0,p1,p2,r0,r1,r2⟩:=Zd HP2.out;go_wp2_with fail;refine (HN1.out _).mono ?_;rintro e w3 ⟨rfl,hb⟩;have HB3:=h_ (HB2.out.trans (hb.mono HB2.out.size));have HX3:=h_ (Za HX2.out hb);have HP3:=h_ (Za HP2.out hb);clear hb HN1 d0 HA;clear x0 x1 x2 y0 y1 y2 p0 p1 p2 r0 r1 r2;obtain ⟨x0,x1,x2,y0,y1,y2⟩:=Zd HX3.out;obtain ⟨p0,p1,p2,r0,r1,r2⟩:=Zd HP3.out;go_wp2_with fail;have HP9:=h_ (show (w3.setCell ⟨w.heap.size+1,0,none⟩ (.int .i64 m1)).heap[w.heap.size+1]?=some (.cells #[.int .i64 m1,.int .i64 (-1),.int .i64 0] 233 (0,0)) from heap_setCell HP3.out 0 (.int .i64 m1));have HX9:=h_ (Zk HX3.out (a:=⟨w.heap.size+1,0,none⟩) s_ (.int .i64 m1));have HB9:=h_ (HB3.out.setCell (p:=⟨w.heap.size+1,0,none⟩) s_ (.int .i64 m1));clear x0 x1 x2 y0 y1 y2 p0 p1 p2 r0 r1 r2;generalize w3.setCell ⟨w.heap.size+1,0,none⟩ (.int .i64 m1)=w9 at *;refine Zi (S:=fun V=>V.heap[w.heap.size+1]?=some (.cells #[.int .i64 m1,.int .i64 (-1),.int .i64 0] 233 (0,0))) 5 k_ k_ n93_ (fun hHeld=>?_);refine u_ ?_;(iterate 3 refine dN_ 0 (gT_ rfl) (fun W hW=>by obtain ⟨p0,p1,p2,-,-,-⟩:=Zd hW;clear hW;go_simp;rfl) (u_ ?_));refine dT_ (i:=3) (v:=.bool true) (gT_ rfl) (fun W hW=>by obtain ⟨p0,p1,p2,-,-,-⟩:=Zd hW;clear hW;go_simp) (u_ ?_);exact m168_
    |false=>
     have HR:=h_ (show ZF s.data.toList=none by rw [HPB2.out,hnc];simp);have hge:m1<(0:Int):=by rw [<-hm1,Jm a hnc];decide
     have hge2:¬m1>=(0:Int):=o_;have hge3:¬(0:Int)<=m1:=o_;clear hnc hm1 HPB2 HPB hq hst hst2 hAx hA;go_wp2_with fail
     first|(refine (HPT2.out _).mono ?_)|(go_at_call 240;refine (HPT2.out _).mono ?_)
     rintro e w2 ⟨rfl,hb⟩;have HB2:=h_ (HB1.out.trans (hb.mono HB1.out.size));have HX2:=h_ (Za HX1.out hb);have HP2:=h_ (Za HP1.out hb);have HF2:=h_ (HF1.out.trans (Fr.of_below hb _));clear hb HPT2 d0;(try clear d1 hb4 hb5);clear x0 x1 x2 y0 y1 y2 p0 p1 p2 r0 r1 r2;have d0:=HA.out w2 HF2.out;obtain ⟨x0,x1,x2,y0,y1,y2⟩:=Zd HX2.out;obtain ⟨p0,p1,p2,r0,r1,r2⟩:=Zd HP2.out;go_wp2_with fail;refine (HN1.out _).mono ?_;rintro e w3 ⟨rfl,hb⟩;have HB3:=h_ (HB2.out.trans (hb.mono HB2.out.size));have HX3:=h_ (Za HX2.out hb);have HP3:=h_ (Za HP2.out hb);clear hb HN1 d0 HA;clear x0 x1 x2 y0 y1 y2 p0 p1 p2 r0 r1 r2;obtain ⟨x0,x1,x2,y0,y1,y2⟩:=Zd HX3.out;obtain ⟨p0,p1,p2,r0,r1,r2⟩:=Zd HP3.out;go_wp2_with fail;have HP9:=h_ (show (w3.setCell ⟨w.heap.size+1,0,none⟩ (.int .i64 m1)).heap[w.heap.size+1]?=some (.cells #[.int .i64 m1,.int .i64 (-1),.int .i64 0] 233 (0,0)) from heap_setCell HP3.out 0 (.int .i64 m1));have HX9:=h_ (Zk HX3.out (a:=⟨w.heap.size+1,0,none⟩) s_ (.int .i64 m1));have HB9:=h_ (HB3.out.setCell (p:=⟨w.heap.size+1,0,none⟩) s_ (.int .i64 m1));clear x0 x1 x2 y0 y1 y2 p0 p1 p2 r0 r1 r2;generalize w3.setCell ⟨w.heap.size+1,0,none⟩ (.int .i64 m1)=w9 at *;refine Zi (S:=fun V=>V.heap[w.heap.size+1]?=some (.cells #[.int .i64 m1,.int .i64 (-1),.int .i64 0] 233 (0,0))) 5 k_ k_ n93_ (fun hHeld=>?_);refine u_ ?_;(iterate 3 refine dN_ 0 (gT_ rfl) (fun W hW=>by obtain ⟨p0,p1,p2,-,-,-⟩:=Zd hW;clear hW;go_simp;rfl) (u_ ?_));refine dT_ (i:=3) (v:=.bool false) (gT_ rfl) (fun W hW=>by obtain ⟨p0,p1,p2,-,-,-⟩:=Zd hW;clear hW;go_simp) (u_ ?_);exact m168_
   ·obtain ⟨k1,hk1⟩:=e_ (a.take k)
    obtain ⟨k2,hk2⟩:=e_ (a.drop (k+2));have HPB2:=h_ (show ZF s.data.toList=if (ZQ k1).2=true/\(ZQ k2).2=true then some ⟨(ZQ k1).1,(ZQ k2).1,0⟩ else none by rw [HPB.out,Zjb a _ k hst2 hq,hk1,hk2]);have HE1:=h_ (show A.extract 0 k=⟨k1.toArray⟩ by rw [ZmS,hAx,hk1]);have HE2:=h_ (show A.extract (k+2) A.size=⟨k2.toArray⟩ by rw [Zqz,hAx,hk2]);obtain ⟨m1,hm1⟩:∃m,JC k1=m:=⟨_,rfl⟩;obtain ⟨m2,hm2⟩:∃m,JC k2=m:=⟨_,rfl⟩;have HN1:=h_ (fun W=>Qj ⟨k1.toArray⟩ W m1 hm1);have HN2:=h_ (fun W=>Qj ⟨k2.toArray⟩ W m2 hm2);rw [<-HE1.out] at HN1;rw [<-HE2.out] at HN2;have hAl:A.size=a.length:=by rw [<-hAx];simp
    have hk0:(k:Int)>=0:=o_;have hk3:(0:Int)<=(k:Int):=o_;have HK4:=h_ (show k+2<=A.size by omega);rw [hq] at HPT2;obtain ⟨ok1,hok1⟩:∃b,(ZQ k1).2=b:=⟨_,rfl⟩;obtain ⟨ok2,hok2⟩:∃b,(ZQ k2).2=b:=⟨_,rfl⟩;have HG1:=h_ (show decide (0<=m1)=ok1 by
     rw [<-hm1,<-hok1];cases h:(ZQ k1).2 with
     |true=>rw [(YQ k1 h).1];simpa using (YQ k1 h).2
     |false=>rw [Jm k1 h];rfl)
    have HG2:=h_ (show decide (0<=m2)=ok2 by
     rw [<-hm2,<-hok2];cases h:(ZQ k2).2 with
     |true=>rw [(YQ k2 h).1];simpa using (YQ k2 h).2
     |false=>rw [Jm k2 h];rfl)
    have HR0:=h_ (show ZF s.data.toList=if ok1=true/\ok2=true then some ⟨m1,m2,0⟩ else none by
     rw [HPB2.out,hok1,hok2];cases ok1 with
     |false=>simp
     |true=>
      cases ok2 with
      |false=>simp
      |true=>rw [<-hm1,<-hm2,(YQ k1 hok1).1,(YQ k2 hok2).1])
    clear hok1 hok2 hm1 hm2 HPB2 HPB hk1 hk2 hkl hq hst hst2 hAx hA hAl;go_wp2_with fail
    first|(refine (HPT2.out _).mono ?_)|(go_at_call 240;refine (HPT2.out _).mono ?_)
    rintro e w2 ⟨rfl,hb⟩;have HB2:=h_ (HB1.out.trans (hb.mono HB1.out.size));have HX2:=h_ (Za HX1.out hb);have HP2:=h_ (Za HP1.out hb);have HF2:=h_ (HF1.out.trans (Fr.of_below hb _));clear hb HPT2 d0;(try clear d1 hb4 hb5);clear x0 x1 x2 y0 y1 y2 p0 p1 p2 r0 r1 r2;go_wp2_with fail;have hk4:=HK4.out;have hk5:(k:Int)+2<=(A.size:Int):=o_;have hk6:(k:Int)<=(A.size:Int):=o_;have hkw:wrap64 ((k:Int)+2)=(k:Int)+2:=n49_;have hkw2:IntKind.i64.wrap ((k:Int)+2)=(k:Int)+2:=IntWalk.i64_in _ o_;have hkt:((k:Int)+2).toNat=k+2:=o_;have hk7:¬(k:Int)+2<0:=o_;have hk8:k<=A.size:=o_;have HBJ:=h_ (Zb (B:=w2.heap.size) (a:=w2) (b:=w2.drew) ⟨1,rfl⟩);refine Zi (S:=fun V=>Below w2.heap.size w2 V) 14 k_ k_ HBJ.out (fun hHeld=>?_);refine u_ ?_;(iterate 2 refine dN_ 0 (gT_ rfl) (fun W hW=>by clear hW;go_simp;rfl) (u_ ?_));refine dT_ (i:=2) (v:=.string A) (gT_ rfl) (fun W hW=>by have hf:=HF2.out.trans (Fr.of_below hW _);have d0:=HA.out W hf;clear hf hW;go_simp) (u_ ?_);(iterate 2 refine dN_ 0 (gT_ rfl) (fun W hW=>by clear hW;go_simp;rfl) (u_ ?_));(iterate 2 refine dN_ 1 (gT_ rfl) (fun W hW=>by clear hW;go_simp;rfl) (u_ ?_));refine dT_ (i:=8) (v:=.string A) (gT_ rfl) (fun W hW=>by have hf:=HF2.out.trans (Fr.of_below hW _);have d0:=HA.out W hf;clear hf hW;go_simp) (u_ ?_);(iterate 3 refine dN_ 1 (gT_ rfl) (fun W hW=>by clear hW;go_simp;rfl) (u_ ?_));have HW1:=h_ hHeld;refine Zq (i:=5) (gT_ rfl) k_ k_ (fun K hK=>?_);clear hHeld;rw [if_pos n19_];go_simp;refine (HN1.out _).mono ?_;rintro e wc1 ⟨rfl,hb⟩;have HV1:=h_ (HW1.out.trans (hb.mono HW1.out.size));clear hb;refine hK.out _ _ HV1.out (fun hHeld=>?_);clear hK K;refine u_ ?_;refine dT_ (i:=13) (v:=.pointer (some ⟨w.heap.size+1,0,none⟩)) (gT_ rfl) (fun W hW=>by clear hW;go_simp) (u_ ?_);have HW2:=h_ hHeld;refine Zq (i:=12) (gT_ rfl) k_ k_ (fun K hK=>?_);clear hHeld;rw [if_pos n19_];go_simp;refine (HN2.out _).mono ?_;rintro e wc2 ⟨rfl,hb⟩;have HV2:=h_ (HW2.out.trans (hb.mono HW2.out.size));clear hb;refine hK.out _ _ HV2.out (fun hHeld=>?_);clear hK K;refine u_ ?_;refine Zr k_ ?_;clear hHeld;have HB7:=h_ (HB2.out.trans (HV2.out.mono HB2.out.size));have HX7:=h_ (Za HX2.out HV2.out);have HP7:=h_ (Za HP2.out HV2.out);clear HA HN1 HN2 HW1 HW2 HV1 HV2 HBJ HE1 HE2 hkw;generalize wc2=w7 at *;obtain ⟨x0,x1,x2,y0,y1,y2⟩:=Zd HX7.out;obtain ⟨p0,p1,p2,r0,r1,r2⟩:=Zd HP7.out;go_wp2_with fail;have hP8:=heap_setCell (heap_setCell HP7.out 0 (.int .i64 m1)) 1 (.int .i64 m2);have HP9:=h_ (show ((w7.setCell ⟨w.heap.size+1,0,none⟩ (.int .i64 m1)).setCell ⟨w.heap.size+1,1,none⟩ (.int .i64 m2)).heap[w.heap.size+1]?=some (.cells #[.int .i64 m1,.int .i64 m2,.int .i64 0] 233 (0,0)) from by simpa using hP8);have HX9:=h_ (Zk (Zk HX7.out (a:=⟨w.heap.size+1,0,none⟩) s_ (.int .i64 m1)) (a:=⟨w.heap.size+1,1,none⟩) s_ (.int .i64 m2));have HB9:=h_ ((HB7.out.setCell (p:=⟨w.heap.size+1,0,none⟩) s_ (.int .i64 m1)).setCell (p:=⟨w.heap.size+1,1,none⟩) s_ (.int .i64 m2));clear hP8 HB7 HX7 HP7;clear x0 x1 x2 y0 y1 y2 p0 p1 p2 r0 r1 r2;generalize (w7.setCell ⟨w.heap.size+1,0,none⟩ (.int .i64 m1)).setCell ⟨w.heap.size+1,1,none⟩ (.int .i64 m2)=w9 at *;cases ok1 with
    |false=>
     have hg1:¬(0:Int)<=m1:=n101_;have hg2:¬m1>=(0:Int):=hg1;have hg3:m1<0:=o_;have HR:=h_ (show ZF s.data.toList=none by rw [HR0.out];simp);clear HR0 HG1 HG2;refine Zi (S:=fun V=>V.heap[w.heap.size+1]?=some (.cells #[.int .i64 m1,.int .i64 m2,.int .i64 0] 233 (0,0))) 10 k_ k_ n93_ (fun hHeld=>?_);refine u_ ?_;(iterate 3 refine dN_ 0 (gT_ rfl) (fun W hW=>by obtain ⟨p0,p1,p2,-,-,-⟩:=Zd hW;clear hW;go_simp;rfl) (u_ ?_));refine dT_ (i:=3) (v:=.bool false) (gT_ rfl) (fun W hW=>by obtain ⟨p0,p1,p2,-,-,-⟩:=Zd hW;clear hW;go_simp) (u_ ?_);refine dT_ (i:=4) (v:=.bool false) (gT_ rfl) (fun W hW=>by obtain ⟨p0,p1,p2,-,-,-⟩:=Zd hW;clear hW;go_simp) (u_ ?_);refine ZK (i:=5) (v:=undef) (gT_ rfl) k_ k_ k_ k_ (fun _ _ _ h=>h) (Or.inr ⟨n19_,rfl⟩) a_ ?_;refine u_ ?_;refine ZK (i:=6) (v:=undef) (gT_ rfl) k_ k_ k_ k_ (fun _ _ _ h=>h) (Or.inr ⟨n19_,rfl⟩) a_ ?_;refine u_ ?_;refine ZK (i:=7) (v:=undef) (gT_ rfl) k_ k_ k_ k_ (fun _ _ _ h=>h) (Or.inr ⟨n19_,rfl⟩) a_ ?_;refine u_ ?_;exact m174_
    |true=>
     have hg1:(0:Int)<=m1:=n101_;have hg2:m1>=(0:Int):=hg1;cases ok2 with
     |false=>
      have hh1:¬(0:Int)<=m2:=n102_;have hh2:¬m2>=(0:Int):=hh1;have hh3:m2<0:=o_;have HR:=h_ (show ZF s.data.toList=none by rw [HR0.out];simp);clear HR0 HG1 HG2;refine Zi (S:=fun V=>V.heap[w.heap.size+1]?=some (.cells #[.int .i64 m1,.int .i64 m2,.int .i64 0] 233 (0,0))) 10 k_ k_ n93_ (fun hHeld=>?_);refine u_ ?_;(iterate 3 refine dN_ 0 (gT_ rfl) (fun W hW=>by obtain ⟨p0,p1,p2,-,-,-⟩:=Zd hW;clear hW;go_simp;rfl) (u_ ?_));refine dT_ (i:=3) (v:=.bool true) (gT_ rfl) (fun W hW=>by obtain ⟨p0,p1,p2,-,-,-⟩:=Zd hW;clear hW;go_simp) (u_ ?_);refine dT_ (i:=4) (v:=.bool true) (gT_ rfl) (fun W hW=>by obtain ⟨p0,p1,p2,-,-,-⟩:=Zd hW;clear hW;go_simp) (u_ ?_);(iterate 2 refine dN_ 0 (gT_ rfl) (fun W hW=>by obtain ⟨p0,p1,p2,-,-,-⟩:=Zd hW;clear hW;go_simp;rfl) (u_ ?_));refine dT_ (i:=7) (v:=.bool false) (gT_ rfl) (fun W hW=>by obtain ⟨p0,p1,p2,-,-,-⟩:=Zd hW;clear hW;go_simp) (u_ ?_);exact m174_
     |true=>
      have hh1:(0:Int)<=m2:=n102_;have hh2:m2>=(0:Int):=hh1;have HR:=h_ (show ZF s.data.toList=some ⟨m1,m2,0⟩ by rw [HR0.out];simp);clear HR0 HG1 HG2;refine Zi (S:=fun V=>V.heap[w.heap.size+1]?=some (.cells #[.int .i64 m1,.int .i64 m2,.int .i64 0] 233 (0,0))) 10 k_ k_ n93_ (fun hHeld=>?_);refine u_ ?_;(iterate 3 refine dN_ 0 (gT_ rfl) (fun W hW=>by obtain ⟨p0,p1,p2,-,-,-⟩:=Zd hW;clear hW;go_simp;rfl) (u_ ?_));refine dT_ (i:=3) (v:=.bool true) (gT_ rfl) (fun W hW=>by obtain ⟨p0,p1,p2,-,-,-⟩:=Zd hW;clear hW;go_simp) (u_ ?_);refine dT_ (i:=4) (v:=.bool true) (gT_ rfl) (fun W hW=>by obtain ⟨p0,p1,p2,-,-,-⟩:=Zd hW;clear hW;go_simp) (u_ ?_);(iterate 2 refine dN_ 0 (gT_ rfl) (fun W hW=>by obtain ⟨p0,p1,p2,-,-,-⟩:=Zd hW;clear hW;go_simp;rfl) (u_ ?_));refine dT_ (i:=7) (v:=.bool true) (gT_ rfl) (fun W hW=>by obtain ⟨p0,p1,p2,-,-,-⟩:=Zd hW;clear hW;go_simp) (u_ ?_);refine dT_ (i:=8) (v:=.bool true) (gT_ rfl) (fun W hW=>by obtain ⟨p0,p1,p2,-,-,-⟩:=Zd hW;clear hW;go_simp) (u_ ?_);exact m166_
 ·obtain rfl:n=2:=hn
  have hal:=HMEM.out a s_;have hbl:=HMEM.out b s_;obtain ⟨A,hA⟩:∃A:ByteArray,A=⟨a.toArray⟩:=⟨_,rfl⟩;have hAs:A.size<=1000000000:=by rw [hA];show a.toArray.size<=_;simpa using hal
  obtain ⟨m0,hm0⟩:∃m,JC b=m:=⟨_,rfl⟩;have HN0:=h_ (fun W=>Qj ⟨b.toArray⟩ W m0 hm0);obtain ⟨b4,o4,g4,e0⟩:=HST.out w1 HF1.out 1 s_;simp only [List.getElem_cons_succ,List.getElem_cons_zero] at e0;obtain ⟨x0,x1,x2,y0,y1,y2⟩:=Zd HX1.out;obtain ⟨p0,p1,p2,r0,r1,r2⟩:=Zd HP1.out;have hnb:(ZQ b).2=true->JC b=(ZQ b).1/\0<=(ZQ b).1:=YQ b;have hnn:(ZQ b).2=false->JC b = -1:=Jm b;clear HMEM hl0 hal hbl;by_cases hm:m0<1
  ·have HR:=h_ (show ZF s.data.toList=none by
    rw [HPT.out];show (if (ZQ b).2=false\/(ZQ b).1=0 then none else XP a (ZQ b).1)=none;rw [if_pos];cases h:(ZQ b).2 with
    |false=>exact .inl rfl
    |true=>have:=hnb h;exact .inr o_)
   clear HPT hnb hnn hm0;subst g4;go_wp2_with fail;refine (HN0.out _).mono ?_;rintro e w2 ⟨rfl,hb⟩;have HB2:=h_ (HB1.out.trans (hb.mono HB1.out.size));have HX2:=h_ (Za HX1.out hb);have HP2:=h_ (Za HP1.out hb);clear hb HN0 e0;clear x0 x1 x2 y0 y1 y2 p0 p1 p2 r0 r1 r2;obtain ⟨x0,x1,x2,y0,y1,y2⟩:=Zd HX2.out;obtain ⟨p0,p1,p2,r0,r1,r2⟩:=Zd HP2.out;go_wp2_with fail;refine bodyPost_ret (v:=.tuple #[.agg #[.int .i64 (-1),.int .i64 (-1),.int .i64 m0],.bool (ZF s.data.toList).isSome]) ?_ rfl ⟨⟨(-1),(-1),m0⟩,rfl,?_,?_⟩
   ·exact m171_
   ·exact m172_
   ·exact ((((HB2.out.setCell (p:=⟨w.heap.size+1,2,none⟩) s_ _).setCell (p:=⟨w.heap.size,0,none⟩) l_ _).setCell (p:=⟨w.heap.size,1,none⟩) l_ _).setCell (p:=⟨w.heap.size,2,none⟩) l_ _)
  ·have HPB:=h_ (show ZF s.data.toList=XP a m0 by
    rw [HPT.out];show (if (ZQ b).2=false\/(ZQ b).1=0 then none else XP a (ZQ b).1)=XP a m0;cases h:(ZQ b).2 with
    |false=>have:=hnn h;omega
    |true=>
     have:=hnb h
     have hn:¬((ZQ b).2=false\/(ZQ b).1=0):=by
      rintro (h2|h2)
      ·rw [h] at h2;cases h2
      ·omega
     rw [h] at hn;rw [if_neg hn,<-hm0,this.1])
   clear HPT hnb hnn hm0;subst g4;go_wp2_with fail;refine (HN0.out _).mono ?_;rintro e w2 ⟨rfl,hb⟩;have HB2:=h_ (HB1.out.trans (hb.mono HB1.out.size));have HX2:=h_ (Za HX1.out hb);have HP2:=h_ (Za HP1.out hb);have HF2:=h_ (HF1.out.trans (Fr.of_below hb _));clear hb HN0 e0;have HB3:=h_ (HB2.out.setCell (p:=⟨w.heap.size+1,2,none⟩) s_ (.int .i64 m0));have HX3:=h_ (Zk HX2.out (a:=⟨w.heap.size+1,2,none⟩) s_ (.int .i64 m0));have HP3:=h_ (show (w2.setCell ⟨w.heap.size+1,2,none⟩ (.int .i64 m0)).heap[w.heap.size+1]?=some (.cells #[.int .i64 (-1),.int .i64 (-1),.int .i64 m0] 233 (0,0)) from by simpa using heap_setCell HP2.out 2 (.int .i64 m0));have HF3:=h_ (HF2.out.setCell (p:=⟨w.heap.size+1,2,none⟩) (fun _=>rfl) (.int .i64 m0));clear x0 x1 x2 y0 y1 y2 p0 p1 p2 r0 r1 r2;obtain ⟨x0,x1,x2,y0,y1,y2⟩:=Zd HX2.out;obtain ⟨p0,p1,p2,r0,r1,r2⟩:=Zd HP2.out;have HA:=h_ (fun V (h:Fr (fun k=>k=w.heap.size+1) w1 V)=>show V.cell? ⟨b4,o4,none⟩=some (.string A) from by
    obtain ⟨b5,o5,e5,d5⟩:=HST.out V h 0 s_;injection e5 with e5;injection e5 with e6 e7
    subst e6;subst e7;simp only [Nat.add_zero,List.getElem_cons_zero] at d5;rw [hA];exact d5)
   have d0:=HA.out (w2.setCell ⟨w.heap.size+1,2,none⟩ (.int .i64 m0)) HF3.out;have d1:=HA.out w2 HF2.out;have hb4:=hne4.out _ _ rfl;have hb5:w.heap.size+1≠b4:=fun e=>hb4 e.symm
   cases hst:(a==[42]) with
   |true=>
    have hA2:A=⟨#[42]⟩:=by rw [hA,eq_of_beq hst]
    have HR:=h_ (show ZF s.data.toList=some ⟨-1,-1,m0⟩ by rw [HPB.out];unfold XP;rw [if_pos (eq_of_beq hst)]);subst hA2;clear HPB hA hst HA;go_wp2_with fail;refine bodyPost_ret (v:=.tuple #[.agg #[.int .i64 (-1),.int .i64 (-1),.int .i64 m0],.bool (ZF s.data.toList).isSome]) ?_ rfl ⟨⟨(-1),(-1),m0⟩,rfl,?_,?_⟩
    ·exact m171_
    ·exact m172_
    ·exact (((HB3.out.setCell (p:=⟨w.heap.size,0,none⟩) l_ _).setCell (p:=⟨w.heap.size,1,none⟩) l_ _).setCell (p:=⟨w.heap.size,2,none⟩) l_ _)
   |false=>
    have hst2:a≠[42]:=n71_;have hAx:A.data.toList=a:=by rw [hA]
    have hne:(A.toList==[42])=false:=by
     rw [beq_eq_false_iff_ne,ByteArray.toList_eq,hAx];exact hst2
    have HPT2:=h_ (fun W=>Zgz A W hAs (Qe a 0) (by rw [hAx]));rcases Zbt a 0 with hq|⟨k,hq,-,hkl⟩
    ·have HPB2:=h_ (show ZF s.data.toList=if (ZQ a).2=true then some ⟨(ZQ a).1,-1,m0⟩ else none by rw [HPB.out,ZjI a _ hst2 hq])
     obtain ⟨m1,hm1⟩:∃m,JC a=m:=⟨_,rfl⟩;have HN1:=h_ (fun W=>Qj A W m1 (by rw [hAx];exact hm1));rw [hq] at HPT2;cases hnc:(ZQ a).2 with
     |true=>
      obtain ⟨q1,q2⟩:=YQ a hnc;have HR:=h_ (show ZF s.data.toList=some ⟨m1,-1,m0⟩ by rw [HPB2.out,hnc,if_pos rfl,<-hm1,q1]);have hge:(0:Int)<=m1:=by rw [<-hm1,q1];exact q2
      have hge2:m1>=(0:Int):=hge;clear q1 q2;clear hnc hm1 HPB2 HPB hq hst hst2 hAx hA;go_wp2_with fail
      first|(refine (HPT2.out _).mono ?_)|(go_at_call 240;refine (HPT2.out _).mono ?_)
      rintro e w4 ⟨rfl,hb⟩;have HB4:=h_ (HB3.out.trans (hb.mono HB3.out.size));have HX4:=h_ (Za HX3.out hb);have HP4:=h_ (Za HP3.out hb);have HF4:=h_ (HF3.out.trans (Fr.of_below hb _));clear hb HPT2 d0;(try clear d1 hb4 hb5);clear x0 x1 x2 y0 y1 y2 p0 p1 p2 r0 r1 r2;have d0:=HA.out w4 HF4.out;obtain ⟨x0,x1,x2,y0,y1,y2⟩:=Zd HX4.out;obtain ⟨p0,p1,p2,r0,r1,r2⟩:=Zd HP4.out;go_wp2_with fail;refine (HN1.out _).mono ?_;rintro e w5 ⟨rfl,hb⟩;have HB5:=h_ (HB4.out.trans (hb.mono HB4.out.size));have HX5:=h_ (Za HX4.out hb);have HP5:=h_ (Za HP4.out hb);clear hb HN1 d0 HA;clear x0 x1 x2 y0 y1 y2 p0 p1 p2 r0 r1 r2;obtain ⟨x0,x1,x2,y0,y1,y2⟩:=Zd HX5.out;obtain ⟨p0,p1,p2,r0,r1,r2⟩:=Zd HP5.out;go_wp2_with fail;have HP9:=h_ (show (w5.setCell ⟨w.heap.size+1,0,none⟩ (.int .i64 m1)).heap[w.heap.size+1]?=some (.cells #[.int .i64 m1,.int .i64 (-1),.int .i64 m0] 233 (0,0)) from heap_setCell HP5.out 0 (.int .i64 m1));have HX9:=h_ (Zk HX5.out (a:=⟨w.heap.size+1,0,none⟩) s_ (.int .i64 m1));have HB9:=h_ (HB5.out.setCell (p:=⟨w.heap.size+1,0,none⟩) s_ (.int .i64 m1));clear x0 x1 x2 y0 y1 y2 p0 p1 p2 r0 r1 r2;generalize w5.setCell ⟨w.heap.size+1,0,none⟩ (.int .i64 m1)=w9 at *;refine Zi (S:=fun V=>V.heap[w.heap.size+1]?=some (.cells #[.int .i64 m1,.int .i64 (-1),.int .i64 m0] 233 (0,0))) 5 k_ k_ n93_ (fun hHeld=>?_);refine u_ ?_;(iterate 3 refine dN_ 0 (gT_ rfl) (fun W hW=>by obtain ⟨p0,p1,p2,-,-,-⟩:=Zd hW;clear hW;go_simp;rfl) (u_ ?_));refine dT_ (i:=3) (v:=.bool true) (gT_ rfl) (fun W hW=>by obtain ⟨p0,p1,p2,-,-,-⟩:=Zd hW;clear hW;go_simp) (u_ ?_);exact m167_
     |false=>
      have HR:=h_ (show ZF s.data.toList=none by rw [HPB2.out,hnc];simp);have hge:m1<(0:Int):=by rw [<-hm1,Jm a hnc];decide
      have hge2:¬m1>=(0:Int):=o_;have hge3:¬(0:Int)<=m1:=o_;clear hnc hm1 HPB2 HPB hq hst hst2 hAx hA;go_wp2_with fail
      first|(refine (HPT2.out _).mono ?_)|(go_at_call 240;refine (HPT2.out _).mono ?_)
      rintro e w4 ⟨rfl,hb⟩;have HB4:=h_ (HB3.out.trans (hb.mono HB3.out.size));have HX4:=h_ (Za HX3.out hb);have HP4:=h_ (Za HP3.out hb);have HF4:=h_ (HF3.out.trans (Fr.of_below hb _));clear hb HPT2 d0;(try clear d1 hb4 hb5);clear x0 x1 x2 y0 y1 y2 p0 p1 p2 r0 r1 r2;have d0:=HA.out w4 HF4.out;obtain ⟨x0,x1,x2,y0,y1,y2⟩:=Zd HX4.out;obtain ⟨p0,p1,p2,r0,r1,r2⟩:=Zd HP4.out;go_wp2_with fail;refine (HN1.out _).mono ?_;rintro e w5 ⟨rfl,hb⟩;have HB5:=h_ (HB4.out.trans (hb.mono HB4.out.size));have HX5:=h_ (Za HX4.out hb);have HP5:=h_ (Za HP4.out hb);clear hb HN1 d0 HA;clear x0 x1 x2 y0 y1 y2 p0 p1 p2 r0 r1 r2;obtain ⟨x0,x1,x2,y0,y1,y2⟩:=Zd HX5.out;obtain ⟨p0,p1,p2,r0,r1,r2⟩:=Zd HP5.out;go_wp2_with fail;have HP9:=h_ (show (w5.setCell ⟨w.heap.size+1,0,none⟩ (.int .i64 m1)).heap[w.heap.size+1]?=some (.cells #[.int .i64 m1,.int .i64 (-1),.int .i64 m0] 233 (0,0)) from heap_setCell HP5.out 0 (.int .i64 m1));have HX9:=h_ (Zk HX5.out (a:=⟨w.heap.size+1,0,none⟩) s_ (.int .i64 m1));have HB9:=h_ (HB5.out.setCell (p:=⟨w.heap.size+1,0,none⟩) s_ (.int .i64 m1));clear x0 x1 x2 y0 y1 y2 p0 p1 p2 r0 r1 r2;generalize w5.setCell ⟨w.heap.size+1,0,none⟩ (.int .i64 m1)=w9 at *;refine Zi (S:=fun V=>V.heap[w.heap.size+1]?=some (.cells #[.int .i64 m1,.int .i64 (-1),.int .i64 m0] 233 (0,0))) 5 k_ k_ n93_ (fun hHeld=>?_);refine u_ ?_;(iterate 3 refine dN_ 0 (gT_ rfl) (fun W hW=>by obtain ⟨p0,p1,p2,-,-,-⟩:=Zd hW;clear hW;go_simp;rfl) (u_ ?_));refine dT_ (i:=3) (v:=.bool false) (gT_ rfl) (fun W hW=>by obtain ⟨p0,p1,p2,-,-,-⟩:=Zd hW;clear hW;go_simp) (u_ ?_);exact m167_
    ·obtain ⟨k1,hk1⟩:=e_ (a.take k)
     obtain ⟨k2,hk2⟩:=e_ (a.drop (k+2));have HPB2:=h_ (show ZF s.data.toList=if (ZQ k1).2=true/\(ZQ k2).2=true then some ⟨(ZQ k1).1,(ZQ k2).1,m0⟩ else none by rw [HPB.out,Zjb a _ k hst2 hq,hk1,hk2]);have HE1:=h_ (show A.extract 0 k=⟨k1.toArray⟩ by rw [ZmS,hAx,hk1]);have HE2:=h_ (show A.extract (k+2) A.size=⟨k2.toArray⟩ by rw [Zqz,hAx,hk2]);obtain ⟨m1,hm1⟩:∃m,JC k1=m:=⟨_,rfl⟩;obtain ⟨m2,hm2⟩:∃m,JC k2=m:=⟨_,rfl⟩;have HN1:=h_ (fun W=>Qj ⟨k1.toArray⟩ W m1 hm1);have HN2:=h_ (fun W=>Qj ⟨k2.toArray⟩ W m2 hm2);rw [<-HE1.out] at HN1;rw [<-HE2.out] at HN2;have hAl:A.size=a.length:=by rw [<-hAx];simp
     have hk0:(k:Int)>=0:=o_;have hk3:(0:Int)<=(k:Int):=o_;have HK4:=h_ (show k+2<=A.size by omega);rw [hq] at HPT2;obtain ⟨ok1,hok1⟩:∃b,(ZQ k1).2=b:=⟨_,rfl⟩;obtain ⟨ok2,hok2⟩:∃b,(ZQ k2).2=b:=⟨_,rfl⟩;have HG1:=h_ (show decide (0<=m1)=ok1 by
      rw [<-hm1,<-hok1];cases h:(ZQ k1).2 with
      |true=>rw [(YQ k1 h).1];simpa using (YQ k1 h).2
      |false=>rw [Jm k1 h];rfl)
     have HG2:=h_ (show decide (0<=m2)=ok2 by
      rw [<-hm2,<-hok2];cases h:(ZQ k2).2 with
      |true=>rw [(YQ k2 h).1];simpa using (YQ k2 h).2
      |false=>rw [Jm k2 h];rfl)
     have HR0:=h_ (show ZF s.data.toList=if ok1=true/\ok2=true then some ⟨m1,m2,m0⟩ else none by
      rw [HPB2.out,hok1,hok2];cases ok1 with
      |false=>simp
      |true=>
       cases ok2 with
       |false=>simp
       |true=>rw [<-hm1,<-hm2,(YQ k1 hok1).1,(YQ k2 hok2).1])
     clear hok1 hok2 hm1 hm2 HPB2 HPB hk1 hk2 hkl hq hst hst2 hAx hA hAl;go_wp2_with fail
     first|(refine (HPT2.out _).mono ?_)|(go_at_call 240;refine (HPT2.out _).mono ?_)
     rintro e w4 ⟨rfl,hb⟩;have HB4:=h_ (HB3.out.trans (hb.mono HB3.out.size));have HX4:=h_ (Za HX3.out hb);have HP4:=h_ (Za HP3.out hb);have HF4:=h_ (HF3.out.trans (Fr.of_below hb _));clear hb HPT2 d0;(try clear d1 hb4 hb5);clear x0 x1 x2 y0 y1 y2 p0 p1 p2 r0 r1 r2;go_wp2_with fail;have hk4:=HK4.out;have hk5:(k:Int)+2<=(A.size:Int):=o_;have hk6:(k:Int)<=(A.size:Int):=o_;have hkw:wrap64 ((k:Int)+2)=(k:Int)+2:=n49_;have hkw2:IntKind.i64.wrap ((k:Int)+2)=(k:Int)+2:=IntWalk.i64_in _ o_;have hkt:((k:Int)+2).toNat=k+2:=o_;have hk7:¬(k:Int)+2<0:=o_;have hk8:k<=A.size:=o_;have HBJ:=h_ (Zb (B:=w4.heap.size) (a:=w4) (b:=w4.drew) ⟨1,rfl⟩);refine Zi (S:=fun V=>Below w4.heap.size w4 V) 14 k_ k_ HBJ.out (fun hHeld=>?_);refine u_ ?_;(iterate 2 refine dN_ 0 (gT_ rfl) (fun W hW=>by clear hW;go_simp;rfl) (u_ ?_));refine dT_ (i:=2) (v:=.string A) (gT_ rfl) (fun W hW=>by have hf:=HF4.out.trans (Fr.of_below hW _);have d0:=HA.out W hf;clear hf hW;go_simp) (u_ ?_);(iterate 2 refine dN_ 0 (gT_ rfl) (fun W hW=>by clear hW;go_simp;rfl) (u_ ?_));(iterate 2 refine dN_ 1 (gT_ rfl) (fun W hW=>by clear hW;go_simp;rfl) (u_ ?_));refine dT_ (i:=8) (v:=.string A) (gT_ rfl) (fun W hW=>by have hf:=HF4.out.trans (Fr.of_below hW _);have d0:=HA.out W hf;clear hf hW;go_simp) (u_ ?_);(iterate 3 refine dN_ 1 (gT_ rfl) (fun W hW=>by clear hW;go_simp;rfl) (u_ ?_));have HW1:=h_ hHeld;refine Zq (i:=5) (gT_ rfl) k_ k_ (fun K hK=>?_);clear hHeld;rw [if_pos n19_];go_simp;refine (HN1.out _).mono ?_;rintro e wc1 ⟨rfl,hb⟩;have HV1:=h_ (HW1.out.trans (hb.mono HW1.out.size));clear hb;refine hK.out _ _ HV1.out (fun hHeld=>?_);clear hK K;refine u_ ?_;refine dT_ (i:=13) (v:=.pointer (some ⟨w.heap.size+1,0,none⟩)) (gT_ rfl) (fun W hW=>by clear hW;go_simp) (u_ ?_);have HW2:=h_ hHeld;refine Zq (i:=12) (gT_ rfl) k_ k_ (fun K hK=>?_);clear hHeld;rw [if_pos n19_];go_simp;refine (HN2.out _).mono ?_;rintro e wc2 ⟨rfl,hb⟩;have HV2:=h_ (HW2.out.trans (hb.mono HW2.out.size));clear hb;refine hK.out _ _ HV2.out (fun hHeld=>?_);clear hK K;refine u_ ?_;refine Zr k_ ?_;clear hHeld;have HB7:=h_ (HB4.out.trans (HV2.out.mono HB4.out.size));have HX7:=h_ (Za HX4.out HV2.out);have HP7:=h_ (Za HP4.out HV2.out);clear HA HN1 HN2 HW1 HW2 HV1 HV2 HBJ HE1 HE2 hkw;generalize wc2=w7 at *;obtain ⟨x0,x1,x2,y0,y1,y2⟩:=Zd HX7.out;obtain ⟨p0,p1,p2,r0,r1,r2⟩:=Zd HP7.out;go_wp2_with fail;have hP8:=heap_setCell (heap_setCell HP7.out 0 (.int .i64 m1)) 1 (.int .i64 m2);have HP9:=h_ (show ((w7.setCell ⟨w.heap.size+1,0,none⟩ (.int .i64 m1)).setCell ⟨w.heap.size+1,1,none⟩ (.int .i64 m2)).heap[w.heap.size+1]?=some (.cells #[.int .i64 m1,.int .i64 m2,.int .i64 m0] 233 (0,0)) from by simpa using hP8);have HX9:=h_ (Zk (Zk HX7.out (a:=⟨w.heap.size+1,0,none⟩) s_ (.int .i64 m1)) (a:=⟨w.heap.size+1,1,none⟩) s_ (.int .i64 m2));have HB9:=h_ ((HB7.out.setCell (p:=⟨w.heap.size+1,0,none⟩) s_ (.int .i64 m1)).setCell (p:=⟨w.heap.size+1,1,none⟩) s_ (.int .i64 m2));clear hP8 HB7 HX7 HP7;clear x0 x1 x2 y0 y1 y2 p0 p1 p2 r0 r1 r2;generalize (w7.setCell ⟨w.heap.size+1,0,none⟩ (.int .i64 m1)).setCell ⟨w.heap.size+1,1,none⟩ (.int .i64 m2)=w9 at *;cases ok1 with
     |false=>
      have hg1:¬(0:Int)<=m1:=n101_;have hg2:¬m1>=(0:Int):=hg1;have hg3:m1<0:=o_;have HR:=h_ (show ZF s.data.toList=none by rw [HR0.out];simp);clear HR0 HG1 HG2;refine Zi (S:=fun V=>V.heap[w.heap.size+1]?=some (.cells #[.int .i64 m1,.int .i64 m2,.int .i64 m0] 233 (0,0))) 10 k_ k_ n93_ (fun hHeld=>?_);refine u_ ?_;(iterate 3 refine dN_ 0 (gT_ rfl) (fun W hW=>by obtain ⟨p0,p1,p2,-,-,-⟩:=Zd hW;clear hW;go_simp;rfl) (u_ ?_));refine dT_ (i:=3) (v:=.bool false) (gT_ rfl) (fun W hW=>by obtain ⟨p0,p1,p2,-,-,-⟩:=Zd hW;clear hW;go_simp) (u_ ?_);refine dT_ (i:=4) (v:=.bool false) (gT_ rfl) (fun W hW=>by obtain ⟨p0,p1,p2,-,-,-⟩:=Zd hW;clear hW;go_simp) (u_ ?_);refine ZK (i:=5) (v:=undef) (gT_ rfl) k_ k_ k_ k_ (fun _ _ _ h=>h) (Or.inr ⟨n19_,rfl⟩) a_ ?_;refine u_ ?_;refine ZK (i:=6) (v:=undef) (gT_ rfl) k_ k_ k_ k_ (fun _ _ _ h=>h) (Or.inr ⟨n19_,rfl⟩) a_ ?_;refine u_ ?_;refine ZK (i:=7) (v:=undef) (gT_ rfl) k_ k_ k_ k_ (fun _ _ _ h=>h) (Or.inr ⟨n19_,rfl⟩) a_ ?_;refine u_ ?_;exact m173_
     |true=>
      have hg1:(0:Int)<=m1:=n101_;have hg2:m1>=(0:Int):=hg1;cases ok2 with
      |false=>
       have hh1:¬(0:Int)<=m2:=n102_;have hh2:¬m2>=(0:Int):=hh1;have hh3:m2<0:=o_;have HR:=h_ (show ZF s.data.toList=none by rw [HR0.out];simp);clear HR0 HG1 HG2;refine Zi (S:=fun V=>V.heap[w.heap.size+1]?=some (.cells #[.int .i64 m1,.int .i64 m2,.int .i64 m0] 233 (0,0))) 10 k_ k_ n93_ (fun hHeld=>?_);refine u_ ?_;(iterate 3 refine dN_ 0 (gT_ rfl) (fun W hW=>by obtain ⟨p0,p1,p2,-,-,-⟩:=Zd hW;clear hW;go_simp;rfl) (u_ ?_));refine dT_ (i:=3) (v:=.bool true) (gT_ rfl) (fun W hW=>by obtain ⟨p0,p1,p2,-,-,-⟩:=Zd hW;clear hW;go_simp) (u_ ?_);refine dT_ (i:=4) (v:=.bool true) (gT_ rfl) (fun W hW=>by obtain ⟨p0,p1,p2,-,-,-⟩:=Zd hW;clear hW;go_simp) (u_ ?_);(iterate 2 refine dN_ 0 (gT_ rfl) (fun W hW=>by obtain ⟨p0,p1,p2,-,-,-⟩:=Zd hW;clear hW;go_simp;rfl) (u_ ?_));refine dT_ (i:=7) (v:=.bool false) (gT_ rfl) (fun W hW=>by obtain ⟨p0,p1,p2,-,-,-⟩:=Zd hW;clear hW;go_simp) (u_ ?_);exact m173_
      |true=>
       have hh1:(0:Int)<=m2:=n102_;have hh2:m2>=(0:Int):=hh1;have HR:=h_ (show ZF s.data.toList=some ⟨m1,m2,m0⟩ by rw [HR0.out];simp);clear HR0 HG1 HG2;refine Zi (S:=fun V=>V.heap[w.heap.size+1]?=some (.cells #[.int .i64 m1,.int .i64 m2,.int .i64 m0] 233 (0,0))) 10 k_ k_ n93_ (fun hHeld=>?_);refine u_ ?_;(iterate 3 refine dN_ 0 (gT_ rfl) (fun W hW=>by obtain ⟨p0,p1,p2,-,-,-⟩:=Zd hW;clear hW;go_simp;rfl) (u_ ?_));refine dT_ (i:=3) (v:=.bool true) (gT_ rfl) (fun W hW=>by obtain ⟨p0,p1,p2,-,-,-⟩:=Zd hW;clear hW;go_simp) (u_ ?_);refine dT_ (i:=4) (v:=.bool true) (gT_ rfl) (fun W hW=>by obtain ⟨p0,p1,p2,-,-,-⟩:=Zd hW;clear hW;go_simp) (u_ ?_);(iterate 2 refine dN_ 0 (gT_ rfl) (fun W hW=>by obtain ⟨p0,p1,p2,-,-,-⟩:=Zd hW;clear hW;go_simp;rfl) (u_ ?_));refine dT_ (i:=7) (v:=.bool true) (gT_ rfl) (fun W hW=>by obtain ⟨p0,p1,p2,-,-,-⟩:=Zd hW;clear hW;go_simp) (u_ ?_);refine dT_ (i:=8) (v:=.bool true) (gT_ rfl) (fun W hW=>by obtain ⟨p0,p1,p2,-,-,-⟩:=Zd hW;clear hW;go_simp) (u_ ?_);exact m165_
 ·have hn2:(n:Int)>2:=by rw [hn];simp;omega
  have hn3:(2:Int)<(n:Int):=hn2;have HR:=h_ (show ZF s.data.toList=none from HPT.out);clear HPT HMEM hl0 hn;obtain ⟨x0,x1,x2,y0,y1,y2⟩:=Zd HX1.out;obtain ⟨p0,p1,p2,r0,r1,r2⟩:=Zd HP1.out;exact m169_
end Go.Proofs.YtgoooebfhdbbkaaGreatDoor
