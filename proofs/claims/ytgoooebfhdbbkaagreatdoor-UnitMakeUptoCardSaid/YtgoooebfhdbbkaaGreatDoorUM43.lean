import Derived.Test.YtgoooebfhdbbkaaGreatDoorUM19
namespace Go.Proofs.YtgoooebfhdbbkaaGreatDoor
open Go.Proofs.Tryz
open Go Go.RowKit
set_option linter.unusedVariables false
set_option linter.unusedSimpArgs false
set_option maxHeartbeats 16000000
set_option maxRecDepth 100000
theorem m178_{p:Prop}(h:p:=by
  have HWZ:=h_ hHeld;refine wpAnyH_ready (rs:=[31]) k_ s_ (AllReadyH.cons (gT_ rfl) (fun K hK=>?_) (AllReadyH.nil));clear hHeld
  first|(rw [if_pos n19_];go_simp)|go_simp
  refine hK.out _ _ HWZ.out (fun hHeld=>?_);clear hK K;refine u_ ?_;refine wpAnyH_done k_ ?_ _;clear hHeld;go_wp2_with fail;go_ret;exact ⟨n4_,HB2.out.trans (HWZ.out.mono HB2.out.size)⟩):p:=h
theorem m179_{p:Prop}(h:p:=by go_wp2_with fail;go_ret;exact ⟨rfl,b_.alloc l_ _⟩):p:=h
theorem m180_{p:Prop}(h:p:=by clear hr;go_enter func230,ntmps230;go_wp2_with fail;go_ret;exact ⟨n4_,HB1.out⟩):p:=h
theorem m181_{p:Prop}(h:p:=by refine dB_ (i:=11) (v:=.bool false) (gT_ rfl) (fun W hW=>by clear hW;go_simp) (u_ ?_);refine dB_ (i:=12) (v:=.bool false) (gT_ rfl) (fun W hW=>by clear hW;go_simp) (u_ ?_);refine dU_ (i:=13) (gT_ rfl) (u_ ?_);refine dU_ (i:=14) (gT_ rfl) (u_ ?_);refine dU_ (i:=15) (gT_ rfl) (u_ ?_);refine dU_ (i:=16) (gT_ rfl) (u_ ?_);refine dU_ (i:=17) (gT_ rfl) (u_ ?_);refine dU_ (i:=18) (gT_ rfl) (u_ ?_);refine dU_ (i:=19) (gT_ rfl) (u_ ?_);refine dU_ (i:=20) (gT_ rfl) (u_ ?_);refine dU_ (i:=21) (gT_ rfl) (u_ ?_);refine dU_ (i:=22) (gT_ rfl) (u_ ?_);refine dU_ (i:=23) (gT_ rfl) (u_ ?_);refine dU_ (i:=24) (gT_ rfl) (u_ ?_);refine dU_ (i:=25) (gT_ rfl) (u_ ?_);refine dU_ (i:=26) (gT_ rfl) (u_ ?_);refine dU_ (i:=27) (gT_ rfl) (u_ ?_);refine dU_ (i:=28) (gT_ rfl) (u_ ?_);refine dU_ (i:=29) (gT_ rfl) (u_ ?_);exact m186_):p:=h
theorem m182_{p:Prop}(h:p:=by refine dB_ (i:=28) (v:=.bool false) (gT_ rfl) (fun W hW=>by clear hW;go_simp) (u_ ?_);refine dB_ (i:=29) (v:=.bool false) (gT_ rfl) (fun W hW=>by clear hW;go_simp) (u_ ?_);exact m186_):p:=h
theorem m183_{p:Prop}(h:p:=by refine dB_ (i:=29) (v:=.bool true) (gT_ rfl) (fun W hW=>by clear hW;go_simp) (u_ ?_);refine dB_ (i:=30) (v:=.bool true) (gT_ rfl) (fun W hW=>by clear hW;go_simp) (u_ ?_);exact m178_):p:=h
theorem m184_{p:Prop}(h:p:=by go_enter func241,ntmps241;exact m179_):p:=h
theorem m185_{p:Prop}(h:p:=by go_enter func242,ntmps242;exact m179_):p:=h
theorem m186_{p:Prop}(h:p:=by refine dB_ (i:=30) (v:=.bool false) (gT_ rfl) (fun W hW=>by clear hW;go_simp) (u_ ?_);exact m178_):p:=h
theorem Zm3(f:Nat)(hf:f<6)(w:World):Calls prog 241 #[.int .i64 f] w fun e w'=>e=.returned (.int .i64 (Zai f).1)/\Below w.heap.size w w':=by
 match f,hf with
 |0,_=>
  exact m184_
 |1,_=>
  exact m184_
 |2,_=>
  exact m184_
 |3,_=>
  exact m184_
 |4,_=>
  exact m184_
 |5,_=>
  exact m184_
theorem Zo3(f:Nat)(hf:f<6)(w:World):Calls prog 242 #[.int .i64 f] w fun e w'=>e=.returned (.int .i64 (Zai f).2)/\Below w.heap.size w w':=by
 match f,hf with
 |0,_=>
  exact m185_
 |1,_=>
  exact m185_
 |2,_=>
  exact m185_
 |3,_=>
  exact m185_
 |4,_=>
  exact m185_
 |5,_=>
  exact m185_
theorem ZnB(cs:Array Value)(days:List Int)(fs:List (List Yc))(w:World)(h:ZcR w cs days fs)(f:Nat)(hf:f<6) :
  Calls prog 229 #[.agg cs,.int .i64 f] w fun e w'=>∃oa cap,e=.returned (.slice oa (fs.getD f []).length cap)/\ZB Yl 3 w' oa (fs.getD f [])/\Below w.heap.size w w':=by
 obtain ⟨c0,c1,c2,c3,c4,c5,c6,rfl⟩:∃c0 c1 c2 c3 c4 c5 c6,cs=#[c0,c1,c2,c3,c4,c5,c6]:=by
  obtain ⟨l⟩:=cs
  have:=h.size
  match l,this with
  |[a0,a1,a2,a3,a4,a5,a6],_=>exact ⟨a0,a1,a2,a3,a4,a5,a6,rfl⟩
 obtain ⟨da,dc,hd0,hdr⟩:=h.days;obtain rfl:c0=.slice da days.length dc:=by simpa using hd0
 obtain ⟨o1,k1,e1,r1⟩:=h.fields 0 o_;obtain rfl:c1=.slice o1 (fs.getD 0 []).length k1:=by simpa using e1
 obtain ⟨o2,k2,e2,r2⟩:=h.fields 1 o_;obtain rfl:c2=.slice o2 (fs.getD 1 []).length k2:=by simpa using e2
 obtain ⟨o3,k3,e3,r3⟩:=h.fields 2 o_;obtain rfl:c3=.slice o3 (fs.getD 2 []).length k3:=by simpa using e3
 obtain ⟨o4,k4,e4,r4⟩:=h.fields 3 o_;obtain rfl:c4=.slice o4 (fs.getD 3 []).length k4:=by simpa using e4
 obtain ⟨o5,k5,e5,r5⟩:=h.fields 4 o_;obtain rfl:c5=.slice o5 (fs.getD 4 []).length k5:=by simpa using e5
 obtain ⟨o6,k6,e6,r6⟩:=h.fields 5 o_;obtain rfl:c6=.slice o6 (fs.getD 5 []).length k6:=by simpa using e6
 have HR1:=h_ r1;have HR2:=h_ r2;have HR3:=h_ r3;have HR4:=h_ r4;have HR5:=h_ r5;have HR6:=h_ r6;clear hd0 e1 e2 e3 e4 e5 e6 r1 r2 r3 r4 r5 r6 hdr h;obtain ⟨l1,hl1⟩:=e_ (fs.getD 0 []);rw [<-hl1] at HR1;(try rw [<-hl1]);obtain ⟨l2,hl2⟩:=e_ (fs.getD 1 []);rw [<-hl2] at HR2;(try rw [<-hl2]);obtain ⟨l3,hl3⟩:=e_ (fs.getD 2 []);rw [<-hl3] at HR3;(try rw [<-hl3]);obtain ⟨l4,hl4⟩:=e_ (fs.getD 3 []);rw [<-hl4] at HR4;(try rw [<-hl4]);obtain ⟨l5,hl5⟩:=e_ (fs.getD 4 []);rw [<-hl5] at HR5;(try rw [<-hl5]);obtain ⟨l6,hl6⟩:=e_ (fs.getD 5 []);rw [<-hl6] at HR6;(try rw [<-hl6]);obtain ⟨n1,hn1⟩:=e_ l1.length;obtain ⟨n2,hn2⟩:=e_ l2.length;obtain ⟨n3,hn3⟩:=e_ l3.length;obtain ⟨n4,hn4⟩:=e_ l4.length;obtain ⟨n5,hn5⟩:=e_ l5.length;obtain ⟨n6,hn6⟩:=e_ l6.length;(try simp only [<-hn1,<-hn2,<-hn3,<-hn4,<-hn5,<-hn6]);have HN1:=h_ hn1;have HN2:=h_ hn2;have HN3:=h_ hn3;have HN4:=h_ hn4;have HN5:=h_ hn5;have HN6:=h_ hn6;have HL1:=h_ hl1;have HL2:=h_ hl2;have HL3:=h_ hl3;have HL4:=h_ hl4;have HL5:=h_ hl5;have HL6:=h_ hl6;clear hn1 hn2 hn3 hn4 hn5 hn6 hl1 hl2 hl3 hl4 hl5 hl6;match f,hf with
 |0,_=>
  go_enter func229,ntmps229;go_wp2_with fail;go_ret;have hb:Below w.heap.size w ((w.alloc (.cells #[.slice da days.length dc,.slice o1 n1 k1,.slice o2 n2 k2,.slice o3 n3 k3,.slice o4 n4 k4,.slice o5 n5 k5,.slice o6 n6 k6] 177)).alloc (.cells #[.slice o1 n1 k1,.slice o2 n2 k2,.slice o3 n3 k3,.slice o4 n4 k4,.slice o5 n5 k5,.slice o6 n6 k6] 175)):=(b_.alloc l_ _).alloc s_ _;exact ⟨o1,k1,by rw [<-HL1.out,<-HN1.out];rfl,by rw [<-HL1.out];exact HR1.out.below hb,hb⟩
 |1,_=>
  go_enter func229,ntmps229;go_wp2_with fail;go_ret;have hb:Below w.heap.size w ((w.alloc (.cells #[.slice da days.length dc,.slice o1 n1 k1,.slice o2 n2 k2,.slice o3 n3 k3,.slice o4 n4 k4,.slice o5 n5 k5,.slice o6 n6 k6] 177)).alloc (.cells #[.slice o1 n1 k1,.slice o2 n2 k2,.slice o3 n3 k3,.slice o4 n4 k4,.slice o5 n5 k5,.slice o6 n6 k6] 175)):=(b_.alloc l_ _).alloc s_ _;exact ⟨o2,k2,by rw [<-HL2.out,<-HN2.out];rfl,by rw [<-HL2.out];exact HR2.out.below hb,hb⟩
 |2,_=>
  go_enter func229,ntmps229;go_wp2_with fail;go_ret;have hb:Below w.heap.size w ((w.alloc (.cells #[.slice da days.length dc,.slice o1 n1 k1,.slice o2 n2 k2,.slice o3 n3 k3,.slice o4 n4 k4,.slice o5 n5 k5,.slice o6 n6 k6] 177)).alloc (.cells #[.slice o1 n1 k1,.slice o2 n2 k2,.slice o3 n3 k3,.slice o4 n4 k4,.slice o5 n5 k5,.slice o6 n6 k6] 175)):=(b_.alloc l_ _).alloc s_ _;exact ⟨o3,k3,by rw [<-HL3.out,<-HN3.out];rfl,by rw [<-HL3.out];exact HR3.out.below hb,hb⟩
 |3,_=>
  go_enter func229,ntmps229;go_wp2_with fail;go_ret;have hb:Below w.heap.size w ((w.alloc (.cells #[.slice da days.length dc,.slice o1 n1 k1,.slice o2 n2 k2,.slice o3 n3 k3,.slice o4 n4 k4,.slice o5 n5 k5,.slice o6 n6 k6] 177)).alloc (.cells #[.slice o1 n1 k1,.slice o2 n2 k2,.slice o3 n3 k3,.slice o4 n4 k4,.slice o5 n5 k5,.slice o6 n6 k6] 175)):=(b_.alloc l_ _).alloc s_ _;exact ⟨o4,k4,by rw [<-HL4.out,<-HN4.out];rfl,by rw [<-HL4.out];exact HR4.out.below hb,hb⟩
 |4,_=>
  go_enter func229,ntmps229;go_wp2_with fail;go_ret;have hb:Below w.heap.size w ((w.alloc (.cells #[.slice da days.length dc,.slice o1 n1 k1,.slice o2 n2 k2,.slice o3 n3 k3,.slice o4 n4 k4,.slice o5 n5 k5,.slice o6 n6 k6] 177)).alloc (.cells #[.slice o1 n1 k1,.slice o2 n2 k2,.slice o3 n3 k3,.slice o4 n4 k4,.slice o5 n5 k5,.slice o6 n6 k6] 175)):=(b_.alloc l_ _).alloc s_ _;exact ⟨o5,k5,by rw [<-HL5.out,<-HN5.out];rfl,by rw [<-HL5.out];exact HR5.out.below hb,hb⟩
 |5,_=>
  go_enter func229,ntmps229;go_wp2_with fail;go_ret;have hb:Below w.heap.size w ((w.alloc (.cells #[.slice da days.length dc,.slice o1 n1 k1,.slice o2 n2 k2,.slice o3 n3 k3,.slice o4 n4 k4,.slice o5 n5 k5,.slice o6 n6 k6] 177)).alloc (.cells #[.slice o1 n1 k1,.slice o2 n2 k2,.slice o3 n3 k3,.slice o4 n4 k4,.slice o5 n5 k5,.slice o6 n6 k6] 175)):=(b_.alloc l_ _).alloc s_ _;exact ⟨o6,k6,by rw [<-HL6.out,<-HN6.out];rfl,by rw [<-HL6.out];exact HR6.out.below hb,hb⟩
theorem Zic(p:Yc)(f:Nat)(hf:f<6)(w:World)(r:Bool)(hr:XB p f=r) :
  Calls prog 230 #[.agg (Yl p).toArray,.int .i64 f] w fun e w'=>e=.returned (.bool r)/\Below w.heap.size w w':=by
 obtain ⟨pf,pt,ps⟩:=p;have HLO:=h_ (fun V=>Zm3 f hf V);have HHI:=h_ (fun V=>Zo3 f hf V);unfold XB at hr;simp only at hr;unfold Yl;simp only;obtain ⟨lo,hlo⟩:=e_ ((Zai f).1);obtain ⟨hi,hhi⟩:=e_ ((Zai f).2);rw [<-hlo] at HLO hr;rw [<-hhi] at HHI hr;have HB1:=h_ ((Below.refl w.heap.size w).alloc l_ (.cells #[.int .i64 pf,.int .i64 pt,.int .i64 ps] 233));have HN1:=h_ (show (w.alloc (.cells #[.int .i64 pf,.int .i64 pt,.int .i64 ps] 233)).heap[w.heap.size]?=some (.cells #[.int .i64 pf,.int .i64 pt,.int .i64 ps] 233 (0,0)) from heap_alloc_new w _);clear hlo hhi;by_cases h1:ps<0
 ·have h1b:¬(9999<ps):=o_
  have HR:=h_ (show false=r by rw [<-hr];simp [h1]);exact m180_
 ·by_cases h2:9999<ps
  ·have h2b:ps>9999:=h2
   have HR:=h_ (show false=r by rw [<-hr];simp [h2]);exact m180_
  ·have h2b:¬ps>9999:=h2
   rw [if_neg o_] at hr;by_cases h3:pf = -1
   ·rw [if_pos h3] at hr
    subst h3;by_cases h4:pt = -1
    ·subst h4
     have HR:=h_ (show true=r by rw [<-hr];rfl);exact m180_
    ·have h4b:(pt==-1)=false:=n40_
     have HR:=h_ (show false=r by rw [<-hr,h4b]);exact m180_
   ·rw [if_neg h3] at hr
    have h3b:(pf==-1)=false:=n39_;by_cases h5:pf<lo
    ·have h5b:¬lo<=pf:=o_
     have h5c:¬pf>=lo:=o_;have HR:=h_ (show false=r by rw [<-hr];simp [h5]);clear hr;go_enter func230,ntmps230;go_wp2_with fail;obtain ⟨N,hN⟩:=e_ w.heap.size;have HB2:=h_ HB1.out;have HN2:=h_ HN1.out;clear HB1 HN1;rw [<-hN] at HN2⊢;have HNN:=h_ hN;clear hN;obtain ⟨w1,hw1⟩:=e_ (w.alloc (.cells #[.int .i64 pf,.int .i64 pt,.int .i64 ps] 233));rw [<-hw1] at HB2 HN2⊢;clear hw1;refine wp_region_held_drew (S:=fun V=>Below w1.heap.size w1 V) k_ (Zb ⟨1,rfl⟩) (fun hHeld=>?_);refine u_ ?_;(iterate 2 refine dA_ 0 (gT_ rfl) (fun W hW=>by have hp:=Za HN2.out hW;obtain ⟨p0,p1,p2,-,-,-⟩:=Zd hp;clear hW hp;go_simp;rfl) (u_ ?_));refine dB_ (i:=2) (v:=.int .i64 f) (gT_ rfl) (fun W hW=>by clear hW;go_simp) (u_ ?_);have HW1:=h_ hHeld;refine wpAnyH_ready (rs:=[3]) k_ s_ (AllReadyH.cons (gT_ rfl) (fun K hK=>?_) (AllReadyH.nil));clear hHeld
     first|(rw [if_pos n19_];go_simp)|go_simp
     refine (HLO.out _).mono ?_;rintro e wc2 ⟨rfl,hb⟩;have HW2:=h_ (HW1.out.trans (hb.mono HW1.out.size));clear hb;refine hK.out _ _ HW2.out (fun hHeld=>?_);clear hK K;refine u_ ?_;refine dB_ (i:=4) (v:=.bool false) (gT_ rfl) (fun W hW=>by clear hW;go_simp) (u_ ?_);refine dB_ (i:=5) (v:=.bool false) (gT_ rfl) (fun W hW=>by clear hW;go_simp) (u_ ?_);refine dU_ (i:=6) (gT_ rfl) (u_ ?_);refine dU_ (i:=7) (gT_ rfl) (u_ ?_);refine dU_ (i:=8) (gT_ rfl) (u_ ?_);refine dU_ (i:=9) (gT_ rfl) (u_ ?_);refine dU_ (i:=10) (gT_ rfl) (u_ ?_);exact m181_
    ·have h5b:lo<=pf:=o_
     have h5c:pf>=lo:=o_;by_cases h6:hi<pf
     ·have h6b:¬pf<=hi:=o_
      have HR:=h_ (show false=r by rw [<-hr];simp [h6]);clear hr;go_enter func230,ntmps230;go_wp2_with fail;obtain ⟨N,hN⟩:=e_ w.heap.size;have HB2:=h_ HB1.out;have HN2:=h_ HN1.out;clear HB1 HN1;rw [<-hN] at HN2⊢;have HNN:=h_ hN;clear hN;obtain ⟨w1,hw1⟩:=e_ (w.alloc (.cells #[.int .i64 pf,.int .i64 pt,.int .i64 ps] 233));rw [<-hw1] at HB2 HN2⊢;clear hw1;refine wp_region_held_drew (S:=fun V=>Below w1.heap.size w1 V) k_ (Zb ⟨1,rfl⟩) (fun hHeld=>?_);refine u_ ?_;(iterate 2 refine dA_ 0 (gT_ rfl) (fun W hW=>by have hp:=Za HN2.out hW;obtain ⟨p0,p1,p2,-,-,-⟩:=Zd hp;clear hW hp;go_simp;rfl) (u_ ?_));refine dB_ (i:=2) (v:=.int .i64 f) (gT_ rfl) (fun W hW=>by clear hW;go_simp) (u_ ?_);have HW1:=h_ hHeld;refine wpAnyH_ready (rs:=[3]) k_ s_ (AllReadyH.cons (gT_ rfl) (fun K hK=>?_) (AllReadyH.nil));clear hHeld
      first|(rw [if_pos n19_];go_simp)|go_simp
      refine (HLO.out _).mono ?_;rintro e wc2 ⟨rfl,hb⟩;have HW2:=h_ (HW1.out.trans (hb.mono HW1.out.size));clear hb;refine hK.out _ _ HW2.out (fun hHeld=>?_);clear hK K;refine u_ ?_;refine dB_ (i:=4) (v:=.bool true) (gT_ rfl) (fun W hW=>by clear hW;go_simp) (u_ ?_);refine dB_ (i:=5) (v:=.bool true) (gT_ rfl) (fun W hW=>by clear hW;go_simp) (u_ ?_);(iterate 2 refine dA_ 0 (gT_ rfl) (fun W hW=>by have hp:=Za HN2.out hW;obtain ⟨p0,p1,p2,-,-,-⟩:=Zd hp;clear hW hp;go_simp;rfl) (u_ ?_));refine dB_ (i:=8) (v:=.int .i64 f) (gT_ rfl) (fun W hW=>by clear hW;go_simp) (u_ ?_);have HW2:=h_ hHeld;refine wpAnyH_ready (rs:=[9]) k_ s_ (AllReadyH.cons (gT_ rfl) (fun K hK=>?_) (AllReadyH.nil));clear hHeld
      first|(rw [if_pos n19_];go_simp)|go_simp
      refine (HHI.out _).mono ?_;rintro e wc3 ⟨rfl,hb⟩;have HW3:=h_ (HW2.out.trans (hb.mono HW2.out.size));clear hb;refine hK.out _ _ HW3.out (fun hHeld=>?_);clear hK K;refine u_ ?_;refine dB_ (i:=10) (v:=.bool false) (gT_ rfl) (fun W hW=>by clear hW;go_simp) (u_ ?_);exact m181_
     ·have h6b:pf<=hi:=o_
      rw [if_neg o_] at hr;by_cases h7:pt = -1
      ·have h7b:(pt==-1)=true:=by rw [h7];rfl
       clear h7;have HR:=h_ (show true=r by rw [<-hr,h7b];rfl);clear hr;go_enter func230,ntmps230;go_wp2_with fail;obtain ⟨N,hN⟩:=e_ w.heap.size;have HB2:=h_ HB1.out;have HN2:=h_ HN1.out;clear HB1 HN1;rw [<-hN] at HN2⊢;have HNN:=h_ hN;clear hN;obtain ⟨w1,hw1⟩:=e_ (w.alloc (.cells #[.int .i64 pf,.int .i64 pt,.int .i64 ps] 233));rw [<-hw1] at HB2 HN2⊢;clear hw1;refine wp_region_held_drew (S:=fun V=>Below w1.heap.size w1 V) k_ (Zb ⟨1,rfl⟩) (fun hHeld=>?_);refine u_ ?_;(iterate 2 refine dA_ 0 (gT_ rfl) (fun W hW=>by have hp:=Za HN2.out hW;obtain ⟨p0,p1,p2,-,-,-⟩:=Zd hp;clear hW hp;go_simp;rfl) (u_ ?_));refine dB_ (i:=2) (v:=.int .i64 f) (gT_ rfl) (fun W hW=>by clear hW;go_simp) (u_ ?_);have HW1:=h_ hHeld;refine wpAnyH_ready (rs:=[3]) k_ s_ (AllReadyH.cons (gT_ rfl) (fun K hK=>?_) (AllReadyH.nil));clear hHeld
       first|(rw [if_pos n19_];go_simp)|go_simp
       refine (HLO.out _).mono ?_;rintro e wc2 ⟨rfl,hb⟩;have HW2:=h_ (HW1.out.trans (hb.mono HW1.out.size));clear hb;refine hK.out _ _ HW2.out (fun hHeld=>?_);clear hK K;refine u_ ?_;refine dB_ (i:=4) (v:=.bool true) (gT_ rfl) (fun W hW=>by clear hW;go_simp) (u_ ?_);refine dB_ (i:=5) (v:=.bool true) (gT_ rfl) (fun W hW=>by clear hW;go_simp) (u_ ?_);(iterate 2 refine dA_ 0 (gT_ rfl) (fun W hW=>by have hp:=Za HN2.out hW;obtain ⟨p0,p1,p2,-,-,-⟩:=Zd hp;clear hW hp;go_simp;rfl) (u_ ?_));refine dB_ (i:=8) (v:=.int .i64 f) (gT_ rfl) (fun W hW=>by clear hW;go_simp) (u_ ?_);have HW2:=h_ hHeld;refine wpAnyH_ready (rs:=[9]) k_ s_ (AllReadyH.cons (gT_ rfl) (fun K hK=>?_) (AllReadyH.nil));clear hHeld
       first|(rw [if_pos n19_];go_simp)|go_simp
       refine (HHI.out _).mono ?_;rintro e wc3 ⟨rfl,hb⟩;have HW3:=h_ (HW2.out.trans (hb.mono HW2.out.size));clear hb;refine hK.out _ _ HW3.out (fun hHeld=>?_);clear hK K;refine u_ ?_;refine dB_ (i:=10) (v:=.bool true) (gT_ rfl) (fun W hW=>by clear hW;go_simp) (u_ ?_);refine dB_ (i:=11) (v:=.bool true) (gT_ rfl) (fun W hW=>by clear hW;go_simp) (u_ ?_);refine dB_ (i:=12) (v:=.bool true) (gT_ rfl) (fun W hW=>by clear hW;go_simp) (u_ ?_);(iterate 2 refine dA_ 0 (gT_ rfl) (fun W hW=>by have hp:=Za HN2.out hW;obtain ⟨p0,p1,p2,-,-,-⟩:=Zd hp;clear hW hp;go_simp;rfl) (u_ ?_));refine dB_ (i:=15) (v:=.bool true) (gT_ rfl) (fun W hW=>by clear hW;go_simp) (u_ ?_);refine dB_ (i:=16) (v:=.bool true) (gT_ rfl) (fun W hW=>by clear hW;go_simp) (u_ ?_);refine dU_ (i:=17) (gT_ rfl) (u_ ?_);refine dU_ (i:=18) (gT_ rfl) (u_ ?_);refine dU_ (i:=19) (gT_ rfl) (u_ ?_);refine dU_ (i:=20) (gT_ rfl) (u_ ?_);refine dU_ (i:=21) (gT_ rfl) (u_ ?_);refine dU_ (i:=22) (gT_ rfl) (u_ ?_);refine dU_ (i:=23) (gT_ rfl) (u_ ?_);refine dU_ (i:=24) (gT_ rfl) (u_ ?_);refine dU_ (i:=25) (gT_ rfl) (u_ ?_);refine dU_ (i:=26) (gT_ rfl) (u_ ?_);refine dU_ (i:=27) (gT_ rfl) (u_ ?_);refine dU_ (i:=28) (gT_ rfl) (u_ ?_);exact m183_
      ·have h7b:(pt==-1)=false:=n90_
       rw [h7b] at hr;by_cases h8:pf<=pt
       ·have h8b:pt>=pf:=h8
        by_cases h9:pt<=hi
        ·skip
         have HR:=h_ (show true=r by rw [<-hr,decide_eq_true h8,decide_eq_true h9];rfl);clear hr;go_enter func230,ntmps230;go_wp2_with fail;obtain ⟨N,hN⟩:=e_ w.heap.size;have HB2:=h_ HB1.out;have HN2:=h_ HN1.out;clear HB1 HN1;rw [<-hN] at HN2⊢;have HNN:=h_ hN;clear hN;obtain ⟨w1,hw1⟩:=e_ (w.alloc (.cells #[.int .i64 pf,.int .i64 pt,.int .i64 ps] 233));rw [<-hw1] at HB2 HN2⊢;clear hw1;refine wp_region_held_drew (S:=fun V=>Below w1.heap.size w1 V) k_ (Zb ⟨1,rfl⟩) (fun hHeld=>?_);refine u_ ?_;(iterate 2 refine dA_ 0 (gT_ rfl) (fun W hW=>by have hp:=Za HN2.out hW;obtain ⟨p0,p1,p2,-,-,-⟩:=Zd hp;clear hW hp;go_simp;rfl) (u_ ?_));refine dB_ (i:=2) (v:=.int .i64 f) (gT_ rfl) (fun W hW=>by clear hW;go_simp) (u_ ?_);have HW1:=h_ hHeld;refine wpAnyH_ready (rs:=[3]) k_ s_ (AllReadyH.cons (gT_ rfl) (fun K hK=>?_) (AllReadyH.nil));clear hHeld
         first|(rw [if_pos n19_];go_simp)|go_simp
         refine (HLO.out _).mono ?_;rintro e wc2 ⟨rfl,hb⟩;have HW2:=h_ (HW1.out.trans (hb.mono HW1.out.size));clear hb;refine hK.out _ _ HW2.out (fun hHeld=>?_);clear hK K;refine u_ ?_;refine dB_ (i:=4) (v:=.bool true) (gT_ rfl) (fun W hW=>by clear hW;go_simp) (u_ ?_);refine dB_ (i:=5) (v:=.bool true) (gT_ rfl) (fun W hW=>by clear hW;go_simp) (u_ ?_);(iterate 2 refine dA_ 0 (gT_ rfl) (fun W hW=>by have hp:=Za HN2.out hW;obtain ⟨p0,p1,p2,-,-,-⟩:=Zd hp;clear hW hp;go_simp;rfl) (u_ ?_));refine dB_ (i:=8) (v:=.int .i64 f) (gT_ rfl) (fun W hW=>by clear hW;go_simp) (u_ ?_);have HW2:=h_ hHeld;refine wpAnyH_ready (rs:=[9]) k_ s_ (AllReadyH.cons (gT_ rfl) (fun K hK=>?_) (AllReadyH.nil));clear hHeld
         first|(rw [if_pos n19_];go_simp)|go_simp
         refine (HHI.out _).mono ?_;rintro e wc3 ⟨rfl,hb⟩;have HW3:=h_ (HW2.out.trans (hb.mono HW2.out.size));clear hb;refine hK.out _ _ HW3.out (fun hHeld=>?_);clear hK K;refine u_ ?_;refine dB_ (i:=10) (v:=.bool true) (gT_ rfl) (fun W hW=>by clear hW;go_simp) (u_ ?_);refine dB_ (i:=11) (v:=.bool true) (gT_ rfl) (fun W hW=>by clear hW;go_simp) (u_ ?_);refine dB_ (i:=12) (v:=.bool true) (gT_ rfl) (fun W hW=>by clear hW;go_simp) (u_ ?_);(iterate 2 refine dA_ 0 (gT_ rfl) (fun W hW=>by have hp:=Za HN2.out hW;obtain ⟨p0,p1,p2,-,-,-⟩:=Zd hp;clear hW hp;go_simp;rfl) (u_ ?_));refine dB_ (i:=15) (v:=.bool false) (gT_ rfl) (fun W hW=>by clear hW;go_simp) (u_ ?_);refine dB_ (i:=16) (v:=.bool false) (gT_ rfl) (fun W hW=>by clear hW;go_simp) (u_ ?_);(iterate 4 refine dA_ 0 (gT_ rfl) (fun W hW=>by have hp:=Za HN2.out hW;obtain ⟨p0,p1,p2,-,-,-⟩:=Zd hp;clear hW hp;go_simp;rfl) (u_ ?_));refine dB_ (i:=21) (v:=.bool true) (gT_ rfl) (fun W hW=>by clear hW;go_simp) (u_ ?_);refine dB_ (i:=22) (v:=.bool true) (gT_ rfl) (fun W hW=>by clear hW;go_simp) (u_ ?_);(iterate 2 refine dA_ 0 (gT_ rfl) (fun W hW=>by have hp:=Za HN2.out hW;obtain ⟨p0,p1,p2,-,-,-⟩:=Zd hp;clear hW hp;go_simp;rfl) (u_ ?_));refine dB_ (i:=25) (v:=.int .i64 f) (gT_ rfl) (fun W hW=>by clear hW;go_simp) (u_ ?_);have HW3:=h_ hHeld;refine wpAnyH_ready (rs:=[26]) k_ s_ (AllReadyH.cons (gT_ rfl) (fun K hK=>?_) (AllReadyH.nil));clear hHeld
         first|(rw [if_pos n19_];go_simp)|go_simp
         refine (HHI.out _).mono ?_;rintro e wc4 ⟨rfl,hb⟩;have HW4:=h_ (HW3.out.trans (hb.mono HW3.out.size));clear hb;refine hK.out _ _ HW4.out (fun hHeld=>?_);clear hK K;refine u_ ?_;refine dB_ (i:=27) (v:=.bool true) (gT_ rfl) (fun W hW=>by clear hW;go_simp) (u_ ?_);refine dB_ (i:=28) (v:=.bool true) (gT_ rfl) (fun W hW=>by clear hW;go_simp) (u_ ?_);exact m183_
        ·skip
         have HR:=h_ (show false=r by rw [<-hr,decide_eq_true h8,decide_eq_false h9];rfl);clear hr;go_enter func230,ntmps230;go_wp2_with fail;obtain ⟨N,hN⟩:=e_ w.heap.size;have HB2:=h_ HB1.out;have HN2:=h_ HN1.out;clear HB1 HN1;rw [<-hN] at HN2⊢;have HNN:=h_ hN;clear hN;obtain ⟨w1,hw1⟩:=e_ (w.alloc (.cells #[.int .i64 pf,.int .i64 pt,.int .i64 ps] 233));rw [<-hw1] at HB2 HN2⊢;clear hw1;refine wp_region_held_drew (S:=fun V=>Below w1.heap.size w1 V) k_ (Zb ⟨1,rfl⟩) (fun hHeld=>?_);refine u_ ?_;(iterate 2 refine dA_ 0 (gT_ rfl) (fun W hW=>by have hp:=Za HN2.out hW;obtain ⟨p0,p1,p2,-,-,-⟩:=Zd hp;clear hW hp;go_simp;rfl) (u_ ?_));refine dB_ (i:=2) (v:=.int .i64 f) (gT_ rfl) (fun W hW=>by clear hW;go_simp) (u_ ?_);have HW1:=h_ hHeld;refine wpAnyH_ready (rs:=[3]) k_ s_ (AllReadyH.cons (gT_ rfl) (fun K hK=>?_) (AllReadyH.nil));clear hHeld
         first|(rw [if_pos n19_];go_simp)|go_simp
         refine (HLO.out _).mono ?_;rintro e wc2 ⟨rfl,hb⟩;have HW2:=h_ (HW1.out.trans (hb.mono HW1.out.size));clear hb;refine hK.out _ _ HW2.out (fun hHeld=>?_);clear hK K;refine u_ ?_;refine dB_ (i:=4) (v:=.bool true) (gT_ rfl) (fun W hW=>by clear hW;go_simp) (u_ ?_);refine dB_ (i:=5) (v:=.bool true) (gT_ rfl) (fun W hW=>by clear hW;go_simp) (u_ ?_);(iterate 2 refine dA_ 0 (gT_ rfl) (fun W hW=>by have hp:=Za HN2.out hW;obtain ⟨p0,p1,p2,-,-,-⟩:=Zd hp;clear hW hp;go_simp;rfl) (u_ ?_));refine dB_ (i:=8) (v:=.int .i64 f) (gT_ rfl) (fun W hW=>by clear hW;go_simp) (u_ ?_);have HW2:=h_ hHeld;refine wpAnyH_ready (rs:=[9]) k_ s_ (AllReadyH.cons (gT_ rfl) (fun K hK=>?_) (AllReadyH.nil));clear hHeld
         first|(rw [if_pos n19_];go_simp)|go_simp
         refine (HHI.out _).mono ?_;rintro e wc3 ⟨rfl,hb⟩;have HW3:=h_ (HW2.out.trans (hb.mono HW2.out.size));clear hb;refine hK.out _ _ HW3.out (fun hHeld=>?_);clear hK K;refine u_ ?_;refine dB_ (i:=10) (v:=.bool true) (gT_ rfl) (fun W hW=>by clear hW;go_simp) (u_ ?_);refine dB_ (i:=11) (v:=.bool true) (gT_ rfl) (fun W hW=>by clear hW;go_simp) (u_ ?_);refine dB_ (i:=12) (v:=.bool true) (gT_ rfl) (fun W hW=>by clear hW;go_simp) (u_ ?_);(iterate 2 refine dA_ 0 (gT_ rfl) (fun W hW=>by have hp:=Za HN2.out hW;obtain ⟨p0,p1,p2,-,-,-⟩:=Zd hp;clear hW hp;go_simp;rfl) (u_ ?_));refine dB_ (i:=15) (v:=.bool false) (gT_ rfl) (fun W hW=>by clear hW;go_simp) (u_ ?_);refine dB_ (i:=16) (v:=.bool false) (gT_ rfl) (fun W hW=>by clear hW;go_simp) (u_ ?_);(iterate 4 refine dA_ 0 (gT_ rfl) (fun W hW=>by have hp:=Za HN2.out hW;obtain ⟨p0,p1,p2,-,-,-⟩:=Zd hp;clear hW hp;go_simp;rfl) (u_ ?_));refine dB_ (i:=21) (v:=.bool true) (gT_ rfl) (fun W hW=>by clear hW;go_simp) (u_ ?_);refine dB_ (i:=22) (v:=.bool true) (gT_ rfl) (fun W hW=>by clear hW;go_simp) (u_ ?_);(iterate 2 refine dA_ 0 (gT_ rfl) (fun W hW=>by have hp:=Za HN2.out hW;obtain ⟨p0,p1,p2,-,-,-⟩:=Zd hp;clear hW hp;go_simp;rfl) (u_ ?_));refine dB_ (i:=25) (v:=.int .i64 f) (gT_ rfl) (fun W hW=>by clear hW;go_simp) (u_ ?_);have HW3:=h_ hHeld;refine wpAnyH_ready (rs:=[26]) k_ s_ (AllReadyH.cons (gT_ rfl) (fun K hK=>?_) (AllReadyH.nil));clear hHeld
         first|(rw [if_pos n19_];go_simp)|go_simp
         refine (HHI.out _).mono ?_;rintro e wc4 ⟨rfl,hb⟩;have HW4:=h_ (HW3.out.trans (hb.mono HW3.out.size));clear hb;refine hK.out _ _ HW4.out (fun hHeld=>?_);clear hK K;refine u_ ?_;refine dB_ (i:=27) (v:=.bool false) (gT_ rfl) (fun W hW=>by clear hW;go_simp) (u_ ?_);exact m182_
       ·have h8b:¬pt>=pf:=h8
        have h8c:pt<pf:=o_;have HR:=h_ (show false=r by rw [<-hr,decide_eq_false h8];rfl);clear hr;go_enter func230,ntmps230;go_wp2_with fail;obtain ⟨N,hN⟩:=e_ w.heap.size;have HB2:=h_ HB1.out;have HN2:=h_ HN1.out;clear HB1 HN1;rw [<-hN] at HN2⊢;have HNN:=h_ hN;clear hN;obtain ⟨w1,hw1⟩:=e_ (w.alloc (.cells #[.int .i64 pf,.int .i64 pt,.int .i64 ps] 233));rw [<-hw1] at HB2 HN2⊢;clear hw1;refine wp_region_held_drew (S:=fun V=>Below w1.heap.size w1 V) k_ (Zb ⟨1,rfl⟩) (fun hHeld=>?_);refine u_ ?_;(iterate 2 refine dA_ 0 (gT_ rfl) (fun W hW=>by have hp:=Za HN2.out hW;obtain ⟨p0,p1,p2,-,-,-⟩:=Zd hp;clear hW hp;go_simp;rfl) (u_ ?_));refine dB_ (i:=2) (v:=.int .i64 f) (gT_ rfl) (fun W hW=>by clear hW;go_simp) (u_ ?_);have HW1:=h_ hHeld;refine wpAnyH_ready (rs:=[3]) k_ s_ (AllReadyH.cons (gT_ rfl) (fun K hK=>?_) (AllReadyH.nil));clear hHeld
        first|(rw [if_pos n19_];go_simp)|go_simp
        refine (HLO.out _).mono ?_;rintro e wc2 ⟨rfl,hb⟩;have HW2:=h_ (HW1.out.trans (hb.mono HW1.out.size));clear hb;refine hK.out _ _ HW2.out (fun hHeld=>?_);clear hK K;refine u_ ?_;refine dB_ (i:=4) (v:=.bool true) (gT_ rfl) (fun W hW=>by clear hW;go_simp) (u_ ?_);refine dB_ (i:=5) (v:=.bool true) (gT_ rfl) (fun W hW=>by clear hW;go_simp) (u_ ?_);(iterate 2 refine dA_ 0 (gT_ rfl) (fun W hW=>by have hp:=Za HN2.out hW;obtain ⟨p0,p1,p2,-,-,-⟩:=Zd hp;clear hW hp;go_simp;rfl) (u_ ?_));refine dB_ (i:=8) (v:=.int .i64 f) (gT_ rfl) (fun W hW=>by clear hW;go_simp) (u_ ?_);have HW2:=h_ hHeld;refine wpAnyH_ready (rs:=[9]) k_ s_ (AllReadyH.cons (gT_ rfl) (fun K hK=>?_) (AllReadyH.nil));clear hHeld
        first|(rw [if_pos n19_];go_simp)|go_simp
        refine (HHI.out _).mono ?_;rintro e wc3 ⟨rfl,hb⟩;have HW3:=h_ (HW2.out.trans (hb.mono HW2.out.size));clear hb;refine hK.out _ _ HW3.out (fun hHeld=>?_);clear hK K;refine u_ ?_;refine dB_ (i:=10) (v:=.bool true) (gT_ rfl) (fun W hW=>by clear hW;go_simp) (u_ ?_);refine dB_ (i:=11) (v:=.bool true) (gT_ rfl) (fun W hW=>by clear hW;go_simp) (u_ ?_);refine dB_ (i:=12) (v:=.bool true) (gT_ rfl) (fun W hW=>by clear hW;go_simp) (u_ ?_);(iterate 2 refine dA_ 0 (gT_ rfl) (fun W hW=>by have hp:=Za HN2.out hW;obtain ⟨p0,p1,p2,-,-,-⟩:=Zd hp;clear hW hp;go_simp;rfl) (u_ ?_));refine dB_ (i:=15) (v:=.bool false) (gT_ rfl) (fun W hW=>by clear hW;go_simp) (u_ ?_);refine dB_ (i:=16) (v:=.bool false) (gT_ rfl) (fun W hW=>by clear hW;go_simp) (u_ ?_);(iterate 4 refine dA_ 0 (gT_ rfl) (fun W hW=>by have hp:=Za HN2.out hW;obtain ⟨p0,p1,p2,-,-,-⟩:=Zd hp;clear hW hp;go_simp;rfl) (u_ ?_));refine dB_ (i:=21) (v:=.bool false) (gT_ rfl) (fun W hW=>by clear hW;go_simp) (u_ ?_);refine dB_ (i:=22) (v:=.bool false) (gT_ rfl) (fun W hW=>by clear hW;go_simp) (u_ ?_);refine dU_ (i:=23) (gT_ rfl) (u_ ?_);refine dU_ (i:=24) (gT_ rfl) (u_ ?_);refine dU_ (i:=25) (gT_ rfl) (u_ ?_);refine dU_ (i:=26) (gT_ rfl) (u_ ?_);refine dU_ (i:=27) (gT_ rfl) (u_ ?_);exact m182_
end Go.Proofs.YtgoooebfhdbbkaaGreatDoor
