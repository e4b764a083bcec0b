import Derived.Test.YtmgmbeipbeknaaaGreatDoorRB15
import Derived.Test.YtmgmbeipbeknaaaGreatDoorRB17
namespace Go.Proofs.YtmgmbeipbeknaaaGreatDoor
open Go.Proofs.Tryz
open Go Go.RowKit Go.Shelf
set_option linter.all false
set_option maxHeartbeats 16000000
set_option maxRecDepth 100000
theorem m49_{p:Prop}(h:p:=by
  replace HDR:=h_ (hdr2 D1 D2 hD1 hD2);clear HI1' HI2' hdr2 hD1 hD2;clear hb1 hb2 k1 k2
  gi_wp2_with (gi_at_call 322;refine (CallsIn.inRound l (callsIn_wide.2 (HW1.out _))).mono ?_;rintro e w' ⟨rfl,rfl⟩)
  refine (CallsIn.inRound l (callsIn_wide.2 HI1.out)).mono ?_;rintro e w' ⟨rfl,rfl⟩
  gi_wp2_with (gi_at_call 322;refine (CallsIn.inRound l (callsIn_wide.2 (HW1.out _))).mono ?_;rintro e w' ⟨rfl,rfl⟩)
  refine (CallsIn.inRound l (callsIn_wide.2 HI2.out)).mono ?_;rintro e w' ⟨rfl,rfl⟩;clear HI1 HI2 HW1 HR0 HR1 HR2 HBW HBG;generalize ((W.drewN n1).alloc (.cells J8 9)).alloc (.cells J8 9)=W2 at *;obtain ⟨a0,a1,a2,a3⟩:=rd HS0.out;obtain ⟨b0,b1,b2,b3⟩:=rd HS1.out;have a00:=a0 0;have b00:=b0 0;have a10:=a1 0;have b10:=b1 0;simp only [c1_,c2_] at a00 b00;clear a0 a1 a2 b0 b1 b2;have HLV:=h_ (fun (h:XW x=none)=>show KeepsFrom N W ((W2.setCell ⟨w.heap.size,0,none⟩ (.slice none 0 0)).setCell ⟨w.heap.size+1,0,none⟩ (.bool false))/\ExW w w.heap.size (ZP 44 s) .ret ((W2.setCell ⟨w.heap.size,0,none⟩ (.slice none 0 0)).setCell ⟨w.heap.size+1,0,none⟩ (.bool false)) from
   ⟨HSK.out.trans (((KeepsOthers.setCell _ _ _).trans (KeepsOthers.setCell _ _ _)).from N),
    {jump:=rfl
     r0:=ZC (heap_setCell HS0.out 0 (.slice none 0 0)) (a:=⟨w.heap.size+1,0,none⟩) s_ _
     r1:=heap_setCell (ZC HS1.out (a:=⟨w.heap.size,0,none⟩) s_ _) 0 (.bool false)
     none_:=HNO.out h
     below:=(HSB.out.setCell (p:=⟨w.heap.size,0,none⟩) l_ _).setCell (p:=⟨w.heap.size+1,0,none⟩) s_ _ }⟩)
  rcases hq1 with hf|⟨f,hf,hf7⟩
  ·have HLV2:=h_ (HLV.out (by rw [HDR.out,hf];simp))
   rw [hf];exact m50_
  ·have hf0:¬((f:Int)<0):=o_
   rcases hq2 with hk|⟨k,hk,hk7⟩
   ·have HLV2:=h_ (HLV.out n48_)
    have hlt:(-1:Int)<(f:Int):=o_;rw [hf,hk];exact m50_
   ·by_cases hkf:k<f
    ·have HLV2:=h_ (HLV.out n48_)
     have hlt:(k:Int)<(f:Int):=o_;rw [hf,hk];exact m50_
    ·have hlt:¬((k:Int)<(f:Int)):=o_
     have HMK:=h_ (HYE.out f k n48_);rw [hf,hk];clear HLV HNO HYE HDR hf hk a00 b00 a10 b10 a3 b3 HMEM HCUT HX
     gi_wp2_with fail
     gi_loopg [11] (k+2) (fun fu d wr=>∃(e:Nat) (m':List Bool),e<=k+1/\f<=e/\d=.int .i64 e/\k+1-e<fu/\m'.length=8/\Hid (Zat m' e (k+1-e)=Zat m f (k+1-f))/\Hid (wr.heap[w.heap.size]?=some (.cells #[.slice none 0 0] 24 (0,0)))/\Hid (wr.heap[w.heap.size+1]?=some (.cells #[.bool false] 4 (0,0)))/\
      Hid (wr.heap[w.heap.size+2]?=some (.cells (Zbe m') 288 (0,0)))/\Hid (KeepsFrom N W wr)/\Hid (KpB (w.heap.size+3) W wr)/\Hid (Below w.heap.size w wr)/\Hid (N<=wr.heap.size))
     case atStart=>exact ⟨f,m,o_,o_,rfl,o_,hml,rfl,HS0,HS1,HS2,HSK,HSP,HSB,HSG⟩
     case round=>
      obtain ⟨e,m',he1,he2,rfl,hfu,hm8,HE,HT0,HT1,HT2,HTK,HTP,HTB,HTG⟩:=hrel;by_cases hle:e<=k
      ·have hz:(e:Int)<=(k:Int):=o_
       have he8:(e:Int)+1<8:=o_;have he9:e+1<8:=o_;obtain ⟨d0,d1,d2,d3⟩:=rd HT2.out;have dc:=d0 (e+1);have dd:(Zbe m')[e+1]?=some (.bool (m'[e+1]' o_)):=by
        unfold Zbe;rw [c1_,List.getElem?_map,List.getElem?_eq_getElem o_];rfl
       rw [dd] at dc;have df:=d1 (e+1);have HT3:=h_ (show (wr.setCell ⟨w.heap.size+2,e+1,none⟩ (.bool true)).heap[w.heap.size+2]?=some (.cells (Zbe (m'.set (e+1) true)) 288 (0,0)) by
        rw [<-Zjg];exact heap_setCell HT2.out (e+1) (.bool true))
       have HE2:=h_ (show Zat (m'.set (e+1) true) (e+1) (k+1-(e+1))=Zat m f (k+1-f) by
        rw [<-HE.out,show k+1-e=(k+1-(e+1))+1 by omega];rfl)
       clear d0 d1 d2 d3 dd
       gi_wp2_with fail
       gi_roundg (k+1-e)
       case measure=>omega
       case rel=>exact ⟨e+1,m'.set (e+1) true,o_,o_,n9_,o_,by simpa using hm8,HE2,ZC HT0.out (a:=⟨w.heap.size+2,e+1,none⟩) s_ _,ZC HT1.out (a:=⟨w.heap.size+2,e+1,none⟩) s_ _,HT3,
         HTK.out.trans ((KeepsOthers.setCell _ _ _).from N),HTP.out.trans ⟨s_,fun i hi=>Below.heap_setCell _ _ _ i (by show i≠w.heap.size+2;omega)⟩,HTB.out.setCell (p:=⟨w.heap.size+2,e+1,none⟩) s_ _,(show N<=(wr.setCell _ _).heap.size from by simpa using HTG.out)⟩
      ·have hz:¬((e:Int)<=(k:Int)):=o_
       have hmm:m'=Zat m f (k+1-f):=by
        have:=HE.out
        rw [show k+1-e=0 by omega] at this;exact this
       have HFIN:=h_ (show KeepsFrom N W wr/\KpB (w.heap.size+3) W wr/\InW w w.heap.size N (pre++[x]) wr from
        ⟨HTK.out,HTP.out,{ r0:=HT0.out,r1:=HT1.out,out:=⟨_,HMK.out,by rw [<-hmm];exact HT2.out⟩,below:=HTB.out,big:=HTG.out }⟩)
       clear hmm
       gi_wp2_with fail
       exact HFIN.out):p:=h
theorem m50_{p:Prop}(h:p:=by
  clear HLV
  gi_wp2_with fail
  exact HLV2.out):p:=h
attribute [local go_sem] Oper.semAt_some
def J8:Array Value:=#[.string ⟨#[77,111,110]⟩,.string ⟨#[84,117,101]⟩,.string ⟨#[87,101,100]⟩,.string ⟨#[84,104,117]⟩,.string ⟨#[70,114,105]⟩,.string ⟨#[83,97,116]⟩,.string ⟨#[83,117,110]⟩]
theorem Zkk(w:World):Calls prog 322 #[] w fun e w'=>e=.returned (.slice (some ⟨w.heap.size,0,none⟩) 7 7)/\w'=w.alloc (.cells J8 9):=by
 go_enter func322,ntmps322;go_wp2;go_ret;exact ⟨rfl,rfl⟩
theorem Zpw(s:Str):∀(l:List Str) (i:Nat),Lib.idxFromS (l.map fun d=>(⟨d.toArray⟩:ByteArray)) ⟨s.toArray⟩ i=Zcu l s i
 |[],i=>rfl
 |d::r,i=>by
  have he:((⟨d.toArray⟩:ByteArray)=⟨s.toArray⟩)↔d=s:=by
   constructor
   ·intro h
    have:=congrArg (fun x:ByteArray=>x.data.toList) h
    simpa using this
   ·rintro rfl;rfl
  rw [List.map_cons,Lib.idxFromS,Zcu,Zpw s r (i+1)];by_cases h:d=s
  ·simp [h]
  ·simp [h,he]
theorem ZeG(A:Nat)(s:Str)(w:World)(h:w.heap[A]?=some (.cells J8 9 (0,0))) :
  Calls prog 139 #[.slice (some ⟨A,0,none⟩) 7 7,.string ⟨s.toArray⟩] w fun e w'=>e=.returned (.int .i64 (QM s))/\w'=w:=by
 have:=Tryz.slices_Index_string A 0 7 7 (Zmn.map fun d=>(⟨d.toArray⟩:ByteArray)) ⟨s.toArray⟩ w s_ o_ (fun j hj=>by
  rw [(rd h).1];have hj':j<7:=n113_;match j,hj' with
  |0,_=>rfl
  |1,_=>rfl
  |2,_=>rfl
  |3,_=>rfl
  |4,_=>rfl
  |5,_=>rfl
  |6,_=>rfl)
 rw [c9_ s_,show Lib.idxOfS (Zmn.map fun d=>(⟨d.toArray⟩:ByteArray)) ⟨s.toArray⟩=QM s from Zpw s Zmn 0] at this;exact this
theorem ZgL:(prog.info? 3).map (fun i=>(i.zero,i.size,i.bytes))=some (some (.int .i64 0),1,8):=k_
theorem Zwb(b0 b1 b2 b3 b4 b5 b6 b7:Bool)(k:Nat)(hk:k<8)(W:World):(Instr.index 288 (.agg #[.bool b0,.bool b1,.bool b2,.bool b3,.bool b4,.bool b5,.bool b6,.bool b7]) (.int .i64 k)).run prog W=.ok (.bool ([b0,b1,b2,b3,b4,b5,b6,b7].getD k false)) W:=by
 match k,hk with
 |0,_=>rfl
 |1,_=>rfl
 |2,_=>rfl
 |3,_=>rfl
 |4,_=>rfl
 |5,_=>rfl
 |6,_=>rfl
 |7,_=>rfl
def Zbe(m:List Bool):Array Value:=(m.map Value.bool).toArray
theorem Zjg(m:List Bool)(i:Nat):(Zbe m).setIfInBounds i (.bool true)=Zbe (m.set i true):=by
 unfold Zbe;rw [List.setIfInBounds_toArray,List.map_set]
structure InW(w:World)(B N:Nat)(pre:List Str)(W:World):Prop where
 r0:W.heap[B]?=some (.cells #[.slice none 0 0] 24 (0,0))
 r1:W.heap[B+1]?=some (.cells #[.bool false] 4 (0,0))
 out:∃m,Jg pre ZeI=some m/\W.heap[B+2]?=some (.cells (Zbe m) 288 (0,0))
 below:Below B w W
 big:N<=W.heap.size
structure ExW(w:World)(B:Nat)(xs:List Str)(c:Code)(W:World):Prop where
 jump:c=.ret
 r0:W.heap[B]?=some (.cells #[.slice none 0 0] 24 (0,0))
 r1:W.heap[B+1]?=some (.cells #[.bool false] 4 (0,0))
 none_:Jg xs ZeI=none
 below:Below B w W
theorem ZsB(w:World)(B N b:Nat)(hw:B=w.heap.size)(hb:B+2<b)(hN:b<N):Zk7 N b (InW w B N):=fun s X Y row h hg hr=>
 {r0:=XR hg hr h.r0 rfl o_
  r1:=XR hg hr h.r1 rfl o_
  out:=by obtain ⟨m,h1,h2⟩:=h.out;exact ⟨m,h1,XR hg hr h2 rfl o_⟩
  below:=ZcC hg hr h.below o_ o_ n102_
  big:=Nat.le_trans h.big hg.size }
theorem Zr8(w:World)(B N b:Nat)(xs:List Str)(c:Code)(hw:B=w.heap.size)(hb:B+2<b)(hN:b<N):Zk7 N b (fun (_:List Str)=>ExW w B xs c):=fun s X Y row h hg hr=>
 {jump:=h.jump
  r0:=XR hg hr h.r0 rfl o_
  r1:=XR hg hr h.r1 rfl o_
  none_:=h.none_
  below:=ZcC hg hr h.below o_ o_ n102_ }
def ZuT(w:World)(s:Str)(e:Ending)(w':World):Prop:=
 ∃v,e=.returned (.tuple #[v,.bool (Jm s).isSome])/\w'.ownsRow w.heap.size 3 1 v ((Jm s).getD []).length (((Jm s).getD []).map fun n=>.int .i64 n)/\Below w.heap.size w w'
theorem ZrY(s:Str)(w:World)(hs:s.length<=100000000)(hM:Zz w):Calls prog 294 #[.string ⟨s.toArray⟩] w fun e w'=>ZuT w s e w':=by
 have HM:=h_ (fun V (h:Below w.heap.size w V)=>hM.below h);have HMEM:=h_ (Q8 44 s);have HCUT:=h_ (fun (t:Str) V (ht:t.length<=100000000) (h:Zz V)=>show Calls prog 78 #[.string ⟨t.toArray⟩,.string ⟨#[46,46]⟩] V fun e w' =>
   e=.returned (.tuple #[.string ⟨(Lib.cut t [46,46]).1.toArray⟩,.string ⟨(Lib.cut t [46,46]).2.1.toArray⟩,.bool (Lib.cut t [46,46]).2.2])/\∃n,w'=V.drewN n by
  obtain ⟨m,hm⟩:=h;exact Tryz.strings_Cut ⟨t.toArray⟩ ⟨#[46,46]⟩ m V (by show t.toArray.size<_;simp;omega) hm)
 let w0:=((w.alloc (.cells #[.slice none 0 0] 24)).alloc (.cells #[.bool false] 4)).alloc (.cells #[.bool false,.bool false,.bool false,.bool false,.bool false,.bool false,.bool false,.bool false] 288);have hz0:w0.heap.size=w.heap.size+3:=by simp [w0]
 have hB0:Below w.heap.size w w0:=((b_.alloc l_ _).alloc s_ _).alloc n6_ _;have a0:w0.heap[w.heap.size]?=some (.cells #[.slice none 0 0] 24 (0,0)):=heap_alloc (heap_alloc (heap_alloc_new w _) _) _;have a1:w0.heap[w.heap.size+1]?=some (.cells #[.bool false] 4 (0,0)):=by
  rw [<-show (w.alloc (.cells #[.slice none 0 0] 24)).heap.size=w.heap.size+1 by simp];exact heap_alloc (heap_alloc_new _ _) _
 have a2:w0.heap[w.heap.size+2]?=some (.cells (Zbe ZeI) 288 (0,0)):=by
  rw [<-show ((w.alloc (.cells #[.slice none 0 0] 24)).alloc (.cells #[.bool false] 4)).heap.size=w.heap.size+2 by simp];exact heap_alloc_new _ _
 have HSQ:=h_ (ZeY 44 s w0);obtain ⟨pl,hbs,hzs⟩:=ZeQ w0 44 s;have HPL:=h_ pl;have HI0:=h_ (show InW w w.heap.size (Xx w0 44 s).heap.size [] (Xx w0 44 s) from
  {r0:=Za a0 hbs,r1:=Za a1 hbs,out:=⟨_,rfl,Za a2 hbs⟩,below:=hB0.trans (hbs.mono o_),big:=Nat.le_refl _ })
 clear a0 a1 a2 pl hbs hB0 hM;have HZ0:=h_ hz0;refine (callsIn_wide (n:=9)).1 ?_;have hF:Fence.wide.fn 321:=trivial;refine callsIn_of_wp_marks func294 rfl trivial ?_ rfl;simp only [ntmps294,List.size_toArray,c14_,List.length_nil,Nat.reduceAdd,Nat.reduceSub,Array.replicate_succ,Array.replicate_zero,List.push_toArray,List.append_toArray,List.nil_append,c12_]
 gi_wp2_with (gi_at_call 321;refine (callsIn_wide.2 HSQ.out).mono ?_;rintro e w' ⟨rfl,rfl⟩)
 refine Zge (n:=9) (gf:=355) (lb:=#[.pointer (some ⟨w.heap.size+3+1,0,none⟩),.pointer (some ⟨w.heap.size+3,0,none⟩),.pointer (some ⟨w.heap.size+3+2,0,none⟩)]) rfl Zea
  (Zgy 8 (w.heap.size+3) d_ 44 s (Xx w0 44 s) (by rw [<-hz0];exact HPL.out) o_) o_
  (fun A o h=>KpB.of_below ((Below.refl _ A).alloc l_ o) o_) (fun h k=>KpB.trans h k)
  (fun W l o h=>⟨s_,fun k hk=>World.putObj_heap_other o_⟩) rfl
  (InW w w.heap.size (Xx w0 44 s).heap.size) (fun c _=>ExW w w.heap.size (ZP 44 s) c)
  (ZsB w w.heap.size _ (w.heap.size+3) rfl o_ o_) (fun c=>Zr8 w w.heap.size _ (w.heap.size+3) _ c rfl o_ o_) HI0.out
  (fun x=>{ tmps:=#[.string ⟨s.toArray⟩,undef,.pointer (some ⟨w.heap.size,0,none⟩),.pointer (some ⟨w.heap.size+1,0,none⟩),.pointer (some ⟨w.heap.size+1+1,0,none⟩),.string ⟨x.toArray⟩,undef,undef,undef,undef,undef,undef,undef,undef,undef,.string ⟨s.toArray⟩,.func (.func 355) #[] #[.pointer (some ⟨w.heap.size+3+1,0,none⟩),.pointer (some ⟨w.heap.size+3,0,none⟩),.pointer (some ⟨w.heap.size+3+2,0,none⟩)],.string ⟨x.toArray⟩,undef,undef,undef,undef,undef,undef,undef,undef,undef,undef,undef,undef,undef,undef,undef,undef,undef,undef,undef,undef,undef,undef,undef,undef,undef,undef,undef,undef,undef,undef,undef,undef,undef,undef,undef,undef,undef,undef,undef,undef,undef,undef,undef],defers:=[] }) ?assign ?body ?done ?stop
 case assign=>
  intro l x W K hK
  gi_wp2
  exact hK
 case body=>
  rintro l pre x post W hx hI;have hF3:Fence.wide.fn 78:=trivial;have hF4:Fence.wide.fn 322:=trivial;have hF5:Fence.wide.fn 139:=trivial;have hxl:x.length<=s.length:=HMEM.out x (by rw [hx];simp);have HC:=h_ (HCUT.out x W o_ (HM.out W hI.below));have HX:=h_ hx;obtain ⟨m,hwm,h2⟩:=hI.out;obtain ⟨N,hN⟩:=e_ ((Xx w0 44 s).heap.size);rw [<-hN] at hI⊢;have HNw:=h_ (show N=w.heap.size+6 by omega);have HNO:=h_ (fun (h:XW x=none)=>show Jg (ZP 44 s) ZeI=none by
   rw [HX.out,show pre++x::post=(pre++[x])++post by simp];refine Zia _ _ _ ?_;rw [Zey,hwm,h])
  have HYE:=h_ (fun f k (h:XW x=some (f,k))=>show Jg (pre++[x]) ZeI=some (Zat m f (k+1-f)) by rw [Zey,hwm,h]);have hml:m.length=8:=by rw [ZfX _ _ _ hwm];rfl
  obtain ⟨c1,c2,q,hcut⟩:∃c1 c2 q,Lib.cut x [46,46]=(c1,c2,q):=⟨_,_,_,rfl⟩;have hdr:XW x=if QM c1<0\/QM (if q=true then c2 else c1)<QM c1 then none else some ((QM c1).toNat,(QM (if q=true then c2 else c1)).toNat):=by unfold XW;rw [hcut]
  rw [hcut] at HC;have HDR:=h_ hdr;have HR0:=h_ hI.r0;have HR1:=h_ hI.r1;have HR2:=h_ h2;have HBW:=h_ hI.below;have HBG:=h_ hI.big;clear hI hx hN hzs HPL HI0 HSQ hz0 HZ0 hwm h2 hdr hcut
  gi_wp2_with fail
  refine (CallsIn.inRound l (callsIn_wide.2 HC.out)).mono ?_;rintro e W1 ⟨rfl,n1,rfl⟩;clear HC;have hb1:Below W.heap.size W ((W.drewN n1).alloc (.cells J8 9)):=(show Below W.heap.size W (W.drewN n1) from Ze ⟨_,rfl⟩).alloc l_ _;have hb2:Below W.heap.size W (((W.drewN n1).alloc (.cells J8 9)).alloc (.cells J8 9)):=hb1.alloc s_ _;have k1:((W.drewN n1).alloc (.cells J8 9)).heap[W.heap.size]?=some (.cells J8 9 (0,0)):=heap_alloc_new (W.drewN n1) _;have k2:(((W.drewN n1).alloc (.cells J8 9)).alloc (.cells J8 9)).heap[W.heap.size+1]?=some (.cells J8 9 (0,0)):=by
   have:=heap_alloc_new ((W.drewN n1).alloc (.cells J8 9)) (.cells J8 9)
   rw [show ((W.drewN n1).alloc (.cells J8 9)).heap.size=W.heap.size+1 by simp] at this;exact this
  have HS0:=h_ (Za HR0.out hb2);have HS1:=h_ (Za HR1.out hb2);have HS2:=h_ (Za HR2.out hb2);have HSB:=h_ (HBW.out.trans (hb2.mono HBW.out.size));have HSK:=h_ (Za0 hb2 N);have HSP:=h_ (KpB.of_below (b:=w.heap.size+3) hb2 (by have:=HBG.out;have:=HNw.out;omega));have HSG:=h_ (Nat.le_trans HBG.out hb2.size);have HI1:=h_ (ZeG W.heap.size c1 _ k1);have HW1:=h_ (fun V=>Zkk V);cases q with
  |true=>
   have HI2':=ZeG (W.heap.size+1) c2 _ k2;obtain ⟨D2,hD2⟩:=e_ (QM c2);rw [<-hD2] at HI2';have HI2:=h_ HI2';obtain ⟨D1,hD1⟩:=e_ (QM c1);have HI1':=HI1.out;rw [<-hD1] at HI1';replace HI1:=h_ HI1';have hq1:=Zbd c1;rw [<-hD1] at hq1;have hq2:=Zbd c2;rw [<-hD2] at hq2;have hdr2:∀A1 A2,A1=QM c1->A2=QM c2->XW x=if A1<0\/A2<A1 then none else some (A1.toNat,A2.toNat):=by rintro _ _ rfl rfl;rw [HDR.out];simp
   exact m49_
  |false=>
   have HI2':=ZeG (W.heap.size+1) c1 _ k2;obtain ⟨D2,hD2⟩:=e_ (QM c1);rw [<-hD2] at HI2';have HI2:=h_ HI2';obtain ⟨D1,hD1⟩:=e_ (QM c1);have HI1':=HI1.out;rw [<-hD1] at HI1';replace HI1:=h_ HI1';have hq1:=Zbd c1;rw [<-hD1] at hq1;have hq2:=Zbd c1;rw [<-hD2] at hq2;have hdr2:∀A1 A2,A1=QM c1->A2=QM c1->XW x=if A1<0\/A2<A1 then none else some (A1.toNat,A2.toNat):=by rintro _ _ rfl rfl;rw [HDR.out];simp
   exact m49_
 case done=>
  rintro D W hD hI hK;obtain ⟨m,hwm,h2⟩:=hI.out;have hr:Jm s=some (ZsU m):=by unfold Jm;rw [hwm];rfl
  have hml:m.length=8:=by rw [ZfX _ _ _ hwm];rfl
  have hNw:(Xx w0 44 s).heap.size=w.heap.size+6:=o_;obtain ⟨N,hN⟩:=e_ ((Xx w0 44 s).heap.size);rw [<-hN] at hD hI hNw;have HT0:=h_ hI.r0;have HT1:=h_ hI.r1;have HTB:=h_ hI.below;have HTG:=h_ hI.big;have HTD:=h_ hK;have HR:=h_ hr;obtain ⟨b0,b1,b2,b3,b4,b5,b6,b7,rfl⟩:∃b0 b1 b2 b3 b4 b5 b6 b7,m=[b0,b1,b2,b3,b4,b5,b6,b7]:=by
   match m,hml with
   |[b0,b1,b2,b3,b4,b5,b6,b7],_=>exact ⟨b0,b1,b2,b3,b4,b5,b6,b7,rfl⟩
  obtain ⟨m,hmd⟩:=e_ ([b0,b1,b2,b3,b4,b5,b6,b7]);obtain ⟨cc,cf,-,-⟩:=rd h2;have g0:=cc 0;have g1:=cc 1;have g2:=cc 2;have g3:=cc 3;have g4:=cc 4;have g5:=cc 5;have g6:=cc 6;have g7:=cc 7;simp only [Zbe,List.map_cons,List.map_nil,c1_,c2_,c3_] at g0 g1 g2 g3 g4 g5 g6 g7;rw [<-hmd] at HR;have HNw:=h_ hNw;have HD:=h_ hD;have HMD:=h_ hmd;clear hI hK hr hwm h2 hN cc cf HI0 HPL HSQ hzs hz0 HZ0 hNw hD HMEM HCUT HM hmd;obtain ⟨i0,hi0,hz0,hz1,hz2⟩:=info_parts ZgL
  gi_wp2_with fail
  gi_loopg [12,50] 9 (fun fu v d wr=>∃k:Nat,k<=8/\d=.int .i64 k/\8-k<fu/\Hid (wr.ownsRow W.heap.size 3 1 v (QT m k).length ((QT m k).map fun n=>.int .i64 n))/\Hid (Below W.heap.size W wr))
  case atStart=>exact ⟨0,o_,rfl,o_,World.ownsRow_nil _ _ _ _,Below.refl _ _⟩
  case round=>
   obtain ⟨k,hk,rfl,hfu,HO,HB⟩:=hrel;obtain ⟨oa,cap,rfl⟩:=ownsRow_form HO.out;clear g0 g1 g2 g3 g4 g5 g6 g7;by_cases hlt:k<8
   ·have hz:(k:Int)<8:=o_
    have HS:=h_ (Zl7 m k);have hql:(QT m k).length<=8:=Nat.le_trans (Zix m k) o_;have hq:∃q,m.getD k false=q:=⟨_,rfl⟩;obtain ⟨q,hq⟩:=hq;have hix:=Zwb b0 b1 b2 b3 b4 b5 b6 b7 k hlt wr;rw [<-HMD.out,hq] at hix;rw [hq] at HS;clear hq;cases q with
    |false=>
     have HS2:=h_ (show QT m (k+1)=QT m k by rw [HS.out,if_neg s_]);clear HS
     gi_wp2_with fail
     gi_roundg (8-k)
     case measure=>omega
     case rel=>exact ⟨k+1,o_,n9_,o_,by rw [HS2.out];exact HO,HB⟩
    |true=>
     have HS2:=h_ (show QT m (k+1)=QT m k++[(k:Int)] by rw [HS.out,if_pos rfl]);have hB1:Below wr.heap.size wr (wr.alloc (.cells #[.int .i64 k] 3)):=b_.alloc l_ _;obtain ⟨v',w4,hrun,hown4,hgrow,-⟩:=run_append_own (P:=prog) (wr.alloc (.cells #[.int .i64 k] 3)) W.heap.size 24 24 3 i0 (.int .i64 0) 1 8 underlying24 hi0 hz0 hz1 hz2 rfl d_ _ _ _ (HO.out.alloc _) ⟨wr.heap.size,0,none⟩ 1 1 [.int .i64 k] rfl (cell_one_new _ _ _) n88_ n23_ o_ (by have:=HB.out.size;simp;omega);have HRUN:=h_ hrun;have HB4:=h_ ((HB.out.trans (hB1.mono HB.out.size)).grown hgrow (by have:=HB.out.size;simp;omega) (fun g hg=>(HO.out.lt g hg).1));have HO4:=h_ (show w4.ownsRow W.heap.size 3 1 v' (QT m (k+1)).length ((QT m (k+1)).map fun n=>.int .i64 n) by
      rw [HS2.out,c5_,List.map_append];exact hown4)
     obtain ⟨oa3,cap3,rfl⟩:=ownsRow_form HO4.out;clear HS hrun hown4 hgrow hB1
     gi_wp2_with (gi_at_builtin;refine Zdp rfl _ _ 24 rfl HRUN.out rfl rfl ?_)
     gi_roundg (8-k)
     case measure=>omega
     case rel=>exact ⟨k+1,o_,n9_,o_,HO4,HB4⟩
   ·have hz:¬((k:Int)<8):=o_
    obtain rfl:k=8:=o_;have q0:=Za HT0.out HB.out;have q1:=Za HT1.out HB.out;have qD:=Za HTD.out HB.out;obtain ⟨a0,a1,a2,a3⟩:=rd q0;obtain ⟨e0,e1,e2,e3⟩:=rd q1;have a00:=a0 0;have e00:=e0 0;have a10:=a1 0;have e10:=e1 0;simp only [c1_,c2_] at a00 e00;obtain ⟨ds,hds⟩:=e_ (QT m 8);have HR2:=h_ (show Jm s=some ds by rw [HR.out,hds];rfl);rw [<-hds] at HO⊢;clear hds;have hNw:=HNw.out;have hD:=HD.out;have hlD:=Zd HTD.out;let V:=(wr.setCell ⟨w.heap.size,0,none⟩ (.slice oa ds.length cap)).setCell ⟨w.heap.size+1,0,none⟩ (.bool true);have hKV:V.heap[D]?=some (.deferred (some [])):=by
     show ((wr.setCell ⟨w.heap.size,0,none⟩ (.slice oa ds.length cap)).setCell ⟨w.heap.size+1,0,none⟩ (.bool true)).heap[D]?=_;rw [Below.heap_setCell _ _ _ D (by show D≠w.heap.size+1;omega),Below.heap_setCell _ _ _ D (by show D≠w.heap.size;omega)];exact qD
    have f0:V.heap[w.heap.size]?=some (.cells #[.slice oa ds.length cap] 24 (0,0)):=ZC (heap_setCell q0 0 (.slice oa ds.length cap)) (a:=⟨w.heap.size+1,0,none⟩) s_ _;have f1:V.heap[w.heap.size+1]?=some (.cells #[.bool true] 4 (0,0)):=heap_setCell (ZC q1 (a:=⟨w.heap.size,0,none⟩) s_ _) 0 (.bool true);have hbV:Below w.heap.size w V:=((HTB.out.trans (HB.out.mono HTB.out.size)).setCell (p:=⟨w.heap.size,0,none⟩) l_ _).setCell (p:=⟨w.heap.size+1,0,none⟩) s_ _;have hoV:V.ownsRow W.heap.size 3 1 (.slice oa ds.length cap) ds.length (ds.map fun n=>.int .i64 n):=by
     refine Z4 HO.out (M:=fun k=>k=w.heap.size\/k=w.heap.size+1) (Fr.setCell (M:=fun k=>k=w.heap.size\/k=w.heap.size+1) (p:=⟨w.heap.size+1,0,none⟩) (Fr.setCell (M:=fun k=>k=w.heap.size\/k=w.heap.size+1) (p:=⟨w.heap.size,0,none⟩) (Fr.refl _ _) (fun _=>.inl rfl) _) (fun _=>.inr rfl) _) ?_;rintro g hg-(rfl|rfl)
     ·have:=(HO.out.lt _ hg).1;omega
     ·have:=(HO.out.lt _ hg).1;omega
    have g0:(V.putObj D (.deferred none)).heap[w.heap.size]?=some (.cells #[.slice oa ds.length cap] 24 (0,0)):=(World.putObj_heap_other o_).trans f0;have g1:(V.putObj D (.deferred none)).heap[w.heap.size+1]?=some (.cells #[.bool true] 4 (0,0)):=(World.putObj_heap_other o_).trans f1;have HG0:=h_ g0;have HG1:=h_ g1;have HKV:=h_ hKV;have HEND:=h_ (show Below w.heap.size w (V.putObj D (.deferred none))/\(V.putObj D (.deferred none)).ownsRow w.heap.size 3 1 (.slice oa ds.length cap) ds.length (ds.map fun n=>.int .i64 n) from
     ⟨hbV.grown (grownBy_putObj' V D _) (by have:=hbV.size;omega) (fun k e=>by cases e;omega),by
      have:=ownsRow_putObj hoV (.deferred none) hKV rfl
      refine ⟨this.1,?_⟩;rcases this.2 with hn|⟨g,cp,cur,hv,hb,rest⟩
      ·exact .inl hn
      ·exact .inr ⟨g,cp,cur,hv,o_,rest⟩⟩)
    clear hKV f0 f1 hbV hoV g0 g1 q0 q1 qD a0 a1 a2 e0 e1 e2 HT0 HT1 HTD HO HB
    gi_wp2_with fail
    refine ⟨s_,.inl ⟨_,_,rfl,run_takeDeferred HKV.out,?_⟩⟩;obtain ⟨c0,-,-,-⟩:=rd HG0.out;obtain ⟨c1,-,-,-⟩:=rd HG1.out;have c00:=c0 0;have c10:=c1 0;simp only [c1_,c2_,V] at c00 c10;refine ⟨.tuple #[.slice oa ds.length cap,.bool true],?_,?_⟩
    ·simp [results,results294,go_sem,c00,c10]
    ·exact ⟨_,n101_,by rw [HR2.out];exact HEND.out.2,HEND.out.1⟩
 case stop=>
  rintro D c pre W hD hE hK;obtain rfl:=hE.jump;have hr:Jm s=none:=by unfold Jm;rw [hE.none_];rfl
  have hNw:(Xx w0 44 s).heap.size=w.heap.size+6:=o_;have hblt:=Zd hK;have g0:(W.putObj D (.deferred none)).heap[w.heap.size]?=some (.cells #[.slice none 0 0] 24 (0,0)):=(World.putObj_heap_other o_).trans hE.r0;have g1:(W.putObj D (.deferred none)).heap[w.heap.size+1]?=some (.cells #[.bool false] 4 (0,0)):=(World.putObj_heap_other o_).trans hE.r1;have HG0:=h_ g0;have HG1:=h_ g1;have HKV:=h_ hK;have HR:=h_ hr;have HEND:=h_ (show Below w.heap.size w (W.putObj D (.deferred none)) from hE.below.grown (grownBy_putObj' W D _) (by have:=hE.below.size;omega) (fun k e=>by cases e;omega));clear hK g0 g1 hE hr
  gi_wp2_with fail
  refine ⟨s_,.inl ⟨_,_,rfl,run_takeDeferred HKV.out,?_⟩⟩;obtain ⟨c0,-,-,-⟩:=rd HG0.out;obtain ⟨c1,-,-,-⟩:=rd HG1.out;have c00:=c0 0;have c10:=c1 0;simp only [c1_,c2_] at c00 c10;refine ⟨.tuple #[.slice none 0 0,.bool false],?_,?_⟩
  ·simp [results,results294,go_sem,c00,c10]
  ·exact ⟨_,n14_,by rw [HR.out];exact World.ownsRow_nil _ _ _ _,HEND.out⟩
end Go.Proofs.YtmgmbeipbeknaaaGreatDoor
