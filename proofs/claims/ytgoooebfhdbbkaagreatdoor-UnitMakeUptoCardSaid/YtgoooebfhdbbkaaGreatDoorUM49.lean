import Derived.Deep.LoopGhost
import Derived.Deep.Cut
import Derived.Deep.CutRange
import Derived.Deep.CutBlock
import Derived.Test.YtgoooebfhdbbkaaGreatDoorUM22
import Derived.Test.YtgoooebfhdbbkaaGreatDoorUM26
import Derived.Test.YtgoooebfhdbbkaaGreatDoorUM31
import Derived.Test.YtgoooebfhdbbkaaGreatDoorUM32
import Derived.Test.YtgoooebfhdbbkaaGreatDoorUM33
import Derived.Test.YtgoooebfhdbbkaaGreatDoorUM35
import Derived.Test.YtgoooebfhdbbkaaGreatDoorUM39
import Derived.Test.YtgoooebfhdbbkaaGreatDoorUM42
import Derived.Test.YtgoooebfhdbbkaaGreatDoorUM48
namespace Go.Proofs.YtgoooebfhdbbkaaGreatDoor
open Go Go.RowKit
set_option linter.unusedVariables false
set_option linter.unusedSimpArgs false
set_option maxHeartbeats 16000000
set_option maxRecDepth 100000
theorem ZdI(nm:Str)(kind:Int):∀(l:List Ln) (u r:UV),Z9 u->Y8 nm kind u l=.ok r->Z9 r
 |[],u,r,h,e=>by injection e with e;rw [<-e];exact h
 |x::t,u,r,h,e=>by
  rw [Y8] at e;cases hx:XO nm kind u x with
  |error c=>rw [hx] at e;cases e
  |ok q=>
   rw [hx] at e;obtain ⟨k,hk,v,rfl,-⟩:=ZbE hx;exact ZdI nm kind t _ r (h.upd _ _ (Zar nm k hk v _)) e
theorem Zi2(nm:Str)(l:List Ln):Z9 (Xk nm l).1:=by
 unfold Xk;split
 ·exact Z9.zero
 ·split
  ·exact Z9.zero
  ·rename_i u hu
   split
   ·exact Z9.zero
   ·exact ZdI nm _ l _ _ (Z9.new nm) hu
open Go.Proofs.Tryz
theorem Zcp(c a:Int):((#[.int .i64 c,.int .i64 a]:Array Value).all fun x=>x.oneCell')=true:=n86_
theorem Zd0{w2 w3 w4:World}{cs:Array Value}(h3:w3.heap[w2.heap.size]?=some (.cells Zf 30 (0,0)))(hb3:Below w2.heap.size w2 w3)
  (h4:w4.heap[w2.heap.size]?=some (.cells cs 30 (0,0))) (hf4:Fr (fun k=>k=w2.heap.size) (w3.alloc (.cells #[.int .i64 0,.int .i64 0] 33)) w4) :
  w4.heap[w3.heap.size]?=some (.cells #[.int .i64 0,.int .i64 0] 33 (0,0))/\Below w2.heap.size w2 w4/\w2.heap.size<w3.heap.size:=by
 have hlt:=Zg h3;have hF:=heap_alloc_new w3 (.cells #[.int .i64 0,.int .i64 0] 33);exact ⟨hf4.heap hF o_,(hb3.alloc hb3.size _).trans (hf4.below _ (by have:=hb3.size;simp;omega) (fun k hk e=>by omega)),hlt⟩
theorem Zcz{w2 w3 w4 w5:World}{cs:Array Value}(h4:w4.heap[w2.heap.size]?=some (.cells cs 30 (0,0)))
  (h:w4.heap[w3.heap.size]?=some (.cells #[.int .i64 0,.int .i64 0] 33 (0,0))/\Below w2.heap.size w2 w4/\w2.heap.size<w3.heap.size) (hf5:Fr (fun k=>k=w3.heap.size) w4 w5) :
  w5.heap[w2.heap.size]?=some (.cells cs 30 (0,0))/\Below w2.heap.size w2 w5/\w2.heap.size<w3.heap.size:=
 ⟨hf5.heap h4 o_,h.2.1.trans (hf5.below _ h.2.1.size (fun k hk e=>by omega)),h.2.2⟩
theorem Zij(cs:Array Value)(v:Value)(h:cs[22]?=some v)(W:World):(Instr.field 30 (.agg cs) 22).run prog W=.ok v W:=by
 have e:(asAgg (Value.agg cs)).run prog W=.ok cs W:=rfl;simp [Instr.field,go_sem,e,h]
theorem Zjz:(Yh (Yw Zoi))[22]?=some (.int .i64 16):=by
 rw [Zdm _ 22 d_,ZlE];rfl
theorem Zlz(w:World)(hM:ZA w):Calls prog 4 #[] w fun e w'=>e=.returned (.bool true)/\Below w.heap.size w w':=by
 let cells:Array Value:=(Qv.flatMap YV).toArray;let a1:=w.alloc (.cells cells 41);have hB1:Below w.heap.size w a1:=b_.alloc l_ _;have hg:a1.heap[w.heap.size]?=some (.cells cells 41 (0,0)):=heap_alloc_new w _;have hrow:ZB YV 4 a1 (some ⟨w.heap.size,0,none⟩) Qv:=by
  intro i hi;refine ⟨w.heap.size,0,rfl,Zg hg,fun j v hj=>?_⟩;rw [(rd hg).1];have h3:Qv.length=3:=rfl;rcases (show i=0\/i=1\/i=2 by omega) with rfl|rfl|rfl
  all_goals
   rcases j with _|_|_|_|j
   ·exact hj
   ·exact hj
   ·exact hj
   ·exact hj
   ·exact absurd hj (by simp [YV])
 have hx:∀x∈Qv,x.val.length<=1048576:=d_;have HRW:=h_ (fun W (h:Below a1.heap.size a1 W)=>hrow.below h);have HM:=h_ (fun W (h:Below w.heap.size w W)=>hM.below h);have HMK:=h_ (Zeg Zc3 Qv (some ⟨w.heap.size,0,none⟩) 3 a1 (hM.below hB1) hrow d_ hx d_);have HB1:=h_ hB1;have HMK2:=h_ (fun W (h:Below w.heap.size w W) (hr:ZB YV 4 W (some ⟨w.heap.size,0,none⟩) Qv)=>Zeg ZqD (Qv.take 1) (some ⟨w.heap.size,0,none⟩) 3 W (hM.below h) (hr.take 1) d_ d_ d_);have HN:=h_ (fun W (h:Below w.heap.size w W)=>ZiG Zoi W d_ (hM.below h));clear hg hrow hx hM hB1;go_enter func4,ntmps4;go_wp2_with fail;refine HMK.out.mono ?_;rintro e w2 ⟨hb2,cs,rfl,hrd⟩;rw [Zj2] at *;have HB2:=h_ (HB1.out.trans (hb2.mono HB1.out.size));have HR2:=h_ (HRW.out w2 hb2);have HU:=h_ hrd;have HON:=h_ hrd.one;have HSC:=h_ (show (prog.info? 30).map (·.size)=some cs.size by rw [hrd.size];rfl);have HSZ:=h_ (show Zf.size=cs.size by rw [hrd.size];rfl);clear hb2 hrd HMK HB1 HRW;go_wp2_with (first
  |(refine Yx rfl _ Zf rfl (Zz _) ?_;intro w3 h3 hb3)
  |(refine ZL rfl 30 _ _ w2.heap.size cs Zf 30 rfl rfl rfl (Za h3 (b_.alloc l_ _)) HSZ.out HSC.out HON.out ?_;intro w4 h4 hf4;have tv:=Zd0 h3 hb3 h4 hf4;refine ZL rfl 33 (.tmp 3) (.tmp 14) w3.heap.size #[.int .i64 0,.int .i64 0] #[.int .i64 0,.int .i64 0] 33 rfl rfl rfl tv.1 rfl rfl (Zcp 0 0) ?_;intro w5 h5 hf5;have tw:=Zcz h4 tv hf5))
 have HR5:=h_ (HR2.out.below tw.2.1);have HB5:=h_ (HB2.out.trans (tw.2.1.mono HB2.out.size));have HU5:=h_ (HU.out.below tw.2.1);have HX5:=h_ tw.1;have HF5:=h_ h5;have HL5:=h_ tw.2.2;clear h3 hb3 h4 hf4 tv hf5 tw h5 HU HR2 HB2;refine (HMK2.out w5 HB5.out HR5.out).mono ?_;rintro e w6 ⟨hb6,cs6,rfl,hrd6⟩;rw [Ziv] at *;have HB6:=h_ (HB5.out.trans (hb6.mono HB5.out.size));have HU6:=h_ (HU5.out.below hb6);have HX6:=h_ (Za HX5.out hb6);have HF6:=h_ (Za HF5.out hb6);have HON6:=h_ hrd6.one;have HSC6:=h_ (show (prog.info? 30).map (·.size)=some cs6.size by rw [hrd6.size];rfl);have HSZ6:=h_ (show Zf.size=cs6.size by rw [hrd6.size];rfl);clear hb6 hrd6 HMK2 HB5 HU5 HX5 HF5 HR5;go_upto_region 4 with (first
  |(refine Yx rfl _ Zf rfl (Zz _) ?_;intro w7 h7 hb7)
  |(refine ZL rfl 30 (.tmp 4) _ w6.heap.size cs6 Zf 30 rfl rfl rfl (Za h7 (b_.alloc l_ _)) HSZ6.out HSC6.out HON6.out ?_;intro w8 h8 hf8;have tv:=Zd0 h7 hb7 h8 hf8;refine ZL rfl 33 (.tmp 5) (.tmp 20) w7.heap.size #[.int .i64 12,.int .i64 1] #[.int .i64 0,.int .i64 0] 33 rfl rfl rfl tv.1 rfl rfl (Zcp 12 1) ?_;intro w9 h9 hf9;have tw:=Zcz h8 tv hf9))
 have HX9:=h_ (Za HX6.out tw.2.1);have HF9:=h_ (Za HF6.out tw.2.1);have HG9:=h_ h9;have HU9:=h_ (HU6.out.below tw.2.1).see;have HB9:=h_ (HB6.out.trans (tw.2.1.mono HB6.out.size));have HN9:=h_ (HN.out w9 HB9.out);clear h7 hb7 h8 hf8 tv hf9 tw h9 HU6 HX6 HF6 HB6 HN HM;obtain ⟨x0,x1,-,-⟩:=ZP HF9.out;obtain ⟨y0,y1,-,-⟩:=ZP HG9.out;obtain ⟨v4,q4,s4⟩:=HU9.out.at 4 d_;rw [ZkX] at s4;obtain ⟨o4,p4,rfl,r4,-⟩:=s4;obtain ⟨b4,f4,rfl,-,c4⟩:=r4 0 d_;have d40:=c4 0 _ rfl;have d41:=c4 1 _ rfl;have z4:=((rd HX9.out).1 4).trans q4;obtain ⟨v9,q9,s9⟩:=HU9.out.at 9 d_;rw [Zjp] at s9;obtain ⟨o9,p9,xs,rfl,⟨xl,xr,xsee⟩,-⟩:=s9;rcases xs with _|⟨x,_|⟨_,_⟩⟩
 ·cases xl
 ·obtain ⟨b9,f9,rfl,-,c9⟩:=xr 0 Nat.zero_lt_one
  have d90:=c9 0 _ rfl;have d91:=c9 1 _ rfl;have see:=xsee 0 Nat.zero_lt_one Nat.zero_lt_one;obtain ⟨xd,xa,xn,xc⟩:=x;obtain rfl:xd=true:=see.dash;obtain rfl:xn=2:=see.wn;obtain ⟨b8,f8,e8,d8⟩:=see.row 1 d_;have e8':xa=some ⟨b8,f8,none⟩:=e8;subst e8';have z9:=((rd HX9.out).1 9).trans q9;obtain ⟨v14,q14,s14⟩:=HU9.out.at 14 d_;rw [Zkv] at s14;obtain rfl:v14=.int .i64 5:=s14;have z14:=((rd HX9.out).1 14).trans q14;obtain ⟨v16,q16,s16⟩:=HU9.out.at 16 d_;rw [Zo5] at s16;obtain rfl:v16=.int .i64 90:=s16;have z16:=((rd HX9.out).1 16).trans q16;have hfl:=Zij _ _ Zjz;clear c4 r4 q4 c9 xr xsee xl see q9 q14 q16 e8;simp only [List.length_cons,List.length_nil,Nat.zero_mul,Nat.add_zero,Nat.zero_add] at d40 d41 d90 d91 d8 z4 z9;go_wp2_with fail;refine HN9.out.mono ?_;rintro e w10 ⟨rfl,hb10⟩;have HB10:=h_ (HB9.out.trans (hb10.mono HB9.out.size));clear hb10;go_wp2_with fail;go_ret;exact ⟨rfl,HB10.out⟩
 ·cases xl
theorem m159_{p:Prop}(h:p:=by go_wp2_with fail;go_ret;exact ⟨by rw [<-HT2.out];rfl,HB.out⟩):p:=h
theorem Zn4(u:UV)(cs:Array Value)(w:World)(hc:∀j,j∈Xe\/j=4->∃oa cap,cs[j]?=some (.slice oa (u j).len cap))(r:Bool)(hr:Zgk u=r) :
  Calls prog 42 #[.agg cs] w fun e w'=>e=.returned (.bool r)/\Below w.heap.size w w':=by
 have HR:=h_ (show (decide (16<Zfd u (Xe.drop 0) 0)||decide (64<(u 4).len))=r from hr);have hB0:Below w.heap.size w (w.alloc (.cells cs 30)):=b_.alloc l_ _;obtain ⟨g,_,_,_⟩:=rd (heap_alloc_new w (.cells cs 30));obtain ⟨o4,k4,e4⟩:=hc 4 d_;have q4:=(g 4).trans e4;obtain ⟨o8,k8,e8⟩:=hc 8 d_;have q8:=(g 8).trans e8;obtain ⟨o9,k9,e9⟩:=hc 9 d_;have q9:=(g 9).trans e9;obtain ⟨o10,k10,e10⟩:=hc 10 d_;have q10:=(g 10).trans e10;obtain ⟨o11,k11,e11⟩:=hc 11 d_;have q11:=(g 11).trans e11;obtain ⟨o12,k12,e12⟩:=hc 12 d_;have q12:=(g 12).trans e12;obtain ⟨o18,k18,e18⟩:=hc 18 d_;have q18:=(g 18).trans e18;obtain ⟨o19,k19,e19⟩:=hc 19 d_;have q19:=(g 19).trans e19;obtain ⟨o20,k20,e20⟩:=hc 20 d_;have q20:=(g 20).trans e20;obtain ⟨o21,k21,e21⟩:=hc 21 d_;have q21:=(g 21).trans e21;obtain ⟨o25,k25,e25⟩:=hc 25 d_;have q25:=(g 25).trans e25;obtain ⟨o26,k26,e26⟩:=hc 26 d_;have q26:=(g 26).trans e26;obtain ⟨o27,k27,e27⟩:=hc 27 d_;have q27:=(g 27).trans e27;obtain ⟨o28,k28,e28⟩:=hc 28 d_;have q28:=(g 28).trans e28;obtain ⟨o30,k30,e30⟩:=hc 30 d_;have q30:=(g 30).trans e30;obtain ⟨o31,k31,e31⟩:=hc 31 d_;have q31:=(g 31).trans e31;obtain ⟨o32,k32,e32⟩:=hc 32 d_;have q32:=(g 32).trans e32;obtain ⟨o33,k33,e33⟩:=hc 33 d_;have q33:=(g 33).trans e33;have HB:=h_ (hB0.alloc hB0.size (.cells #[.int .i64 ((u 8).len:Int),.int .i64 ((u 9).len:Int),.int .i64 ((u 10).len:Int),.int .i64 ((u 11).len:Int),.int .i64 ((u 12).len:Int),.int .i64 ((u 18).len:Int),.int .i64 ((u 19).len:Int),.int .i64 ((u 20).len:Int),.int .i64 ((u 21).len:Int),.int .i64 ((u 25).len:Int),.int .i64 ((u 26).len:Int),.int .i64 ((u 27).len:Int),.int .i64 ((u 28).len:Int),.int .i64 ((u 30).len:Int),.int .i64 ((u 31).len:Int),.int .i64 ((u 32).len:Int),.int .i64 ((u 33).len:Int)] 3));have hx:=heap_alloc_new (w.alloc (.cells cs 30)) (.cells #[.int .i64 ((u 8).len:Int),.int .i64 ((u 9).len:Int),.int .i64 ((u 10).len:Int),.int .i64 ((u 11).len:Int),.int .i64 ((u 12).len:Int),.int .i64 ((u 18).len:Int),.int .i64 ((u 19).len:Int),.int .i64 ((u 20).len:Int),.int .i64 ((u 21).len:Int),.int .i64 ((u 25).len:Int),.int .i64 ((u 26).len:Int),.int .i64 ((u 27).len:Int),.int .i64 ((u 28).len:Int),.int .i64 ((u 30).len:Int),.int .i64 ((u 31).len:Int),.int .i64 ((u 32).len:Int),.int .i64 ((u 33).len:Int)] 3);rw [show (w.alloc (.cells cs 30)).heap.size=w.heap.size+1 by simp] at hx;have hx0:=heap_alloc (heap_alloc_new w (.cells cs 30)) (.cells #[.int .i64 ((u 8).len:Int),.int .i64 ((u 9).len:Int),.int .i64 ((u 10).len:Int),.int .i64 ((u 11).len:Int),.int .i64 ((u 12).len:Int),.int .i64 ((u 18).len:Int),.int .i64 ((u 19).len:Int),.int .i64 ((u 20).len:Int),.int .i64 ((u 21).len:Int),.int .i64 ((u 25).len:Int),.int .i64 ((u 26).len:Int),.int .i64 ((u 27).len:Int),.int .i64 ((u 28).len:Int),.int .i64 ((u 30).len:Int),.int .i64 ((u 31).len:Int),.int .i64 ((u 32).len:Int),.int .i64 ((u 33).len:Int)] 3);have HX:=h_ (show ∀k,k<17->((w.alloc (.cells cs 30)).alloc (.cells #[.int .i64 ((u 8).len:Int),.int .i64 ((u 9).len:Int),.int .i64 ((u 10).len:Int),.int .i64 ((u 11).len:Int),.int .i64 ((u 12).len:Int),.int .i64 ((u 18).len:Int),.int .i64 ((u 19).len:Int),.int .i64 ((u 20).len:Int),.int .i64 ((u 21).len:Int),.int .i64 ((u 25).len:Int),.int .i64 ((u 26).len:Int),.int .i64 ((u 27).len:Int),.int .i64 ((u 28).len:Int),.int .i64 ((u 30).len:Int),.int .i64 ((u 31).len:Int),.int .i64 ((u 32).len:Int),.int .i64 ((u 33).len:Int)] 3)).cell? ⟨w.heap.size+1,k,none⟩=some (.int .i64 ((u (Xe.getD k 0)).len:Int)) from fun k hk=>by
  rw [(rd hx).1];match k,hk with
  |0,_=>exact rfl
  |1,_=>exact rfl
  |2,_=>exact rfl
  |3,_=>exact rfl
  |4,_=>exact rfl
  |5,_=>exact rfl
  |6,_=>exact rfl
  |7,_=>exact rfl
  |8,_=>exact rfl
  |9,_=>exact rfl
  |10,_=>exact rfl
  |11,_=>exact rfl
  |12,_=>exact rfl
  |13,_=>exact rfl
  |14,_=>exact rfl
  |15,_=>exact rfl
  |16,_=>exact rfl
  |n+17,h=>exact absurd h o_)
 have HX4:=h_ (show ((w.alloc (.cells cs 30)).alloc (.cells #[.int .i64 ((u 8).len:Int),.int .i64 ((u 9).len:Int),.int .i64 ((u 10).len:Int),.int .i64 ((u 11).len:Int),.int .i64 ((u 12).len:Int),.int .i64 ((u 18).len:Int),.int .i64 ((u 19).len:Int),.int .i64 ((u 20).len:Int),.int .i64 ((u 21).len:Int),.int .i64 ((u 25).len:Int),.int .i64 ((u 26).len:Int),.int .i64 ((u 27).len:Int),.int .i64 ((u 28).len:Int),.int .i64 ((u 30).len:Int),.int .i64 ((u 31).len:Int),.int .i64 ((u 32).len:Int),.int .i64 ((u 33).len:Int)] 3)).cell? ⟨w.heap.size,4,none⟩=some (.slice o4 (u 4).len k4) by rw [(rd hx0).1];exact e4);have HR0:=HR;clear hB0 hc hr e4 e8 e9 e10 e11 e12 e18 e19 e20 e21 e25 e26 e27 e28 e30 e31 e32 e33 g hx hx0 HR;go_enter func42,ntmps42;go_wp2_with fail;clear q4 q8 q9 q10 q11 q12 q18 q19 q20 q21 q25 q26 q27 q28 q30 q31 q32 q33;generalize ((w.alloc (.cells cs 30)).alloc (.cells #[.int .i64 ((u 8).len:Int),.int .i64 ((u 9).len:Int),.int .i64 ((u 10).len:Int),.int .i64 ((u 11).len:Int),.int .i64 ((u 12).len:Int),.int .i64 ((u 18).len:Int),.int .i64 ((u 19).len:Int),.int .i64 ((u 20).len:Int),.int .i64 ((u 21).len:Int),.int .i64 ((u 25).len:Int),.int .i64 ((u 26).len:Int),.int .i64 ((u 27).len:Int),.int .i64 ((u 28).len:Int),.int .i64 ((u 30).len:Int),.int .i64 ((u 31).len:Int),.int .i64 ((u 32).len:Int),.int .i64 ((u 33).len:Int)] 3))=w2 at *;go_loopg [3,59] 18 (fun f a i wr=>∃k m:Nat,k<=17/\i=.int .i64 k/\17-k<f/\a=.int .i64 m/\wr=w2/\Hid ((decide (16<Zfd u (Xe.drop k) m)||decide (64<(u 4).len))=r))
 case atStart=>exact ⟨0,0,o_,rfl,o_,rfl,rfl,HR0⟩
 case round=>
  obtain ⟨k,m,hk,rfl,hfu,rfl,rfl,HR⟩:=hrel;clear HR0;by_cases hlt:k<17
  ·have hz:(k:Int)<17:=o_
   have d0:=HX.out k hlt;have HN:=h_ (show (decide (16<Zfd u (Xe.drop (k+1)) (max m (u (Xe.getD k 0)).len))||decide (64<(u 4).len))=r by
    rw [<-HR.out];have h17:k<Xe.length:=hlt;rw [List.drop_eq_getElem_cons h17,Zfd];simp [List.getD_eq_getElem?_getD,List.getElem?_eq_getElem h17])
   generalize (u (Xe.getD k 0)).len=n at *;go_wp2_with fail;go_roundg (17-k)
   case measure=>omega
   case rel=>exact ⟨k+1,max m n,o_,n14_,o_,by first|rfl|(congr 1;omega),rfl,HN⟩
  ·obtain rfl:k=17:=o_
   have HN:=h_ (show (decide (16<m)||decide (64<(u 4).len))=r from HR.out);have q4:=HX4.out;generalize (u 4).len=n4 at *;by_cases h16:16<m
   ·have h1:(16:Int)<(m:Int):=o_
    have h2:(m:Int)>16:=o_;have HT:=h_ (show true=r by rw [<-HN.out,decide_eq_true h16,Bool.true_or]);go_wp2_with fail;go_ret;exact ⟨by rw [<-HT.out];rfl,HB.out⟩
   ·have h1:¬((16:Int)<(m:Int)):=o_
    have HT:=h_ (show decide (64<n4)=r by rw [<-HN.out,decide_eq_false h16,Bool.false_or]);by_cases h64:64<n4
    ·have h3:(64:Int)<(n4:Int):=o_
     have HT2:=h_ (show true=r by rw [<-HT.out,decide_eq_true h64]);exact m159_
    ·have h3:¬((64:Int)<(n4:Int)):=o_
     have HT2:=h_ (show false=r by rw [<-HT.out,decide_eq_false h64]);exact m159_
def XD:List Str:=[[82,101,113,117,105,114,101,115],[87,97,110,116,115],[82,101,113,117,105,115,105,116,101],[66,105,110,100,115,84,111],[80,97,114,116,79,102],[67,111,110,102,108,105,99,116,115],[66,101,102,111,114,101],[65,102,116,101,114],[79,110,70,97,105,108,117,114,101]]
theorem Zgv(s:Str):∀(l:List Str) (i:Nat),Xl l s i=if s∈l then ((i+List.idxOf s l+1:Nat):Int) else 0
 |[],i=>by simp [Xl]
 |x::t,i=>by
  rw [Xl];by_cases h:x=s
  ·subst h
   simp
  ·have hi:List.idxOf s (x::t)=List.idxOf s t+1:=by rw [List.idxOf_cons,beq_eq_false_iff_ne.2 h];rfl
   rw [if_neg h,Zgv s t (i+1),hi];by_cases m:s∈t
   ·rw [if_pos m,if_pos (List.mem_cons_of_mem _ m)]
    congr 1;omega
   ·rw [if_neg m,if_neg (by intro e;rcases List.mem_cons.1 e with e|e;exact h e.symm;exact m e)]
theorem ZlZ(s:Str):Xl XD s 0=((Y6 s:Nat):Int):=by
 rw [Zgv];show _=((List.idxOf s XD % 9+(if s∈XD then 1 else 0):Nat):Int);by_cases m:s∈XD
 ·have h:=List.idxOf_lt_length_of_mem m
  have h9:XD.length=9:=rfl;rw [if_pos m,if_pos m,Nat.mod_eq_of_lt o_];congr 1;omega
 ·have h:List.idxOf s XD=9:=by
   rw [List.idxOf_eq_length m];rfl
  rw [if_neg m,if_neg m,h];rfl
theorem Zhn(s:Str)(w:World):Calls prog 38 #[.string ⟨s.toArray⟩] w fun e w'=>e=.returned (.int .i64 (Y6 s:Nat))/\Below w.heap.size w w':=by
 let w1:=w.alloc (.cells (Ze XD).toArray 9);have hB:Below w.heap.size w w1:=b_.alloc l_ _;have hg:w1.heap[w.heap.size]?=some (.cells (Ze XD).toArray 9 (0,0)):=heap_alloc_new w _;have HC:=h_ (show ∀k (h:k<XD.length),w1.cell? ⟨w.heap.size,k,none⟩=some (.string ⟨(XD[k]).toArray⟩) from fun k h=>by
  rw [(rd hg).1];simp [Ze,h])
 have HB:=h_ hB;have HQ:=h_ (ZlZ s);clear hB hg;go_enter func38,ntmps38;go_wp2_with fail;go_loopg [7] 10 (fun f i wr=>∃k:Nat,k<=9/\i=.int .i64 k/\9-k<f/\wr=w1/\Hid (Xl (XD.drop k) s k=((Y6 s:Nat):Int)))
 case atStart=>exact ⟨0,o_,rfl,o_,rfl,HQ⟩
 case round=>
  obtain ⟨k,hk,rfl,hfu,rfl,HP⟩:=hrel;by_cases hlt:k<9
  ·have hlz:(k:Int)<(9:Int):=o_
   have hl9:k<XD.length:=hlt;obtain ⟨x,hx⟩:=e_ (XD[k]);have d0:=HC.out k hl9;rw [<-hx] at d0;have hp:=HP.out;rw [List.drop_eq_getElem_cons hl9,<-hx,Xl] at hp;cases e:(x==s) with
   |true=>
    rw [if_pos (eq_of_beq e)] at hp;have HR:=h_ hp;have n1:IntKind.i64.wrap ((k:Int)+1)=(k:Int)+1:=IntWalk.i64_in _ o_;clear hx hp HP hl9;go_wp2_with fail;go_ret;exact ⟨by show Ending.returned (.int .i64 ((k:Int)+1))=_;rw [HR.out],HB.out⟩
   |false=>
    rw [if_neg (beq_eq_false_iff_ne.1 e)] at hp;have HR:=h_ hp;clear hx hp HP hl9;go_wp2_with fail;go_roundg (gk-1)
    case measure=>omega
    case rel=>exact ⟨k+1,o_,n14_,o_,rfl,HR⟩
  ·have hk9:k=9:=o_
   subst hk9;have hp:=HP.out;have HR:=h_ (show (0:Int)=((Y6 s:Nat):Int) from by rw [<-hp];rfl);clear hp HP hlt;go_wp2_with fail;go_ret;exact ⟨by show Ending.returned (.int .i64 0)=_;rw [<-HR.out],HB.out⟩
theorem m229_{p:Prop}(h:p:=by
  rw [hkl] at y3;clear h00 hkl HFD HKX;go_wp2_with fail;refine HLF.out.mono ?_;rintro e we ⟨rfl,hp⟩;have HP:=h_ (Zh.below HBX.out hp);clear hp x0 x1 x2 x3 y3;go_wp2_with fail;go_meet
  case rel=>rw [HFE.out];exact HP.out):p:=h
theorem m230_{p:Prop}(h:p:=by
  go_wp2_with fail;go_meet
  case rel=>exact ⟨by rw [HQ.out],HBA.out⟩):p:=h
theorem Zls(r:Except Int Str)(s u:Str)(h:XL s u=r):∃(A:ByteArray) (B:Int),ZjV r=.tuple #[.string A,.int .i64 B]/\((∃c,r=.error c/\B=c/\c≠0)\/(∃v,r=.ok v/\A=⟨v.toArray⟩/\B=0)):=by
 cases r with
 |error c=>exact ⟨_,_,rfl,.inl ⟨c,rfl,rfl,Zj4 h⟩⟩
 |ok v=>exact ⟨_,_,rfl,.inr ⟨v,rfl,rfl,rfl⟩⟩
theorem ZoO{nm:Str}{kind:Int}{u:UV}{sec key val v:Str}{at_:Int}{k:Yn}(h:XL val nm=.ok v)(h2:lnS kind ⟨sec,key,v,at_⟩=0)(h3:findKey sec key=some k) :
  XO nm kind u ⟨sec,key,val,at_⟩=if ZaU key v=false then .error 12 else if Zgk (u.upd (Zt key) (Y4 nm k sec key v (u (Zt key))))=true then .error 2 else .ok (u.upd (Zt key) (Y4 nm k sec key v (u (Zt key)))):=by
 rw [<-ZoA];unfold Zo6;simp only [h];rw [if_neg (fun g=>g h2)];simp only [h3]
theorem ZlX:∀k∈Zx,0<Y6 k.name->Zt k.name=4/\k.sec=[85,110,105,116]:=n12_
theorem ZmR(w:World)(x:Ln):ZB YV 4 (w.alloc (.cells (YV x).toArray 41)) (some ⟨w.heap.size,0,none⟩) [x]:=by
 intro i hi
 have:i=0:=n126_
 subst this;exact ⟨_,0,rfl,s_,fun j v hj=>by rw [(rd (heap_alloc_new w _)).1];simpa using hj⟩
theorem ZnJ(U:Nat)(cs:Array Value)(F:Nat->Nat->Prop)(u:UV)(w:World)(hU:YL w U cs F u)(hT:Z9 u)(hlen:∀j,(u j).len<=100000)(hM:ZA w)(nm:Str)(kind:Int)(h0:u 0=.s nm)(h1:u 1=.n kind)(x:Ln)(hx:x.val.length<=200000000)(hxv:∀v,XL x.val nm=.ok v->v.length<=100000000) :
  Calls prog 16 #[.pointer (some ⟨U,0,none⟩),.agg (YV x).toArray] w fun e w'=>YW nm kind u x w U F e w':=by
 obtain ⟨sec,key,val,at_⟩:=x;unfold YV;simp only at hx hxv⊢;have hUl:=Zg hU.box;have hg:∀j,j<35->cs[j]?=some (cs[j]!):=fun j hj=>by
  have:j<cs.size:=n115_
  rw [getElem!_pos cs j this];exact Array.getElem?_eq_getElem this
 have e0:cs[0]?=some (.string ⟨nm.toArray⟩):=by
  have:=hU.fld 0 _ (hg 0 d_);rw [h0] at this
  rw [hg 0 d_];exact congrArg some this
 have e1:cs[1]?=some (.int .i64 kind):=by
  have:=hU.fld 1 _ (hg 1 d_);rw [h1] at this
  rw [hg 1 d_];exact congrArg some this
 obtain ⟨L,hL⟩:=e_ w.heap.size;have hne:U≠L:=o_;have hB:=(Below.refl w.heap.size w).alloc l_ (.cells #[.string ⟨sec.toArray⟩,.string ⟨key.toArray⟩,.string ⟨val.toArray⟩,.int .i64 at_] 41);have hbx:=heap_alloc_new w (.cells #[.string ⟨sec.toArray⟩,.string ⟨key.toArray⟩,.string ⟨val.toArray⟩,.int .i64 at_] 41);rw [<-hL] at hbx;obtain ⟨r,hr⟩:∃r,XL val nm=r:=⟨_,rfl⟩;obtain ⟨A,B,hAB,hcase⟩:=Zls r val nm hr;have HSP:=h_ (fun W=>Znr ⟨val.toArray⟩ nm W (by show val.toArray.size<=_;simpa using hx) r hr);rw [hAB] at HSP;have HU:=h_ hU;have E0:=h_ e0;have E1:=h_ e1;have HM:=h_ hM;have HT:=h_ hT;have HLEN:=h_ hlen;have HXV:=h_ hxv;have HL:=h_ hL;have HCASE:=h_ hcase;have HB:=h_ hB;have HS0:=h_ (And.intro (Za hU.box hB) hbx);have HFRB:=h_ (fun W (h:Below w.heap.size w W)=>(show Fr (fun k=>k=U\/∃j,F j k) w W from Fr.of_below h _));have HRR:=h_ hr;clear hU hg e0 e1 hM hB hbx hr hAB hcase hT hlen hxv;go_enter func16,ntmps16;go_upto_region 1 with fail
 rw [<-hL];clear hL;generalize w.alloc (.cells #[.string ⟨sec.toArray⟩,.string ⟨key.toArray⟩,.string ⟨val.toArray⟩,.int .i64 at_] 41)=w1 at *;refine Zi (S:=fun V=>V.heap[U]?=some (.cells cs 30 (0,0))/\V.heap[L]?=some (.cells #[.string ⟨sec.toArray⟩,.string ⟨key.toArray⟩,.string ⟨val.toArray⟩,.int .i64 at_] 41 (0,0))) 11 k_ k_ (show _/\_ from HS0.out) (fun hHeld=>?_);refine u_ ?_;(iterate 6 refine dN_ 0 (gT_ rfl) (fun W hW=>by have q0:=((rd hW.1).1 0).trans E0.out;have q1:=((rd hW.1).1 1).trans E1.out;obtain ⟨x0,x1,x2,x3⟩:=Qa hW.2;clear hW;go_simp;rfl) (u_ ?_));refine Zq (i:=6) (gT_ rfl) k_ k_ (fun K hK=>?_);clear hHeld;rw [if_pos n19_];go_simp;refine (HSP.out _).mono ?_;rintro e w3 ⟨rfl,hb3⟩;have hb3':Below w1.heap.size w1 w3:=(show Below w1.heap.size w1 w1.drew from Zb ⟨1,rfl⟩).trans hb3;have HB3:=h_ (HB.out.trans (hb3'.mono HB.out.size));have HS3:=h_ (And.intro (Za HS0.out.1 hb3') (Za HS0.out.2 hb3'));clear hb3 hb3';refine hK.out _ _ HS3.out (fun hHeld=>?_);clear hK K;refine u_ ?_;(iterate 4 refine dN_ 0 (gT_ rfl) (fun W hW=>by clear hW;go_simp;rfl) (u_ ?_));refine Zr k_ ?_;clear hHeld;rcases HCASE.out with ⟨c,rfl,rfl,hc⟩|⟨v,rfl,rfl,rfl⟩
 ·have hc2:((B:Int)!=0)=true:=by rw [bne_iff_ne];exact hc
  have HC:=h_ hc;clear hc HCASE;go_wp2_with fail;go_ret;exact YW.err (HFRB.out _ HB3.out) (ZmF HRR.out)
 ·clear HCASE HSP HB HS0
  have hvl:=HXV.out v HRR.out;obtain ⟨x0,x1,x2,x3⟩:=Qa HS3.out.2;obtain ⟨_,fl,sl,_⟩:=rd HS3.out.2;have fl2:=fl 2;clear fl;go_upto_region 5 with fail
  have hwL:=HL.out;have hlt3:=HB3.out.size;have hne2:U≠L:=hne;have HS4:=h_ (And.intro (show (w3.setCell ⟨L,2,none⟩ (.string ⟨v.toArray⟩)).heap[U]?=some (.cells cs 30 (0,0)) from by
   rw [(Fr.setCell (M:=fun k=>k=L) (Fr.refl _ _) (p:=⟨L,2,none⟩) (fun _=>rfl) _).block U (Zg HS3.out.1) hne];exact HS3.out.1) (show (w3.setCell ⟨L,2,none⟩ (.string ⟨v.toArray⟩)).heap[L]?=some (.cells #[.string ⟨sec.toArray⟩,.string ⟨key.toArray⟩,.string ⟨v.toArray⟩,.int .i64 at_] 41 (0,0)) from heap_setCell HS3.out.2 2 (.string ⟨v.toArray⟩)))
  have HB4:=h_ (HB3.out.setCell (p:=⟨L,2,none⟩) (by rw [hwL];exact Nat.le_refl _) (.string ⟨v.toArray⟩));clear x0 x1 x2 x3 sl fl2 hwL hlt3 HS3 HB3 hne2;generalize w3.setCell ⟨L,2,none⟩ (.string ⟨v.toArray⟩)=w4 at *;obtain ⟨c,hc⟩:=e_ (lnS kind ⟨sec,key,v,at_⟩);obtain ⟨ca,cb,hcab⟩:∃ca cb,Zc9 (lnS kind) [⟨sec,key,v,at_⟩]=(ca,cb):=⟨_,_,rfl⟩;have hca:ca=c:=by
   have h:(if lnS kind ⟨sec,key,v,at_⟩=0 then ((0:Int),(0:Int)) else (lnS kind ⟨sec,key,v,at_⟩,at_))=(ca,cb):=hcab;rw [<-hc] at h;by_cases h0:c=0
   ·rw [if_pos h0] at h;injection h with h _;rw [h0];exact h.symm
   ·rw [if_neg h0] at h;injection h with h _;exact h.symm
  subst hca;have HCH:=h_ (fun V oa cap (hm:ZA V) (h:ZB YV 4 V oa [⟨sec,key,v,at_⟩])=>Zlx kind [⟨sec,key,v,at_⟩] oa cap V s_ hm h (fun x hx=>by simp at hx;subst hx;show v.length<=_;omega) ca cb hcab);have HC:=h_ hc;clear hc hcab;go_cut [7] from 27 to 33 (fun s7 w'=>∃FB,s7=.pointer (some ⟨FB,0,none⟩)/\w'.heap[FB]?=some (.cells #[.int .i64 ca,.int .i64 cb] 33 (0,0))/\Below w4.heap.size w4 w')
  case first=>
   have hb5:Below w4.heap.size w4 w4.drew:=Zb ⟨1,rfl⟩;refine Zi (S:=fun V=>V.heap[U]?=some (.cells cs 30 (0,0))/\V.heap[L]?=some (.cells #[.string ⟨sec.toArray⟩,.string ⟨key.toArray⟩,.string ⟨v.toArray⟩,.int .i64 at_] 41 (0,0))/\Below w4.heap.size w4 V) 8 k_ k_ (show _/\_/\_ from ⟨HS4.out.1,HS4.out.2,hb5⟩) (fun hHeld=>?_);refine u_ ?_;(iterate 5 refine dN_ 0 (gT_ rfl) (fun W hW=>by have q0:=((rd hW.1).1 0).trans E0.out;have q1:=((rd hW.1).1 1).trans E1.out;obtain ⟨x0,x1,x2,x3⟩:=Qa hW.2.1;clear hW;go_simp;rfl) (u_ ?_));have HKEEP:=h_ (fun V (h:Below w4.heap.size w4 V)=>show _/\_/\_ from ⟨Za HS4.out.1 h,Za HS4.out.2 h,h⟩);obtain ⟨w5,hw5⟩:=e_ w4.drew;rw [<-hw5] at hHeld hb5⊢;clear hw5;have HB_w5:=h_ hb5;clear hb5;refine Zcu (i:=5) (j:=7) (gT_ rfl) (gT_ rfl) k_ k_ k_ (fun K hK=>?_) (fun K hK=>?_)
   ·clear hHeld
    rw [if_pos n19_];go_simp;have hb:Below w5.heap.size w5 (w5.alloc (.cells #[.string ⟨sec.toArray⟩,.string ⟨key.toArray⟩,.string ⟨v.toArray⟩,.int .i64 at_] 41)):=b_.alloc l_ _;have hr:ZB YV 4 (w5.alloc (.cells #[.string ⟨sec.toArray⟩,.string ⟨key.toArray⟩,.string ⟨v.toArray⟩,.int .i64 at_] 41)) (some ⟨w5.heap.size,0,none⟩) [⟨sec,key,v,at_⟩]:=ZmR w5 ⟨sec,key,v,at_⟩;refine hK.out _ _ (HKEEP.out _ (HB_w5.out.trans (hb.mono HB_w5.out.size))) (fun hHeld=>?_);clear hK K;refine u_ ?_;generalize w5.alloc (.cells #[.string ⟨sec.toArray⟩,.string ⟨key.toArray⟩,.string ⟨v.toArray⟩,.int .i64 at_] 41)=wa at *;have HB_wa:=h_ (HB_w5.out.trans (hb.mono HB_w5.out.size));have HR_wa:=h_ hr;clear hr hb;refine Zcu (i:=6) (j:=7) (gT_ rfl) (gT_ rfl) k_ k_ k_ (fun K hK=>?_) (fun K hK=>?_)
    ·clear hHeld
     rw [if_pos n19_];go_simp;refine (HCH.out wa (some ⟨w5.heap.size,0,none⟩) 1 (HM.out.below (HB4.out.trans (HB_wa.out.mono HB4.out.size))) HR_wa.out).mono ?_;rintro e wb ⟨rfl,hb⟩;refine hK.out _ _ (HKEEP.out _ (HB_wa.out.trans (hb.mono HB_wa.out.size))) (fun hHeld=>?_);clear hK K;refine u_ ?_;have HB_wb:=h_ (HB_wa.out.trans (hb.mono HB_wa.out.size));have HR_wb:=h_ (HR_wa.out.below hb);clear hb;refine Zq (i:=7) (gT_ rfl) k_ k_ (fun K hK=>?_);clear hHeld;rw [if_pos n19_];go_simp;have hb:Below wb.heap.size wb (wb.alloc (.cells #[.int .i64 0,.int .i64 0] 33)):=b_.alloc l_ _;have hr:=heap_alloc_new wb (.cells #[.int .i64 0,.int .i64 0] 33);refine hK.out _ _ (HKEEP.out _ (HB_wb.out.trans (hb.mono HB_wb.out.size))) (fun hHeld=>?_);clear hK K;refine u_ ?_;generalize wb.alloc (.cells #[.int .i64 0,.int .i64 0] 33)=wc1 at *;have HB_wc1:=h_ (HB_wb.out.trans (hb.mono HB_wb.out.size));have HR_wc1:=h_ (HR_wb.out.below hb);have HF_wc1:=h_ hr;have HG_wc1:=h_ HB_wb.out.size;clear hr hb;refine Zr k_ ?_;clear hHeld;obtain ⟨c0,c1⟩:=YB HF_wc1.out;obtain ⟨_,f4,s4,_⟩:=rd HF_wc1.out;have f40:=f4 0;have f41:=f4 1;clear f4;go_wp2_with fail;go_meet
     case rel=>exact ⟨wb.heap.size,rfl,heap_setCell (heap_setCell HF_wc1.out 0 _) 1 _,(HB_wc1.out.setCell (p:=⟨wb.heap.size,0,none⟩) HG_wc1.out _).setCell (p:=⟨wb.heap.size,1,none⟩) HG_wc1.out _⟩
    ·clear hHeld
     rw [if_pos n19_];go_simp;have hb:Below wa.heap.size wa (wa.alloc (.cells #[.int .i64 0,.int .i64 0] 33)):=b_.alloc l_ _;have hr:=heap_alloc_new wa (.cells #[.int .i64 0,.int .i64 0] 33);refine hK.out _ _ (HKEEP.out _ (HB_wa.out.trans (hb.mono HB_wa.out.size))) (fun hHeld=>?_);clear hK K;refine u_ ?_;generalize wa.alloc (.cells #[.int .i64 0,.int .i64 0] 33)=wb at *;have HB_wb:=h_ (HB_wa.out.trans (hb.mono HB_wa.out.size));have HR_wb:=h_ (HR_wa.out.below hb);have HF_wb:=h_ hr;have HG_wb:=h_ HB_wa.out.size;clear hr hb;refine Zq (i:=6) (gT_ rfl) k_ k_ (fun K hK=>?_);clear hHeld;rw [if_pos n19_];go_simp;refine (HCH.out wb (some ⟨w5.heap.size,0,none⟩) 1 (HM.out.below (HB4.out.trans (HB_wb.out.mono HB4.out.size))) HR_wb.out).mono ?_;rintro e wc1 ⟨rfl,hb⟩;refine hK.out _ _ (HKEEP.out _ (HB_wb.out.trans (hb.mono HB_wb.out.size))) (fun hHeld=>?_);clear hK K;refine u_ ?_;have HB_wc1:=h_ (HB_wb.out.trans (hb.mono HB_wb.out.size));have HR_wc1:=h_ (HR_wb.out.below hb);have HF_wc1:=h_ (Za HF_wb.out hb);clear hb;refine Zr k_ ?_;clear hHeld;obtain ⟨c0,c1⟩:=YB HF_wc1.out;obtain ⟨_,f4,s4,_⟩:=rd HF_wc1.out;have f40:=f4 0;have f41:=f4 1;clear f4;go_wp2_with fail;go_meet
     case rel=>exact ⟨wa.heap.size,rfl,heap_setCell (heap_setCell HF_wc1.out 0 _) 1 _,(HB_wc1.out.setCell (p:=⟨wa.heap.size,0,none⟩) HG_wb.out _).setCell (p:=⟨wa.heap.size,1,none⟩) HG_wb.out _⟩
   ·clear hHeld
    rw [if_pos n19_];go_simp;have hb:Below w5.heap.size w5 (w5.alloc (.cells #[.int .i64 0,.int .i64 0] 33)):=b_.alloc l_ _;have hr:=heap_alloc_new w5 (.cells #[.int .i64 0,.int .i64 0] 33);refine hK.out _ _ (HKEEP.out _ (HB_w5.out.trans (hb.mono HB_w5.out.size))) (fun hHeld=>?_);clear hK K;refine u_ ?_;generalize w5.alloc (.cells #[.int .i64 0,.int .i64 0] 33)=wa at *;have HB_wa:=h_ (HB_w5.out.trans (hb.mono HB_w5.out.size));have HF_wa:=h_ hr;have HG_wa:=h_ HB_w5.out.size;clear hr hb;refine Zq (i:=5) (gT_ rfl) k_ k_ (fun K hK=>?_);clear hHeld;rw [if_pos n19_];go_simp;have hb:Below wa.heap.size wa (wa.alloc (.cells #[.string ⟨sec.toArray⟩,.string ⟨key.toArray⟩,.string ⟨v.toArray⟩,.int .i64 at_] 41)):=b_.alloc l_ _;have hr:ZB YV 4 (wa.alloc (.cells #[.string ⟨sec.toArray⟩,.string ⟨key.toArray⟩,.string ⟨v.toArray⟩,.int .i64 at_] 41)) (some ⟨wa.heap.size,0,none⟩) [⟨sec,key,v,at_⟩]:=ZmR wa ⟨sec,key,v,at_⟩;refine hK.out _ _ (HKEEP.out _ (HB_wa.out.trans (hb.mono HB_wa.out.size))) (fun hHeld=>?_);clear hK K;refine u_ ?_;generalize wa.alloc (.cells #[.string ⟨sec.toArray⟩,.string ⟨key.toArray⟩,.string ⟨v.toArray⟩,.int .i64 at_] 41)=wb at *;have HB_wb:=h_ (HB_wa.out.trans (hb.mono HB_wa.out.size));have HF_wb:=h_ (Za HF_wa.out hb);have HR_wb:=h_ hr;clear hr hb;refine Zq (i:=6) (gT_ rfl) k_ k_ (fun K hK=>?_);clear hHeld;rw [if_pos n19_];go_simp;refine (HCH.out wb (some ⟨wa.heap.size,0,none⟩) 1 (HM.out.below (HB4.out.trans (HB_wb.out.mono HB4.out.size))) HR_wb.out).mono ?_;rintro e wc1 ⟨rfl,hb⟩;refine hK.out _ _ (HKEEP.out _ (HB_wb.out.trans (hb.mono HB_wb.out.size))) (fun hHeld=>?_);clear hK K;refine u_ ?_;have HB_wc1:=h_ (HB_wb.out.trans (hb.mono HB_wb.out.size));have HR_wc1:=h_ (HR_wb.out.below hb);have HF_wc1:=h_ (Za HF_wb.out hb);clear hb;refine Zr k_ ?_;clear hHeld;obtain ⟨c0,c1⟩:=YB HF_wc1.out;obtain ⟨_,f4,s4,_⟩:=rd HF_wc1.out;have f40:=f4 0;have f41:=f4 1;clear f4;go_wp2_with fail;go_meet
    case rel=>exact ⟨w5.heap.size,rfl,heap_setCell (heap_setCell HF_wc1.out 0 _) 1 _,(HB_wc1.out.setCell (p:=⟨w5.heap.size,0,none⟩) HG_wa.out _).setCell (p:=⟨w5.heap.size,1,none⟩) HG_wa.out _⟩
  obtain ⟨FB,rfl,hFB,hbF⟩:=hcut;have HB5:=h_ (HB4.out.trans (hbF.mono HB4.out.size));have HS5:=h_ (And.intro (Za HS4.out.1 hbF) (Za HS4.out.2 hbF));obtain ⟨f0,f1⟩:=YB hFB;clear hFB hbF HS4 HB4 HCH;by_cases hc0:ca=0
  case neg=>
   have hc1:((ca:Int)!=0)=true:=by rw [bne_iff_ne];exact hc0
   go_wp2_with fail;go_ret;exact YW.err (HFRB.out _ HB5.out) (by have h:=ZmI (u:=u) (kind:=kind) (x:=⟨sec,key,val,at_⟩) HRR.out (show lnS kind ⟨sec,key,v,at_⟩≠0 by rw [<-HC.out];exact hc0);rw [HC.out];exact h)
  subst hc0;obtain ⟨k,hfk,hka,hks,hkn,hkv0⟩:=Zio kind ⟨sec,key,v,at_⟩ HC.out.symm;simp only at hfk hks hkn;subst hks;subst hkn;have HLR:=h_ (@ZoO nm kind u k.sec k.name val v at_ k HRR.out HC.out.symm hfk);have HFD:=h_ (fun W=>ZhO k.sec k.name W);unfold ZdW at HFD;rw [hfk] at HFD;simp only [Option.isSome_some,Option.getD_some] at HFD;have HKA:=h_ hka;have HFN:=h_ hfk;clear hfk hka hkv0;obtain ⟨w5,rfl⟩:∃w5,w5=wc:=⟨wc,rfl⟩;have hsp:=HRR.out;go_upto_region 8 with fail
  clear f0 f1;obtain ⟨b8,hb8⟩:∃b8,(k.name==[83,101,114,118,105,99,101]&&!(Zw v==1))=b8:=⟨_,rfl⟩;go_cut [47] from 39 to 47 (fun s47 w'=>s47=.bool b8/\Below w5.heap.size w5 w')
  case first=>
   obtain ⟨x0,x1,x2,x3⟩:=Qa HS5.out.2;have HOF:=h_ (fun W=>Zee ⟨v.toArray⟩ W (ofS v) rfl);have hkd:(ofS v).kind=Zw v:=Zd2 v;rw [hkd] at HOF;have hfl:=Zeq (.int .i64 (Zw v:Nat)) (.string ⟨(ofS v).pre.toArray⟩) (.string ⟨(ofS v).inst.toArray⟩) (.bool (ofS v).at_) rfl;have HB8:=h_ hb8;have hki:(((Zw v:Nat):Int)!=1)=!(Zw v==1):=by
    rw [Bool.eq_iff_iff];simp;omega
   have HKI:=h_ hki;clear hkd hb8 hsp hki;cases hq:(k.name==[83,101,114,118,105,99,101]) with
   |false=>
    have HQ:=h_ (show b8=false by rw [<-HB8.out,hq];rfl);clear hfl;go_wp2_with fail;go_meet
    case rel=>exact ⟨by rw [HQ.out],Below.refl _ _⟩
   |true=>
    have HQ:=h_ (show b8=!(Zw v==1) by rw [<-HB8.out,hq];rfl);have hkn:k.name=[83,101,114,118,105,99,101]:=by simpa using hq
    rw [hkn] at x1;have hki:=HKI.out;generalize (!(Zw v==1))=bk at *;clear hq hkn;go_wp2_with fail;refine (HOF.out _).mono ?_;rintro e w6 ⟨rfl,hb6⟩;have HB6:=h_ hb6;clear hb6;go_wp2_with fail;go_meet
    case rel=>exact ⟨by rw [HQ.out],HB6.out⟩
  obtain ⟨rfl,hb6⟩:=hcut;obtain ⟨w6,rfl⟩:∃w6,w6=wc:=⟨wc,rfl⟩;have HB6:=h_ (HB5.out.trans (hb6.mono HB5.out.size));have HS6:=h_ (And.intro (Za HS5.out.1 hb6) (Za HS5.out.2 hb6));clear hb6 HB5 HS5 hsp;cases b8
  case true=>
   have HA:=h_ (show ZaU k.name v=false by
    rw [Bool.and_eq_true] at hb8;unfold ZaU;rw [show (k.name !=Qf)=false from by rw [bne_eq_false_iff_eq];exact eq_of_beq hb8.1,show (Zw v==1)=false by simpa using hb8.2];rfl)
   clear hb8;go_wp2_with fail;go_ret;exact YW.err (HFRB.out _ HB6.out) (by rw [HLR.out,if_pos HA.out])
  have HA1:=h_ (show (k.name !=Qf||Zw v==1)=true by
   show (!(k.name==Qf)||Zw v==1)=true;have h:(k.name==Qf&&!(Zw v==1))=false:=hb8;revert h;generalize (k.name==Qf)=a1;generalize (Zw v==1)=a2;cases a1<;>cases a2<;>simp)
  clear hb8;obtain ⟨x0,x1,x2,x3⟩:=Qa HS6.out.2;go_upto_if 50 with fail
  clear x0 x1 x2 x3;go_cut [] from 48 to 61 (fun w'=>Below w6.heap.size w6 w'/\(k.name !=JX||!((Zc v).any fun w=>Xc w==0))=true)
  case first=>
   cases hq:(k.name==[76,105,115,116,101,110,83,116,114,101,97,109]) with
   |false=>
    have HQ:=h_ (show (k.name !=JX)=true by show (!(k.name==[76,105,115,116,101,110,83,116,114,101,97,109]))=true;rw [hq];rfl);go_wp2_with fail;go_meet
    case rel=>exact ⟨Below.refl _ _,by rw [HQ.out];rfl⟩
   |true=>
    have HQ:=h_ (show (k.name !=JX)=false by show (!(k.name==[76,105,115,116,101,110,83,116,114,101,97,109]))=false;rw [hq];rfl);have HBL:=h_ (ZN ⟨v.toArray⟩ ⟨#[32]⟩ w6 n25_ d_ (Zc v) (Yd [32] rfl v []));unfold YJ at HBL;have HNO:=h_ (show ((Zc v).take 0).any (fun w=>Xc w==0)=false from rfl);obtain ⟨ws,hws⟩:=e_ (Zc v);rw [<-hws] at HBL HNO;have hwl:ws.length<=100000001:=by have:=Z4 v [];rw [hws];unfold Zc;omega
    have HWS:=h_ hws;clear hws hq;go_wp2_with fail;refine HBL.out.mono ?_;rintro e w7 ⟨hb7,v7,rfl,hrow⟩;obtain ⟨ob,cb,rfl⟩:=ownsRow_form hrow;have HSR:=h_ (Zj.of_own hrow);have HB7:=h_ hb7;clear hb7 hrow HBL;go_wp2_with fail;go_loopg [54] (ws.length+1) (fun f i wr=>∃n:Nat,n<=ws.length/\i=.int .i64 n/\ws.length-n<f/\Hid ((ws.take n).any (fun w=>Xc w==0)=false)/\Hid (Below w7.heap.size w7 wr))
    case atStart=>exact ⟨0,o_,rfl,o_,HNO,h_ b_⟩
    case round=>
     obtain ⟨n,hn,rfl,hfu,HNN,HBX⟩:=hrel;clear HNO;by_cases hlt:n<ws.length
     ·have hz:(n:Int)<(ws.length:Int):=o_
      obtain ⟨b2,o2,hob2,d0⟩:=(HSR.out.below HBX.out) n hlt;subst hob2;obtain ⟨x,hxx⟩:=e_ (ws[n]);rw [<-hxx] at d0;have HNU:=h_ (fun W=>QV ⟨x.toArray⟩ W (Xc x) rfl);have HX:=h_ hxx;clear hxx;by_cases h0:Xc x=0
      ·have h0b:(Xc x==0)=true:=by rw [h0];rfl
       have HA:=h_ (show ZaU k.name v=false by
        unfold ZaU;rw [HQ.out,show ((Zc v).any fun w=>Xc w==0)=true from by
         rw [<-HWS.out,List.any_eq_true];exact ⟨x,by rw [HX.out];exact List.getElem_mem hlt,h0b⟩]
        simp)
       clear h0;go_wp2_with fail;refine (HNU.out _).mono ?_;rintro e w8 ⟨rfl,hb8⟩;have HB8:=h_ (HB6.out.trans ((HB7.out.trans ((HBX.out.trans (hb8.mono HBX.out.size)).mono HB7.out.size)).mono HB6.out.size));clear hb8;go_wp2_with fail;go_ret;exact YW.err (HFRB.out _ HB8.out) (by rw [HLR.out,if_pos HA.out])
      ·have h0b:(Xc x==0)=false:=n120_
       have HN2:=h_ (show (ws.take (n+1)).any (fun w=>Xc w==0)=false by
        rw [List.take_succ_eq_append_getElem hlt,List.any_append,HNN.out,<-HX.out];simp [h0])
       clear h0;go_wp2_with fail;refine (HNU.out _).mono ?_;rintro e w8 ⟨rfl,hb8⟩;have HB8:=h_ (HBX.out.trans (hb8.mono HBX.out.size));clear hb8;go_wp2_with fail;go_roundg (ws.length-n)
       case measure=>omega
       case rel=>exact ⟨n+1,o_,n14_,o_,HN2,HB8⟩
     ·have hz:¬((n:Int)<(ws.length:Int)):=o_
      have HZ:=h_ (show ((Zc v).any fun w=>Xc w==0)=false by
       rw [<-HWS.out]
       have:=HNN.out
       rwa [List.take_of_length_le o_] at this)
      go_wp2_with fail;go_meet
      case rel=>exact ⟨HB7.out.trans (HBX.out.mono HB7.out.size),by rw [HZ.out];simp⟩
  obtain ⟨hb7,ha2⟩:=hcut;obtain ⟨w7,rfl⟩:∃w7,w7=wc:=⟨wc,rfl⟩;have HB7:=h_ (HB6.out.trans (hb7.mono HB6.out.size));have HS7:=h_ (And.intro (Za HS6.out.1 hb7) (Za HS6.out.2 hb7));have HAF:=h_ (show ZaU k.name v=true by unfold ZaU;rw [HA1.out,ha2];rfl);clear hb7 ha2 HB6 HS6 HA1;obtain ⟨x0,x1,x2,x3⟩:=Qa HS7.out.2;go_wp2_with fail;refine (HFD.out _).mono ?_;rintro e w8 ⟨⟨ksec,kname,kform,klist,kkinds,kwa,kwn,kwc⟩,rfl,hkv,hb8⟩;have hkl:klist=k.list:=hkv.list;subst hkl;unfold Zv;simp only;clear x0 x1 x2 x3;go_upto_block 2 with fail
  obtain ⟨KB,hKB⟩:=e_ w8.heap.size;have hb9:=hb8.alloc hb8.size (.cells #[.string ⟨ksec.toArray⟩,.string ⟨kname.toArray⟩,.int .i64 kform,.bool k.list,.int .i64 kkinds,.slice kwa kwn kwc] 66);have hx9:=heap_alloc_new w8 (.cells #[.string ⟨ksec.toArray⟩,.string ⟨kname.toArray⟩,.int .i64 kform,.bool k.list,.int .i64 kkinds,.slice kwa kwn kwc] 66);rw [<-hKB] at hx9⊢;have HB9:=h_ (HB7.out.trans (hb9.mono HB7.out.size));have HS9:=h_ (And.intro (Za HS7.out.1 hb9) (Za HS7.out.2 hb9));have HK9:=h_ hx9;clear hb8 hb9 hx9 hkv hKB HB7 HS7 HFD;generalize w8.alloc (.cells #[.string ⟨ksec.toArray⟩,.string ⟨kname.toArray⟩,.int .i64 kform,.bool k.list,.int .i64 kkinds,.slice kwa kwn kwc] 66)=w9 at *;have hU9:=HU.out.fr (M:=fun k=>w.heap.size<=k) (show Fr (fun k=>w.heap.size<=k) w w9 from Fr.of_below HB9.out _) o_ (fun j k hk h=>by have:=(HU.out.lt j k hk).2;omega);have HU9:=h_ hU9;clear hU9;have HSL:=h_ (Zew k HKA.out).1;go_cut [] from 62 to 95 (fun w'=>Zh w9 w' U cs (Zt k.name) (F (Zt k.name)) (Y4 nm k k.sec k.name v (u (Zt k.name))))
  case first=>
   go_upto_region 19 with fail
   go_cut [73] from 74 to 82 (fun s73 w'=>s73=.bool (decide (0<Y6 k.name))/\Below w9.heap.size w9 w')
   case first=>
    obtain ⟨x0,x1,x2,x3⟩:=Qa HS9.out.2;have HRO:=h_ (fun W=>Zhn k.name W);have HL9:=h_ (fun V (h:Below w9.heap.size w9 V)=>Qa (Za HS9.out.2 h));by_cases h0:0<Y6 k.name
    ·have hq:(k.sec==[85,110,105,116])=true:=by rw [(ZlX k HKA.out h0).2];rfl
     have HQ:=h_ (show decide (0<Y6 k.name)=true from decide_eq_true h0);have h0i:(0:Int)<((Y6 k.name:Nat):Int):=o_;clear h0;go_wp2_with fail;refine (HRO.out _).mono ?_;rintro e wa ⟨rfl,hba⟩;clear x0 x1 x2 x3;obtain ⟨x0,x1,x2,x3⟩:=HL9.out wa hba;have HBA:=h_ hba;clear hba;exact m230_
    ·have HQ:=h_ (show decide (0<Y6 k.name)=false from decide_eq_false h0)
     have h0i:¬((0:Int)<((Y6 k.name:Nat):Int)):=o_;clear h0;go_wp2_with fail;refine (HRO.out _).mono ?_;rintro e wa ⟨rfl,hba⟩;have HBA:=h_ hba;clear hba x0 x1 x2 x3;exact m230_
   obtain ⟨rfl,hba⟩:=hcut;obtain ⟨wa,rfl⟩:∃wa,wa=wc:=⟨wc,rfl⟩;have HBX:=h_ hba;have HBA:=h_ (HB9.out.trans (hba.mono HB9.out.size));have HSA:=h_ (And.intro (Za HS9.out.1 hba) (Za HS9.out.2 hba));have HKX:=h_ (Za HK9.out hba);clear hba HS9 HK9;have hUA:=HU.out.fr (M:=fun k=>w.heap.size<=k) (show Fr (fun k=>w.heap.size<=k) w wa from Fr.of_below HBA.out _) o_ (fun j k hk h=>by have:=(HU.out.lt j k hk).2;omega);have HUA:=h_ hUA;clear hUA;have HLK:=h_ (fun V (h:Below wa.heap.size wa V)=>Qa (Za HSA.out.2 h));by_cases h0:0<Y6 k.name
   ·obtain ⟨hs4,hsu⟩:=ZlX k HKA.out h0
    have HFD:=h_ (show Y4 nm k k.sec k.name v (u (Zt k.name))=.rs (ZgJ nm (Y6 k.name:Nat) (u 4).rels (Zc v)) by unfold Y4;rw [if_pos ⟨h0,hsu⟩,hs4]);have hd:decide (0<Y6 k.name)=true:=decide_eq_true h0;obtain ⟨l4,hl4⟩:=Zlp (HT.out 4);rw [hl4] at HFD;have hn4:=HLEN.out 4;rw [hl4] at hn4;have hj4:cs[4]?=some (cs[4]'(by rw [HUA.out.size];decide)):=Array.getElem?_eq_getElem (by rw [HUA.out.size];decide);have hv4:=HUA.out.fld 4 _ hj4;rw [hl4] at hv4;have HRO:=h_ (fun W=>Zhn k.name W);have HBL:=h_ (fun W=>ZN ⟨v.toArray⟩ ⟨#[32]⟩ W n25_ d_ (Zc v) (Yd [32] rfl v []));unfold YJ at HBL;have hwl:(Zc v).length<=100000001:=by have:=Z4 v [];unfold Zc;omega
    have HFL:=h_ (fun V (hb:Below wa.heap.size wa V) ob cap (hr:V.ownsRow wa.heap.size 9 1 (.slice ob (Zc v).length cap) (Zc v).length (Ze (Zc v)))=>
     ZnE U cs (F 4) l4 _ V (Za HUA.out.box hb) hj4 (hv4.fr (M:=fun _=>False) (Fr.of_below hb _) (fun _ _ e=>e)) (HUA.out.notU 4) (fun k h=>Nat.lt_of_lt_of_le (HUA.out.lt 4 k h).2 hb.size) (by exact hn4) nm E0.out (Y6 k.name:Nat) (Zc v) ob cap (Zj.of_own hr) hwl (fun b o e=>by
      have h1:=hr.lt b n100_;have h2:=Zg HUA.out.box;exact ⟨h1.2,o_,fun h=>by have:=(HUA.out.lt 4 b h).2;omega⟩))
    have HS4E:=h_ hs4;clear hs4 hsu hl4 hn4 hj4 hv4 hwl;obtain ⟨x0,x1,x2,x3⟩:=HLK.out wa b_;go_wp2_with fail;refine (HRO.out _).mono ?_;rintro e wb ⟨rfl,hbb⟩;have HBB:=h_ hbb;clear hbb x0 x1 x2 x3;go_wp2_with fail;refine (HBL.out _).mono ?_;rintro e wd ⟨hbd,v7,rfl,hrow⟩;obtain ⟨ob,cb,rfl⟩:=ownsRow_form hrow;have HBD:=h_ (HBB.out.trans (hbd.mono HBB.out.size));have HRW:=h_ (Zcl hrow HBB.out.size);clear hbd hrow HBL;go_wp2_with fail;refine (HFL.out wd HBD.out ob cb HRW.out).mono ?_;rintro e we ⟨rfl,hp⟩;have HP:=h_ (Zh.below HBX.out (Zh.below HBD.out hp));clear hp;go_wp2_with fail;go_meet
    case rel=>rw [HFD.out,HS4E.out];exact HP.out
   ·have hd:decide (0<Y6 k.name)=false:=decide_eq_false h0
    have HFD:=h_ (show Y4 nm k k.sec k.name v (u (Zt k.name))=if k.list=true then ZeD k.name v (u (Zt k.name)) else singleR k.name v (u (Zt k.name)) by unfold Y4;rw [if_neg (fun h=>h0 h.1)]);have h00:Y6 k.name=0:=o_;obtain ⟨x0,x1,x2,x3⟩:=HLK.out wa b_;have y3:wa.cell? ⟨KB,3,none⟩=some (.bool k.list):=by rw [(rd HKX.out).1];rfl
    cases hkl:k.list with
    |true=>
     have HLF:=h_ (Zna U cs F u wa HUA.out HT.out HLEN.out k HKA.out hkl h00 k.sec v at_ hvl);have HFE:=h_ (show Y4 nm k k.sec k.name v (u (Zt k.name))=ZeD k.name v (u (Zt k.name)) by rw [HFD.out,if_pos hkl]);exact m229_
    |false=>
     have HLF:=h_ (Zkp U (Zt k.name) cs (F (Zt k.name)) wa HUA.out.box HUA.out.size k.sec k.name v at_ (Zrr k HKA.out hkl h00) hvl (u (Zt k.name)));have HFE:=h_ (show Y4 nm k k.sec k.name v (u (Zt k.name))=singleR k.name v (u (Zt k.name)) by rw [HFD.out,if_neg (by rw [hkl];decide)]);exact m229_
  obtain ⟨wb,rfl⟩:∃wb,wb=wc:=⟨wc,rfl⟩;obtain ⟨cs',F',hU8,hfr8,-,-⟩:=HU9.out.put HSL.out hcut;have HFR8:=h_ (show Fr (fun k=>k=U\/∃j,F j k) w wb from (Fr.of_below HB9.out _).trans (hcut.frame.mono (fun i _ h=>h.imp id (fun q=>⟨_,q⟩))));have hk1:Y4 nm k k.sec k.name v (u (Zt k.name))=ZY nm k v (u (Zt k.name)):=by
   have h1:=HLR.out;obtain ⟨k',hf',hk',hs',hn',hv'⟩:=Zio kind ⟨k.sec,k.name,v,at_⟩ HC.out.symm;rw [<-ZhC nm k v _ HKA.out (by
    have hkk:k'=k:=by
     have:=HFN.out
     simp only at hf';rw [this] at hf';injection hf' with h;exact h.symm
    rw [<-hkk];exact hv')]
   unfold Y4 ZiM;by_cases hr:0<Y6 k.name
   ·rw [if_pos ⟨hr,(ZlX k HKA.out hr).2⟩,if_pos hr]
   ·rw [if_neg (fun h=>hr h.1),if_neg hr]
  have hT8:Z9 (u.upd (Zt k.name) (Y4 nm k k.sec k.name v (u (Zt k.name)))):=HT.out.upd _ _ (by rw [hk1];exact Zar nm k HKA.out v _);have HLU:=h_ (show XO nm kind u ⟨k.sec,k.name,val,at_⟩=if Zgk (u.upd (Zt k.name) (Y4 nm k k.sec k.name v (u (Zt k.name))))=true then .error 2 else .ok (u.upd (Zt k.name) (Y4 nm k k.sec k.name v (u (Zt k.name)))) by rw [HLR.out,if_neg (by rw [HAF.out];decide)]);obtain ⟨r',hr'⟩:∃r',r'=u.upd (Zt k.name) (Y4 nm k k.sec k.name v (u (Zt k.name))):=⟨_,rfl⟩;rw [<-hr'] at hU8 hT8 HLU;clear hr' hk1 hcut hfr8 HU9 HLR;obtain ⟨lg,hlg⟩:∃lg,Zgk r'=lg:=⟨_,rfl⟩;have HLF:=h_ (fun W=>Zn4 r' cs' W (fun j hj=>by
   have hjt:3<=(ZV j).tag/\j<35:=by
    rcases hj with h|rfl
    ·exact ZmB j h
    ·decide
   have hj35:=hjt.2;have hjc:cs'[j]?=some (cs'[j]'(by rw [hU8.size];exact hj35)):=Array.getElem?_eq_getElem (by rw [hU8.size];exact hj35);obtain ⟨o4,cc4,e4⟩:=(hU8.fld j _ hjc).len (by rw [hT8 j];exact hjt.1);exact ⟨o4,cc4,by rw [hjc,e4]⟩) lg hlg)
  rw [hlg] at HLU;have HU8:=h_ hU8;have HSZ:=h_ (show (prog.info? 30).map (·.size)=some cs'.size by rw [hU8.size];rfl);have HLD:=h_ (show ∀j v,cs'[j]?=some v->wb.cell? ⟨U,0+j,none⟩=some v from fun j v hv=>by rw [Nat.zero_add,(rd hU8.box).1];exact hv);clear hU8 hT8 hlg;go_wp2_with (refine Ze0 (by first|rfl|(simp [Region.wanted,yielded];omega)) 30 _ U 0 cs' _ rfl rfl HLD.out rfl rfl HSZ.out ?_);refine (HLF.out _).mono ?_;rintro e wd ⟨rfl,hbd⟩;have HFR9:=h_ (HFR8.out.trans (Fr.of_below hbd _));have HU9:=h_ (HU8.out.below hbd);clear hbd HLF;cases lg with
  |true=>
   go_wp2_with fail;go_ret;exact YW.err HFR9.out (by have h:=HLU.out;simpa using h)
  |false=>
   go_wp2_with fail;go_ret;exact YW.ok HFR9.out (by have h:=HLU.out;simpa using h) HU9.out
theorem m231_{p:Prop}(h:p:=by
  have HC:=h_ (HRE.out 0 n35_);go_upto_region 17 with fail
  go_wp2_with (first
   |(refine Js rfl 30 _ UB cs 30 _ rfl rfl hbox rfl rfl HSC.out ?_)
   |(refine ZL rfl 30 _ _ w.heap.size cs Zf 30 rfl rfl rfl hU8 HSZ0.out HSC.out HON.out ?_;intro w9 h9 hf9;have hF9:=hf9.heap hF8 hneF2;obtain ⟨g0,g1,g2,g3,g4⟩:=ZP hF9))
  have hend:=YU h9 hF9 hneF.symm 0 0 HO.out.size;have hOe:=(HO.out.fr hf9 o_ (fun j b h e=>by have:=(HO.out.lt j b h).1;omega)).fr hend.2.2 o_ (fun j b h e=>by have:=(HO.out.lt j b h).1;omega);refine Yi 4 5 30 33 w.heap.size FB _ _ rfl rfl rfl rfl hend.1 hend.2.1 ⟨?_,cs,by rw [HC.out];rfl,n48_⟩;exact m233_):p:=h
theorem m232_{p:Prop}(h:p:=by
  have HC:=h_ (HRE.out 6 n94_);go_upto_region 14 with fail
  go_wp2_with (first
   |(refine YS rfl _ #[] #[] _ rfl s_ (Yq _) ?_)
   |(refine ZL rfl 30 _ _ w.heap.size Zf Zf 30 rfl rfl rfl hU8 rfl rfl Z0.out ?_;intro w9 h9 hf9;have hF9:=hf9.heap hF8 hneF2;obtain ⟨g0,g1,g2,g3,g4⟩:=ZP hF9))
  have hend:=YU h9 hF9 hneF.symm 6 0;exact m234_):p:=h
theorem m233_{p:Prop}(h:p:=by exact (HB8.trans (hf9.below _ HB8.size (fun k hk e=>by omega))).trans (hend.2.2.below _ (Nat.le_trans HB8.size hf9.size) (fun k hk e=>by omega))):p:=h
theorem m234_{p:Prop}(h:p:=by refine Yi 4 5 30 33 w.heap.size FB _ _ rfl rfl rfl rfl hend.1 hend.2.1 ⟨?_,Zf,n103_,n64_⟩;exact m233_):p:=h
theorem Zpa(s:Str)(h:Zw s≠0):((ofS s).at_&&(ofS s).inst.isEmpty)=ZcL s:=by
 unfold ZcL Zam ofS;rw [if_neg h]
 first|rfl|(rw [if_neg h];rfl)|simp [h]
theorem ZnF(nm:Str)(l:List Ln)(oa:Option Addr)(cap:Nat)(w:World)(hM:ZA w)(hr:ZB YV 4 w oa l)(hl:l.length<=4294967296)(hx:∀x∈l,x.val.length<=200000000/\∀v,XL x.val nm=.ok v->v.length<=100000000)(hnm:nm.length<=100000000) :
  Calls prog 6 #[.string ⟨nm.toArray⟩,.slice oa l.length cap] w fun e w'=>Zib w (Xk nm l) e w':=by
 have HM:=h_ hM;have HR:=h_ hr;have HX:=h_ hx;obtain ⟨kind,hkind⟩:∃kind,Zw nm=kind:=⟨_,rfl⟩;have hkl:kind<=4:=by rw [<-hkind];exact Zcf nm
 have HK:=h_ hkind;have hk1:Yw nm 1=.n (kind:Nat):=by rw [<-hkind];exact ZhY nm
 have HK1:=h_ hk1;have HN:=h_ (fun W (h:Below w.heap.size w W)=>Zkj nm W);have Z0:=h_ Zdr;have Z1:=h_ (YO.one (Zdq w (Yw nm) (JO nm)));obtain ⟨bb,hbb⟩:∃bb,ZcL nm=bb:=⟨_,rfl⟩;have HBB:=h_ hbb;have HBR:=h_ (fun (hk:¬kind=0) W=>Zhr ⟨nm.toArray⟩ W bb (by rw [<-hbb];exact Zpa nm (by rw [hkind];exact hk)));clear hM hr hx hkind hk1 hbb;go_enter func6,ntmps6;go_wp2_with (refine Yx rfl _ Zf rfl (Zz _) ?_;intro w1 h1 hb1);have hBf:Below w1.heap.size w1 (w1.alloc (.cells #[.int .i64 0,.int .i64 0] 33)):=b_.alloc l_ _;have hbf:=Below.more hb1 hBf;have HF1:=h_ (heap_alloc_new w1 (.cells #[.int .i64 0,.int .i64 0] 33));have HU1:=h_ (Za h1 hBf);refine (HN.out _ hbf).mono ?_;rintro e w2 ⟨rfl,hb2⟩;have HB2:=h_ (Below.more hbf hb2);have HU2:=h_ (Za HU1.out hb2);have HF2:=h_ (Za HF1.out hb2);have hl0:w.heap.size<w1.heap.size:=Zg h1;have hl1:w1.heap.size<w2.heap.size:=Zg HF2.out;obtain ⟨FB,hFB⟩:=e_ w1.heap.size;rw [<-hFB] at HF2 hl0 hl1⊢;clear hb1 h1 hBf hbf hb2 HU1 HF1 hFB;have HSV:=h_ (show (Yh (Yw nm)).size=35 by simp [Yh]);have HSI:=h_ (show (prog.info? 30).map (·.size)=some (Yh (Yw nm)).size by rw [HSV.out];rfl);have HSS:=h_ (show Zf.size=(Yh (Yw nm)).size by rw [HSV.out];rfl);have HKC:=h_ (show (Yh (Yw nm))[1]?=some (.int .i64 (kind:Nat)) by rw [Zdm _ 1 d_,HK1.out];rfl);have HZ:=h_ (show ∀w3 w4:World,Below w2.heap.size w2 w3->Fr (fun x=>x=w2.heap.size) w3 w4->w4.heap[w.heap.size]?=some (.cells Zf 30 (0,0))/\w4.heap[FB]?=some (.cells #[.int .i64 0,.int .i64 0] 33 (0,0))/\Below w.heap.size w w4 from by
  intro w3 w4 hb3 hf4;have e1:=Za HU2.out hb3;have e2:=Za HF2.out hb3;refine ⟨hf4.heap e1 o_,hf4.heap e2 o_,HB2.out.trans ?_⟩;exact (hb3.mono o_).trans (hf4.below _ (by have:=hb3.size;omega) (fun k hk e=>by omega)))
 have hneF:FB≠w.heap.size:=o_;have hneF2:¬FB=w.heap.size:=o_;by_cases hk0:kind=0
 ·subst hk0
  have HRES:=h_ (show Xk nm l=(ZV,(5,0)) by unfold Xk;rw [if_pos (.inl HK.out)]);go_wp2_with (first
   |(refine Yx rfl _ Zf rfl (Zz _) ?_;intro w3 h3 hb3)
   |(refine ZL rfl 30 _ _ w2.heap.size (Yh (Yw nm)) Zf 30 rfl rfl rfl h3 HSS.out HSI.out Z1.out ?_;intro w4 h4 hf4;have hc1:=((rd h4).1 1).trans HKC.out;have hu:=(HZ.out w3 w4 hb3 hf4).1;have hF:=(HZ.out w3 w4 hb3 hf4).2.1;have hB4:=(HZ.out w3 w4 hb3 hf4).2.2)
   |(refine YS rfl _ #[] #[] _ rfl s_ (Yq _) ?_)
   |(refine ZL rfl 30 _ _ w.heap.size Zf Zf 30 rfl rfl rfl hu rfl rfl Z0.out ?_;intro w9 h9 hf9;have hF9:=hf9.heap hF hneF2;obtain ⟨g0,g1,g2,g3,g4⟩:=ZP hF9))
  have hend:=YU h9 hF9 hneF.symm 5 0;refine Yi 4 5 30 33 w.heap.size FB _ _ rfl rfl rfl rfl hend.1 hend.2.1 ⟨?_,Zf,by rw [HRES.out],n104_⟩;exact (hB4.trans (hf9.below _ hB4.size (fun k hk e=>by omega))).trans (hend.2.2.below _ (Nat.le_trans hB4.size hf9.size) (fun k hk e=>by omega))
 ·have hk2:(((kind:Nat):Int)==0)=false:=n3_
  cases bb with
  |true=>
   have HRES:=h_ (show Xk nm l=(ZV,(5,0)) by unfold Xk;rw [if_pos (.inr HBB.out)]);go_wp2_with (first
    |(refine Yx rfl _ Zf rfl (Zz _) ?_;intro w3 h3 hb3)
    |(refine ZL rfl 30 _ _ w2.heap.size (Yh (Yw nm)) Zf 30 rfl rfl rfl h3 HSS.out HSI.out Z1.out ?_;intro w4 h4 hf4;have hc1:=((rd h4).1 1).trans HKC.out;have hu:=(HZ.out w3 w4 hb3 hf4).1;have hF:=(HZ.out w3 w4 hb3 hf4).2.1;have hB4:=(HZ.out w3 w4 hb3 hf4).2.2))
   refine (HBR.out hk0 _).mono ?_;rintro e w5 ⟨rfl,hb5⟩;have hu5:=Za hu hb5;have hF5:=Za hF hb5;have hB5:=hB4.trans (hb5.mono hB4.size);go_wp2_with (first
    |(refine YS rfl _ #[] #[] _ rfl s_ (Yq _) ?_)
    |(refine ZL rfl 30 _ _ w.heap.size Zf Zf 30 rfl rfl rfl hu5 rfl rfl Z0.out ?_;intro w9 h9 hf9;have hF9:=hf9.heap hF5 hneF2;obtain ⟨g0,g1,g2,g3,g4⟩:=ZP hF9))
   have hend:=YU h9 hF9 hneF.symm 5 0;refine Yi 4 5 30 33 w.heap.size FB _ _ rfl rfl rfl rfl hend.1 hend.2.1 ⟨?_,Zf,by rw [HRES.out],n104_⟩;exact (hB5.trans (hf9.below _ hB5.size (fun k hk e=>by omega))).trans (hend.2.2.below _ (Nat.le_trans hB5.size hf9.size) (fun k hk e=>by omega))
  |false=>
   go_wp2_with (first
    |(refine Yx rfl _ Zf rfl (Zz _) ?_;intro w3 h3 hb3)
    |(refine ZL rfl 30 _ _ w2.heap.size (Yh (Yw nm)) Zf 30 rfl rfl rfl h3 HSS.out HSI.out Z1.out ?_;intro w4 h4 hf4;have hc1:=((rd h4).1 1).trans HKC.out;have hu:=(HZ.out w3 w4 hb3 hf4).1;have hF:=(HZ.out w3 w4 hb3 hf4).2.1;have hB4:=(HZ.out w3 w4 hb3 hf4).2.2))
   refine (HBR.out hk0 _).mono ?_;rintro e w5 ⟨rfl,hb5⟩;have HU5:=h_ (Za hu hb5);have HF5:=h_ (Za hF hb5);have HB5:=h_ (hB4.trans (hb5.mono hB4.size));have HO5:=h_ (Zhy (Yw nm) (JO nm) (Za h4 hb5));obtain ⟨UB,hUB⟩:=e_ w2.heap.size;rw [<-hUB] at HO5 hl1⊢;clear hu hF hB4 hb5 h4 hf4 h3 hb3 hc1 HZ hUB;have HRES:=h_ (show Xk nm l=(match Y8 nm (kind:Nat) (Yw nm) l with
    |.error e=>(ZV,e)
    |.ok u=>if QH (kind:Nat) u≠0 then (ZV,(QH (kind:Nat) u,0)) else (u,(0,0))) by
     unfold Xk;rw [if_neg (by rw [HK.out,HBB.out];simp;exact hk0),HK.out]<;>rfl)
   go_wp2_with fail;go_loopg [23] (l.length+1) (fun f i wr=>∃(k:Nat) (cs:Array Value) (F:Nat->Nat->Prop) (u:UV),k<=l.length/\i=.int .i64 k/\l.length-k<f/\Hid (YL wr UB cs F u)/\Hid (Z9 u)/\Hid (∀j,(u j).len<=100000)/\Hid (u 0=.s nm)/\Hid (u 1=.n (kind:Nat))/\
    Hid (Y8 nm (kind:Nat) u (l.drop k)=Y8 nm (kind:Nat) (Yw nm) l)/\Hid (wr.heap[w.heap.size]?=some (.cells Zf 30 (0,0)))/\Hid (wr.heap[FB]?=some (.cells #[.int .i64 0,.int .i64 0] 33 (0,0)))/\Hid (Below w.heap.size w wr))
   case atStart=>exact ⟨0,_,_,_,o_,rfl,o_,HO5,Z9.new nm,fun j=>by rw [JO];omega,Zen nm (by rw [HK.out];exact hk0),HK1.out,by rw [List.drop_zero];rfl,HU5,HF5,HB5⟩
   case round=>
    obtain ⟨k,cs,F,u,hk,rfl,hfu,HO,HT,HLN,H0,H1,HQ,HUr,HFr,HBr⟩:=hrel;clear HO5 HU5 HF5 HB5;by_cases hlt:k<l.length
    ·have hz:(k:Int)<(l.length:Int):=o_
     obtain ⟨x,hx⟩:=e_ (l[k]);obtain ⟨b4,o4,rfl,-,hcc⟩:=(HR.out.below HBr.out) k hlt;rw [<-hx] at hcc;have d0:=hcc 0 _ rfl;have d1:=hcc 1 _ rfl;have d2:=hcc 2 _ rfl;have d3:=hcc 3 _ rfl;simp only [Nat.add_zero] at d0;have hxm:x.val.length<=200000000/\∀v,XL x.val nm=.ok v->v.length<=100000000:=by rw [hx];exact HX.out _ (List.getElem_mem hlt)
     have hdr:l.drop k=x::l.drop (k+1):=n52_;have HQ2:=h_ (show Y8 nm (kind:Nat) (Yw nm) l=match XO nm (kind:Nat) u x with|.error e=>.error (e,x.at_)|.ok r=>Y8 nm (kind:Nat) r (l.drop (k+1)) by rw [<-HQ.out,hdr,Y8]<;>rfl);obtain ⟨xsec,xkey,xval,xat⟩:=x;have hBx:Below wr.heap.size wr (wr.alloc (.cells #[.string ⟨xsec.toArray⟩,.string ⟨xkey.toArray⟩,.string ⟨xval.toArray⟩,.int .i64 xat] 41)):=b_.alloc l_ _;have HBx:=h_ (HBr.out.trans (hBx.mono HBr.out.size));have hOx:=HO.out.below hBx;have HOx:=h_ hOx;have hLn:=ZnJ UB cs F u _ hOx HT.out HLN.out (HM.out.below HBx.out) nm (kind:Nat) H0.out H1.out ⟨xsec,xkey,xval,xat⟩ hxm.1 hxm.2;unfold YV at hLn;have HLNE:=h_ hLn;have HXB:=h_ (heap_alloc_new wr (.cells #[.string ⟨xsec.toArray⟩,.string ⟨xkey.toArray⟩,.string ⟨xval.toArray⟩,.int .i64 xat] 41));have HUx:=h_ (Za HUr.out hBx);have HFx:=h_ (Za HFr.out hBx);have hwsz:=HBr.out.size;have hUBw:=Zg HO.out.box;have HFw:=h_ (show ∀j b,F j b->b<wr.heap.size from fun j b h=>(HO.out.lt j b h).2);clear hx hdr hcc hxm hBx hOx hLn HUr HFr HO;go_wp2_with fail;refine HLNE.out.mono ?_;intro e w8 hlo;have hUBl:=Zg HOx.out.box;have hnot:∀b,b<UB->¬(b=UB\/∃j,F j b):=by
      rintro b hb (h|⟨j,h⟩)
      ·omega
      ·have:=(HOx.out.lt j b h).1;omega
     have HU8:=h_ (hlo.1.heap HUx.out (hnot _ o_));have HF8:=h_ (hlo.1.heap HFx.out (hnot _ o_));have HX8:=h_ (hlo.1.heap HXB.out (by
      rintro (h|⟨j,h⟩)
      ·omega
      ·have:=HFw.out j _ h;omega))
     have HB8:=h_ (HBx.out.trans (hlo.1.below _ HBx.out.size (fun b hb=>hnot b o_)));obtain ⟨-,hlo⟩:=hlo;cases hres:XO nm (kind:Nat) u ⟨xsec,xkey,xval,xat⟩ with
     |error c=>
      rw [hres] at hlo HQ2;simp only at hlo;subst hlo;have hc0:((c:Int)!=0)=true:=by rw [bne_iff_ne];exact Zh0 nm (kind:Nat) u _ c hres
      have HRE:=h_ (show Xk nm l=(ZV,(c,xat)) by rw [HRES.out,HQ2.out]);have HHS:=h_ (And.intro HU8.out (And.intro HF8.out HX8.out));clear hres hnot;go_wp2_with fail;refine Zi (S:=fun V=>V.heap[w.heap.size]?=some (.cells Zf 30 (0,0))/\V.heap[FB]?=some (.cells #[.int .i64 0,.int .i64 0] 33 (0,0))/\V.heap[wr.heap.size]?=some (.cells #[.string ⟨xsec.toArray⟩,.string ⟨xkey.toArray⟩,.string ⟨xval.toArray⟩,.int .i64 xat] 41 (0,0))) 6 k_ k_ (show _/\_/\_ from HHS.out) (fun hHeld=>?_);refine u_ ?_;refine dT_ (i:=0) (v:=.agg Zf) (gT_ rfl) (fun W hW=>ZeG rfl) (u_ ?_);(iterate 4 refine dN_ 0 (gT_ rfl) (fun W hW=>by obtain ⟨x0,x1,x2,x3⟩:=Qa hW.2.2;clear hW;go_simp;rfl) (u_ ?_));refine Zq (i:=5) (gT_ rfl) k_ k_ (fun K hK=>?_);clear hHeld;rw [if_pos n19_];refine Zaq 30 (.tmp 4) (.tmp 31) w.heap.size Zf Zf 30 rfl rfl rfl (show w8.drew.heap[w.heap.size]?=_ from HHS.out.1) rfl rfl Z0.out ?_;intro w9 h9 hf9;have HU9:=h_ h9;have HF9:=h_ (hf9.heap (show w8.drew.heap[FB]?=_ from HHS.out.2.1) hneF2);have HX9:=h_ (hf9.heap (show w8.drew.heap[wr.heap.size]?=_ from HHS.out.2.2) o_);have HB9:=h_ ((HB8.out.trans (show Below w.heap.size w8 w8.drew from Zb ⟨1,rfl⟩)).trans (hf9.below _ HB8.out.size (fun k hk e=>by omega)));refine hK.out _ _ (show _/\_/\_ from ⟨HU9.out,HF9.out,HX9.out⟩) (fun hHeld=>?_);clear hK K h9 hf9;refine u_ ?_;refine Zr k_ ?_;clear hHeld;obtain ⟨g0,g1,g2,g3,g4⟩:=ZP HF9.out;go_wp2_with fail;have hend:=YU HU9.out HF9.out hneF.symm c xat;refine Yi 4 5 30 33 w.heap.size FB _ _ rfl rfl rfl rfl hend.1 hend.2.1 ⟨?_,Zf,by rw [HRE.out],by rw [HRE.out];exact YO.zero _⟩;exact HB9.out.trans (hend.2.2.below _ HB9.out.size (fun k hk e=>by omega))
     |ok r=>
      rw [hres] at hlo HQ2;obtain ⟨rfl,cs',F',hO8⟩:=hlo;obtain ⟨kk,hkk,v,hr,hlong⟩:=ZbE hres;have HT8:=h_ (show Z9 r from by rw [hr];exact HT.out.upd _ _ (Zar nm kk hkk v _));have HL8:=h_ (ZmJ HT8.out hlong);have H08:=h_ (show r 0=.s nm by rw [hr,UV.upd_ne _ _ (fun e=>(Zew kk hkk).2.1 e.symm)];exact H0.out);have H18:=h_ (show r 1=.n (kind:Nat) by rw [hr,UV.upd_ne _ _ (fun e=>(Zew kk hkk).2.2 e.symm)];exact H1.out);have HO8:=h_ hO8;have HQ3:=h_ (show Y8 nm (kind:Nat) r (l.drop (k+1))=Y8 nm (kind:Nat) (Yw nm) l from HQ2.out.symm);clear hres hr hlong hO8 hnot hkk;go_wp2_with fail;go_roundg (gk-1)
      case measure=>omega
      case rel=>exact ⟨k+1,cs',F',r,o_,n14_,o_,HO8,HT8,HL8,H08,H18,HQ3,HU8,HF8,HB8⟩
    ·have hk3:k=l.length:=o_
     subst hk3;have HQ2:=h_ (show Y8 nm (kind:Nat) (Yw nm) l=.ok u by rw [<-HQ.out,List.drop_of_length_le l_];rfl);have hsz:=HO.out.size;have hlens:∀j,3<=(ZV j).tag->j<35->∃oa cap,wr.cell? ⟨UB,j,none⟩=some (.slice oa (u j).len cap):=fun j h3 h35=>by
      have hj:cs[j]?=some (cs[j]'(by rw [HO.out.size];exact h35)):=Array.getElem?_eq_getElem (by rw [HO.out.size];exact h35);obtain ⟨oa,cap,e⟩:=(HO.out.fld j _ hj).len (by rw [HT.out j];exact h3);exact ⟨oa,cap,by rw [(rd HO.out.box).1 j,hj,e]⟩
     have hone:∀j,j<35->cs[j]?=some (cs[j]!):=fun j hj=>by
      have:j<cs.size:=by rw [HO.out.size];exact hj
      rw [getElem!_pos cs j this];exact Array.getElem?_eq_getElem this
     obtain ⟨t7,ht7⟩:=Zko (HT.out 7);have q7:wr.cell? ⟨UB,7,none⟩=some (.int .i64 t7):=by
      have h:=HO.out.fld 7 _ (hone 7 d_);rw [ht7] at h;rw [(rd HO.out.box).1 7,hone 7 d_];exact congrArg some h
     have q1:wr.cell? ⟨UB,1,none⟩=some (.int .i64 (kind:Nat)):=by
      have h:=HO.out.fld 1 _ (hone 1 d_);rw [H1.out] at h;rw [(rd HO.out.box).1 1,hone 1 d_];exact congrArg some h
     obtain ⟨o9,k9,q9⟩:=hlens 9 d_ d_;have l9:=HLN.out 9;obtain ⟨o21,k21,q21⟩:=hlens 21 d_ d_;have l21:=HLN.out 21;obtain ⟨o25,k25,q25⟩:=hlens 25 d_ d_;have l25:=HLN.out 25;obtain ⟨o26,k26,q26⟩:=hlens 26 d_ d_;have l26:=HLN.out 26;obtain ⟨o27,k27,q27⟩:=hlens 27 d_ d_;have l27:=HLN.out 27;obtain ⟨o28,k28,q28⟩:=hlens 28 d_ d_;have l28:=HLN.out 28;have HW:=h_ (show QH (kind:Nat) u=if ((kind:Int)=1/\(u 9).len=0)\/((kind:Int)=2/\(u 21).len=0)\/((kind:Int)=3/\(u 25).len+(u 26).len+(u 27).len+(u 28).len=0) then 6 else if (kind:Int)=1/\t7≠2/\1<(u 9).len then 7 else 0 by
      unfold QH;rw [ht7];rfl)
     have HSC:=h_ (show (prog.info? 30).map (·.size)=some cs.size by rw [HO.out.size];rfl);have HRE:=h_ (fun c (hcc:QH (kind:Nat) u=c)=>show Xk nm l=if c≠0 then (ZV,(c,0)) else (u,(0,0)) from by rw [HRES.out,HQ2.out];simp only;rw [hcc]);have hbox:=HO.out.box;have hUBl:=Zg hbox;have hU8:=HUr.out;have hF8:=HFr.out;have HB8:=HBr.out;have HON:=h_ (HO.out.rd.one);have HSZ0:=h_ (show Zf.size=cs.size by rw [HO.out.size];rfl);clear hlens hone ht7 HQ HQ2 HRES hsz;generalize (u 9).len=n9 at *;generalize (u 21).len=n21 at *;generalize (u 25).len=n25 at *;generalize (u 26).len=n26 at *;generalize (u 27).len=n27 at *;generalize (u 28).len=n28 at *;obtain rfl|rfl|rfl|rfl:kind=1\/kind=2\/kind=3\/kind=4:=o_
     ·by_cases h9:n9=0
      ·subst h9
       exact m232_
      ·have z9:((n9:Int)==0)=false:=n3_
       by_cases h7:t7=2
       ·subst h7
        exact m231_
       ·have z7:(t7 !=2)=true:=by rw [bne_iff_ne];exact h7
        by_cases h91:1<n9
        ·have z91:(1:Int)<(n9:Int):=o_
         have HH7:=h_ h7;have HC:=h_ (HRE.out 7 (by rw [HW.out];rw [if_neg n59_,if_pos ⟨rfl,HH7.out,h91⟩]));go_upto_region 16 with fail
         go_wp2_with (first
          |(refine YS rfl _ #[] #[] _ rfl s_ (Yq _) ?_)
          |(refine ZL rfl 30 _ _ w.heap.size Zf Zf 30 rfl rfl rfl hU8 rfl rfl Z0.out ?_;intro w9 h9 hf9;have hF9:=hf9.heap hF8 hneF2;obtain ⟨g0,g1,g2,g3,g4⟩:=ZP hF9))
         have hend:=YU h9 hF9 hneF.symm 7 0;exact m234_
        ·have z91:¬((1:Int)<(n9:Int)):=o_
         exact m231_
     ·by_cases h21:n21=0
      ·subst h21
       exact m232_
      ·have z21:((n21:Int)==0)=false:=n3_
       exact m231_
     ·by_cases hs:n25+n26+n27+n28=0
      ·obtain rfl:n25=0:=o_
       obtain rfl:n26=0:=o_;obtain rfl:n27=0:=o_;obtain rfl:n28=0:=o_;exact m232_
      ·have w1:IntKind.i64.wrap ((n25:Int)+n26)=(n25:Int)+n26:=IntWalk.i64_in _ o_
       have w2:IntKind.i64.wrap ((n25:Int)+n26+n27)=(n25:Int)+n26+n27:=IntWalk.i64_in _ o_;have w3:IntKind.i64.wrap ((n25:Int)+n26+n27+n28)=(n25:Int)+n26+n27+n28:=IntWalk.i64_in _ o_;have zs:((n25:Int)+n26+n27+n28==0)=false:=n3_;exact m231_
     ·exact m231_
end Go.Proofs.YtgoooebfhdbbkaaGreatDoor
