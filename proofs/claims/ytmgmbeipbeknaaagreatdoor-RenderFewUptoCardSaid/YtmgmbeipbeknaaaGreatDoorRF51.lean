import Derived.Deep.CutRange
import Derived.Test.YtmgmbeipbeknaaaGreatDoorRF27
import Derived.Test.YtmgmbeipbeknaaaGreatDoorRF37
import Derived.Test.YtmgmbeipbeknaaaGreatDoorRF38
import Derived.Test.YtmgmbeipbeknaaaGreatDoorRF43
import Derived.Test.YtmgmbeipbeknaaaGreatDoorRF44
import Derived.Test.YtmgmbeipbeknaaaGreatDoorRF45
import Derived.Test.YtmgmbeipbeknaaaGreatDoorRF47
import Derived.Test.YtmgmbeipbeknaaaGreatDoorRF49
import Derived.Test.YtmgmbeipbeknaaaGreatDoorRF50
namespace Go.Proofs.YtmgmbeipbeknaaaGreatDoor
open Go.Proofs.Tryz
open Go Go.RowKit
set_option linter.unusedVariables false
set_option linter.unusedSimpArgs false
set_option maxHeartbeats 16000000
set_option maxRecDepth 100000
theorem ZH{α:Type}{l:List α}{n:Nat}(h:l.length=n+1):∃x t,l=x::t/\t.length=n:=by
 cases l with
 |nil=>cases h
 |cons x t=>exact ⟨x,t,rfl,n27_⟩
theorem Zq5(cs:Array Value)(h:cs.size=35):∃x0 x1 x2 x3 x4 x5 x6 x7 x8 x9 x10 x11 x12 x13 x14 x15 x16 x17 x18 x19 x20 x21 x22 x23 x24 x25 x26 x27 x28 x29 x30 x31 x32 x33 x34,cs=#[x0,x1,x2,x3,x4,x5,x6,x7,x8,x9,x10,x11,x12,x13,x14,x15,x16,x17,x18,x19,x20,x21,x22,x23,x24,x25,x26,x27,x28,x29,x30,x31,x32,x33,x34]:=by
 obtain ⟨l⟩:=cs;have h:l.length=35:=h;obtain ⟨x0,t0,rfl,h0⟩:=ZH h;obtain ⟨x1,t1,rfl,h1⟩:=ZH h0;obtain ⟨x2,t2,rfl,h2⟩:=ZH h1;obtain ⟨x3,t3,rfl,h3⟩:=ZH h2;obtain ⟨x4,t4,rfl,h4⟩:=ZH h3;obtain ⟨x5,t5,rfl,h5⟩:=ZH h4;obtain ⟨x6,t6,rfl,h6⟩:=ZH h5;obtain ⟨x7,t7,rfl,h7⟩:=ZH h6;obtain ⟨x8,t8,rfl,h8⟩:=ZH h7;obtain ⟨x9,t9,rfl,h9⟩:=ZH h8;obtain ⟨x10,t10,rfl,h10⟩:=ZH h9;obtain ⟨x11,t11,rfl,h11⟩:=ZH h10;obtain ⟨x12,t12,rfl,h12⟩:=ZH h11;obtain ⟨x13,t13,rfl,h13⟩:=ZH h12;obtain ⟨x14,t14,rfl,h14⟩:=ZH h13;obtain ⟨x15,t15,rfl,h15⟩:=ZH h14;obtain ⟨x16,t16,rfl,h16⟩:=ZH h15;obtain ⟨x17,t17,rfl,h17⟩:=ZH h16;obtain ⟨x18,t18,rfl,h18⟩:=ZH h17;obtain ⟨x19,t19,rfl,h19⟩:=ZH h18;obtain ⟨x20,t20,rfl,h20⟩:=ZH h19;obtain ⟨x21,t21,rfl,h21⟩:=ZH h20;obtain ⟨x22,t22,rfl,h22⟩:=ZH h21;obtain ⟨x23,t23,rfl,h23⟩:=ZH h22;obtain ⟨x24,t24,rfl,h24⟩:=ZH h23;obtain ⟨x25,t25,rfl,h25⟩:=ZH h24;obtain ⟨x26,t26,rfl,h26⟩:=ZH h25;obtain ⟨x27,t27,rfl,h27⟩:=ZH h26;obtain ⟨x28,t28,rfl,h28⟩:=ZH h27;obtain ⟨x29,t29,rfl,h29⟩:=ZH h28;obtain ⟨x30,t30,rfl,h30⟩:=ZH h29;obtain ⟨x31,t31,rfl,h31⟩:=ZH h30;obtain ⟨x32,t32,rfl,h32⟩:=ZH h31;obtain ⟨x33,t33,rfl,h33⟩:=ZH h32;obtain ⟨x34,t34,rfl,h34⟩:=ZH h33;obtain rfl:t34=[]:=List.eq_nil_of_length_eq_zero h34;exact ⟨x0,x1,x2,x3,x4,x5,x6,x7,x8,x9,x10,x11,x12,x13,x14,x15,x16,x17,x18,x19,x20,x21,x22,x23,x24,x25,x26,x27,x28,x29,x30,x31,x32,x33,x34,rfl⟩
theorem Zij(us fs:Array Value)(h1:us.size=35)(h2:fs.size=35)(w:World):(Instr.build 78 #[(0,.agg us),(1,.agg fs)]).run prog w=.ok (.agg (us++fs++#[.int .i64 0,.slice none 0 0])) w:=by
 obtain ⟨x0,x1,x2,x3,x4,x5,x6,x7,x8,x9,x10,x11,x12,x13,x14,x15,x16,x17,x18,x19,x20,x21,x22,x23,x24,x25,x26,x27,x28,x29,x30,x31,x32,x33,x34,rfl⟩:=Zq5 us h1;obtain ⟨y0,y1,y2,y3,y4,y5,y6,y7,y8,y9,y10,y11,y12,y13,y14,y15,y16,y17,y18,y19,y20,y21,y22,y23,y24,y25,y26,y27,y28,y29,y30,y31,y32,y33,y34,rfl⟩:=Zq5 fs h2;exact run_build w _ _ _ k_
theorem Ziy{a:Act}{w:World}{o:Oper}{x y:Operand}{us fs:Array Value}(ho:o.op=Op.build 78 #[(0,x),(1,y)])(hx:a.eval x=.agg us)(hy:a.eval y=.agg fs)(h1:us.size=35)(h2:fs.size=35) :
  (execOp a.eval o).run prog w=.ok (.value (.agg (us++fs++#[.int .i64 0,.slice none 0 0]))) w:=by
 have:=Zij us fs h1 h2 w
 unfold execOp;simp only [ho];simp [hx,hy,Sem.run_bind,this]
theorem Zig(w:World)(s:Str):ZT w (Z6 (ZL s)) (ZL s):=by
 refine ⟨by simp [Z6],fun j v hv=>?_⟩;have hj:j<35:=by have:=(Array.getElem?_eq_some_iff.1 hv).1;simpa [Z6] using this
 have hc:v=Zli (ZL s j):=by
  have:(Z6 (ZL s))[j]?=some (Zli (ZL s j)):=by simp [Z6,hj]
  rw [this] at hv;injection hv with hv
  exact hv.symm
 subst hc;have hl:=Zc2 s j;cases hu:ZL s j with
 |s x=>rfl
 |n x=>rfl
 |b x=>rfl
 |ss l=>rw [hu] at hl;obtain rfl:l=[]:=List.eq_nil_of_length_eq_zero hl;exact ⟨none,0,rfl,Zu.nil _ _,Nat.zero_le _⟩
 |ns l=>rw [hu] at hl;obtain rfl:l=[]:=List.eq_nil_of_length_eq_zero hl;exact ⟨none,0,rfl,fun i h=>absurd h s_,Nat.zero_le _⟩
 |rs l=>rw [hu] at hl;obtain rfl:l=[]:=List.eq_nil_of_length_eq_zero hl;exact ⟨none,0,rfl,Zx.nil _ _ _ _,Nat.zero_le _⟩
 |ps l=>rw [hu] at hl;obtain rfl:l=[]:=List.eq_nil_of_length_eq_zero hl;exact ⟨none,0,rfl,Zx.nil _ _ _ _,Nat.zero_le _⟩
 |cs l=>rw [hu] at hl;obtain rfl:l=[]:=List.eq_nil_of_length_eq_zero hl;exact ⟨none,0,[],rfl,⟨rfl,Zx.nil _ _ _ _,fun i h=>absurd h s_⟩,Nat.zero_le _⟩
theorem YJ.frl{w w':World}{R B:Nat}{cs:Array Value}{v:ZM}{k:ZC}(h:YJ w v k)(hf:FrB R B 53 w w')(hR:w.heap[R]?=some (.cells cs 78 (0,0))):YJ w' v k:=
 {h with ww:=h.ww.imp id fun ⟨B',q⟩=>⟨B',ZmO q hf d_ (fun e=>Z4 q hR d_ e.symm)⟩ }
def Zrn(u:UV)(w:World)(e:Ending)(w':World):Prop:=∃la lc,e=.returned (.slice la (Y1 u).length lc)/\Zx ZU 4 w' la (Y1 u)/\Below w.heap.size w w'/\(Y1 u).length<=lc
theorem ZqD{w:World}{B e k:Nat}{o:Option Addr}{n c:Nat}{xs:List Value}(h:w.ownsRow B e k (.slice o n c) n xs):n<=c:=by
 rcases h.2 with ⟨e,h0⟩|⟨g,cap,cur,e,_,_,h1,_⟩
 ·omega
 ·injection e with _ _ e;omega
theorem Zj5(u f:UV)(n:Nat)(h:n<Ze.length):(Ze.take (n+1)).flatMap (fun k=>Z5 k.sec (YS u f k))=(Ze.take n).flatMap (fun k=>Z5 k.sec (YS u f k))++Z5 Ze[n].sec (YS u f Ze[n]):=by
 rw [List.take_succ_eq_append_getElem h,List.flatMap_append];simp
theorem Zqm(u:UV):(Ze.flatMap fun k=>Z5 k.sec (YS u (ZL (u 0).str) k))=Zew u:=rfl
theorem ZqZ(u f:UV)(sm:Yx u)(n:Nat):((Ze.take n).flatMap (fun k=>Z5 k.sec (YS u f k))).length<=n*2000000:=by
 induction n with
 |zero=>simp
 |succ n ih=>
  by_cases h:n<Ze.length
  ·rw [Zj5 u f n h,List.length_append,Z5,List.length_map]
   have:=ZpC u f Ze[n] sm
   omega
  ·rw [List.take_of_length_le (Nat.le_of_not_lt h)] at ih
   rw [List.take_of_length_le (Nat.le_succ_of_le (Nat.le_of_not_lt h))];exact Nat.le_trans ih (Nat.mul_le_mul_right _ (Nat.le_succ n))
theorem ZmK(u:UV)(cs:Array Value)(w:World)(hu:ZT w cs u)(tu:Zz u)(tf:Zz (ZL (u 0).str))(sm:Yx u)(hM:Zt w)(hP:Pow w) :
  Calls prog 19 #[.agg cs] w fun e w'=>Zrn u w e w':=by
 have hsz:=hu.size;obtain ⟨v0,hv0,sv0⟩:=ZbE hu (show 0<35 by decide);obtain ⟨nm,en⟩:=ZqJ (tu 0);rw [en] at sv0;obtain rfl:v0=.string ⟨nm.toArray⟩:=sv0;have hnm:(u 0).str=nm:=by rw [en];rfl
 have hnl:nm.length<=100000000:=by rw [<-hnm];exact sm.str 0
 have hB1:=(Below.refl w.heap.size w).alloc l_ (.cells cs 28);have HU1:=h_ (heap_alloc_new w (.cells cs 28));have HB1:=h_ hB1;have HSZ:=h_ hsz;have HV0:=h_ hv0;have HNM:=h_ hnm;have HNL:=h_ hnl;have HU:=h_ hu;have HM:=h_ hM;have HP:=h_ hP;rw [hnm] at tf;have HTF:=h_ tf;clear tf;clear hB1 hsz hv0 hnm hnl hu hM hP;obtain ⟨C,hC⟩:=e_ (cs++Z6 (ZL nm)++#[.int .i64 0,.slice none 0 0]);have HC:=h_ hC;clear hC;go_enter func19,ntmps19;go_wp2_with fail;generalize w.alloc (.cells cs 28)=w1 at HU1 HB1⊢;refine Zh (S:=fun V=>Below w1.heap.size w1 V) 5 k_ k_ (Zd ⟨1,rfl⟩) (fun hHeld=>?_);refine u_ ?_;refine dT_ (i:=0) (v:=.agg cs) (gT_ rfl) (fun W hW=>J3 28 (.tmp 1) w.heap.size cs 28 _ rfl rfl (Za HU1.out hW) rfl rfl n81_) (u_ ?_);refine dT_ (i:=1) (v:=.pointer (some ⟨w.heap.size,0,none⟩)) (gT_ rfl) (fun W hW=>by clear hW;go_simp) (u_ ?_);refine dT_ (i:=2) (v:=.string ⟨nm.toArray⟩) (gT_ rfl) (fun W hW=>by have q0:=((rd (Za HU1.out hW)).1 0).trans HV0.out;clear hW;go_simp) (u_ ?_);refine Zn (i:=3) (gT_ rfl) k_ k_ (fun K hK=>?_);clear hHeld;rw [if_pos n13_];go_simp;refine (ZeE nm w1.drew (by have:=HNL.out;omega) (HM.out.below (HB1.out.trans ((Zd ⟨1,rfl⟩:Below w1.heap.size w1 w1.drew).mono HB1.out.size)))).mono ?_;rintro e w4 ⟨rfl,hb4⟩;have HB4:=h_ (show Below w1.heap.size w1 w4 from (Zd ⟨1,rfl⟩:Below w1.heap.size w1 w1.drew).trans hb4);clear hb4;refine hK.out _ _ HB4.out (fun hHeld=>?_);clear hK K;refine u_ ?_;refine dT_ (i:=4) (v:=.agg C) (gT_ rfl) (fun W hW=>by rw [HC.out];exact Ziy rfl rfl rfl HSZ.out (by simp [Z6])) (u_ ?_);refine Zv k_ ?_;clear hHeld;have HB04:=h_ (show Below w.heap.size w w4 from HB1.out.trans (HB4.out.mono HB1.out.size));have HW5:=h_ (heap_alloc_new w4 (.cells C 78));have HB5:=h_ ((Below.refl w4.heap.size w4).alloc l_ (.cells C 78));go_wp2_with fail;generalize w4.alloc (.cells C 78)=w5 at HW5 HB5⊢;refine (Zbp w5).mono ?_;rintro e w6 ⟨oa,cap,vs,rfl,hrow,hkv,hb6⟩;obtain ⟨R,hR⟩:=e_ w4.heap.size;have hfs:(Z6 (ZL nm)).size=35:=by simp [Z6]
 have hR6:w6.heap[R]?=some (.cells C 78 (0,0)):=by rw [hR];exact Za HW5.out hb6
 have HR6:=h_ hR6;have hRl:=Zb hR6;have hB6:Below R w4 w6:=by rw [hR];exact HB5.out.trans (hb6.mono HB5.out.size)
 obtain ⟨fs,hfsq⟩:=e_ (Z6 (ZL nm));rw [<-hfsq] at HC hfs;have HWR0:=h_ (show YB w4 w6 R w6.heap.size cs fs ((Ze.take 0).flatMap fun k=>Z5 k.sec (YS u (ZL nm) k)) from ⟨⟨hR,hB6⟩,HSZ.out,hfs,hRl,l_,none,0,by rw [HC.out] at hR6;exact hR6,World.ownsRow_nil _ _ _ _⟩);have HSU:=h_ (show ZT w4 cs u from HU.out.below HB04.out);have HSF:=h_ (show ZT w4 fs (ZL nm) by rw [hfsq];exact Zig w4 nm);have HM4:=h_ (HM.out.below HB04.out);have HP4:=h_ (HP.out.below HB04.out);have hlen:=hkv.1;have h42:vs.length=42:=by rw [hlen,QV]
 have hbo:∃b o,oa=some ⟨b,o,none⟩/\b<w6.heap.size/\b≠R:=by
  obtain ⟨b,o,e,hlt,hc⟩:=hrow 41 o_;refine ⟨b,o,e,hlt,fun hbR=>?_⟩;have h5:=hc 5 (.slice vs[41].wa vs[41].wn vs[41].wc) rfl;rw [hbR,(rd hR6).1] at h5;have h6:=(Array.getElem?_eq_some_iff.1 h5).1;have h7:C.size=72:=by rw [HC.out];simp [HSZ.out,hfs]
  omega
 obtain ⟨b,o,rfl,hbl,hbR⟩:=hbo;have HRK:=h_ (fun (W:World) (hF:FrB R w6.heap.size 53 w6 W) n (hn:n<vs.length) j v (hj:(Zp vs[n])[j]?=some v)=>show W.cell? ⟨b,o+n*6+j,none⟩=some v by
  obtain ⟨b2,o2,e2,_,hc⟩:=hrow n hn;injection e2 with e2
  injection e2 with e3 e4
  subst e3;subst e4;rw [<-hc j v hj];exact World.cell?_of_block (hF.block b hbl (fun h=>h.elim hbR (fun g=>by omega))))
 have HKV:=h_ (fun (W:World) (hF:FrB R w6.heap.size 53 w6 W) n (h1:n<vs.length) (h2:n<Ze.length)=>(hkv.2 n h1 h2).frl hF HR6.out);have H42:=h_ h42;have HRR:=h_ hR;rw [<-hR];clear hrow hkv hlen h42 hbl hbR hR6 hRl hB6 hfs hfsq hb6 HW5 HB5 hR;go_wp2_with fail;go_loopg [5,14] 43 (fun f _ i wr=>∃n:Nat,n<=42/\i=.int .i64 n/\42-n<f/\Hid (YB w4 wr R w6.heap.size cs fs ((Ze.take n).flatMap fun k=>Z5 k.sec (YS u (ZL nm) k)))/\Hid (FrB R w6.heap.size 53 w6 wr))
 case atStart=>exact ⟨0,o_,rfl,o_,HWR0,FrB.refl _ _ _ _⟩
 case round=>
  obtain ⟨n,hn,rfl,hf,HWR,HFR⟩:=hrel;by_cases hlt:n<42
  ·have hv:n<vs.length:=by rw [H42.out];exact hlt
   have ha:n<Ze.length:=by rw [QV];exact hlt
   obtain ⟨vk,hvk⟩:=e_ (vs[n]);obtain ⟨k,hk⟩:=e_ (Ze[n]);have hrk:=HRK.out wr HFR.out n hv;rw [<-hvk] at hrk;have d0:=hrk 0 _ rfl;have d1:=hrk 1 _ rfl;have d2:=hrk 2 _ rfl;have d3:=hrk 3 _ rfl;have d4:=hrk 4 _ rfl;have d5:=hrk 5 _ rfl;rw [Nat.add_zero] at d0;have HKK:=h_ (show YJ wr vk k by rw [hvk,hk];exact HKV.out wr HFR.out n hv ha);have HKM:=h_ (show k∈Ze by rw [hk];exact List.getElem_mem ha);have HSN:=h_ (show (Ze.take (n+1)).flatMap (fun k=>Z5 k.sec (YS u (ZL nm) k))=(Ze.take n).flatMap (fun k=>Z5 k.sec (YS u (ZL nm) k))++Z5 k.sec (YS u (ZL nm) k) by rw [Zj5 u (ZL nm) n ha,hk]);have HLM:=h_ (show ((Ze.take n).flatMap (fun k=>Z5 k.sec (YS u (ZL nm) k))).length<=90000000 by have:=ZqZ u (ZL nm) sm n;omega);generalize (Ze.take n).flatMap (fun k=>Z5 k.sec (YS u (ZL nm) k))=lm at HWR HSN HLM;clear hrk hvk hk hv ha;have i5:(n:Int)<(42:Int):=o_;go_wp2_with fail;have hB7:=(Below.refl wr.heap.size wr).alloc l_ (.cells #[.string ⟨vk.sec.toArray⟩,.string ⟨vk.name.toArray⟩,.int .i64 vk.form,.bool vk.list,.int .i64 vk.kinds,.slice vk.wa vk.wn vk.wc] 82);have HB7:=h_ hB7;refine (ZoP R w6.heap.size cs fs u (ZL nm) lm k vk w4 _ (HWR.out.below HB7.out) HM4.out HP4.out (HKK.out.below HB7.out) HKM.out HLM.out HSU.out HSF.out tu HTF.out sm).mono ?_;rintro e w7 ⟨rfl,hw7,hf7⟩;have HW7:=h_ hw7;have HF7:=h_ (show FrB R w6.heap.size 53 w6 w7 from FrB.trans (FrB.trans HFR.out (show FrB R w6.heap.size 53 wr _ from Fr.of_below HB7.out _)) hf7);clear hw7 hf7 hB7;go_wp2_with fail;go_roundg (42-n)
   case measure=>omega
   case rel=>exact ⟨n+1,o_,n14_,o_,by rw [HSN.out];exact HW7,HF7⟩
  ·obtain rfl:n=42:=o_
   rw [show Ze.take 42=Ze from List.take_of_length_le (by rw [QV];exact Nat.le_refl _)] at HWR;have hraw:(Ze.flatMap fun k=>Z5 k.sec (YS u (ZL nm) k))=Zew u:=by rw [<-Zqm u,HNM.out]
   rw [hraw] at HWR;obtain ⟨⟨hR2,hbe⟩,_,_,_,_,la,lc,hhp,hown⟩:=HWR.out;have c71:=((rd hhp).1 71).trans (ZeN HSZ.out (by obtain ⟨_,_,h3,_⟩:=HWR.out;exact h3) _ _).2;have HBE:=h_ hbe;have HOW:=h_ hown;have HR2:=h_ hR2;clear hR2 hbe hhp hown hraw;go_wp2_with fail;go_ret;have hlen:(Y1 u).length=(Zew u).length:=Zc1 _ _ _;refine ⟨la,lc,by rw [hlen];rfl,?_,HB04.out.trans (HBE.out.mono (by rw [HR2.out];exact HB04.out.size)),by rw [hlen];exact ZqD HOW.out⟩;have ho:=HOW.out;rw [<-hlen] at ho;exact Zx.of_own (enc:=ZU) (k:=4) (fun _=>rfl) ho
theorem m130_{p:Prop}(h:p:=by go_wp2_with fail;go_ret;exact ⟨rfl,HB.out⟩):p:=h
theorem ZcM(u:UV)(cs:Array Value)(w:World)(hu:ZT w cs u)(tu:Zz u)(sm:Yx u)(hM:Zt w)(hP:Pow w)(r:Bool)(hr:ZeB u=r) :
  Calls prog 8 #[.agg cs] w fun e w'=>e=.returned (.bool r)/\Below w.heap.size w w':=by
 have hsz:=hu.size;obtain ⟨v0,hv0,sv0⟩:=ZbE hu (show 0<35 by decide);obtain ⟨nm,en⟩:=ZqJ (tu 0);rw [en] at sv0;obtain rfl:v0=.string ⟨nm.toArray⟩:=sv0;have hnm:(u 0).str=nm:=by rw [en];rfl
 have hnl:nm.length<=100000000:=by rw [<-hnm];exact sm.str 0
 have hB1:=(Below.refl w.heap.size w).alloc l_ (.cells cs 28);have HBX:=h_ (heap_alloc_new w (.cells cs 28));have HB:=h_ hB1;have HSZ:=h_ hsz;have HV0:=h_ hv0;have HU:=h_ (fun W (h:Below w.heap.size w W)=>hu.below h);have HM:=h_ (fun W (h:Below w.heap.size w W)=>hM.below h);have HP:=h_ (fun W (h:Below w.heap.size w W)=>hP.below h);have HTF:=h_ (Zz.new (u 0).str);have HSM:=h_ sm;have HTU:=h_ tu;obtain ⟨mu,mc,ma,hmk⟩:∃mu mc ma,Z9 nm (Y1 u)=(mu,(mc,ma)):=⟨_,_,_,rfl⟩;have HTM:=h_ (show Zz mu by have:=JW nm (Y1 u);rw [hmk] at this;exact this);have HMK:=h_ (fun W la lc (hm:Zt W) (hr:Zx ZU 4 W la (Y1 u))=>show Calls prog 15 #[.string ⟨nm.toArray⟩,.slice la (Y1 u).length lc] W (fun e w'=>ZeH W (mu,(mc,ma)) e w') from by
  rw [<-hmk];exact Zdq nm (Y1 u) la lc W hm hr (by have:=Zbf u sm;omega) (ZjF u sm nm) o_)
 have HR:=h_ (show ((mc,ma)==(0,0)&&(XY mu u&&Zht (Y1 u)))=r by rw [<-hr];unfold ZeB;rw [hnm,hmk]);have HLS:=h_ (ZfY u sm);have HLF:=h_ (Zbf u sm);have HLT:=h_ (Zg7 u sm);obtain ⟨L,hL⟩:=e_ (Y1 u);rw [<-hL] at HR HMK HLS HLF HLT;have HL:=h_ hL;clear hB1 hsz hv0 hnm hnl hu hM hP hmk hr hL sm tu en;go_enter func8,ntmps8;go_wp2_with (first|(refine X6 rfl 28 (.tmp 1) w.heap.size cs 28 _ rfl rfl HBX.out rfl rfl n81_ ?_));generalize w.alloc (.cells cs 28)=w1 at HBX HB⊢;refine (ZmK u cs _ (HU.out _ HB.out) HTU.out HTF.out HSM.out (HM.out _ HB.out) (HP.out _ HB.out)).mono ?_;rintro e w2 ⟨la,lc,rfl,hrow,hb2,-⟩;rw [<-HL.out];rw [<-HL.out] at hrow;replace HBX:=h_ (Za HBX.out hb2);replace HB:=h_ (HB.out.trans (hb2.mono HB.out.size));have HRW:=h_ hrow;clear hb2 hrow;obtain ⟨q0,-⟩:=And.intro (((rd HBX.out).1 0).trans HV0.out) trivial;go_wp2_with fail;clear q0;refine (HMK.out _ la lc (HM.out _ HB.out) HRW.out).mono ?_;rintro e w1 ⟨hb1,cs1,rfl,hrd1⟩;replace HB:=h_ (HB.out.trans (hb1.mono HB.out.size));replace HBX:=h_ (Za HBX.out hb1);replace HRW:=h_ (HRW.out.below hb1);have L1HBX:=h_ (Zb HBX.out);have LW1:=h_ HB.out.size;have HON1:=h_ hrd1.one;have HSC1:=h_ (show (prog.info? 28).map (·.size)=some cs1.size by rw [hrd1.size];rfl);have HSZ1:=h_ (show Zf.size=cs1.size by rw [hrd1.size];rfl);have HU1:=h_ hrd1;have HV1:=h_ (Below.refl w1.heap.size w1);clear hb1 hrd1;go_upto_region 3 with (first
  |(refine YR rfl _ Zf rfl (ZE _) ?_;intro wa1 ha1 hba1)
  |(refine Yk rfl 28 (.tmp 4) (.tmp 13) w1.heap.size cs1 Zf 28 rfl rfl rfl (Za ha1 (b_.alloc l_ _)) HSZ1.out HSC1.out HON1.out ?_;intro wb1 hc1 hf1;have tv1:=ZjO ha1 hba1 hc1 hf1;refine Yk rfl 37 (.tmp 5) (.tmp 14) wa1.heap.size #[.int .i64 mc,.int .i64 ma] #[.int .i64 0,.int .i64 0] 37 rfl rfl rfl tv1.1 rfl rfl (ZdJ mc ma) ?_;intro v1 hd1 hg1;have tw1:=Zhc hc1 tv1 hg1))
 replace HB:=h_ (HB.out.trans (tw1.2.1.mono HB.out.size));replace HBX:=h_ (Za HBX.out tw1.2.1);replace HRW:=h_ (HRW.out.below tw1.2.1);replace HV1:=h_ (HV1.out.trans (tw1.2.1.mono HV1.out.size));have HX1:=h_ tw1.1;have HF1:=h_ hd1;have LO1:=h_ tw1.2.2;clear ha1 hba1 hc1 hf1 tv1 hg1 tw1 hd1;obtain ⟨g0,g1,-,-⟩:=XA HF1.out;obtain ⟨q,hq⟩:∃q,(mc==0&&ma==0)=q:=⟨_,rfl⟩;have hqq:((mc,ma)==((0:Int),(0:Int)))=q:=by rw [<-hq];rfl
 have r1:=Zgr mc ma 0 0 q hq;rw [hqq] at HR;clear hq hqq;obtain ⟨p,hp⟩:∃p,XY mu u=p:=⟨_,rfl⟩;rw [hp] at HR;obtain ⟨m,hm⟩:∃m,Zht L=m:=⟨_,rfl⟩;rw [hm] at HR;have HSS:=h_ (Zaw cs1 cs mu u v1 (HU1.out.see.below HV1.out) (HU.out _ HB.out) HTM.out HTU.out p hp);have HLM:=h_ (fun W (h:Below v1.heap.size v1 W)=>ZdA la lc L W (ZoL (HRW.out.below h)) n82_ HLS.out HLT.out m hm);clear hp hm HLF HLS HLT HMK;cases q with
 |false=>
  obtain rfl:r=false:=HR.out.symm;exact m130_
 |true=>
  go_wp2_with (first
   |(refine Qq rfl 28 (.tmp 4) w1.heap.size cs1 28 _ rfl rfl HX1.out rfl rfl HSC1.out ?_)
   |(refine Qq rfl 28 (.tmp 1) w.heap.size cs 28 _ rfl rfl HBX.out rfl rfl n81_ ?_))
  refine HSS.out.mono ?_;rintro e w5 ⟨rfl,hb5⟩;replace HLM:=h_ (HLM.out _ hb5);replace HB:=h_ (HB.out.trans (hb5.mono HB.out.size));clear hb5 HX1 HBX HF1 g0 g1 r1 HSS;cases p with
  |false=>
   obtain rfl:r=false:=HR.out.symm;exact m130_
  |true=>
   obtain rfl:r=m:=HR.out.symm;go_wp2_with fail;refine HLM.out.mono ?_;rintro e w6 ⟨rfl,hb6⟩;replace HB:=h_ (HB.out.trans (hb6.mono HB.out.size));clear hb6;exact m130_
def Ze0(u:UV)(w:World)(e:Ending)(w':World):Prop:=∃la lc,e=.returned (.slice la (XP u).length lc)/\Zx ZU 4 w' la (XP u)/\Below w.heap.size w w'/\(XP u).length<=lc
theorem ZcA(u:UV)(cs:Array Value)(w:World)(hu:ZT w cs u)(tu:Zz u)(sm:Yx u)(hM:Zt w)(hP:Pow w) :
  Calls prog 13 #[.agg cs] w fun e w'=>Ze0 u w e w':=by
 have hB1:=(Below.refl w.heap.size w).alloc l_ (.cells cs 28);have HBX:=h_ (heap_alloc_new w (.cells cs 28));have HB:=h_ hB1;have HSZ:=h_ hu.size;have HU:=h_ (fun W (h:Below w.heap.size w W)=>hu.below h);have HM:=h_ (fun W (h:Below w.heap.size w W)=>hM.below h);have HP:=h_ (fun W (h:Below w.heap.size w W)=>hP.below h);obtain ⟨r,hr⟩:∃r,ZeB u=r:=⟨_,rfl⟩;have HMY:=h_ (fun W (h:Below w.heap.size w W)=>ZcM u cs W (hu.below h) tu sm (hM.below h) (hP.below h) r hr);have HRW:=h_ (fun W (h:Below w.heap.size w W)=>ZmK u cs W (hu.below h) tu (Zz.new (u 0).str) sm (hM.below h) (hP.below h));have HL:=h_ (show XP u=if r=true then Y1 u else [] by unfold XP;rw [hr]);clear hB1 hu tu sm hM hP hr;unfold Ze0;go_enter func13,ntmps13;go_wp2_with (first|(refine X6 rfl 28 (.tmp 1) w.heap.size cs 28 _ rfl rfl HBX.out rfl rfl n81_ ?_));generalize w.alloc (.cells cs 28)=w1 at HBX HB⊢;refine (HMY.out _ HB.out).mono ?_;rintro e w2 ⟨rfl,hb2⟩;replace HBX:=h_ (Za HBX.out hb2);replace HB:=h_ (HB.out.trans (hb2.mono HB.out.size));clear hb2;cases r with
 |false=>
  go_wp2_with fail;go_ret;refine ⟨none,0,?_,?_,HB.out,?_⟩
  ·rw [HL.out];rfl
  ·rw [HL.out];exact Zx.nil _ _ _ _
  ·rw [HL.out];exact Nat.zero_le _
 |true=>
  go_wp2_with (first|(refine X6 rfl 28 (.tmp 1) w.heap.size cs 28 _ rfl rfl HBX.out rfl rfl n81_ ?_));refine (HRW.out _ HB.out).mono ?_;rintro e w3 ⟨la,lc,rfl,hrow,hb3,hcap⟩;have HRR:=h_ hrow;have HCC:=h_ hcap;replace HB:=h_ (HB.out.trans (hb3.mono HB.out.size));clear hb3 hrow hcap;go_wp2_with fail;go_ret;refine ⟨la,lc,?_,?_,HB.out,?_⟩
  ·rw [HL.out];rfl
  ·rw [HL.out];exact HRR.out
  ·rw [HL.out];exact HCC.out
theorem ZmZ(u:UV)(cs:Array Value)(w:World)(hu:ZT w cs u)(tu:Zz u)(sm:Yx u)(hM:Zt w)(hP:Pow w)(s:Str)(hs:Zmn u=s) :
  Calls prog 10 #[.agg cs] w fun e w'=>e=.returned (.string ⟨s.toArray⟩)/\Below w.heap.size w w':=by
 have hB1:=(Below.refl w.heap.size w).alloc l_ (.cells cs 28);have HBX:=h_ (heap_alloc_new w (.cells cs 28));have HB:=h_ hB1;have HSZ:=h_ hu.size;have HRL:=h_ (fun W (h:Below w.heap.size w W)=>ZcA u cs W (hu.below h) tu sm (hM.below h) (hP.below h));have hin:∀x∈XP u,x∈Y1 u:=by intro x hx;unfold XP at hx;split at hx;exact hx;cases hx
 have hlen:(XP u).length<=2000000:=by unfold XP;split;exact Zbf u sm;exact Nat.zero_le _
 have HPR:=h_ (fun W la lc (hr:Zx ZU 4 W la (XP u))=>Zox la lc (XP u) W (ZoL hr) o_ (fun x hx=>ZfY u sm x (hin x hx)) (fun h=>by
  unfold XP at h⊢;split
  ·rename_i hm;rw [if_pos hm] at h;exact Zg7 u sm h
  ·exact Nat.zero_le _) s hs)
 clear hB1 hu tu sm hM hP hs hin hlen;go_enter func10,ntmps10;go_wp2_with (first|(refine X6 rfl 28 (.tmp 1) w.heap.size cs 28 _ rfl rfl HBX.out rfl rfl n81_ ?_));generalize w.alloc (.cells cs 28)=w1 at HBX HB⊢;refine (HRL.out _ HB.out).mono ?_;rintro e w2 ⟨la,lc,rfl,hrow,hb2,-⟩;replace HPR:=h_ (HPR.out _ la lc hrow);replace HB:=h_ (HB.out.trans (hb2.mono HB.out.size));clear hb2 hrow;go_wp2_with fail;refine HPR.out.mono ?_;rintro e w3 ⟨rfl,hb3⟩;replace HB:=h_ (HB.out.trans (hb3.mono HB.out.size));clear hb3;exact m130_
theorem ZaO:Zz Jr:=Zz.upd (Zz.upd (Zz.upd (Zz.new Zfl) 4 (.rs [(2,Zms)]) rfl) 9 (.cs [(true,[ZqM,ZmG])]) rfl) 16 (.n 60) rfl
theorem ZnG(W:World)(cs:Array Value)(h:ZT W cs (ZL Zfl))(b1 b2 b3:Nat)(h1:W.heap[b1]?=some (.cells (Qx ((2:Int),Zms)).toArray 47 (0,0)))(h2:W.heap[b2]?=some (.cells (Zr [ZqM,ZmG]).toArray 9 (0,0)))
  (h3:W.heap[b3]?=some (.cells (ZhD ⟨true,some ⟨b2,0,none⟩,2,2⟩).toArray 49 (0,0))) :
  ZT W (((cs.setIfInBounds 4 (.slice (some ⟨b1,0,none⟩) 1 1)).setIfInBounds 9 (.slice (some ⟨b3,0,none⟩) 1 1)).setIfInBounds 16 (.int .i64 60)) Jr:=by
 refine ⟨by simp [h.size],fun j v hv=>?_⟩;have hsz:=h.size;unfold Jr;by_cases e16:j=16
 ·subst e16
  rw [Array.getElem?_setIfInBounds_self_of_lt (by simp [hsz])] at hv;injection hv with hv
  subst hv;rw [UV.upd_at];rfl
 rw [Array.getElem?_setIfInBounds_ne (Ne.symm e16)] at hv;rw [UV.upd_ne _ _ e16];by_cases e9:j=9
 ·subst e9
  rw [Array.getElem?_setIfInBounds_self_of_lt (by simp [hsz])] at hv;injection hv with hv
  subst hv;rw [UV.upd_at];refine ⟨_,1,[⟨true,some ⟨b2,0,none⟩,2,2⟩],rfl,⟨rfl,fun i hi=>?_,fun i g1 g2=>?_⟩,d_⟩
  ·obtain rfl:i=0:=n60_
   refine ⟨b3,0,rfl,Zb h3,fun j v hj=>?_⟩;rw [(rd h3).1];simpa using hj
  ·obtain rfl:i=0:=by simpa using g1
   refine ⟨rfl,rfl,fun i hi=>⟨b2,0,rfl,?_⟩,by show 2<=maxLen;decide⟩;rw [(rd h2).1];rcases (show i=0\/i=1 by have:i<2:=hi;omega) with rfl|rfl<;>rfl
 rw [Array.getElem?_setIfInBounds_ne (Ne.symm e9)] at hv;rw [UV.upd_ne _ _ e9];by_cases e4:j=4
 ·subst e4
  rw [Array.getElem?_setIfInBounds_self_of_lt (by simp [hsz])] at hv;injection hv with hv
  subst hv;rw [UV.upd_at];refine ⟨_,1,rfl,fun i hi=>?_,d_⟩;obtain rfl:i=0:=n60_;refine ⟨b1,0,rfl,Zb h1,fun j v hj=>?_⟩;rw [(rd h1).1];simpa using hj
 rw [Array.getElem?_setIfInBounds_ne (Ne.symm e4)] at hv;rw [UV.upd_ne _ _ e4];exact h.fld j v hv
theorem ZkX(w:World)(hM:Zt w)(hP:Pow w):Calls prog 7 #[] w fun e w'=>e=.returned (.bool true)/\Below w.heap.size w w':=by
 have HM:=h_ (fun W (h:Below w.heap.size w W)=>hM.below h);have HP:=h_ (fun W (h:Below w.heap.size w W)=>hP.below h);have HN:=h_ (fun W (h:Below w.heap.size w W)=>ZeE Zfl W d_ (hM.below h));obtain ⟨cs,hcs⟩:=e_ (Z6 (ZL Zfl));have HSC:=h_ (show (prog.info? 28).map (·.size)=some cs.size by rw [hcs];kernel_rfl);have HSZ:=h_ (show Zf.size=cs.size by rw [hcs];simp [Z6];rfl);have HON:=h_ (show (cs.all fun x=>x.oneCell')=true by rw [hcs];decide +kernel);have HSE:=h_ (fun W=>show ZT W cs (ZL Zfl) by rw [hcs];exact Zig W Zfl);have HC4:=h_ (show cs[4]?=some (.slice none 0 0) by rw [hcs];exact Zby _ 4 d_);have HC9:=h_ (show cs[9]?=some (.slice none 0 0) by rw [hcs];exact Zby _ 9 d_);have HC16:=h_ (show cs[16]?=some (.int .i64 90) by rw [hcs];exact Zby _ 16 d_);rw [<-hcs] at HN;have HCS:=h_ hcs;clear hM hP hcs;go_enter func7,ntmps7;go_wp2_with fail;refine (HN.out _ b_).mono ?_;rintro e w2 ⟨rfl,hb2⟩;have HB:=h_ hb2;clear hb2;go_upto_region 2 with (first
  |(refine YR rfl _ Zf rfl (ZE _) ?_;intro w3 h3 hb3)
  |(refine Yk rfl 28 _ _ w2.heap.size cs Zf 28 rfl rfl rfl h3 HSZ.out HSC.out HON.out ?_;intro w4 h4 hf4))
 have HX:=h_ h4;have HB4:=h_ (HB.out.trans ((hb3.trans (hf4.below w2.heap.size hb3.size (fun k hk e=>by omega))).mono HB.out.size));have HL:=h_ HB.out.size;clear h3 hb3 h4 hf4 HB;obtain ⟨O1,hO1⟩:=e_ (Obj.cells #[.int .i64 2,.string ⟨#[98,46,116,97,114,103,101,116]⟩] 47 (0,0));have q4:=((rd (heap_alloc HX.out O1)).1 4).trans HC4.out;have p4:=(rd (heap_alloc HX.out O1)).2.1 4;rw [hO1] at q4 p4;go_upto_region 3 with fail
 rw [<-hO1];have HX5:=h_ (heap_setCell (heap_alloc HX.out O1) 4 (.slice (some ⟨w4.heap.size,0,none⟩) 1 1));have HR1:=h_ (Zw (heap_alloc_new w4 O1) (a:=⟨w2.heap.size,4,none⟩) (Nat.ne_of_gt (Zb HX.out)) (.slice (some ⟨w4.heap.size,0,none⟩) 1 1));have HB5:=h_ ((HB4.out.alloc HB4.out.size O1).setCell (p:=⟨w2.heap.size,4,none⟩) HL.out (.slice (some ⟨w4.heap.size,0,none⟩) 1 1));have HN1:=h_ (show w4.heap.size≠w2.heap.size from Nat.ne_of_gt (Zb HX.out));generalize (w4.alloc O1).setCell ⟨w2.heap.size,4,none⟩ (.slice (some ⟨w4.heap.size,0,none⟩) 1 1)=w5 at HX5 HR1 HB5⊢;rw [show O1=Obj.cells (Qx ((2:Int),Zms)).toArray 47 (0,0) from hO1] at HR1;generalize w4.heap.size=b1 at HX5 HR1 HN1⊢;clear q4 p4 HX HB4 hO1 O1;obtain ⟨cs1,hcs1⟩:=e_ (cs.setIfInBounds 4 (.slice (some ⟨b1,0,none⟩) 1 1));rw [<-hcs1] at HX5;have HC9':=h_ (show cs1[9]?=some (.slice none 0 0) by rw [hcs1,Array.getElem?_setIfInBounds_ne d_];exact HC9.out);have HC16':=h_ (show cs1[16]?=some (.int .i64 90) by rw [hcs1,Array.getElem?_setIfInBounds_ne d_];exact HC16.out);have HCS1:=h_ hcs1;clear hcs1 HC4 HC9 HC16;obtain ⟨O2,hO2⟩:=e_ (Obj.cells #[.string ⟨#[114,117,110]⟩,.string ⟨#[53,37]⟩] 9 (0,0));obtain ⟨O3,hO3⟩:=e_ (Obj.cells #[.bool true,.slice (some ⟨w5.heap.size,0,none⟩) 2 2] 49 (0,0));have hX:=heap_alloc (heap_alloc HX5.out O2) O3;have q9:=((rd hX).1 9).trans HC9'.out;have p9:=(rd hX).2.1 9;rw [hO2,hO3] at q9 p9;go_upto_region 4 with fail
 rw [<-hO2,<-hO3];have hr3:=heap_alloc_new (w5.alloc O2) O3;rw [show (w5.alloc O2).heap.size=w5.heap.size+1 by simp] at hr3;have hn2:w5.heap.size≠w2.heap.size:=Nat.ne_of_gt (Zb HX5.out);have HX6:=h_ (heap_setCell hX 9 (.slice (some ⟨w5.heap.size+1,0,none⟩) 1 1));have HR1':=h_ (Zw (heap_alloc (heap_alloc HR1.out O2) O3) (a:=⟨w2.heap.size,9,none⟩) HN1.out (.slice (some ⟨w5.heap.size+1,0,none⟩) 1 1));have HR2:=h_ (Zw (heap_alloc (heap_alloc_new w5 O2) O3) (a:=⟨w2.heap.size,9,none⟩) hn2 (.slice (some ⟨w5.heap.size+1,0,none⟩) 1 1));have HR3:=h_ (Zw hr3 (a:=⟨w2.heap.size,9,none⟩) (by have:=Zb HX5.out;show w5.heap.size+1≠w2.heap.size;omega) (.slice (some ⟨w5.heap.size+1,0,none⟩) 1 1));have HN2:=h_ hn2;have HN3:=h_ (show w5.heap.size+1≠w2.heap.size by have:=Zb HX5.out;omega);have HB6:=h_ (((HB5.out.alloc HB5.out.size O2).alloc (HB5.out.alloc HB5.out.size O2).size O3).setCell (p:=⟨w2.heap.size,9,none⟩) HL.out (.slice (some ⟨w5.heap.size+1,0,none⟩) 1 1));generalize ((w5.alloc O2).alloc O3).setCell ⟨w2.heap.size,9,none⟩ (.slice (some ⟨w5.heap.size+1,0,none⟩) 1 1)=w6 at HX6 HR1' HR2 HR3 HB6⊢;rw [show O2=Obj.cells (Zr [ZqM,ZmG]).toArray 9 (0,0) from hO2] at HR2;rw [show O3=Obj.cells (ZhD ⟨true,some ⟨w5.heap.size,0,none⟩,2,2⟩).toArray 49 (0,0) from hO3] at HR3;generalize w5.heap.size=b2 at HR2 HR3 HN2 HN3 HX6⊢;clear q9 p9 hX hr3 hn2 HX5 HR1 HB5 hO2 hO3 O2 O3;have q16:=((rd HX6.out).1 16).trans (show (cs1.setIfInBounds 9 (.slice (some ⟨b2+1,0,none⟩) 1 1))[16]?=some (.int .i64 90) by rw [Array.getElem?_setIfInBounds_ne d_];exact HC16'.out);have p16:=(rd HX6.out).2.1 16;go_upto_region 5 with fail
 have HX7:=h_ (heap_setCell HX6.out 16 (.int .i64 60));have HS1:=h_ (Zw HR1'.out (a:=⟨w2.heap.size,16,none⟩) HN1.out (.int .i64 60));have HS2:=h_ (Zw HR2.out (a:=⟨w2.heap.size,16,none⟩) HN2.out (.int .i64 60));have HS3:=h_ (Zw HR3.out (a:=⟨w2.heap.size,16,none⟩) HN3.out (.int .i64 60));have HB7:=h_ (HB6.out.setCell (p:=⟨w2.heap.size,16,none⟩) HL.out (.int .i64 60));generalize w6.setCell ⟨w2.heap.size,16,none⟩ (.int .i64 60)=w7 at HX7 HS1 HS2 HS3 HB7⊢;clear q16 p16 HX6 HR1' HR2 HR3 HB6 HN1 HN2 HN3 HC9' HC16' HSC HSZ HON HN;obtain ⟨C,hC⟩:=e_ ((cs1.setIfInBounds 9 (.slice (some ⟨b2+1,0,none⟩) 1 1)).setIfInBounds 16 (.int .i64 60));rw [<-hC] at HX7;rw [HCS1.out] at hC;have hsee:ZT w7 C Jr:=by rw [hC];exact ZnG w7 cs (HSE.out w7) b1 b2 (b2+1) HS1.out HS2.out HS3.out
 have HSC:=h_ (show (prog.info? 28).map (·.size)=some C.size by rw [hsee.size];rfl);have HMY:=h_ (fun W (h:Below w7.heap.size w7 W) (g:Below w.heap.size w W)=>ZcM Jr C W (hsee.below h) ZaO ZaT (HM.out W g) (HP.out W g) true Zl0);have HMZ:=h_ (fun W (g:Below w.heap.size w W)=>ZcM Zy Zf W (Ye.zero W).see Zz.zero Zkr (HM.out W g) (HP.out W g) false Zn3);have HTX:=h_ (fun W (h:Below w7.heap.size w7 W) (g:Below w.heap.size w W)=>ZmZ Jr C W (hsee.below h) ZaO ZaT (HM.out W g) (HP.out W g) _ ZiK);have HLN:=h_ (fun W (h:Below w7.heap.size w7 W) (g:Below w.heap.size w W)=>ZcA Jr C W (hsee.below h) ZaO ZaT (HM.out W g) (HP.out W g));clear hsee hC HS1 HS2 HS3 HCS1 HCS HSE HM HP;have HV:=h_ (Below.refl w7.heap.size w7);go_wp2_with (first|(refine Qq rfl 28 (.tmp 1) w2.heap.size C 28 _ rfl rfl HX7.out rfl rfl HSC.out ?_));refine (HMY.out _ HV.out HB7.out).mono ?_;rintro e w8 ⟨rfl,hb8⟩;replace HX7:=h_ (Za HX7.out hb8);replace HV:=h_ (HV.out.trans (hb8.mono HV.out.size));replace HB7:=h_ (HB7.out.trans (hb8.mono HB7.out.size));clear hb8 HMY;go_wp2_with (first|(refine Qq rfl 28 (.tmp 1) w2.heap.size C 28 _ rfl rfl HX7.out rfl rfl HSC.out ?_));refine (HTX.out _ HV.out HB7.out).mono ?_;rintro e w9 ⟨rfl,hb9⟩;replace HX7:=h_ (Za HX7.out hb9);replace HV:=h_ (HV.out.trans (hb9.mono HV.out.size));replace HB7:=h_ (HB7.out.trans (hb9.mono HB7.out.size));clear hb9 HTX;go_wp2_with (first|(refine Zna rfl 28 #[] #[] _ rfl s_ (YU _) ?_));refine (HMZ.out _ HB7.out).mono ?_;rintro e w10 ⟨rfl,hb10⟩;replace HX7:=h_ (Za HX7.out hb10);replace HV:=h_ (HV.out.trans (hb10.mono HV.out.size));replace HB7:=h_ (HB7.out.trans (hb10.mono HB7.out.size));clear hb10 HMZ;go_wp2_with (first|(refine Qq rfl 28 (.tmp 1) w2.heap.size C 28 _ rfl rfl HX7.out rfl rfl HSC.out ?_));refine (HLN.out _ HV.out HB7.out).mono ?_;rintro e w11 ⟨la,lc,rfl,-,hb11,-⟩;rw [Zhz];replace HB7:=h_ (HB7.out.trans (hb11.mono HB7.out.size));clear hb11 HLN;go_wp2_with fail;go_ret;exact ⟨rfl,HB7.out⟩
theorem m131_{p:Prop}(h:p:=by obtain rfl:=Option.some.inj ho;have s:a.tmps[9]?=some (.slice (some ⟨b,o,none⟩) M.length lc):=(hI.at 9 k_).trans rfl;exact Z8 (.slice (some ⟨b,o,none⟩) M.length lc) n21_ ⟨_,rfl,rfl,.inl b_⟩):p:=h
theorem m132_{p:Prop}(h:p:=by obtain rfl:=Option.some.inj ho;have s:a.tmps[10]?=some (.int .i64 k):=(hI.at 10 k_).trans rfl;exact Z8 (.int .i64 k) n21_ ⟨_,rfl,rfl,.inl b_⟩):p:=h
theorem m133_{p:Prop}(h:p:=by intro w3 h3 hb3 hl3;exact ⟨_,rfl,⟨_,rfl,h0.bel.size,h3⟩,.inl hb3⟩):p:=h
theorem ZlR(x:Int)(m:Nat)(hm:m<9223372036854775808):∃n:Nat,n<=m/\bits BinOp.and IntKind.i64 x (m:Int)=(n:Int):=by
 have h1:(BitVec.ofInt 64 (m:Int)).toNat=m:=by
  rw [BitVec.ofInt_natCast,BitVec.toNat_ofNat];exact Nat.mod_eq_of_lt o_
 have h2:(BitVec.ofInt 64 x &&& BitVec.ofInt 64 (m:Int)).toNat<=m:=by
  rw [BitVec.toNat_and,h1];exact Nat.and_le_right
 refine ⟨_,h2,?_⟩;show IntKind.i64.wrap ((BitVec.ofInt 64 x &&& BitVec.ofInt 64 (m:Int)).toNat:Int)=_;generalize (BitVec.ofInt 64 x &&& BitVec.ofInt 64 (m:Int)).toNat=q at *;rw [IntKind.wrap_i64];omega
def Zex(nm:Str)(M:List Ln)(k b o lc:Nat)(wc:World)(u2:UV)(c2 a2:Int):Nat->Value->World->Prop
 |0,v,_=>v=.string ⟨nm.toArray⟩
 |1,v,_=>v=.slice (some ⟨b,o,none⟩) M.length lc
 |2,v,_=>v=.int .i64 k
 |3,v,_=>v=.slice (some ⟨b,o,none⟩) k lc
 |4,v,W=>W.ownsRow wc.heap.size ZjN 4 v k (ZA ZU (M.take k))
 |5,v,_=>v=.slice (some ⟨b,o,none⟩) M.length lc
 |6,v,_=>v=.int .i64 k
 |7,v,_=>v=.int .i64 ((k:Int)+1)
 |8,v,_=>∃o8 c8,v=.slice o8 (M.length-(k+1)) c8/\∀W,Below wc.heap.size wc W->Zx ZU 4 W o8 (M.drop (k+1))
 |9,v,W=>∃o9 c9,v=.slice o9 (k+(M.length-(k+1))) c9/\Zx ZU 4 W o9 (M.take k++M.drop (k+1))
 |10,v,W=>∃cs,v=.tuple #[.agg cs,.agg #[.int .i64 c2,.int .i64 a2]]/\Ye W cs u2
 |11,v,W=>∃cs,v=.tuple #[.agg cs,.agg #[.int .i64 c2,.int .i64 a2]]/\Ye W cs u2
 |12,v,W=>∃cs,v=.agg cs/\Ye W cs u2
 |13,v,_=>v=.agg #[.int .i64 c2,.int .i64 a2]
 |14,v,W=>∃b,v=.pointer (some ⟨b,0,none⟩)/\wc.heap.size<=b/\W.heap[b]?=some (.cells Zf 28 (0,0))
 |15,v,W=>∃b,v=.pointer (some ⟨b,0,none⟩)/\wc.heap.size<=b/\W.heap[b]?=some (.cells #[.int .i64 0,.int .i64 0] 37 (0,0))
 |16,v,W=>∃b cs,v=.pointer (some ⟨b,0,none⟩)/\wc.heap.size<=b/\W.heap[b]?=some (.cells cs 28 (0,0))/\Ye W cs u2
 |17,v,W=>∃b,v=.pointer (some ⟨b,0,none⟩)/\W.heap[b]?=some (.cells #[.int .i64 c2,.int .i64 a2] 37 (0,0))
 |_,_,_=>True
def Zsi:Nat->Nat|16=>14|17=>15|j=>j
theorem Zex.mono{nm:Str}{M:List Ln}{k b o lc:Nat}{wc:World}{u2:UV}{c2 a2:Int}(j:Nat)(v:Value)(W W':World)(hb:Below W.heap.size W W')(h:Zex nm M k b o lc wc u2 c2 a2 j v W):Zex nm M k b o lc wc u2 c2 a2 j v W':=by
 match j,h with
 |0,h=>exact h
 |1,h=>exact h
 |2,h=>exact h
 |3,h=>exact h
 |4,h=>exact Zq h hb
 |5,h=>exact h
 |6,h=>exact h
 |7,h=>exact h
 |8,h=>exact h
 |9,⟨o9,c9,e,h⟩=>exact ⟨o9,c9,e,h.below hb⟩
 |10,⟨cs,e,h⟩=>exact ⟨cs,e,h.below hb⟩
 |11,⟨cs,e,h⟩=>exact ⟨cs,e,h.below hb⟩
 |12,⟨cs,e,h⟩=>exact ⟨cs,e,h.below hb⟩
 |13,h=>exact h
 |14,⟨b,e,l,h⟩=>exact ⟨b,e,l,Za h hb⟩
 |15,⟨b,e,l,h⟩=>exact ⟨b,e,l,Za h hb⟩
 |16,⟨b,cs,e,l,h,r⟩=>exact ⟨b,cs,e,l,Za h hb,r.below hb⟩
 |17,⟨b,e,h⟩=>exact ⟨b,e,Za h hb⟩
 |_+18,_=>exact trivial
theorem Zex.touch{nm:Str}{M:List Ln}{k b o lc:Nat}{wc:World}{u2:UV}{c2 a2:Int}{W W':World}{g:Nat}{X:Array Value}{T:TypeId}(hg:W.heap[g]?=some (.cells X T (0,0)))(hT:T∉Zlm)(hf:Fr (fun k=>k=g) W W')(j:Nat)(v:Value)
  (h4:j≠4) (h9:j≠9) (h14:(j=14\/j=16)->T≠28) (h15:(j=15\/j=17)->T≠37) (h:Zex nm M k b o lc wc u2 c2 a2 j v W):Zex nm M k b o lc wc u2 c2 a2 j v W':=by
 match j,h with
 |0,h=>exact h
 |1,h=>exact h
 |2,h=>exact h
 |3,h=>exact h
 |4,h=>exact absurd rfl h4
 |5,h=>exact h
 |6,h=>exact h
 |7,h=>exact h
 |8,h=>exact h
 |9,h=>exact absurd rfl h9
 |10,⟨cs,e,h⟩=>exact ⟨cs,e,h.frT hg hT hf⟩
 |11,⟨cs,e,h⟩=>exact ⟨cs,e,h.frT hg hT hf⟩
 |12,⟨cs,e,h⟩=>exact ⟨cs,e,h.frT hg hT hf⟩
 |13,h=>exact h
 |14,⟨b,e,l,h⟩=>exact ⟨b,e,l,hf.heap h (fun q=>Zc6 hg h (h14 (.inl rfl)) q.symm)⟩
 |15,⟨b,e,l,h⟩=>exact ⟨b,e,l,hf.heap h (fun q=>Zc6 hg h (h15 (.inl rfl)) q.symm)⟩
 |16,⟨b,cs,e,l,h,r⟩=>exact ⟨b,cs,e,l,hf.heap h (fun q=>Zc6 hg h (h14 (.inr rfl)) q.symm),r.frT hg hT hf⟩
 |17,⟨b,e,h⟩=>exact ⟨b,e,hf.heap h (fun q=>Zc6 hg h (h15 (.inr rfl)) q.symm)⟩
 |_+18,_=>exact trivial
theorem Zgl(nm:Str)(l:List Ln)(oa:Option Addr)(ca:Nat)(ix:Int)(w:World)(hM:Zt w)(hP:Pow w)(ha:Zx ZU 4 w oa l)(za:l.length<=1048576)
  (xa:∀x∈l,x.val.length<=1048576) (hnm:nm.length<=1048576) :
  Calls prog 5 #[.string ⟨nm.toArray⟩,.slice oa l.length ca,.int .i64 ix] w fun e w'=>e=.returned (.bool true)/\Below w.heap.size w w':=by
 have HSH:=h_ (fun W (h:Below w.heap.size w W)=>ZkX W (hM.below h) (hP.below h));have HM:=h_ (fun W (h:Below w.heap.size w W)=>hM.below h);have HP:=h_ (fun W (h:Below w.heap.size w W)=>hP.below h);have HRA:=h_ (fun W (h:Below w.heap.size w W)=>ha.below h);obtain ⟨u1,c1,a1,h1⟩:∃u c a,Z9 nm l=(u,(c,a)):=⟨_,_,_,rfl⟩;have HMA:=h_ (fun W (h:Below w.heap.size w W)=>Znr nm l oa ca W (HM.out W h) (HRA.out W h) o_ xa o_);rw [h1] at HMA;have HT1:=h_ (show Zz u1 by have:=JW nm l;rw [h1] at this;exact this);have HS1:=h_ (show c1=0->Yx u1 from fun e=>by have:=Zlw (name:=nm) (l:=l) (by rw [h1];exact e) xa;rw [h1] at this;exact this);have HFW:=h_ (show c1=0->ZeB u1=true->(Y1 u1=[]->XY u1 (ZL nm)=true)/\∀i,i<(Y1 u1).length->XY (Z9 nm ((Y1 u1).eraseIdx i)).1 u1=false from fun e m=>by
  have:=Zqr nm l (by rw [h1];exact e) (by rw [h1];exact m)
  rw [h1] at this;exact this)
 clear hM hP ha xa h1;go_enter func5,ntmps5;go_wp2_with fail;refine (HSH.out _ b_).mono ?_;rintro e w0 ⟨rfl,hb0⟩;have HB:=h_ hb0;clear hb0 HSH;go_wp2_with fail;refine (HMA.out w0 HB.out).mono ?_;rintro e w1 ⟨hb1,cs1,rfl,hrd1⟩;replace HB:=h_ (HB.out.trans (hb1.mono HB.out.size));have LW1:=h_ HB.out.size;have HON1:=h_ hrd1.one;have HSC1:=h_ (show (prog.info? 28).map (·.size)=some cs1.size by rw [hrd1.size];rfl);have HSZ1:=h_ (show Zf.size=cs1.size by rw [hrd1.size];rfl);have HU1:=h_ hrd1;have HV1:=h_ (Below.refl w1.heap.size w1);clear hb1 hrd1;go_upto_region 4 with (first
  |(refine YR rfl _ Zf rfl (ZE _) ?_;intro wa1 ha1 hba1)
  |(refine Yk rfl 28 (.tmp 7) (.tmp 19) w1.heap.size cs1 Zf 28 rfl rfl rfl (Za ha1 (b_.alloc l_ _)) HSZ1.out HSC1.out HON1.out ?_;intro wb1 hc1 hf1;have tv1:=ZjO ha1 hba1 hc1 hf1;refine Yk rfl 37 (.tmp 8) (.tmp 20) wa1.heap.size #[.int .i64 c1,.int .i64 a1] #[.int .i64 0,.int .i64 0] 37 rfl rfl rfl tv1.1 rfl rfl (ZdJ c1 a1) ?_;intro v1 hd1 hg1;have tw1:=Zhc hc1 tv1 hg1))
 replace HB:=h_ (HB.out.trans (tw1.2.1.mono HB.out.size));replace HV1:=h_ (HV1.out.trans (tw1.2.1.mono HV1.out.size));have HX1:=h_ tw1.1;have HF1:=h_ hd1;have LO1:=h_ tw1.2.2;clear ha1 hba1 hc1 hf1 tv1 hg1 tw1 hd1;clear HMA HRA;obtain ⟨g0,g1,-,-⟩:=XA HF1.out;by_cases h0:c1=0
 case neg=>
  have n0:(c1 !=0)=true:=bne_iff_ne.2 h0;clear h0 HS1 HFW;go_wp2_with fail;go_ret;exact ⟨rfl,HB.out⟩
 subst h0;have HSM:=h_ (HS1.out rfl);obtain ⟨ma,hma⟩:∃ma,ZeB u1=ma:=⟨_,rfl⟩;have HSE:=h_ (fun W (h:Below v1.heap.size v1 W)=>(HU1.out.below (HV1.out.trans (h.mono HV1.out.size))).see);have HMY:=h_ (ZcM u1 cs1 v1 (HSE.out v1 b_) HT1.out HSM.out (HM.out _ HB.out) (HP.out _ HB.out) ma hma);have HMA:=h_ hma;clear hma HS1;go_wp2_with (first|(refine Qq rfl 28 (.tmp 7) w1.heap.size cs1 28 _ rfl rfl HX1.out rfl rfl HSC1.out ?_));refine HMY.out.mono ?_;rintro e w3 ⟨rfl,hb3⟩;have HVW:=h_ hb3;replace HB:=h_ (HB.out.trans (hb3.mono HB.out.size));replace HV1:=h_ (HV1.out.trans (hb3.mono HV1.out.size));replace HX1:=h_ (Za HX1.out hb3);replace HF1:=h_ (Za HF1.out hb3);clear hb3 HMY g0 g1;cases ma with
 |false=>
  go_wp2_with fail;go_ret;exact ⟨rfl,HB.out⟩
 |true=>
  have hraw:=(Zpj HMA.out).2;have HLN:=h_ (ZcA u1 cs1 w3 (HSE.out w3 HVW.out) HT1.out HSM.out (HM.out _ HB.out) (HP.out _ HB.out));unfold Ze0 at HLN;rw [hraw] at HLN;have HFS:=h_ (HFW.out (by trivial) HMA.out);have HFT:=h_ (ZjF u1 HSM.out nm);have HFE:=h_ (Zbf u1 HSM.out);generalize Y1 u1=M at HLN HFS HFT HFE;clear hraw HFW HMA;go_wp2_with (first|(refine Qq rfl 28 (.tmp 7) w1.heap.size cs1 28 _ rfl rfl HX1.out rfl rfl HSC1.out ?_));refine HLN.out.mono ?_;rintro e w4 ⟨la,lc,rfl,hrow,hb4,hcap⟩;have HRW:=h_ hrow;replace HB:=h_ (HB.out.trans (hb4.mono HB.out.size));replace HV1:=h_ (HV1.out.trans (hb4.mono HV1.out.size));replace HX1:=h_ (Za HX1.out hb4);replace HF1:=h_ (Za HF1.out hb4);replace HVW:=h_ (HVW.out.trans (hb4.mono HVW.out.size));clear hb4 hrow HLN;by_cases hz0:M.length=0
  ·obtain rfl:=List.eq_nil_of_length_eq_zero hz0
   have HSS:=h_ (fun W (h:Below v1.heap.size v1 W)=>Zaw cs1 (Z6 (ZL nm)) u1 (ZL nm) W (HSE.out W h) (Zig W nm) HT1.out (Zz.new nm) true (HFS.out.1 rfl));have HNW:=h_ (fun W (h:Below w.heap.size w W)=>ZeE nm W o_ (HM.out W h));clear hz0 HFS HFT HFE HRW;go_upto_region 8 with fail
   let vals:List Value:=[.agg cs1,.string ⟨nm.toArray⟩,.agg (Z6 (ZL nm)),.bool true,.bool true];refine Zbh (N:=61) (fun a=>a.tmps[7]?=some (.pointer (some ⟨w1.heap.size,0,none⟩))/\a.tmps[0]?=some (.string ⟨nm.toArray⟩)) (fun W=>Below w4.heap.size w4 W) (fun i=>vals.getD i undef) [34,35,36,37,6] k_ k_ rfl (Zd ⟨1,rfl⟩) (fun a' h=>⟨(h 7 (ZeF k_)).trans rfl,(h 0 (ZeF k_)).trans rfl⟩) ?_ ?_
   ·refine ZmN ?_
    simp only [List.append_eq,List.cons_append,List.nil_append];refine XC (Yc rfl fun a W hS hF hs=>?_) ?_
    ·exact XU 28 (.tmp 7) w1.heap.size cs1 28 _ rfl (Zk hF.1).1 (Za HX1.out hS) rfl rfl HSC1.out ⟨rfl,hS⟩
    refine XC (Yc rfl fun a W hS hF hs=>?_) ?_
    ·exact Z8 (.string ⟨nm.toArray⟩) (by obtain ⟨y0,z0⟩:=Zk hF.2;clear hs hS hF;go_simp) ⟨rfl,hS⟩
    refine XC (Yc rfl fun a W hS hF hs=>?_) ?_
    ·have s35:a.tmps[35]?=some (.string ⟨nm.toArray⟩):=hs 1 _ 35 ⟨⟨1,.data⟩,s_,rfl,rfl⟩ rfl rfl
     exact Yn (by obtain ⟨y0,z0⟩:=Zk s35;clear hs hS hF;go_simp) (HNW.out W (HB.out.trans (hS.mono HB.out.size))) n19_
    refine XC (Yc rfl fun a W hS hF hs=>?_) ?_
    ·have s34:a.tmps[34]?=some (.agg cs1):=hs 0 _ 34 ⟨⟨0,.data⟩,s_,rfl,rfl⟩ rfl rfl
     have s36:a.tmps[36]?=some (.agg (Z6 (ZL nm))):=hs 2 _ 36 ⟨⟨2,.data⟩,s_,rfl,rfl⟩ rfl rfl;exact Yn (by obtain ⟨y0,z0⟩:=Zk s34;obtain ⟨y1,z1⟩:=Zk s36;clear hs hS hF;go_simp) (HSS.out W (HVW.out.trans (hS.mono HVW.out.size))) n19_
    refine XC (Yc rfl fun a W hS hF hs=>?_) ?_
    ·have s37:a.tmps[37]?=some (.bool true):=hs 3 _ 37 ⟨⟨3,.data⟩,s_,rfl,rfl⟩ rfl rfl
     exact Z8 (.bool true) (by obtain ⟨y0,z0⟩:=Zk s37;clear hs hS hF;go_simp) ⟨rfl,hS⟩
    exact trivial
   ·intro a W hS hsz hdf _ hall
    have s6:a.tmps[6]?=some (.bool true):=hall 4 _ 6 rfl rfl;have hge:a.tmps.getD 6 undef=.bool true:=(Zk s6).2;have HFF:=h_ (HB.out.trans (hS.mono HB.out.size));simp only [Exit.then];go_wp2_with fail;refine bodyPost_ret (results_tmp rfl _ _ _) hdf ⟨by rw [hge],HFF.out⟩
  ·have hpos:0<M.length:=o_
   have hnz:((M.length:Int)==0)=false:=n11_;have hnz2:¬((M.length:Int)=0):=o_;obtain ⟨n,hn,hbits⟩:=ZlR ix 65535 d_;have hbits':bits BinOp.and IntKind.i64 ix 65535=(n:Int):=hbits;obtain ⟨k,hk⟩:∃k,n % M.length=k:=⟨_,rfl⟩;have hkl:k<M.length:=by rw [<-hk];exact Nat.mod_lt n hpos
   have hrem:(n:Int).tmod (M.length:Int)=(k:Int):=by
    rw [Int.tmod_eq_emod_of_nonneg o_,<-hk];rfl
   clear hbits hk;obtain ⟨b,o,rfl,-,-⟩:=HRW.out 0 hpos;go_upto_region 10 with fail
   obtain ⟨M2,hM2⟩:=e_ (M.take k++M.drop (k+1));obtain ⟨u2,c2,a2,h2⟩:∃u c a,Z9 nm M2=(u,(c,a)):=⟨_,_,_,rfl⟩;have hml:M2.length=k+(M.length-(k+1)):=by rw [hM2,List.length_append,List.length_take,List.length_drop];omega
   have hmem:∀x∈M2,x∈M:=fun x hx=>by rw [hM2] at hx;exact (List.mem_append.1 hx).elim List.mem_of_mem_take List.mem_of_mem_drop
   have hfew:M2.length<=2000000:=by have:=HFE.out;omega
   have HMC:=h_ (fun W (h:Below w.heap.size w W) o cap (hr:Zx ZU 4 W o (M.take k++M.drop (k+1)))=>show Calls _ _ #[.string ⟨nm.toArray⟩,.slice o (k+(M.length-(k+1))) cap] W (fun e w'=>ZeH W (u2,(c2,a2)) e w') from by
    have:=Zdq nm M2 o cap W (HM.out W h) (by rw [hM2];exact hr) o_ (fun x hx=>HFT.out x (hmem x hx)) o_
    rw [h2,hml] at this;exact this)
   have HT2:=h_ (show Zz u2 by have:=JW nm M2;rw [h2] at this;exact this);have HNE:=h_ (show XY u2 u1=false by have:=HFS.out.2 k hkl;rw [List.eraseIdx_eq_take_drop_succ,<-hM2,h2] at this;exact this);have HLT:=h_ (show (M.take k).length=k by rw [List.length_take];omega);have HTK:=h_ (fun W (h:Below w4.heap.size w4 W)=>show Zx ZU 4 W (some ⟨b,o,none⟩) (M.take k) from (HRW.out.below h).take k);have HDR:=h_ (fun W (h:Below w4.heap.size w4 W)=>show Zx ZU 4 W (some ⟨b,o+(k+1)*4,none⟩) (M.drop (k+1)) from (HRW.out.below h).drop (k+1));have HCP:=h_ hcap;have HDR0:=h_ (fun W (h:Below w4.heap.size w4 W) (e:lc=k+1)=>show Zx ZU 4 W (some ⟨b,o,none⟩) (M.drop (k+1)) from by
    rw [List.drop_eq_nil_of_le (by have:=HCP.out;omega)];exact Zx.nil _ _ _ _)
   have hfM:=HFE.out;clear h2 hml hmem hfew hM2 HFS HFT HRW hnz hnz2 hrem hbits' hpos hz0;have k0:(0:Int)<=(k:Int):=o_;have k1:(k:Int)<=(lc:Int):=o_;have k2:IntKind.i64.wrap ((k:Int)+1)=(k:Int)+1:=IntWalk.i64_in _ o_;have k3:(0:Int)<=(k:Int)+1:=o_;have k4:(k:Int)+1<=(M.length:Int):=o_;obtain ⟨wc,hwc⟩:=e_ w4;rw [<-hwc] at HTK HDR HDR0 HB HX1 HVW⊢;clear hwc;go_cut [11,12] from 43 to 57 (fun s11 s12 w'=>∃(bU bF:Nat) (cs:Array Value),s11=.pointer (some ⟨bU,0,none⟩)/\s12=.pointer (some ⟨bF,0,none⟩)/\Hid (w'.heap[bU]?=some (.cells cs 28 (0,0)))/\Hid (Ye w' cs u2)/\Hid (Below wc.heap.size wc w'))
   case first=>
    rename_i J0 K0 hJ0 hK0;have HJ:=h_ hJ0;have HK:=h_ hK0;clear hJ0 hK0;obtain ⟨i0,hi0,hz0,hz1,hz2⟩:=info_parts Zrj;refine Zev (N:=61) wc (Zex nm M k b o lc wc u2 c2 a2) Zsi [[],[],[],[],[9],[],[],[],[],[10],[],[],[],[],[16],[17],[],[]] k_ k_ rfl k_ (Zd ⟨1,rfl⟩) Zex.mono ?_ ?_
    ·intro i oo ho D V a W hD hdep hI
     have hi:i<18:=(Array.getElem?_eq_some_iff.1 ho).1;have h0:=hI.inv;have hB:=HB.out.trans (h0.bel.mono HB.out.size);rcases (show i=0\/i=1\/i=2\/i=3\/i=4\/i=5\/i=6\/i=7\/i=8\/i=9\/i=10\/i=11\/i=12\/i=13\/i=14\/i=15\/i=16\/i=17 by omega) with rfl|rfl|rfl|rfl|rfl|rfl|rfl|rfl|rfl|rfl|rfl|rfl|rfl|rfl|rfl|rfl|rfl|rfl
     ·obtain rfl:=Option.some.inj ho
      have s:a.tmps[0]?=some (.string ⟨nm.toArray⟩):=(hI.at 0 k_).trans rfl;exact Z8 (.string ⟨nm.toArray⟩) n21_ ⟨_,rfl,rfl,.inl b_⟩
     ·exact m131_
     ·exact m132_
     ·obtain rfl:=Option.some.inj ho
      have d1:=hdep ⟨1,.data⟩ s_ rfl;have s1:=hI.slot 1 _ 45 rfl rfl d1;have d2:=hdep ⟨2,.data⟩ s_ rfl;have s2:=hI.slot 2 _ 46 rfl rfl d2;have f1:V 1=.slice (some ⟨b,o,none⟩) M.length lc:=h0.fact 1 d1 n42_;have f2:V 2=.int .i64 k:=h0.fact 2 d2 n42_;rw [f1] at s1;rw [f2] at s2;clear f1 f2;exact Z8 (.slice (some ⟨b,o,none⟩) k lc) (by obtain ⟨y0,z0⟩:=Zk s1;obtain ⟨y1,z1⟩:=Zk s2;clear h0 hB hI hdep;go_simp) ⟨_,rfl,rfl,.inl b_⟩
     ·obtain rfl:=Option.some.inj ho
      have d3:=hdep ⟨3,.data⟩ s_ rfl;have s3:=hI.slot 3 _ 47 rfl rfl d3;have f3:V 3=.slice (some ⟨b,o,none⟩) k lc:=h0.fact 3 d3 n42_;rw [f3] at s3;have hnil:W.ownsRow wc.heap.size ZjN 4 (.slice none 0 0) 0 []:=World.ownsRow_nil _ _ _ _;obtain ⟨v',w',hrun,hown,hgrow⟩:=Xf (P:=prog) (w:=W) wc.heap.size 33 33 ZjN i0 (.agg #[.string ⟨#[]⟩,.string ⟨#[]⟩,.string ⟨#[]⟩,.int .i64 0]) 4 56 underlying33 hi0 hz0 hz1 hz2 n13_ d_ _ _ _ hnil (some ⟨b,o,none⟩) k lc (ZA ZU (M.take k)) (by rw [YC Zam,HLT.out]) ((HTK.out W h0.bel).flat Zam d_) (Yt Zae _) n23_ o_ h0.bel.size;rw [Nat.zero_add,List.nil_append] at hown;exact ZdW _ _ 33 rfl hrun rfl (Zk s3).1 ⟨_,rfl,hown,.inl (b_.grown hgrow l_ (fun k hk=>by cases hk))⟩
     ·exact m131_
     ·exact m132_
     ·obtain rfl:=Option.some.inj ho
      have d6:=hdep ⟨6,.data⟩ s_ rfl;have s6:=hI.slot 6 _ 50 rfl rfl d6;have f6:V 6=.int .i64 k:=h0.fact 6 d6 n42_;rw [f6] at s6;clear f6;exact Z8 (.int .i64 ((k:Int)+1)) (by obtain ⟨y0,z0⟩:=Zk s6;clear h0 hB hI hdep;go_simp) ⟨_,rfl,rfl,.inl b_⟩
     ·obtain rfl:=Option.some.inj ho
      have d5:=hdep ⟨5,.data⟩ s_ rfl;have s5:=hI.slot 5 _ 49 rfl rfl d5;have d7:=hdep ⟨7,.data⟩ s_ rfl;have s7:=hI.slot 7 _ 51 rfl rfl d7;have f5:V 5=.slice (some ⟨b,o,none⟩) M.length lc:=h0.fact 5 d5 n42_;have f7:V 7=.int .i64 ((k:Int)+1):=h0.fact 7 d7 n42_;rw [f5] at s5;rw [f7] at s7;clear f5 f7;by_cases hc:lc=k+1
      ·have hc':(lc:Int)=(k:Int)+1:=o_
       refine Z8 (.slice (some ⟨b,o,none⟩) (M.length-(k+1)) 0) (by obtain ⟨y0,z0⟩:=Zk s5;obtain ⟨y1,z1⟩:=Zk s7;clear h0 hB hI hdep;go_simp) ⟨_,rfl,⟨_,_,rfl,fun W h=>HDR0.out W h hc⟩,.inl b_⟩
      ·have hc':¬((lc:Int)=(k:Int)+1):=o_
       refine Z8 (.slice (some ⟨b,o+(k+1)*4,none⟩) (M.length-(k+1)) (lc-(k+1))) (by obtain ⟨y0,z0⟩:=Zk s5;obtain ⟨y1,z1⟩:=Zk s7;clear h0 hB hI hdep;go_simp) ⟨_,rfl,⟨_,_,rfl,HDR.out⟩,.inl b_⟩
     ·obtain rfl:=Option.some.inj ho
      have d4:=hdep ⟨4,.data⟩ s_ rfl;have s4:=hI.slot 4 _ 48 rfl rfl d4;have d8:=hdep ⟨8,.data⟩ s_ rfl;have s8:=hI.slot 8 _ 52 rfl rfl d8;have hown0:W.ownsRow wc.heap.size ZjN 4 (V 4) k (ZA ZU (M.take k)):=h0.fact 4 d4 n42_;obtain ⟨o8,c8,f8,hr8⟩:∃o8 c8,V 8=.slice o8 (M.length-(k+1)) c8/\∀W,Below wc.heap.size wc W->Zx ZU 4 W o8 (M.drop (k+1)):=h0.fact 8 d8 n42_;rw [f8] at s8;have hq9:=hr8 W h0.bel;obtain ⟨v',w',hrun,hown,hgrow⟩:=Xf (P:=prog) (w:=W) wc.heap.size 33 33 ZjN i0 (.agg #[.string ⟨#[]⟩,.string ⟨#[]⟩,.string ⟨#[]⟩,.int .i64 0]) 4 56 underlying33 hi0 hz0 hz1 hz2 n13_ d_ _ _ _ hown0 o8 (M.length-(k+1)) c8 (ZA ZU (M.drop (k+1))) (by rw [YC Zam,List.length_drop]) (hq9.flat Zam d_) (Yt Zae _) n23_ o_ h0.bel.size;obtain ⟨o9,c9,rfl⟩:=ownsRow_form hown;have hfr:Fr (fun k=>(V 4).ownBlock=some k) W w':=(Fr.refl _ _).grown hgrow (fun k hk _=>hk);refine ZdW _ _ 33 rfl hrun (Zk s4).1 (Zk s8).1 ⟨_,rfl,⟨o9,c9,rfl,Zx.of_own Zam (by rw [List.length_append,List.length_drop,HLT.out,ZN];exact hown)⟩,.inr ⟨h0.bel.trans (hfr.below _ h0.bel.size (fun k hk q=>by have:=(hown0.lt k q).1;omega)),fun j hj hDj hk hf=>?_⟩⟩;rcases ho4:(V 4).ownBlock with _|g
      ·exact Zex.mono j _ _ _ (hfr.below _ l_ (fun k hk q=>by rw [ho4] at q;cases q)) hf
      obtain ⟨cur,hcur⟩:=QH hown0 g ho4;refine Zex.touch hcur d_ (by rw [ho4] at hfr;exact hfr.mono (fun k _ h=>by injection h with h;exact h.symm)) j _ (fun e=>?_) hj (fun _=>by decide) (fun _=>by decide) hf;subst e;have:=hk 9 s_;rw [Jg] at this;cases this
     ·obtain rfl:=Option.some.inj ho
      have d0:=hdep ⟨0,.data⟩ s_ rfl;have s0:=hI.slot 0 _ 44 rfl rfl d0;have d9:=hdep ⟨9,.data⟩ s_ rfl;have s9:=hI.slot 9 _ 53 rfl rfl d9;have f0:V 0=.string ⟨nm.toArray⟩:=h0.fact 0 d0 n42_;obtain ⟨o9,c9,f9,hr9⟩:∃o9 c9,V 9=.slice o9 (k+(M.length-(k+1))) c9/\Zx ZU 4 W o9 (M.take k++M.drop (k+1)):=h0.fact 9 d9 n42_;rw [f0] at s0;rw [f9] at s9;refine ZkF 15 #[.string ⟨nm.toArray⟩,.slice o9 (k+(M.length-(k+1))) c9] (by obtain ⟨y0,z0⟩:=Zk s0;obtain ⟨y1,z1⟩:=Zk s9;clear h0 hB hI hdep hr9;go_simp) (HMC.out W hB o9 c9 hr9) ?_;rintro e w' ⟨hb,cs,rfl,hrd⟩;exact ⟨_,rfl,_,rfl,⟨cs,rfl,hrd⟩,.inl hb⟩
     ·obtain rfl:=Option.some.inj ho
      have d10:=hdep ⟨10,.data⟩ s_ rfl;have s10:=hI.slot 10 _ 54 rfl rfl d10;have f10:=h0.fact 10 d10 n42_;exact Z8 (V 10) (by obtain ⟨y0,z0⟩:=Zk s10;clear h0 hB hI hdep;go_simp) ⟨_,rfl,f10,.inl b_⟩
     ·obtain rfl:=Option.some.inj ho
      have d11:=hdep ⟨11,.data⟩ s_ rfl;have s11:=hI.slot 11 _ 43 rfl rfl d11;obtain ⟨cs,f11,hrd⟩:∃cs,V 11=.tuple #[.agg cs,.agg #[.int .i64 c2,.int .i64 a2]]/\Ye W cs u2:=h0.fact 11 d11 n42_;rw [f11] at s11;exact Z8 (.agg cs) (by obtain ⟨y0,z0⟩:=Zk s11;clear h0 hB hI hdep hrd;go_simp) ⟨_,rfl,⟨cs,rfl,hrd⟩,.inl b_⟩
     ·obtain rfl:=Option.some.inj ho
      have d11:=hdep ⟨11,.data⟩ s_ rfl;have s11:=hI.slot 11 _ 43 rfl rfl d11;obtain ⟨cs,f11,hrd⟩:∃cs,V 11=.tuple #[.agg cs,.agg #[.int .i64 c2,.int .i64 a2]]/\Ye W cs u2:=h0.fact 11 d11 n42_;rw [f11] at s11;exact Z8 (.agg #[.int .i64 c2,.int .i64 a2]) (by obtain ⟨y0,z0⟩:=Zk s11;clear h0 hB hI hdep hrd;go_simp) ⟨_,rfl,rfl,.inl b_⟩
     ·obtain rfl:=Option.some.inj ho
      refine Zb3 W.heap.size rfl 28 Zf rfl (ZE _) ?_;exact m133_
     ·obtain rfl:=Option.some.inj ho
      refine Zb3 W.heap.size rfl 37 #[.int .i64 0,.int .i64 0] rfl (Zez _) ?_;exact m133_
     ·obtain rfl:=Option.some.inj ho
      have d12:=hdep ⟨12,.data⟩ s_ rfl;have s12:=hI.slot 12 _ 55 rfl rfl d12;have d14:=hdep ⟨14,.data⟩ s_ rfl;have s14:=hI.slot 14 _ 11 rfl rfl d14;obtain ⟨cs,f12,hrd⟩:∃cs,V 12=.agg cs/\Ye W cs u2:=h0.fact 12 d12 n42_;obtain ⟨b2,f14,hbb,hx⟩:∃b2,V 14=.pointer (some ⟨b2,0,none⟩)/\wc.heap.size<=b2/\W.heap[b2]?=some (.cells Zf 28 (0,0)):=h0.fact 14 d14 n42_;rw [f14] at s14;rw [f12] at s12;refine Qo 28 (.tmp 11) (.tmp 55) b2 cs Zf 28 rfl (Zk s14).1 (Zk s12).1 hx (by rw [hrd.size];rfl) (by rw [hrd.size];rfl) hrd.one ?_;intro w3 h3 hf3;refine ⟨undef,rfl,⟨b2,cs,f14,hbb,h3,hrd.frT hx d_ hf3⟩,.inr ⟨h0.bel.trans (hf3.below _ h0.bel.size (fun k hk q=>by omega)),fun j hj hDj hk hf=>?_⟩⟩;refine Zex.touch hx d_ hf3 j _ (fun e=>?_) (fun e=>?_) (fun e=>?_) (fun e=>by decide) hf
      ·subst e;have:=hk 9 s_;rw [Xk _ _ d_,h0.reach 5 12 9 k_ d12] at this;cases this
      ·subst e;have:=hk 10 s_;rw [Xk _ _ d_,h0.reach 5 12 10 k_ d12] at this;cases this
      ·rcases e with rfl|rfl
       ·have:=hk 16 s_;rw [Jg] at this;cases this
       ·exact absurd rfl hj
     ·obtain rfl:=Option.some.inj ho
      have d13:=hdep ⟨13,.data⟩ s_ rfl;have s13:=hI.slot 13 _ 56 rfl rfl d13;have d15:=hdep ⟨15,.data⟩ s_ rfl;have s15:=hI.slot 15 _ 12 rfl rfl d15;have f13:V 13=.agg #[.int .i64 c2,.int .i64 a2]:=h0.fact 13 d13 n42_;obtain ⟨b2,f15,hbb,hx⟩:∃b2,V 15=.pointer (some ⟨b2,0,none⟩)/\wc.heap.size<=b2/\W.heap[b2]?=some (.cells #[.int .i64 0,.int .i64 0] 37 (0,0)):=h0.fact 15 d15 n42_;rw [f15] at s15;rw [f13] at s13;refine Qo 37 (.tmp 12) (.tmp 56) b2 #[.int .i64 c2,.int .i64 a2] #[.int .i64 0,.int .i64 0] 37 rfl (Zk s15).1 (Zk s13).1 hx rfl rfl (ZdJ c2 a2) ?_;intro w3 h3 hf3;refine ⟨undef,rfl,⟨b2,f15,h3⟩,.inr ⟨h0.bel.trans (hf3.below _ h0.bel.size (fun k hk q=>by omega)),fun j hj hDj hk hf=>?_⟩⟩;refine Zex.touch hx d_ hf3 j _ (fun e=>?_) (fun e=>?_) (fun e=>by decide) (fun e=>?_) hf
      ·subst e;have:=hk 9 s_;rw [Xk _ _ d_,h0.reach 5 13 9 k_ d13] at this;cases this
      ·subst e;have:=hk 10 s_;rw [Xk _ _ d_,h0.reach 5 13 10 k_ d13] at this;cases this
      ·rcases e with rfl|rfl
       ·have:=hk 17 s_;rw [Jg] at this;cases this
       ·exact absurd rfl hj
    ·intro D V a W hall hI
     have h0:=hI.inv;have dd:∀i,i<18->D i=true:=hall;have hk:∀i:Fin 18,i.val=16\/i.val=17->∀j∈([[],[],[],[],[9],[],[],[],[],[10],[],[],[],[],[16],[17],[],[]]:List (List Nat)).getD i.val [],D j=false:=by
      rintro i (h|h) j hj<;>(rw [h] at hj;cases hj)
     obtain ⟨bU,cs,e14,-,hx,hrd⟩:∃b cs,V 14=.pointer (some ⟨b,0,none⟩)/\wc.heap.size<=b/\W.heap[b]?=some (.cells cs 28 (0,0))/\Ye W cs u2:=h0.fact 16 (dd 16 d_) (hk 16 (.inl rfl));obtain ⟨bF,e15,hy⟩:∃b,V 15=.pointer (some ⟨b,0,none⟩)/\W.heap[b]?=some (.cells #[.int .i64 c2,.int .i64 a2] 37 (0,0)):=h0.fact 17 (dd 17 d_) (hk 17 (.inr rfl));have s11:=ZmI ((hI.slot 14 _ 11 rfl rfl (dd 14 d_)).trans (congrArg some e14));have s12:=ZmI ((hI.slot 15 _ 12 rfl rfl (dd 15 d_)).trans (congrArg some e15));have hform:=hI.form [11,12,43,44,45,46,47,48,49,50,51,52,53,54,55,56] k_;simp only [List.foldl_cons,List.foldl_nil,s11,s12,sA_,sB_,sC_] at hform;rw [hform];have HX:=h_ hx;have HR:=h_ hrd;have HBE:=h_ h0.bel;clear hform s11 s12 hI hx hy hrd h0 hk;show Exit.then _ _ .normal _ _;simp only [Exit.then];refine HK.out _ _ (Met.intro (HJ.out _ _ ?_));(repeat apply Exists.intro);exact ⟨⟨_,_,_,rfl,rfl,HX,HR,HBE⟩,rfl⟩
   case rest=>
    obtain ⟨bU,bF,cs2,rfl,rfl,HX2,HU2,HB2⟩:=hcut;have HXA:=h_ (Za HX1.out HB2.out);have HBB:=h_ (HB.out.trans (HB2.out.mono HB.out.size));have HSC2:=h_ (show (prog.info? 28).map (·.size)=some cs2.size by rw [HU2.out.size];rfl);have HSS:=h_ (Zaw cs2 cs1 u2 u1 _ HU2.out.see (HSE.out _ (HVW.out.trans (HB2.out.mono HVW.out.size))) HT2.out HT1.out false HNE.out);clear HMC HTK HDR HDR0 HB HX1 HVW HB2;go_wp2_with (first
     |(refine Qq rfl 28 (.tmp 11) bU cs2 28 _ rfl rfl HX2.out rfl rfl HSC2.out ?_)
     |(refine Qq rfl 28 (.tmp 7) w1.heap.size cs1 28 _ rfl rfl HXA.out rfl rfl HSC1.out ?_))
    refine HSS.out.mono ?_;rintro e w9 ⟨rfl,hb9⟩;have HB9:=h_ (HBB.out.trans (hb9.mono HBB.out.size));clear hb9;go_wp2_with fail;go_ret;exact ⟨rfl,HB9.out⟩
end Go.Proofs.YtmgmbeipbeknaaaGreatDoor
