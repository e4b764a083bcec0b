import Derived.Deep.Cut
import Derived.Deep.CutRange
import Derived.Test.YtgoooebfhdbbkaaGreatDoorCards
import Derived.Test.YtgoooebfhdbbkaaGreatDoorTie
import Derived.SevenTiedAt
import Derived.Test.YtgoooebfhdbbkaaGreatDoorUM3
import Derived.Test.YtgoooebfhdbbkaaGreatDoorUM11
import Derived.Test.YtgoooebfhdbbkaaGreatDoorUM33
import Derived.Test.YtgoooebfhdbbkaaGreatDoorUM39
import Derived.Test.YtgoooebfhdbbkaaGreatDoorUM49
import Derived.Test.YtgoooebfhdbbkaaGreatDoorUM50
namespace Go.Proofs.YtgoooebfhdbbkaaGreatDoor
open Go.Proofs.Tryz
open Go Go.RowKit
set_option linter.unusedVariables false
set_option linter.unusedSimpArgs false
set_option maxHeartbeats 16000000
set_option maxRecDepth 100000
theorem ZgN{w:World}{ca cb:Array Value}{u:UV}(hA:YA w ca u)(hB:YA w cb u)(j:Nat)(ht:(u j).tag=0)(hj:j<35:=by decide):∃x:Str,ca[j]?=some (.string ⟨x.toArray⟩)/\cb[j]?=some (.string ⟨x.toArray⟩):=by
 obtain ⟨va,qa,sa⟩:=hA.at j hj;obtain ⟨vb,qb,sb⟩:=hB.at j hj;obtain ⟨x,e⟩:=ZqC ht;rw [e] at sa sb;obtain rfl:va=.string ⟨x.toArray⟩:=sa;obtain rfl:vb=.string ⟨x.toArray⟩:=sb;exact ⟨x,qa,qb⟩
theorem Zbk{w:World}{ca cb:Array Value}{u:UV}(hA:YA w ca u)(hB:YA w cb u)(j:Nat)(ht:(u j).tag=1)(hj:j<35:=by decide):∃x:Int,ca[j]?=some (.int .i64 x)/\cb[j]?=some (.int .i64 x):=by
 obtain ⟨va,qa,sa⟩:=hA.at j hj;obtain ⟨vb,qb,sb⟩:=hB.at j hj;obtain ⟨x,e⟩:=Zko ht;rw [e] at sa sb;obtain rfl:va=.int .i64 x:=sa;obtain rfl:vb=.int .i64 x:=sb;exact ⟨x,qa,qb⟩
theorem Zll{w:World}{ca cb:Array Value}{u:UV}(hA:YA w ca u)(hB:YA w cb u)(j:Nat)(ht:(u j).tag=2)(hj:j<35:=by decide):∃x:Bool,ca[j]?=some (.bool x)/\cb[j]?=some (.bool x):=by
 obtain ⟨va,qa,sa⟩:=hA.at j hj;obtain ⟨vb,qb,sb⟩:=hB.at j hj;obtain ⟨x,e⟩:=Zri ht;rw [e] at sa sb;obtain rfl:va=.bool x:=sa;obtain rfl:vb=.bool x:=sb;exact ⟨x,qa,qb⟩
theorem Zdw{w:World}{ca cb:Array Value}{u:UV}(hA:YA w ca u)(hB:YA w cb u)(j:Nat)(ht:(u j).tag=6)(hj:j<35:=by decide):∃(n:Nat) (oa ob:Option Addr) (pa pb:Nat),ca[j]?=some (.slice oa n pa)/\cb[j]?=some (.slice ob n pb)/\
  ∀W,Below w.heap.size w W->Calls prog 17 #[.slice oa n pa,.slice ob n pb] W fun e w'=>e=.returned (.bool true)/\∃n,w'=W.drewN n:=by
 obtain ⟨va,qa,sa⟩:=hA.at j hj;obtain ⟨vb,qb,sb⟩:=hB.at j hj;obtain ⟨x,e⟩:=Zk4 ht;rw [e] at sa sb;obtain ⟨oa,pa,za,rfl,ra,la⟩:=sa;obtain ⟨ob,pb,zb,rfl,rb,lb⟩:=sb;refine ⟨_,oa,ob,pa,pb,qa,qb,fun W hW=>?_⟩;exact Zg7 _ _ pa pb _ _ x x W (ZmN hW ra) (ZmN hW rb) la lb true s_
theorem ZdZ{w:World}{ca cb:Array Value}{u:UV}(hA:YA w ca u)(hB:YA w cb u)(j:Nat)(ht:(u j).tag=4)(hj:j<35:=by decide):∃(n:Nat) (oa ob:Option Addr) (pa pb:Nat),ca[j]?=some (.slice oa n pa)/\cb[j]?=some (.slice ob n pb)/\
  ∀W,Below w.heap.size w W->Calls prog 18 #[.slice oa n pa,.slice ob n pb] W fun e w'=>e=.returned (.bool true)/\∃n,w'=W.drewN n:=by
 obtain ⟨va,qa,sa⟩:=hA.at j hj;obtain ⟨vb,qb,sb⟩:=hB.at j hj;obtain ⟨x,e⟩:=ZfV ht;rw [e] at sa sb;obtain ⟨oa,pa,rfl,ra,la⟩:=sa;obtain ⟨ob,pb,rfl,rb,lb⟩:=sb;refine ⟨_,oa,ob,pa,pb,qa,qb,fun W hW=>?_⟩;exact Zid _ _ pa pb x x W (ra.fr (M:=fun _=>False) (Fr.of_below hW _) (fun _ _ _ e=>e)) (rb.fr (M:=fun _=>False) (Fr.of_below hW _) (fun _ _ _ e=>e)) la lb true s_
theorem Zp2{w:World}{ca cb:Array Value}{u:UV}(hA:YA w ca u)(hB:YA w cb u)(j:Nat)(ht:(u j).tag=7)(hj:j<35:=by decide):∃(n:Nat) (oa ob:Option Addr) (pa pb:Nat),ca[j]?=some (.slice oa n pa)/\cb[j]?=some (.slice ob n pb)/\
  ∀W,Below w.heap.size w W->Calls prog 20 #[.slice oa n pa,.slice ob n pb] W fun e w'=>e=.returned (.bool true)/\∃n,w'=W.drewN n:=by
 obtain ⟨va,qa,sa⟩:=hA.at j hj;obtain ⟨vb,qb,sb⟩:=hB.at j hj;obtain ⟨x,e⟩:=Zl3 ht;rw [e] at sa sb;obtain ⟨oa,pa,rfl,ra,la⟩:=sa;obtain ⟨ob,pb,rfl,rb,lb⟩:=sb;refine ⟨_,oa,ob,pa,pb,qa,qb,fun W hW=>?_⟩;exact Zg9 _ _ pa pb x x W (ra.below hW) (rb.below hW) la lb true s_
theorem ZpZ{w:World}{ca cb:Array Value}{u:UV}(hA:YA w ca u)(hB:YA w cb u)(j:Nat)(ht:(u j).tag=5)(hj:j<35:=by decide):∃(n:Nat) (oa ob:Option Addr) (pa pb:Nat),ca[j]?=some (.slice oa n pa)/\cb[j]?=some (.slice ob n pb)/\
  ∀W,Below w.heap.size w W->Calls prog 21 #[.slice oa n pa,.slice ob n pb] W fun e w'=>e=.returned (.bool true)/\∃n,w'=W.drewN n:=by
 obtain ⟨va,qa,sa⟩:=hA.at j hj;obtain ⟨vb,qb,sb⟩:=hB.at j hj;obtain ⟨x,e⟩:=Zlp ht;rw [e] at sa sb;obtain ⟨oa,pa,rfl,ra,la⟩:=sa;obtain ⟨ob,pb,rfl,rb,lb⟩:=sb;refine ⟨_,oa,ob,pa,pb,qa,qb,fun W hW=>?_⟩;exact Ziw _ _ pa pb x x W (ra.below hW) (rb.below hW) la lb true s_
theorem Zcq{w:World}{ca cb:Array Value}{u:UV}(hA:YA w ca u)(hB:YA w cb u)(j:Nat)(ht:(u j).tag=3)(hj:j<35:=by decide):∃(n:Nat) (oa ob:Option Addr) (pa pb:Nat),ca[j]?=some (.slice oa n pa)/\cb[j]?=some (.slice ob n pb)/\
  ∀W,Below w.heap.size w W->Calls prog 19 #[.slice oa n pa,.slice ob n pb] W fun e w'=>e=.returned (.bool true)/\∃n,w'=W.drewN n:=by
 obtain ⟨va,qa,sa⟩:=hA.at j hj;obtain ⟨vb,qb,sb⟩:=hB.at j hj;obtain ⟨x,e⟩:=Zgq ht;rw [e] at sa sb;obtain ⟨oa,pa,rfl,ra,la⟩:=sa;obtain ⟨ob,pb,rfl,rb,lb⟩:=sb;refine ⟨_,oa,ob,pa,pb,qa,qb,fun W hW=>?_⟩;exact (Zks _ _ pa pb x x W (ra.below hW) (rb.below hW) la lb).mono fun e w' h=>⟨by rw [h.1];simp [ZcF],h.2⟩
theorem Ze1(ca cb:Array Value)(u:UV)(w:World)(hsa:YA w ca u)(hsb:YA w cb u)(t:Z9 u) :
  Calls prog 7 #[.agg ca,.agg cb] w fun e w'=>e=.returned (.bool true)/\Below w.heap.size w w':=by
 have hB1:Below w.heap.size w (w.alloc (.cells ca 30)):=b_.alloc l_ _;have hz:(w.alloc (.cells ca 30)).heap.size=w.heap.size+1:=s_;have hB2:Below (w.alloc (.cells ca 30)).heap.size (w.alloc (.cells ca 30)) ((w.alloc (.cells ca 30)).alloc (.cells cb 30)):=b_.alloc l_ _;have hga:=Za (heap_alloc_new w (.cells ca 30)) hB2;have hgb:=heap_alloc_new (w.alloc (.cells ca 30)) (.cells cb 30);rw [hz] at hgb;have HB:=h_ (Below.more hB1 hB2);obtain ⟨w2,hw2⟩:=e_ ((w.alloc (.cells ca 30)).alloc (.cells cb 30));rw [<-hw2] at hga hgb HB;have HGA:=h_ hga;have HGB:=h_ hgb;have HW2:=h_ hw2;have HSA:=h_ (hsa.below HB.out);have HSB:=h_ (hsb.below HB.out);have HT:=h_ t;clear hB1 hB2 hz hga hgb hsa hsb t hw2;go_enter func7,ntmps7;go_upto_region 1 with fail
 rw [<-HW2.out];clear HW2;go_cut [5] from 9 to 125 (fun s5 w'=>s5=.bool true/\w'=w2)
 case first=>
  obtain ⟨x0,qa0,qb0⟩:=ZgN HSA.out HSB.out 0 (HT.out 0);obtain ⟨x1,qa1,qb1⟩:=Zbk HSA.out HSB.out 1 (HT.out 1);obtain ⟨x2,qa2,qb2⟩:=ZgN HSA.out HSB.out 2 (HT.out 2);obtain ⟨x3,qa3,qb3⟩:=Zll HSA.out HSB.out 3 (HT.out 3);obtain ⟨x5,qa5,qb5⟩:=Zbk HSA.out HSB.out 5 (HT.out 5);obtain ⟨x6,qa6,qb6⟩:=Zbk HSA.out HSB.out 6 (HT.out 6);obtain ⟨x7,qa7,qb7⟩:=Zbk HSA.out HSB.out 7 (HT.out 7);obtain ⟨x13,qa13,qb13⟩:=Zll HSA.out HSB.out 13 (HT.out 13);obtain ⟨x14,qa14,qb14⟩:=Zbk HSA.out HSB.out 14 (HT.out 14);obtain ⟨x15,qa15,qb15⟩:=Zbk HSA.out HSB.out 15 (HT.out 15);obtain ⟨x16,qa16,qb16⟩:=Zbk HSA.out HSB.out 16 (HT.out 16);obtain ⟨x17,qa17,qb17⟩:=Zbk HSA.out HSB.out 17 (HT.out 17);obtain ⟨x22,qa22,qb22⟩:=Zbk HSA.out HSB.out 22 (HT.out 22);obtain ⟨x23,qa23,qb23⟩:=ZgN HSA.out HSB.out 23 (HT.out 23);obtain ⟨x24,qa24,qb24⟩:=ZgN HSA.out HSB.out 24 (HT.out 24);obtain ⟨x29,qa29,qb29⟩:=Zll HSA.out HSB.out 29 (HT.out 29);obtain ⟨x34,qa34,qb34⟩:=ZgN HSA.out HSB.out 34 (HT.out 34);replace qa0:=((rd HGA.out).1 0).trans qa0;replace qb0:=((rd HGB.out).1 0).trans qb0;replace qa1:=((rd HGA.out).1 1).trans qa1;replace qb1:=((rd HGB.out).1 1).trans qb1;replace qa2:=((rd HGA.out).1 2).trans qa2;replace qb2:=((rd HGB.out).1 2).trans qb2;replace qa3:=((rd HGA.out).1 3).trans qa3;replace qb3:=((rd HGB.out).1 3).trans qb3;replace qa5:=((rd HGA.out).1 5).trans qa5;replace qb5:=((rd HGB.out).1 5).trans qb5;replace qa6:=((rd HGA.out).1 6).trans qa6;replace qb6:=((rd HGB.out).1 6).trans qb6;replace qa7:=((rd HGA.out).1 7).trans qa7;replace qb7:=((rd HGB.out).1 7).trans qb7;replace qa13:=((rd HGA.out).1 13).trans qa13;replace qb13:=((rd HGB.out).1 13).trans qb13;replace qa14:=((rd HGA.out).1 14).trans qa14;replace qb14:=((rd HGB.out).1 14).trans qb14;replace qa15:=((rd HGA.out).1 15).trans qa15;replace qb15:=((rd HGB.out).1 15).trans qb15;replace qa16:=((rd HGA.out).1 16).trans qa16;replace qb16:=((rd HGB.out).1 16).trans qb16;replace qa17:=((rd HGA.out).1 17).trans qa17;replace qb17:=((rd HGB.out).1 17).trans qb17;replace qa22:=((rd HGA.out).1 22).trans qa22;replace qb22:=((rd HGB.out).1 22).trans qb22;replace qa23:=((rd HGA.out).1 23).trans qa23;replace qb23:=((rd HGB.out).1 23).trans qb23;replace qa24:=((rd HGA.out).1 24).trans qa24;replace qb24:=((rd HGB.out).1 24).trans qb24;replace qa29:=((rd HGA.out).1 29).trans qa29;replace qb29:=((rd HGB.out).1 29).trans qb29;replace qa34:=((rd HGA.out).1 34).trans qa34;replace qb34:=((rd HGB.out).1 34).trans qb34;generalize (⟨x0.toArray⟩:ByteArray)=y0 at qa0 qb0;generalize (⟨x2.toArray⟩:ByteArray)=y2 at qa2 qb2;generalize (⟨x23.toArray⟩:ByteArray)=y23 at qa23 qb23;generalize (⟨x24.toArray⟩:ByteArray)=y24 at qa24 qb24;generalize (⟨x34.toArray⟩:ByteArray)=y34 at qa34 qb34;go_wp2_with fail;go_meet
  case rel=>exact ⟨rfl,rfl⟩
 case rest=>
  obtain ⟨rfl,hcw⟩:=hcut;rw [hcw];clear hcw;go_upto_region 2 with fail
  go_cut [6] from 126 to 158 (fun s w'=>s=.bool true/\Below w2.heap.size w2 w')
  case first=>
   obtain ⟨n8,oa8,ob8,pa8,pb8,qa8,qb8,h8⟩:=Zdw HSA.out HSB.out 8 (HT.out 8);replace qa8:=((rd (Za HGA.out (Below.refl w2.heap.size w2))).1 8).trans qa8;replace qb8:=((rd (Za HGB.out (Below.refl w2.heap.size w2))).1 8).trans qb8;have H8:=h_ h8;clear h8;obtain ⟨n9,oa9,ob9,pa9,pb9,qa9,qb9,h9⟩:=Zdw HSA.out HSB.out 9 (HT.out 9);replace qa9:=((rd (Za HGA.out (Below.refl w2.heap.size w2))).1 9).trans qa9;replace qb9:=((rd (Za HGB.out (Below.refl w2.heap.size w2))).1 9).trans qb9;have H9:=h_ h9;clear h9;obtain ⟨n10,oa10,ob10,pa10,pb10,qa10,qb10,h10⟩:=Zdw HSA.out HSB.out 10 (HT.out 10);replace qa10:=((rd (Za HGA.out (Below.refl w2.heap.size w2))).1 10).trans qa10;replace qb10:=((rd (Za HGB.out (Below.refl w2.heap.size w2))).1 10).trans qb10;have H10:=h_ h10;clear h10;obtain ⟨n11,oa11,ob11,pa11,pb11,qa11,qb11,h11⟩:=Zdw HSA.out HSB.out 11 (HT.out 11);replace qa11:=((rd (Za HGA.out (Below.refl w2.heap.size w2))).1 11).trans qa11;replace qb11:=((rd (Za HGB.out (Below.refl w2.heap.size w2))).1 11).trans qb11;have H11:=h_ h11;clear h11;obtain ⟨n12,oa12,ob12,pa12,pb12,qa12,qb12,h12⟩:=Zdw HSA.out HSB.out 12 (HT.out 12);replace qa12:=((rd (Za HGA.out (Below.refl w2.heap.size w2))).1 12).trans qa12;replace qb12:=((rd (Za HGB.out (Below.refl w2.heap.size w2))).1 12).trans qb12;have H12:=h_ h12;clear h12;go_wp2_with (first
    |(go_at_call 17;with_reducible refine (H8.out _ n7_).mono ?_;rintro e w' ⟨rfl,n,rfl⟩)
    |(go_at_call 17;with_reducible refine (H9.out _ n7_).mono ?_;rintro e w' ⟨rfl,n,rfl⟩)
    |(go_at_call 17;with_reducible refine (H10.out _ n7_).mono ?_;rintro e w' ⟨rfl,n,rfl⟩)
    |(go_at_call 17;with_reducible refine (H11.out _ n7_).mono ?_;rintro e w' ⟨rfl,n,rfl⟩)
    |(go_at_call 17;with_reducible refine (H12.out _ n7_).mono ?_;rintro e w' ⟨rfl,n,rfl⟩))
   go_meet
   case rel=>exact ⟨rfl,n7_⟩
  case rest=>
   obtain ⟨rfl,hcw⟩:=hcut;have HC2:=h_ hcw;clear hcw;go_upto_region 3 with fail
   go_cut [7] from 159 to 191 (fun s w'=>s=.bool true/\Below w2.heap.size w2 w')
   case first=>
    obtain ⟨n18,oa18,ob18,pa18,pb18,qa18,qb18,h18⟩:=ZdZ HSA.out HSB.out 18 (HT.out 18);replace qa18:=((rd (Za HGA.out HC2.out)).1 18).trans qa18;replace qb18:=((rd (Za HGB.out HC2.out)).1 18).trans qb18;have H18:=h_ h18;clear h18;obtain ⟨n21,oa21,ob21,pa21,pb21,qa21,qb21,h21⟩:=ZdZ HSA.out HSB.out 21 (HT.out 21);replace qa21:=((rd (Za HGA.out HC2.out)).1 21).trans qa21;replace qb21:=((rd (Za HGB.out HC2.out)).1 21).trans qb21;have H21:=h_ h21;clear h21;obtain ⟨n25,oa25,ob25,pa25,pb25,qa25,qb25,h25⟩:=ZdZ HSA.out HSB.out 25 (HT.out 25);replace qa25:=((rd (Za HGA.out HC2.out)).1 25).trans qa25;replace qb25:=((rd (Za HGB.out HC2.out)).1 25).trans qb25;have H25:=h_ h25;clear h25;obtain ⟨n26,oa26,ob26,pa26,pb26,qa26,qb26,h26⟩:=ZdZ HSA.out HSB.out 26 (HT.out 26);replace qa26:=((rd (Za HGA.out HC2.out)).1 26).trans qa26;replace qb26:=((rd (Za HGB.out HC2.out)).1 26).trans qb26;have H26:=h_ h26;clear h26;obtain ⟨n27,oa27,ob27,pa27,pb27,qa27,qb27,h27⟩:=ZdZ HSA.out HSB.out 27 (HT.out 27);replace qa27:=((rd (Za HGA.out HC2.out)).1 27).trans qa27;replace qb27:=((rd (Za HGB.out HC2.out)).1 27).trans qb27;have H27:=h_ h27;clear h27;go_wp2_with (first
     |(go_at_call 18;with_reducible refine (H18.out _ n16_).mono ?_;rintro e w' ⟨rfl,n,rfl⟩)
     |(go_at_call 18;with_reducible refine (H21.out _ n16_).mono ?_;rintro e w' ⟨rfl,n,rfl⟩)
     |(go_at_call 18;with_reducible refine (H25.out _ n16_).mono ?_;rintro e w' ⟨rfl,n,rfl⟩)
     |(go_at_call 18;with_reducible refine (H26.out _ n16_).mono ?_;rintro e w' ⟨rfl,n,rfl⟩)
     |(go_at_call 18;with_reducible refine (H27.out _ n16_).mono ?_;rintro e w' ⟨rfl,n,rfl⟩))
    go_meet
    case rel=>exact ⟨rfl,n16_⟩
   case rest=>
    obtain ⟨rfl,hcw⟩:=hcut;have HC3:=h_ hcw;clear hcw;go_upto_region 4 with fail
    go_cut [8] from 192 to 231 (fun s w'=>s=.bool true/\Below w2.heap.size w2 w')
    case first=>
     obtain ⟨n20,oa20,ob20,pa20,pb20,qa20,qb20,h20⟩:=Zcq HSA.out HSB.out 20 (HT.out 20);replace qa20:=((rd (Za HGA.out HC3.out)).1 20).trans qa20;replace qb20:=((rd (Za HGB.out HC3.out)).1 20).trans qb20;have H20:=h_ h20;clear h20;obtain ⟨n28,oa28,ob28,pa28,pb28,qa28,qb28,h28⟩:=Zcq HSA.out HSB.out 28 (HT.out 28);replace qa28:=((rd (Za HGA.out HC3.out)).1 28).trans qa28;replace qb28:=((rd (Za HGB.out HC3.out)).1 28).trans qb28;have H28:=h_ h28;clear h28;obtain ⟨n30,oa30,ob30,pa30,pb30,qa30,qb30,h30⟩:=Zcq HSA.out HSB.out 30 (HT.out 30);replace qa30:=((rd (Za HGA.out HC3.out)).1 30).trans qa30;replace qb30:=((rd (Za HGB.out HC3.out)).1 30).trans qb30;have H30:=h_ h30;clear h30;obtain ⟨n31,oa31,ob31,pa31,pb31,qa31,qb31,h31⟩:=Zcq HSA.out HSB.out 31 (HT.out 31);replace qa31:=((rd (Za HGA.out HC3.out)).1 31).trans qa31;replace qb31:=((rd (Za HGB.out HC3.out)).1 31).trans qb31;have H31:=h_ h31;clear h31;obtain ⟨n32,oa32,ob32,pa32,pb32,qa32,qb32,h32⟩:=Zcq HSA.out HSB.out 32 (HT.out 32);replace qa32:=((rd (Za HGA.out HC3.out)).1 32).trans qa32;replace qb32:=((rd (Za HGB.out HC3.out)).1 32).trans qb32;have H32:=h_ h32;clear h32;obtain ⟨n33,oa33,ob33,pa33,pb33,qa33,qb33,h33⟩:=Zcq HSA.out HSB.out 33 (HT.out 33);replace qa33:=((rd (Za HGA.out HC3.out)).1 33).trans qa33;replace qb33:=((rd (Za HGB.out HC3.out)).1 33).trans qb33;have H33:=h_ h33;clear h33;go_wp2_with (first
      |(go_at_call 19;with_reducible refine (H20.out _ n15_).mono ?_;rintro e w' ⟨rfl,n,rfl⟩)
      |(go_at_call 19;with_reducible refine (H28.out _ n15_).mono ?_;rintro e w' ⟨rfl,n,rfl⟩)
      |(go_at_call 19;with_reducible refine (H30.out _ n15_).mono ?_;rintro e w' ⟨rfl,n,rfl⟩)
      |(go_at_call 19;with_reducible refine (H31.out _ n15_).mono ?_;rintro e w' ⟨rfl,n,rfl⟩)
      |(go_at_call 19;with_reducible refine (H32.out _ n15_).mono ?_;rintro e w' ⟨rfl,n,rfl⟩)
      |(go_at_call 19;with_reducible refine (H33.out _ n15_).mono ?_;rintro e w' ⟨rfl,n,rfl⟩))
     go_meet
     case rel=>exact ⟨rfl,n15_⟩
    case rest=>
     obtain ⟨rfl,hcw⟩:=hcut;have HC4:=h_ hcw;clear hcw;go_upto_region 5 with fail
     go_cut [4] from 232 to 255 (fun s w'=>s=.bool true/\Below w2.heap.size w2 w')
     case first=>
      obtain ⟨n19,oa19,ob19,pa19,pb19,qa19,qb19,h19⟩:=Zp2 HSA.out HSB.out 19 (HT.out 19);replace qa19:=((rd (Za HGA.out HC4.out)).1 19).trans qa19;replace qb19:=((rd (Za HGB.out HC4.out)).1 19).trans qb19;have H19:=h_ h19;clear h19;obtain ⟨n4,oa4,ob4,pa4,pb4,qa4,qb4,h4⟩:=ZpZ HSA.out HSB.out 4 (HT.out 4);replace qa4:=((rd (Za HGA.out HC4.out)).1 4).trans qa4;replace qb4:=((rd (Za HGB.out HC4.out)).1 4).trans qb4;have H4:=h_ h4;clear h4;go_wp2_with (first
       |(go_at_call 20;with_reducible refine (H19.out _ n34_).mono ?_;rintro e w' ⟨rfl,n,rfl⟩)
       |(go_at_call 21;with_reducible refine (H4.out _ n34_).mono ?_;rintro e w' ⟨rfl,n,rfl⟩))
      go_meet
      case rel=>exact ⟨rfl,n34_⟩
     case rest=>
      obtain ⟨rfl,hcw⟩:=hcut;have HC5:=h_ hcw;clear hcw;have HF:=h_ (Below.more HB.out HC5.out);go_wp2_with fail;go_ret;exact ⟨rfl,HF.out⟩
theorem m240_{p:Prop}(h:p:=by exact QA 30 (.tmp 7) w2.heap.size cs2 30 _ rfl (Xf hF.2.2.2.1).1 (Za HX2.out hS) rfl rfl HSC2.out ⟨rfl,hS⟩):p:=h
theorem m241_{p:Prop}(h:p:=by exact QA 30 (.tmp 5) w1.heap.size cs1 30 _ rfl (Xf hF.2.1).1 (Za HX1.out hS) rfl rfl HSC1.out ⟨rfl,hS⟩):p:=h
theorem m242_{p:Prop}(h:p:=by exact XE (.string ⟨nm.toArray⟩) (by obtain ⟨y0,z0⟩:=Xf hF.1;clear hs hS hF;go_simp) ⟨rfl,hS⟩):p:=h
theorem Z6{p:Nat->Oper->Prop}{i:Nat}{o:Oper}{rest:List Oper}(h:p i o)(hr:ZdT p (i+1) rest):ZdT p i (o::rest):=⟨h,hr⟩
theorem ZbY{ops:Array Oper}{k:Nat}(h:(ops.all fun o=>!(o.dst==some k))=true):∀(i:Nat) (o:Oper),ops[i]?=some o->o.dst≠some k:=fun i o ho e=>by
 rw [Array.all_eq_true] at h;obtain ⟨hi,he⟩:=Array.getElem?_eq_some_iff.1 ho
 have:=h i hi
 rw [he,e] at this;simp at this
theorem ZeW(nm:Str)(kind:Int):∀(l:List Ln) (u r:UV),Y8 nm kind u l=.ok r->r 0=u 0
 |[],u,r,h=>by injection h with h;rw [h]
 |x::t,u,r,h=>by
  rw [Y8] at h;cases hx:XO nm kind u x with
  |error e=>rw [hx] at h;cases h
  |ok q=>
   rw [hx] at h;obtain ⟨k,hk,v,hq,-⟩:=ZbE hx;rw [ZeW nm kind t q r h,hq,UV.upd_ne _ _ (fun e=>(Zew k hk).2.1 e.symm)]
theorem Zk2(nm:Str)(l:List Ln):∃s,(Xk nm l).1 0=.s s/\s.length<=60:=by
 unfold Xk;split
 ·exact ⟨[],rfl,s_⟩
 ·rename_i hn
  split
  ·exact ⟨[],rfl,s_⟩
  ·rename_i u hu
   split
   ·exact ⟨[],rfl,s_⟩
   ·exact ⟨nm,by show u 0=.s nm;rw [ZeW nm _ l _ _ hu];exact Zen nm (fun h=>hn (.inl h)),(QT (fun h=>hn (.inl h))).2⟩
theorem ZgM{w:World}{cs:Array Value}{u:UV}(h:YO w cs u)(j:Nat)(hj:j<35):∃v,cs[j]?=some v/\Yg w (fun _=>True) (u j) v:=by
 have e:cs[j]?=some (cs[j]' n117_):=Array.getElem?_eq_getElem n117_;exact ⟨_,e,h.fld j _ e⟩
theorem Zfj(nm:Str)(la:List Ln)(oa:Option Addr)(ca:Nat)(w:World)(hM:ZA w)(ha:ZB YV 4 w oa la)(za:la.length<=1048576)
  (xa:∀x∈la,x.val.length<=1048576) (hnm:nm.length<=1048576) :
  Calls prog 3 #[.string ⟨nm.toArray⟩,.slice oa la.length ca] w fun e w'=>e=.returned (.bool true)/\Below w.heap.size w w':=by
 have HSH:=h_ (Zlz w hM);have HM:=h_ (fun W (h:Below w.heap.size w W)=>hM.below h);have HRA:=h_ (fun W (h:Below w.heap.size w W)=>ha.below h);obtain ⟨u1,c1,a1,h1⟩:∃u c a,Xk nm la=(u,(c,a)):=⟨_,_,_,rfl⟩;have HMA:=h_ (fun W (h:Below w.heap.size w W)=>Zeg nm la oa ca W (HM.out W h) (HRA.out W h) o_ xa o_);have HMB:=h_ (fun W (h:Below w.heap.size w W)=>ZnF nm la oa ca W (HM.out W h) (HRA.out W h) o_ (fun x hx=>⟨by have:=xa x hx;omega,fun v hv=>ZjK hv (xa x hx)⟩) o_);rw [h1] at HMA HMB;have HT:=h_ (show Z9 u1 by have:=Zi2 nm la;rw [h1] at this;exact this);obtain ⟨s1,hs1,hsl⟩:=Zk2 nm la;rw [h1] at hs1;simp only at hs1;have HS1:=h_ hs1;clear hM ha xa h1 hs1;go_enter func3,ntmps3;go_wp2_with fail;refine HSH.out.mono ?_;rintro e w0 ⟨rfl,hb0⟩;have HB:=h_ hb0;clear hb0 HSH;go_wp2_with fail;refine (HMA.out w0 HB.out).mono ?_;rintro e w1 ⟨hb1,cs1,rfl,hrd1⟩;replace HB:=h_ (HB.out.trans (hb1.mono HB.out.size));have LW1:=h_ HB.out.size;have HON1:=h_ hrd1.one;have HSC1:=h_ (show (prog.info? 30).map (·.size)=some cs1.size by rw [hrd1.size];rfl);have HSZ1:=h_ (show Zf.size=cs1.size by rw [hrd1.size];rfl);have HU1:=h_ hrd1;have HV1:=h_ (Below.refl w1.heap.size w1);clear hb1 hrd1;go_upto_region 4 with (first
  |(refine Yx rfl _ Zf rfl (Zz _) ?_;intro wa1 ha1 hba1)
  |(refine ZL rfl 30 (.tmp 5) (.tmp 15) w1.heap.size cs1 Zf 30 rfl rfl rfl (Za ha1 (b_.alloc l_ _)) HSZ1.out HSC1.out HON1.out ?_;intro wb1 hc1 hf1;have tv1:=Zd0 ha1 hba1 hc1 hf1;refine ZL rfl 33 (.tmp 6) (.tmp 16) wa1.heap.size #[.int .i64 c1,.int .i64 a1] #[.int .i64 0,.int .i64 0] 33 rfl rfl rfl tv1.1 rfl rfl (Zcp c1 a1) ?_;intro v1 hd1 hg1;have tw1:=Zcz hc1 tv1 hg1))
 replace HB:=h_ (HB.out.trans (tw1.2.1.mono HB.out.size));replace HV1:=h_ (HV1.out.trans (tw1.2.1.mono HV1.out.size));have HX1:=h_ tw1.1;have HF1:=h_ hd1;have LO1:=h_ tw1.2.2;clear ha1 hba1 hc1 hf1 tv1 hg1 tw1 hd1;clear HMA;go_wp2_with fail;refine (HMB.out v1 HB.out).mono ?_;rintro e w2 ⟨hb2,cs2,rfl,hrd2⟩;replace HB:=h_ (HB.out.trans (hb2.mono HB.out.size));replace HV1:=h_ (HV1.out.trans (hb2.mono HV1.out.size));replace HX1:=h_ (Za HX1.out hb2);replace HF1:=h_ (Za HF1.out hb2);have L2HX1:=h_ (Zg HX1.out);have L2HF1:=h_ (Zg HF1.out);have LW2:=h_ HB.out.size;have HON2:=h_ hrd2.one;have HSC2:=h_ (show (prog.info? 30).map (·.size)=some cs2.size by rw [hrd2.size];rfl);have HSZ2:=h_ (show Zf.size=cs2.size by rw [hrd2.size];rfl);have HU2:=h_ hrd2;have HV2:=h_ (Below.refl w2.heap.size w2);clear hb2 hrd2;go_upto_region 5 with (first
  |(refine Yx rfl _ Zf rfl (Zz _) ?_;intro wa2 ha2 hba2)
  |(refine ZL rfl 30 (.tmp 7) (.tmp 21) w2.heap.size cs2 Zf 30 rfl rfl rfl (Za ha2 (b_.alloc l_ _)) HSZ2.out HSC2.out HON2.out ?_;intro wb2 hc2 hf2;have tv2:=Zd0 ha2 hba2 hc2 hf2;refine ZL rfl 33 (.tmp 8) (.tmp 22) wa2.heap.size #[.int .i64 c1,.int .i64 a1] #[.int .i64 0,.int .i64 0] 33 rfl rfl rfl tv2.1 rfl rfl (Zcp c1 a1) ?_;intro v2 hd2 hg2;have tw2:=Zcz hc2 tv2 hg2))
 replace HB:=h_ (HB.out.trans (tw2.2.1.mono HB.out.size));replace HV1:=h_ (HV1.out.trans (tw2.2.1.mono HV1.out.size));replace HX1:=h_ (Za HX1.out tw2.2.1);replace HF1:=h_ (Za HF1.out tw2.2.1);replace HV2:=h_ (HV2.out.trans (tw2.2.1.mono HV2.out.size));have HX2:=h_ tw2.1;have HF2:=h_ hd2;have LO2:=h_ tw2.2.2;clear ha2 hba2 hc2 hf2 tv2 hg2 tw2 hd2;clear HMB;have HRD1:=h_ (HU1.out.below HV1.out);have HRD2:=h_ (HU2.out.below HV2.out);obtain ⟨k1,hk1⟩:=Zko (HT.out 1);obtain ⟨n24,hn24⟩:=ZqC (HT.out 24);obtain ⟨t,ht⟩:∃t,Zgm k1 s1 n24=t:=⟨_,rfl⟩;have cell:∀cs (h:YO v2 cs u1),cs[0]?=some (.string ⟨s1.toArray⟩)/\cs[1]?=some (.int .i64 k1)/\cs[24]?=some (.string ⟨n24.toArray⟩):=fun cs h=>by
  obtain ⟨x0,e0,f0⟩:=ZgM h 0 d_;obtain ⟨x1,e1,f1⟩:=ZgM h 1 d_;obtain ⟨x2,e2,f2⟩:=ZgM h 24 d_;rw [HS1.out] at f0;rw [hk1] at f1;rw [hn24] at f2;exact ⟨e0.trans (congrArg some f0),e1.trans (congrArg some f1),e2.trans (congrArg some f2)⟩
 obtain ⟨p0,p1,p24⟩:=cell cs1 HRD1.out;obtain ⟨r0,r1,r24⟩:=cell cs2 HRD2.out;have HWA:=h_ (fun V (h:Below v2.heap.size v2 V)=>ZnV cs1 s1 n24 k1 V (HM.out V (HB.out.trans (h.mono HB.out.size))) p0 p1 p24 o_ t ht);have HWB:=h_ (fun V=>ZkP cs2 s1 n24 k1 V r0 r1 r24 o_ t ht);have HNA:=h_ (fun V (h:Below v2.heap.size v2 V)=>ZiG nm V o_ (HM.out V (HB.out.trans (h.mono HB.out.size))));have HNB:=h_ (fun V=>Zkj nm V);have HSA:=h_ (fun V (h:Below v2.heap.size v2 V)=>Ze1 cs1 cs2 u1 V (HRD1.out.below h).see (HRD2.out.below h).see HT.out);have HSB:=h_ (fun V=>Ze1 (Yh (Yw nm)) (Yh (Yw nm)) (Yw nm) V (Zdq V (Yw nm) (JO nm)).see (Zdq V (Yw nm) (JO nm)).see (Z9.new nm));clear cell p0 p1 p24 r0 r1 r24 hk1 hn24 ht;let vals:List Value:=[.agg cs1,.agg cs2,.bool true,.bool true,.agg #[.int .i64 c1,.int .i64 a1],.agg #[.int .i64 c1,.int .i64 a1],.bool true,.bool true,.bool true,.string ⟨nm.toArray⟩,.agg (Yh (Yw nm)),.string ⟨nm.toArray⟩,.agg (Yh (Yw nm)),.bool true,.bool true,.bool true,.agg cs1,.string ⟨t.toArray⟩,.agg cs2,.string ⟨t.toArray⟩,.bool true,.bool true,.bool true];refine Zgb (N:=45) (fun a=>a.tmps[0]?=some (.string ⟨nm.toArray⟩)/\a.tmps[5]?=some (.pointer (some ⟨w1.heap.size,0,none⟩))/\a.tmps[6]?=some (.pointer (some ⟨wa1.heap.size,0,none⟩))/\a.tmps[7]?=some (.pointer (some ⟨w2.heap.size,0,none⟩))/\a.tmps[8]?=some (.pointer (some ⟨wa2.heap.size,0,none⟩))) (fun W=>Below v2.heap.size v2 W) (fun i=>vals.getD i undef) [23,24,25,26,27,28,29,30,31,32,33,34,35,36,37,38,39,40,41,42,43,44,4] k_ k_ rfl (Zb ⟨1,rfl⟩) (fun a' h=>⟨(h 0 (ZbY k_)).trans rfl,(h 5 (ZbY k_)).trans rfl,(h 6 (ZbY k_)).trans rfl,(h 7 (ZbY k_)).trans rfl,(h 8 (ZbY k_)).trans rfl⟩) ?_ ?_
 ·refine Zqv ?_
  simp only [List.append_eq,List.cons_append,List.nil_append];refine Z6 (Xb rfl fun a W hS hF hs=>?_) ?_
  ·exact m241_
  refine Z6 (Xb rfl fun a W hS hF hs=>?_) ?_
  ·exact m240_
  refine Z6 (Xb rfl fun a W hS hF hs=>?_) ?_
  ·have s23:a.tmps[23]?=some (.agg cs1):=hs 0 _ 23 ⟨⟨0,.data⟩,s_,rfl,rfl⟩ rfl rfl;have s24:a.tmps[24]?=some (.agg cs2):=hs 1 _ 24 ⟨⟨1,.data⟩,s_,rfl,rfl⟩ rfl rfl;exact Zcs (by obtain ⟨y0,z0⟩:=Xf s23;obtain ⟨y1,z1⟩:=Xf s24;clear hs hS hF;go_simp) (HSA.out W hS) n28_
  refine Z6 (Xb rfl fun a W hS hF hs=>?_) ?_
  ·have s25:a.tmps[25]?=some (.bool true):=hs 2 _ 25 ⟨⟨2,.data⟩,s_,rfl,rfl⟩ rfl rfl;exact XE (.bool true) (by obtain ⟨y0,z0⟩:=Xf s25;clear hs hS hF;go_simp) ⟨rfl,hS⟩
  refine Z6 (Yz (acc:=true) rfl (show _=some _ from rfl) (show _=some 26 from rfl) ⟨⟨3,.guard⟩,s_,rfl,rfl⟩ rfl (fun h=>by cases h) fun _ a W hS hF hs=>?_) ?_
  ·have q:=ZP (Za HF1.out hS);obtain ⟨q0,q1,-,-,-⟩:=q;exact XE (.agg #[.int .i64 c1,.int .i64 a1]) (by obtain ⟨y0,z0⟩:=Xf hF.2.2.1;clear hs hS hF;go_simp) ⟨rfl,hS⟩
  refine Z6 (Yz (acc:=true) rfl (show _=some _ from rfl) (show _=some 26 from rfl) ⟨⟨3,.guard⟩,s_,rfl,rfl⟩ rfl (fun h=>by cases h) fun _ a W hS hF hs=>?_) ?_
  ·have q:=ZP (Za HF2.out hS);obtain ⟨q0,q1,-,-,-⟩:=q;exact XE (.agg #[.int .i64 c1,.int .i64 a1]) (by obtain ⟨y0,z0⟩:=Xf hF.2.2.2.2;clear hs hS hF;go_simp) ⟨rfl,hS⟩
  refine Z6 (Yz (acc:=true) rfl (show _=some _ from rfl) (show _=some 26 from rfl) ⟨⟨3,.guard⟩,s_,rfl,rfl⟩ rfl (fun h=>by cases h) fun _ a W hS hF hs=>?_) ?_
  ·have s27:a.tmps[27]?=some (.agg #[.int .i64 c1,.int .i64 a1]):=hs 4 _ 27 ⟨⟨4,.data⟩,s_,rfl,rfl⟩ rfl rfl;have s28:a.tmps[28]?=some (.agg #[.int .i64 c1,.int .i64 a1]):=hs 5 _ 28 ⟨⟨5,.data⟩,s_,rfl,rfl⟩ rfl rfl;exact XE (.bool true) (by obtain ⟨y0,z0⟩:=Xf s27;obtain ⟨y1,z1⟩:=Xf s28;clear hs hS hF;go_simp) ⟨rfl,hS⟩
  refine Z6 (Xb rfl fun a W hS hF hs=>?_) ?_
  ·have s26:a.tmps[26]?=some (.bool true):=hs 3 _ 26 ⟨⟨3,.data⟩,s_,rfl,rfl⟩ rfl rfl;have s29:a.tmps[29]?=some (.bool true):=hs 6 _ 29 ⟨⟨6,.data⟩,s_,rfl,rfl⟩ rfl rfl;exact XE (.bool true) (by obtain ⟨y0,z0⟩:=Xf s26;obtain ⟨y1,z1⟩:=Xf s29;clear hs hS hF;go_simp) ⟨rfl,hS⟩
  refine Z6 (Xb rfl fun a W hS hF hs=>?_) ?_
  ·have s30:a.tmps[30]?=some (.bool true):=hs 7 _ 30 ⟨⟨7,.data⟩,s_,rfl,rfl⟩ rfl rfl;exact XE (.bool true) (by obtain ⟨y0,z0⟩:=Xf s30;clear hs hS hF;go_simp) ⟨rfl,hS⟩
  refine Z6 (Yz (acc:=true) rfl (show _=some _ from rfl) (show _=some 31 from rfl) ⟨⟨8,.guard⟩,s_,rfl,rfl⟩ rfl (fun h=>by cases h) fun _ a W hS hF hs=>?_) ?_
  ·exact m242_
  refine Z6 (Yz (acc:=true) rfl (show _=some _ from rfl) (show _=some 31 from rfl) ⟨⟨8,.guard⟩,s_,rfl,rfl⟩ rfl (fun h=>by cases h) fun _ a W hS hF hs=>?_) ?_
  ·have s32:a.tmps[32]?=some (.string ⟨nm.toArray⟩):=hs 9 _ 32 ⟨⟨9,.data⟩,s_,rfl,rfl⟩ rfl rfl;exact Zcs (by obtain ⟨y0,z0⟩:=Xf s32;clear hs hS hF;go_simp) (HNA.out W hS) n28_
  refine Z6 (Yz (acc:=true) rfl (show _=some _ from rfl) (show _=some 31 from rfl) ⟨⟨8,.guard⟩,s_,rfl,rfl⟩ rfl (fun h=>by cases h) fun _ a W hS hF hs=>?_) ?_
  ·exact m242_
  refine Z6 (Yz (acc:=true) rfl (show _=some _ from rfl) (show _=some 31 from rfl) ⟨⟨8,.guard⟩,s_,rfl,rfl⟩ rfl (fun h=>by cases h) fun _ a W hS hF hs=>?_) ?_
  ·have s34:a.tmps[34]?=some (.string ⟨nm.toArray⟩):=hs 11 _ 34 ⟨⟨11,.data⟩,s_,rfl,rfl⟩ rfl rfl;exact Zcs (by obtain ⟨y0,z0⟩:=Xf s34;clear hs hS hF;go_simp) (HNB.out W) n28_
  refine Z6 (Yz (acc:=true) rfl (show _=some _ from rfl) (show _=some 31 from rfl) ⟨⟨8,.guard⟩,s_,rfl,rfl⟩ rfl (fun h=>by cases h) fun _ a W hS hF hs=>?_) ?_
  ·have s33:a.tmps[33]?=some (.agg (Yh (Yw nm))):=hs 10 _ 33 ⟨⟨10,.data⟩,s_,rfl,rfl⟩ rfl rfl;have s35:a.tmps[35]?=some (.agg (Yh (Yw nm))):=hs 12 _ 35 ⟨⟨12,.data⟩,s_,rfl,rfl⟩ rfl rfl;exact Zcs (by obtain ⟨y0,z0⟩:=Xf s33;obtain ⟨y1,z1⟩:=Xf s35;clear hs hS hF;go_simp) (HSB.out W) n28_
  refine Z6 (Xb rfl fun a W hS hF hs=>?_) ?_
  ·have s31:a.tmps[31]?=some (.bool true):=hs 8 _ 31 ⟨⟨8,.data⟩,s_,rfl,rfl⟩ rfl rfl;have s36:a.tmps[36]?=some (.bool true):=hs 13 _ 36 ⟨⟨13,.data⟩,s_,rfl,rfl⟩ rfl rfl;exact XE (.bool true) (by obtain ⟨y0,z0⟩:=Xf s31;obtain ⟨y1,z1⟩:=Xf s36;clear hs hS hF;go_simp) ⟨rfl,hS⟩
  refine Z6 (Xb rfl fun a W hS hF hs=>?_) ?_
  ·have s37:a.tmps[37]?=some (.bool true):=hs 14 _ 37 ⟨⟨14,.data⟩,s_,rfl,rfl⟩ rfl rfl;exact XE (.bool true) (by obtain ⟨y0,z0⟩:=Xf s37;clear hs hS hF;go_simp) ⟨rfl,hS⟩
  refine Z6 (Yz (acc:=true) rfl (show _=some _ from rfl) (show _=some 38 from rfl) ⟨⟨15,.guard⟩,s_,rfl,rfl⟩ rfl (fun h=>by cases h) fun _ a W hS hF hs=>?_) ?_
  ·exact m241_
  refine Z6 (Yz (acc:=true) rfl (show _=some _ from rfl) (show _=some 38 from rfl) ⟨⟨15,.guard⟩,s_,rfl,rfl⟩ rfl (fun h=>by cases h) fun _ a W hS hF hs=>?_) ?_
  ·have s39:a.tmps[39]?=some (.agg cs1):=hs 16 _ 39 ⟨⟨16,.data⟩,s_,rfl,rfl⟩ rfl rfl;exact Zcs (by obtain ⟨y0,z0⟩:=Xf s39;clear hs hS hF;go_simp) (HWA.out W hS) n28_
  refine Z6 (Yz (acc:=true) rfl (show _=some _ from rfl) (show _=some 38 from rfl) ⟨⟨15,.guard⟩,s_,rfl,rfl⟩ rfl (fun h=>by cases h) fun _ a W hS hF hs=>?_) ?_
  ·exact m240_
  refine Z6 (Yz (acc:=true) rfl (show _=some _ from rfl) (show _=some 38 from rfl) ⟨⟨15,.guard⟩,s_,rfl,rfl⟩ rfl (fun h=>by cases h) fun _ a W hS hF hs=>?_) ?_
  ·have s41:a.tmps[41]?=some (.agg cs2):=hs 18 _ 41 ⟨⟨18,.data⟩,s_,rfl,rfl⟩ rfl rfl;exact Zcs (by obtain ⟨y0,z0⟩:=Xf s41;clear hs hS hF;go_simp) (HWB.out W) n28_
  refine Z6 (Yz (acc:=true) rfl (show _=some _ from rfl) (show _=some 38 from rfl) ⟨⟨15,.guard⟩,s_,rfl,rfl⟩ rfl (fun h=>by cases h) fun _ a W hS hF hs=>?_) ?_
  ·have s40:a.tmps[40]?=some (.string ⟨t.toArray⟩):=hs 17 _ 40 ⟨⟨17,.data⟩,s_,rfl,rfl⟩ rfl rfl;have s42:a.tmps[42]?=some (.string ⟨t.toArray⟩):=hs 19 _ 42 ⟨⟨19,.data⟩,s_,rfl,rfl⟩ rfl rfl;exact XE (.bool true) (by obtain ⟨y0,z0⟩:=Xf s40;obtain ⟨y1,z1⟩:=Xf s42;clear hs hS hF;go_simp) ⟨rfl,hS⟩
  refine Z6 (Xb rfl fun a W hS hF hs=>?_) ?_
  ·have s38:a.tmps[38]?=some (.bool true):=hs 15 _ 38 ⟨⟨15,.data⟩,s_,rfl,rfl⟩ rfl rfl;have s43:a.tmps[43]?=some (.bool true):=hs 20 _ 43 ⟨⟨20,.data⟩,s_,rfl,rfl⟩ rfl rfl;exact XE (.bool true) (by obtain ⟨y0,z0⟩:=Xf s38;obtain ⟨y1,z1⟩:=Xf s43;clear hs hS hF;go_simp) ⟨rfl,hS⟩
  refine Z6 (Xb rfl fun a W hS hF hs=>?_) ?_
  ·have s44:a.tmps[44]?=some (.bool true):=hs 21 _ 44 ⟨⟨21,.data⟩,s_,rfl,rfl⟩ rfl rfl;exact XE (.bool true) (by obtain ⟨y0,z0⟩:=Xf s44;clear hs hS hF;go_simp) ⟨rfl,hS⟩
  exact trivial
 ·intro a W hS hsz hdf _ hall
  have s4:a.tmps[4]?=some (.bool true):=hall 22 _ 4 rfl rfl;have hge:a.tmps.getD 4 undef=.bool true:=(Xf s4).2;have HFF:=h_ (HB.out.trans (hS.mono HB.out.size));simp only [Exit.then];go_wp2_with fail;refine bodyPost_ret (results_tmp rfl _ _ _) hdf ⟨by rw [hge],HFF.out⟩
end Go.Proofs.YtgoooebfhdbbkaaGreatDoor
namespace Go.Proofs.YtgoooebfhdbbkaaGreatDoor.lawUnitMake
open Go.Proofs.Tryz
open Go Go.RowKit Go.ChangeShapes Go.WideShapes Go.ChangeAt
open Go.ChangeMaps (open_string shut_string)
set_option linter.unusedVariables false
set_option linter.unusedSimpArgs false
set_option maxHeartbeats 16000000
set_option maxRecDepth 100000
theorem contract(H:Type)(enc:TypeId×Value->H)(W:World)(base:Nat)(args:Array Value)(ds gs:List (DataW H))(before:List MemPlace)(hM:ZA W)
  (hval:∀(j:Nat) t v,Tryz.f3.params[j]?=some t->args[j]?=some v->Value.okWide prog W .any base t v)
  (hW:DataW.Whole enc prog Tryz.f3.params.toList Rows.unitMakeSpec.vars false W args.toList ds gs before) (hk:Rows.uptoSmall H (ds++gs)=true) :
  Calls prog 3 args W fun e W'=>∃v,e=.returned v/\Rows.unitMakeSpec.post enc prog Tryz.f3 false true false false W args v W':=by
 have hW':=hW;obtain ⟨p,q,hA0,hV,rfl,hfz,hnd⟩:=hW;have hA:DataW.TrodAll enc prog W 0 (fun _=>true) true Tryz.f3.params.toList args.toList ds p:=hA0;rw [Tryz.params3] at hA hval;obtain ⟨v0,vs0,d0,ds0,p0,q0,hargs,rfl,rfl,h0,r0⟩:=trodAll_cons hA;obtain ⟨v1,vs1,d1,ds1,p1,q1,rfl,rfl,rfl,h1,r1⟩:=trodAll_cons r0;obtain ⟨rfl,rfl,rfl⟩:=trodAll_nil r1;obtain rfl:args=#[v0,v1]:=by cases args;simp_all
 obtain ⟨rfl,rfl⟩:=trodVars_none hV;have hk':Rows.uptoBulkAll ([d0,d1]:List (DataW H))<=1048576:=by
  have:=of_decide_eq_true hk
  simpa using this
 simp only [Rows.uptoBulkAll] at hk';obtain ⟨a0,rfl,rfl,rfl,m0⟩:=open_string underlying9 (hval 0 9 v0 rfl rfl) h0;have z0:a0.size<=1048576:=by
  have e:a0.data.toList.length=a0.size:=by rw [Array.length_toList];rfl
  simp only [Rows.uptoBulk] at hk';omega
 obtain ⟨oa1,cap1,l1,rfl,row1,y1,z1⟩:=Zn3 (hval 1 22 v1 rfl rfl) h1;have z1':ZaG l1<=1048576:=o_;have walk:Calls prog 3 #[.string a0,.slice oa1 l1.length cap1] W fun e W'=>e=.returned (.bool true)/\Below W.heap.size W W':=Zfj a0.data.toList l1 oa1 cap1 W hM row1.rd (ZpL z1') (ZoV z1') (Zqj z0)
 refine walk.mono fun e W' ⟨he,hg⟩=>?_
 subst he;exact Zpp hW' hg rfl rfl (by simp [Tryz.params3];decide +kernel) rfl rfl rfl
theorem Zpo(os:Os):laidMet prog Rows.unitMakeUptoRow.laid ((World.laidAll prog os Rows.unitMakeUptoRow.laid).forCall (fun _ _=>0) ⟨#[],#[.string .empty,.slice none 0 0],[]⟩).memory:=
 laidMet_laidAll _ k_ k_
theorem reads(os:Os){H:Type}(enc:TypeId×Value->H):DataW.whole enc prog ((World.laidAll prog os Rows.unitMakeUptoRow.laid).forCall (fun _ _=>0) ⟨#[],#[.string .empty,.slice none 0 0],[]⟩).memory Tryz.f3.params.toList Rows.unitMakeSpec.vars false (#[.string .empty,.slice none 0 0]:Array Value).toList 8=some ([.lit (.string []),.nil],[],[]):=k_
theorem lifted(os:Os)(started:os.Started)(H:Type)(enc:TypeId×Value->H)(F:Stop.Interp) :
  ReturnsInHanded {} Tryz.checked os 3 .any ((Rows.OpenSpec.upto Rows.unitMakeSpec).preRow enc prog Tryz.f3 Rows.unitMakeUptoRow.domain false Rows.unitMakeUptoRow.laid) (((Rows.OpenSpec.upto Rows.unitMakeSpec).at F).post enc prog Tryz.f3 false true false false):=by
 refine returnsInHanded_of_row (C:=Tryz.checked) (s:=Rows.OpenSpec.upto Rows.unitMakeSpec) own started k_ func3
  (Zin (enc:=enc) (C:=Tryz.checked) (World.laidAll prog os Rows.unitMakeUptoRow.laid) #[.string .empty,.slice none 0 0] (World.laidAll_os _ _ _) (World.shaped_of_ZipB k_ k_) k_
   (OpenSpec.preRow_of_cond 8 (reads os enc) k_ (fun k hk=>by cases hk;kernel_rfl) k_ (by rw [MakeChecks.laidMetH_plain _ _ _ k_];exact Zpo os))) ?_
 intro W base args ds gs before hval hW _ hcond _ _ hsh _;exact contract H enc W base args ds gs before (ZoW hsh) hval hW (hcond _ rfl)
theorem said:Rows.UnitMakeUptoSaid:=
 OpenClaim.holds_of_cond 3 Tryz.f3 rfl rfl rfl rfl rfl rfl rfl ⟨rfl,rfl,rfl,rfl,rfl⟩ rfl rfl rfl rfl rfl k_ func3 (by simp only [joinedFacts,Bool.and_eq_true];(repeat' apply And.intro);all_goals (as_aux_lemma=>kernel_rfl))
  (of_decide_eq_true k_) (by unfold Func.isWrapper;first|(rw [if_pos n12_];kernel_rfl)|(rw [if_neg n12_];exact ⟨rfl,rfl⟩))
  (fun os started H enc _ F=>by rw [OpenClaim.pre_eq_preRow];exact lifted os started H enc F)
end Go.Proofs.YtgoooebfhdbbkaaGreatDoor.lawUnitMake
