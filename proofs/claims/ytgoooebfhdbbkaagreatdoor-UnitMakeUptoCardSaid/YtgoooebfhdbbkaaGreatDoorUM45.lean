import Derived.Laws.CopyRow
import Derived.Lib.SlBuf
import Derived.Test.YtgoooebfhdbbkaaGreatDoorUM20
import Derived.Test.YtgoooebfhdbbkaaGreatDoorUM41
import Derived.Test.YtgoooebfhdbbkaaGreatDoorUM44
namespace Go.Proofs.YtgoooebfhdbbkaaGreatDoor
open Go.Proofs.Tryz
open Go Go.RowKit
set_option linter.unusedVariables false
set_option linter.unusedSimpArgs false
set_option maxHeartbeats 16000000
set_option maxRecDepth 100000
theorem m190_{p:Prop}(h:p:=by
  go_wp2_with fail;go_meet
  case rel=>exact ⟨rfl,rfl⟩):p:=h
theorem m191_{p:Prop}(h:p:=by simp [results,results167,go_sem,d0,d1,d2,d3,d4,d5,d6,Zo]):p:=h
theorem m192_{p:Prop}(h:p:=by
  by_cases hs1:st<3
  ·have hs1z:(st:Int)<3:=o_
   rw [decide_eq_true hs1] at hc3;obtain rfl:true=c3:=by simpa using hc3
   exact m190_
  ·have hs1z:¬(st:Int)<3:=o_
   rw [decide_eq_false hs1] at hc3;obtain rfl:false=c3:=by simpa using hc3
   exact m190_):p:=h
theorem Zj.frN{M:Nat->Prop}{w V:World}{oa:Option Addr}{l:List Str}(h:Zj w oa l)(hf:Fr M w V)(hne:∀b o,oa=some ⟨b,o,none⟩->¬M b/\b<w.heap.size):Zj V oa l:=by
 intro i hi;obtain ⟨b,o,e,hc⟩:=h i hi;refine ⟨b,o,e,?_⟩;unfold World.cell? at hc⊢;rw [hf.block b (hne b o e).2 (hne b o e).1];exact hc
theorem Zav{w:World}{B B':Nat}{e:TypeId}{size:Nat}{v:Value}{n:Nat}{xs:List Value}(h:w.ownsRow B e size v n xs)(hb:B'<=B):w.ownsRow B' e size v n xs:=by
 refine ⟨h.1,?_⟩;rcases h.2 with hn|⟨g,cp,cur,hv,hbb,rest⟩
 ·exact .inl hn
 ·exact .inr ⟨g,cp,cur,hv,o_,rest⟩
theorem Zf3(b o j:Nat):(⟨b,o,none⟩:Addr).add j=⟨b,o+j,none⟩:=n95_
theorem ZhQ(W:World)(F:Nat)(cur:Array Value):Fr (fun k=>k=F) W (W.setRow F cur):=
 ⟨rfl,rfl,rfl,by simp [World.setRow],fun k hk hne=>by
  unfold World.setRow;simp only [Array.getElem?_modify];rw [if_neg (fun e=>hne e.symm)]⟩
def ZqN(W:World)(R:Nat)(a b c d e f:Value):World:=(((((W.setCell ⟨R,1,none⟩ a).setCell ⟨R,2,none⟩ b).setCell ⟨R,3,none⟩ c).setCell ⟨R,4,none⟩ d).setCell ⟨R,5,none⟩ e).setCell ⟨R,6,none⟩ f
theorem ZnL{W:World}{R:Nat}{T:TypeId}{z0 z1 z2 z3 z4 z5 z6:Value}(h:W.heap[R]?=some (.cells #[z0,z1,z2,z3,z4,z5,z6] T (0,0)))(a b c d e f:Value):(ZqN W R a b c d e f).heap[R]?=some (.cells #[z0,a,b,c,d,e,f] T (0,0)):=by
 have h1:(W.setCell ⟨R,1,none⟩ a).heap[R]?=some (.cells #[z0,a,z2,z3,z4,z5,z6] T (0,0)):=by simpa using heap_setCell h 1 a
 have h2:((W.setCell ⟨R,1,none⟩ a).setCell ⟨R,2,none⟩ b).heap[R]?=some (.cells #[z0,a,b,z3,z4,z5,z6] T (0,0)):=by simpa using heap_setCell h1 2 b
 have h3:(((W.setCell ⟨R,1,none⟩ a).setCell ⟨R,2,none⟩ b).setCell ⟨R,3,none⟩ c).heap[R]?=some (.cells #[z0,a,b,c,z4,z5,z6] T (0,0)):=by simpa using heap_setCell h2 3 c
 have h4:((((W.setCell ⟨R,1,none⟩ a).setCell ⟨R,2,none⟩ b).setCell ⟨R,3,none⟩ c).setCell ⟨R,4,none⟩ d).heap[R]?=some (.cells #[z0,a,b,c,d,z5,z6] T (0,0)):=by simpa using heap_setCell h3 4 d
 have h5:(((((W.setCell ⟨R,1,none⟩ a).setCell ⟨R,2,none⟩ b).setCell ⟨R,3,none⟩ c).setCell ⟨R,4,none⟩ d).setCell ⟨R,5,none⟩ e).heap[R]?=some (.cells #[z0,a,b,c,d,e,z6] T (0,0)):=by simpa using heap_setCell h4 5 e
 have h6:((((((W.setCell ⟨R,1,none⟩ a).setCell ⟨R,2,none⟩ b).setCell ⟨R,3,none⟩ c).setCell ⟨R,4,none⟩ d).setCell ⟨R,5,none⟩ e).setCell ⟨R,6,none⟩ f).heap[R]?=some (.cells #[z0,a,b,c,d,e,f] T (0,0)):=by simpa using heap_setCell h5 6 f
 exact h6
theorem ZpY(W:World)(R:Nat)(a b c d e f:Value):Fr (fun k=>k=R) W (ZqN W R a b c d e f):=
 ((((((Fr.refl (fun k=>k=R) W).setCell (p:=⟨R,1,none⟩) (fun _=>rfl) _).setCell (p:=⟨R,2,none⟩) (fun _=>rfl) _).setCell (p:=⟨R,3,none⟩) (fun _=>rfl) _).setCell (p:=⟨R,4,none⟩) (fun _=>rfl) _).setCell (p:=⟨R,5,none⟩) (fun _=>rfl) _).setCell (p:=⟨R,6,none⟩) (fun _=>rfl) _
theorem ZpA(st:Nat)(ds:List Int)(fl:List Str)(x:Str)(c1:Bool)(h:((YF x).isSome&&decide (st<1))=c1) :
  Zb6 (st,ds,fl) x=if c1=true then some (1,(YF x).getD [],fl) else stepT (st,ds,fl) x:=by
 subst h;unfold Zb6;cases YF x with
 |none=>rfl
 |some d=>
  by_cases h1:st<1
  ·simp [h1]
  ·simp [h1]
theorem ZpH(st:Nat)(ds:List Int)(fl:List Str)(x:Str)(dl tl:List Str)(hd:Zl 45 x=dl)(ht:Zl 58 x=tl)(c2 c3:Bool)(h2:(decide (dl.length=3)&&decide (st<2))=c2)(h3:((decide (tl.length=2)||decide (tl.length=3))&&decide (st<3))=c3) :
  stepT (st,ds,fl) x=if c2=true then some (2,ds,dl++fl.drop 3) else if c3=true then some (3,ds,fl.take 3++tl++fl.drop (3+tl.length)) else none:=by
 subst h2;subst h3;subst hd;subst ht;unfold stepT;simp only [Bool.and_eq_true,Bool.or_eq_true,decide_eq_true_eq]
def ZiP(w:World)(b:Bool)(e:Ending)(w':World):Prop:=(∃v,e=.returned (.tuple #[v,.bool b]))/\Below w.heap.size w w'
theorem Zg1(s:Str)(w:World)(hs:s.length<=9000000000000000000):Calls prog 167 #[.string ⟨s.toArray⟩] w fun e w'=>ZiP w (Zfq s) e w':=by
 unfold ZiP;have hsz:(⟨s.toArray⟩:ByteArray).size=s.length:=n29_;by_cases hlong:400<s.length
 ·have hz:((⟨s.toArray⟩:ByteArray).size:Int)>400:=n129_
  have hz2:(400:Int)<((⟨s.toArray⟩:ByteArray).size:Int):=hz;have HR:=h_ (show Zfq s=false by unfold Zfq;rw [if_pos hlong]);clear hsz hlong hs;generalize (⟨s.toArray⟩:ByteArray)=S at *;go_enter func167,ntmps167;go_wp2_with fail;have H0:=heap_alloc_new w (.cells #[.slice none 0 0,.slice none 0 0,.slice none 0 0,.slice none 0 0,.slice none 0 0,.slice none 0 0,.slice none 0 0] 177);obtain ⟨c,-,-,-⟩:=rd H0;have c0:=c 0;have c1:=c 1;have c2:=c 2;have c3:=c 3;have c4:=c 4;have c5:=c 5;have c6:=c 6;simp only [List.getElem?_toArray,List.getElem?_cons_zero,List.getElem?_cons_succ] at c0 c1 c2 c3 c4 c5 c6;refine bodyPost_ret (v:=.tuple #[.agg #[.slice none 0 0,.slice none 0 0,.slice none 0 0,.slice none 0 0,.slice none 0 0,.slice none 0 0,.slice none 0 0],.bool false]) ?_ rfl ⟨⟨_,n134_⟩,?_⟩
  ·simp [results,results167,go_sem]
  ·exact b_.alloc l_ _
 ·have hz:¬((⟨s.toArray⟩:ByteArray).size:Int)>400:=n129_
  have hz2:¬(400:Int)<((⟨s.toArray⟩:ByteArray).size:Int):=hz;have hsl:s.length<=400:=o_;have HNM:=h_ (fun V=>ZlO s V);have hnl:=ZmC s hsl;obtain ⟨l,hl⟩:∃l,Zl 32 (nmS s)=l:=⟨_,rfl⟩;have HCB:=h_ (show Zfq s=if 3<l.length then false else Zfo (Yy l (0,[],Ya)) by unfold Zfq;rw [if_neg hlong,hl]);have HMEM:=h_ (fun x (hx:x∈l)=>show x.length<=400 from by rw [<-hl] at hx;have:=YP 32 _ x hx;omega);have HSP:=h_ (fun V=>XW ⟨(nmS s).toArray⟩ 32 V (by show (nmS s).toArray.size<=_;simp;omega) l hl);let w0:=w.alloc (.cells #[.slice none 0 0,.slice none 0 0,.slice none 0 0,.slice none 0 0,.slice none 0 0,.slice none 0 0,.slice none 0 0] 177);have HB0:=h_ (show Below w.heap.size w w0 from b_.alloc l_ _);have HR0:=h_ (show w0.heap[w.heap.size]?=some (.cells #[.slice none 0 0,.slice none 0 0,.slice none 0 0,.slice none 0 0,.slice none 0 0,.slice none 0 0,.slice none 0 0] 177 (0,0)) from heap_alloc_new w _);have HZ0:=h_ (show w0.heap.size=w.heap.size+1 by simp [w0]);have HSP0:=h_ (HSP.out w0);clear hl hlong hnl HSP;generalize (⟨s.toArray⟩:ByteArray)=S at *;go_enter func167,ntmps167;go_wp2_with (go_at_call 203;refine (HNM.out _).mono ?_;rintro e w' ⟨rfl,rfl⟩);refine HSP0.out.mono ?_;rintro e w1 ⟨hb1,v,rfl,hown⟩;obtain ⟨oa,cap,rfl⟩:=ownsRow_form hown;have HOW:=h_ hown;have HB1:=h_ (HB0.out.trans (hb1.mono HB0.out.size));have HR1:=h_ (Za HR0.out hb1);have HZ1:=h_ (show w.heap.size+1<=w1.heap.size by have:=hb1.size;have:=HZ0.out;omega);have HW0:=h_ (show w0.heap.size=w.heap.size+1 from HZ0.out);rw [HW0.out] at HOW;clear hown hb1 HB0 HR0 HZ0 HSP0 HNM HW0;clear w0;obtain ⟨n,hn⟩:=e_ l.length;rw [<-hn];rw [<-hn] at HCB HOW;have HNL:=h_ hn;clear hn;by_cases h3:3<n
  ·have hz3:(n:Int)>3:=o_
   have hz4:(3:Int)<(n:Int):=o_;have HR:=h_ (show Zfq s=false by rw [HCB.out,if_pos h3]);obtain ⟨c,f,-,hltR⟩:=rd HR1.out;have c0:=c 0;have c1:=c 1;have c2:=c 2;have c3:=c 3;have c4:=c 4;have c5:=c 5;have c6:=c 6;have h0:=f 0;have h1:=f 1;have h2:=f 2;have h3:=f 3;have h4:=f 4;have h5:=f 5;have h6:=f 6;simp only [List.getElem?_toArray,List.getElem?_cons_zero,List.getElem?_cons_succ] at c0 c1 c2 c3 c4 c5 c6;clear c f;go_wp2_with fail;have HV7:=Xo HR1.out Zo Zo Zo Zo Zo Zo Zo;obtain ⟨c,-,-,-⟩:=rd HV7;have d0:=c 0;have d1:=c 1;have d2:=c 2;have d3:=c 3;have d4:=c 4;have d5:=c 5;have d6:=c 6;simp only [List.getElem?_toArray,List.getElem?_cons_zero,List.getElem?_cons_succ,Zdc,Zo] at d0 d1 d2 d3 d4 d5 d6;refine bodyPost_ret (v:=.tuple #[.agg #[Zo,Zo,Zo,Zo,Zo,Zo,Zo],.bool false]) ?_ rfl ⟨⟨_,n134_⟩,?_⟩
   ·exact m191_
   ·exact Y1 HB1.out (Nat.le_of_lt hltR) Zo Zo Zo Zo Zo Zo Zo
  ·have hz3:¬(n:Int)>3:=o_
   have hz4:¬(3:Int)<(n:Int):=o_;have HCB2:=h_ (show Zfq s=Zfo (Yy l (0,[],Ya)) by rw [HCB.out,if_neg h3]);let W0:=(w1.alloc (.cells #[.slice none 0 0,.slice none 0 0,.slice none 0 0,.slice none 0 0,.slice none 0 0,.slice none 0 0,.slice none 0 0] 177)).alloc (.cells #[.string ⟨#[42]⟩,.string ⟨#[42]⟩,.string ⟨#[42]⟩,.string ⟨#[48,48]⟩,.string ⟨#[48,48]⟩,.string ⟨#[48,48]⟩] 9);have hbW:Below w1.heap.size w1 W0:=(b_.alloc l_ _).alloc s_ _;obtain ⟨C,hC⟩:=e_ w1.heap.size;have hcW:W0.heap[C]?=some (.cells #[.slice none 0 0,.slice none 0 0,.slice none 0 0,.slice none 0 0,.slice none 0 0,.slice none 0 0,.slice none 0 0] 177 (0,0)):=by rw [hC];exact heap_alloc (heap_alloc_new w1 _) _
   have hfW:W0.heap[C+1]?=some (.cells (Ze Ya).toArray 9 (0,0)):=by
    have:=heap_alloc_new (w1.alloc (.cells #[.slice none 0 0,.slice none 0 0,.slice none 0 0,.slice none 0 0,.slice none 0 0,.slice none 0 0,.slice none 0 0] 177)) (.cells #[.string ⟨#[42]⟩,.string ⟨#[42]⟩,.string ⟨#[42]⟩,.string ⟨#[48,48]⟩,.string ⟨#[48,48]⟩,.string ⟨#[48,48]⟩] 9)
    rw [show (w1.alloc (.cells #[.slice none 0 0,.slice none 0 0,.slice none 0 0,.slice none 0 0,.slice none 0 0,.slice none 0 0,.slice none 0 0] 177)).heap.size=C+1 by simp [hC]] at this;exact this
   have hzW:W0.heap.size=C+2:=by simp [W0,hC]
   have HCW:=h_ hcW;have HFW:=h_ hfW;have HZW:=h_ hzW;have HBW:=h_ (HB1.out.trans (hbW.mono HB1.out.size));have HRW:=h_ (Za HR1.out hbW);have HST:=h_ (fun V (h:Fr (fun k=>k=C\/k=C+1) W0 V)=>show Zj V oa l from
    ((Zj.of_own (by rw [HNL.out] at HOW;exact HOW.out)).below hbW).frN h (fun b o e=>by
     have:=HOW.out.lt b n100_
     have:=HBW.out.size
     omega))
   have HCR:=h_ (show w.heap.size<C by have:=HZ1.out;omega);clear hcW hfW hzW hbW HOW HB1 HR1 HCB h3;go_wp2_with fail;rw [<-hC];clear hC HZ1;obtain ⟨W,hW⟩:=e_ W0;rw [<-hW] at HCW HFW HZW HBW HRW HST;change Code.wp _ _ _ _ W0;rw [<-hW];clear hW;clear W0;go_loopg [7,29] (n+1) (fun f s7 i wr=>∃(k st:Nat) (ds:List Int) (fl:List Str) (dv:Value),k<=n/\i=.int .i64 k/\s7=.int .i64 st/\n-k<f/\st<=3/\fl.length=6/\ds.length<=8/\Hid (∀x∈fl,x.length<=400)/\Hid (Yy (l.drop k) (st,ds,fl)=Yy l (0,[],Ya))/\
    Hid (Fr (fun k=>k=C\/k=C+1) W wr)/\Hid (wr.heap[C]?=some (.cells #[dv,.slice none 0 0,.slice none 0 0,.slice none 0 0,.slice none 0 0,.slice none 0 0,.slice none 0 0] 177 (0,0)))/\Hid (wr.heap[C+1]?=some (.cells (Ze fl).toArray 9 (0,0)))/\Hid (wr.ownsRow (C+2) 3 1 dv ds.length (Zy Zfb ds)))
   case atStart=>exact ⟨0,0,[],Ya,.slice none 0 0,o_,rfl,rfl,o_,o_,rfl,s_,(show ∀x∈Ya,x.length<=400 by decide),rfl,Fr.refl _ _,HCW,HFW,World.ownsRow_nil _ _ _ _⟩
   case round=>
    obtain ⟨k,st,ds,fl,dv,hk,rfl,rfl,hfu,hst3,hfl6,hds8,HFX,HFR,HF,HC,HFF,HO⟩:=hrel;obtain ⟨da,dc,rfl⟩:=ownsRow_form HO.out;obtain ⟨w2,rfl⟩:∃w2,w2=wr:=⟨wr,rfl⟩;by_cases hlt:k<n
    ·have hz5:(k:Int)<(n:Int):=o_
     have hlk:k<l.length:=by rw [<-HNL.out];exact hlt
     obtain ⟨b4,o4,rfl,d0⟩:=HST.out w2 HF.out k hlk;obtain ⟨x,hx⟩:=e_ (l[k]);rw [<-hx] at d0;have hxl:x.length<=400:=by rw [hx];exact HMEM.out _ (List.getElem_mem hlk)
     have hd:l.drop k=x::l.drop (k+1):=by rw [hx];exact List.drop_eq_getElem_cons hlk
     obtain ⟨X,hX⟩:∃X:ByteArray,X=⟨x.toArray⟩:=⟨_,rfl⟩;have hXx:X.data.toList=x:=by rw [hX]
     have hXs:X.size<=400:=by rw [hX];show x.toArray.size<=_;simpa using hxl
     rw [<-hX] at d0;obtain ⟨dl,hdl⟩:∃dl,Zl 45 x=dl:=⟨_,rfl⟩;obtain ⟨tl,htl⟩:∃tl,Zl 58 x=tl:=⟨_,rfl⟩;have HD:=h_ (fun V=>XW X 45 V o_ dl (by rw [hXx];exact hdl));have HT:=h_ (fun V=>XW X 58 V o_ tl (by rw [hXx];exact htl));have HY:=h_ (fun V=>ZjU X V o_);rw [hXx] at HY;have HDM:=h_ (fun y (hy:y∈dl)=>show y.length<=400 from by rw [<-hdl] at hy;have:=YP 45 _ y hy;omega);have HTM:=h_ (fun y (hy:y∈tl)=>show y.length<=400 from by rw [<-htl] at hy;have:=YP 58 _ y hy;omega);obtain ⟨c1,hc1⟩:∃c1,((YF x).isSome&&decide (st<1))=c1:=⟨_,rfl⟩;obtain ⟨c2,hc2⟩:∃c2,(decide (dl.length=3)&&decide (st<2))=c2:=⟨_,rfl⟩;obtain ⟨c3,hc3⟩:∃c3,((decide (tl.length=2)||decide (tl.length=3))&&decide (st<3))=c3:=⟨_,rfl⟩;have HFR1:=h_ (show (match (if c1=true then some (1,(YF x).getD [],fl) else if c2=true then some (2,ds,dl++fl.drop 3) else if c3=true then some (3,ds,fl.take 3++tl++fl.drop (3+tl.length)) else none:Option StR) with|none=>none|some r=>Yy (l.drop (k+1)) r)=Yy l (0,[],Ya) from by
      have h:=HFR.out;rw [hd,Yy,ZpA st ds fl x c1 hc1,ZpH st ds fl x dl tl hdl htl c2 c3 hc2 hc3] at h;exact h)
     have HWL:=h_ (show ∀d,YF x=some d->d.length<=8 from fun d h=>ZhT x d h);obtain ⟨wk,hwk⟩:∃wk,YF x=wk:=⟨_,rfl⟩;obtain ⟨nd,hnd⟩:∃nd,dl.length=nd:=⟨_,rfl⟩;obtain ⟨nt,hnt⟩:∃nt,tl.length=nt:=⟨_,rfl⟩;unfold YJ at HD HT;unfold Zfx at HY;rw [hwk] at HY HFR1 HWL hc1;rw [hnd] at HD hc2;rw [hnt] at HT hc3;have HND:=h_ hnd;have HNT:=h_ hnt;have HC1:=h_ hc1;have HC2:=h_ hc2;have HC3:=h_ hc3;clear hx hxl hX hXx hXs hdl htl hc1 hc2 hc3 hwk hnd hnt hd HFR hlk;go_wp2_with fail;refine (HD.out _).mono ?_;rintro e wa ⟨hba,va,rfl,howna⟩;obtain ⟨o45,k45,rfl⟩:=ownsRow_form howna;have HBA:=h_ hba;have HRA:=h_ (Zj.of_own (by rw [<-HND.out] at howna;exact howna));clear hba howna HD;go_wp2_with fail;refine (HT.out _).mono ?_;rintro e wb ⟨hbb,vb,rfl,hownb⟩;obtain ⟨o58,k58,rfl⟩:=ownsRow_form hownb;have HBB:=h_ (HBA.out.trans (hbb.mono HBA.out.size));have HRA2:=h_ (HRA.out.below hbb);have HRB:=h_ (Zj.of_own (by rw [<-HNT.out] at hownb;exact hownb));clear hbb hownb HT HBA HRA;go_wp2_with fail;refine (HY.out _).mono ?_;rintro e wc0 ⟨vy,rfl,hownc,hbc⟩;obtain ⟨oy,ky,rfl⟩:=ownsRow_form hownc;have HBC:=h_ (HBB.out.trans (hbc.mono HBB.out.size));have HRD:=h_ (HRA2.out.below hbc);have HRT:=h_ (HRB.out.below hbc);have hzw:=HZW.out;have HOY:=h_ (show wc0.ownsRow (C+2) 3 1 (.slice oy (wk.getD []).length ky) (wk.getD []).length (Zy Zfb (wk.getD [])) from by
      rw [ZfW];exact Zav hownc (by have:=HF.out.size;have:=HBB.out.size;omega))
     have HF1:=h_ (HF.out.trans (Fr.of_below HBC.out _));have HCC:=h_ (Za HC.out HBC.out);have HFC:=h_ (Za HFF.out HBC.out);have HOC:=h_ (Zp HO.out HBC.out);clear hownc hbc HY HBB HRA2 HRB hzw HC HFF HO HBC HF d0;generalize hny:(wk.getD []).length=ny at *;have HNY:=h_ hny;clear hny;generalize wk.isSome=ok at *;go_upto_region 15 with fail
     go_cut [43] from 44 to 48 (fun s43 w'=>s43=.bool c1/\w'=wc0)
     case first=>
      have hc1:=HC1.out;by_cases hs1:st<1
      ·have hs1z:(st:Int)<1:=o_
       rw [decide_eq_true hs1] at hc1;cases ok with
       |true=>
        obtain rfl:true=c1:=by simpa using hc1
        exact m190_
       |false=>
        obtain rfl:false=c1:=by simpa using hc1
        exact m190_
      ·have hs1z:¬(st:Int)<1:=o_
       rw [decide_eq_false hs1] at hc1;obtain rfl:false=c1:=by simpa using hc1
       cases ok with
       |true=>
        exact m190_
       |false=>
        exact m190_
     case rest=>
      obtain ⟨rfl,rfl⟩:=hcut;obtain ⟨w5,rfl⟩:∃w5,w5=wc:=⟨wc,rfl⟩;cases c1 with
      |true=>
       have HA:=h_ (show Yy (l.drop (k+1)) (1,wk.getD [],fl)=Yy l (0,[],Ya) from HFR1.out);have hny8:ny<=8:=by
        rw [<-HNY.out];cases hq:wk with
        |none=>simp
        |some d=>exact HWL.out d hq
       obtain ⟨cc,cf,-,-⟩:=rd HCC.out;have c0:=cc 0;have f0:=cf 0;simp only [List.getElem?_toArray,List.getElem?_cons_zero] at c0;have HCN:=h_ (show (w5.setCell ⟨C,0,none⟩ (.slice oy ny ky)).heap[C]?=some (.cells #[.slice oy ny ky,.slice none 0 0,.slice none 0 0,.slice none 0 0,.slice none 0 0,.slice none 0 0,.slice none 0 0] 177 (0,0)) from by simpa using heap_setCell HCC.out 0 (.slice oy ny ky));have HFN:=h_ (Zk HFC.out (a:=⟨C,0,none⟩) s_ (.slice oy ny ky));have HFRN:=h_ (HF1.out.setCell (p:=⟨C,0,none⟩) (fun _=>.inl rfl) (.slice oy ny ky));have HON:=h_ (show (w5.setCell ⟨C,0,none⟩ (.slice oy ny ky)).ownsRow (C+2) 3 1 (.slice oy ny ky) (wk.getD []).length (Zy Zfb (wk.getD [])) from by
        rw [HNY.out];exact ZJ HOY.out (M:=fun k=>k=C) (Fr.setCell (M:=fun k=>k=C) (p:=⟨C,0,none⟩) (Fr.refl _ _) (fun _=>rfl) _) (fun g hg _ e=>by have:=(HOY.out.lt g hg).1;omega))
       clear cc cf HC1 HC2 HC3 HFR1;go_wp2_with fail;go_roundg (n-k)
       case measure=>omega
       case rel=>exact ⟨k+1,1,wk.getD [],fl,.slice oy ny ky,o_,n14_,rfl,o_,o_,hfl6,by rw [HNY.out];exact hny8,HFX,HA,HFRN,HCN,HFN,HON⟩
      |false=>
       have HFR2:=h_ (show (match (if c2=true then some (2,ds,dl++fl.drop 3) else if c3=true then some (3,ds,fl.take 3++tl++fl.drop (3+tl.length)) else none:Option StR) with|none=>none|some r=>Yy (l.drop (k+1)) r)=Yy l (0,[],Ya) from HFR1.out);clear HFR1 HC1 HOY HNY HWL;go_upto_region 17 with fail
       go_cut [51] from 52 to 58 (fun s51 w'=>s51=.bool c2/\w'=w5)
       case first=>
        have hc2:=HC2.out;by_cases hn3:nd=3
        ·have hnz:((nd:Int)==3)=true:=n2_
         rw [decide_eq_true hn3] at hc2;clear hn3;by_cases hs1:st<2
         ·have hs1z:(st:Int)<2:=o_
          rw [decide_eq_true hs1] at hc2;obtain rfl:true=c2:=by simpa using hc2
          exact m190_
         ·have hs1z:¬(st:Int)<2:=o_
          rw [decide_eq_false hs1] at hc2;obtain rfl:false=c2:=by simpa using hc2
          exact m190_
        ·have hnz:((nd:Int)==3)=false:=n2_
         rw [decide_eq_false hn3] at hc2;obtain rfl:false=c2:=by simpa using hc2
         exact m190_
       case rest=>
        obtain ⟨rfl,rfl⟩:=hcut;obtain ⟨w5,rfl⟩:∃w5,w5=wc:=⟨wc,rfl⟩;cases c2 with
        |true=>
         have HA:=h_ (show Yy (l.drop (k+1)) (2,ds,dl++fl.drop 3)=Yy l (0,[],Ya) from HFR2.out);have hnd3:nd=3:=by have:=HC2.out;simp at this;exact this.1
         obtain ⟨b5,o5,e5,-⟩:=HRD.out 0 (by rw [HND.out];omega);subst e5;have HRUN:=h_ (fun ty=>show (Builtin.copy_ #[28,28] ty #[.slice (some ⟨C+1,0,none⟩) 6 6,.slice (some ⟨b5,o5,none⟩) nd k45]).run prog w5=.ok (goInt 3) (w5.setRow (C+1) (Ze (dl++fl.drop 3)).toArray) from by
          have h:=run_copy_row prog w5 28 28 ty 9 (C+1) 0 6 6 ⟨b5,o5,none⟩ nd k45 (Ze fl).toArray 9 (Ze dl) underlying28 k_ HFC.out (by rw [Xg,HND.out,hnd3];rfl)
           (fun j v hv=>by
            obtain ⟨b6,o6,e6,hc6⟩:=HRD.out.cells j v hv;injection e6 with e6;injection e6 with e7 e8
            subst e7;subst e8
            have:=Zf3 b5 o5 j
            rw [this];exact hc6) (by simp [Xg,HND.out];omega) (Zb3 _)
          rw [Xg,HND.out,hnd3] at h;rw [hnd3,h];congr 2;simp [Ze])
         have HRUN2:=h_ (fun ty=>by have h:=HRUN.out ty;rw [hnd3] at h;exact h);have HFN:=h_ (setRow_heap w5 (C+1) _ (Ze (dl++fl.drop 3)).toArray _ _ HFC.out);have hfr:=ZhQ w5 (C+1) (Ze (dl++fl.drop 3)).toArray;have HCN:=h_ (hfr.heap HCC.out o_);have HON:=h_ (ZJ HOC.out hfr (fun g hg _ e=>by have:=(HOC.out.lt g hg).1;omega));have HFRN:=h_ (HF1.out.trans (hfr.mono (fun i _ e=>.inr e)));have HLN:=h_ (show (dl++fl.drop 3).length=6 from by rw [List.length_append,HND.out,List.length_drop];omega);have HXN:=h_ (show ∀y∈dl++fl.drop 3,y.length<=400 from by
          intro y hy;rcases List.mem_append.1 hy with hy|hy
          ·exact HDM.out y hy
          ·exact HFX.out y (List.mem_of_mem_drop hy))
         rw [hnd3];clear hfr HRUN HC2 HC3 HFR2 hnd3;go_wp2_with fail;rw [HRUN2.out];go_wp2_with fail;go_roundg (n-k)
         case measure=>omega
         case rel=>exact ⟨k+1,2,ds,dl++fl.drop 3,.slice da ds.length dc,o_,n14_,rfl,o_,o_,HLN.out,hds8,HXN,HA,HFRN,HCN,HFN,HON⟩
        |false=>
         have HFR3:=h_ (show (match (if c3=true then some (3,ds,fl.take 3++tl++fl.drop (3+tl.length)) else none:Option StR) with|none=>none|some r=>Yy (l.drop (k+1)) r)=Yy l (0,[],Ya) from HFR2.out);clear HFR2 HC2 HRD HDM HND;go_upto_region 20 with fail
         go_cut [62] from 63 to 74 (fun s62 w'=>s62=.bool c3/\w'=w5)
         case first=>
          have hc3:=HC3.out;by_cases hn2:nt=2
          ·have hnz:((nt:Int)==2)=true:=n2_
           rw [decide_eq_true hn2] at hc3;clear hn2;exact m192_
          ·have hnz:((nt:Int)==2)=false:=n2_
           rw [decide_eq_false hn2] at hc3;by_cases hn3:nt=3
           ·have hnz3:((nt:Int)==3)=true:=n2_
            rw [decide_eq_true hn3] at hc3;clear hn3 hn2;exact m192_
           ·have hnz3:((nt:Int)==3)=false:=n2_
            rw [decide_eq_false hn3] at hc3;obtain rfl:false=c3:=by simpa using hc3
            exact m190_
         case rest=>
          obtain ⟨rfl,rfl⟩:=hcut;obtain ⟨w5,rfl⟩:∃w5,w5=wc:=⟨wc,rfl⟩;cases c3 with
          |true=>
           obtain ⟨nl,hnl⟩:=e_ (fl.take 3++tl++fl.drop (3+tl.length));have HA:=h_ (show Yy (l.drop (k+1)) (3,ds,nl)=Yy l (0,[],Ya) from by rw [hnl];exact HFR3.out);have hnt3:nt=2\/nt=3:=by have:=HC3.out;simp at this;exact this.1
           obtain ⟨b5,o5,e5,-⟩:=HRT.out 0 (by rw [HNT.out];omega);subst e5;have HRUN:=h_ (fun ty=>show (Builtin.copy_ #[28,28] ty #[.slice (some ⟨C+1,3,none⟩) 3 3,.slice (some ⟨b5,o5,none⟩) nt k58]).run prog w5=.ok (goInt nt) (w5.setRow (C+1) (Ze nl).toArray) from by
            have h:=run_copy_row prog w5 28 28 ty 9 (C+1) 3 3 3 ⟨b5,o5,none⟩ nt k58 (Ze fl).toArray 9 (Ze tl) underlying28 k_ HFC.out (by rw [Xg,HNT.out];rcases hnt3 with rfl|rfl<;>rfl)
             (fun j v hv=>by
              obtain ⟨b6,o6,e6,hc6⟩:=HRT.out.cells j v hv;injection e6 with e6;injection e6 with e7 e8
              subst e7;subst e8
              have:=Zf3 b5 o5 j
              rw [this];exact hc6) (by simp [Xg,HNT.out];omega) (Zb3 _)
            rw [Xg,HNT.out] at h;rw [h,hnl,HNT.out];congr 2;simp [Ze])
           have HFN:=h_ (setRow_heap w5 (C+1) _ (Ze nl).toArray _ _ HFC.out);have hfr:=ZhQ w5 (C+1) (Ze nl).toArray;have HCN:=h_ (hfr.heap HCC.out o_);have HON:=h_ (ZJ HOC.out hfr (fun g hg _ e=>by have:=(HOC.out.lt g hg).1;omega));have HFRN:=h_ (HF1.out.trans (hfr.mono (fun i _ e=>.inr e)));have HLN:=h_ (show nl.length=6 from by
            rw [hnl,List.length_append,List.length_append,List.length_take,List.length_drop,HNT.out];omega)
           have HXN:=h_ (show ∀y∈nl,y.length<=400 from by
            intro y hy;rw [hnl] at hy;rcases List.mem_append.1 hy with hy|hy
            ·rcases List.mem_append.1 hy with hy|hy
             ·exact HFX.out y (List.mem_of_mem_take hy)
             ·exact HTM.out y hy
            ·exact HFX.out y (List.mem_of_mem_drop hy))
           clear hfr HC3 HFR3 hnt3 hnl;go_wp2_with fail;rw [HRUN.out];go_wp2_with fail;go_roundg (n-k)
           case measure=>omega
           case rel=>exact ⟨k+1,3,ds,nl,.slice da ds.length dc,o_,n14_,rfl,o_,o_,HLN.out,hds8,HXN,HA,HFRN,HCN,HFN,HON⟩
          |false=>
           have HR:=h_ (show Zfq s=false by rw [HCB2.out,<-HFR3.out];rfl);have HR5:=h_ (HF1.out.heap HRW.out (fun e=>by rcases e with e|e<;>(have:=HCR.out;omega)));have HB5:=h_ (HBW.out.trans (HF1.out.below w.heap.size (by have:=HBW.out.size;omega) (fun k hk e=>by rcases e with e|e<;>(have:=HCR.out;omega))));obtain ⟨c,f,-,hltR⟩:=rd HR5.out;have c0:=c 0;have c1:=c 1;have c2:=c 2;have c3:=c 3;have c4:=c 4;have c5:=c 5;have c6:=c 6;have h0:=f 0;have h1:=f 1;have h2:=f 2;have h3:=f 3;have h4:=f 4;have h5:=f 5;have h6:=f 6;simp only [List.getElem?_toArray,List.getElem?_cons_zero,List.getElem?_cons_succ] at c0 c1 c2 c3 c4 c5 c6;clear c f;go_wp2_with fail;have HV7:=Xo HR5.out Zo Zo Zo Zo Zo Zo Zo;obtain ⟨c,-,-,-⟩:=rd HV7;have d0:=c 0;have d1:=c 1;have d2:=c 2;have d3:=c 3;have d4:=c 4;have d5:=c 5;have d6:=c 6;simp only [List.getElem?_toArray,List.getElem?_cons_zero,List.getElem?_cons_succ,Zdc,Zo] at d0 d1 d2 d3 d4 d5 d6;refine bodyPost_ret (v:=.tuple #[.agg #[Zo,Zo,Zo,Zo,Zo,Zo,Zo],.bool false]) ?_ rfl ⟨⟨_,n134_⟩,?_⟩
           ·exact m191_
           ·exact Y1 HB5.out (Nat.le_of_lt hltR) Zo Zo Zo Zo Zo Zo Zo
    ·have hz5:¬(k:Int)<(n:Int):=o_
     have HE:=h_ (show Zfq s=Y7 ds (fl.map ZE) from by
      have h:=HFR.out;rw [List.drop_eq_nil_of_le n109_] at h;rw [HCB2.out,<-h];rfl)
     obtain ⟨f0,f1,f2,f3,f4,f5,rfl⟩:∃f0 f1 f2 f3 f4 f5,fl=[f0,f1,f2,f3,f4,f5]:=by
      match fl,hfl6 with
      |[f0,f1,f2,f3,f4,f5],_=>exact ⟨f0,f1,f2,f3,f4,f5,rfl⟩
     have HFF0:=h_ (show w2.heap[C+1]?=some (.cells #[.string ⟨f0.toArray⟩,.string ⟨f1.toArray⟩,.string ⟨f2.toArray⟩,.string ⟨f3.toArray⟩,.string ⟨f4.toArray⟩,.string ⟨f5.toArray⟩] 9 (0,0)) from HFF.out);have HCELL:=h_ (fun V (h:Below w2.heap.size w2 V)=>show V.cell? ⟨C+1,0,none⟩=some (.string ⟨f0.toArray⟩)/\V.cell? ⟨C+1,1,none⟩=some (.string ⟨f1.toArray⟩)/\V.cell? ⟨C+1,2,none⟩=some (.string ⟨f2.toArray⟩)/\V.cell? ⟨C+1,3,none⟩=some (.string ⟨f3.toArray⟩)/\V.cell? ⟨C+1,4,none⟩=some (.string ⟨f4.toArray⟩)/\V.cell? ⟨C+1,5,none⟩=some (.string ⟨f5.toArray⟩) from by
      obtain ⟨c,_,_,_⟩:=rd (Za HFF0.out h);exact ⟨n41_,n41_,n41_,n41_,n41_,n41_⟩)
     have HP0:=h_ (fun V=>show Calls prog 205 #[.string ⟨f0.toArray⟩] V fun e w'=>∃v,e=.returned v/\w'.ownsRow V.heap.size 233 3 v (ZE f0).length (Zy Yl (ZE f0))/\Below V.heap.size V w' from Qt ⟨f0.toArray⟩ V (by have:=HFX.out f0 s_;show f0.toArray.size<=_;simp;omega));have HLP0:=h_ (show (ZE f0).length<=401 from by
      have h0:=HFX.out f0 s_;unfold ZE QK;cases hq:Yr (Zl 44 f0) with
      |none=>simp
      |some ps=>
       have h1:=XQ _ _ hq;have h2:=YG 44 f0;simp only [Option.getD_some];omega)
     have HP1:=h_ (fun V=>show Calls prog 205 #[.string ⟨f1.toArray⟩] V fun e w'=>∃v,e=.returned v/\w'.ownsRow V.heap.size 233 3 v (ZE f1).length (Zy Yl (ZE f1))/\Below V.heap.size V w' from Qt ⟨f1.toArray⟩ V (by have:=HFX.out f1 s_;show f1.toArray.size<=_;simp;omega));have HLP1:=h_ (show (ZE f1).length<=401 from by
      have h0:=HFX.out f1 s_;unfold ZE QK;cases hq:Yr (Zl 44 f1) with
      |none=>simp
      |some ps=>
       have h1:=XQ _ _ hq;have h2:=YG 44 f1;simp only [Option.getD_some];omega)
     have HP2:=h_ (fun V=>show Calls prog 205 #[.string ⟨f2.toArray⟩] V fun e w'=>∃v,e=.returned v/\w'.ownsRow V.heap.size 233 3 v (ZE f2).length (Zy Yl (ZE f2))/\Below V.heap.size V w' from Qt ⟨f2.toArray⟩ V (by have:=HFX.out f2 s_;show f2.toArray.size<=_;simp;omega));have HLP2:=h_ (show (ZE f2).length<=401 from by
      have h0:=HFX.out f2 s_;unfold ZE QK;cases hq:Yr (Zl 44 f2) with
      |none=>simp
      |some ps=>
       have h1:=XQ _ _ hq;have h2:=YG 44 f2;simp only [Option.getD_some];omega)
     have HP3:=h_ (fun V=>show Calls prog 205 #[.string ⟨f3.toArray⟩] V fun e w'=>∃v,e=.returned v/\w'.ownsRow V.heap.size 233 3 v (ZE f3).length (Zy Yl (ZE f3))/\Below V.heap.size V w' from Qt ⟨f3.toArray⟩ V (by have:=HFX.out f3 s_;show f3.toArray.size<=_;simp;omega));have HLP3:=h_ (show (ZE f3).length<=401 from by
      have h0:=HFX.out f3 s_;unfold ZE QK;cases hq:Yr (Zl 44 f3) with
      |none=>simp
      |some ps=>
       have h1:=XQ _ _ hq;have h2:=YG 44 f3;simp only [Option.getD_some];omega)
     have HP4:=h_ (fun V=>show Calls prog 205 #[.string ⟨f4.toArray⟩] V fun e w'=>∃v,e=.returned v/\w'.ownsRow V.heap.size 233 3 v (ZE f4).length (Zy Yl (ZE f4))/\Below V.heap.size V w' from Qt ⟨f4.toArray⟩ V (by have:=HFX.out f4 s_;show f4.toArray.size<=_;simp;omega));have HLP4:=h_ (show (ZE f4).length<=401 from by
      have h0:=HFX.out f4 s_;unfold ZE QK;cases hq:Yr (Zl 44 f4) with
      |none=>simp
      |some ps=>
       have h1:=XQ _ _ hq;have h2:=YG 44 f4;simp only [Option.getD_some];omega)
     have HP5:=h_ (fun V=>show Calls prog 205 #[.string ⟨f5.toArray⟩] V fun e w'=>∃v,e=.returned v/\w'.ownsRow V.heap.size 233 3 v (ZE f5).length (Zy Yl (ZE f5))/\Below V.heap.size V w' from Qt ⟨f5.toArray⟩ V (by have:=HFX.out f5 s_;show f5.toArray.size<=_;simp;omega));have HLP5:=h_ (show (ZE f5).length<=401 from by
      have h0:=HFX.out f5 s_;unfold ZE QK;cases hq:Yr (Zl 44 f5) with
      |none=>simp
      |some ps=>
       have h1:=XQ _ _ hq;have h2:=YG 44 f5;simp only [Option.getD_some];omega)
     have HB9:=h_ (HBW.out.trans (HF.out.below w.heap.size (by have:=HBW.out.size;omega) (fun k hk e=>by rcases e with e|e<;>(have:=HCR.out;omega))));have HR9:=h_ (HF.out.heap HRW.out (fun e=>by rcases e with e|e<;>(have:=HCR.out;omega)));have HZ9:=h_ (show C+2<=w2.heap.size by have:=HF.out.size;have:=HZW.out;omega);clear HFF HFF0 HFR HFX hfl6 HST HF HRW HBW HCW HFW HZW HCB2 HNL HMEM hk hlt;go_wp2_with fail;have HBJ:=h_ (Zb (B:=w2.heap.size) (a:=w2) (b:=w2.drew) ⟨1,rfl⟩);refine Zi (S:=fun V=>Below w2.heap.size w2 V) 25 k_ k_ HBJ.out (fun hHeld=>?_);refine u_ ?_;have HW0:=h_ hHeld;(iterate 2 refine dN_ 0 (gT_ rfl) (fun W hW=>by clear hW;go_simp;rfl) (u_ ?_));refine dT_ (i:=2) (v:=.string ⟨f0.toArray⟩) (gT_ rfl) (fun W hW=>by obtain ⟨q0,q1,q2,q3,q4,q5⟩:=HCELL.out W hW;clear hW;go_simp) (u_ ?_);(iterate 2 refine dN_ 1 (gT_ rfl) (fun W hW=>by clear hW;go_simp;rfl) (u_ ?_));refine dT_ (i:=6) (v:=.string ⟨f1.toArray⟩) (gT_ rfl) (fun W hW=>by obtain ⟨q0,q1,q2,q3,q4,q5⟩:=HCELL.out W hW;clear hW;go_simp) (u_ ?_);(iterate 2 refine dN_ 2 (gT_ rfl) (fun W hW=>by clear hW;go_simp;rfl) (u_ ?_));refine dT_ (i:=10) (v:=.string ⟨f2.toArray⟩) (gT_ rfl) (fun W hW=>by obtain ⟨q0,q1,q2,q3,q4,q5⟩:=HCELL.out W hW;clear hW;go_simp) (u_ ?_);(iterate 2 refine dN_ 3 (gT_ rfl) (fun W hW=>by clear hW;go_simp;rfl) (u_ ?_));refine dT_ (i:=14) (v:=.string ⟨f3.toArray⟩) (gT_ rfl) (fun W hW=>by obtain ⟨q0,q1,q2,q3,q4,q5⟩:=HCELL.out W hW;clear hW;go_simp) (u_ ?_);(iterate 2 refine dN_ 4 (gT_ rfl) (fun W hW=>by clear hW;go_simp;rfl) (u_ ?_));refine dT_ (i:=18) (v:=.string ⟨f4.toArray⟩) (gT_ rfl) (fun W hW=>by obtain ⟨q0,q1,q2,q3,q4,q5⟩:=HCELL.out W hW;clear hW;go_simp) (u_ ?_);(iterate 2 refine dN_ 5 (gT_ rfl) (fun W hW=>by clear hW;go_simp;rfl) (u_ ?_));refine dT_ (i:=22) (v:=.string ⟨f5.toArray⟩) (gT_ rfl) (fun W hW=>by obtain ⟨q0,q1,q2,q3,q4,q5⟩:=HCELL.out W hW;clear hW;go_simp) (u_ ?_);refine Zq (i:=3) (gT_ rfl) k_ k_ (fun K hK=>?_);clear hHeld;rw [if_pos n19_];go_simp;refine (HP0.out _).mono ?_;rintro e wp0 ⟨v0,rfl,hown,hb⟩;obtain ⟨oa0,ca0,rfl⟩:=ownsRow_form hown;have HW1:=h_ (HW0.out.trans (hb.mono HW0.out.size));have HV0:=h_ (Zav (B':=C+2) hown (by have:=HZ9.out;have:=HW0.out.size;omega));clear hown hb;refine hK.out _ _ HW1.out (fun hHeld=>?_);clear hK K;refine u_ ?_;refine dT_ (i:=24) (v:=.pointer (some ⟨C,1,none⟩)) (gT_ rfl) (fun W hW=>by clear hW;go_simp) (u_ ?_);refine Zq (i:=7) (gT_ rfl) k_ k_ (fun K hK=>?_);clear hHeld;rw [if_pos n19_];go_simp;refine (HP1.out _).mono ?_;rintro e wp1 ⟨v1,rfl,hown,hb⟩;obtain ⟨oa1,ca1,rfl⟩:=ownsRow_form hown;have HW2:=h_ (HW1.out.trans (hb.mono HW1.out.size));have HV1:=h_ (Zav (B':=C+2) hown (by have:=HZ9.out;have:=HW1.out.size;omega));have hq:=Zp HV0.out hb;replace HV0:=h_ hq;clear hq;clear hown hb;refine hK.out _ _ HW2.out (fun hHeld=>?_);clear hK K;refine u_ ?_;refine Zq (i:=11) (gT_ rfl) k_ k_ (fun K hK=>?_);clear hHeld;rw [if_pos n19_];go_simp;refine (HP2.out _).mono ?_;rintro e wp2 ⟨v2,rfl,hown,hb⟩;obtain ⟨oa2,ca2,rfl⟩:=ownsRow_form hown;have HW3:=h_ (HW2.out.trans (hb.mono HW2.out.size));have HV2:=h_ (Zav (B':=C+2) hown (by have:=HZ9.out;have:=HW2.out.size;omega));have hq:=Zp HV0.out hb;replace HV0:=h_ hq;clear hq;have hq:=Zp HV1.out hb;replace HV1:=h_ hq;clear hq;clear hown hb;refine hK.out _ _ HW3.out (fun hHeld=>?_);clear hK K;refine u_ ?_;refine Zq (i:=15) (gT_ rfl) k_ k_ (fun K hK=>?_);clear hHeld;rw [if_pos n19_];go_simp;refine (HP3.out _).mono ?_;rintro e wp3 ⟨v3,rfl,hown,hb⟩;obtain ⟨oa3,ca3,rfl⟩:=ownsRow_form hown;have HW4:=h_ (HW3.out.trans (hb.mono HW3.out.size));have HV3:=h_ (Zav (B':=C+2) hown (by have:=HZ9.out;have:=HW3.out.size;omega));have hq:=Zp HV0.out hb;replace HV0:=h_ hq;clear hq;have hq:=Zp HV1.out hb;replace HV1:=h_ hq;clear hq;have hq:=Zp HV2.out hb;replace HV2:=h_ hq;clear hq;clear hown hb;refine hK.out _ _ HW4.out (fun hHeld=>?_);clear hK K;refine u_ ?_;refine Zq (i:=19) (gT_ rfl) k_ k_ (fun K hK=>?_);clear hHeld;rw [if_pos n19_];go_simp;refine (HP4.out _).mono ?_;rintro e wp4 ⟨v4,rfl,hown,hb⟩;obtain ⟨oa4,ca4,rfl⟩:=ownsRow_form hown;have HW5:=h_ (HW4.out.trans (hb.mono HW4.out.size));have HV4:=h_ (Zav (B':=C+2) hown (by have:=HZ9.out;have:=HW4.out.size;omega));have hq:=Zp HV0.out hb;replace HV0:=h_ hq;clear hq;have hq:=Zp HV1.out hb;replace HV1:=h_ hq;clear hq;have hq:=Zp HV2.out hb;replace HV2:=h_ hq;clear hq;have hq:=Zp HV3.out hb;replace HV3:=h_ hq;clear hq;clear hown hb;refine hK.out _ _ HW5.out (fun hHeld=>?_);clear hK K;refine u_ ?_;refine Zq (i:=23) (gT_ rfl) k_ k_ (fun K hK=>?_);clear hHeld;rw [if_pos n19_];go_simp;refine (HP5.out _).mono ?_;rintro e wp5 ⟨v5,rfl,hown,hb⟩;obtain ⟨oa5,ca5,rfl⟩:=ownsRow_form hown;have HW6:=h_ (HW5.out.trans (hb.mono HW5.out.size));have HV5:=h_ (Zav (B':=C+2) hown (by have:=HZ9.out;have:=HW5.out.size;omega));have hq:=Zp HV0.out hb;replace HV0:=h_ hq;clear hq;have hq:=Zp HV1.out hb;replace HV1:=h_ hq;clear hq;have hq:=Zp HV2.out hb;replace HV2:=h_ hq;clear hq;have hq:=Zp HV3.out hb;replace HV3:=h_ hq;clear hq;have hq:=Zp HV4.out hb;replace HV4:=h_ hq;clear hq;clear hown hb;refine hK.out _ _ HW6.out (fun hHeld=>?_);clear hK K;refine u_ ?_;refine Zr k_ ?_;clear hHeld;obtain ⟨w6,rfl⟩:∃w6,w6=wp5:=⟨wp5,rfl⟩;have HC6:=h_ (Za HC.out HW6.out);have HO6:=h_ (Zp HO.out HW6.out);have HR6:=h_ (Za HR9.out HW6.out);have HB6:=h_ (HB9.out.trans (HW6.out.mono HB9.out.size));clear HP0 HP1 HP2 HP3 HP4 HP5 HW0 HW1 HW2 HW3 HW4 HW5 HBJ HC HO HR9 HB9 HCELL;have HC7:=h_ (ZnL HC6.out (.slice oa0 (ZE f0).length ca0) (.slice oa1 (ZE f1).length ca1) (.slice oa2 (ZE f2).length ca2) (.slice oa3 (ZE f3).length ca3) (.slice oa4 (ZE f4).length ca4) (.slice oa5 (ZE f5).length ca5));have HFR7:=h_ (ZpY w6 C (.slice oa0 (ZE f0).length ca0) (.slice oa1 (ZE f1).length ca1) (.slice oa2 (ZE f2).length ca2) (.slice oa3 (ZE f3).length ca3) (.slice oa4 (ZE f4).length ca4) (.slice oa5 (ZE f5).length ca5));have HR7:=h_ (HFR7.out.heap HR6.out (by have:=HCR.out;omega));have HB7:=h_ (HB6.out.trans (HFR7.out.below w.heap.size (by have:=HB6.out.size;omega) (fun k hk e=>by have:=HCR.out;omega)))
     have HRD:=h_ (show ZcR (ZqN w6 C (.slice oa0 (ZE f0).length ca0) (.slice oa1 (ZE f1).length ca1) (.slice oa2 (ZE f2).length ca2) (.slice oa3 (ZE f3).length ca3) (.slice oa4 (ZE f4).length ca4) (.slice oa5 (ZE f5).length ca5)) #[.slice da ds.length dc,(.slice oa0 (ZE f0).length ca0),(.slice oa1 (ZE f1).length ca1),(.slice oa2 (ZE f2).length ca2),(.slice oa3 (ZE f3).length ca3),(.slice oa4 (ZE f4).length ca4),(.slice oa5 (ZE f5).length ca5)] ds [ZE f0,ZE f1,ZE f2,ZE f3,ZE f4,ZE f5] from
      {size:=rfl
       days:=⟨da,dc,rfl,ZB.of_own (enc:=Zfb) (fun _=>rfl) (ZJ HO6.out HFR7.out (fun g hg _ e=>by have:=(HO6.out.lt g hg).1;omega))⟩
       fields:=fun i hi=>by
        match i,hi with
        |0,_=>exact ⟨oa0,ca0,rfl,ZB.of_own (enc:=Yl) (k:=3) (fun _=>rfl) (ZJ HV0.out HFR7.out (fun g hg _ e=>by have:=(HV0.out.lt g hg).1;omega))⟩
        |1,_=>exact ⟨oa1,ca1,rfl,ZB.of_own (enc:=Yl) (k:=3) (fun _=>rfl) (ZJ HV1.out HFR7.out (fun g hg _ e=>by have:=(HV1.out.lt g hg).1;omega))⟩
        |2,_=>exact ⟨oa2,ca2,rfl,ZB.of_own (enc:=Yl) (k:=3) (fun _=>rfl) (ZJ HV2.out HFR7.out (fun g hg _ e=>by have:=(HV2.out.lt g hg).1;omega))⟩
        |3,_=>exact ⟨oa3,ca3,rfl,ZB.of_own (enc:=Yl) (k:=3) (fun _=>rfl) (ZJ HV3.out HFR7.out (fun g hg _ e=>by have:=(HV3.out.lt g hg).1;omega))⟩
        |4,_=>exact ⟨oa4,ca4,rfl,ZB.of_own (enc:=Yl) (k:=3) (fun _=>rfl) (ZJ HV4.out HFR7.out (fun g hg _ e=>by have:=(HV4.out.lt g hg).1;omega))⟩
        |5,_=>exact ⟨oa5,ca5,rfl,ZB.of_own (enc:=Yl) (k:=3) (fun _=>rfl) (ZJ HV5.out HFR7.out (fun g hg _ e=>by have:=(HV5.out.lt g hg).1;omega))⟩ })
     obtain ⟨r,hr⟩:∃r,Y7 ds [ZE f0,ZE f1,ZE f2,ZE f3,ZE f4,ZE f5]=r:=⟨_,rfl⟩;have HMC:=h_ (Zje _ ds _ _ HRD.out o_ (fun i=>by
      match i with
      |0=>exact Nat.le_trans HLP0.out d_
      |1=>exact Nat.le_trans HLP1.out d_
      |2=>exact Nat.le_trans HLP2.out d_
      |3=>exact Nat.le_trans HLP3.out d_
      |4=>exact Nat.le_trans HLP4.out d_
      |5=>exact Nat.le_trans HLP5.out d_
      |i+6=>simp) r hr)
     have HR:=h_ (show Zfq s=r by rw [HE.out];exact hr);obtain ⟨c,f,-,-⟩:=rd HC6.out;have c0:=c 0;have c1:=c 1;have c2:=c 2;have c3:=c 3;have c4:=c 4;have c5:=c 5;have c6:=c 6;have h0:=f 0;have h1:=f 1;have h2:=f 2;have h3:=f 3;have h4:=f 4;have h5:=f 5;have h6:=f 6;simp only [List.getElem?_toArray,List.getElem?_cons_zero,List.getElem?_cons_succ] at c0 c1 c2 c3 c4 c5 c6;clear c f;clear hr HE HV0 HV1 HV2 HV3 HV4 HV5 HLP0 HLP1 HLP2 HLP3 HLP4 HLP5 HO6 HRD;go_wp2_with fail;refine HMC.out.mono ?_;rintro e w8 ⟨rfl,hb8⟩;have HC8:=h_ (Za HC7.out hb8);have HR8:=h_ (Za HR7.out hb8);have HB8:=h_ (HB7.out.trans (hb8.mono HB7.out.size));clear hb8 HC7 HR7 HB7 HMC HC6 HR6 HB6 HFR7 c0 c1 c2 c3 c4 c5 c6 h0 h1 h2 h3 h4 h5 h6;cases r with
     |false=>
      obtain ⟨c,f,-,hltR⟩:=rd HR8.out;have c0:=c 0;have c1:=c 1;have c2:=c 2;have c3:=c 3;have c4:=c 4;have c5:=c 5;have c6:=c 6;have h0:=f 0;have h1:=f 1;have h2:=f 2;have h3:=f 3;have h4:=f 4;have h5:=f 5;have h6:=f 6;simp only [List.getElem?_toArray,List.getElem?_cons_zero,List.getElem?_cons_succ] at c0 c1 c2 c3 c4 c5 c6;clear c f;go_wp2_with fail;have HV7:=Xo HR8.out Zo Zo Zo Zo Zo Zo Zo;obtain ⟨c,-,-,-⟩:=rd HV7;have d0:=c 0;have d1:=c 1;have d2:=c 2;have d3:=c 3;have d4:=c 4;have d5:=c 5;have d6:=c 6;simp only [List.getElem?_toArray,List.getElem?_cons_zero,List.getElem?_cons_succ,Zdc,Zo] at d0 d1 d2 d3 d4 d5 d6;refine bodyPost_ret (v:=.tuple #[.agg #[Zo,Zo,Zo,Zo,Zo,Zo,Zo],.bool false]) ?_ rfl ⟨⟨_,n134_⟩,?_⟩
      ·exact m191_
      ·exact Y1 HB8.out (Nat.le_of_lt hltR) Zo Zo Zo Zo Zo Zo Zo
     |true=>
      obtain ⟨q0,q1,q2,q3,q4,q5,q6⟩:=Zps HC8.out;obtain ⟨c,f,-,hltR⟩:=rd HR8.out;have c0:=c 0;have c1:=c 1;have c2:=c 2;have c3:=c 3;have c4:=c 4;have c5:=c 5;have c6:=c 6;have h0:=f 0;have h1:=f 1;have h2:=f 2;have h3:=f 3;have h4:=f 4;have h5:=f 5;have h6:=f 6;simp only [List.getElem?_toArray,List.getElem?_cons_zero,List.getElem?_cons_succ] at c0 c1 c2 c3 c4 c5 c6;clear c f;go_wp2_with fail;have HV7:=Xo HR8.out (.slice da ds.length dc) (.slice oa0 (ZE f0).length ca0) (.slice oa1 (ZE f1).length ca1) (.slice oa2 (ZE f2).length ca2) (.slice oa3 (ZE f3).length ca3) (.slice oa4 (ZE f4).length ca4) (.slice oa5 (ZE f5).length ca5);obtain ⟨c,-,-,-⟩:=rd HV7;have d0:=c 0;have d1:=c 1;have d2:=c 2;have d3:=c 3;have d4:=c 4;have d5:=c 5;have d6:=c 6;simp only [List.getElem?_toArray,List.getElem?_cons_zero,List.getElem?_cons_succ,Zdc] at d0 d1 d2 d3 d4 d5 d6;refine bodyPost_ret (v:=.tuple #[.agg #[.slice da ds.length dc,(.slice oa0 (ZE f0).length ca0),(.slice oa1 (ZE f1).length ca1),(.slice oa2 (ZE f2).length ca2),(.slice oa3 (ZE f3).length ca3),(.slice oa4 (ZE f4).length ca4),(.slice oa5 (ZE f5).length ca5)],.bool true]) ?_ rfl ⟨⟨_,n134_⟩,?_⟩
      ·simp [results,results167,go_sem,d0,d1,d2,d3,d4,d5,d6]
      ·exact Y1 HB8.out (Nat.le_of_lt hltR) (.slice da ds.length dc) (.slice oa0 (ZE f0).length ca0) (.slice oa1 (ZE f1).length ca1) (.slice oa2 (ZE f2).length ca2) (.slice oa3 (ZE f3).length ca3) (.slice oa4 (ZE f4).length ca4) (.slice oa5 (ZE f5).length ca5)
end Go.Proofs.YtgoooebfhdbbkaaGreatDoor
