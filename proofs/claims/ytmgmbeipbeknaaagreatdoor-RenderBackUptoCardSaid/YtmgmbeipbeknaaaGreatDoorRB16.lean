import Derived.Test.YtmgmbeipbeknaaaGreatDoorRB2
import Derived.Test.YtmgmbeipbeknaaaGreatDoorRB3
import Derived.Test.YtmgmbeipbeknaaaGreatDoorRB9
import Derived.Test.YtmgmbeipbeknaaaGreatDoorRB15
namespace Go.Proofs.YtmgmbeipbeknaaaGreatDoor
open Go.Proofs.Tryz
open Go Go.RowKit
set_option linter.all false
set_option maxHeartbeats 16000000
set_option maxRecDepth 100000
theorem m31_{p:Prop}(h:p:=by rw [HR.out];simp [results,results341,go_sem,x0,x1,x2,p0,p1,p2]):p:=h
theorem m32_{p:Prop}(h:p:=by rw [HR.out];intro q hq;first|(cases hq;done)|(injection hq)):p:=h
theorem m33_{p:Prop}(h:p:=by exact ((HB2.out.setCell (p:=⟨w.heap.size+1,2,none⟩) s_ _).setCell l_ _).setCell l_ _ |>.setCell l_ _):p:=h
theorem m34_{p:Prop}(h:p:=by exact ((HB3.out.setCell (p:=⟨w.heap.size+1,0,none⟩) s_ _).setCell l_ _).setCell l_ _ |>.setCell l_ _):p:=h
theorem m35_{p:Prop}(h:p:=by exact ((HB4.out.setCell (p:=⟨w.heap.size+1,1,none⟩) s_ _).setCell l_ _).setCell l_ _ |>.setCell l_ _):p:=h
theorem m36_{p:Prop}(h:p:=by exact ((HB5.out.setCell (p:=⟨w.heap.size+1,0,none⟩) s_ _).setCell l_ _).setCell l_ _ |>.setCell l_ _):p:=h
theorem m37_{p:Prop}(h:p:=by exact ((HB6.out.setCell (p:=⟨w.heap.size+1,1,none⟩) s_ _).setCell l_ _).setCell l_ _ |>.setCell l_ _):p:=h
theorem m38_{p:Prop}(h:p:=by
  clear HPC;go_wp2_with fail;refine bodyPost_ret (v:=.tuple #[.agg #[.int .i64 v1,.int .i64 (-1),.int .i64 v0],.bool (YM s).isSome]) ?_ rfl ⟨⟨v1,(-1),v0⟩,rfl,?_,?_⟩
  ·exact m31_
  ·exact m32_
  ·exact m36_):p:=h
theorem m39_{p:Prop}(h:p:=by
  clear HPC;go_wp2_with fail;refine bodyPost_ret (v:=.tuple #[.agg #[.int .i64 v1,.int .i64 (-1),.int .i64 0],.bool (YM s).isSome]) ?_ rfl ⟨⟨v1,(-1),0⟩,rfl,?_,?_⟩
  ·exact m31_
  ·exact m32_
  ·exact m34_):p:=h
theorem m40_{p:Prop}(h:p:=by
  clear HPC;go_wp2_with fail;refine bodyPost_ret (v:=.tuple #[.agg #[.int .i64 v1,.int .i64 v2,.int .i64 v0],.bool (YM s).isSome]) ?_ rfl ⟨⟨v1,v2,v0⟩,rfl,?_,?_⟩
  ·exact m31_
  ·exact m32_
  ·exact m37_):p:=h
theorem m41_{p:Prop}(h:p:=by
  clear HPC;go_wp2_with fail;refine bodyPost_ret (v:=.tuple #[.agg #[.int .i64 v1,.int .i64 v2,.int .i64 0],.bool (YM s).isSome]) ?_ rfl ⟨⟨v1,v2,0⟩,rfl,?_,?_⟩
  ·exact m31_
  ·exact m32_
  ·exact m35_):p:=h
theorem ZiL(s:ByteArray)(w:World)(h63:s.size<=9223372036854775807)(v:Int)(b:Bool)(hv:Jk s.data.toList=(v,b)) :
  Calls prog 356 #[.string s] w fun e w'=>e=.returned (.tuple #[.int .i64 v,.bool b])/\Below w.heap.size w w':=by
 unfold Jk at hv;cases hl:JC s.data.toList 4 isDigit with
 |false=>
  rw [hl,if_neg s_] at hv;obtain ⟨rfl,rfl⟩:0=v/\false=b:=n114_;have HL:=h_ (Za1 s 4 154 #[] #[] isDigit false w h63 Qd (fun c=>XM c w) hl);clear hv hl;go_enter func356,ntmps356;go_wp2_with fail;refine HL.out.mono ?_;rintro e w1 ⟨rfl,rfl⟩;go_wp2_with fail;go_ret2;exact ⟨rfl,Below.refl _ _⟩
 |true=>
  rw [hl,if_pos rfl] at hv;have HL:=h_ (Za1 s 4 154 #[] #[] isDigit true w h63 Qd (fun c=>XM c w) hl);obtain ⟨h0,h5,hd⟩:=ZeJ (n:=4) hl;have hsz:s.data.toList.length=s.size:=s_;obtain ⟨n,hn⟩:∃n,Zem s.data.toList=n:=⟨_,rfl⟩;have HA:=h_ (Zfq s w h0 o_ hd n hn);rw [hn] at hv;obtain ⟨rfl,rfl⟩:(n:Int)=v/\true=b:=n114_;clear hl h0 h5 hd hn hsz hv;go_enter func356,ntmps356;go_wp2_with fail;refine HL.out.mono ?_;rintro e w1 ⟨rfl,rfl⟩;go_wp2_with fail;refine HA.out.mono ?_;rintro e w2 ⟨rfl,hb⟩;have HB:=h_ hb;clear hb;go_wp2_with fail;go_quiet (fail);go_wp2;go_ret2;exact ⟨rfl,HB.out.trans (Ze ⟨_,rfl⟩)⟩
def QC(p:YO):List Value:=[.int .i64 p.from_,.int .i64 p.to_,.int .i64 p.step]
theorem ZpZ(k:YO):∀v∈QC k,v.oneCell'=true:=by intro v hv;simp [QC] at hv;rcases hv with rfl|rfl|rfl<;>rfl
def Zpd(w:World)(s:Str)(e:Ending)(w':World):Prop:=
 ∃p:YO,e=.returned (.tuple #[.agg #[.int .i64 p.from_,.int .i64 p.to_,.int .i64 p.step],.bool (YM s).isSome])/\(∀q,YM s=some q->p=q)/\Below w.heap.size w w'
theorem Zg5(l c:Str):(Lib.cut l c).1.length<=l.length/\(Lib.cut l c).2.1.length<=l.length:=by
 unfold Lib.cut;split
 ·exact ⟨by rw [List.length_take];exact Nat.min_le_right _ _,by rw [List.length_drop];omega⟩
 ·simp
theorem Xy{w:World}{b:Nat}{x y z:Value}{T:TypeId}(h:w.heap[b]?=some (.cells #[x,y,z] T (0,0))) :
  w.cell? ⟨b,0,none⟩=some x/\w.cell? ⟨b,1,none⟩=some y/\w.cell? ⟨b,2,none⟩=some z/\w.frozen? ⟨b,0,none⟩=false/\w.frozen? ⟨b,1,none⟩=false/\w.frozen? ⟨b,2,none⟩=false:=by
 obtain ⟨c,f,_,_⟩:=rd h;exact ⟨by rw [c];rfl,by rw [c];rfl,by rw [c];rfl,f 0,f 1,f 2⟩
theorem ZsX(s:Str)(w:World)(hs:s.length<=1000000000)(hM:Zz w):Calls prog 341 #[.string ⟨s.toArray⟩] w fun e w'=>Zpd w s e w':=by
 have HM:=h_ (fun V (h:Below w.heap.size w V)=>hM.below h);have HCUT:=h_ (fun (t:Str) (c:ByteArray) V (ht:t.length<=1000000000) (h:Zz V)=>show Calls prog 78 #[.string ⟨t.toArray⟩,.string c] V fun e w' =>
   e=.returned (.tuple #[.string ⟨(Lib.cut t c.data.toList).1.toArray⟩,.string ⟨(Lib.cut t c.data.toList).2.1.toArray⟩,.bool (Lib.cut t c.data.toList).2.2])/\∃n,w'=V.drewN n by
  obtain ⟨m,hm⟩:=h;exact Tryz.strings_Cut ⟨t.toArray⟩ c m V (by show t.toArray.size<_;simp;omega) hm)
 have HNUM:=h_ (fun (t:Str) V (ht:t.length<=1000000000)=>ZiL ⟨t.toArray⟩ V (by show t.toArray.size<=_;simp;omega) (Jk t).1 (Jk t).2 rfl);obtain ⟨c1,c2,q,hcut⟩:∃c1 c2 q,Lib.cut s [47]=(c1,c2,q):=⟨_,_,_,rfl⟩;have hcl:=Zg5 s [47];rw [hcut] at hcl;simp only at hcl;have HC1:=h_ (HCUT.out s ⟨#[47]⟩);change Hid (∀V,_->Zz V->Calls _ _ _ V fun e w'=>e=.returned (.tuple #[.string ⟨(Lib.cut s [47]).1.toArray⟩,.string ⟨(Lib.cut s [47]).2.1.toArray⟩,.bool (Lib.cut s [47]).2.2])/\_) at HC1;rw [hcut] at HC1;have hl1:c1.length<=1000000000:=o_;have hl2:c2.length<=1000000000:=o_;have HPS:=h_ (show YM s=if q=true then (if (Jk c2).2=false\/(Jk c2).1=0 then none else Zd6 c1 (Jk c2).1) else Zd6 c1 0 by unfold YM;rw [hcut]);let w0:=(w.alloc (.cells #[.int .i64 0,.int .i64 0,.int .i64 0] 300)).alloc (.cells #[.int .i64 (-1),.int .i64 (-1),.int .i64 0] 300);have hB0:Below w.heap.size w w0:=(b_.alloc l_ _).alloc s_ _;have HX0:=h_ (show w0.heap[w.heap.size]?=some (.cells #[.int .i64 0,.int .i64 0,.int .i64 0] 300 (0,0)) from heap_alloc (heap_alloc_new w _) _);have HP0:=h_ (show w0.heap[w.heap.size+1]?=some (.cells #[.int .i64 (-1),.int .i64 (-1),.int .i64 0] 300 (0,0)) from by
  have:=heap_alloc_new (w.alloc (.cells #[.int .i64 0,.int .i64 0,.int .i64 0] 300)) (.cells #[.int .i64 (-1),.int .i64 (-1),.int .i64 0] 300)
  rw [show (w.alloc (.cells #[.int .i64 0,.int .i64 0,.int .i64 0] 300)).heap.size=w.heap.size+1 by simp] at this;exact this)
 have HB0:=h_ hB0;unfold Zpd;clear hB0 hcut hcl hM;go_enter func341,ntmps341;go_wp2_with fail;refine (HC1.out w0 hs (HM.out _ HB0.out)).mono ?_;rintro e w1 ⟨rfl,n1,rfl⟩;have HB1:=h_ (HB0.out.trans (show Below w.heap.size w0 (w0.drewN n1) from Ze ⟨_,rfl⟩));have HX1:=h_ (show (w0.drewN n1).heap[w.heap.size]?=_ from HX0.out);have HP1:=h_ (show (w0.drewN n1).heap[w.heap.size+1]?=_ from HP0.out);clear HB0 HX0 HP0 HC1;generalize w0.drewN n1=w1 at *;clear w0;cases q with
 |false=>
  have HPB:=h_ (show YM s=Zd6 c1 0 by rw [HPS.out];simp);clear HPS;obtain ⟨x0,x1,x2,y0,y1,y2⟩:=Xy HX1.out;obtain ⟨p0,p1,p2,r0,r1,r2⟩:=Xy HP1.out;cases hst:(c1==[42]) with
  |true=>
   have HR:=h_ (show YM s=some ⟨-1,-1,0⟩ by rw [HPB.out];unfold Zd6;rw [if_pos (eq_of_beq hst)]);clear HPB;go_wp2_with fail;refine bodyPost_ret (v:=.tuple #[.agg #[.int .i64 (-1),.int .i64 (-1),.int .i64 0],.bool (YM s).isSome]) ?_ rfl ⟨⟨(-1),(-1),0⟩,rfl,?_,?_⟩
   ·exact m31_
   ·exact m32_
   ·exact (HB1.out.setCell l_ _).setCell l_ _ |>.setCell l_ _
  |false=>
   obtain ⟨d1,d2,g,hd⟩:∃d1 d2 g,Lib.cut c1 [46,46]=(d1,d2,g):=⟨_,_,_,rfl⟩;have hdl:=Zg5 c1 [46,46];rw [hd] at hdl;simp only at hdl;have HC2:=h_ (HCUT.out c1 ⟨#[46,46]⟩);change Hid (∀V,_->Zz V->Calls _ _ _ V fun e w'=>e=.returned (.tuple #[.string ⟨(Lib.cut c1 [46,46]).1.toArray⟩,.string ⟨(Lib.cut c1 [46,46]).2.1.toArray⟩,.bool (Lib.cut c1 [46,46]).2.2])/\_) at HC2;rw [hd] at HC2;have hne:¬c1=[42]:=by rw [c11_] at hst;exact hst
   have HPC:=h_ (show YM s=if (Jk d1).2=false then none else if g=true then (if (Jk d2).2=true then some ⟨(Jk d1).1,(Jk d2).1,0⟩ else none) else some ⟨(Jk d1).1,-1,0⟩ by rw [HPB.out];unfold Zd6;rw [if_neg hne,hd]);have HN1:=h_ (fun V=>HNUM.out d1 V o_);have HN2:=h_ (fun V=>HNUM.out d2 V o_);obtain ⟨v1,b1,hv1⟩:∃v b,Jk d1=(v,b):=⟨_,_,rfl⟩;obtain ⟨v2,b2,hv2⟩:∃v b,Jk d2=(v,b):=⟨_,_,rfl⟩;rw [hv1] at HN1 HPC;rw [hv2] at HN2 HPC;clear hd hdl hne hv1 hv2 HPB;go_wp2_with fail;refine (HC2.out w1 hl1 (HM.out _ HB1.out)).mono ?_;rintro e w2 ⟨rfl,n2,rfl⟩;have HB2:=h_ (HB1.out.trans (show Below w.heap.size w1 (w1.drewN n2) from Ze ⟨_,rfl⟩));have HX2:=h_ (show (w1.drewN n2).heap[w.heap.size]?=_ from HX1.out);have HP2:=h_ (show (w1.drewN n2).heap[w.heap.size+1]?=_ from HP1.out);clear HC2 HX1 HP1 HB1;clear x0 x1 x2 y0 y1 y2 p0 p1 p2 r0 r1 r2;generalize w1.drewN n2=w2 at *;go_wp2_with fail;refine (HN1.out w2).mono ?_;rintro e w3 ⟨rfl,hb3⟩;have HB3:=h_ (HB2.out.trans (hb3.mono HB2.out.size));have HX3:=h_ (Za HX2.out hb3);have HP3:=h_ (Za HP2.out hb3);clear hb3 HX2 HP2 HB2 HN1;obtain ⟨x0,x1,x2,y0,y1,y2⟩:=Xy HX3.out;obtain ⟨p0,p1,p2,r0,r1,r2⟩:=Xy HP3.out;cases b1 with
   |false=>
    have HR:=h_ (show YM s=none by rw [HPC.out];simp);exact m39_
   |true=>
    cases g with
    |false=>
     have HR:=h_ (show YM s=some ⟨v1,-1,0⟩ by rw [HPC.out];simp);exact m39_
    |true=>
     have hW:=HB3.out.setCell (p:=⟨w.heap.size+1,0,none⟩) s_ (.int .i64 v1);have hX:=ZC HX3.out (a:=⟨w.heap.size+1,0,none⟩) s_ (.int .i64 v1);have hP:=heap_setCell HP3.out 0 (.int .i64 v1);have HWk:=h_ hW;have HXk:=h_ hX;have HPk:=h_ (show (w3.setCell ⟨w.heap.size+1,0,none⟩ (.int .i64 v1)).heap[w.heap.size+1]?=some (.cells #[.int .i64 v1,.int .i64 (-1),.int .i64 0] 300 (0,0)) from hP);clear hW hX hP;go_wp2_with fail;refine (HN2.out (w3.setCell ⟨w.heap.size+1,0,none⟩ (.int .i64 v1))).mono ?_;rintro e w4 ⟨rfl,hb4⟩;have HB4:=h_ (HWk.out.trans (hb4.mono HWk.out.size));have HX4:=h_ (Za HXk.out hb4);have HP4:=h_ (Za HPk.out hb4);clear x0 x1 x2 y0 y1 y2 p0 p1 p2 r0 r1 r2;clear hb4 HX3 HP3 HB3 HN2 HWk HXk HPk;obtain ⟨x0,x1,x2,y0,y1,y2⟩:=Xy HX4.out;obtain ⟨p0,p1,p2,r0,r1,r2⟩:=Xy HP4.out;cases b2 with
     |false=>
      have HR:=h_ (show YM s=none by rw [HPC.out];simp);exact m41_
     |true=>
      have HR:=h_ (show YM s=some ⟨v1,v2,0⟩ by rw [HPC.out];simp);exact m41_
 |true=>
  have HN0:=h_ (fun V=>HNUM.out c2 V hl2);obtain ⟨v0,b0,hv0⟩:∃v b,Jk c2=(v,b):=⟨_,_,rfl⟩;rw [hv0] at HN0 HPS;clear hv0;go_wp2_with fail;refine (HN0.out w1).mono ?_;rintro e w2 ⟨rfl,hb2⟩;have HB2:=h_ (HB1.out.trans (hb2.mono HB1.out.size));have HX2:=h_ (Za HX1.out hb2);have HP2:=h_ (Za HP1.out hb2);clear hb2 HX1 HP1 HB1 HN0;obtain ⟨x0,x1,x2,y0,y1,y2⟩:=Xy HX2.out;obtain ⟨p0,p1,p2,r0,r1,r2⟩:=Xy HP2.out;cases b0 with
  |false=>
   have HR:=h_ (show YM s=none by rw [HPS.out];simp);clear HPS;go_wp2_with fail;refine bodyPost_ret (v:=.tuple #[.agg #[.int .i64 (-1),.int .i64 (-1),.int .i64 v0],.bool (YM s).isSome]) ?_ rfl ⟨⟨(-1),(-1),v0⟩,rfl,?_,?_⟩
   ·exact m31_
   ·exact m32_
   ·exact m33_
  |true=>
   by_cases hz:v0=0
   ·subst hz
    have HR:=h_ (show YM s=none by rw [HPS.out];simp);clear HPS;go_wp2_with fail;refine bodyPost_ret (v:=.tuple #[.agg #[.int .i64 (-1),.int .i64 (-1),.int .i64 0],.bool (YM s).isSome]) ?_ rfl ⟨⟨(-1),(-1),0⟩,rfl,?_,?_⟩
    ·exact m31_
    ·exact m32_
    ·exact m33_
   ·have hzb:(v0==0)=false:=by rw [c11_];exact hz
    have HPB:=h_ (show YM s=Zd6 c1 v0 by rw [HPS.out];simp [hz]);clear HPS;have hW:=HB2.out.setCell (p:=⟨w.heap.size+1,2,none⟩) s_ (.int .i64 v0);have hX:=ZC HX2.out (a:=⟨w.heap.size+1,2,none⟩) s_ (.int .i64 v0);have hP:=heap_setCell HP2.out 2 (.int .i64 v0);have HB3:=h_ hW;have HX3:=h_ hX;have HP3:=h_ (show (w2.setCell ⟨w.heap.size+1,2,none⟩ (.int .i64 v0)).heap[w.heap.size+1]?=some (.cells #[.int .i64 (-1),.int .i64 (-1),.int .i64 v0] 300 (0,0)) from hP);clear hW hX hP;cases hst:(c1==[42]) with
    |true=>
     have HR:=h_ (show YM s=some ⟨-1,-1,v0⟩ by rw [HPB.out];unfold Zd6;rw [if_pos (eq_of_beq hst)]);clear HPB;go_wp2_with fail;refine bodyPost_ret (v:=.tuple #[.agg #[.int .i64 (-1),.int .i64 (-1),.int .i64 v0],.bool (YM s).isSome]) ?_ rfl ⟨⟨(-1),(-1),v0⟩,rfl,?_,?_⟩
     ·exact m31_
     ·exact m32_
     ·exact (HB3.out.setCell l_ _).setCell l_ _ |>.setCell l_ _
    |false=>
     obtain ⟨d1,d2,g,hd⟩:∃d1 d2 g,Lib.cut c1 [46,46]=(d1,d2,g):=⟨_,_,_,rfl⟩;have hdl:=Zg5 c1 [46,46];rw [hd] at hdl;simp only at hdl;have HC2:=h_ (HCUT.out c1 ⟨#[46,46]⟩);change Hid (∀V,_->Zz V->Calls _ _ _ V fun e w'=>e=.returned (.tuple #[.string ⟨(Lib.cut c1 [46,46]).1.toArray⟩,.string ⟨(Lib.cut c1 [46,46]).2.1.toArray⟩,.bool (Lib.cut c1 [46,46]).2.2])/\_) at HC2;rw [hd] at HC2;have hne:¬c1=[42]:=by rw [c11_] at hst;exact hst
     have HPC:=h_ (show YM s=if (Jk d1).2=false then none else if g=true then (if (Jk d2).2=true then some ⟨(Jk d1).1,(Jk d2).1,v0⟩ else none) else some ⟨(Jk d1).1,-1,v0⟩ by rw [HPB.out];unfold Zd6;rw [if_neg hne,hd]);have HN1:=h_ (fun V=>HNUM.out d1 V o_);have HN2:=h_ (fun V=>HNUM.out d2 V o_);obtain ⟨v1,b1,hv1⟩:∃v b,Jk d1=(v,b):=⟨_,_,rfl⟩;obtain ⟨v2,b2,hv2⟩:∃v b,Jk d2=(v,b):=⟨_,_,rfl⟩;rw [hv1] at HN1 HPC;rw [hv2] at HN2 HPC;clear hd hdl hne hv1 hv2 HPB;go_wp2_with fail;refine (HC2.out (w2.setCell ⟨w.heap.size+1,2,none⟩ (.int .i64 v0)) hl1 (HM.out _ HB3.out)).mono ?_;rintro e w4 ⟨rfl,n4,rfl⟩;have HB4:=h_ (HB3.out.trans (show Below w.heap.size (w2.setCell ⟨w.heap.size+1,2,none⟩ (.int .i64 v0)) ((w2.setCell ⟨w.heap.size+1,2,none⟩ (.int .i64 v0)).drewN n4) from Ze ⟨_,rfl⟩));have HX4:=h_ (show ((w2.setCell ⟨w.heap.size+1,2,none⟩ (.int .i64 v0)).drewN n4).heap[w.heap.size]?=_ from HX3.out);have HP4:=h_ (show ((w2.setCell ⟨w.heap.size+1,2,none⟩ (.int .i64 v0)).drewN n4).heap[w.heap.size+1]?=_ from HP3.out);clear HC2 HX3 HP3 HB3;clear x0 x1 x2 y0 y1 y2 p0 p1 p2 r0 r1 r2;generalize (w2.setCell ⟨w.heap.size+1,2,none⟩ (.int .i64 v0)).drewN n4=w4 at *;go_wp2_with fail;refine (HN1.out w4).mono ?_;rintro e w5 ⟨rfl,hb5⟩;have HB5:=h_ (HB4.out.trans (hb5.mono HB4.out.size));have HX5:=h_ (Za HX4.out hb5);have HP5:=h_ (Za HP4.out hb5);clear hb5 HX4 HP4 HB4 HN1;obtain ⟨x0,x1,x2,y0,y1,y2⟩:=Xy HX5.out;obtain ⟨p0,p1,p2,r0,r1,r2⟩:=Xy HP5.out;cases b1 with
     |false=>
      have HR:=h_ (show YM s=none by rw [HPC.out];simp);exact m38_
     |true=>
      cases g with
      |false=>
       have HR:=h_ (show YM s=some ⟨v1,-1,v0⟩ by rw [HPC.out];simp);exact m38_
      |true=>
       have hW:=HB5.out.setCell (p:=⟨w.heap.size+1,0,none⟩) s_ (.int .i64 v1);have hX:=ZC HX5.out (a:=⟨w.heap.size+1,0,none⟩) s_ (.int .i64 v1);have hP:=heap_setCell HP5.out 0 (.int .i64 v1);have HWk:=h_ hW;have HXk:=h_ hX;have HPk:=h_ (show (w5.setCell ⟨w.heap.size+1,0,none⟩ (.int .i64 v1)).heap[w.heap.size+1]?=some (.cells #[.int .i64 v1,.int .i64 (-1),.int .i64 v0] 300 (0,0)) from hP);clear hW hX hP;go_wp2_with fail;refine (HN2.out (w5.setCell ⟨w.heap.size+1,0,none⟩ (.int .i64 v1))).mono ?_;rintro e w6 ⟨rfl,hb6⟩;have HB6:=h_ (HWk.out.trans (hb6.mono HWk.out.size));have HX6:=h_ (Za HXk.out hb6);have HP6:=h_ (Za HPk.out hb6);clear x0 x1 x2 y0 y1 y2 p0 p1 p2 r0 r1 r2;clear hb6 HX5 HP5 HB5 HN2 HWk HXk HPk;obtain ⟨x0,x1,x2,y0,y1,y2⟩:=Xy HX6.out;obtain ⟨p0,p1,p2,r0,r1,r2⟩:=Xy HP6.out;cases b2 with
       |false=>
        have HR:=h_ (show YM s=none by rw [HPC.out];simp);exact m40_
       |true=>
        have HR:=h_ (show YM s=some ⟨v1,v2,v0⟩ by rw [HPC.out];simp);exact m40_
end Go.Proofs.YtmgmbeipbeknaaaGreatDoor
