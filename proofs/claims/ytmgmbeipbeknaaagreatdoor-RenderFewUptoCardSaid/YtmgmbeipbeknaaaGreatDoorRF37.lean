import Derived.Test.YtmgmbeipbeknaaaGreatDoorRF4
import Derived.Test.YtmgmbeipbeknaaaGreatDoorRF26
import Derived.Test.YtmgmbeipbeknaaaGreatDoorRF36
namespace Go.Proofs.YtmgmbeipbeknaaaGreatDoor
open Go.Proofs.Tryz
open Go Go.RowKit
set_option linter.unusedVariables false
set_option linter.unusedSimpArgs false
set_option maxHeartbeats 16000000
set_option maxRecDepth 100000
theorem m89_{p:Prop}(h:p:=by exact (HB8.trans (hf9.below _ HB8.size (fun k hk e=>by omega))).trans (hend.2.2.below _ (Nat.le_trans HB8.size hf9.size) (fun k hk e=>by omega))):p:=h
structure Ye(w:World)(cs:Array Value)(u:UV):Prop where
 size:cs.size=35
 fld:∀j v,cs[j]?=some v->Yu w (fun _=>True) (u j) v
theorem Ye.below{w w':World}{cs:Array Value}{u:UV}(h:Ye w cs u)(hb:Below w.heap.size w w'):Ye w' cs u:=
 ⟨h.size,fun j v hv=>(h.fld j v hv).fr (M:=fun _=>False) (Fr.of_below hb _) (fun _ _ e=>e)⟩
theorem YD.rd{w:World}{U:Nat}{cs:Array Value}{F:Nat->Nat->Prop}{u:UV}(h:YD w U cs F u):Ye w cs u:=⟨h.size,fun j v hv=>(h.fld j v hv).mono (fun _ _=>trivial)⟩
theorem Ye.zero(w:World):Ye w Zf Zy:=by
 rw [<-Zm9];refine ⟨by simp [Z6],fun j v hv=>?_⟩;have hj:j<35:=by have:=(Array.getElem?_eq_some_iff.1 hv).1;simpa [Z6] using this
 have:v=Zli (Zy j):=by
  simp only [Z6,List.getElem?_toArray,List.getElem?_map,List.getElem?_range hj,Option.map_some] at hv;injection hv with hv;exact hv.symm
 rw [this];exact (ZhM w _ (Zar j)).mono (fun _ h=>h.elim)
theorem Yu.one{w:World}{F:Nat->Prop}:∀{c:UC} {v:Value},Yu w F c v->v.oneCell'=true
 |.s _,_,h=>by rw [show _=_ from h];rfl
 |.n _,_,h=>by rw [show _=_ from h];rfl
 |.b _,_,h=>by rw [show _=_ from h];rfl
 |.ss _,_,h=>n37_
 |.ns _,_,h=>n37_
 |.rs _,_,h=>n37_
 |.ps _,_,h=>n37_
 |.cs _,_,h=>by obtain ⟨_,_,h,_⟩:=h;obtain ⟨_,_,rfl⟩:=ownsRow_form h;rfl
theorem Ye.one{w:World}{cs:Array Value}{u:UV}(h:Ye w cs u):(cs.all fun x=>x.oneCell')=true:=by
 rw [Array.all_eq_true];intro i hi;exact (h.fld i _ (Array.getElem?_eq_getElem hi)).one
theorem Znt{P:Program}{w:World}{fn:Func}{tmps:Array Value}(a b:Nat)(t t2:TypeId)(ba bb:Nat)(v v2:Value)(hf:fn.results=#[.cell a t,.cell b t2])(ha:tmps.getD a undef=.pointer (some ⟨ba,0,none⟩))(hb:tmps.getD b undef=.pointer (some ⟨bb,0,none⟩))
  (hl:(loadVar t ⟨ba,0,none⟩).run P w=.ok v w) (hl2:(loadVar t2 ⟨bb,0,none⟩).run P w=.ok v2 w):Sem.run P (results fn tmps) w=.ok (.tuple #[v,v2]) w:=by
 unfold results;have hA:(asAddr (.pointer (some ⟨ba,0,none⟩))).run P w=.ok ⟨ba,0,none⟩ w:=rfl;have hB:(asAddr (.pointer (some ⟨bb,0,none⟩))).run P w=.ok ⟨bb,0,none⟩ w:=rfl;rw [hf];simp only [List.mapM_toArray,List.mapM_cons,List.mapM_nil,ha,hb,Sem.run_bind,hA,hB,hl,hl2,Sem.run_pure,Result.andThen_ok,map_eq_pure_bind];rfl
theorem JG{P:Program}{w:World}{fn:Func}{R:Ending->World->Prop}{x:Act}(a b:Nat)(t t2:TypeId)(ba bb:Nat)(v v2:Value)(hf:fn.results=#[.cell a t,.cell b t2])(hd:x.defers=[])(ha:x.tmps.getD a undef=.pointer (some ⟨ba,0,none⟩))(hb:x.tmps.getD b undef=.pointer (some ⟨bb,0,none⟩))
  (hl:(loadVar t ⟨ba,0,none⟩).run P w=.ok v w) (hl2:(loadVar t2 ⟨bb,0,none⟩).run P w=.ok v2 w) (h:R (.returned (.tuple #[v,v2])) w):bodyPost P fn R .ret x w:=
 ⟨hd,.tuple #[v,v2],Znt a b t t2 ba bb v v2 hf ha hb hl hl2,h⟩
theorem Zkj{a:Act}{w:World}{o:Oper}(ho:o.op=Op.build 28 #[]):(execOp a.eval o).run prog w=.ok (.value (.agg Zf)) w:=by
 unfold execOp;simp only [ho]
 have:=YU w
 simp only [List.map_toArray,List.map_nil,Sem.run_bind,this];rfl
theorem ZfO{nm:Str}{kind:Int}{u r:UV}{x:Ln}(h:YL nm kind u x=.ok r):∃k∈Ze,∃v,r=u.upd (Zc k.name) (Zi nm k v (u (Zc k.name)))/\Qi r=false:=by
 unfold YL at h;split at h
 ·cases h
 ·rename_i v hv
  split at h
  ·cases h
  ·split at h
   ·cases h
   ·rename_i k hk
    split at h
    ·cases h
    ·split at h
     ·cases h
     ·rename_i hl
      injection h with h
      subst h;exact ⟨k,Ze8 _ _ k hk,v,rfl,by simpa using hl⟩
theorem ZoX:(List.range 35).all (fun j=>Qt.contains j||j==4||decide ((Zy j).tag<3))=true:=n4_
theorem Zqj(j:Nat)(h:j∉Qt)(h4:¬j=4):(Zy j).tag<3:=by
 by_cases hj:j<35
 ·have:=List.all_eq_true.1 ZoX j (List.mem_range.2 hj)
  simp only [Bool.or_eq_true,beq_iff_eq,decide_eq_true_eq,List.contains_iff_mem] at this;rcases this with (h1|h1)|h1
  ·exact absurd h1 h
  ·exact absurd h1 h4
  ·exact h1
 ·unfold Zy
  rw [if_neg o_,if_neg o_,if_neg o_,if_neg o_,if_neg o_,if_neg o_,if_neg o_];decide
theorem ZqW{u:UV}(hT:Zz u)(hl:Qi u=false)(j:Nat):(u j).len<=100000:=by
 have h:=(ZmP u).1 hl j;unfold ZiO at h;split at h
 ·have:=of_decide_eq_false h;omega
 ·rename_i h4
  by_cases hc:Qt.contains j=true
  ·rw [hc] at h
   simp only [Bool.true_and] at h
   have:=of_decide_eq_false h;omega
  ·have h0:(u j).tag<3:=by
    rw [hT j];exact Zqj j (fun h=>hc (List.contains_iff_mem.2 h)) h4
   generalize u j=c at h0⊢;cases c<;>simp [UC.tag,UC.len] at h0⊢
theorem XA{w:World}{b:Nat}{x y:Value}{T:TypeId}(h:w.heap[b]?=some (.cells #[x,y] T (0,0))):w.cell? ⟨b,0,none⟩=some x/\w.cell? ⟨b,1,none⟩=some y/\w.frozen? ⟨b,0,none⟩=false/\w.frozen? ⟨b,1,none⟩=false/\w.shape? b=some (T,2):=
 ⟨n17_,n17_,(rd h).2.1 0,(rd h).2.1 1,(rd h).2.2.1⟩
theorem Zbo{w9:World}{U0 FB:Nat}{cs9:Array Value}(h9:w9.heap[U0]?=some (.cells cs9 28 (0,0)))(hF9:w9.heap[FB]?=some (.cells #[.int .i64 0,.int .i64 0] 37 (0,0)))(hne:U0≠FB)(c a:Int)(h35:cs9.size=35:=by rfl) :
  (loadVar 28 ⟨U0,0,none⟩).run prog ((w9.setCell ⟨FB,0,none⟩ (.int .i64 c)).setCell ⟨FB,1,none⟩ (.int .i64 a))=.ok (.agg cs9) ((w9.setCell ⟨FB,0,none⟩ (.int .i64 c)).setCell ⟨FB,1,none⟩ (.int .i64 a))/\
  (loadVar 37 ⟨FB,0,none⟩).run prog ((w9.setCell ⟨FB,0,none⟩ (.int .i64 c)).setCell ⟨FB,1,none⟩ (.int .i64 a))=.ok (.agg #[.int .i64 c,.int .i64 a]) ((w9.setCell ⟨FB,0,none⟩ (.int .i64 c)).setCell ⟨FB,1,none⟩ (.int .i64 a))/\
  Fr (fun k=>k=FB) w9 ((w9.setCell ⟨FB,0,none⟩ (.int .i64 c)).setCell ⟨FB,1,none⟩ (.int .i64 a)):=by
 have e1:=Zw (Zw h9 (a:=⟨FB,0,none⟩) hne (.int .i64 c)) (a:=⟨FB,1,none⟩) hne (.int .i64 a);have e2:=heap_setCell (heap_setCell hF9 0 (.int .i64 c)) 1 (.int .i64 a);refine ⟨Xe 28 _ rfl rfl (by rw [h35];rfl) e1,Xe 37 _ rfl rfl rfl e2,?_⟩;exact Fr.setCell (M:=fun k=>k=FB) (Fr.setCell (M:=fun k=>k=FB) (Fr.refl _ _) (p:=⟨FB,0,none⟩) (fun _=>rfl) _) (p:=⟨FB,1,none⟩) (fun _=>rfl) _
theorem Zby(u:UV)(j:Nat)(hj:j<35):(Z6 u)[j]?=some (Zli (u j)):=by
 simp only [Z6,List.getElem?_toArray,List.getElem?_map,List.getElem?_range hj,Option.map_some]
theorem ZoV(w:World)(u:UV)(h:∀j,(u j).len=0):Ye w (Z6 u) u:=by
 refine ⟨by simp [Z6],fun j v hv=>?_⟩;have hj:j<35:=by have:=(Array.getElem?_eq_some_iff.1 hv).1;simpa [Z6] using this
 rw [Zby u j hj] at hv;injection hv with hv
 rw [<-hv];exact (ZhM w _ (h j)).mono (fun _ h=>h.elim)
theorem ZnS(nm:Str):ZL nm 1=.n (ZB nm:Nat):=by
 unfold ZL;split
 ·rename_i h;rw [h];rfl
 ·simp only
  split
  ·rfl
  ·split<;>rfl
theorem ZnM(nm:Str)(h:ZB nm≠0):ZL nm 0=.s nm:=by
 unfold ZL;rw [if_neg h];split
 ·rfl
 ·split<;>rfl
def ZeH(w:World)(r:UV×(Int×Int))(e:Ending)(w':World):Prop:=
 Below w.heap.size w w'/\∃cs,e=.returned (.tuple #[.agg cs,.agg #[.int .i64 r.2.1,.int .i64 r.2.2]])/\Ye w' cs r.1
theorem Zdq(nm:Str)(l:List Ln)(oa:Option Addr)(cap:Nat)(w:World)(hM:Zt w)(hr:Zx ZU 4 w oa l)(hl:l.length<=4294967296)(hx:∀x∈l,x.val.length<=1000000000/\∀v,Xm x.val nm=.ok v->v.length<=500000000)(hnm:nm.length<=500000000) :
  Calls prog 15 #[.string ⟨nm.toArray⟩,.slice oa l.length cap] w fun e w'=>ZeH w (Z9 nm l) e w':=by
 have HM:=h_ hM;have HR:=h_ hr;have HX:=h_ hx;obtain ⟨kind,hkind⟩:∃kind,ZB nm=kind:=⟨_,rfl⟩;have hkl:kind<=4:=by rw [<-hkind];exact ZcN nm
 have HK:=h_ hkind;have hk1:ZL nm 1=.n (kind:Nat):=by rw [<-hkind];exact ZnS nm
 have HK1:=h_ hk1;have HN:=h_ (fun W (h:Below w.heap.size w W)=>ZeE nm W o_ (hM.below h));have Z0:=h_ ZiC;have Z1:=h_ (Ye.one (ZoV w (ZL nm) (Zc2 nm)));obtain ⟨bb,hbb⟩:∃bb,Zcb nm=bb:=⟨_,rfl⟩;have HBB:=h_ hbb;have HBR:=h_ (fun W (h:Below w.heap.size w W)=>Zj9 ⟨nm.toArray⟩ W (by show nm.toArray.size<_;simp;omega) (hM.below h) bb hbb);clear hM hr hx hkind hk1 hbb;go_enter func15,ntmps15;go_wp2_with (refine YR rfl _ Zf rfl (ZE _) ?_;intro w1 h1 hb1);have hBf:Below w1.heap.size w1 (w1.alloc (.cells #[.int .i64 0,.int .i64 0] 37)):=b_.alloc l_ _;have hbf:=Below.more hb1 hBf;have HF1:=h_ (heap_alloc_new w1 (.cells #[.int .i64 0,.int .i64 0] 37));have HU1:=h_ (Za h1 hBf);refine (HN.out _ hbf).mono ?_;rintro e w2 ⟨rfl,hb2⟩;have HB2:=h_ (Below.more hbf hb2);have HU2:=h_ (Za HU1.out hb2);have HF2:=h_ (Za HF1.out hb2);have hl0:w.heap.size<w1.heap.size:=Zb h1;have hl1:w1.heap.size<w2.heap.size:=Zb HF2.out;obtain ⟨FB,hFB⟩:=e_ w1.heap.size;rw [<-hFB] at HF2 hl0 hl1⊢;clear hb1 h1 hBf hbf hb2 HU1 HF1 hFB;have HSV:=h_ (show (Z6 (ZL nm)).size=35 by simp [Z6]);have HSI:=h_ (show (prog.info? 28).map (·.size)=some (Z6 (ZL nm)).size by rw [HSV.out];rfl);have HSS:=h_ (show Zf.size=(Z6 (ZL nm)).size by rw [HSV.out];rfl);have HKC:=h_ (show (Z6 (ZL nm))[1]?=some (.int .i64 (kind:Nat)) by rw [Zby _ 1 d_,HK1.out];rfl);have HZ:=h_ (show ∀w3 w4:World,Below w2.heap.size w2 w3->Fr (fun x=>x=w2.heap.size) w3 w4->w4.heap[w.heap.size]?=some (.cells Zf 28 (0,0))/\w4.heap[FB]?=some (.cells #[.int .i64 0,.int .i64 0] 37 (0,0))/\Below w.heap.size w w4 from by
  intro w3 w4 hb3 hf4;have e1:=Za HU2.out hb3;have e2:=Za HF2.out hb3;refine ⟨hf4.heap e1 o_,hf4.heap e2 o_,HB2.out.trans ?_⟩;exact (hb3.mono o_).trans (hf4.below _ (by have:=hb3.size;omega) (fun k hk e=>by omega)))
 have hneF:FB≠w.heap.size:=o_;have hneF2:¬FB=w.heap.size:=o_;by_cases hk0:kind=0
 ·subst hk0
  have HRES:=h_ (show Z9 nm l=(Zy,(5,0)) by unfold Z9;rw [if_pos (.inl HK.out)]);go_wp2_with (first
   |(refine YR rfl _ Zf rfl (ZE _) ?_;intro w3 h3 hb3)
   |(refine Yk rfl 28 _ _ w2.heap.size (Z6 (ZL nm)) Zf 28 rfl rfl rfl h3 HSS.out HSI.out Z1.out ?_;intro w4 h4 hf4;have hc1:=((rd h4).1 1).trans HKC.out;have hu:=(HZ.out w3 w4 hb3 hf4).1;have hF:=(HZ.out w3 w4 hb3 hf4).2.1;have hB4:=(HZ.out w3 w4 hb3 hf4).2.2)
   |(refine XF rfl _ #[] #[] _ rfl s_ (YU _) ?_)
   |(refine Yk rfl 28 _ _ w.heap.size Zf Zf 28 rfl rfl rfl hu rfl rfl Z0.out ?_;intro w9 h9 hf9;have hF9:=hf9.heap hF hneF2;obtain ⟨g0,g1,g2,g3,g4⟩:=XA hF9))
  have hend:=Zbo h9 hF9 hneF.symm 5 0;refine JG 4 5 28 37 w.heap.size FB _ _ rfl rfl rfl rfl hend.1 hend.2.1 ⟨?_,Zf,by rw [HRES.out],by rw [HRES.out];exact Ye.zero _⟩;exact (hB4.trans (hf9.below _ hB4.size (fun k hk e=>by omega))).trans (hend.2.2.below _ (Nat.le_trans hB4.size hf9.size) (fun k hk e=>by omega))
 ·have hk2:(((kind:Nat):Int)==0)=false:=n11_
  cases bb with
  |true=>
   have HRES:=h_ (show Z9 nm l=(Zy,(5,0)) by unfold Z9;rw [if_pos (.inr HBB.out)]);go_wp2_with (first
    |(refine YR rfl _ Zf rfl (ZE _) ?_;intro w3 h3 hb3)
    |(refine Yk rfl 28 _ _ w2.heap.size (Z6 (ZL nm)) Zf 28 rfl rfl rfl h3 HSS.out HSI.out Z1.out ?_;intro w4 h4 hf4;have hc1:=((rd h4).1 1).trans HKC.out;have hu:=(HZ.out w3 w4 hb3 hf4).1;have hF:=(HZ.out w3 w4 hb3 hf4).2.1;have hB4:=(HZ.out w3 w4 hb3 hf4).2.2))
   refine (HBR.out _ hB4).mono ?_;rintro e w5 ⟨rfl,hb5⟩;have hu5:=Za hu hb5;have hF5:=Za hF hb5;have hB5:=hB4.trans (hb5.mono hB4.size);go_wp2_with (first
    |(refine XF rfl _ #[] #[] _ rfl s_ (YU _) ?_)
    |(refine Yk rfl 28 _ _ w.heap.size Zf Zf 28 rfl rfl rfl hu5 rfl rfl Z0.out ?_;intro w9 h9 hf9;have hF9:=hf9.heap hF5 hneF2;obtain ⟨g0,g1,g2,g3,g4⟩:=XA hF9))
   have hend:=Zbo h9 hF9 hneF.symm 5 0;refine JG 4 5 28 37 w.heap.size FB _ _ rfl rfl rfl rfl hend.1 hend.2.1 ⟨?_,Zf,by rw [HRES.out],by rw [HRES.out];exact Ye.zero _⟩;exact (hB5.trans (hf9.below _ hB5.size (fun k hk e=>by omega))).trans (hend.2.2.below _ (Nat.le_trans hB5.size hf9.size) (fun k hk e=>by omega))
  |false=>
   go_wp2_with (first
    |(refine YR rfl _ Zf rfl (ZE _) ?_;intro w3 h3 hb3)
    |(refine Yk rfl 28 _ _ w2.heap.size (Z6 (ZL nm)) Zf 28 rfl rfl rfl h3 HSS.out HSI.out Z1.out ?_;intro w4 h4 hf4;have hc1:=((rd h4).1 1).trans HKC.out;have hu:=(HZ.out w3 w4 hb3 hf4).1;have hF:=(HZ.out w3 w4 hb3 hf4).2.1;have hB4:=(HZ.out w3 w4 hb3 hf4).2.2))
   refine (HBR.out _ hB4).mono ?_;rintro e w5 ⟨rfl,hb5⟩;have HU5:=h_ (Za hu hb5);have HF5:=h_ (Za hF hb5);have HB5:=h_ (hB4.trans (hb5.mono hB4.size));have HO5:=h_ (ZmV (ZL nm) (Zc2 nm) (Za h4 hb5));obtain ⟨UB,hUB⟩:=e_ w2.heap.size;rw [<-hUB] at HO5 hl1⊢;clear hu hF hB4 hb5 h4 hf4 h3 hb3 hc1 HZ hUB;have HRES:=h_ (show Z9 nm l=(match ZV nm (kind:Nat) (ZL nm) l with
    |.error e=>(Zy,e)
    |.ok u=>if Q7 (kind:Nat) u≠0 then (Zy,(Q7 (kind:Nat) u,0)) else (u,(0,0))) by
     unfold Z9;rw [if_neg (by rw [HK.out,HBB.out];simp;exact hk0),HK.out]<;>rfl)
   go_wp2_with fail;go_loopg [24] (l.length+1) (fun f i wr=>∃(k:Nat) (cs:Array Value) (F:Nat->Nat->Prop) (u:UV),k<=l.length/\i=.int .i64 k/\l.length-k<f/\Hid (YD wr UB cs F u)/\Hid (Zz u)/\Hid (∀j,(u j).len<=100000)/\Hid (u 0=.s nm)/\Hid (u 1=.n (kind:Nat))/\
    Hid (ZV nm (kind:Nat) u (l.drop k)=ZV nm (kind:Nat) (ZL nm) l)/\Hid (wr.heap[w.heap.size]?=some (.cells Zf 28 (0,0)))/\Hid (wr.heap[FB]?=some (.cells #[.int .i64 0,.int .i64 0] 37 (0,0)))/\Hid (Below w.heap.size w wr))
   case atStart=>exact ⟨0,_,_,_,o_,rfl,o_,HO5,Zz.new nm,fun j=>by rw [Zc2];omega,ZnM nm (by rw [HK.out];exact hk0),HK1.out,by rw [List.drop_zero];rfl,HU5,HF5,HB5⟩
   case round=>
    obtain ⟨k,cs,F,u,hk,rfl,hfu,HO,HT,HLN,H0,H1,HQ,HUr,HFr,HBr⟩:=hrel;clear HO5 HU5 HF5 HB5;by_cases hlt:k<l.length
    ·have hz:(k:Int)<(l.length:Int):=o_
     obtain ⟨x,hx⟩:=e_ (l[k]);obtain ⟨b4,o4,rfl,-,hcc⟩:=(HR.out.below HBr.out) k hlt;rw [<-hx] at hcc;have d0:=hcc 0 _ rfl;have d1:=hcc 1 _ rfl;have d2:=hcc 2 _ rfl;have d3:=hcc 3 _ rfl;simp only [Nat.add_zero] at d0;have hxm:x.val.length<=1000000000/\∀v,Xm x.val nm=.ok v->v.length<=500000000:=by rw [hx];exact HX.out _ (List.getElem_mem hlt)
     have hdr:l.drop k=x::l.drop (k+1):=n54_;have HQ2:=h_ (show ZV nm (kind:Nat) (ZL nm) l=match YL nm (kind:Nat) u x with|.error e=>.error (e,x.at_)|.ok r=>ZV nm (kind:Nat) r (l.drop (k+1)) by rw [<-HQ.out,hdr,ZV]<;>rfl);obtain ⟨xsec,xkey,xval,xat⟩:=x;have hBx:Below wr.heap.size wr (wr.alloc (.cells #[.string ⟨xsec.toArray⟩,.string ⟨xkey.toArray⟩,.string ⟨xval.toArray⟩,.int .i64 xat] 53)):=b_.alloc l_ _;have HBx:=h_ (HBr.out.trans (hBx.mono HBr.out.size));have hOx:=HO.out.below hBx;have HOx:=h_ hOx;have hLn:=ZnQ UB cs F u _ hOx HT.out HLN.out (HM.out.below HBx.out) nm (kind:Nat) H0.out H1.out o_ ⟨xsec,xkey,xval,xat⟩ hxm.1 hxm.2;unfold ZU at hLn;have HLNE:=h_ hLn;have HXB:=h_ (heap_alloc_new wr (.cells #[.string ⟨xsec.toArray⟩,.string ⟨xkey.toArray⟩,.string ⟨xval.toArray⟩,.int .i64 xat] 53));have HUx:=h_ (Za HUr.out hBx);have HFx:=h_ (Za HFr.out hBx);have hwsz:=HBr.out.size;have hUBw:=Zb HO.out.box;have HFw:=h_ (show ∀j b,F j b->b<wr.heap.size from fun j b h=>(HO.out.lt j b h).2);clear hx hdr hcc hxm hBx hOx hLn HUr HFr HO;go_wp2_with fail;refine HLNE.out.mono ?_;intro e w8 hlo;have hUBl:=Zb HOx.out.box;have hnot:∀b,b<UB->¬(b=UB\/∃j,F j b):=by
      rintro b hb (h|⟨j,h⟩)
      ·omega
      ·have:=(HOx.out.lt j b h).1;omega
     have HU8:=h_ (hlo.1.heap HUx.out (hnot _ o_));have HF8:=h_ (hlo.1.heap HFx.out (hnot _ o_));have HX8:=h_ (hlo.1.heap HXB.out (by
      rintro (h|⟨j,h⟩)
      ·omega
      ·have:=HFw.out j _ h;omega))
     have HB8:=h_ (HBx.out.trans (hlo.1.below _ HBx.out.size (fun b hb=>hnot b o_)));obtain ⟨-,hlo⟩:=hlo;cases hres:YL nm (kind:Nat) u ⟨xsec,xkey,xval,xat⟩ with
     |error c=>
      rw [hres] at hlo HQ2;simp only at hlo;subst hlo;have hc0:((c:Int)!=0)=true:=by rw [bne_iff_ne];exact Zhp nm (kind:Nat) u _ c hres
      have HRE:=h_ (show Z9 nm l=(Zy,(c,xat)) by rw [HRES.out,HQ2.out]);have HHS:=h_ (And.intro HU8.out (And.intro HF8.out HX8.out));clear hres hnot;go_wp2_with fail;refine Zh (S:=fun V=>V.heap[w.heap.size]?=some (.cells Zf 28 (0,0))/\V.heap[FB]?=some (.cells #[.int .i64 0,.int .i64 0] 37 (0,0))/\V.heap[wr.heap.size]?=some (.cells #[.string ⟨xsec.toArray⟩,.string ⟨xkey.toArray⟩,.string ⟨xval.toArray⟩,.int .i64 xat] 53 (0,0))) 6 k_ k_ (show _/\_/\_ from HHS.out) (fun hHeld=>?_);refine u_ ?_;refine dT_ (i:=0) (v:=.agg Zf) (gT_ rfl) (fun W hW=>Zkj rfl) (u_ ?_);(iterate 4 refine dN_ 0 (gT_ rfl) (fun W hW=>by obtain ⟨x0,x1,x2,x3⟩:=Zbi hW.2.2;clear hW;go_simp;rfl) (u_ ?_));refine Zn (i:=5) (gT_ rfl) k_ k_ (fun K hK=>?_);clear hHeld;rw [if_pos n13_];refine Qo 28 (.tmp 4) (.tmp 32) w.heap.size Zf Zf 28 rfl rfl rfl (show w8.drew.heap[w.heap.size]?=_ from HHS.out.1) rfl rfl Z0.out ?_;intro w9 h9 hf9;have HU9:=h_ h9;have HF9:=h_ (hf9.heap (show w8.drew.heap[FB]?=_ from HHS.out.2.1) hneF2);have HX9:=h_ (hf9.heap (show w8.drew.heap[wr.heap.size]?=_ from HHS.out.2.2) o_);have HB9:=h_ ((HB8.out.trans (show Below w.heap.size w8 w8.drew from Zd ⟨1,rfl⟩)).trans (hf9.below _ HB8.out.size (fun k hk e=>by omega)));refine hK.out _ _ (show _/\_/\_ from ⟨HU9.out,HF9.out,HX9.out⟩) (fun hHeld=>?_);clear hK K h9 hf9;refine u_ ?_;refine Zv k_ ?_;clear hHeld;obtain ⟨g0,g1,g2,g3,g4⟩:=XA HF9.out;go_wp2_with fail;have hend:=Zbo HU9.out HF9.out hneF.symm c xat;refine JG 4 5 28 37 w.heap.size FB _ _ rfl rfl rfl rfl hend.1 hend.2.1 ⟨?_,Zf,by rw [HRE.out],by rw [HRE.out];exact Ye.zero _⟩;exact HB9.out.trans (hend.2.2.below _ HB9.out.size (fun k hk e=>by omega))
     |ok r=>
      rw [hres] at hlo HQ2;obtain ⟨rfl,cs',F',hO8⟩:=hlo;obtain ⟨kk,hkk,v,hr,hlong⟩:=ZfO hres;have HT8:=h_ (show Zz r from by rw [hr];exact HT.out.upd _ _ (Zcw nm kk hkk v _));have HL8:=h_ (ZqW HT8.out hlong);have H08:=h_ (show r 0=.s nm by rw [hr,UV.upd_ne _ _ (fun e=>(ZmF kk hkk).2.1 e.symm)];exact H0.out);have H18:=h_ (show r 1=.n (kind:Nat) by rw [hr,UV.upd_ne _ _ (fun e=>(ZmF kk hkk).2.2 e.symm)];exact H1.out);have HO8:=h_ hO8;have HQ3:=h_ (show ZV nm (kind:Nat) r (l.drop (k+1))=ZV nm (kind:Nat) (ZL nm) l from HQ2.out.symm);clear hres hr hlong hO8 hnot hkk;go_wp2_with fail;go_roundg (gk-1)
      case measure=>omega
      case rel=>exact ⟨k+1,cs',F',r,o_,n14_,o_,HO8,HT8,HL8,H08,H18,HQ3,HU8,HF8,HB8⟩
    ·have hk3:k=l.length:=o_
     subst hk3;have HQ2:=h_ (show ZV nm (kind:Nat) (ZL nm) l=.ok u by rw [<-HQ.out,List.drop_of_length_le l_];rfl);have hc7:cs[7]?=some (cs[7]' n47_):=Array.getElem?_eq_getElem n47_;have hc1:cs[1]?=some (cs[1]' n47_):=Array.getElem?_eq_getElem n47_;have hf7:=HO.out.fld 7 _ hc7;have hf1:=HO.out.fld 1 _ hc1;rw [H1.out] at hf1;rw [show cs[1]' n47_=Value.int .i64 (kind:Nat) from hf1] at hc1;obtain ⟨t7,ht7⟩:=Zok (HT.out 7);rw [ht7] at hf7;rw [show cs[7]' n47_=Value.int .i64 t7 from hf7] at hc7;obtain ⟨c,hcc⟩:∃c,Q7 (kind:Nat) u=c:=⟨_,rfl⟩;have HWH:=h_ (Zk2 cs u wr (HO.out.lens HT.out) (kind:Nat) t7 hc1 hc7 (by rw [ht7];rfl) HLN.out c hcc);have HSC:=h_ (show (prog.info? 28).map (·.size)=some cs.size by rw [HO.out.size];rfl);have HRE:=h_ (show Z9 nm l=if c≠0 then (Zy,(c,0)) else (u,(0,0)) by rw [HRES.out,HQ2.out];simp only;rw [hcc]);have hbox:=HO.out.box;have hUBl:=Zb hbox;clear hc7 hc1 hf7 hf1 ht7 hcc HQ HQ2 HRES;go_wp2_with (refine X6 rfl 28 _ UB cs 28 _ rfl rfl hbox rfl rfl HSC.out ?_);refine HWH.out.mono ?_;rintro e w8 ⟨rfl,hb8⟩;have hU8:=Za HUr.out hb8;have hF8:=Za HFr.out hb8;have HB8:=HBr.out.trans (hb8.mono HBr.out.size);have HO8:=h_ (HO.out.below hb8);clear hb8;by_cases hc0:c=0
     ·subst hc0
      have hbox8:=HO8.out.box;have HON:=h_ (HO8.out.rd.one);have HSZ0:=h_ (show Zf.size=cs.size by rw [HO8.out.size];rfl);go_wp2_with (first
       |(refine X6 rfl 28 _ UB cs 28 _ rfl rfl hbox8 rfl rfl HSC.out ?_)
       |(refine Yk rfl 28 _ _ w.heap.size cs Zf 28 rfl rfl rfl hU8 HSZ0.out HSC.out HON.out ?_;intro w9 h9 hf9;have hF9:=hf9.heap hF8 hneF2;obtain ⟨g0,g1,g2,g3,g4⟩:=XA hF9))
      have hend:=Zbo h9 hF9 hneF.symm 0 0 HO8.out.size;have hOe:=(HO8.out.fr hf9 o_ (fun j b h e=>by have:=(HO8.out.lt j b h).1;omega)).fr hend.2.2 o_ (fun j b h e=>by have:=(HO8.out.lt j b h).1;omega);refine JG 4 5 28 37 w.heap.size FB _ _ rfl rfl rfl rfl hend.1 hend.2.1 ⟨?_,cs,by rw [HRE.out];rfl,by rw [HRE.out,if_neg (fun h=>h rfl)];exact hOe.rd⟩;exact m89_
     ·have hc1:((c:Int)!=0)=true:=by rw [bne_iff_ne];exact hc0
      go_wp2_with (first
       |(refine XF rfl _ #[] #[] _ rfl s_ (YU _) ?_)
       |(refine Yk rfl 28 _ _ w.heap.size Zf Zf 28 rfl rfl rfl hU8 rfl rfl Z0.out ?_;intro w9 h9 hf9;have hF9:=hf9.heap hF8 hneF2;obtain ⟨g0,g1,g2,g3,g4⟩:=XA hF9))
      have hend:=Zbo h9 hF9 hneF.symm c 0;refine JG 4 5 28 37 w.heap.size FB _ _ rfl rfl rfl rfl hend.1 hend.2.1 ⟨?_,Zf,by rw [HRE.out,if_pos hc0],by rw [HRE.out,if_pos hc0];exact Ye.zero _⟩;exact m89_
theorem Znr(nm:Str)(l:List Ln)(oa:Option Addr)(cap:Nat)(w:World)(hM:Zt w)(hr:Zx ZU 4 w oa l)(hl:l.length<=4294967296)(hx:∀x∈l,x.val.length<=1048576)(hnm:nm.length<=500000000) :
  Calls prog 15 #[.string ⟨nm.toArray⟩,.slice oa l.length cap] w fun e w'=>ZeH w (Z9 nm l) e w' :=
 Zdq nm l oa cap w hM hr hl (fun x h=>⟨by have:=hx x h;omega,fun v hv=>ZoG hv (hx x h)⟩) hnm
structure Kept(lo hi:Nat)(a a':Act):Prop where
 size:a'.tmps.size=a.tmps.size
 defers:a'.defers=a.defers
 slot:∀i,i<lo\/hi<i->a'.tmps[i]?=a.tmps[i]?
theorem Kept.refl(lo hi:Nat)(a:Act):Kept lo hi a a:=⟨rfl,rfl,fun _ _=>rfl⟩
theorem Kept.trans{lo hi:Nat}{a b c:Act}(h:Kept lo hi a b)(k:Kept lo hi b c):Kept lo hi a c:=⟨k.size.trans h.size,k.defers.trans h.defers,fun i hi=>(k.slot i hi).trans (h.slot i hi)⟩
theorem Kept.put{lo hi d:Nat}{a b:Act}(h:Kept lo hi a b)(v:Value)(h1:lo<=d)(h2:d<=hi):Kept lo hi a (b.put (some d) v):=by
 refine ⟨by simp [Act.put,h.size],by simp [Act.put,h.defers],fun i hi=>?_⟩;rw [<-h.slot i hi];simp only [Act.put];rw [Array.getElem?_setIfInBounds_ne o_]
theorem Kept.form{a0 a:Act}(h:Kept 9 125 a0 a)(hs:a0.tmps.size=256):∃us:List Value,us.length=117/\a=⟨(a0.tmps.toList.take 9++us++a0.tmps.toList.drop 126).toArray,a0.defers⟩:=by
 have h1:a.tmps.toList.length=256:=by rw [Array.length_toList,h.size,hs]
 have h0:a0.tmps.toList.length=256:=by rw [Array.length_toList,hs]
 refine ⟨(a.tmps.toList.drop 9).take 117,by rw [List.length_take,List.length_drop,h1];rfl,?_⟩;obtain ⟨t,d⟩:=a;have hd:d=a0.defers:=h.defers;subst hd;congr 1;apply Array.ext_getElem?;intro i;simp only [List.getElem?_toArray];by_cases hi:i<9
 ·rw [List.getElem?_append_left (by rw [List.length_append,List.length_take];omega),List.getElem?_append_left n39_,List.getElem?_take_of_lt hi]
  have:=h.slot i (.inl hi)
  simpa using this
 ·by_cases hi2:i<=125
  ·rw [List.getElem?_append_left (by rw [List.length_append,List.length_take,List.length_take,List.length_drop];simp only at h1;omega),List.getElem?_append_right n39_,List.length_take,h0,List.getElem?_take_of_lt o_,List.getElem?_drop]
   simp only [Array.getElem?_toList];congr 1;omega
  ·rw [List.getElem?_append_right (by rw [List.length_append,List.length_take,List.length_take,List.length_drop];simp only at h1;omega),List.length_append,List.length_take,List.length_take,List.length_drop,h0,List.getElem?_drop]
   have:=h.slot i (.inr o_)
   simp only at this h1;rw [this,h1,Array.getElem?_toList];congr 1;omega
theorem Zj3{a:Act}{d:Nat}(v:Value)(h:d<a.tmps.size):(a.put (some d) v).tmps[d]?=some v:=by
 simp only [Act.put];rw [Array.getElem?_setIfInBounds_self_of_lt h]
theorem Zhy{a:Act}{d i:Nat}(v:Value)(h:i≠d):(a.put (some d) v).tmps[i]?=a.tmps[i]?:=by
 simp only [Act.put];rw [Array.getElem?_setIfInBounds_ne o_]
section
variable {P:Program} {ops:Array Oper} {Q:Exit->Act->World->Prop} {w:World}
theorem ZjG{o:Oper}{y:Nat->Option Bool}(h:o.guard=none):Region.wanted o y=true:=by unfold Region.wanted;rw [h]
theorem ZlQ{o:Oper}{a:Act}{g k:Nat}{c:Bool}(h:o.guard=some (g,c))(hg:(ops[g]?).bind (·.dst)=some k)(hk:a.tmps[k]?=some (.bool c)):Region.wanted o (yielded ops a.tmps)=true:=by
 unfold Region.wanted yielded;rw [h];simp [hg,hk]
theorem ZnR{o:Oper}{a:Act}{g k:Nat}{c:Bool}(h:o.guard=some (g,c))(hg:(ops[g]?).bind (·.dst)=some k)(hk:a.tmps[k]?=some (.bool !c)):¬Region.wanted o (yielded ops a.tmps)=true:=by
 unfold Region.wanted yielded;rw [h];simp [hg,hk]
theorem Yn{o:Oper}{a:Act}{K:Act->World->Prop}{f:FuncId}{args:Array Value}{v:Value}{R:Ending->World->Prop}(hx:(execOp a.eval o).run P w=.ok (.enter f args) w)(hc:Calls P f args w R)(hR:∀e w',R e w'->e=.returned v/\K (a.put o.dst v) w'):Oper.wp P o a w K Q:=by
 unfold Oper.wp;rw [hx,Oper.upon_enter];exact hc.mono (fun e w' h=>by obtain ⟨rfl,k⟩:=hR e w' h;exact k)
end
def Za3{α:Type}(f:Nat->α)(i:Nat)(v:α):Nat->α:=fun j=>if j=i then v else f j
theorem Jg{α:Type}(f:Nat->α)(i:Nat)(v:α):Za3 f i v i=v:=by unfold Za3;rw [if_pos rfl]
theorem Xk{α:Type}(f:Nat->α){i j:Nat}(v:α)(h:j≠i):Za3 f i v j=f j:=by unfold Za3;rw [if_neg h]
def ZiD(N:Nat)(ops:Array Oper):Bool:=
 (List.range ops.size).all fun i=>match ops[i]? with
  |none=>false
  |some o=>o.guard.isNone&&((o.after.all fun e=>!Region.binds .any e||decide (e.on<i))&&((match o.dst with|some d=>decide (d<N)|none=>true)&&((List.range ops.size).all fun j=>i==j||(o.dst.isNone||!((ops[j]?).bind (·.dst)==o.dst)))))
section
variable {P:Program} {ops:Array Oper} {Q:Exit->Act->World->Prop}
theorem Zfc{N:Nat}(h:ZiD N ops=true){i:Nat}{o:Oper}(ho:ops[i]?=some o):o.guard=none/\(∀e∈o.after,Region.binds .any e=true->e.on<i)/\(∀d,o.dst=some d->d<N)/\∀j oj d,ops[j]?=some oj->o.dst=some d->oj.dst=some d->i=j:=by
 have hi:i<ops.size:=(Array.getElem?_eq_some_iff.1 ho).1;have h1:=List.all_eq_true.1 h i (List.mem_range.2 hi);rw [ho] at h1;simp only [Bool.and_eq_true] at h1;obtain ⟨a1,a2,a3,a4⟩:=h1;refine ⟨by simpa using a1,fun e he hb=>?_,fun d hd=>?_,fun j oj d hj hd hd2=>?_⟩
 ·rw [Array.all_eq_true'] at a2
  have:=a2 e he
  rw [hb] at this;exact of_decide_eq_true (by simpa using this)
 ·rw [hd] at a3;exact of_decide_eq_true a3
 ·have hjl:j<ops.size:=(Array.getElem?_eq_some_iff.1 hj).1
  have h2:=List.all_eq_true.1 a4 j (List.mem_range.2 hjl);rw [hj,hd] at h2;simp [hd2] at h2;exact h2
structure Zaq(ops:Array Oper)(a0:Act)(Ψ:(Nat->Bool)->(Nat->Value)->World->Prop)(D:Nat->Bool)(V:Nat->Value)(a:Act)(w:World):Prop where
 tsz:a.tmps.size=a0.tmps.size
 dfr:a.defers=a0.defers
 out:∀k,(∀(i:Nat) (o:Oper),ops[i]?=some o->o.dst=some k->D i=false)->a.tmps[k]?=a0.tmps[k]?
 slot:∀(i:Nat) (o:Oper) (d:Nat),ops[i]?=some o->o.dst=some d->D i=true->a.tmps[d]?=some (V i)
 inv:Ψ D V w
theorem ZqG{a0:Act}{N:Nat}{Ψ:(Nat->Bool)->(Nat->Value)->World->Prop}(hok:ZiD N ops=true)(hN:a0.tmps.size=N)
  (hstep:∀(i:Nat) (o:Oper),ops[i]?=some o->∀(D:Nat->Bool) (V:Nat->Value) (a:Act) (w:World),D i=false->(∀e∈o.after,Region.binds .any e=true->D e.on=true)->Zaq ops a0 Ψ D V a w->
   Oper.wp P o a w (fun a' w'=>∃v,a'=a.put o.dst v/\Ψ (Za3 D i true) (Za3 V i v) w') Q)
  (hend:∀(D:Nat->Bool) (V:Nat->Value) (a:Act) (w:World),(∀i,i<ops.size->D i=true)->Zaq ops a0 Ψ D V a w->Q .normal a w) :
  ∀(f:Nat) (L:List Nat) (b:Array Bool) (V:Nat->Value) (a:Act) (w:World),L.length<=f->b.size=ops.size->(∀i,i<ops.size->b.getD i false=false->i∈L)->Zaq ops a0 Ψ (fun i=>b.getD i false) V a w->wpAny P .any ops Q f b a w:=by
 have hall:∀(b:Array Bool),b.size=ops.size->Region.ready .any ops b=[]->∀i,i<ops.size->b.getD i false=true:=by
  intro b hb hr i;induction i using Nat.strongRecOn with
  |_ i ih=>
   intro hi;cases hq:b.getD i false with
   |true=>rfl
   |false=>
    have hm:i∈Region.ready .any ops b:=by
     refine mem_ready.2 ⟨?_,_,Array.getElem?_eq_getElem hi,fun e he hb=>?_⟩
     ·simp [Array.getD,hb,hi] at hq⊢;exact hq
     ·have:=(Zfc hok (Array.getElem?_eq_getElem hi)).2.1 e he hb
      exact ih _ this o_
    rw [hr] at hm;cases hm
 intro f;induction f with
 |zero=>
  intro L b V a w hL hb hm hI;have hL0:L=[]:=List.eq_nil_of_length_eq_zero o_;subst hL0;have ha:∀i,i<ops.size->b.getD i false=true:=fun i hi=>by
   cases hq:b.getD i false with
   |true=>rfl
   |false=>have:=hm i hi hq;cases this
  refine ⟨?_,hend _ V a w ha hI⟩;rw [List.eq_nil_iff_forall_not_mem];intro i hi;obtain ⟨h1,o,ho,_⟩:=mem_ready.1 hi;have hil:i<ops.size:=(Array.getElem?_eq_some_iff.1 ho).1
  have:=ha i hil
  simp [Array.getD,hb,hil] at h1 this;rw [this] at h1;cases h1
 |succ f ih=>
  intro L b V a w hL hb hm hI;refine ⟨fun hr=>hend _ V a w (hall b hb hr) hI,fun i hi=>?_⟩;obtain ⟨h1,o,ho,hdep⟩:=mem_ready.1 hi;have hil:i<ops.size:=(Array.getElem?_eq_some_iff.1 ho).1;have hi0:b.getD i false=false:=by
   simp [Array.getD,hb,hil] at h1⊢;exact h1
  obtain ⟨hg,_,hd,hinj⟩:=Zfc hok ho;have hw:=hstep i o ho (fun i=>b.getD i false) V a w hi0 hdep hI;unfold wpOp;simp only [ho];rw [if_pos (by unfold Region.wanted;rw [hg])];refine .inl (Oper.wp_mono ?_ hw);rintro a' w' ⟨v,rfl,hΨ⟩;have hset:∀j,(b.setIfInBounds i true).getD j false=Za3 (fun i=>b.getD i false) i true j:=by
   intro j;by_cases e:j=i
   ·subst e;rw [Jg];simp [Array.getD,hb,hil]
   ·rw [Xk _ _ e,getD_set_ne false (Ne.symm e)]
  refine ih (L.erase i) _ (Za3 V i v) _ w' ?_ (by simp [hb]) (fun j hj hq=>?_) ?_
  ·have:=List.length_erase_of_mem (hm i hil hi0)
   have h0:0<L.length:=List.length_pos_of_mem (hm i hil hi0);omega
  ·rw [hset j] at hq
   by_cases e:j=i
   ·subst e;rw [Jg] at hq;cases hq
   ·rw [Xk _ _ e] at hq
    exact (List.mem_erase_of_ne e).2 (hm j hj hq)
  ·have hfun:(fun j=>(b.setIfInBounds i true).getD j false)=Za3 (fun i=>b.getD i false) i true:=funext hset
   rw [hfun];refine ⟨?_,?_,fun k hk=>?_,fun j oj d hj hdj hD=>?_,hΨ⟩
   ·rw [<-hI.tsz];cases o.dst<;>simp [Act.put]
   ·rw [<-hI.dfr];cases o.dst<;>simp [Act.put]
   ·have h:o.dst≠some k:=fun e=>by have:=hk i o ho e;rw [Jg] at this;cases this
    rw [<-hI.out k (fun i' o' ho' e=>by
     have:=hk i' o' ho' e
     by_cases hii:i'=i
     ·subst hii;exact hi0
     ·rw [Xk _ _ hii] at this;exact this)]
    cases ed:o.dst with
    |none=>rfl
    |some d=>rw [ed] at h;exact Zhy v (fun e=>h (by rw [e]))
   ·by_cases e:j=i
    ·subst e
     rw [ho] at hj;injection hj with hj;subst hj
     rw [hdj,Jg];exact Zj3 v (by rw [hI.tsz,hN];exact hd d hdj)
    ·rw [Xk _ _ e] at hD⊢
     rw [<-hI.slot j oj d hj hdj hD];cases ed:o.dst with
     |none=>rfl
     |some d2=>exact Zhy v (fun e2=>e (hinj j oj d2 hj ed (by rw [hdj,e2])).symm)
theorem Zgy{id:Nat}{a:Act}{w:World}{N:Nat}{Ψ:(Nat->Bool)->(Nat->Value)->World->Prop}(hm:P.follows .mixedOrders=true)(hok:ZiD N ops=true)(hN:a.tmps.size=N)(h0:Ψ (fun _=>false) (fun _=>undef) w.drew)
  (hstep:∀(i:Nat) (o:Oper),ops[i]?=some o->∀(D:Nat->Bool) (V:Nat->Value) (a':Act) (w':World),D i=false->(∀e∈o.after,Region.binds .any e=true->D e.on=true)->Zaq ops a Ψ D V a' w'->
   Oper.wp P o a' w' (fun a'' w''=>∃v,a''=a'.put o.dst v/\Ψ (Za3 D i true) (Za3 V i v) w'') Q)
  (hend:∀(D:Nat->Bool) (V:Nat->Value) (a':Act) (w':World),(∀i,i<ops.size->D i=true)->Zaq ops a Ψ D V a' w'->Q .normal a' w'):(Code.region id ops true).wp P Q a w:=by
 refine wp_region_any hm ?_;refine ZqG hok hN hstep hend ops.size (List.range ops.size) _ (fun _=>undef) a _ s_ s_ (fun i hi _=>List.mem_range.2 hi) ?_;have hf:(fun i=>(Array.replicate ops.size false).getD i false)=fun _=>false:=by
  funext i;simp only [Array.getD];split<;>simp
 rw [hf];exact ⟨rfl,rfl,fun _ _=>rfl,fun _ _ _ _ _ h=>n61_,h0⟩
end
theorem Z8{P:Program}{K:Act->World->Prop}{Q:Exit->Act->World->Prop}{a:Act}{w w':World}{o:Oper}(v:Value)(hr:(execOp a.eval o).run P w=.ok (.value v) w')(h:K (a.put o.dst v) w'):Oper.wp P o a w K Q:=by
 unfold Oper.wp;rw [hr,Oper.upon_value];exact h
def nodupB:List Nat->Bool
 |[]=>true
 |x::t=>!(t.contains x)&&nodupB t
def Zih:Nat->List Oper->Bool
 |_,[]=>true
 |n,o::t=>(o.after.all fun e=>!Region.binds .any e||decide (e.on<n))&&Zih (n+1) t
def ZhH(N:Nat)(L:List Nat)(ops:Array Oper):Bool:=(ops.toList.map (·.dst)==L.map some)&&(nodupB L&&(L.all (fun d=>decide (d<N))&&Zih 0 ops.toList))
theorem Zd0:∀(L:List Nat),nodupB L=true->∀(i j d:Nat),L[i]?=some d->L[j]?=some d->i=j
 |[],_,i,j,d,h,_=>by simp at h
 |x::t,hn,i,j,d,hi,hj=>by
  rw [nodupB,Bool.and_eq_true] at hn;have hx:x∉t:=by simpa using hn.1
  rcases i with _|i<;>rcases j with _|j
  ·rfl
  ·simp at hi hj;subst hi;exact absurd (List.mem_of_getElem? hj) hx
  ·simp at hi hj;subst hj;exact absurd (List.mem_of_getElem? hi) hx
  ·rw [Zd0 t hn.2 i j d n60_ n89_]
theorem ZdX:∀(l:List Oper) (n:Nat),Zih n l=true->∀(i:Nat) (o:Oper),l[i]?=some o->∀e∈o.after,Region.binds .any e=true->e.on<n+i
 |[],_,_,i,o,h=>by simp at h
 |x::t,n,hb,i,o,h=>by
  rw [Zih,Bool.and_eq_true] at hb;rcases i with _|i
  ·simp at h;subst h
   intro e he hbe;have h1:=hb.1;rw [Array.all_eq_true'] at h1
   have:=h1 e he
   rw [hbe] at this;exact of_decide_eq_true (by simpa using this)
  ·intro e he hbe
   have:=ZdX t (n+1) hb.2 i o n27_ e he hbe
   omega
section
variable {P:Program} {ops:Array Oper} {Q:Exit->Act->World->Prop}
theorem ZdM{N:Nat}{L:List Nat}(h:ZhH N L ops=true){i:Nat}{o:Oper}(ho:ops[i]?=some o):(∀e∈o.after,Region.binds .any e=true->e.on<i)/\(∃d,o.dst=some d/\d<N)/\∀j oj d,ops[j]?=some oj->o.dst=some d->oj.dst=some d->i=j:=by
 unfold ZhH at h;simp only [Bool.and_eq_true] at h;obtain ⟨h1,h2,h3,h4⟩:=h;have h1:=eq_of_beq h1;have get:∀(i:Nat) (o:Oper),ops[i]?=some o->∃d,L[i]?=some d/\o.dst=some d:=fun i o ho=>by
  have e:(ops.toList.map (·.dst))[i]?=some o.dst:=by simp [ho]
  rw [h1] at e;simp at e;obtain ⟨d,hd,he⟩:=e;exact ⟨d,hd,he.symm⟩
 obtain ⟨d0,hd0,he0⟩:=get i o ho;refine ⟨fun e he hb=>?_,⟨d0,he0,of_decide_eq_true (List.all_eq_true.1 h3 d0 (List.mem_of_getElem? hd0))⟩,fun j oj d hj hd hd2=>?_⟩
 ·have:=ZdX ops.toList 0 h4 i o (by simpa using ho) e he hb
  omega
 ·obtain ⟨d1,hd1,he1⟩:=get j oj hj
  rw [hd] at he0;injection he0 with he0
  rw [hd2] at he1;injection he1 with he1
  exact Zd0 L h2 i j d (by rw [he0];exact hd0) (by rw [he1];exact hd1)
def Zbd(P:Program)(ops:Array Oper)(Q:Exit->Act->World->Prop)(F:Act->Prop)(S:World->Prop)(val:Nat->Value)(i:Nat)(o:Oper):Prop:=
 ∀(a:Act) (w:World),S w->F a->(∀e∈o.after,Region.binds .any e=true->∀oj d,ops[e.on]?=some oj->oj.dst=some d->a.tmps[d]?=some (val e.on))->
  if Region.wanted o (yielded ops a.tmps)=true then Oper.wp P o a w (fun a' w'=>a'=a.put o.dst (val i)/\S w') Q else val i=undef
theorem Zph{a0:Act}{N:Nat}{F:Act->Prop}{S:World->Prop}{val:Nat->Value}{L:List Nat}(hok:ZhH N L ops=true)(hN:a0.tmps.size=N)
  (hF:∀a:Act,(∀k,(∀(i:Nat) (o:Oper),ops[i]?=some o->o.dst≠some k)->a.tmps[k]?=a0.tmps[k]?)->F a)
  (hstep:∀(i:Nat) (o:Oper),ops[i]?=some o->Zbd P ops Q F S val i o)
  (hend:∀(a:Act) (w:World),S w->a.tmps.size=a0.tmps.size->a.defers=a0.defers->(∀k,(∀(i:Nat) (o:Oper),ops[i]?=some o->o.dst≠some k)->a.tmps[k]?=a0.tmps[k]?)->
   (∀(i:Nat) (o:Oper) (d:Nat),ops[i]?=some o->o.dst=some d->a.tmps[d]?=some (val i))->Q .normal a w) :
  ∀(f:Nat) (L:List Nat) (b:Array Bool) (a:Act) (w:World),L.length<=f->b.size=ops.size->(∀i,i<ops.size->b.getD i false=false->i∈L)->S w->a.tmps.size=a0.tmps.size->a.defers=a0.defers->
   (∀k,(∀(i:Nat) (o:Oper),ops[i]?=some o->o.dst≠some k)->a.tmps[k]?=a0.tmps[k]?)->(∀(i:Nat) (o:Oper) (d:Nat),ops[i]?=some o->o.dst=some d->b.getD i false=true->a.tmps[d]?=some (val i))->wpAny P .any ops Q f b a w:=by
 have hall:∀(b:Array Bool),b.size=ops.size->Region.ready .any ops b=[]->∀i,i<ops.size->b.getD i false=true:=by
  intro b hb hr i;induction i using Nat.strongRecOn with
  |_ i ih=>
   intro hi;cases hq:b.getD i false with
   |true=>rfl
   |false=>
    have hm:i∈Region.ready .any ops b:=by
     refine mem_ready.2 ⟨?_,_,Array.getElem?_eq_getElem hi,fun e he hb=>?_⟩
     ·simp [Array.getD,hb,hi] at hq⊢;exact hq
     ·have:=(ZdM hok (Array.getElem?_eq_getElem hi)).1 e he hb
      exact ih _ this o_
    rw [hr] at hm;cases hm
 intro f;induction f with
 |zero=>
  intro L b a w hL hb hm hS h1 h2 h3 h4;have hL0:L=[]:=List.eq_nil_of_length_eq_zero o_;subst hL0;have ha:∀i,i<ops.size->b.getD i false=true:=fun i hi=>by
   cases hq:b.getD i false with
   |true=>rfl
   |false=>have:=hm i hi hq;cases this
  refine ⟨?_,hend a w hS h1 h2 h3 (fun i o d ho hd=>h4 i o d ho hd (ha i (Array.getElem?_eq_some_iff.1 ho).1))⟩;rw [List.eq_nil_iff_forall_not_mem];intro i hi;obtain ⟨h1,o,ho,_⟩:=mem_ready.1 hi;have hil:i<ops.size:=(Array.getElem?_eq_some_iff.1 ho).1
  have:=ha i hil
  simp [Array.getD,hb,hil] at h1 this;rw [this] at h1;cases h1
 |succ f ih=>
  intro L b a w hL hb hm hS h1 h2 h3 h4;refine ⟨fun hr=>hend a w hS h1 h2 h3 (fun i o d ho hd=>h4 i o d ho hd (hall b hb hr i (Array.getElem?_eq_some_iff.1 ho).1)),fun i hi=>?_⟩;obtain ⟨hr1,o,ho,hdep⟩:=mem_ready.1 hi;have hil:i<ops.size:=(Array.getElem?_eq_some_iff.1 ho).1;have hi0:b.getD i false=false:=by
   simp [Array.getD,hb,hil] at hr1⊢;exact hr1
  obtain ⟨_,⟨di,hdi,hdN⟩,hinj⟩:=ZdM hok ho;have hw:=hstep i o ho a w hS (hF a h3) (fun e he hb oj d hj hd=>h4 e.on oj d hj hd (hdep e he hb));have next:∀w',S w'->wpAny P .any ops Q f (b.setIfInBounds i true) (a.put o.dst (val i)) w':=by
   intro w' hS';have hset:∀j,j≠i->(b.setIfInBounds i true).getD j false=b.getD j false:=fun j e=>getD_set_ne false (Ne.symm e)
   rw [hdi];refine ih (L.erase i) _ _ w' ?_ (by simp [hb]) (fun j hj hq=>?_) hS' (by rw [<-h1];simp [Act.put]) (by rw [<-h2];simp [Act.put]) (fun k hk=>?_) (fun j oj d hj hd hq=>?_)
   ·have:=List.length_erase_of_mem (hm i hil hi0)
    have h0:0<L.length:=List.length_pos_of_mem (hm i hil hi0);omega
   ·by_cases e:j=i
    ·subst e;simp [Array.getD,hb,hil] at hq
    ·rw [hset j e] at hq
     exact (List.mem_erase_of_ne e).2 (hm j hj hq)
   ·rw [<-h3 k hk]
    exact Zhy _ (fun e=>hk i o ho (by rw [hdi,e]))
   ·by_cases e:j=i
    ·subst e
     rw [ho] at hj;injection hj with hj;subst hj
     rw [hdi] at hd;injection hd with hd;subst hd
     exact Zj3 _ (by rw [h1,hN];exact hdN)
    ·rw [hset j e] at hq
     rw [<-h4 j oj d hj hd hq];exact Zhy _ (fun e2=>e (hinj j oj di hj hdi (by rw [hd,e2])).symm)
  unfold wpOp;simp only [ho];by_cases hwd:Region.wanted o (yielded ops a.tmps)=true
  ·rw [if_pos hwd] at hw⊢
   refine .inl (Oper.wp_mono ?_ hw);rintro a' w' ⟨rfl,hS'⟩;exact next w' hS'
  ·rw [if_neg hwd] at hw⊢
   rw [<-hw];exact next w hS
theorem Zbh{id:Nat}{a:Act}{w:World}{N:Nat}(F:Act->Prop)(S:World->Prop)(val:Nat->Value)(L:List Nat)(hm:P.follows .mixedOrders=true)(hok:ZhH N L ops=true)(hN:a.tmps.size=N)(h0:S w.drew)
  (hF:∀a':Act,(∀k,(∀(i:Nat) (o:Oper),ops[i]?=some o->o.dst≠some k)->a'.tmps[k]?=a.tmps[k]?)->F a')
  (hstep:∀(i:Nat) (o:Oper),ops[i]?=some o->Zbd P ops Q F S val i o)
  (hend:∀(a':Act) (w':World),S w'->a'.tmps.size=a.tmps.size->a'.defers=a.defers->(∀k,(∀(i:Nat) (o:Oper),ops[i]?=some o->o.dst≠some k)->a'.tmps[k]?=a.tmps[k]?)->
   (∀(i:Nat) (o:Oper) (d:Nat),ops[i]?=some o->o.dst=some d->a'.tmps[d]?=some (val i))->Q .normal a' w'):(Code.region id ops true).wp P Q a w:=by
 refine wp_region_any hm ?_;refine Zph hok hN hF hstep hend ops.size (List.range ops.size) _ a _ s_ s_ (fun i hi _=>List.mem_range.2 hi) h0 rfl rfl (fun _ _=>rfl) (fun i o d ho hd h=>?_);rw [getD_replicate_false] at h;cases h
def ZaA(p:Nat->Oper->Prop):Nat->List Oper->Prop
 |_,[]=>True
 |n,o::t=>p n o/\ZaA p (n+1) t
theorem ZdZ{p:Nat->Oper->Prop}:∀(l:List Oper) (n:Nat),ZaA p n l->∀(i:Nat) (o:Oper),l[i]?=some o->p (n+i) o
 |[],_,_,i,o,h=>by simp at h
 |x::t,n,⟨h,ht⟩,0,o,e=>by simp at e;rw [<-e];exact h
 |x::t,n,⟨h,ht⟩,i+1,o,e=>by
  have:=ZdZ t (n+1) ht i o (by simpa using e)
  rw [show n+(i+1)=n+1+i by omega];exact this
theorem ZmN{p:Nat->Oper->Prop}(h:ZaA p 0 ops.toList):∀(i:Nat) (o:Oper),ops[i]?=some o->p i o:=fun i o ho=>by
 have:=ZdZ ops.toList 0 h i o (by simpa using ho)
 rw [Nat.zero_add] at this;exact this
theorem Yp{p:Nat->Oper->Prop}{i:Nat}{o1 o2 o3 o4 o5 o6 o7:Oper}{rest:List Oper}(h:p i o1/\p (i+1) o2/\p (i+2) o3/\p (i+3) o4/\p (i+4) o5/\p (i+5) o6/\p (i+6) o7)(hr:ZaA p (i+7) rest):ZaA p i (o1::o2::o3::o4::o5::o6::o7::rest):=
 ⟨h.1,h.2.1,h.2.2.1,h.2.2.2.1,h.2.2.2.2.1,h.2.2.2.2.2.1,h.2.2.2.2.2.2,hr⟩
def waits(o:Oper)(j:Nat):Prop:=∃e∈o.after,Region.binds .any e=true/\e.on=j
variable {F:Act->Prop} {S:World->Prop} {val:Nat->Value}
theorem Yc{i:Nat}{o:Oper}(hg:o.guard=none)(h:∀(a:Act) (w:World),S w->F a->(∀j oj d,waits o j->ops[j]?=some oj->oj.dst=some d->a.tmps[d]?=some (val j))->Oper.wp P o a w (fun a' w'=>a'=a.put o.dst (val i)/\S w') Q):Zbd P ops Q F S val i o:=by
 intro a w hS hF hd;rw [if_pos (ZjG hg)];exact h a w hS hF (fun j oj d ⟨e,he,hb,hj⟩ ho hdst=>by subst hj;exact hd e he hb oj d ho hdst)
theorem QZ{i g k:Nat}{og o:Oper}{acc:Bool}(hg:o.guard=some (g,true))(hog:ops[g]?=some og)(hk:og.dst=some k)(hwt:waits o g)(hv:val g=.bool acc)(hn:acc=false->val i=undef)
  (h:acc=true->∀(a:Act) (w:World),S w->F a->(∀j oj d,waits o j->ops[j]?=some oj->oj.dst=some d->a.tmps[d]?=some (val j))->Oper.wp P o a w (fun a' w'=>a'=a.put o.dst (val i)/\S w') Q):Zbd P ops Q F S val i o:=by
 intro a w hS hF hd;have hd2:∀j oj d,waits o j->ops[j]?=some oj->oj.dst=some d->a.tmps[d]?=some (val j):=fun j oj d ⟨e,he,hb,hj⟩ ho hdst=>by subst hj;exact hd e he hb oj d ho hdst
 have hflag:=hd2 g og k hwt hog hk;rw [hv] at hflag;have hgb:(ops[g]?).bind (·.dst)=some k:=by rw [hog];exact hk
 cases acc with
 |true=>
  rw [if_pos (ZlQ hg hgb hflag)];exact h rfl a w hS hF hd2
 |false=>
  rw [if_neg (ZnR hg hgb hflag)];exact hn rfl
theorem ZR(ops:Array Oper)(i g k d7:Nat){og o1 o2 o3 o4 o5 o6 o7:Oper}(acc t:Bool){pA pB:Value}(pA' pB' vx vy:Value)(hFA:∀a,F a->a.tmps[2]?=some pA/\a.tmps[3]?=some pB)(v0:val g=.bool acc)
  (x2:∀(a':Act) (w:World),S w->a'.tmps[k+1]?=some pA'->(execOp a'.eval o2).run P w=.ok (.value vx) w) (x4:∀(a':Act) (w:World),S w->a'.tmps[k+3]?=some pB'->(execOp a'.eval o4).run P w=.ok (.value vy) w)
  (x5:∀(a':Act) (w:World) (K:Act->World->Prop),S w->a'.tmps[k+2]?=some vx->a'.tmps[k+4]?=some vy->(∀w',S w'->K (a'.put (some (k+5)) (.bool t)) w')->Oper.wp P o5 a' w K Q)
  (ho:ops[g]?=some og:=by exact rfl) (hk:og.dst=some k:=by exact rfl) (e1:ops[i]?=some o1:=by exact rfl) (e2:ops[i+1]?=some o2:=by exact rfl) (e3:ops[i+2]?=some o3:=by exact rfl) (e4:ops[i+3]?=some o4:=by exact rfl) (e5:ops[i+4]?=some o5:=by exact rfl) (e6:ops[i+5]?=some o6:=by exact rfl)
  (d1:o1.dst=some (k+1):=by exact rfl) (d2:o2.dst=some (k+2):=by exact rfl) (d3:o3.dst=some (k+3):=by exact rfl) (d4:o4.dst=some (k+4):=by exact rfl) (d5:o5.dst=some (k+5):=by exact rfl) (d6:o6.dst=some (k+6):=by exact rfl) (d7':o7.dst=some d7:=by exact rfl)
  (g1:o1.guard=some (g,true):=by exact rfl) (g2:o2.guard=some (g,true):=by exact rfl) (g3:o3.guard=some (g,true):=by exact rfl) (g4:o4.guard=some (g,true):=by exact rfl) (g5:o5.guard=some (g,true):=by exact rfl) (g6:o6.guard=none:=by exact rfl) (g7:o7.guard=none:=by exact rfl)
  (m1:waits o1 g:=by exact ⟨⟨_,.guard⟩,s_,rfl,rfl⟩) (m2:waits o2 g/\waits o2 i:=by exact ⟨⟨⟨_,.guard⟩,s_,rfl,rfl⟩,⟨⟨_,.data⟩,s_,rfl,rfl⟩⟩) (m3:waits o3 g:=by exact ⟨⟨_,.guard⟩,s_,rfl,rfl⟩) (m4:waits o4 g/\waits o4 (i+2):=by exact ⟨⟨⟨_,.guard⟩,s_,rfl,rfl⟩,⟨⟨_,.data⟩,s_,rfl,rfl⟩⟩)
  (m5:waits o5 g/\waits o5 (i+1)/\waits o5 (i+3):=by exact ⟨⟨⟨_,.guard⟩,s_,rfl,rfl⟩,⟨⟨_,.data⟩,s_,rfl,rfl⟩,⟨⟨_,.data⟩,s_,rfl,rfl⟩⟩) (m6:waits o6 g/\waits o6 (i+4):=by exact ⟨⟨⟨_,.data⟩,s_,rfl,rfl⟩,⟨⟨_,.data⟩,s_,rfl,rfl⟩⟩) (m7:waits o7 (i+5):=by exact ⟨⟨_,.data⟩,s_,rfl,rfl⟩)
  (v1:val i=if acc then pA' else undef:=by exact rfl) (v2:val (i+1)=if acc then vx else undef:=by exact rfl) (v3:val (i+2)=if acc then pB' else undef:=by exact rfl) (v4:val (i+3)=if acc then vy else undef:=by exact rfl) (v5:val (i+4)=if acc then .bool t else undef:=by exact rfl) (v6:val (i+5)=.bool (acc&&t):=by exact rfl) (v7:val (i+6)=.bool (acc&&t):=by exact rfl)
  (x1:∀(a':Act) (w:World),S w->a'.tmps[2]?=some pA->(execOp a'.eval o1).run P w=.ok (.value pA') w:=by (intro a' W hI h;obtain ⟨y0,z0⟩:=Zk h;go_simp)) (x3:∀(a':Act) (w:World),S w->a'.tmps[3]?=some pB->(execOp a'.eval o3).run P w=.ok (.value pB') w:=by (intro a' W hI h;obtain ⟨y0,z0⟩:=Zk h;go_simp))
  (x6:∀(a':Act) (w:World) (c':Bool) (v:Value),a'.tmps[k]?=some (.bool c')->a'.tmps[k+5]?=some v->(execOp a'.eval o6).run P w=.ok (.value (if c' then v else .bool false)) w:=by (intro a' W c' v h1 h2;obtain ⟨y0,z0⟩:=Zk h1;obtain ⟨y1,z1⟩:=Zk h2;cases c'<;>go_simp))
  (x7:∀(a':Act) (w:World) (v:Value),a'.tmps[k+6]?=some v->(execOp a'.eval o7).run P w=.ok (.value v) w:=by (intro a' W v h;obtain ⟨y0,z0⟩:=Zk h;go_simp)) :
  Zbd P ops Q F S val i o1/\Zbd P ops Q F S val (i+1) o2/\Zbd P ops Q F S val (i+2) o3/\Zbd P ops Q F S val (i+3) o4/\Zbd P ops Q F S val (i+4) o5/\Zbd P ops Q F S val (i+5) o6/\Zbd P ops Q F S val (i+6) o7:=by
 have no:∀{j:Nat} {v:Value},val j=(if acc then v else undef)->acc=false->val j=undef:=fun h e=>by rw [h,e];rfl
 have ye:∀{j:Nat} {v:Value},val j=(if acc then v else undef)->acc=true->val j=v:=fun h e=>by rw [h,e];rfl
 refine ⟨QZ g1 ho hk m1 v0 (no v1) fun ha a w hS hF hs=>?_,QZ g2 ho hk m2.1 v0 (no v2) fun ha a w hS hF hs=>?_,QZ g3 ho hk m3 v0 (no v3) fun ha a w hS hF hs=>?_,QZ g4 ho hk m4.1 v0 (no v4) fun ha a w hS hF hs=>?_,QZ g5 ho hk m5.1 v0 (no v5) fun ha a w hS hF hs=>?_,Yc g6 fun a w hS hF hs=>?_,Yc g7 fun a w hS hF hs=>?_⟩
 ·exact Z8 pA' (x1 a w hS (hFA a hF).1) ⟨by rw [ye v1 ha],hS⟩
 ·have s:=hs i o1 _ m2.2 e1 d1
  rw [ye v1 ha] at s;exact Z8 vx (x2 a w hS s) ⟨by rw [ye v2 ha],hS⟩
 ·exact Z8 pB' (x3 a w hS (hFA a hF).2) ⟨by rw [ye v3 ha],hS⟩
 ·have s:=hs (i+2) o3 _ m4.2 e3 d3
  rw [ye v3 ha] at s;exact Z8 vy (x4 a w hS s) ⟨by rw [ye v4 ha],hS⟩
 ·have s:=hs (i+1) o2 _ m5.2.1 e2 d2
  have s':=hs (i+3) o4 _ m5.2.2 e4 d4;rw [ye v2 ha] at s;rw [ye v4 ha] at s';exact x5 a w _ hS s s' (fun w' hS'=>⟨by rw [ye v5 ha,d5],hS'⟩)
 ·have s:=hs g og _ m6.1 ho hk
  have s':=hs (i+4) o5 _ m6.2 e5 d5;rw [v0] at s;refine Z8 _ (x6 a w acc _ s s') ⟨?_,hS⟩;rw [v6,v5];cases acc<;>rfl
 ·have s:=hs (i+5) o6 _ m7 e6 d6
  exact Z8 _ (x7 a w _ s) ⟨by rw [v7,v6],hS⟩
end
end Go.Proofs.YtmgmbeipbeknaaaGreatDoor
