import Derived.Test.YtgoooebfhdbbkaaGreatDoorUM4
import Derived.Test.YtgoooebfhdbbkaaGreatDoorUM26
import Derived.Test.YtgoooebfhdbbkaaGreatDoorUM32
namespace Go.Proofs.YtgoooebfhdbbkaaGreatDoor
open Go.Proofs.Tryz
open Go Go.RowKit
set_option linter.unusedVariables false
set_option linter.unusedSimpArgs false
set_option maxHeartbeats 16000000
set_option maxRecDepth 100000
theorem m97_{p:Prop}(h:p:=by exact (HB8.trans (hf9.below _ HB8.size (fun k hk e=>by omega))).trans (hend.2.2.below _ (Nat.le_trans HB8.size hf9.size) (fun k hk e=>by omega))):p:=h
structure YO(w:World)(cs:Array Value)(u:UV):Prop where
 size:cs.size=35
 fld:∀j v,cs[j]?=some v->Yg w (fun _=>True) (u j) v
theorem YO.below{w w':World}{cs:Array Value}{u:UV}(h:YO w cs u)(hb:Below w.heap.size w w'):YO w' cs u:=
 ⟨h.size,fun j v hv=>(h.fld j v hv).fr (M:=fun _=>False) (Fr.of_below hb _) (fun _ _ e=>e)⟩
theorem YL.rd{w:World}{U:Nat}{cs:Array Value}{F:Nat->Nat->Prop}{u:UV}(h:YL w U cs F u):YO w cs u:=⟨h.size,fun j v hv=>(h.fld j v hv).mono (fun _ _=>trivial)⟩
theorem YO.zero(w:World):YO w Zf ZV:=by
 rw [<-ZnY];refine ⟨by simp [Yh],fun j v hv=>?_⟩;have hj:j<35:=by have:=(Array.getElem?_eq_some_iff.1 hv).1;simpa [Yh] using this
 have:v=Zpl (ZV j):=by
  simp only [Yh,List.getElem?_toArray,List.getElem?_map,List.getElem?_range hj,Option.map_some] at hv;injection hv with hv;exact hv.symm
 rw [this];exact (ZiB w _ (Za4 j)).mono (fun _ h=>h.elim)
theorem Yg.one{w:World}{F:Nat->Prop}:∀{c:UC} {v:Value},Yg w F c v->v.oneCell'=true
 |.s _,_,h=>by rw [show _=_ from h];rfl
 |.n _,_,h=>by rw [show _=_ from h];rfl
 |.b _,_,h=>by rw [show _=_ from h];rfl
 |.ss _,_,h=>n69_
 |.ns _,_,h=>n69_
 |.rs _,_,h=>n69_
 |.ps _,_,h=>n69_
 |.cs _,_,h=>by obtain ⟨_,_,h,_⟩:=h;obtain ⟨_,_,rfl⟩:=ownsRow_form h;rfl
theorem YO.one{w:World}{cs:Array Value}{u:UV}(h:YO w cs u):(cs.all fun x=>x.oneCell')=true:=by
 rw [Array.all_eq_true];intro i hi;exact (h.fld i _ (Array.getElem?_eq_getElem hi)).one
theorem Zm9{P:Program}{w:World}{fn:Func}{tmps:Array Value}(a b:Nat)(t t2:TypeId)(ba bb:Nat)(v v2:Value)(hf:fn.results=#[.cell a t,.cell b t2])(ha:tmps.getD a undef=.pointer (some ⟨ba,0,none⟩))(hb:tmps.getD b undef=.pointer (some ⟨bb,0,none⟩))
  (hl:(loadVar t ⟨ba,0,none⟩).run P w=.ok v w) (hl2:(loadVar t2 ⟨bb,0,none⟩).run P w=.ok v2 w):Sem.run P (results fn tmps) w=.ok (.tuple #[v,v2]) w:=by
 unfold results;have hA:(asAddr (.pointer (some ⟨ba,0,none⟩))).run P w=.ok ⟨ba,0,none⟩ w:=rfl;have hB:(asAddr (.pointer (some ⟨bb,0,none⟩))).run P w=.ok ⟨bb,0,none⟩ w:=rfl;rw [hf];simp only [List.mapM_toArray,List.mapM_cons,List.mapM_nil,ha,hb,Sem.run_bind,hA,hB,hl,hl2,Sem.run_pure,Result.andThen_ok,map_eq_pure_bind];rfl
theorem Yi{P:Program}{w:World}{fn:Func}{R:Ending->World->Prop}{x:Act}(a b:Nat)(t t2:TypeId)(ba bb:Nat)(v v2:Value)(hf:fn.results=#[.cell a t,.cell b t2])(hd:x.defers=[])(ha:x.tmps.getD a undef=.pointer (some ⟨ba,0,none⟩))(hb:x.tmps.getD b undef=.pointer (some ⟨bb,0,none⟩))
  (hl:(loadVar t ⟨ba,0,none⟩).run P w=.ok v w) (hl2:(loadVar t2 ⟨bb,0,none⟩).run P w=.ok v2 w) (h:R (.returned (.tuple #[v,v2])) w):bodyPost P fn R .ret x w:=
 ⟨hd,.tuple #[v,v2],Zm9 a b t t2 ba bb v v2 hf ha hb hl hl2,h⟩
theorem ZeG{a:Act}{w:World}{o:Oper}(ho:o.op=Op.build 30 #[]):(execOp a.eval o).run prog w=.ok (.value (.agg Zf)) w:=by
 unfold execOp;simp only [ho]
 have:=Yq w
 simp only [List.map_toArray,List.map_nil,Sem.run_bind,this];rfl
theorem ZbE{nm:Str}{kind:Int}{u r:UV}{x:Ln}(h:XO nm kind u x=.ok r):∃k∈Zx,∃v,r=u.upd (Zt k.name) (ZY nm k v (u (Zt k.name)))/\Za6 r=false:=by
 unfold XO at h;split at h
 ·cases h
 ·rename_i v hv
  split at h
  ·cases h
  ·split at h
   ·cases h
   ·rename_i k hk
    split at h
    ·cases h
    ·split at h
     ·cases h
     ·rename_i hl
      injection h with h
      subst h;exact ⟨k,Zb0 _ _ k hk,v,rfl,by simpa using hl⟩
theorem Zox:(List.range 35).all (fun j=>Xe.contains j||j==4||decide ((ZV j).tag<3))=true:=n12_
theorem Zqx(j:Nat)(h:j∉Xe)(h4:¬j=4):(ZV j).tag<3:=by
 by_cases hj:j<35
 ·have:=List.all_eq_true.1 Zox j (List.mem_range.2 hj)
  simp only [Bool.or_eq_true,beq_iff_eq,decide_eq_true_eq,List.contains_iff_mem] at this;rcases this with (h1|h1)|h1
  ·exact absurd h1 h
  ·exact absurd h1 h4
  ·exact h1
 ·unfold ZV
  rw [if_neg o_,if_neg o_,if_neg o_,if_neg o_,if_neg o_,if_neg o_,if_neg o_];decide
theorem ZmJ{u:UV}(hT:Z9 u)(hl:Za6 u=false)(j:Nat):(u j).len<=100000:=by
 have h:=(Zn0 u).1 hl j;unfold ZkE at h;split at h
 ·have:=of_decide_eq_false h;omega
 ·rename_i h4
  by_cases hc:Xe.contains j=true
  ·rw [hc] at h
   simp only [Bool.true_and] at h
   have:=of_decide_eq_false h;omega
  ·have h0:(u j).tag<3:=by
    rw [hT j];exact Zqx j (fun h=>hc (List.contains_iff_mem.2 h)) h4
   generalize u j=c at h0⊢;cases c<;>simp [UC.tag,UC.len] at h0⊢
theorem ZP{w:World}{b:Nat}{x y:Value}{T:TypeId}(h:w.heap[b]?=some (.cells #[x,y] T (0,0))):w.cell? ⟨b,0,none⟩=some x/\w.cell? ⟨b,1,none⟩=some y/\w.frozen? ⟨b,0,none⟩=false/\w.frozen? ⟨b,1,none⟩=false/\w.shape? b=some (T,2):=
 ⟨n33_,n33_,(rd h).2.1 0,(rd h).2.1 1,(rd h).2.2.1⟩
theorem YU{w9:World}{U0 FB:Nat}{cs9:Array Value}(h9:w9.heap[U0]?=some (.cells cs9 30 (0,0)))(hF9:w9.heap[FB]?=some (.cells #[.int .i64 0,.int .i64 0] 33 (0,0)))(hne:U0≠FB)(c a:Int)(h35:cs9.size=35:=by rfl) :
  (loadVar 30 ⟨U0,0,none⟩).run prog ((w9.setCell ⟨FB,0,none⟩ (.int .i64 c)).setCell ⟨FB,1,none⟩ (.int .i64 a))=.ok (.agg cs9) ((w9.setCell ⟨FB,0,none⟩ (.int .i64 c)).setCell ⟨FB,1,none⟩ (.int .i64 a))/\
  (loadVar 33 ⟨FB,0,none⟩).run prog ((w9.setCell ⟨FB,0,none⟩ (.int .i64 c)).setCell ⟨FB,1,none⟩ (.int .i64 a))=.ok (.agg #[.int .i64 c,.int .i64 a]) ((w9.setCell ⟨FB,0,none⟩ (.int .i64 c)).setCell ⟨FB,1,none⟩ (.int .i64 a))/\
  Fr (fun k=>k=FB) w9 ((w9.setCell ⟨FB,0,none⟩ (.int .i64 c)).setCell ⟨FB,1,none⟩ (.int .i64 a)):=by
 have e1:=Zk (Zk h9 (a:=⟨FB,0,none⟩) hne (.int .i64 c)) (a:=⟨FB,1,none⟩) hne (.int .i64 a);have e2:=heap_setCell (heap_setCell hF9 0 (.int .i64 c)) 1 (.int .i64 a);refine ⟨YI 30 _ rfl rfl (by rw [h35];rfl) e1,YI 33 _ rfl rfl rfl e2,?_⟩;exact Fr.setCell (M:=fun k=>k=FB) (Fr.setCell (M:=fun k=>k=FB) (Fr.refl _ _) (p:=⟨FB,0,none⟩) (fun _=>rfl) _) (p:=⟨FB,1,none⟩) (fun _=>rfl) _
theorem Zdm(u:UV)(j:Nat)(hj:j<35):(Yh u)[j]?=some (Zpl (u j)):=by
 simp only [Yh,List.getElem?_toArray,List.getElem?_map,List.getElem?_range hj,Option.map_some]
theorem Zdq(w:World)(u:UV)(h:∀j,(u j).len=0):YO w (Yh u) u:=by
 refine ⟨by simp [Yh],fun j v hv=>?_⟩;have hj:j<35:=by have:=(Array.getElem?_eq_some_iff.1 hv).1;simpa [Yh] using this
 rw [Zdm u j hj] at hv;injection hv with hv
 rw [<-hv];exact (ZiB w _ (h j)).mono (fun _ h=>h.elim)
theorem ZhY(nm:Str):Yw nm 1=.n (Zw nm:Nat):=by
 unfold Yw;split
 ·rename_i h;rw [h];rfl
 ·simp only
  split
  ·rfl
  ·split<;>rfl
theorem Zen(nm:Str)(h:Zw nm≠0):Yw nm 0=.s nm:=by
 unfold Yw;rw [if_neg h];split
 ·rfl
 ·split<;>rfl
def Zib(w:World)(r:UV×(Int×Int))(e:Ending)(w':World):Prop:=
 Below w.heap.size w w'/\∃cs,e=.returned (.tuple #[.agg cs,.agg #[.int .i64 r.2.1,.int .i64 r.2.2]])/\YO w' cs r.1
theorem ZnP(nm:Str)(l:List Ln)(oa:Option Addr)(cap:Nat)(w:World)(hM:ZA w)(hr:ZB YV 4 w oa l)(hl:l.length<=4294967296)(hx:∀x∈l,x.val.length<=200000000/\∀v,XL x.val nm=.ok v->v.length<=100000000)(hnm:nm.length<=100000000) :
  Calls prog 5 #[.string ⟨nm.toArray⟩,.slice oa l.length cap] w fun e w'=>Zib w (Xk nm l) e w':=by
 have HM:=h_ hM;have HR:=h_ hr;have HX:=h_ hx;obtain ⟨kind,hkind⟩:∃kind,Zw nm=kind:=⟨_,rfl⟩;have hkl:kind<=4:=by rw [<-hkind];exact Zcf nm
 have HK:=h_ hkind;have hk1:Yw nm 1=.n (kind:Nat):=by rw [<-hkind];exact ZhY nm
 have HK1:=h_ hk1;have HN:=h_ (fun W (h:Below w.heap.size w W)=>ZiG nm W o_ (hM.below h));have Z0:=h_ Zdr;have Z1:=h_ (YO.one (Zdq w (Yw nm) (JO nm)));obtain ⟨bb,hbb⟩:∃bb,ZcL nm=bb:=⟨_,rfl⟩;have HBB:=h_ hbb;have HBR:=h_ (fun W (h:Below w.heap.size w W)=>Zjj ⟨nm.toArray⟩ W (by show nm.toArray.size<_;simp;omega) (hM.below h) bb hbb);clear hM hr hx hkind hk1 hbb;go_enter func5,ntmps5;go_wp2_with (refine Yx rfl _ Zf rfl (Zz _) ?_;intro w1 h1 hb1);have hBf:Below w1.heap.size w1 (w1.alloc (.cells #[.int .i64 0,.int .i64 0] 33)):=b_.alloc l_ _;have hbf:=Below.more hb1 hBf;have HF1:=h_ (heap_alloc_new w1 (.cells #[.int .i64 0,.int .i64 0] 33));have HU1:=h_ (Za h1 hBf);refine (HN.out _ hbf).mono ?_;rintro e w2 ⟨rfl,hb2⟩;have HB2:=h_ (Below.more hbf hb2);have HU2:=h_ (Za HU1.out hb2);have HF2:=h_ (Za HF1.out hb2);have hl0:w.heap.size<w1.heap.size:=Zg h1;have hl1:w1.heap.size<w2.heap.size:=Zg HF2.out;obtain ⟨FB,hFB⟩:=e_ w1.heap.size;rw [<-hFB] at HF2 hl0 hl1⊢;clear hb1 h1 hBf hbf hb2 HU1 HF1 hFB;have HSV:=h_ (show (Yh (Yw nm)).size=35 by simp [Yh]);have HSI:=h_ (show (prog.info? 30).map (·.size)=some (Yh (Yw nm)).size by rw [HSV.out];rfl);have HSS:=h_ (show Zf.size=(Yh (Yw nm)).size by rw [HSV.out];rfl);have HKC:=h_ (show (Yh (Yw nm))[1]?=some (.int .i64 (kind:Nat)) by rw [Zdm _ 1 d_,HK1.out];rfl);have HZ:=h_ (show ∀w3 w4:World,Below w2.heap.size w2 w3->Fr (fun x=>x=w2.heap.size) w3 w4->w4.heap[w.heap.size]?=some (.cells Zf 30 (0,0))/\w4.heap[FB]?=some (.cells #[.int .i64 0,.int .i64 0] 33 (0,0))/\Below w.heap.size w w4 from by
  intro w3 w4 hb3 hf4;have e1:=Za HU2.out hb3;have e2:=Za HF2.out hb3;refine ⟨hf4.heap e1 o_,hf4.heap e2 o_,HB2.out.trans ?_⟩;exact (hb3.mono o_).trans (hf4.below _ (by have:=hb3.size;omega) (fun k hk e=>by omega)))
 have hneF:FB≠w.heap.size:=o_;have hneF2:¬FB=w.heap.size:=o_;by_cases hk0:kind=0
 ·subst hk0
  have HRES:=h_ (show Xk nm l=(ZV,(5,0)) by unfold Xk;rw [if_pos (.inl HK.out)]);go_wp2_with (first
   |(refine Yx rfl _ Zf rfl (Zz _) ?_;intro w3 h3 hb3)
   |(refine ZL rfl 30 _ _ w2.heap.size (Yh (Yw nm)) Zf 30 rfl rfl rfl h3 HSS.out HSI.out Z1.out ?_;intro w4 h4 hf4;have hc1:=((rd h4).1 1).trans HKC.out;have hu:=(HZ.out w3 w4 hb3 hf4).1;have hF:=(HZ.out w3 w4 hb3 hf4).2.1;have hB4:=(HZ.out w3 w4 hb3 hf4).2.2)
   |(refine YS rfl _ #[] #[] _ rfl s_ (Yq _) ?_)
   |(refine ZL rfl 30 _ _ w.heap.size Zf Zf 30 rfl rfl rfl hu rfl rfl Z0.out ?_;intro w9 h9 hf9;have hF9:=hf9.heap hF hneF2;obtain ⟨g0,g1,g2,g3,g4⟩:=ZP hF9))
  have hend:=YU h9 hF9 hneF.symm 5 0;refine Yi 4 5 30 33 w.heap.size FB _ _ rfl rfl rfl rfl hend.1 hend.2.1 ⟨?_,Zf,by rw [HRES.out],n104_⟩;exact (hB4.trans (hf9.below _ hB4.size (fun k hk e=>by omega))).trans (hend.2.2.below _ (Nat.le_trans hB4.size hf9.size) (fun k hk e=>by omega))
 ·have hk2:(((kind:Nat):Int)==0)=false:=n3_
  cases bb with
  |true=>
   have HRES:=h_ (show Xk nm l=(ZV,(5,0)) by unfold Xk;rw [if_pos (.inr HBB.out)]);go_wp2_with (first
    |(refine Yx rfl _ Zf rfl (Zz _) ?_;intro w3 h3 hb3)
    |(refine ZL rfl 30 _ _ w2.heap.size (Yh (Yw nm)) Zf 30 rfl rfl rfl h3 HSS.out HSI.out Z1.out ?_;intro w4 h4 hf4;have hc1:=((rd h4).1 1).trans HKC.out;have hu:=(HZ.out w3 w4 hb3 hf4).1;have hF:=(HZ.out w3 w4 hb3 hf4).2.1;have hB4:=(HZ.out w3 w4 hb3 hf4).2.2))
   refine (HBR.out _ hB4).mono ?_;rintro e w5 ⟨rfl,hb5⟩;have hu5:=Za hu hb5;have hF5:=Za hF hb5;have hB5:=hB4.trans (hb5.mono hB4.size);go_wp2_with (first
    |(refine YS rfl _ #[] #[] _ rfl s_ (Yq _) ?_)
    |(refine ZL rfl 30 _ _ w.heap.size Zf Zf 30 rfl rfl rfl hu5 rfl rfl Z0.out ?_;intro w9 h9 hf9;have hF9:=hf9.heap hF5 hneF2;obtain ⟨g0,g1,g2,g3,g4⟩:=ZP hF9))
   have hend:=YU h9 hF9 hneF.symm 5 0;refine Yi 4 5 30 33 w.heap.size FB _ _ rfl rfl rfl rfl hend.1 hend.2.1 ⟨?_,Zf,by rw [HRES.out],n104_⟩;exact (hB5.trans (hf9.below _ hB5.size (fun k hk e=>by omega))).trans (hend.2.2.below _ (Nat.le_trans hB5.size hf9.size) (fun k hk e=>by omega))
  |false=>
   go_wp2_with (first
    |(refine Yx rfl _ Zf rfl (Zz _) ?_;intro w3 h3 hb3)
    |(refine ZL rfl 30 _ _ w2.heap.size (Yh (Yw nm)) Zf 30 rfl rfl rfl h3 HSS.out HSI.out Z1.out ?_;intro w4 h4 hf4;have hc1:=((rd h4).1 1).trans HKC.out;have hu:=(HZ.out w3 w4 hb3 hf4).1;have hF:=(HZ.out w3 w4 hb3 hf4).2.1;have hB4:=(HZ.out w3 w4 hb3 hf4).2.2))
   refine (HBR.out _ hB4).mono ?_;rintro e w5 ⟨rfl,hb5⟩;have HU5:=h_ (Za hu hb5);have HF5:=h_ (Za hF hb5);have HB5:=h_ (hB4.trans (hb5.mono hB4.size));have HO5:=h_ (Zhy (Yw nm) (JO nm) (Za h4 hb5));obtain ⟨UB,hUB⟩:=e_ w2.heap.size;rw [<-hUB] at HO5 hl1⊢;clear hu hF hB4 hb5 h4 hf4 h3 hb3 hc1 HZ hUB;have HRES:=h_ (show Xk nm l=(match Y8 nm (kind:Nat) (Yw nm) l with
    |.error e=>(ZV,e)
    |.ok u=>if QH (kind:Nat) u≠0 then (ZV,(QH (kind:Nat) u,0)) else (u,(0,0))) by
     unfold Xk;rw [if_neg (by rw [HK.out,HBB.out];simp;exact hk0),HK.out]<;>rfl)
   go_wp2_with fail;go_loopg [24] (l.length+1) (fun f i wr=>∃(k:Nat) (cs:Array Value) (F:Nat->Nat->Prop) (u:UV),k<=l.length/\i=.int .i64 k/\l.length-k<f/\Hid (YL wr UB cs F u)/\Hid (Z9 u)/\Hid (∀j,(u j).len<=100000)/\Hid (u 0=.s nm)/\Hid (u 1=.n (kind:Nat))/\
    Hid (Y8 nm (kind:Nat) u (l.drop k)=Y8 nm (kind:Nat) (Yw nm) l)/\Hid (wr.heap[w.heap.size]?=some (.cells Zf 30 (0,0)))/\Hid (wr.heap[FB]?=some (.cells #[.int .i64 0,.int .i64 0] 33 (0,0)))/\Hid (Below w.heap.size w wr))
   case atStart=>exact ⟨0,_,_,_,o_,rfl,o_,HO5,Z9.new nm,fun j=>by rw [JO];omega,Zen nm (by rw [HK.out];exact hk0),HK1.out,by rw [List.drop_zero];rfl,HU5,HF5,HB5⟩
   case round=>
    obtain ⟨k,cs,F,u,hk,rfl,hfu,HO,HT,HLN,H0,H1,HQ,HUr,HFr,HBr⟩:=hrel;clear HO5 HU5 HF5 HB5;by_cases hlt:k<l.length
    ·have hz:(k:Int)<(l.length:Int):=o_
     obtain ⟨x,hx⟩:=e_ (l[k]);obtain ⟨b4,o4,rfl,-,hcc⟩:=(HR.out.below HBr.out) k hlt;rw [<-hx] at hcc;have d0:=hcc 0 _ rfl;have d1:=hcc 1 _ rfl;have d2:=hcc 2 _ rfl;have d3:=hcc 3 _ rfl;simp only [Nat.add_zero] at d0;have hxm:x.val.length<=200000000/\∀v,XL x.val nm=.ok v->v.length<=100000000:=by rw [hx];exact HX.out _ (List.getElem_mem hlt)
     have hdr:l.drop k=x::l.drop (k+1):=n52_;have HQ2:=h_ (show Y8 nm (kind:Nat) (Yw nm) l=match XO nm (kind:Nat) u x with|.error e=>.error (e,x.at_)|.ok r=>Y8 nm (kind:Nat) r (l.drop (k+1)) by rw [<-HQ.out,hdr,Y8]<;>rfl);obtain ⟨xsec,xkey,xval,xat⟩:=x;have hBx:Below wr.heap.size wr (wr.alloc (.cells #[.string ⟨xsec.toArray⟩,.string ⟨xkey.toArray⟩,.string ⟨xval.toArray⟩,.int .i64 xat] 41)):=b_.alloc l_ _;have HBx:=h_ (HBr.out.trans (hBx.mono HBr.out.size));have hOx:=HO.out.below hBx;have HOx:=h_ hOx;have hLn:=ZnC UB cs F u _ hOx HT.out HLN.out (HM.out.below HBx.out) nm (kind:Nat) H0.out H1.out o_ ⟨xsec,xkey,xval,xat⟩ hxm.1 hxm.2;unfold YV at hLn;have HLNE:=h_ hLn;have HXB:=h_ (heap_alloc_new wr (.cells #[.string ⟨xsec.toArray⟩,.string ⟨xkey.toArray⟩,.string ⟨xval.toArray⟩,.int .i64 xat] 41));have HUx:=h_ (Za HUr.out hBx);have HFx:=h_ (Za HFr.out hBx);have hwsz:=HBr.out.size;have hUBw:=Zg HO.out.box;have HFw:=h_ (show ∀j b,F j b->b<wr.heap.size from fun j b h=>(HO.out.lt j b h).2);clear hx hdr hcc hxm hBx hOx hLn HUr HFr HO;go_wp2_with fail;refine HLNE.out.mono ?_;intro e w8 hlo;have hUBl:=Zg HOx.out.box;have hnot:∀b,b<UB->¬(b=UB\/∃j,F j b):=by
      rintro b hb (h|⟨j,h⟩)
      ·omega
      ·have:=(HOx.out.lt j b h).1;omega
     have HU8:=h_ (hlo.1.heap HUx.out (hnot _ o_));have HF8:=h_ (hlo.1.heap HFx.out (hnot _ o_));have HX8:=h_ (hlo.1.heap HXB.out (by
      rintro (h|⟨j,h⟩)
      ·omega
      ·have:=HFw.out j _ h;omega))
     have HB8:=h_ (HBx.out.trans (hlo.1.below _ HBx.out.size (fun b hb=>hnot b o_)));obtain ⟨-,hlo⟩:=hlo;cases hres:XO nm (kind:Nat) u ⟨xsec,xkey,xval,xat⟩ with
     |error c=>
      rw [hres] at hlo HQ2;simp only at hlo;subst hlo;have hc0:((c:Int)!=0)=true:=by rw [bne_iff_ne];exact Zh0 nm (kind:Nat) u _ c hres
      have HRE:=h_ (show Xk nm l=(ZV,(c,xat)) by rw [HRES.out,HQ2.out]);have HHS:=h_ (And.intro HU8.out (And.intro HF8.out HX8.out));clear hres hnot;go_wp2_with fail;refine Zi (S:=fun V=>V.heap[w.heap.size]?=some (.cells Zf 30 (0,0))/\V.heap[FB]?=some (.cells #[.int .i64 0,.int .i64 0] 33 (0,0))/\V.heap[wr.heap.size]?=some (.cells #[.string ⟨xsec.toArray⟩,.string ⟨xkey.toArray⟩,.string ⟨xval.toArray⟩,.int .i64 xat] 41 (0,0))) 6 k_ k_ (show _/\_/\_ from HHS.out) (fun hHeld=>?_);refine u_ ?_;refine dT_ (i:=0) (v:=.agg Zf) (gT_ rfl) (fun W hW=>ZeG rfl) (u_ ?_);(iterate 4 refine dN_ 0 (gT_ rfl) (fun W hW=>by obtain ⟨x0,x1,x2,x3⟩:=Qa hW.2.2;clear hW;go_simp;rfl) (u_ ?_));refine Zq (i:=5) (gT_ rfl) k_ k_ (fun K hK=>?_);clear hHeld;rw [if_pos n19_];refine Zaq 30 (.tmp 4) (.tmp 32) w.heap.size Zf Zf 30 rfl rfl rfl (show w8.drew.heap[w.heap.size]?=_ from HHS.out.1) rfl rfl Z0.out ?_;intro w9 h9 hf9;have HU9:=h_ h9;have HF9:=h_ (hf9.heap (show w8.drew.heap[FB]?=_ from HHS.out.2.1) hneF2);have HX9:=h_ (hf9.heap (show w8.drew.heap[wr.heap.size]?=_ from HHS.out.2.2) o_);have HB9:=h_ ((HB8.out.trans (show Below w.heap.size w8 w8.drew from Zb ⟨1,rfl⟩)).trans (hf9.below _ HB8.out.size (fun k hk e=>by omega)));refine hK.out _ _ (show _/\_/\_ from ⟨HU9.out,HF9.out,HX9.out⟩) (fun hHeld=>?_);clear hK K h9 hf9;refine u_ ?_;refine Zr k_ ?_;clear hHeld;obtain ⟨g0,g1,g2,g3,g4⟩:=ZP HF9.out;go_wp2_with fail;have hend:=YU HU9.out HF9.out hneF.symm c xat;refine Yi 4 5 30 33 w.heap.size FB _ _ rfl rfl rfl rfl hend.1 hend.2.1 ⟨?_,Zf,by rw [HRE.out],by rw [HRE.out];exact YO.zero _⟩;exact HB9.out.trans (hend.2.2.below _ HB9.out.size (fun k hk e=>by omega))
     |ok r=>
      rw [hres] at hlo HQ2;obtain ⟨rfl,cs',F',hO8⟩:=hlo;obtain ⟨kk,hkk,v,hr,hlong⟩:=ZbE hres;have HT8:=h_ (show Z9 r from by rw [hr];exact HT.out.upd _ _ (Zar nm kk hkk v _));have HL8:=h_ (ZmJ HT8.out hlong);have H08:=h_ (show r 0=.s nm by rw [hr,UV.upd_ne _ _ (fun e=>(Zew kk hkk).2.1 e.symm)];exact H0.out);have H18:=h_ (show r 1=.n (kind:Nat) by rw [hr,UV.upd_ne _ _ (fun e=>(Zew kk hkk).2.2 e.symm)];exact H1.out);have HO8:=h_ hO8;have HQ3:=h_ (show Y8 nm (kind:Nat) r (l.drop (k+1))=Y8 nm (kind:Nat) (Yw nm) l from HQ2.out.symm);clear hres hr hlong hO8 hnot hkk;go_wp2_with fail;go_roundg (gk-1)
      case measure=>omega
      case rel=>exact ⟨k+1,cs',F',r,o_,n14_,o_,HO8,HT8,HL8,H08,H18,HQ3,HU8,HF8,HB8⟩
    ·have hk3:k=l.length:=o_
     subst hk3;have HQ2:=h_ (show Y8 nm (kind:Nat) (Yw nm) l=.ok u by rw [<-HQ.out,List.drop_of_length_le l_];rfl);have hc7:cs[7]?=some (cs[7]' n83_):=Array.getElem?_eq_getElem n83_;have hc1:cs[1]?=some (cs[1]' n83_):=Array.getElem?_eq_getElem n83_;have hf7:=HO.out.fld 7 _ hc7;have hf1:=HO.out.fld 1 _ hc1;rw [H1.out] at hf1;rw [show cs[1]' n83_=Value.int .i64 (kind:Nat) from hf1] at hc1;obtain ⟨t7,ht7⟩:=Zko (HT.out 7);rw [ht7] at hf7;rw [show cs[7]' n83_=Value.int .i64 t7 from hf7] at hc7;obtain ⟨c,hcc⟩:∃c,QH (kind:Nat) u=c:=⟨_,rfl⟩;have HWH:=h_ (ZlD cs u wr (HO.out.lens HT.out) (kind:Nat) t7 hc1 hc7 (by rw [ht7];rfl) HLN.out c hcc);have HSC:=h_ (show (prog.info? 30).map (·.size)=some cs.size by rw [HO.out.size];rfl);have HRE:=h_ (show Xk nm l=if c≠0 then (ZV,(c,0)) else (u,(0,0)) by rw [HRES.out,HQ2.out];simp only;rw [hcc]);have hbox:=HO.out.box;have hUBl:=Zg hbox;clear hc7 hc1 hf7 hf1 ht7 hcc HQ HQ2 HRES;go_wp2_with (refine Js rfl 30 _ UB cs 30 _ rfl rfl hbox rfl rfl HSC.out ?_);refine HWH.out.mono ?_;rintro e w8 ⟨rfl,hb8⟩;have hU8:=Za HUr.out hb8;have hF8:=Za HFr.out hb8;have HB8:=HBr.out.trans (hb8.mono HBr.out.size);have HO8:=h_ (HO.out.below hb8);clear hb8;by_cases hc0:c=0
     ·subst hc0
      have hbox8:=HO8.out.box;have HON:=h_ (HO8.out.rd.one);have HSZ0:=h_ (show Zf.size=cs.size by rw [HO8.out.size];rfl);go_wp2_with (first
       |(refine Js rfl 30 _ UB cs 30 _ rfl rfl hbox8 rfl rfl HSC.out ?_)
       |(refine ZL rfl 30 _ _ w.heap.size cs Zf 30 rfl rfl rfl hU8 HSZ0.out HSC.out HON.out ?_;intro w9 h9 hf9;have hF9:=hf9.heap hF8 hneF2;obtain ⟨g0,g1,g2,g3,g4⟩:=ZP hF9))
      have hend:=YU h9 hF9 hneF.symm 0 0 HO8.out.size;have hOe:=(HO8.out.fr hf9 o_ (fun j b h e=>by have:=(HO8.out.lt j b h).1;omega)).fr hend.2.2 o_ (fun j b h e=>by have:=(HO8.out.lt j b h).1;omega);refine Yi 4 5 30 33 w.heap.size FB _ _ rfl rfl rfl rfl hend.1 hend.2.1 ⟨?_,cs,by rw [HRE.out];rfl,by rw [HRE.out,if_neg (fun h=>h rfl)];exact hOe.rd⟩;exact m97_
     ·have hc1:((c:Int)!=0)=true:=by rw [bne_iff_ne];exact hc0
      go_wp2_with (first
       |(refine YS rfl _ #[] #[] _ rfl s_ (Yq _) ?_)
       |(refine ZL rfl 30 _ _ w.heap.size Zf Zf 30 rfl rfl rfl hU8 rfl rfl Z0.out ?_;intro w9 h9 hf9;have hF9:=hf9.heap hF8 hneF2;obtain ⟨g0,g1,g2,g3,g4⟩:=ZP hF9))
      have hend:=YU h9 hF9 hneF.symm c 0;refine Yi 4 5 30 33 w.heap.size FB _ _ rfl rfl rfl rfl hend.1 hend.2.1 ⟨?_,Zf,by rw [HRE.out,if_pos hc0],by rw [HRE.out,if_pos hc0];exact YO.zero _⟩;exact m97_
theorem Zeg(nm:Str)(l:List Ln)(oa:Option Addr)(cap:Nat)(w:World)(hM:ZA w)(hr:ZB YV 4 w oa l)(hl:l.length<=4294967296)(hx:∀x∈l,x.val.length<=1048576)(hnm:nm.length<=100000000) :
  Calls prog 5 #[.string ⟨nm.toArray⟩,.slice oa l.length cap] w fun e w'=>Zib w (Xk nm l) e w' :=
 ZnP nm l oa cap w hM hr hl (fun x h=>⟨by have:=hx x h;omega,fun v hv=>ZjK hv (hx x h)⟩) hnm
structure Kept(lo hi:Nat)(a a':Act):Prop where
 size:a'.tmps.size=a.tmps.size
 defers:a'.defers=a.defers
 slot:∀i,i<lo\/hi<i->a'.tmps[i]?=a.tmps[i]?
theorem Kept.refl(lo hi:Nat)(a:Act):Kept lo hi a a:=⟨rfl,rfl,fun _ _=>rfl⟩
theorem Kept.trans{lo hi:Nat}{a b c:Act}(h:Kept lo hi a b)(k:Kept lo hi b c):Kept lo hi a c:=⟨k.size.trans h.size,k.defers.trans h.defers,fun i hi=>(k.slot i hi).trans (h.slot i hi)⟩
theorem Kept.put{lo hi d:Nat}{a b:Act}(h:Kept lo hi a b)(v:Value)(h1:lo<=d)(h2:d<=hi):Kept lo hi a (b.put (some d) v):=by
 refine ⟨by simp [Act.put,h.size],by simp [Act.put,h.defers],fun i hi=>?_⟩;rw [<-h.slot i hi];simp only [Act.put];rw [Array.getElem?_setIfInBounds_ne o_]
theorem Kept.form{a0 a:Act}(h:Kept 9 125 a0 a)(hs:a0.tmps.size=256):∃us:List Value,us.length=117/\a=⟨(a0.tmps.toList.take 9++us++a0.tmps.toList.drop 126).toArray,a0.defers⟩:=by
 have h1:a.tmps.toList.length=256:=by rw [Array.length_toList,h.size,hs]
 have h0:a0.tmps.toList.length=256:=by rw [Array.length_toList,hs]
 refine ⟨(a.tmps.toList.drop 9).take 117,by rw [List.length_take,List.length_drop,h1];rfl,?_⟩;obtain ⟨t,d⟩:=a;have hd:d=a0.defers:=h.defers;subst hd;congr 1;apply Array.ext_getElem?;intro i;simp only [List.getElem?_toArray];by_cases hi:i<9
 ·rw [List.getElem?_append_left (by rw [List.length_append,List.length_take];omega),List.getElem?_append_left n46_,List.getElem?_take_of_lt hi]
  have:=h.slot i (.inl hi)
  simpa using this
 ·by_cases hi2:i<=125
  ·rw [List.getElem?_append_left (by rw [List.length_append,List.length_take,List.length_take,List.length_drop];simp only at h1;omega),List.getElem?_append_right n46_,List.length_take,h0,List.getElem?_take_of_lt o_,List.getElem?_drop]
   simp only [Array.getElem?_toList];congr 1;omega
  ·rw [List.getElem?_append_right (by rw [List.length_append,List.length_take,List.length_take,List.length_drop];simp only at h1;omega),List.length_append,List.length_take,List.length_take,List.length_drop,h0,List.getElem?_drop]
   have:=h.slot i (.inr o_)
   simp only at this h1;rw [this,h1,Array.getElem?_toList];congr 1;omega
theorem ZoB{a:Act}{d:Nat}(v:Value)(h:d<a.tmps.size):(a.put (some d) v).tmps[d]?=some v:=by
 simp only [Act.put];rw [Array.getElem?_setIfInBounds_self_of_lt h]
theorem Zof{a:Act}{d i:Nat}(v:Value)(h:i≠d):(a.put (some d) v).tmps[i]?=a.tmps[i]?:=by
 simp only [Act.put];rw [Array.getElem?_setIfInBounds_ne o_]
section
variable {P:Program} {ops:Array Oper} {Q:Exit->Act->World->Prop} {w:World}
theorem ZjM{o:Oper}{y:Nat->Option Bool}(h:o.guard=none):Region.wanted o y=true:=by unfold Region.wanted;rw [h]
theorem ZlF{o:Oper}{a:Act}{g k:Nat}{c:Bool}(h:o.guard=some (g,c))(hg:(ops[g]?).bind (·.dst)=some k)(hk:a.tmps[k]?=some (.bool c)):Region.wanted o (yielded ops a.tmps)=true:=by
 unfold Region.wanted yielded;rw [h];simp [hg,hk]
theorem Znp{o:Oper}{a:Act}{g k:Nat}{c:Bool}(h:o.guard=some (g,c))(hg:(ops[g]?).bind (·.dst)=some k)(hk:a.tmps[k]?=some (.bool !c)):¬Region.wanted o (yielded ops a.tmps)=true:=by
 unfold Region.wanted yielded;rw [h];simp [hg,hk]
theorem Zcs{o:Oper}{a:Act}{K:Act->World->Prop}{f:FuncId}{args:Array Value}{v:Value}{R:Ending->World->Prop}(hx:(execOp a.eval o).run P w=.ok (.enter f args) w)(hc:Calls P f args w R)(hR:∀e w',R e w'->e=.returned v/\K (a.put o.dst v) w'):Oper.wp P o a w K Q:=by
 unfold Oper.wp;rw [hx,Oper.upon_enter];exact hc.mono (fun e w' h=>by obtain ⟨rfl,k⟩:=hR e w' h;exact k)
end
section
variable {P:Program} {ops:Array Oper} {Q:Exit->Act->World->Prop}
end
theorem XE{P:Program}{K:Act->World->Prop}{Q:Exit->Act->World->Prop}{a:Act}{w w':World}{o:Oper}(v:Value)(hr:(execOp a.eval o).run P w=.ok (.value v) w')(h:K (a.put o.dst v) w'):Oper.wp P o a w K Q:=by
 unfold Oper.wp;rw [hr,Oper.upon_value];exact h
def nodupB:List Nat->Bool
 |[]=>true
 |x::t=>!(t.contains x)&&nodupB t
def Zia:Nat->List Oper->Bool
 |_,[]=>true
 |n,o::t=>(o.after.all fun e=>!Region.binds .any e||decide (e.on<n))&&Zia (n+1) t
def ZiK(N:Nat)(L:List Nat)(ops:Array Oper):Bool:=(ops.toList.map (·.dst)==L.map some)&&(nodupB L&&(L.all (fun d=>decide (d<N))&&Zia 0 ops.toList))
theorem ZeJ:∀(L:List Nat),nodupB L=true->∀(i j d:Nat),L[i]?=some d->L[j]?=some d->i=j
 |[],_,i,j,d,h,_=>by simp at h
 |x::t,hn,i,j,d,hi,hj=>by
  rw [nodupB,Bool.and_eq_true] at hn;have hx:x∉t:=by simpa using hn.1
  rcases i with _|i<;>rcases j with _|j
  ·rfl
  ·simp at hi hj;subst hi;exact absurd (List.mem_of_getElem? hj) hx
  ·simp at hi hj;subst hj;exact absurd (List.mem_of_getElem? hi) hx
  ·rw [ZeJ t hn.2 i j d n126_ n97_]
theorem Zff:∀(l:List Oper) (n:Nat),Zia n l=true->∀(i:Nat) (o:Oper),l[i]?=some o->∀e∈o.after,Region.binds .any e=true->e.on<n+i
 |[],_,_,i,o,h=>by simp at h
 |x::t,n,hb,i,o,h=>by
  rw [Zia,Bool.and_eq_true] at hb;rcases i with _|i
  ·simp at h;subst h
   intro e he hbe;have h1:=hb.1;rw [Array.all_eq_true'] at h1
   have:=h1 e he
   rw [hbe] at this;exact of_decide_eq_true (by simpa using this)
  ·intro e he hbe
   have:=Zff t (n+1) hb.2 i o n60_ e he hbe
   omega
section
variable {P:Program} {ops:Array Oper} {Q:Exit->Act->World->Prop}
theorem Zev{N:Nat}{L:List Nat}(h:ZiK N L ops=true){i:Nat}{o:Oper}(ho:ops[i]?=some o):(∀e∈o.after,Region.binds .any e=true->e.on<i)/\(∃d,o.dst=some d/\d<N)/\∀j oj d,ops[j]?=some oj->o.dst=some d->oj.dst=some d->i=j:=by
 unfold ZiK at h;simp only [Bool.and_eq_true] at h;obtain ⟨h1,h2,h3,h4⟩:=h;have h1:=eq_of_beq h1;have get:∀(i:Nat) (o:Oper),ops[i]?=some o->∃d,L[i]?=some d/\o.dst=some d:=fun i o ho=>by
  have e:(ops.toList.map (·.dst))[i]?=some o.dst:=by simp [ho]
  rw [h1] at e;simp at e;obtain ⟨d,hd,he⟩:=e;exact ⟨d,hd,he.symm⟩
 obtain ⟨d0,hd0,he0⟩:=get i o ho;refine ⟨fun e he hb=>?_,⟨d0,he0,of_decide_eq_true (List.all_eq_true.1 h3 d0 (List.mem_of_getElem? hd0))⟩,fun j oj d hj hd hd2=>?_⟩
 ·have:=Zff ops.toList 0 h4 i o (by simpa using ho) e he hb
  omega
 ·obtain ⟨d1,hd1,he1⟩:=get j oj hj
  rw [hd] at he0;injection he0 with he0
  rw [hd2] at he1;injection he1 with he1
  exact ZeJ L h2 i j d (by rw [he0];exact hd0) (by rw [he1];exact hd1)
def ZmG(P:Program)(ops:Array Oper)(Q:Exit->Act->World->Prop)(F:Act->Prop)(S:World->Prop)(val:Nat->Value)(i:Nat)(o:Oper):Prop:=
 ∀(a:Act) (w:World),S w->F a->(∀e∈o.after,Region.binds .any e=true->∀oj d,ops[e.on]?=some oj->oj.dst=some d->a.tmps[d]?=some (val e.on))->
  if Region.wanted o (yielded ops a.tmps)=true then Oper.wp P o a w (fun a' w'=>a'=a.put o.dst (val i)/\S w') Q else val i=undef
theorem Zoe{a0:Act}{N:Nat}{F:Act->Prop}{S:World->Prop}{val:Nat->Value}{L:List Nat}(hok:ZiK N L ops=true)(hN:a0.tmps.size=N)
  (hF:∀a:Act,(∀k,(∀(i:Nat) (o:Oper),ops[i]?=some o->o.dst≠some k)->a.tmps[k]?=a0.tmps[k]?)->F a)
  (hstep:∀(i:Nat) (o:Oper),ops[i]?=some o->ZmG P ops Q F S val i o)
  (hend:∀(a:Act) (w:World),S w->a.tmps.size=a0.tmps.size->a.defers=a0.defers->(∀k,(∀(i:Nat) (o:Oper),ops[i]?=some o->o.dst≠some k)->a.tmps[k]?=a0.tmps[k]?)->
   (∀(i:Nat) (o:Oper) (d:Nat),ops[i]?=some o->o.dst=some d->a.tmps[d]?=some (val i))->Q .normal a w) :
  ∀(f:Nat) (L:List Nat) (b:Array Bool) (a:Act) (w:World),L.length<=f->b.size=ops.size->(∀i,i<ops.size->b.getD i false=false->i∈L)->S w->a.tmps.size=a0.tmps.size->a.defers=a0.defers->
   (∀k,(∀(i:Nat) (o:Oper),ops[i]?=some o->o.dst≠some k)->a.tmps[k]?=a0.tmps[k]?)->(∀(i:Nat) (o:Oper) (d:Nat),ops[i]?=some o->o.dst=some d->b.getD i false=true->a.tmps[d]?=some (val i))->wpAny P .any ops Q f b a w:=by
 have hall:∀(b:Array Bool),b.size=ops.size->Region.ready .any ops b=[]->∀i,i<ops.size->b.getD i false=true:=by
  intro b hb hr i;induction i using Nat.strongRecOn with
  |_ i ih=>
   intro hi;cases hq:b.getD i false with
   |true=>rfl
   |false=>
    have hm:i∈Region.ready .any ops b:=by
     refine mem_ready.2 ⟨?_,_,Array.getElem?_eq_getElem hi,fun e he hb=>?_⟩
     ·simp [Array.getD,hb,hi] at hq⊢;exact hq
     ·have:=(Zev hok (Array.getElem?_eq_getElem hi)).1 e he hb
      exact ih _ this o_
    rw [hr] at hm;cases hm
 intro f;induction f with
 |zero=>
  intro L b a w hL hb hm hS h1 h2 h3 h4;have hL0:L=[]:=List.eq_nil_of_length_eq_zero o_;subst hL0;have ha:∀i,i<ops.size->b.getD i false=true:=fun i hi=>by
   cases hq:b.getD i false with
   |true=>rfl
   |false=>have:=hm i hi hq;cases this
  refine ⟨?_,hend a w hS h1 h2 h3 (fun i o d ho hd=>h4 i o d ho hd (ha i (Array.getElem?_eq_some_iff.1 ho).1))⟩;rw [List.eq_nil_iff_forall_not_mem];intro i hi;obtain ⟨h1,o,ho,_⟩:=mem_ready.1 hi;have hil:i<ops.size:=(Array.getElem?_eq_some_iff.1 ho).1
  have:=ha i hil
  simp [Array.getD,hb,hil] at h1 this;rw [this] at h1;cases h1
 |succ f ih=>
  intro L b a w hL hb hm hS h1 h2 h3 h4;refine ⟨fun hr=>hend a w hS h1 h2 h3 (fun i o d ho hd=>h4 i o d ho hd (hall b hb hr i (Array.getElem?_eq_some_iff.1 ho).1)),fun i hi=>?_⟩;obtain ⟨hr1,o,ho,hdep⟩:=mem_ready.1 hi;have hil:i<ops.size:=(Array.getElem?_eq_some_iff.1 ho).1;have hi0:b.getD i false=false:=by
   simp [Array.getD,hb,hil] at hr1⊢;exact hr1
  obtain ⟨_,⟨di,hdi,hdN⟩,hinj⟩:=Zev hok ho;have hw:=hstep i o ho a w hS (hF a h3) (fun e he hb oj d hj hd=>h4 e.on oj d hj hd (hdep e he hb));have next:∀w',S w'->wpAny P .any ops Q f (b.setIfInBounds i true) (a.put o.dst (val i)) w':=by
   intro w' hS';have hset:∀j,j≠i->(b.setIfInBounds i true).getD j false=b.getD j false:=fun j e=>getD_set_ne false (Ne.symm e)
   rw [hdi];refine ih (L.erase i) _ _ w' ?_ (by simp [hb]) (fun j hj hq=>?_) hS' (by rw [<-h1];simp [Act.put]) (by rw [<-h2];simp [Act.put]) (fun k hk=>?_) (fun j oj d hj hd hq=>?_)
   ·have:=List.length_erase_of_mem (hm i hil hi0)
    have h0:0<L.length:=List.length_pos_of_mem (hm i hil hi0);omega
   ·by_cases e:j=i
    ·subst e;simp [Array.getD,hb,hil] at hq
    ·rw [hset j e] at hq
     exact (List.mem_erase_of_ne e).2 (hm j hj hq)
   ·rw [<-h3 k hk]
    exact Zof _ (fun e=>hk i o ho (by rw [hdi,e]))
   ·by_cases e:j=i
    ·subst e
     rw [ho] at hj;injection hj with hj;subst hj
     rw [hdi] at hd;injection hd with hd;subst hd
     exact ZoB _ (by rw [h1,hN];exact hdN)
    ·rw [hset j e] at hq
     rw [<-h4 j oj d hj hd hq];exact Zof _ (fun e2=>e (hinj j oj di hj hdi (by rw [hd,e2])).symm)
  unfold wpOp;simp only [ho];by_cases hwd:Region.wanted o (yielded ops a.tmps)=true
  ·rw [if_pos hwd] at hw⊢
   refine .inl (Oper.wp_mono ?_ hw);rintro a' w' ⟨rfl,hS'⟩;exact next w' hS'
  ·rw [if_neg hwd] at hw⊢
   rw [<-hw];exact next w hS
theorem Zgb{id:Nat}{a:Act}{w:World}{N:Nat}(F:Act->Prop)(S:World->Prop)(val:Nat->Value)(L:List Nat)(hm:P.follows .mixedOrders=true)(hok:ZiK N L ops=true)(hN:a.tmps.size=N)(h0:S w.drew)
  (hF:∀a':Act,(∀k,(∀(i:Nat) (o:Oper),ops[i]?=some o->o.dst≠some k)->a'.tmps[k]?=a.tmps[k]?)->F a')
  (hstep:∀(i:Nat) (o:Oper),ops[i]?=some o->ZmG P ops Q F S val i o)
  (hend:∀(a':Act) (w':World),S w'->a'.tmps.size=a.tmps.size->a'.defers=a.defers->(∀k,(∀(i:Nat) (o:Oper),ops[i]?=some o->o.dst≠some k)->a'.tmps[k]?=a.tmps[k]?)->
   (∀(i:Nat) (o:Oper) (d:Nat),ops[i]?=some o->o.dst=some d->a'.tmps[d]?=some (val i))->Q .normal a' w'):(Code.region id ops true).wp P Q a w:=by
 refine wp_region_any hm ?_;refine Zoe hok hN hF hstep hend ops.size (List.range ops.size) _ a _ s_ s_ (fun i hi _=>List.mem_range.2 hi) h0 rfl rfl (fun _ _=>rfl) (fun i o d ho hd h=>?_);rw [getD_replicate_false] at h;cases h
def ZdT(p:Nat->Oper->Prop):Nat->List Oper->Prop
 |_,[]=>True
 |n,o::t=>p n o/\ZdT p (n+1) t
theorem ZeV{p:Nat->Oper->Prop}:∀(l:List Oper) (n:Nat),ZdT p n l->∀(i:Nat) (o:Oper),l[i]?=some o->p (n+i) o
 |[],_,_,i,o,h=>by simp at h
 |x::t,n,⟨h,ht⟩,0,o,e=>by simp at e;rw [<-e];exact h
 |x::t,n,⟨h,ht⟩,i+1,o,e=>by
  have:=ZeV t (n+1) ht i o (by simpa using e)
  rw [show n+(i+1)=n+1+i by omega];exact this
theorem Zqv{p:Nat->Oper->Prop}(h:ZdT p 0 ops.toList):∀(i:Nat) (o:Oper),ops[i]?=some o->p i o:=fun i o ho=>by
 have:=ZeV ops.toList 0 h i o (by simpa using ho)
 rw [Nat.zero_add] at this;exact this
def waits(o:Oper)(j:Nat):Prop:=∃e∈o.after,Region.binds .any e=true/\e.on=j
variable {F:Act->Prop} {S:World->Prop} {val:Nat->Value}
theorem Xb{i:Nat}{o:Oper}(hg:o.guard=none)(h:∀(a:Act) (w:World),S w->F a->(∀j oj d,waits o j->ops[j]?=some oj->oj.dst=some d->a.tmps[d]?=some (val j))->Oper.wp P o a w (fun a' w'=>a'=a.put o.dst (val i)/\S w') Q):ZmG P ops Q F S val i o:=by
 intro a w hS hF hd;rw [if_pos (ZjM hg)];exact h a w hS hF (fun j oj d ⟨e,he,hb,hj⟩ ho hdst=>by subst hj;exact hd e he hb oj d ho hdst)
theorem Yz{i g k:Nat}{og o:Oper}{acc:Bool}(hg:o.guard=some (g,true))(hog:ops[g]?=some og)(hk:og.dst=some k)(hwt:waits o g)(hv:val g=.bool acc)(hn:acc=false->val i=undef)
  (h:acc=true->∀(a:Act) (w:World),S w->F a->(∀j oj d,waits o j->ops[j]?=some oj->oj.dst=some d->a.tmps[d]?=some (val j))->Oper.wp P o a w (fun a' w'=>a'=a.put o.dst (val i)/\S w') Q):ZmG P ops Q F S val i o:=by
 intro a w hS hF hd;have hd2:∀j oj d,waits o j->ops[j]?=some oj->oj.dst=some d->a.tmps[d]?=some (val j):=fun j oj d ⟨e,he,hb,hj⟩ ho hdst=>by subst hj;exact hd e he hb oj d ho hdst
 have hflag:=hd2 g og k hwt hog hk;rw [hv] at hflag;have hgb:(ops[g]?).bind (·.dst)=some k:=by rw [hog];exact hk
 cases acc with
 |true=>
  rw [if_pos (ZlF hg hgb hflag)];exact h rfl a w hS hF hd2
 |false=>
  rw [if_neg (Znp hg hgb hflag)];exact hn rfl
end
end Go.Proofs.YtgoooebfhdbbkaaGreatDoor
