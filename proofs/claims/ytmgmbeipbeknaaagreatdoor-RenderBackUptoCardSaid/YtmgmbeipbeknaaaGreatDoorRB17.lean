import Derived.Test.YtmgmbeipbeknaaaGreatDoorRB2
import Derived.Test.YtmgmbeipbeknaaaGreatDoorRB15
import Derived.Test.YtmgmbeipbeknaaaGreatDoorRB16
namespace Go.Proofs.YtmgmbeipbeknaaaGreatDoor
open Go.Proofs.Tryz
open Go Go.RowKit Go.Shelf
set_option linter.all false
set_option maxHeartbeats 16000000
set_option maxRecDepth 100000
attribute [local go_sem] Oper.semAt_some
theorem ZsC:(prog.info? 300).map (fun i=>(i.zero,i.size,i.bytes))=some (some (.agg #[.int .i64 0,.int .i64 0,.int .i64 0]),3,24):=k_
theorem ZgD:∀(l:List Str) (x:Str),XF (l++[x])=match XF l with
  |none=>none
  |some r=>(YM x).map fun p=>r++[p]
 |[],x=>by
  simp only [List.nil_append,XF];cases YM x<;>rfl
 |y::t,x=>by
  rw [c12_,XF,ZgD t x,XF];cases YM y with
  |none=>rfl
  |some p=>
   cases XF t with
   |none=>rfl
   |some r=>cases YM x<;>rfl
theorem Zgh:∀(l m:List Str),XF l=none->XF (l++m)=none
 |[],m,h=>by simp [XF] at h
 |y::t,m,h=>by
  rw [c12_,XF];rw [XF] at h;cases hp:YM y with
  |none=>rfl
  |some p=>
   rw [hp] at h;simp only at h⊢;rw [Zgh t m (by cases ht:XF t with|none=>rfl|some r=>rw [ht] at h;simp at h)];rfl
theorem Zeg:∀(l:List Str) ps,XF l=some ps->ps.length=l.length
 |[],ps,h=>by simp [XF] at h;subst h;rfl
 |y::t,ps,h=>by
  rw [XF] at h;cases hp:YM y with
  |none=>rw [hp] at h;simp at h
  |some p=>
   rw [hp] at h;cases hr:XF t with
   |none=>rw [hr] at h;simp at h
   |some r=>rw [hr] at h;simp at h;subst h;simp [Zeg t r hr]
theorem Zdp{F:Fence}{n:Nat}{P:Program}{w:World}{ops:Array Oper}{rest:List Oper}{o:Oper}{a:Act}{Q:Exit->Act->World->Prop}(hg:o.guard=none)(s x:Operand)(t:TypeId)
  (hop:o.op=Op.call { callee:=Callee.builtin Builtin.append,args:=#[s,x],argTypes:=#[t,t] }) {v xv v':Value} {w':World} (hrun:(Builtin.append_ #[t,t] o.type #[v,xv]).run P w=.ok v' w') (hs:a.eval s=v) (hx:a.eval x=xv)
  (h:wpListIn F n P ops Q rest (a.put o.dst v') w'):wpListIn F n P ops Q (o::rest) a w:=by
 refine wpListIn_plain hg fun K hK'=>?_
 unfold Oper.wpIn;refine ⟨?_,?_⟩
 ·simp [Oper.about,hop,resolve,Target.leads,Sem.run_pure]
 ·rw [Oper.semAt_plain F _ _ (by rw [hop];intro c hc';cases hc')]
  simp [execOp,hop,resolve,invoke,builtin,hs,hx,hrun,Result.andThen];exact hK' _ _ h
theorem Za0{W W':World}(h:Below W.heap.size W W')(N:Nat):KeepsFrom N W W':=⟨h.size,fun k o _ hk _=>(h.block k (Zd hk)).trans hk⟩
theorem ZlI(w:World)(p:YO):(w.alloc (.cells #[.int .i64 p.from_,.int .i64 p.to_,.int .i64 p.step] 300)).ownsRow w.heap.size 300 3 (.slice (some ⟨w.heap.size,0,none⟩) 1 1) 1 (QC p):=
 ZoD w _ _ _ _
structure InP(w:World)(B N:Nat)(pre:List Str)(W:World):Prop where
 r0:W.heap[B]?=some (.cells #[.slice none 0 0] 233 (0,0))
 r1:W.heap[B+1]?=some (.cells #[.bool false] 4 (0,0))
 out:∃v ps,W.heap[B+2]?=some (.cells #[v] 233 (0,0))/\XF pre=some ps/\W.ownsRow N 300 3 v ps.length (Zx QC ps)
 below:Below B w W
 big:N<=W.heap.size
structure ExP(w:World)(B:Nat)(xs:List Str)(c:Code)(W:World):Prop where
 jump:c=.ret
 r0:W.heap[B]?=some (.cells #[.slice none 0 0] 233 (0,0))
 r1:W.heap[B+1]?=some (.cells #[.bool false] 4 (0,0))
 none_:XF xs=none
 below:Below B w W
theorem XR{A B:World}{row:Option Nat}{N b k:Nat}{o:Obj}(hg:A.grownBy B row)(hr:∀r,row=some r->r=b\/(N<=r/\∃o:Obj,A.heap[r]?=some o/\o.isCells=false))(hk:A.heap[k]?=some o)(hc:o.isCells=true)(hb:k≠b):B.heap[k]?=some o:=by
 refine (hg.block k (Zd hk) (fun e=>?_)).trans hk;rcases hr k e.symm with h|⟨_,o',h1,h2⟩
 ·exact hb h
 ·rw [hk] at h1;cases h1;rw [hc] at h2;cases h2
theorem Zsy{A B:World}{row:Option Nat}{N b e size n:Nat}{v:Value}{xs:List Value}(hg:A.grownBy B row)(hr:∀r,row=some r->r=b\/(N<=r/\∃o:Obj,A.heap[r]?=some o/\o.isCells=false))(h:A.ownsRow N e size v n xs)(hb:b<N):B.ownsRow N e size v n xs:=by
 refine ⟨h.1,?_⟩;rcases h.2 with hn|⟨g,cap,cur,rfl,hgN,hgg,rest⟩
 ·exact .inl hn
 ·exact .inr ⟨g,cap,cur,rfl,hgN,XR hg hr hgg rfl o_,rest⟩
theorem ZcC{w A B:World}{row:Option Nat}{N b C:Nat}(hg:A.grownBy B row)(hr:∀r,row=some r->r=b\/(N<=r/\∃o:Obj,A.heap[r]?=some o/\o.isCells=false))(h:Below C w A)(hb:C<=b)(hN:C<=N)(hC:C<=A.heap.size):Below C w B:=
 h.grown hg hC (fun k e=>by rcases hr k e with h|⟨h,_⟩<;>omega)
theorem ZrZ(w:World)(B N b:Nat)(hw:B=w.heap.size)(hb:B+2<b)(hN:b<N):Zk7 N b (InP w B N):=fun s X Y row h hg hr=>
 {r0:=XR hg hr h.r0 rfl o_
  r1:=XR hg hr h.r1 rfl o_
  out:=by obtain ⟨v,ps,h1,h2,h3⟩:=h.out;exact ⟨v,ps,XR hg hr h1 rfl o_,h2,Zsy hg hr h3 hN⟩
  below:=ZcC hg hr h.below o_ o_ n102_
  big:=Nat.le_trans h.big hg.size }
theorem ZrV(w:World)(B N b:Nat)(xs:List Str)(c:Code)(hw:B=w.heap.size)(hb:B+2<b)(hN:b<N):Zk7 N b (fun (_:List Str)=>ExP w B xs c):=fun s X Y row h hg hr=>
 {jump:=h.jump
  r0:=XR hg hr h.r0 rfl o_
  r1:=XR hg hr h.r1 rfl o_
  none_:=h.none_
  below:=ZcC hg hr h.below o_ o_ n102_ }
def ZlG(w:World)(s:Str)(e:Ending)(w':World):Prop:=
 ∃v,e=.returned (.tuple #[v,.bool (Ze8 s).isSome])/\w'.ownsRow w.heap.size 300 3 v ((Ze8 s).getD []).length (Zx QC ((Ze8 s).getD []))/\Below w.heap.size w w'
theorem Zuc(s:Str)(w:World)(hs:s.length<=100000000)(hM:Zz w):Calls prog 323 #[.string ⟨s.toArray⟩] w fun e w'=>ZlG w s e w':=by
 have HM:=h_ (fun V (h:Below w.heap.size w V)=>hM.below h);have HLN:=h_ (JO 44 s);have HMEM:=h_ (Q8 44 s);let w0:=((w.alloc (.cells #[.slice none 0 0] 233)).alloc (.cells #[.bool false] 4)).alloc (.cells #[.slice none 0 0] 233);have hz0:w0.heap.size=w.heap.size+3:=by simp [w0]
 have hB0:Below w.heap.size w w0:=((b_.alloc l_ _).alloc s_ _).alloc n6_ _;have a0:w0.heap[w.heap.size]?=some (.cells #[.slice none 0 0] 233 (0,0)):=heap_alloc (heap_alloc (heap_alloc_new w _) _) _;have a1:w0.heap[w.heap.size+1]?=some (.cells #[.bool false] 4 (0,0)):=by
  rw [<-show (w.alloc (.cells #[.slice none 0 0] 233)).heap.size=w.heap.size+1 by simp];exact heap_alloc (heap_alloc_new _ _) _
 have a2:w0.heap[w.heap.size+2]?=some (.cells #[.slice none 0 0] 233 (0,0)):=by
  rw [<-show ((w.alloc (.cells #[.slice none 0 0] 233)).alloc (.cells #[.bool false] 4)).heap.size=w.heap.size+2 by simp];exact heap_alloc_new _ _
 have HSQ:=h_ (ZeY 44 s w0);obtain ⟨pl,hbs,hzs⟩:=ZeQ w0 44 s;have HPL:=h_ pl;have HI0:=h_ (show InP w w.heap.size (Xx w0 44 s).heap.size [] (Xx w0 44 s) from
  {r0:=Za a0 hbs,r1:=Za a1 hbs,out:=⟨_,[],Za a2 hbs,rfl,World.ownsRow_nil _ _ _ _⟩,below:=hB0.trans (hbs.mono o_),big:=Nat.le_refl _ })
 clear a0 a1 a2 pl hbs hB0 hM;have HZ0:=h_ hz0;refine (callsIn_wide (n:=9)).1 ?_;have hF:Fence.wide.fn 321:=trivial;have hF2:Fence.wide.fn 341:=trivial;refine callsIn_of_wp_marks func323 rfl trivial ?_ rfl;simp only [ntmps323,List.size_toArray,c14_,List.length_nil,Nat.reduceAdd,Nat.reduceSub,Array.replicate_succ,Array.replicate_zero,List.push_toArray,List.append_toArray,List.nil_append,c12_]
 gi_wp2_with (gi_at_call 321;refine (callsIn_wide.2 HSQ.out).mono ?_;rintro e w' ⟨rfl,rfl⟩)
 refine Zge (n:=9) (gf:=355) (lb:=#[.pointer (some ⟨w.heap.size+3+1,0,none⟩),.pointer (some ⟨w.heap.size+3,0,none⟩),.pointer (some ⟨w.heap.size+3+2,0,none⟩)]) rfl Zea
  (Zgy 8 (w.heap.size+3) d_ 44 s (Xx w0 44 s) (by rw [<-hz0];exact HPL.out) o_) o_
  (fun A o h=>KpB.of_below ((Below.refl _ A).alloc l_ o) o_) (fun h k=>KpB.trans h k)
  (fun W l o h=>⟨s_,fun k hk=>World.putObj_heap_other o_⟩) rfl
  (InP w w.heap.size (Xx w0 44 s).heap.size) (fun c _=>ExP w w.heap.size (ZP 44 s) c)
  (ZrZ w w.heap.size _ (w.heap.size+3) rfl o_ o_) (fun c=>ZrV w w.heap.size _ (w.heap.size+3) _ c rfl o_ o_) HI0.out
  (fun x=>{ tmps:=#[.string ⟨s.toArray⟩,undef,.pointer (some ⟨w.heap.size,0,none⟩),.pointer (some ⟨w.heap.size+1,0,none⟩),.pointer (some ⟨w.heap.size+1+1,0,none⟩),.string ⟨x.toArray⟩,undef,undef,.string ⟨s.toArray⟩,
   .func (.func 355) #[] #[.pointer (some ⟨w.heap.size+3+1,0,none⟩),.pointer (some ⟨w.heap.size+3,0,none⟩),.pointer (some ⟨w.heap.size+3+2,0,none⟩)],.string ⟨x.toArray⟩,undef,undef,undef,undef,undef,undef,undef,undef,undef,undef,undef,undef],defers:=[] }) ?assign ?body ?done ?stop
 case assign=>
  intro l x W K hK
  gi_wp2
  exact hK
 case body=>
  rintro l pre x post W hx hI;have hF3:(Fence.wide.inRound l).fn 341:=trivial;have hxl:x.length<=s.length:=HMEM.out x (by rw [hx];simp);have HPT:=h_ (ZsX x W o_ (HM.out W hI.below));have HI:=h_ hI;have HX:=h_ hx;obtain ⟨N,hN⟩:=e_ ((Xx w0 44 s).heap.size);rw [<-hN] at HI⊢;have HNw:=h_ (show N=w.heap.size+6 by omega);have HWS:=h_ (fun V (h:InP w w.heap.size N pre V)=>show N<=V.heap.size from h.big);clear hI hx hN hzs HPL HI0 HSQ hz0 HZ0
  gi_wp2_with fail
  refine (CallsIn.inRound l (callsIn_wide.2 HPT.out)).mono ?_;rintro e W1 ⟨⟨pf,pt,pst⟩,rfl,hp,hb1⟩;have r0:=Za HI.out.r0 hb1;have r1:=Za HI.out.r1 hb1;obtain ⟨v,ps,h2,hpl,hown⟩:=HI.out.out;have r2:=Za h2 hb1;have HOW:=h_ (Zo hown hb1);have HBW:=h_ (HI.out.below.trans (hb1.mono HI.out.below.size));have HKP:=h_ (show KpB (w.heap.size+3) W W1 from KpB.of_below hb1 (by have:=HI.out.below.size;have:=Zd h2;have:=HWS.out W HI.out;have:=HNw.out;omega));have HKF:=h_ (Za0 hb1 N);have HSN:=h_ (ZgD pre x);have HR0:=h_ r0;have HR1:=h_ r1;have HR2:=h_ r2;have HLT:=h_ (show N<=W1.heap.size from Nat.le_trans (HWS.out W HI.out) hb1.size);obtain ⟨a0,a1,a2,a3⟩:=rd r0;obtain ⟨b0,b1,b2,b3⟩:=rd r1;obtain ⟨d0,d1,d2,d3⟩:=rd r2;have a00:=a0 0;have b00:=b0 0;have d00:=d0 0;have a10:=a1 0;have b10:=b1 0;have d10:=d1 0;simp only [c1_,c2_] at a00 b00 d00;clear r0 r1 r2 a0 a1 a2 b0 b1 b2 d0 d1 d2 h2 hown hb1 HPT;cases hps:YM x with
  |none=>
   have HNO:=h_ (show XF (ZP 44 s)=none by
    rw [HX.out,show pre++x::post=(pre++[x])++post by simp];refine Zgh _ _ ?_;rw [HSN.out,hpl,hps];rfl)
   clear hps hp hpl;simp only [Option.isSome_none];have q0:=HR0.out;have q1:=HR1.out;let V2:=(W1.setCell ⟨w.heap.size,0,none⟩ (.slice none 0 0)).setCell ⟨w.heap.size+1,0,none⟩ (.bool false);have hV2:V2.heap.size=W1.heap.size:=by simp [V2]
   have HFIN:=h_ (show KeepsFrom N W (V2.alloc (.cells #[.int .i64 pf,.int .i64 pt,.int .i64 pst] 300))/\ExP w w.heap.size (ZP 44 s) .ret (V2.alloc (.cells #[.int .i64 pf,.int .i64 pt,.int .i64 pst] 300)) from
    ⟨HKF.out.trans ((((KeepsOthers.setCell _ _ _).trans (KeepsOthers.setCell _ _ _)).trans (KeepsOthers.alloc _ _)).from N),
     {jump:=rfl
      r0:=heap_alloc (ZC (heap_setCell q0 0 (.slice none 0 0)) (a:=⟨w.heap.size+1,0,none⟩) s_ _) _
      r1:=heap_alloc (heap_setCell (ZC q1 (a:=⟨w.heap.size,0,none⟩) s_ _) 0 (.bool false)) _
      none_:=HNO.out
      below:=((HBW.out.setCell (p:=⟨w.heap.size,0,none⟩) l_ _).setCell (p:=⟨w.heap.size+1,0,none⟩) s_ _).alloc (by have:=HBW.out.size;simp;omega) _ }⟩)
   clear q0 q1 hV2
   gi_wp2_with fail
   exact HFIN.out
  |some q=>
   obtain rfl:=hp q hps;obtain ⟨i0,hi0,hz0,hz1,hz2⟩:=info_parts ZsC;obtain ⟨oa,cap,rfl⟩:=ownsRow_form HOW.out;have hpn:ps.length<=100000001:=by
    rw [Zeg _ _ hpl];have h1:=HLN.out;rw [HX.out] at h1;simp at h1;omega
   let V1:=(W1.alloc (.cells #[.int .i64 pf,.int .i64 pt,.int .i64 pst] 300)).alloc (.cells #[.int .i64 pf,.int .i64 pt,.int .i64 pst] 300);have hB1:Below W1.heap.size W1 V1:=(b_.alloc l_ _).alloc s_ _;have hbl:=ZG.of_own (enc:=QC) (k:=3) (l:=[⟨pf,pt,pst⟩]) (oa:=some ⟨W1.heap.size+1,0,none⟩) (cap:=1) (fun _=>rfl) (by
    have:=ZlI (W1.alloc (.cells #[.int .i64 pf,.int .i64 pt,.int .i64 pst] 300)) ⟨pf,pt,pst⟩
    rw [show (W1.alloc (.cells #[.int .i64 pf,.int .i64 pt,.int .i64 pst] 300)).heap.size=W1.heap.size+1 by simp] at this;exact this)
   obtain ⟨v',w4,hrun,hown4,hgrow⟩:=Xh (P:=prog) N 233 233 300 i0 (.agg #[.int .i64 0,.int .i64 0,.int .i64 0]) 3 24 underlying233 hi0 hz0 hz1 hz2 n18_ d_ _ _ _ (Zo HOW.out hB1) (some ⟨W1.heap.size+1,0,none⟩) 1 1 (Zx QC [⟨pf,pt,pst⟩]) rfl (ZG.flat (enc:=QC) (k:=3) (fun _=>rfl) o_ hbl) (Y1 ZpZ _) n23_ o_ (Nat.le_trans HLT.out hB1.size);have HRUN:=h_ hrun;obtain ⟨oa3,cap3,rfl⟩:=ownsRow_form hown4;have hge:∀g,(Value.slice oa ps.length cap).ownBlock=some g->N<=g:=fun g hg=>(HOW.out.lt g hg).1
   have hat:∀k o,k<N->W1.heap[k]?=some o->w4.heap[k]?=some o:=fun k o hk ho=>(hgrow.block k (Zd (Za ho hB1)) (fun e=>by have:=hge k e.symm;omega)).trans (Za ho hB1)
   have hNw:=HNw.out;have q0:=hat _ _ o_ HR0.out;have q1:=hat _ _ o_ HR1.out;have q2:=hat _ _ o_ HR2.out;have HC2:=h_ (heap_setCell q2 0 (.slice oa3 (ps.length+1) cap3));have hbel:Below w.heap.size w w4:=(HBW.out.trans (hB1.mono HBW.out.size)).grown hgrow (by have:=HLT.out;have:=hB1.size;omega) (fun g hg=>by have:=hge g hg;omega);have hkf:KeepsFrom N W w4:=HKF.out.trans ((Za0 hB1 N).trans ((KeepsOthers.of_grownBy hgrow (fun k o hk ho=>by
    rcases (Zo HOW.out hB1).2 with ⟨hv,_⟩|⟨g,cp,cur,hv,_,hgg,_⟩
    ·rw [hv] at hk;simp [Value.ownBlock] at hk
    ·rw [hv] at hk;simp [Value.ownBlock] at hk;subst hk;rw [hgg] at ho;cases ho;rfl)).from N))
   have hkp:KpB (w.heap.size+3) W w4:=HKP.out.trans ((KpB.of_below hB1 (by have:=HLT.out;omega)).trans ⟨hgrow.size,fun k hk=>hgrow.block k (by have:=HLT.out;have:=hB1.size;omega) (fun e=>by have:=hge k e.symm;omega)⟩);have HFIN:=h_ (show KeepsFrom N W (w4.setCell ⟨w.heap.size+2,0,none⟩ (.slice oa3 (ps.length+1) cap3))/\KpB (w.heap.size+3) W (w4.setCell ⟨w.heap.size+2,0,none⟩ (.slice oa3 (ps.length+1) cap3))/\InP w w.heap.size N (pre++[x]) (w4.setCell ⟨w.heap.size+2,0,none⟩ (.slice oa3 (ps.length+1) cap3)) from
    ⟨hkf.trans ((KeepsOthers.setCell _ _ _).from N),hkp.trans ⟨s_,fun k hk=>Below.heap_setCell _ _ _ k (by show k≠w.heap.size+2;omega)⟩,
     {r0:=ZC q0 (a:=⟨w.heap.size+2,0,none⟩) s_ _
      r1:=ZC q1 (a:=⟨w.heap.size+2,0,none⟩) s_ _
      out:=⟨_,ps++[⟨pf,pt,pst⟩],HC2.out,by rw [HSN.out,hpl,hps];rfl,by
       rw [c5_,ZT];exact Z4 hown4 (M:=fun k=>k=w.heap.size+2) (Fr.setCell (M:=fun k=>k=w.heap.size+2) (p:=⟨w.heap.size+2,0,none⟩) (Fr.refl _ _) (fun _=>rfl) _) (fun k hk hr=>by
        rintro rfl;obtain ⟨cs,fz,h5⟩:=hr;rw [q2] at h5;simp at h5)⟩
      below:=hbel.setCell (p:=⟨w.heap.size+2,0,none⟩) s_ _
      big:=by have:=HLT.out;have:=hB1.size;have:=hgrow.size;simp;omega }⟩)
   obtain ⟨e0,e1,e2,e3⟩:=rd q2;have e00:=e0 0;have e10:=e1 0;simp only [c1_,c2_] at e00;clear hps hp hbel hkf hkp hge hat q0 q1 q2 hrun hown4 hgrow hbl hpl hB1 e0 e1 e2 HC2;simp only [Option.isSome_some]
   gi_wp2_with (gi_at_builtin;refine Zdp rfl _ _ 233 rfl HRUN.out rfl rfl ?_)
   exact HFIN.out
 case done=>
  rintro D W hD hI hK;obtain ⟨v,ps,h2,hpl,hown⟩:=hI.out;obtain ⟨oa,cap,rfl⟩:=ownsRow_form hown;have hr:Ze8 s=some ps:=hpl;have hNw:(Xx w0 44 s).heap.size=w.heap.size+6:=o_;obtain ⟨N,hN⟩:=e_ ((Xx w0 44 s).heap.size);rw [<-hN] at hown hD hI hNw;obtain ⟨a0,a1,a2,a3⟩:=rd hI.r0;obtain ⟨b0,b1,b2,b3⟩:=rd hI.r1;obtain ⟨d0,d1,d2,d3⟩:=rd h2;have a00:=a0 0;have b00:=b0 0;have d00:=d0 0;have a10:=a1 0;have b10:=b1 0;have d10:=d1 0;simp only [c1_,c2_] at a00 b00 d00;let V:=(W.setCell ⟨w.heap.size,0,none⟩ (.slice oa ps.length cap)).setCell ⟨w.heap.size+1,0,none⟩ (.bool true);have hKV:V.heap[D]?=some (.deferred (some [])):=by
   show ((W.setCell ⟨w.heap.size,0,none⟩ (.slice oa ps.length cap)).setCell ⟨w.heap.size+1,0,none⟩ (.bool true)).heap[D]?=_;rw [Below.heap_setCell _ _ _ D (by show D≠w.heap.size+1;omega),Below.heap_setCell _ _ _ D (by show D≠w.heap.size;omega)];exact hK
  have f0:V.heap[w.heap.size]?=some (.cells #[.slice oa ps.length cap] 233 (0,0)):=ZC (heap_setCell hI.r0 0 (.slice oa ps.length cap)) (a:=⟨w.heap.size+1,0,none⟩) s_ _;have f1:V.heap[w.heap.size+1]?=some (.cells #[.bool true] 4 (0,0)):=heap_setCell (ZC hI.r1 (a:=⟨w.heap.size,0,none⟩) s_ _) 0 (.bool true);have hbV:Below w.heap.size w V:=(hI.below.setCell (p:=⟨w.heap.size,0,none⟩) l_ _).setCell (p:=⟨w.heap.size+1,0,none⟩) s_ _;have hoV:V.ownsRow N 300 3 (.slice oa ps.length cap) ps.length (Zx QC ps):=by
   refine Z4 hown (M:=fun k=>k=w.heap.size\/k=w.heap.size+1) (Fr.setCell (M:=fun k=>k=w.heap.size\/k=w.heap.size+1) (p:=⟨w.heap.size+1,0,none⟩) (Fr.setCell (M:=fun k=>k=w.heap.size\/k=w.heap.size+1) (p:=⟨w.heap.size,0,none⟩) (Fr.refl _ _) (fun _=>.inl rfl) _) (fun _=>.inr rfl) _) ?_;rintro g hg-(rfl|rfl)
   ·have:=(hown.lt _ hg).1;omega
   ·have:=(hown.lt _ hg).1;omega
  have g0:(V.putObj D (.deferred none)).heap[w.heap.size]?=some (.cells #[.slice oa ps.length cap] 233 (0,0)):=(World.putObj_heap_other o_).trans f0;have g1:(V.putObj D (.deferred none)).heap[w.heap.size+1]?=some (.cells #[.bool true] 4 (0,0)):=(World.putObj_heap_other o_).trans f1;have HG0:=h_ g0;have HG1:=h_ g1;have HKV:=h_ hKV;have HEND:=h_ (show Below w.heap.size w (V.putObj D (.deferred none))/\(V.putObj D (.deferred none)).ownsRow w.heap.size 300 3 (.slice oa ps.length cap) ps.length (Zx QC ps) from
   ⟨hbV.grown (grownBy_putObj' V D _) (by have:=hI.below.size;simp [V];omega) (fun k e=>by cases e;omega),by
    have:=ownsRow_putObj hoV (.deferred none) hKV rfl
    refine ⟨this.1,?_⟩;rcases this.2 with hn|⟨g,cp,cur,hv,hb,rest⟩
    ·exact .inl hn
    ·exact .inr ⟨g,cp,cur,hv,o_,rest⟩⟩)
  have HR:=h_ hr;clear hK hKV f0 f1 hbV hoV g0 g1 hown h2 hI hr a0 a1 a2 b0 b1 b2 d0 d1 d2 hpl HI0 HPL HSQ
  gi_wp2_with fail
  refine ⟨s_,.inl ⟨_,_,rfl,run_takeDeferred HKV.out,?_⟩⟩;obtain ⟨c0,-,-,-⟩:=rd HG0.out;obtain ⟨c1,-,-,-⟩:=rd HG1.out;have c00:=c0 0;have c10:=c1 0;simp only [c1_,c2_,V] at c00 c10;refine ⟨.tuple #[.slice oa ps.length cap,.bool true],?_,?_⟩
  ·simp [results,results323,go_sem,c00,c10]
  ·exact ⟨_,n14_,by rw [HR.out];exact HEND.out.2,HEND.out.1⟩
 case stop=>
  rintro D c pre W hD hE hK;obtain rfl:=hE.jump;have hr:Ze8 s=none:=hE.none_;have hNw:(Xx w0 44 s).heap.size=w.heap.size+6:=o_;have hblt:=Zd hK;have g0:(W.putObj D (.deferred none)).heap[w.heap.size]?=some (.cells #[.slice none 0 0] 233 (0,0)):=(World.putObj_heap_other o_).trans hE.r0;have g1:(W.putObj D (.deferred none)).heap[w.heap.size+1]?=some (.cells #[.bool false] 4 (0,0)):=(World.putObj_heap_other o_).trans hE.r1;have HG0:=h_ g0;have HG1:=h_ g1;have HKV:=h_ hK;have HR:=h_ hr;have HEND:=h_ (show Below w.heap.size w (W.putObj D (.deferred none)) from hE.below.grown (grownBy_putObj' W D _) (by have:=hE.below.size;omega) (fun k e=>by cases e;omega));clear hK g0 g1 hE hr
  gi_wp2_with fail
  refine ⟨s_,.inl ⟨_,_,rfl,run_takeDeferred HKV.out,?_⟩⟩;obtain ⟨c0,-,-,-⟩:=rd HG0.out;obtain ⟨c1,-,-,-⟩:=rd HG1.out;have c00:=c0 0;have c10:=c1 0;simp only [c1_,c2_] at c00 c10;refine ⟨.tuple #[.slice none 0 0,.bool false],?_,?_⟩
  ·simp [results,results323,go_sem,c00,c10]
  ·exact ⟨_,n14_,by rw [HR.out];exact World.ownsRow_nil _ _ _ _,HEND.out⟩
open Go Go.RowKit
theorem own_base'{w:World}{B B' e size n:Nat}{v:Value}{xs:List Value}(h:w.ownsRow B e size v n xs)(hB:B'<=B):w.ownsRow B' e size v n xs:=by
 refine ⟨h.1,?_⟩;rcases h.2 with hn|⟨g,cap,cur,rfl,hb,rest⟩
 ·exact .inl hn
 ·exact .inr ⟨g,cap,cur,rfl,Nat.le_trans hB hb,rest⟩
def Zjj(C:Nat):Value:=.agg #[.pointer (some ⟨C,1,none⟩),.pointer (some ⟨C,2,none⟩),.pointer (some ⟨C,3,none⟩),.pointer (some ⟨C,4,none⟩),.pointer (some ⟨C,5,none⟩),.pointer (some ⟨C,6,none⟩)]
theorem Zv2(C k:Nat)(hk:k<6)(W:World):(Instr.index 296 (Zjj C) (.int .i64 k)).run prog W=.ok (.pointer (some ⟨C,k+1,none⟩)) W:=by
 match k,hk with
 |0,_=>rfl
 |1,_=>rfl
 |2,_=>rfl
 |3,_=>rfl
 |4,_=>rfl
 |5,_=>rfl
theorem ZjH(C:Nat)(w:World):Calls prog 324 #[.pointer (some ⟨C,0,none⟩)] w fun e w'=>e=.returned (Zjj C)/\Below w.heap.size w w':=by
 unfold Zjj;have h0:=heap_alloc_new w (.cells #[.pointer none,.pointer none,.pointer none,.pointer none,.pointer none,.pointer none] 296);have hB:=(Below.refl w.heap.size w).alloc l_ (.cells #[.pointer none,.pointer none,.pointer none,.pointer none,.pointer none,.pointer none] 296);have H0:=h_ h0;have HB:=h_ hB;clear h0 hB;go_enter func324,ntmps324;go_wp2_with fail;generalize w.alloc (.cells #[.pointer none,.pointer none,.pointer none,.pointer none,.pointer none,.pointer none] 296)=w1 at *;obtain ⟨K,hK⟩:=e_ w.heap.size;have HKw:=h_ hK;rw [<-hK] at H0 HB⊢;clear hK;refine Zk (S:=fun V=>True) 18 k_ k_ trivial (fun hHeld=>?_);refine u_ ?_;(iterate 18 refine dN_ 0 (gT_ rfl) (fun W hW=>by clear hW;go_simp;rfl) (u_ ?_));refine ZF k_ ?_;clear hHeld;have H1:=h_ (show w1.drew.heap[K]?=_ from H0.out);have HB1:=h_ (HB.out.trans (show Below K w1 w1.drew from Ze ⟨1,rfl⟩));generalize w1.drew=w2 at *;obtain ⟨c,f,-,-⟩:=rd H1.out;have c0:=c 0;have c1:=c 1;have c2:=c 2;have c3:=c 3;have c4:=c 4;have c5:=c 5;have f0:=f 0;have f1:=f 1;have f2:=f 2;have f3:=f 3;have f4:=f 4;have f5:=f 5;simp only [c1_,c2_,c3_] at c0 c1 c2 c3 c4 c5;clear c f;go_wp2_with fail;refine bodyPost_ret (v:=.agg #[.pointer (some ⟨C,1,none⟩),.pointer (some ⟨C,2,none⟩),.pointer (some ⟨C,3,none⟩),.pointer (some ⟨C,4,none⟩),.pointer (some ⟨C,5,none⟩),.pointer (some ⟨C,6,none⟩)]) ?_ rfl ⟨rfl,?_⟩
 ·simp [results,results324,go_sem,c0,c1,c2,c3,c4,c5]
 ·rw [<-HKw.out];exact (((((HB1.out.setCell (p:=⟨K,0,none⟩) l_ _).setCell (p:=⟨K,1,none⟩) l_ _).setCell (p:=⟨K,2,none⟩) l_ _).setCell (p:=⟨K,3,none⟩) l_ _).setCell (p:=⟨K,4,none⟩) l_ _).setCell (p:=⟨K,5,none⟩) l_ _
def Y6:List Str->Option (List (List YO))
 |[]=>some []
 |x::t=>match Ze8 x with
  |none=>none
  |some p=>(Y6 t).map fun r=>p::r
theorem Zid:∀(l:List Str) (x:Str),Y6 (l++[x])=match Y6 l with
  |none=>none
  |some r=>(Ze8 x).map fun p=>r++[p]
 |[],x=>by
  simp only [List.nil_append,Y6];cases Ze8 x<;>rfl
 |y::t,x=>by
  rw [c12_,Y6,Zid t x,Y6];cases Ze8 y with
  |none=>rfl
  |some p=>
   cases Y6 t with
   |none=>rfl
   |some r=>cases Ze8 x<;>rfl
theorem Zif:∀(l m:List Str),Y6 l=none->Y6 (l++m)=none
 |[],m,h=>by simp [Y6] at h
 |y::t,m,h=>by
  rw [c12_,Y6];rw [Y6] at h;cases hp:Ze8 y with
  |none=>rfl
  |some p=>
   rw [hp] at h;simp only at h⊢;rw [Zif t m (by cases ht:Y6 t with|none=>rfl|some r=>rw [ht] at h;simp at h)];rfl
theorem ZfR:∀(l:List Str) ps,Y6 l=some ps->ps.length=l.length
 |[],ps,h=>by simp [Y6] at h;subst h;rfl
 |y::t,ps,h=>by
  rw [Y6] at h;cases hp:Ze8 y with
  |none=>rw [hp] at h;simp at h
  |some p=>
   rw [hp] at h;cases hr:Y6 t with
   |none=>rw [hr] at h;simp at h
   |some r=>rw [hr] at h;simp at h;subst h;simp [ZfR t r hr]
structure JH(W:World)(N first:Nat)(cs cs':Array Value)(done:List (List YO)):Prop where
 size:cs'.size=cs.size
 other:∀j,(j<first+1\/first+1+done.length<=j)->cs'[j]?=cs[j]?
 got:∀i (h:i<done.length),∃v,cs'[first+1+i]?=some v/\W.ownsRow N 300 3 v done[i].length (Zx QC done[i])
theorem JH.below{W V:World}{N first:Nat}{cs cs':Array Value}{done:List (List YO)}(h:JH W N first cs cs' done)(hb:Below W.heap.size W V):JH V N first cs cs' done:=
 ⟨h.size,h.other,fun i hi=>by obtain ⟨v,h1,h2⟩:=h.got i hi;exact ⟨v,h1,Zo h2 hb⟩⟩
theorem JH.fr{W V:World}{N first C:Nat}{cs cs':Array Value}{done:List (List YO)}(h:JH W N first cs cs' done)(hf:Fr (fun k=>k=C) W V)(hC:C<N):JH V N first cs cs' done:=
 ⟨h.size,h.other,fun i hi=>by
  obtain ⟨v,h1,h2⟩:=h.got i hi;exact ⟨v,h1,Z4 h2 hf (fun g hg _ e=>by have:=(h2.lt g hg).1;omega)⟩⟩
theorem JH.more{W:World}{N first:Nat}{cs cs':Array Value}{done:List (List YO)}(h:JH W N first cs cs' done)(p:List YO)(v:Value)(ho:W.ownsRow N 300 3 v p.length (Zx QC p))(hs:first+1+done.length<cs.size) :
  JH W N first cs (cs'.setIfInBounds (first+1+done.length) v) (done++[p]):=by
 refine ⟨by simp [h.size],fun j hj=>?_,fun i hi=>?_⟩
 ·rw [c5_] at hj
  simp only [c14_,List.length_nil] at hj;rw [c13_ o_];exact h.other j o_
 ·rw [c5_] at hi
  simp only [c14_,List.length_nil] at hi;by_cases hlt:i<done.length
  ·obtain ⟨u,h1,h2⟩:=h.got i hlt
   refine ⟨u,by rw [c13_ o_];exact h1,?_⟩;rw [List.getElem_append_left hlt];exact h2
  ·obtain rfl:i=done.length:=o_
   refine ⟨v,by rw [Array.getElem?_setIfInBounds_self,if_pos (by rw [h.size];exact hs)],?_⟩;rw [List.getElem_append_right l_];simpa using ho
def ZgQ(w:World)(C first:Nat)(cs:Array Value)(texts:List Str)(e:Ending)(w':World):Prop:=
 e=.returned (.bool (Y6 texts).isSome)/\Fr (fun k=>k=C) w w'/\∃cs',w'.heap[C]?=some (.cells cs' 235 (0,0))/\cs'.size=7/\∀ls,Y6 texts=some ls->JH w' w.heap.size first cs cs' ls
theorem Znb(C first:Nat)(hf:first=0\/first=3)(cs:Array Value)(hcs:cs.size=7)(texts:List Str)(ht:texts.length=3)(oa:Option Addr)(cap:Nat)(w:World)(hC:w.heap[C]?=some (.cells cs 235 (0,0)))(hr:Zp w oa texts)
  (hne:∀b o,oa=some ⟨b,o,none⟩->b≠C) (hm:∀V,Fr (fun k=>k=C) w V->Zz V) (hx:∀x∈texts,x.length<=100000000) :
  Calls prog 298 #[.pointer (some ⟨C,0,none⟩),.int .i64 first,.slice oa texts.length cap] w fun e w'=>ZgQ w C first cs texts e w':=by
 have HR:=h_ hr;have HN:=h_ hne;have HM:=h_ hm;have HX:=h_ hx;have HF:=h_ hf;have HI0:=h_ (show JH w w.heap.size first cs cs [] from ⟨rfl,fun _ _=>rfl,fun i h=>absurd h s_⟩);have HC0:=h_ hC;have hf3:first<=3:=o_
 clear hr hne hm hx hC hf;unfold ZgQ;rw [ht];go_enter func298,ntmps298;go_wp2_with fail;go_loopg [13] 4 (fun f i wr=>∃(done:List (List YO)) (cs':Array Value),done.length<=3/\i=.int .i64 done.length/\3-done.length<f/\Hid (Y6 (texts.take done.length)=some done)/\Hid (wr.heap[C]?=some (.cells cs' 235 (0,0)))/\Hid (JH wr w.heap.size first cs cs' done)/\Hid (Fr (fun k=>k=C) w wr))
 case atStart=>exact ⟨[],cs,s_,rfl,s_,rfl,HC0,HI0,Fr.refl _ _⟩
 case round=>
  obtain ⟨done,cs',hd3,rfl,hfu,HD,HC,HI,HFR⟩:=hrel;by_cases hlt:done.length<3
  ·have hz:(done.length:Int)<3:=o_
   have hlt':done.length<texts.length:=by rw [ht];exact hlt
   obtain ⟨x,hxx⟩:=e_ (texts[done.length]);obtain ⟨b,o,rfl,dw⟩:=HR.out done.length hlt';rw [<-hxx] at dw;have hbC:=HN.out b o rfl;have d0:wr.cell? ⟨b,o+done.length,none⟩=some (.string ⟨x.toArray⟩):=by
    unfold World.cell? at dw⊢;have hb:b<w.heap.size:=by
     rcases Nat.lt_or_ge b w.heap.size with h|h
     ·exact h
     ·simp [Array.getElem?_eq_none h] at dw
    rw [HFR.out.block b hb hbC];exact dw
   have hxl:x.length<=100000000:=by rw [hxx];exact HX.out _ (List.getElem_mem hlt')
   have HP:=h_ (Zuc x wr hxl (HM.out _ HFR.out));have HTK:=h_ (show texts.take (done.length+1)=texts.take done.length++[x] by rw [c4_ hlt',hxx]);have HSN:=h_ (Zid (texts.take done.length) x);have HTD:=h_ (List.take_append_drop (done.length+1) texts);clear dw hxx hlt' hxl;unfold ZlG at HP;cases hp:Ze8 x with
   |none=>
    rw [hp] at HP;have HNO:=h_ (show Y6 texts=none by
     rw [<-HTD.out];refine Zif _ _ ?_;rw [HTK.out,HSN.out,HD.out,hp];rfl)
    clear hp;go_wp2_with fail;refine HP.out.mono ?_;rintro e w2 ⟨v,rfl,hown,hb2⟩;obtain ⟨oa2,cap2,rfl⟩:=ownsRow_form hown;have HC2:=h_ (Za HC.out hb2);have HF2:=h_ (Fr.then' HFR.out (Fr.of_below hb2 (fun k=>k=C)) (fun i _ h=>h));have HS2:=h_ (HI.out.size.trans hcs);clear hown hb2 HP;simp only [Option.isSome_none,Option.getD_none,List.length_nil];go_wp2_with fail;go_ret;refine ⟨by rw [HNO.out];rfl,HF2.out,cs',HC2.out,HS2.out,fun ls h=>?_⟩;rw [HNO.out] at h;cases h
   |some p=>
    rw [hp] at HP;have HYE:=h_ (show Y6 (texts.take (done.length+1))=some (done++[p]) by rw [HTK.out,HSN.out,HD.out,hp];rfl);clear hp;go_wp2_with fail;refine HP.out.mono ?_;rintro e w2 ⟨v,rfl,hown,hb2⟩;simp only [Option.isSome_some,Option.getD_some] at hown⊢;obtain ⟨oa2,cap2,rfl⟩:=ownsRow_form hown;have HC2:=h_ (Za HC.out hb2);have HF2:=h_ (Fr.then' HFR.out (Fr.of_below hb2 (fun k=>k=C)) (fun i _ h=>h));have HI2:=h_ (HI.out.below hb2);have HO2:=h_ (own_base' hown HFR.out.size);have HL:=h_ (fun V=>ZjH C V);clear hown hb2 HP HC HI HFR;go_wp2_with fail;refine (HL.out _).mono ?_;rintro e w3 ⟨rfl,hb3⟩;have hC3:=Za HC2.out hb3;have hF3:=Fr.then' HF2.out (Fr.of_below hb3 (fun k=>k=C)) (fun i _ h=>h);have hO3:=Zo HO2.out hb3;have hI3:=HI2.out.below hb3;have hs7:cs'.size=7:=by rw [hI3.size];exact hcs
    have hk6:first+done.length<6:=o_
    have hk7:first+1+done.length<cs'.size:=o_
    obtain ⟨j,hj⟩:=e_ (first+done.length);have hidx:=Zv2 C j o_ w3;have HIX:=h_ hidx;have hjz:(first:Int)+(done.length:Int)=(j:Int):=o_;obtain ⟨cc,cf,csh,cl⟩:=rd hC3;have e0:=cc (j+1);have hget:∃u,cs'[j+1]?=some u:=⟨cs'[j+1]' o_,Array.getElem?_eq_getElem o_⟩;obtain ⟨u,hu⟩:=hget;rw [hu] at e0;have e1:=cf (j+1);have hC4:=heap_setCell hC3 (j+1) (.slice oa2 p.length cap2);have hF4:=hF3.setCell (p:=⟨C,j+1,none⟩) (fun _=>rfl) (.slice oa2 p.length cap2);have hW4:Fr (fun k=>k=C) w3 (w3.setCell ⟨C,j+1,none⟩ (.slice oa2 p.length cap2)):=Fr.setCell (M:=fun k=>k=C) (p:=⟨C,j+1,none⟩) (Fr.refl _ _) (fun _=>rfl) _;have HC4:=h_ hC4;have HF4:=h_ hF4;have HI4:=h_ (show JH (w3.setCell ⟨C,j+1,none⟩ (.slice oa2 p.length cap2)) w.heap.size first cs (cs'.setIfInBounds (j+1) (.slice oa2 p.length cap2)) (done++[p]) from by
     have:=(hI3.more p _ hO3 o_).fr hW4 (Zd HC0.out)
     rw [show first+1+done.length=j+1 by omega] at this;exact this)
    have hj6:j<6:=o_;clear hC3 hF3 hO3 hI3 hb3 hidx cc cf csh cl hu hC4 hF4 hW4 hj hk6 hk7 hs7 HL HC2 HF2 HI2 HO2;have hidx:=HIX.out;unfold Zjj at *;go_wp2_with fail;clear hidx;go_roundg (3-done.length)
    case measure=>omega
    case rel=>exact ⟨done++[p],_,n6_,by rw [c5_];go_num,n6_,by rw [c5_];exact HYE,HC4,HI4,HF4⟩
  ·have hz:¬((done.length:Int)<3):=o_
   have HA:=h_ (show Y6 texts=some done by have:=HD.out;rw [c9_ o_] at this;exact this);go_wp2_with fail;go_ret;refine ⟨by rw [HA.out];rfl,HFR.out,cs',HC.out,HI.out.size.trans hcs,fun ls h=>?_⟩;rw [HA.out] at h;cases h;exact HI.out
end Go.Proofs.YtmgmbeipbeknaaaGreatDoor
