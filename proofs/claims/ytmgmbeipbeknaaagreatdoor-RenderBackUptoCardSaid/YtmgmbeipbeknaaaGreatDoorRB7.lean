import Derived.Test.YtmgmbeipbeknaaaGreatDoorRB6
namespace Go.Proofs.YtmgmbeipbeknaaaGreatDoor
open Go.Proofs.Tryz
open Go Go.RowKit Go.Sort
set_option linter.all false
set_option maxHeartbeats 16000000
set_option maxRecDepth 100000
theorem m2_{p:Prop}(h:p:=by have h:=HKn.out;exact (((((HB5.out.setCell n6_ _).setCell n6_ _).setCell n6_ _).setCell n6_ _).setCell n6_ _).setCell n6_ _):p:=h
theorem m3_{p:Prop}(h:p:=by go_enter func134,ntmps134;go_wp2_with fail;go_ret;exact ⟨rfl,b_.alloc l_ _⟩):p:=h
instance:Inhabited ZQ:=⟨⟨[],[],0,false,0,none,0,0⟩⟩
def Zti:ZE:=⟨[],[],0,false,0,[]⟩
def ZkJ:ZQ:=⟨[],[],0,false,0,none,0,0⟩
theorem Xu.zero(w:World):Xu w ZkJ Zti:=⟨rfl,rfl,rfl,rfl,rfl,rfl,.inl rfl⟩
def isK(s n:Str)(y:ZQ):Bool:=y.sec==s&&y.name==n
def ZtR(vs:List ZQ)(s n:Str):Int:=Lib.idxBy (fun _ y=>isK s n y) vs default
theorem Zrm(s n:Str)(vs:List ZQ)(ks:List ZE)(hl:vs.length=ks.length)(h:∀i (h1:i<vs.length) (h2:i<ks.length),vs[i].sec=ks[i].sec/\vs[i].name=ks[i].name) :
  (ZtR vs s n = -1/\(ks.find? fun k=>k.sec==s&&k.name==n)=none)\/∃(i:Nat) (h1:i<vs.length) (h2:i<ks.length),ZtR vs s n=i/\(ks.find? fun k=>k.sec==s&&k.name==n)=some ks[i]:=by
 unfold ZtR Lib.idxBy
 have:∀(vs:List ZQ) (ks:List ZE) (j:Nat),vs.length=ks.length->(∀i (h1:i<vs.length) (h2:i<ks.length),vs[i].sec=ks[i].sec/\vs[i].name=ks[i].name)->
   (Lib.idxByFrom (fun _ y:ZQ=>isK s n y) default vs j = -1/\(ks.find? fun k=>k.sec==s&&k.name==n)=none)\/
   ∃(i:Nat) (h1:i<vs.length) (h2:i<ks.length),Lib.idxByFrom (fun _ y:ZQ=>isK s n y) default vs j=((j+i:Nat):Int)/\(ks.find? fun k=>k.sec==s&&k.name==n)=some ks[i]:=by
  intro vs;induction vs with
  |nil=>
   intro ks j hl _;obtain rfl:ks=[]:=c10_ hl.symm;exact .inl ⟨rfl,rfl⟩
  |cons a r ih=>
   intro ks j hl h;cases ks with
   |nil=>simp at hl
   |cons b q=>
    have h0:=h 0 s_ s_;simp only [List.getElem_cons_zero] at h0;have he:isK s n a=(b.sec==s&&b.name==n):=by unfold isK;rw [h0.1,h0.2]
    cases ha:(b.sec==s&&b.name==n) with
    |true=>exact .inr ⟨0,s_,s_,by simp [Lib.idxByFrom,he,ha],by simp [ha]⟩
    |false=>
     rcases ih q (j+1) (by simpa using hl) (fun i h1 h2=>by have:=h (i+1) (by simp;exact h1) (by simp;exact h2);simpa using this) with ⟨h1,h2⟩|⟨i,hi,hi2,h1,h2⟩
     ·exact .inl ⟨by simp [Lib.idxByFrom,he,ha,h1],by simp [ha,h2]⟩
     ·refine .inr ⟨i+1,by simp;exact hi,by simp;exact hi2,?_,by simp [ha,h2]⟩
      simp [Lib.idxByFrom,he,ha,h1];omega
 have:=this vs ks 0 hl h
 simpa using this
theorem Zq2(x:ZQ)(s n:Str)(b c:Nat)(W:World)(hs:W.cell? ⟨b,0,none⟩=some (.string ⟨s.toArray⟩))(hn:W.cell? ⟨c,0,none⟩=some (.string ⟨n.toArray⟩)) :
  Calls prog 134 #[.agg (Zm x).toArray,.pointer (some ⟨b,0,none⟩),.pointer (some ⟨c,0,none⟩)] W fun e w'=>e=.returned (.bool (isK s n x))/\Below W.heap.size W w':=by
 have hb:b<W.heap.size:=World.block_lt_of_cell? W _ hs;have hc:c<W.heap.size:=World.block_lt_of_cell? W _ hn;have hne:b≠W.heap.size:=o_;have hne2:c≠W.heap.size:=o_;unfold Zm isK;cases h1:(x.sec==s) with
 |false=>
  exact m3_
 |true=>
  generalize hq:(x.name==n)=r;exact m3_
theorem Zko:∀args w,(callFunc 134 args).run prog w=.ok (.enter 134 args) w:=enters_of func134 k_ rfl
theorem ZnZ(b2 o:Nat)(cap:Nat)(vs:List ZQ)(s n:Str)(b c:Nat)(w:World)(hr:ZG Zm 6 w (some ⟨b2,o,none⟩) vs)(hl:vs.length=42)(hs:w.cell? ⟨b,0,none⟩=some (.string ⟨s.toArray⟩))(hn:w.cell? ⟨c,0,none⟩=some (.string ⟨n.toArray⟩)) :
  Calls prog 133 #[.slice (some ⟨b2,o,none⟩) vs.length cap,.func (.func 134) #[] #[.pointer (some ⟨b,0,none⟩),.pointer (some ⟨c,0,none⟩)]] w fun e w'=>e=.returned (.int .i64 (ZtR vs s n))/\Below w.heap.size w w':=by
 obtain ⟨b4,o4,e4,hlt,_⟩:=hr 0 o_;injection e4 with e4;injection e4 with e4 e5 e6
 subst e4;subst e5;have hb:b<w.heap.size:=World.block_lt_of_cell? w _ hs;have hc:c<w.heap.size:=World.block_lt_of_cell? w _ hn
 have:=AnyQ.slices_IndexFunc Tryz.findKey 6 isAgg82 sizeOf82 Zm (fun _=>rfl) (fun y=>isK s n y) 134 #[.pointer (some ⟨b,0,none⟩),.pointer (some ⟨c,0,none⟩)] Zko b2 o vs.length cap vs w
  (fun W x hW=>(Zq2 x s n b c W (by rw [hW.cell (p:=⟨b,0,none⟩) hb];exact hs) (by rw [hW.cell (p:=⟨c,0,none⟩) hc];exact hn)).mono fun e w' ⟨a,q⟩=>⟨a,Below.more hW q⟩) l_ o_ hlt (by
   intro j hj i v hv;obtain ⟨b3,o3,e3,_,hcc⟩:=hr j hj;injection e3 with e3
   injection e3 with e4 e5 e6
   subst e4;subst e5;rw [getElem!_pos vs j hj] at hv;exact hcc i v hv)
 rw [List.take_length] at this;exact this
def Zpv(w:World)(s n:Str)(e:Ending)(w':World):Prop:=∃kv,e=.returned (.tuple #[.agg (Zm kv).toArray,.bool (findKey s n).isSome])/\Xu w' kv ((findKey s n).getD Zti)/\Below w.heap.size w w'
theorem Zm2(s n:Str)(w:World):Calls prog 71 #[.string ⟨s.toArray⟩,.string ⟨n.toArray⟩] w fun e w'=>Zpv w s n e w':=by
 let w1:=w.alloc (.cells #[.string ⟨s.toArray⟩] 9);let w2:=w1.alloc (.cells #[.string ⟨n.toArray⟩] 9);let w3:=w2.alloc (.cells #[.string ⟨#[]⟩,.string ⟨#[]⟩,.int .i64 0,.bool false,.int .i64 0,.slice none 0 0] 82);have hB3:Below w.heap.size w w3:=((b_.alloc l_ _).alloc s_ _).alloc n6_ _;have z1:w1.heap.size=w.heap.size+1:=by simp [w1]
 have z2:w2.heap.size=w.heap.size+1+1:=by simp [w2,z1]
 have g1:w3.heap[w.heap.size]?=some (.cells #[.string ⟨s.toArray⟩] 9 (0,0)):=heap_alloc (heap_alloc (heap_alloc_new w _) _) _;have g2:w3.heap[w.heap.size+1]?=some (.cells #[.string ⟨n.toArray⟩] 9 (0,0)):=by rw [<-z1];exact heap_alloc (heap_alloc_new w1 _) _
 have g3:w3.heap[w.heap.size+1+1]?=some (.cells #[.string ⟨#[]⟩,.string ⟨#[]⟩,.int .i64 0,.bool false,.int .i64 0,.slice none 0 0] 82 (0,0)):=by rw [<-z2];exact heap_alloc_new w2 _
 have HA:=h_ (Zdr w3);have HB:=h_ hB3;have G1:=h_ g1;have G2:=h_ g2;have G3:=h_ g3;clear hB3 z1 z2 g1 g2 g3;go_enter func71,ntmps71;go_wp2_with fail;refine HA.out.mono ?_;rintro e w4 ⟨oa,cap,vs,rfl,hr,hk,hb4⟩;have HR:=h_ hr;have HK:=h_ hk;have HB4:=h_ (HB.out.trans (hb4.mono HB.out.size));have H1:=h_ (Za G1.out hb4);have H2:=h_ (Za G2.out hb4);have H3:=h_ (Za G3.out hb4);have hln:vs.length=42:=by rw [hk.1];exact Xz
 have HLN:=h_ hln;clear hr hk hb4 HB G1 G2 G3 HA;obtain ⟨b2,o2,rfl,hblt,-⟩:=HR.out 0 o_;have hI:=ZnZ b2 o2 cap vs s n w.heap.size (w.heap.size+1) w4 HR.out hln (by rw [(rd H1.out).1];rfl) (by rw [(rd H2.out).1];rfl);rw [hln] at hI;have HI:=h_ hI;clear hI hln hblt;go_wp2_with fail;have hsp:=Zrm s n vs Zc HK.out.1 (fun i h1 h2=>⟨(HK.out.2 i h1 h2).sec,(HK.out.2 i h1 h2).name⟩);refine HI.out.mono ?_;rintro e w5 ⟨rfl,hb5⟩;have HB5:=h_ (HB4.out.trans (hb5.mono HB4.out.size));have HR5:=h_ (HR.out.below hb5);have HK5:=h_ (HK.out.below hb5);have H5:=h_ (Za H3.out hb5);clear hb5 HR HK H1 H2 H3 HI HB4;obtain ⟨K,hK⟩:=e_ (w.heap.size+1+1);rw [<-hK] at H5⊢;have HKn:=h_ (show w.heap.size<=K by omega);obtain ⟨c3,f3,s3,l3⟩:=rd H5.out;have c30:=c3 0;have c31:=c3 1;have c32:=c3 2;have c33:=c3 3;have c34:=c3 4;have c35:=c3 5;have f30:=f3 0;have f31:=f3 1;have f32:=f3 2;have f33:=f3 3;have f34:=f3 4;have f35:=f3 5;simp only [c1_,c2_,c3_] at c30 c31 c32 c33 c34 c35;clear c3 f3 hK;rcases hsp with ⟨h1,h2⟩|⟨i,hi,hi2,h1,h2⟩
 ·rw [h1]
  have HF:=h_ (show findKey s n=none from h2);clear h1 h2;go_wp2_with fail;refine bodyPost_ret (v:=.tuple #[.agg (Zm ZkJ).toArray,.bool (findKey s n).isSome]) ?_ rfl ⟨ZkJ,rfl,?_,?_⟩
  ·rw [HF.out]
   simp [results,results71,go_sem,Zm,ZkJ,c30,c31,c32,c33,c34,c35]
  ·rw [HF.out];exact Xu.zero _
  ·exact m2_
 ·rw [h1]
  obtain ⟨x,hx⟩:=e_ (vs[i]);obtain ⟨k,hk⟩:=e_ (Zc[i]);have HF:=h_ (show findKey s n=some k from by rw [hk];exact h2);have HX:=h_ (show Xu w5 x k from by rw [hx,hk];exact HK5.out.2 i hi hi2);obtain ⟨b3,o3,e3,hblt,hcc⟩:=HR5.out i hi;injection e3 with e3
  injection e3 with e4 e5 e6
  subst e4;subst e5;rw [<-hx] at hcc;have d0:=hcc 0 _ rfl;have d1:=hcc 1 _ rfl;have d2:=hcc 2 _ rfl;have d3:=hcc 3 _ rfl;have d4:=hcc 4 _ rfl;have d5:=hcc 5 _ rfl;simp only [Nat.add_zero] at d0;have i5:(i:Int)<42:=by have:=HLN.out;omega
  have HSC:=h_ (show Fr (fun j=>j=K) w5 (((((((w5.setCell ⟨K,0,none⟩ (.string ⟨x.sec.toArray⟩)).setCell ⟨K,1,none⟩ (.string ⟨x.name.toArray⟩)).setCell ⟨K,2,none⟩ (.int .i64 x.form)).setCell ⟨K,3,none⟩ (.bool x.list)).setCell ⟨K,4,none⟩ (.int .i64 x.kinds)).setCell ⟨K,5,none⟩ (.slice x.wa x.wn x.wc))) from
   Fr.setCell (M:=fun j=>j=K) (p:=⟨K,5,none⟩) (Fr.setCell (M:=fun j=>j=K) (p:=⟨K,4,none⟩) (Fr.setCell (M:=fun j=>j=K) (p:=⟨K,3,none⟩) (Fr.setCell (M:=fun j=>j=K) (p:=⟨K,2,none⟩) (Fr.setCell (M:=fun j=>j=K) (p:=⟨K,1,none⟩) (Fr.setCell (M:=fun j=>j=K) (p:=⟨K,0,none⟩) (Fr.refl _ _) (fun _=>rfl) _) (fun _=>rfl) _) (fun _=>rfl) _) (fun _=>rfl) _) (fun _=>rfl) _) (fun _=>rfl) _)
  clear h1 h2 hx hk hcc HR5 HK5;go_wp2_with fail;refine bodyPost_ret (v:=.tuple #[.agg (Zm x).toArray,.bool (findKey s n).isSome]) ?_ rfl ⟨x,rfl,?_,?_⟩
  ·rw [HF.out]
   simp [results,results71,go_sem,Zm,c30,c31,c32,c33,c34,c35]
  ·rw [HF.out]
   exact { HX.out with ww:=HX.out.ww.imp id fun ⟨B,q⟩=>⟨B,q.1,by
    rcases q.2 with hn|⟨g,cp,cur,hv,hg,hgg,rest⟩
    ·exact .inl hn
    ·refine .inr ⟨g,cp,cur,hv,hg,HSC.out.heap hgg (fun e=>?_),rest⟩
     rw [e,H5.out] at hgg;simp at hgg⟩ }
  ·exact m2_
end Go.Proofs.YtmgmbeipbeknaaaGreatDoor
