import Derived.Test.YtmgmbeipbeknaaaGreatDoorRB1
import Derived.Test.YtmgmbeipbeknaaaGreatDoorRB2
import Derived.Test.YtmgmbeipbeknaaaGreatDoorRB3
import Derived.Test.YtmgmbeipbeknaaaGreatDoorRB10
namespace Go.Proofs.YtmgmbeipbeknaaaGreatDoor
open Go.Proofs.Tryz
open Go Go.RowKit
set_option linter.all false
set_option maxHeartbeats 16000000
set_option maxRecDepth 100000
theorem ZhI(l:List Str)(x:Str):Lib.containsS (l.map fun s=>(⟨s.toArray⟩:ByteArray)) ⟨x.toArray⟩=l.contains x:=by
 rw [Bool.eq_iff_iff,Lib.containsS_iff,List.contains_iff_mem];constructor
 ·intro h
  obtain ⟨y,hy,he⟩:=List.mem_map.1 h
  have:y=x:=by
   have:=congrArg (fun s:ByteArray=>s.data.toList) he
   simpa using this
  rw [<-this];exact hy
 ·intro h
  exact List.mem_map.2 ⟨x,h,rfl⟩
theorem ZhV(oa:Option Addr)(cap:Nat)(l:List Str)(x:Str)(w:World)(hl:l.length<=4294967296)(h:Zp w oa l) :
  Calls prog 253 #[.slice oa l.length cap,.string ⟨x.toArray⟩] w fun e w'=>e=.returned (.bool (l.contains x))/\w'=w:=by
 cases l with
 |nil=>exact Tryz.slices_Contains_string_empty oa cap _ w
 |cons a t=>
  obtain ⟨b,o,rfl,-⟩:=h 0 s_
  have:=Tryz.slices_Contains_string b o (a::t).length cap ((a::t).map fun s=>(⟨s.toArray⟩:ByteArray)) ⟨x.toArray⟩ w s_ o_ (fun j hj=>by
   have hj':j<(a::t).length:=n113_;obtain ⟨b2,o2,e2,hc⟩:=h j hj';injection e2 with e2
   injection e2 with e3 e4 e5
   subst e3;subst e4;rw [hc];congr 2;rw [List.getD_eq_getElem?_getD,List.getElem?_map,List.getElem?_eq_getElem hj'];rfl)
  rw [c9_ s_,ZhI] at this;exact this
theorem Zmo:∀args w,(callFunc 257 args).run prog w=.ok (.enter 257 args) w:=enters_of func257 k_ rfl
theorem Zop(kv:ZQ)(ws:List Str)(v:Str)(w:World)(hf:kv.form=10)(hn:kv.wn=ws.length)(hl:ws.length<=4294967296)(hw:Zp w kv.wa ws)(m:Bool)(hm:ws.contains v=m) :
  Calls prog 205 #[.agg (Zm kv).toArray,.string ⟨v.toArray⟩] w fun e w'=>e=.returned (.bool m)/\Below w.heap.size w w':=by
 obtain ⟨sec,name,form,list,kinds,wa,wn,wc⟩:=kv;unfold Zm;simp only at *;subst hf;subst hn;have hB:=(Below.refl w.heap.size w).alloc l_ (.cells #[.string ⟨sec.toArray⟩,.string ⟨name.toArray⟩,.int .i64 10,.bool list,.int .i64 kinds,.slice wa ws.length wc] 82);have H:=h_ (ZhV wa wc ws v _ hl (hw.below hB));have HB:=h_ hB;rw [hm] at H;clear hw hm hB;generalize ws.length=n at *;go_enter func205,ntmps205;go_wp2_with fail;refine H.out.mono ?_;rintro e w1 ⟨rfl,rfl⟩;go_wp2_with fail;go_ret;exact ⟨rfl,HB.out⟩
theorem QB(v:Str):∀cur,(Jy v cur).length<=v.length+1:=by
 induction v with
 |nil=>intro cur;unfold Jy;split<;>simp
 |cons c t ih=>
  intro cur;unfold Jy;split
  ·split
   ·have:=ih [];simp;omega
   ·have:=ih [];simp;omega
  ·have:=ih (cur++[c]);simp;omega
theorem Zab(n:Nat):∀(v cur:Str),v.length+cur.length<=n->∀x∈Jy v cur,x.length<=n
 |[],cur,h,x,hx=>by
  unfold Jy at hx;split at hx
  ·simp at hx
  ·simp at hx;subst hx;simp at h;exact h
 |c::t,cur,h,x,hx=>by
  unfold Jy at hx;simp at h;split at hx
  ·split at hx
   ·exact Zab n t [] n6_ x hx
   ·rcases List.mem_cons.1 hx with rfl|hx
    ·omega
    ·exact Zab n t [] n6_ x hx
  ·exact Zab n t (cur++[c]) n6_ x hx
theorem Zlo(kv:ZQ)(v:Str)(w:World)(hf:kv.form=6)(hl:v.length<4294967281)(hM:Zz w)(m:Bool)(hm:JA ZaQ (Zg v)=m) :
  Calls prog 205 #[.agg (Zm kv).toArray,.string ⟨v.toArray⟩] w fun e w'=>e=.returned (.bool m)/\Below w.heap.size w w':=by
 obtain ⟨sec,name,form,list,kinds,wa,wn,wc⟩:=kv;unfold Zm;simp only at *;subst hf;have hB:=(Below.refl w.heap.size w).alloc l_ (.cells #[.string ⟨sec.toArray⟩,.string ⟨name.toArray⟩,.int .i64 6,.bool list,.int .i64 kinds,.slice wa wn wc] 82);have HW:=h_ (XY ⟨v.toArray⟩ (w.alloc (.cells #[.string ⟨sec.toArray⟩,.string ⟨name.toArray⟩,.int .i64 6,.bool list,.int .i64 kinds,.slice wa wn wc] 82)) n35_);have hln:=QB v [];have hmem:=Zab v.length v [] s_;have HE:=h_ (fun (A:Nat) (W:World) (hA:A<W.heap.size) (h1:Zz W) (h2:Zbj W A 0 (Zg v))=>
  Zlq 257 Zmo ZaQ A 0 (Zg v).length (Zg v) W hA (by unfold Zg;omega) h1 (fun W2 j hj hM2=>ZlV _ W2 (by
   have:(Zg v)[j].length<=v.length:=hmem _ (List.getElem_mem hj)
   show (Zg v)[j].toArray.size<_;simp;omega) hM2 _ rfl) h2 m hm)
 have HB:=h_ hB;have HM:=h_ (hM.below hB);clear hln hmem hB hM hl hm;go_enter func205,ntmps205;go_wp2_with fail;refine HW.out.mono ?_;rintro e w1 ⟨A,rfl,hA,hA2,hs,hb1⟩;have hh:=HE.out A w1 hA2 (HM.out.below hb1) hs;have HH:=h_ hh;have HB1:=h_ (HB.out.trans (hb1.mono HB.out.size));clear hA hA2 hs hb1 hh HE HW HM HB;simp only;generalize (Zg v).length=n at *;go_wp2_with fail;refine HH.out.mono ?_;rintro e w2 ⟨rfl,hb2⟩;have HB2:=h_ (HB1.out.trans (hb2.mono HB1.out.size));clear hb2;go_wp2_with fail;go_ret;exact ⟨rfl,HB2.out⟩
theorem m10_{p:Prop}(h:p:=by go_enter func131,ntmps131;go_wp2_with fail;go_ret;exact ⟨by rw [HD.out];rfl,b_.alloc l_ _⟩):p:=h
theorem m11_{p:Prop}(h:p:=by unfold Zm at *;go_wp2_with fail;go_ret;exact ⟨n101_,HB7.out⟩):p:=h
theorem m12_{p:Prop}(h:p:=by go_wp2_with fail;go_ret;exact ⟨by rw [HR3.out];rfl,HB8.out⟩):p:=h
def Qi(kinds kind:Int):Bool:=decide (1<=kind)&&decide (kind<=4)&&(bits BinOp.and IntKind.i64 (kinds / 2 ^ kind.toNat) 1==1)
theorem Zt9(kv:ZQ)(kind:Int)(w:World):Calls prog 131 #[.agg (Zm kv).toArray,.int .i64 kind] w fun e w'=>e=.returned (.bool (Qi kv.kinds kind))/\Below w.heap.size w w':=by
 obtain ⟨sec,name,form,list,kinds,wa,wn,wc⟩:=kv;unfold Zm;simp only;by_cases h1:1<=kind
 ·by_cases h2:kind<=4
  ·have HD:=h_ (show Qi kinds kind=(bits BinOp.and IntKind.i64 (kinds / 2 ^ kind.toNat) 1==1) by unfold Qi;rw [decide_eq_true h1,decide_eq_true h2];rfl)
   exact m10_
  ·have HD:=h_ (show Qi kinds kind=false by unfold Qi;rw [decide_eq_false h2];simp)
   exact m10_
 ·have HD:=h_ (show Qi kinds kind=false by unfold Qi;rw [decide_eq_false h1];simp)
  exact m10_
def isS(sec:Str)(kind:Int)(x:ZQ):Bool:=x.sec==sec&&Qi x.kinds kind
theorem ZqS(x:ZQ)(sec:Str)(kind:Int)(bl bk:Nat)(W:World)(hs:W.cell? ⟨bl,0,none⟩=some (.string ⟨sec.toArray⟩))(hk:W.cell? ⟨bk,0,none⟩=some (.int .i64 kind)) :
  Calls prog 130 #[.agg (Zm x).toArray,.pointer (some ⟨bl,0,none⟩),.pointer (some ⟨bk,0,none⟩)] W fun e w'=>e=.returned (.bool (isS sec kind x))/\Below W.heap.size W w':=by
 have hb:bl<W.heap.size:=World.block_lt_of_cell? W _ hs;have hc:bk<W.heap.size:=World.block_lt_of_cell? W _ hk;have hne:bl≠W.heap.size:=o_;have hne2:bk≠W.heap.size:=o_;have HO:=h_ (fun w=>Zt9 x kind w);have HB:=h_ ((Below.refl W.heap.size W).alloc l_ (.cells (Zm x).toArray 82));unfold Zm isS at *;cases h1:(x.sec==sec) with
 |false=>
  clear HO;go_enter func130,ntmps130;go_wp2_with fail;go_ret;exact ⟨rfl,HB.out⟩
 |true=>
  generalize Qi x.kinds kind=q at *;go_enter func130,ntmps130;go_wp2_with fail;refine (HO.out _).mono ?_;rintro e w1 ⟨rfl,hb1⟩;have HB1:=h_ (HB.out.trans (hb1.mono HB.out.size));clear hb1 HO;go_wp2_with fail;go_ret;exact ⟨rfl,HB1.out⟩
theorem Zkm:∀args w,(callFunc 130 args).run prog w=.ok (.enter 130 args) w:=enters_of func130 k_ rfl
theorem ZsE(b2 o:Nat)(cap:Nat)(vs:List ZQ)(sec:Str)(kind:Int)(bl bk:Nat)(w:World)(hr:ZG Zm 6 w (some ⟨b2,o,none⟩) vs)(hl:vs.length=42)(hs:w.cell? ⟨bl,0,none⟩=some (.string ⟨sec.toArray⟩))(hn:w.cell? ⟨bk,0,none⟩=some (.int .i64 kind)) :
  Calls prog 129 #[.slice (some ⟨b2,o,none⟩) vs.length cap,.func (.func 130) #[] #[.pointer (some ⟨bl,0,none⟩),.pointer (some ⟨bk,0,none⟩)]] w fun e w'=>e=.returned (.bool (vs.any (isS sec kind)))/\Below w.heap.size w w':=by
 obtain ⟨b4,o4,e4,hlt,_⟩:=hr 0 o_;injection e4 with e4;injection e4 with e4 e5 e6
 subst e4;subst e5;have hb:bl<w.heap.size:=World.block_lt_of_cell? w _ hs;have hc:bk<w.heap.size:=World.block_lt_of_cell? w _ hn
 have:=AnyQ.slices_ContainsFunc Tryz.hasKey 6 isAgg82 sizeOf82 Zm (fun _=>rfl) (isS sec kind) 130 #[.pointer (some ⟨bl,0,none⟩),.pointer (some ⟨bk,0,none⟩)] Zkm b2 o vs.length cap vs w
  (fun W x hW=>(ZqS x sec kind bl bk W (by rw [hW.cell (p:=⟨bl,0,none⟩) hb];exact hs) (by rw [hW.cell (p:=⟨bk,0,none⟩) hc];exact hn)).mono fun e w' ⟨a,q⟩=>⟨a,Below.more hW q⟩) l_ o_ hlt (by
   intro j hj i v hv;obtain ⟨b3,o3,e3,_,hcc⟩:=hr j hj;injection e3 with e3
   injection e3 with e4 e5 e6
   subst e4;subst e5;rw [getElem!_pos vs j hj] at hv;exact hcc i v hv)
 rw [List.take_length] at this;exact this
def ZaI(sec:Str)(kind:Int):Bool:=Zc.any fun k=>k.sec==sec&&Qi k.kinds kind
theorem ZpT(w:World)(sec:Str)(kind:Int):∀(vs:List ZQ) (ks:List ZE),ZY w vs ks->vs.any (isS sec kind)=ks.any fun k=>k.sec==sec&&Qi k.kinds kind
 |[],[],_=>rfl
 |[],b::q,h=>by have:=h.1;simp at this
 |a::r,[],h=>by have:=h.1;simp at this
 |a::r,b::q,h=>by
  have h0:=h.2 0 s_ s_;simp only [List.getElem_cons_zero] at h0;have ih:=ZpT w sec kind r q ⟨by have:=h.1;simpa using this,fun i h1 h2=>by
   have:=h.2 (i+1) (by simp;exact h1) (by simp;exact h2);simpa using this⟩
  rw [List.any_cons,List.any_cons,ih];unfold isS;rw [h0.sec,h0.kinds]
def Zlh(val:ZE->Int)(kind:Int)(sec key:Str):Int:=
 if ZaI sec kind=false then 10 else match findKey sec key with|none=>11|some k=>if val k=0 then 0 else 12
theorem ZtA(val:ZE->Int)(kind:Int)(sec key v:Str)(at_:Int)(w:World)(hM:Zz w)
  (hv:∀k kv W,findKey sec key=some k->Xu W kv k->Zz W->Calls prog 132 #[.agg (Zm kv).toArray,.string ⟨v.toArray⟩] W fun e w'=>e=.returned (.int .i64 (val k))/\Below W.heap.size W w') (r:Int) (hr:Zlh val kind sec key=r) :
  Calls prog 70 #[.int .i64 kind,.agg #[.string ⟨sec.toArray⟩,.string ⟨key.toArray⟩,.string ⟨v.toArray⟩,.int .i64 at_]] w fun e w'=>e=.returned (.int .i64 r)/\Below w.heap.size w w':=by
 let w1:=w.alloc (.cells #[.int .i64 kind] 3);let w2:=w1.alloc (.cells #[.string ⟨sec.toArray⟩,.string ⟨key.toArray⟩,.string ⟨v.toArray⟩,.int .i64 at_] 53);have hB2:Below w.heap.size w w2:=(b_.alloc l_ _).alloc s_ _;have z1:w1.heap.size=w.heap.size+1:=by simp [w1]
 have g1:w2.heap[w.heap.size]?=some (.cells #[.int .i64 kind] 3 (0,0)):=heap_alloc (heap_alloc_new w _) _;have g2:w2.heap[w.heap.size+1]?=some (.cells #[.string ⟨sec.toArray⟩,.string ⟨key.toArray⟩,.string ⟨v.toArray⟩,.int .i64 at_] 53 (0,0)):=by rw [<-z1];exact heap_alloc_new w1 _
 have HA:=h_ (Zdr w2);have HB:=h_ hB2;have G1:=h_ g1;have G2:=h_ g2;have HM:=h_ hM;have HV:=h_ hv;unfold Zlh at hr;have HR:=h_ hr;clear hB2 z1 g1 g2 hM hv hr;go_enter func70,ntmps70;go_wp2_with fail;refine HA.out.mono ?_;rintro e w4 ⟨oa,cap,vs,rfl,hrr,hk,hb4⟩;have HB4:=h_ (HB.out.trans (hb4.mono HB.out.size));have H1:=h_ (Za G1.out hb4);have H2:=h_ (Za G2.out hb4);have hln:vs.length=42:=by rw [hk.1];exact Xz
 obtain ⟨b2,o2,rfl,hblt,-⟩:=hrr 0 o_;have hI:=ZsE b2 o2 cap vs sec kind (w.heap.size+1) w.heap.size w4 hrr hln (by rw [(rd H2.out).1];rfl) (by rw [(rd H1.out).1];rfl);rw [hln,ZpT w4 sec kind vs Zc hk] at hI;have HI:=h_ (show Calls _ _ _ _ (fun e w'=>e=.returned (.bool (ZaI sec kind))/\_) from hI);clear hI hln hblt hrr hk hb4 HB HA G1 G2;go_wp2_with fail;refine HI.out.mono ?_;rintro e w5 ⟨rfl,hb5⟩;have HB5:=h_ (HB4.out.trans (hb5.mono HB4.out.size));have H3:=h_ (Za H2.out hb5);obtain ⟨c3,f3,s3,l3⟩:=rd H3.out;have c30:=c3 0;have c31:=c3 1;have c32:=c3 2;simp only [c1_,c2_,c3_] at c30 c31 c32;clear c3 f3 s3 l3 hb5 HI HB4 H1 H2;have HF:=h_ (Zm2 sec key w5);go_wp2_with fail;refine HF.out.mono ?_;rintro e w6 ⟨kv,rfl,hkv,hb6⟩;have HB6:=h_ (HB5.out.trans (hb6.mono HB5.out.size));have H4:=h_ (Za H3.out hb6);obtain ⟨c3,f3,s3,l3⟩:=rd H4.out;have d32:=c3 2;simp only [c1_,c2_,c3_] at d32;have hne:w.heap.size+1≠w6.heap.size:=o_;clear c3 f3 s3 l3 c30 c31 c32 HF HB5 H3 H4 hb6;have hB7:Below w.heap.size w (w6.alloc (.cells (Zm kv).toArray 82)):=HB6.out.trans (b_.alloc l_ _ |>.mono HB6.out.size);cases hs:ZaI sec kind with
 |false=>
  have HR2:=h_ (show r=10 by have h9:=HR.out;rw [hs] at h9;simpa using h9.symm);have HB7:=h_ hB7;clear HR hB7 hs HV hkv;generalize (findKey sec key).isSome=q at *;exact m11_
 |true=>
  cases hf:findKey sec key with
  |none=>
   have HR2:=h_ (show r=11 by have h9:=HR.out;rw [hs,hf] at h9;simpa using h9.symm);have HB7:=h_ hB7;clear HR hB7 hs HV hkv hf;simp only [Option.isSome_none];exact m11_
  |some k=>
   have hkv':Xu w6 kv k:=by rw [hf] at hkv;exact hkv
   have hcall:=HV.out k kv (w6.alloc (.cells (Zm kv).toArray 82)) hf (hkv'.below (b_.alloc l_ _)) (HM.out.below hB7);have HC:=h_ hcall;have HR2:=h_ (show (if val k=0 then 0 else 12)=r by have h9:=HR.out;rw [hs,hf] at h9;simpa using h9);have HB7:=h_ hB7;clear HR hB7 hs HV hkv hf hkv' hcall;simp only [Option.isSome_some];have HX:=h_ HB7;clear HB7;generalize w.heap.size+1=L at *;have hne3:w6.heap.size≠L:=fun e=>hne e.symm
   have e32:(w6.alloc (.cells (Zm kv).toArray 82)).cell? ⟨L,2,none⟩=some (.string ⟨v.toArray⟩):=(((Below.refl w6.heap.size w6).alloc l_ (.cells (Zm kv).toArray 82)).cell (p:=⟨L,2,none⟩) (World.block_lt_of_cell? w6 _ d32)).trans d32;unfold Zm at *;go_wp2_with fail;refine HC.out.mono ?_;rintro e w8 ⟨rfl,hb8⟩;have HB8:=h_ (HX.out.out.trans (hb8.mono HX.out.out.size));clear hb8 HC HX;by_cases h0:val k=0
   ·have HR3:=h_ (show r=0 by rw [<-HR2.out,if_pos h0])
    rw [h0];clear HR2 h0;exact m12_
   ·have HR3:=h_ (show r=12 by rw [<-HR2.out,if_neg h0])
    clear HR2;generalize val k=x at *;exact m12_
def ZU(x:Ln):List Value:=[.string ⟨x.sec.toArray⟩,.string ⟨x.key.toArray⟩,.string ⟨x.val.toArray⟩,.int .i64 x.at_]
theorem ZvA:(prog.info? 53).map (fun i=>(i.zero,i.size,i.bytes))=some (some (.agg #[.string ⟨#[]⟩,.string ⟨#[]⟩,.string ⟨#[]⟩,.int .i64 0]),4,56):=k_
theorem Zra(x:Ln):(ZU x).length=4:=rfl
theorem ZdP(x:Ln):∀v∈ZU x,v.oneCell'=true:=by
 intro v hv;simp [ZU] at hv;rcases hv with rfl|rfl|rfl|rfl<;>rfl
theorem ZfO.rd{w:World}{oa:Option Addr}{l:List Ln}(h:ZfO w oa l):ZG ZU 4 w oa l:=by
 intro i hi;obtain ⟨b,o,e,h0,h1,h2,h3⟩:=h i hi;refine ⟨b,o,e,World.block_lt_of_cell? w _ h0,fun j v hj=>?_⟩;rcases j with _|_|_|_|j
 ·simp [ZU] at hj;subst hj;exact h0
 ·simp [ZU] at hj;subst hj;exact h1
 ·simp [ZU] at hj;subst hj;exact h2
 ·simp [ZU] at hj;subst hj;exact h3
 ·simp [ZU] at hj
theorem ZtH{l:List Ln}(h:Zbw l<=1048576):∀x∈l,x.val.length<=1048576:=fun x hx=>by have:=Zqa hx;omega
theorem ZtY{l:List Ln}(h:Zbw l<=1048576):l.length<=1048576:=by have:=Zjy l;omega
theorem Zut{s:ByteArray}(h:s.size<=1048576):s.data.toList.length<=1048576:=by
 have e:s.data.toList.length=s.size:=by rw [Array.length_toList];rfl
 omega
end Go.Proofs.YtmgmbeipbeknaaaGreatDoor
