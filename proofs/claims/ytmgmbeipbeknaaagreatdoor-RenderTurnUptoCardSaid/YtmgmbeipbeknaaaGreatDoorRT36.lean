import Derived.Test.YtmgmbeipbeknaaaGreatDoorRT27
import Derived.Test.YtmgmbeipbeknaaaGreatDoorRT35
namespace Go.Proofs.YtmgmbeipbeknaaaGreatDoor
open Go.Proofs.Tryz
open Go Go.RowKit
set_option linter.unusedVariables false
set_option linter.unusedSimpArgs false
set_option maxHeartbeats 16000000
set_option maxRecDepth 100000
theorem Zp0(U j:Nat)(cs:Array Value)(F:Nat->Prop)(v:Value)(w:World)(hb:w.heap[U]?=some (.cells cs 28 (0,0)))(hj:cs[j]?=some v)(hFU:¬F U)(hF:∀k,F k->k<w.heap.size)(hM:Zi w)
  (kv:ZJ) (hf:kv.form=10) (ws:List Str) (hwn:kv.wn=ws.length) (hwl:ws.length<=4294967296) (hws:Zn w kv.wa ws) (HSL:∀W,Calls prog 138 #[.pointer (some ⟨U,0,none⟩),.string ⟨kv.name.toArray⟩] W fun e w'=>e=.returned (.pointer (some ⟨U,j,none⟩))/\w'=W) (val:Str) (hval:val.length<=500000000) :
  Calls prog 72 #[.pointer (some ⟨U,0,none⟩),.agg (Zq kv).toArray,.string ⟨val.toArray⟩] w fun e w'=>e=.returned (.bool true)/\Zk w w' U cs j F (.n (QV ws val 0+1)):=by
 obtain ⟨sec,name,form,list,kinds,wa,wn,wc⟩:=kv;unfold Zq;simp only at *;subst hf;have hUl:=Zb hb;have hB:=(Below.refl w.heap.size w).alloc l_ (.cells #[.string ⟨sec.toArray⟩,.string ⟨name.toArray⟩,.int .i64 10,.bool list,.int .i64 kinds,.slice wa wn wc] 82);have hbx:=heap_alloc_new w (.cells #[.string ⟨sec.toArray⟩,.string ⟨name.toArray⟩,.int .i64 10,.bool list,.int .i64 kinds,.slice wa wn wc] 82);have hbu:=Za hb hB;have HB:=h_ hB;have HBX:=h_ hbx;have HBU:=h_ hbu;have HJ:=h_ hj;have HFU:=h_ hFU;have HF:=h_ hF;have HM1:=h_ (hM.below hB);have hne:U≠w.heap.size:=o_;have hjs:j<cs.size:=(Array.getElem?_eq_some_iff.1 hj).1;subst hwn;have HS:=h_ HSL;have hwrow:Zn (w.alloc (.cells #[.string ⟨sec.toArray⟩,.string ⟨name.toArray⟩,.int .i64 10,.bool list,.int .i64 kinds,.slice wa ws.length wc] 82)).drew wa ws:=hws.below (hB.trans (Zc ⟨1,rfl⟩));have HC:=h_ (Zlz wa wc ws val _ hwl hwrow);obtain ⟨n,hn⟩:=e_ (QV ws val 0);have hnb : -1<=n/\n<=4294967296:=by
  rw [hn];have:=Zhm ws val 0;omega
 have HNB:=h_ hnb;rw [<-hn] at HC⊢;clear hB hbx hbu hb hj hFU hF hM hws HSL hn hnb;obtain ⟨c0,c1,c2,c3,c4,c5⟩:=XB HBX.out;go_enter func72,ntmps72;go_wp2_with fail;generalize w.alloc (.cells #[.string ⟨sec.toArray⟩,.string ⟨name.toArray⟩,.int .i64 10,.bool list,.int .i64 kinds,.slice wa ws.length wc] 82)=wb at *;refine Ze (S:=fun V=>V.heap[U]?=some (.cells cs 28 (0,0))/\V.heap[w.heap.size]?=some (.cells #[.string ⟨sec.toArray⟩,.string ⟨name.toArray⟩,.int .i64 10,.bool list,.int .i64 kinds,.slice wa ws.length wc] 82 (0,0))) 7 k_ k_ (show _/\_ from ⟨HBU.out,HBX.out⟩) (fun hHeld=>?_);refine u_ ?_;(iterate 3 refine dN_ 0 (gT_ rfl) (fun W hW=>by obtain ⟨x0,x1,x2,x3,x4,x5⟩:=XB hW.2;clear hW;go_simp;rfl) (u_ ?_));(iterate 3 refine dN_ 1 (gT_ rfl) (fun W hW=>by obtain ⟨x0,x1,x2,x3,x4,x5⟩:=XB hW.2;clear hW;go_simp;rfl) (u_ ?_));refine Zm (i:=3) (gT_ rfl) k_ k_ (fun K hK=>?_);clear hHeld;rw [if_pos n13_];go_simp;refine (HS.out _).mono ?_;rintro e w6 ⟨rfl,rfl⟩;refine hK.out _ _ (show _/\_ from ⟨HBU.out,HBX.out⟩) (fun hHeld=>?_);clear hK K;refine u_ ?_;refine Zv k_ ?_;clear hHeld;have hbu2:wb.drew.heap[U]?=some (.cells cs 28 (0,0)):=HBU.out;obtain ⟨u1,u2,u3,_⟩:=rd hbu2;have u10:=(u1 j).trans HJ.out;have u20:=u2 j;have HPP:=h_ (Zk.of_store (w:=w) (j:=j) (F:=F) (F':=fun _=>False) (c:=.n (n+1)) (v:=.int .i64 (n+1)) hbu2 rfl (Fr.of_below (HB.out.trans (Zc ⟨1,rfl⟩)) _) rfl (fun k hk=>hk.elim) (fun e=>e));clear u1 u2 hbu2;go_wp2_with fail;refine HC.out.mono ?_;rintro e w6 ⟨rfl,rfl⟩;obtain ⟨hn1,hn2⟩:=HNB.out;go_wp2_with fail;go_ret;exact ⟨rfl,HPP.out⟩
theorem ZpP{w w':World}{s:Str}{e:Ending}(h:ZeS w s e w'):Below w.heap.size w w'/\∃(x:Za0) (b:Bool),e=.returned (.tuple #[.agg #[.bool x.dash,.slice x.wa x.wn x.wc],.bool b])/\
  Zbj w' (fun g=>(Value.slice x.wa x.wn x.wc).ownBlock=some g) x ((Zbf s).getD (false,[]))/\∀g,(Value.slice x.wa x.wn x.wc).ownBlock=some g->w.heap.size<=g/\g<w'.heap.size:=by
 obtain ⟨hb,h⟩:=h;refine ⟨hb,?_⟩;cases hx:Zbf s with
 |none=>
  rw [hx] at h;exact ⟨⟨false,none,0,0⟩,false,h,⟨rfl,rfl,World.ownsRow_nil _ _ _ _,fun g hg=>hg⟩,fun g hg=>by simp [Value.ownBlock] at hg⟩
 |some c=>
  obtain ⟨d,l⟩:=c;rw [hx] at h;obtain ⟨wa,wc,he,ho⟩:=h;exact ⟨⟨d,wa,l.length,wc⟩,true,he,⟨rfl,rfl,⟨ho.1,ho.2.imp id (fun ⟨g,cap,cur,q,_,r⟩=>⟨g,cap,cur,q,Nat.zero_le _,r⟩)⟩,fun g hg=>hg⟩,fun g hg=>ho.lt g hg⟩
theorem ZpD(U j:Nat)(cs:Array Value)(F:Nat->Prop)(v:Value)(w:World)(hb:w.heap[U]?=some (.cells cs 28 (0,0)))(hj:cs[j]?=some v)(hFU:¬F U)(hF:∀k,F k->k<w.heap.size)(hM:Zi w)
  (kv:ZJ) (hf:kv.form=7) (l:List Qs) (hv:Yy w F (.cs l) v) (hl:l.length<=100000) (HSL:∀W,Calls prog 142 #[.pointer (some ⟨U,0,none⟩),.string ⟨kv.name.toArray⟩] W fun e w'=>e=.returned (.pointer (some ⟨U,j,none⟩))/\w'=W) (val:Str) (hval:val.length<=500000000) :
  Calls prog 72 #[.pointer (some ⟨U,0,none⟩),.agg (Zq kv).toArray,.string ⟨val.toArray⟩] w fun e w'=>e=.returned (.bool true)/\Zk w w' U cs j F (.cs (QH l val ((Zbf val).getD (false,[])))):=by
 obtain ⟨sec,name,form,list,kinds,wa,wn,wc⟩:=kv;unfold Zq;simp only at *;subst hf;have hUl:=Zb hb;have hB:=(Below.refl w.heap.size w).alloc l_ (.cells #[.string ⟨sec.toArray⟩,.string ⟨name.toArray⟩,.int .i64 7,.bool list,.int .i64 kinds,.slice wa wn wc] 82);have hbx:=heap_alloc_new w (.cells #[.string ⟨sec.toArray⟩,.string ⟨name.toArray⟩,.int .i64 7,.bool list,.int .i64 kinds,.slice wa wn wc] 82);have hbu:=Za hb hB;have HB:=h_ hB;have HBX:=h_ hbx;have HBU:=h_ hbu;have HJ:=h_ hj;have HFU:=h_ hFU;have HF:=h_ hF;have HM1:=h_ (hM.below hB);have hne:U≠w.heap.size:=o_;have hjs:j<cs.size:=(Array.getElem?_eq_some_iff.1 hj).1;have HS:=h_ HSL;have HE:=h_ (Zi5 ⟨val.toArray⟩ (w.alloc (.cells #[.string ⟨sec.toArray⟩,.string ⟨name.toArray⟩,.int .i64 7,.bool list,.int .i64 kinds,.slice wa wn wc] 82)) n31_);have hv1:=hv.fr (M:=fun _=>False) (Fr.of_below hB _) (fun _ _ e=>e);have HV1:=h_ hv1;obtain ⟨cm,hc0⟩:=e_ ((Zbf val).getD (false,[]));have HC0:=h_ hc0;rw [<-hc0];clear hB hbx hbu hb hj hFU hF hM hv HSL hc0 hv1;obtain ⟨c0,c1,c2,c3,c4,c5⟩:=XB HBX.out;go_enter func72,ntmps72;go_wp2_with fail;generalize w.alloc (.cells #[.string ⟨sec.toArray⟩,.string ⟨name.toArray⟩,.int .i64 7,.bool list,.int .i64 kinds,.slice wa wn wc] 82)=wb at *;refine HE.out.mono ?_;intro e w3 he;obtain ⟨hb3,⟨d,xa,xn,xc⟩,b,rfl,hcm,hG⟩:=ZpP he;simp only at hcm hG⊢;change Zbj w3 _ _ ((Zbf val).getD (false,[])) at hcm;rw [<-HC0.out] at hcm;have hB4:Below w3.heap.size w3 (w3.alloc (.cells #[.bool d,.slice xa xn xc] 49)):=b_.alloc l_ _;have hB5:Below w3.heap.size w3 (w3.alloc (.cells #[.bool d,.slice xa xn xc] 49)).drew:=hB4.trans (Zc ⟨1,rfl⟩);have hbb5:Below wb.heap.size wb (w3.alloc (.cells #[.bool d,.slice xa xn xc] 49)).drew:=Below.more hb3 hB5;have HS0:=h_ (And.intro (Za HBU.out (Below.more hb3 hB4)) (And.intro (Za HBX.out (Below.more hb3 hB4)) (heap_alloc_new w3 (.cells #[.bool d,.slice xa xn xc] 49))));have hsz:=HB.out.size;have HMR:=h_ (Zio U j cs F l v (w3.alloc (.cells #[.bool d,.slice xa xn xc] 49)).drew (Za HBU.out hbb5) HJ.out (HV1.out.fr (M:=fun _=>False) (Fr.of_below hbb5 _) (fun _ _ e=>e)) HFU.out (fun k hk=>by have:=HF.out k hk;have:=hbb5.size;omega) o_ val ⟨d,xa,xn,xc⟩ cm _ (hcm.fr (M:=fun _=>False) (Fr.of_below hB5 _) (fun _ _ e=>e)) (fun g hg=>by
  have h1:=hG g hg;refine ⟨o_,fun h=>?_,?_⟩
  ·have:=HF.out g h;omega
  ·have:=hB5.size;omega))
 have HBF:=h_ (HB.out.trans (hbb5.mono hsz));have HG:=h_ (show ∀g,(Value.slice xa xn xc).ownBlock=some g->w.heap.size<=g from fun g hg=>Nat.le_trans hsz (hG g hg).1);unfold ZgO at HMR;clear hb3 hcm hG hB4 hB5 hbb5 he HV1 HE;go_wp2_with fail;refine Ze (S:=fun V=>V.heap[U]?=some (.cells cs 28 (0,0))/\V.heap[w.heap.size]?=some (.cells #[.string ⟨sec.toArray⟩,.string ⟨name.toArray⟩,.int .i64 7,.bool list,.int .i64 kinds,.slice wa wn wc] 82 (0,0))/\V.heap[w3.heap.size]?=some (.cells #[.bool d,.slice xa xn xc] 49 (0,0))) 6 k_ k_ (show _/\_/\_ from HS0.out) (fun hHeld=>?_);refine u_ ?_;(iterate 3 refine dN_ 0 (gT_ rfl) (fun W hW=>by obtain ⟨x0,x1,x2,x3,x4,x5⟩:=XB hW.2.1;obtain ⟨q1,q2⟩:=Y2 hW.2.2;clear hW;go_simp;rfl) (u_ ?_));(iterate 2 refine dN_ 1 (gT_ rfl) (fun W hW=>by obtain ⟨x0,x1,x2,x3,x4,x5⟩:=XB hW.2.1;obtain ⟨q1,q2⟩:=Y2 hW.2.2;clear hW;go_simp;rfl) (u_ ?_));refine Zm (i:=3) (gT_ rfl) k_ k_ (fun K hK=>?_);clear hHeld;rw [if_pos n13_];go_simp;refine (HS.out _).mono ?_;rintro e w6 ⟨rfl,rfl⟩;refine hK.out _ _ (show _/\_/\_ from HS0.out) (fun hHeld=>?_);clear hK K;refine u_ ?_;refine Zv k_ ?_;clear hHeld;go_wp2_with fail;refine HMR.out.mono ?_;rintro e w7 ⟨rfl,hp⟩;have HP:=h_ (Zk.belowG HBF.out HG.out hp);clear hp;go_wp2_with fail;go_ret;exact ⟨rfl,HP.out⟩
theorem m80_{p:Prop}(h:p:=by (repeat' (first|exact Zx.zero|refine Zx.upd ?_ _ _ ?_));all_goals rfl):p:=h
def UC.tag:UC->Nat|.s _=>0|.n _=>1|.b _=>2|.ss _=>3|.ns _=>4|.rs _=>5|.cs _=>6|.ps _=>7
def Zx(u:UV):Prop:=∀j,(u j).tag=(ZF j).tag
theorem Zx.zero:Zx ZF:=fun _=>rfl
theorem Zx.upd{u:UV}(h:Zx u)(i:Nat)(c:UC)(hc:c.tag=(ZF i).tag):Zx (u.upd i c):=by
 intro j;unfold UV.upd;split
 ·rename_i e;rw [e];exact hc
 ·exact h j
theorem Zx.new(s:Str):Zx (ZT s):=by
 unfold ZT;split
 ·exact Zx.zero
 ·simp only
  split
  ·exact m80_
  ·split
   ·exact m80_
   ·exact m80_
theorem Zsl{c:UC}(h:c.tag=0):∃x,c=.s x:=n6_
theorem Zp6{c:UC}(h:c.tag=1):∃x,c=.n x:=n6_
theorem Zsr{c:UC}(h:c.tag=2):∃x,c=.b x:=n6_
theorem Zmr{c:UC}(h:c.tag=3):∃x,c=.ss x:=n6_
theorem ZlS{c:UC}(h:c.tag=4):∃x,c=.ns x:=n6_
theorem Zpt{c:UC}(h:c.tag=5):∃x,c=.rs x:=n6_
theorem Zpp{c:UC}(h:c.tag=6):∃x,c=.cs x:=n6_
theorem ZoW{c:UC}(h:c.tag=7):∃x,c=.ps x:=n6_
theorem ZsR:∀k∈Zf,k.form=1->(k.name,Zh k.name)∈Y4/\(ZF (Zh k.name)).tag=0:=n4_
theorem ZsN:∀k∈Zf,k.form=2->(k.name,Zh k.name)∈XR/\(ZF (Zh k.name)).tag=2:=n4_
theorem ZsA:∀k∈Zf,k.form=3->(k.name,Zh k.name)∈Ya/\(ZF (Zh k.name)).tag=1:=n4_
theorem Zr0:∀k∈Zf,k.form=10->(k.name,Zh k.name)∈Ya/\(ZF (Zh k.name)).tag=1:=n4_
theorem Zsz:∀k∈Zf,k.form=5->(k.name,Zh k.name)∈Y4/\(ZF (Zh k.name)).tag=0:=n4_
theorem Zso:∀k∈Zf,k.form=7->(k.name,Zh k.name)∈Xi/\(ZF (Zh k.name)).tag=6:=n4_
theorem Zsj:∀k∈Zf,k.form=8->Zh k.name=19:=n4_
theorem Zsq:∀k∈Zf,k.form=9->(k.name,Zh k.name)∈YE/\(ZF (Zh k.name)).tag=3:=n4_
theorem Zr1:∀k∈Zf,k.form=11->(k.name,Zh k.name)∈Yg/\(ZF (Zh k.name)).tag=4/\(k.name !=[76,105,115,116,101,110,83,116,114,101,97,109])=!(Zh k.name==21):=n4_
theorem Zss:∀k∈Zf,k.form=4->(k.list=true/\(k.name,Zh k.name)∈Yg/\(ZF (Zh k.name)).tag=4)\/(k.list=false/\(k.name,Zh k.name)∈Ya/\(ZF (Zh k.name)).tag=1):=n4_
theorem ZsK:∀k∈Zf,k.form=6->(Yp k.name=0/\(k.name,Zh k.name)∈YE/\(ZF (Zh k.name)).tag=3)\/(0<Yp k.name/\Zh k.name=4):=n4_
theorem Zm2:∀k∈Zf,Zh k.name<35/\Zh k.name≠0/\Zh k.name≠1:=n4_
theorem ZsV:∀k∈Zf,k.form=1\/k.form=2\/k.form=3\/k.form=10\/k.form=5\/k.form=7\/k.form=8\/k.form=9\/k.form=11\/k.form=4\/k.form=6:=n4_
theorem ZsT:∀k∈Zf,Zh k.name<35/\Zh k.name≠0/\Zh k.name≠1/\(
  (k.form=1/\(k.name,Zh k.name)∈Y4/\(ZF (Zh k.name)).tag=0)\/(k.form=2/\(k.name,Zh k.name)∈XR/\(ZF (Zh k.name)).tag=2)\/
  (k.form=3/\(k.name,Zh k.name)∈Ya/\(ZF (Zh k.name)).tag=1)\/(k.form=10/\(k.name,Zh k.name)∈Ya/\(ZF (Zh k.name)).tag=1)\/
  (k.form=5/\(k.name,Zh k.name)∈Y4/\(ZF (Zh k.name)).tag=0)\/(k.form=7/\(k.name,Zh k.name)∈Xi/\(ZF (Zh k.name)).tag=6)\/
  (k.form=8/\Zh k.name=19)\/(k.form=9/\(k.name,Zh k.name)∈YE/\(ZF (Zh k.name)).tag=3)\/
  (k.form=11/\(k.name,Zh k.name)∈Yg/\(ZF (Zh k.name)).tag=4/\(k.name !=[76,105,115,116,101,110,83,116,114,101,97,109])=!(Zh k.name==21))\/
  (k.form=4/\k.list=true/\(k.name,Zh k.name)∈Yg/\(ZF (Zh k.name)).tag=4)\/(k.form=4/\k.list=false/\(k.name,Zh k.name)∈Ya/\(ZF (Zh k.name)).tag=1)\/
  (k.form=6/\Yp k.name=0/\(k.name,Zh k.name)∈YE/\(ZF (Zh k.name)).tag=3)\/(k.form=6/\0<Yp k.name/\Zh k.name=4)):=by
 intro k hk;obtain ⟨a,b,c⟩:=Zm2 k hk;refine ⟨a,b,c,?_⟩;rcases ZsV k hk with f|f|f|f|f|f|f|f|f|f|f
 ·exact .inl ⟨f,ZsR k hk f⟩
 ·exact .inr (.inl ⟨f,ZsN k hk f⟩)
 ·exact .inr (.inr (.inl ⟨f,ZsA k hk f⟩))
 ·exact .inr (.inr (.inr (.inl ⟨f,Zr0 k hk f⟩)))
 ·exact .inr (.inr (.inr (.inr (.inl ⟨f,Zsz k hk f⟩))))
 ·exact .inr (.inr (.inr (.inr (.inr (.inl ⟨f,Zso k hk f⟩)))))
 ·exact .inr (.inr (.inr (.inr (.inr (.inr (.inl ⟨f,Zsj k hk f⟩))))))
 ·exact .inr (.inr (.inr (.inr (.inr (.inr (.inr (.inl ⟨f,Zsq k hk f⟩)))))))
 ·exact .inr (.inr (.inr (.inr (.inr (.inr (.inr (.inr (.inl ⟨f,Zr1 k hk f⟩))))))))
 ·rcases Zss k hk f with h|h
  ·exact .inr (.inr (.inr (.inr (.inr (.inr (.inr (.inr (.inr (.inl ⟨f,h⟩)))))))))
  ·exact .inr (.inr (.inr (.inr (.inr (.inr (.inr (.inr (.inr (.inr (.inl ⟨f,h⟩))))))))))
 ·rcases ZsK k hk f with h|h
  ·exact .inr (.inr (.inr (.inr (.inr (.inr (.inr (.inr (.inr (.inr (.inr (.inl ⟨f,h⟩)))))))))))
  ·exact .inr (.inr (.inr (.inr (.inr (.inr (.inr (.inr (.inr (.inr (.inr (.inr ⟨f,h⟩)))))))))))
theorem ZiE(nm:Str)(k:ZQ)(v:Str)(c:UC)(h:k.form=1\/k.form=5):Z6 nm k v c=.s v:=by unfold Z6;rw [if_pos h]
theorem ZrS(nm:Str)(k:ZQ)(v:Str)(c:UC)(f:k.form=2):Z6 nm k v c=.b (ZdH v):=by
 unfold Z6;rw [if_neg n1_,if_pos f]
theorem ZrT(nm:Str)(k:ZQ)(v:Str)(c:UC)(f:k.form=3):Z6 nm k v c=.n (Jj v).1:=by
 unfold Z6;rw [if_neg n1_,if_neg n1_,if_pos f]
theorem Zpb(nm:Str)(k:ZQ)(v:Str)(c:UC)(f:k.form=10):Z6 nm k v c=.n (QV k.words v 0+1):=by
 unfold Z6;rw [if_neg n1_,if_neg n1_,if_neg n1_,if_pos f]
theorem ZrK(nm:Str)(k:ZQ)(v:Str)(c:UC)(f:k.form=7):Z6 nm k v c=.cs (QH c.cmds v ((Zbf v).getD (false,[]))):=by
 unfold Z6;rw [if_neg n1_,if_neg n1_,if_neg n1_,if_neg n1_,if_pos f]
theorem ZrO(nm:Str)(k:ZQ)(v:Str)(c:UC)(f:k.form=8):Z6 nm k v c=.ps (X6 (if v=[] then [] else c.prs) (ZdZ v).1):=by
 unfold Z6;rw [if_neg n1_,if_neg n1_,if_neg n1_,if_neg n1_,if_neg n1_,if_pos f]
theorem ZrL(nm:Str)(k:ZQ)(v:Str)(c:UC)(f:k.form=9):Z6 nm k v c=.ss (QH c.strs v v):=by
 unfold Z6;rw [if_neg n1_,if_neg n1_,if_neg n1_,if_neg n1_,if_neg n1_,if_neg n1_,if_pos f]
theorem Zo0(nm:Str)(k:ZQ)(v:Str)(c:UC)(f:k.form=11):Z6 nm k v c=.ns (JB c.nums (numsOf v)):=by
 unfold Z6;rw [if_neg n1_,if_neg n1_,if_neg n1_,if_neg n1_,if_neg n1_,if_neg n1_,if_neg n1_,if_pos f];rfl
theorem Zpf(nm:Str)(k:ZQ)(v:Str)(c:UC)(f:k.form=4)(g:k.list=true):Z6 nm k v c=.ns (QH c.nums v (QC v).1):=by
 unfold Z6;rw [if_neg n1_,if_neg n1_,if_neg n1_,if_neg n1_,if_neg n1_,if_neg n1_,if_neg n1_,if_neg n1_,if_pos f,if_pos g]
theorem ZpG(nm:Str)(k:ZQ)(v:Str)(c:UC)(f:k.form=4)(g:k.list=false):Z6 nm k v c=.n (QC v).1:=by
 unfold Z6;rw [if_neg n1_,if_neg n1_,if_neg n1_,if_neg n1_,if_neg n1_,if_neg n1_,if_neg n1_,if_neg n1_,if_pos f,if_neg (by rw [g];decide)]
theorem Zqi(nm:Str)(k:ZQ)(v:Str)(c:UC)(f:k.form=6)(g:Yp k.name=0):Z6 nm k v c=.ss (JB c.strs (Zo v)):=by
 unfold Z6;rw [if_neg n1_,if_neg n1_,if_neg n1_,if_neg n1_,if_neg n1_,if_neg n1_,if_neg n1_,if_neg n1_,if_neg n1_,if_pos g]
theorem Zp3(nm:Str)(k:ZQ)(v:Str)(c:UC)(f:k.form=6)(g:0<Yp k.name):Z6 nm k v c=.rs (ZV nm (Yp k.name:Nat) (if v=[] then c.rels.filter (fun r=>r.1 !=(Yp k.name:Nat)) else c.rels) (Zo v)):=by
 unfold Z6;rw [if_neg n1_,if_neg n1_,if_neg n1_,if_neg n1_,if_neg n1_,if_neg n1_,if_neg n1_,if_neg n1_,if_neg n1_,if_neg o_]
theorem Zsn(k:ZQ)(v:Str)(f:k.form=5):Zao k v=(k.name !=[83,101,114,118,105,99,101]||ZH v==1):=by unfold Zao;rw [if_pos f]
theorem Zr9(k:ZQ)(v:Str)(f:k.form=11):Zao k v=(k.name !=[76,105,115,116,101,110,83,116,114,101,97,109]||!((Zo v).any fun w=>(Jj w).1==0)):=by unfold Zao;rw [if_neg n1_,if_pos f]
theorem Jz(k:ZQ)(v:Str)(h5:k.form≠5)(h11:k.form≠11):Zao k v=true:=by unfold Zao;rw [if_neg h5,if_neg h11]
theorem ZcT(name:Str)(k:ZQ)(hk:k∈Zf)(v:Str)(c:UC):(Z6 name k v c).tag=(ZF (Zh k.name)).tag:=by
 obtain ⟨_,_,_,h⟩:=ZsT k hk;rcases h with ⟨f,_,t⟩|⟨f,_,t⟩|⟨f,_,t⟩|⟨f,_,t⟩|⟨f,_,t⟩|⟨f,_,t⟩|⟨f,t⟩|⟨f,_,t⟩|⟨f,_,t,_⟩|⟨f,g,_,t⟩|⟨f,g,_,t⟩|⟨f,g,_,t⟩|⟨f,g,t⟩
 ·rw [ZiE _ _ _ _ (.inl f),t];rfl
 ·rw [ZrS _ _ _ _ f,t];rfl
 ·rw [ZrT _ _ _ _ f,t];rfl
 ·rw [Zpb _ _ _ _ f,t];rfl
 ·rw [ZiE _ _ _ _ (.inr f),t];rfl
 ·rw [ZrK _ _ _ _ f,t];rfl
 ·rw [ZrO _ _ _ _ f,t];rfl
 ·rw [ZrL _ _ _ _ f,t];rfl
 ·rw [Zo0 _ _ _ _ f,t];rfl
 ·rw [Zpf _ _ _ _ f g,t];rfl
 ·rw [ZpG _ _ _ _ f g,t];rfl
 ·rw [Zqi _ _ _ _ f g,t];rfl
 ·rw [Zp3 _ _ _ _ f g,t];rfl
theorem Zq1(U:Nat)(cs:Array Value)(F:Nat->Nat->Prop)(u:UV)(w:World)(hU:YA w U cs F u)(hT:Zx u)(hlen:∀j,(u j).len<=100000)(hM:Zi w)(nm:Str)(h0:u 0=.s nm)(k:ZQ)(hk:k∈Zf)(kv:ZJ)(hkv:YH w kv k)
  (val:Str) (hval:val.length<=500000000) :
  Calls prog 72 #[.pointer (some ⟨U,0,none⟩),.agg (Zq kv).toArray,.string ⟨val.toArray⟩] w fun e w'=>e=.returned (.bool (Zao k val))/\Zk w w' U cs (Zh k.name) (F (Zh k.name)) (Z6 nm k val (u (Zh k.name))):=by
 obtain ⟨hs35,hs0,hs1,h⟩:=ZsT k hk;have hj:∃v,cs[Zh k.name]?=some v:=⟨_,Array.getElem?_eq_getElem (by rw [hU.size];exact hs35)⟩;obtain ⟨v,hj⟩:=hj;have hv:=hU.fld _ v hj;have hFU:=hU.notU (Zh k.name);have hF:∀i,F (Zh k.name) i->i<w.heap.size:=fun i hi=>(hU.lt _ i hi).2
 have ht:=hT (Zh k.name);have hl:=hlen (Zh k.name);have hc0:∃v0,cs[0]?=some v0:=⟨_,Array.getElem?_eq_getElem (by rw [hU.size];decide)⟩;obtain ⟨v0,hc0⟩:=hc0;have hv0:=hU.fld _ v0 hc0;rw [h0] at hv0;have hv0':v0=.string ⟨nm.toArray⟩:=hv0;subst hv0';have hn:kv.name=k.name:=hkv.name;have hform:kv.form=k.form:=hkv.form;have hlist:kv.list=k.list:=hkv.list;rcases h with ⟨f,m,t⟩|⟨f,m,t⟩|⟨f,m,t⟩|⟨f,m,t⟩|⟨f,m,t⟩|⟨f,m,t⟩|⟨f,t⟩|⟨f,m,t⟩|⟨f,m,t,hls⟩|⟨f,g,m,t⟩|⟨f,g,m,t⟩|⟨f,g,m,t⟩|⟨f,g,t⟩
 ·rw [ZiE _ _ _ _ (.inl f),Jz _ _ n1_ n1_]
  exact Zp2 U _ cs _ v w hU.box hj hFU hF hM kv (hform.trans f) (fun W=>by rw [hn];exact Zdu U W _ m) val hval
 ·rw [ZrS _ _ _ _ f,Jz _ _ n1_ n1_]
  exact Zqm U _ cs _ v w hU.box hj hFU hF hM kv (hform.trans f) (fun W=>by rw [hn];exact Ziq U W _ m) val hval
 ·rw [ZrT _ _ _ _ f,Jz _ _ n1_ n1_]
  exact Zq3 U _ cs _ v w hU.box hj hFU hF hM kv (hform.trans f) (fun W=>by rw [hn];exact JE U W _ m) val hval
 ·rw [Zpb _ _ _ _ f,Jz _ _ n1_ n1_]
  exact Zp0 U _ cs _ v w hU.box hj hFU hF hM kv (hform.trans f) k.words hkv.wl (Nat.le_trans (Zb9 k hk) d_) hkv.row (fun W=>by rw [hn];exact JE U W _ m) val hval
 ·rw [ZiE _ _ _ _ (.inr f),Zsn _ _ f]
  have:=ZqC U _ cs _ v w hU.box hj hFU hF hM kv (hform.trans f) ⟨nm.toArray⟩ hc0 (fun W=>by rw [hn];exact Zdu U W _ m) val hval
  rw [hn] at this;exact this
 ·rw [ZrK _ _ _ _ f,Jz _ _ n1_ n1_]
  obtain ⟨l,hc⟩:=Zpp (ht.trans t);rw [hc] at hv hl⊢;exact ZpD U _ cs _ v w hU.box hj hFU hF hM kv (hform.trans f) l hv hl (fun W=>by rw [hn];exact Zgv U W _ m) val hval
 ·rw [ZrO _ _ _ _ f,Jz _ _ n1_ n1_]
  rw [t] at hj hv hFU hF ht hl⊢;obtain ⟨l,hc⟩:=ZoW ht;rw [hc] at hv hl⊢;exact Zry U cs _ v w hU.box hj hFU hF hM kv (hform.trans f) l hv hl val hval
 ·rw [ZrL _ _ _ _ f,Jz _ _ n1_ n1_]
  obtain ⟨l,hc⟩:=Zmr (ht.trans t);rw [hc] at hv hl⊢;exact ZqU U _ cs _ v w hU.box hj hFU hF hM kv (hform.trans f) l hv hl (fun W=>by rw [hn];exact Zcr U W _ m) val hval
 ·rw [Zo0 _ _ _ _ f,Zr9 _ _ f,hls]
  obtain ⟨l,hc⟩:=ZlS (ht.trans t);rw [hc] at hv hl⊢;exact ZpS U _ cs _ v w hU.box hj hFU hF hM kv (hform.trans f) l hv hl (fun W=>by rw [hn];exact Zbh U W _ m) val hval
 ·rw [Zpf _ _ _ _ f g,Jz _ _ n1_ n1_]
  obtain ⟨l,hc⟩:=ZlS (ht.trans t);rw [hc] at hv hl⊢;exact ZiA U _ cs _ v w hU.box hj hFU hF hM kv (hform.trans f) l hv hl (hlist.trans g) (fun W=>by rw [hn];exact Zbh U W _ m) val hval
 ·rw [ZpG _ _ _ _ f g,Jz _ _ n1_ n1_]
  obtain ⟨n0,hc⟩:=Zp6 (ht.trans t);rw [hc] at hv;exact ZkM U _ cs _ v w hU.box hj hFU hF hM kv (hform.trans f) ⟨n0,hv⟩ (hlist.trans g) (fun W=>by rw [hn];exact JE U W _ m) val hval
 ·rw [Zqi _ _ _ _ f g,Jz _ _ n1_ n1_]
  obtain ⟨l,hc⟩:=Zmr (ht.trans t);rw [hc] at hv hl⊢;have hR:∀W,Calls prog 92 #[.string ⟨kv.name.toArray⟩] W fun e w'=>e=.returned (.int .i64 0)/\w'=W:=fun W=>by
   have:=Zai W k.name (Zhv k hk f)
   rw [g] at this;rw [hn];exact this
  exact Zon U _ cs _ v w hU.box hj hFU hF hM kv (hform.trans f) l hv hl hR (fun W=>by rw [hn];exact Zcr U W _ m) val hval
 ·rw [Zp3 _ _ _ _ f g,Jz _ _ n1_ n1_]
  rw [t] at hj hv hFU hF ht hl⊢;obtain ⟨l,hc⟩:=Zpt ht;rw [hc] at hv hl⊢;exact Zpv U cs _ v w hU.box hj hFU hF hM kv (hform.trans f) l hv hl nm hc0 (Yp k.name:Nat) n12_ (fun W=>by rw [hn];exact Zai W k.name (Zhv k hk f)) val hval
theorem Yy.len{w:World}{F:Nat->Prop}:∀{c:UC} {v:Value},Yy w F c v->3<=c.tag->∃oa cap,v=.slice oa c.len cap
 |.s _,_,_,h=>absurd h (by simp [UC.tag])
 |.n _,_,_,h=>absurd h (by simp [UC.tag])
 |.b _,_,_,h=>absurd h (by simp [UC.tag])
 |.ss _,_,h,_=>ownsRow_form h.1
 |.ns _,_,h,_=>ownsRow_form h.1
 |.rs _,_,h,_=>ownsRow_form h.1
 |.ps _,_,h,_=>ownsRow_form h.1
 |.cs _,_,h,_=>by obtain ⟨_,_,h,_⟩:=h;exact ownsRow_form h
theorem Zrx:∀i∈QI,3<=(ZF i).tag/\i<35:=n4_
def ZlE(cs:Array Value)(u:UV):Prop:=∀i∈QI,∃oa cap,cs[i]?=some (.slice oa (u i).len cap)
theorem YA.lens{w:World}{U:Nat}{cs:Array Value}{F:Nat->Nat->Prop}{u:UV}(h:YA w U cs F u)(hT:Zx u):ZlE cs u:=by
 intro i hi;obtain ⟨h3,h35⟩:=Zrx i hi;have hj:cs[i]?=some (cs[i]'(by rw [h.size];exact h35)):=Array.getElem?_eq_getElem (by rw [h.size];exact h35);obtain ⟨oa,cap,e⟩:=(h.fld i _ hj).len (by rw [hT i];exact h3);exact ⟨oa,cap,by rw [hj,e]⟩
theorem Zks:∀(l:List Int) (m k:Int),decide (k<l.foldl max m)=(decide (k<m)||l.any fun x=>decide (k<x))
 |[],m,k=>by rw [List.any_nil,Bool.or_false];rfl
 |x::t,m,k=>by
  rw [List.foldl_cons,Zks t,List.any_cons,<-Bool.or_assoc];congr 1;rw [<-Bool.decide_or];apply decide_eq_decide.2;omega
theorem ZnW(l:List Int)(k:Int)(h:l≠[]):decide (k<Lib.maxOf l)=l.any fun x=>decide (k<x):=by
 unfold Lib.maxOf;rw [Zks];cases l with
 |nil=>exact absurd rfl h
 |cons a t=>simp
def Qv(u:UV):List Int:=QI.map fun i=>((u i).len:Int)
theorem ZlQ(cs:Array Value)(u:UV)(w:World)(hL:ZlE cs u) :
  Calls prog 74 #[.agg cs] w fun e w'=>∃A,e=.returned (.slice (some ⟨A,0,none⟩) 17 17)/\(∀j,j<(Qv u).length->w'.cell? ⟨A,0+j,none⟩=some (.int .i64 ((Qv u).getD j 0)))/\Below w.heap.size w w':=by
 have hB:=(Below.refl w.heap.size w).alloc l_ (.cells cs 28);have hb:=(rd (heap_alloc_new w (.cells cs 28))).1;have HB:=h_ hB;obtain ⟨o8,p8,q8⟩:=hL 8 d_;have k8:=(hb 8).trans q8;obtain ⟨o9,p9,q9⟩:=hL 9 d_;have k9:=(hb 9).trans q9;obtain ⟨o10,p10,q10⟩:=hL 10 d_;have k10:=(hb 10).trans q10;obtain ⟨o11,p11,q11⟩:=hL 11 d_;have k11:=(hb 11).trans q11;obtain ⟨o12,p12,q12⟩:=hL 12 d_;have k12:=(hb 12).trans q12;obtain ⟨o18,p18,q18⟩:=hL 18 d_;have k18:=(hb 18).trans q18;obtain ⟨o19,p19,q19⟩:=hL 19 d_;have k19:=(hb 19).trans q19;obtain ⟨o20,p20,q20⟩:=hL 20 d_;have k20:=(hb 20).trans q20;obtain ⟨o21,p21,q21⟩:=hL 21 d_;have k21:=(hb 21).trans q21;obtain ⟨o25,p25,q25⟩:=hL 25 d_;have k25:=(hb 25).trans q25;obtain ⟨o26,p26,q26⟩:=hL 26 d_;have k26:=(hb 26).trans q26;obtain ⟨o27,p27,q27⟩:=hL 27 d_;have k27:=(hb 27).trans q27;obtain ⟨o28,p28,q28⟩:=hL 28 d_;have k28:=(hb 28).trans q28;obtain ⟨o30,p30,q30⟩:=hL 30 d_;have k30:=(hb 30).trans q30;obtain ⟨o31,p31,q31⟩:=hL 31 d_;have k31:=(hb 31).trans q31;obtain ⟨o32,p32,q32⟩:=hL 32 d_;have k32:=(hb 32).trans q32;obtain ⟨o33,p33,q33⟩:=hL 33 d_;have k33:=(hb 33).trans q33;have HLN:=h_ (show Qv u=[((u 8).len:Int),((u 9).len:Int),((u 10).len:Int),((u 11).len:Int),((u 12).len:Int),((u 18).len:Int),((u 19).len:Int),((u 20).len:Int),((u 21).len:Int),((u 25).len:Int),((u 26).len:Int),((u 27).len:Int),((u 28).len:Int),((u 30).len:Int),((u 31).len:Int),((u 32).len:Int),((u 33).len:Int)] from rfl);generalize (u 8).len=n8 at *;generalize (u 9).len=n9 at *;generalize (u 10).len=n10 at *;generalize (u 11).len=n11 at *;generalize (u 12).len=n12 at *;generalize (u 18).len=n18 at *;generalize (u 19).len=n19 at *;generalize (u 20).len=n20 at *;generalize (u 21).len=n21 at *;generalize (u 25).len=n25 at *;generalize (u 26).len=n26 at *;generalize (u 27).len=n27 at *;generalize (u 28).len=n28 at *;generalize (u 30).len=n30 at *;generalize (u 31).len=n31 at *;generalize (u 32).len=n32 at *;generalize (u 33).len=n33 at *;clear hL hb hB q8 q9 q10 q11 q12 q18 q19 q20 q21 q25 q26 q27 q28 q30 q31 q32 q33;go_enter func74,ntmps74;go_wp2_with fail;go_ret;have hn:=heap_alloc_new (w.alloc (.cells cs 28)) (.cells #[.int .i64 n8,.int .i64 n9,.int .i64 n10,.int .i64 n11,.int .i64 n12,.int .i64 n18,.int .i64 n19,.int .i64 n20,.int .i64 n21,.int .i64 n25,.int .i64 n26,.int .i64 n27,.int .i64 n28,.int .i64 n30,.int .i64 n31,.int .i64 n32,.int .i64 n33] 3);refine ⟨_,rfl,fun j hj=>?_,HB.out.alloc HB.out.size _⟩;rw [HLN.out] at hj⊢;have hz:(w.alloc (.cells cs 28)).heap.size=w.heap.size+1:=s_;rw [hz] at hn;rw [(rd hn).1,Nat.zero_add];have hj17:j<17:=hj;match j,hj17 with
 |0,_=>rfl
 |1,_=>rfl
 |2,_=>rfl
 |3,_=>rfl
 |4,_=>rfl
 |5,_=>rfl
 |6,_=>rfl
 |7,_=>rfl
 |8,_=>rfl
 |9,_=>rfl
 |10,_=>rfl
 |11,_=>rfl
 |12,_=>rfl
 |13,_=>rfl
 |14,_=>rfl
 |15,_=>rfl
 |16,_=>rfl
 |n+17,h=>omega
end Go.Proofs.YtmgmbeipbeknaaaGreatDoor
