import Derived.Test.YtmgmbeipbeknaaaGreatDoorRF26
import Derived.Test.YtmgmbeipbeknaaaGreatDoorRF34
namespace Go.Proofs.YtmgmbeipbeknaaaGreatDoor
open Go.Proofs.Tryz
open Go Go.RowKit
set_option linter.unusedVariables false
set_option linter.unusedSimpArgs false
set_option maxHeartbeats 16000000
set_option maxRecDepth 100000
theorem Zou(U j:Nat)(cs:Array Value)(F:Nat->Prop)(v:Value)(w:World)(hb:w.heap[U]?=some (.cells cs 28 (0,0)))(hj:cs[j]?=some v)(hFU:¬F U)(hF:∀k,F k->k<w.heap.size)(hM:Zt w)
  (kv:ZM) (hf:kv.form=10) (ws:List Str) (hwn:kv.wn=ws.length) (hwl:ws.length<=4294967296) (hws:Zu w kv.wa ws) (HSL:∀W,Calls prog 138 #[.pointer (some ⟨U,0,none⟩),.string ⟨kv.name.toArray⟩] W fun e w'=>e=.returned (.pointer (some ⟨U,j,none⟩))/\w'=W) (val:Str) (hval:val.length<=500000000) :
  Calls prog 72 #[.pointer (some ⟨U,0,none⟩),.agg (Zp kv).toArray,.string ⟨val.toArray⟩] w fun e w'=>e=.returned (.bool true)/\Zj w w' U cs j F (.n (Qn ws val 0+1)):=by
 obtain ⟨sec,name,form,list,kinds,wa,wn,wc⟩:=kv;unfold Zp;simp only at *;subst hf;have hUl:=Zb hb;have hB:=(Below.refl w.heap.size w).alloc l_ (.cells #[.string ⟨sec.toArray⟩,.string ⟨name.toArray⟩,.int .i64 10,.bool list,.int .i64 kinds,.slice wa wn wc] 82);have hbx:=heap_alloc_new w (.cells #[.string ⟨sec.toArray⟩,.string ⟨name.toArray⟩,.int .i64 10,.bool list,.int .i64 kinds,.slice wa wn wc] 82);have hbu:=Za hb hB;have HB:=h_ hB;have HBX:=h_ hbx;have HBU:=h_ hbu;have HJ:=h_ hj;have HFU:=h_ hFU;have HF:=h_ hF;have HM1:=h_ (hM.below hB);have hne:U≠w.heap.size:=o_;have hjs:j<cs.size:=(Array.getElem?_eq_some_iff.1 hj).1;subst hwn;have HS:=h_ HSL;have hwrow:Zu (w.alloc (.cells #[.string ⟨sec.toArray⟩,.string ⟨name.toArray⟩,.int .i64 10,.bool list,.int .i64 kinds,.slice wa ws.length wc] 82)).drew wa ws:=hws.below (hB.trans (Zd ⟨1,rfl⟩));have HC:=h_ (ZkQ wa wc ws val _ hwl hwrow);obtain ⟨n,hn⟩:=e_ (Qn ws val 0);have hnb : -1<=n/\n<=4294967296:=by
  rw [hn];have:=Zdw ws val 0;omega
 have HNB:=h_ hnb;rw [<-hn] at HC⊢;clear hB hbx hbu hb hj hFU hF hM hws HSL hn hnb;obtain ⟨c0,c1,c2,c3,c4,c5⟩:=Xz HBX.out;go_enter func72,ntmps72;go_wp2_with fail;generalize w.alloc (.cells #[.string ⟨sec.toArray⟩,.string ⟨name.toArray⟩,.int .i64 10,.bool list,.int .i64 kinds,.slice wa ws.length wc] 82)=wb at *;refine Zh (S:=fun V=>V.heap[U]?=some (.cells cs 28 (0,0))/\V.heap[w.heap.size]?=some (.cells #[.string ⟨sec.toArray⟩,.string ⟨name.toArray⟩,.int .i64 10,.bool list,.int .i64 kinds,.slice wa ws.length wc] 82 (0,0))) 7 k_ k_ (show _/\_ from ⟨HBU.out,HBX.out⟩) (fun hHeld=>?_);refine u_ ?_;(iterate 3 refine dN_ 0 (gT_ rfl) (fun W hW=>by obtain ⟨x0,x1,x2,x3,x4,x5⟩:=Xz hW.2;clear hW;go_simp;rfl) (u_ ?_));(iterate 3 refine dN_ 1 (gT_ rfl) (fun W hW=>by obtain ⟨x0,x1,x2,x3,x4,x5⟩:=Xz hW.2;clear hW;go_simp;rfl) (u_ ?_));refine Zn (i:=3) (gT_ rfl) k_ k_ (fun K hK=>?_);clear hHeld;rw [if_pos n13_];go_simp;refine (HS.out _).mono ?_;rintro e w6 ⟨rfl,rfl⟩;refine hK.out _ _ (show _/\_ from ⟨HBU.out,HBX.out⟩) (fun hHeld=>?_);clear hK K;refine u_ ?_;refine Zv k_ ?_;clear hHeld;have hbu2:wb.drew.heap[U]?=some (.cells cs 28 (0,0)):=HBU.out;obtain ⟨u1,u2,u3,_⟩:=rd hbu2;have u10:=(u1 j).trans HJ.out;have u20:=u2 j;have HPP:=h_ (Zj.of_store (w:=w) (j:=j) (F:=F) (F':=fun _=>False) (c:=.n (n+1)) (v:=.int .i64 (n+1)) hbu2 rfl (Fr.of_below (HB.out.trans (Zd ⟨1,rfl⟩)) _) rfl (fun k hk=>hk.elim) (fun e=>e));clear u1 u2 hbu2;go_wp2_with fail;refine HC.out.mono ?_;rintro e w6 ⟨rfl,rfl⟩;obtain ⟨hn1,hn2⟩:=HNB.out;go_wp2_with fail;go_ret;exact ⟨rfl,HPP.out⟩
theorem ZpB{w w':World}{s:Str}{e:Ending}(h:ZeJ w s e w'):Below w.heap.size w w'/\∃(x:ZbV) (b:Bool),e=.returned (.tuple #[.agg #[.bool x.dash,.slice x.wa x.wn x.wc],.bool b])/\
  ZaZ w' (fun g=>(Value.slice x.wa x.wn x.wc).ownBlock=some g) x ((XZ s).getD (false,[]))/\∀g,(Value.slice x.wa x.wn x.wc).ownBlock=some g->w.heap.size<=g/\g<w'.heap.size:=by
 obtain ⟨hb,h⟩:=h;refine ⟨hb,?_⟩;cases hx:XZ s with
 |none=>
  rw [hx] at h;exact ⟨⟨false,none,0,0⟩,false,h,⟨rfl,rfl,World.ownsRow_nil _ _ _ _,fun g hg=>hg⟩,fun g hg=>by simp [Value.ownBlock] at hg⟩
 |some c=>
  obtain ⟨d,l⟩:=c;rw [hx] at h;obtain ⟨wa,wc,he,ho⟩:=h;exact ⟨⟨d,wa,l.length,wc⟩,true,he,⟨rfl,rfl,⟨ho.1,ho.2.imp id (fun ⟨g,cap,cur,q,_,r⟩=>⟨g,cap,cur,q,Nat.zero_le _,r⟩)⟩,fun g hg=>hg⟩,fun g hg=>ho.lt g hg⟩
theorem Zoi(U j:Nat)(cs:Array Value)(F:Nat->Prop)(v:Value)(w:World)(hb:w.heap[U]?=some (.cells cs 28 (0,0)))(hj:cs[j]?=some v)(hFU:¬F U)(hF:∀k,F k->k<w.heap.size)(hM:Zt w)
  (kv:ZM) (hf:kv.form=7) (l:List JB) (hv:Yu w F (.cs l) v) (hl:l.length<=100000) (HSL:∀W,Calls prog 142 #[.pointer (some ⟨U,0,none⟩),.string ⟨kv.name.toArray⟩] W fun e w'=>e=.returned (.pointer (some ⟨U,j,none⟩))/\w'=W) (val:Str) (hval:val.length<=500000000) :
  Calls prog 72 #[.pointer (some ⟨U,0,none⟩),.agg (Zp kv).toArray,.string ⟨val.toArray⟩] w fun e w'=>e=.returned (.bool true)/\Zj w w' U cs j F (.cs (YF l val ((XZ val).getD (false,[])))):=by
 obtain ⟨sec,name,form,list,kinds,wa,wn,wc⟩:=kv;unfold Zp;simp only at *;subst hf;have hUl:=Zb hb;have hB:=(Below.refl w.heap.size w).alloc l_ (.cells #[.string ⟨sec.toArray⟩,.string ⟨name.toArray⟩,.int .i64 7,.bool list,.int .i64 kinds,.slice wa wn wc] 82);have hbx:=heap_alloc_new w (.cells #[.string ⟨sec.toArray⟩,.string ⟨name.toArray⟩,.int .i64 7,.bool list,.int .i64 kinds,.slice wa wn wc] 82);have hbu:=Za hb hB;have HB:=h_ hB;have HBX:=h_ hbx;have HBU:=h_ hbu;have HJ:=h_ hj;have HFU:=h_ hFU;have HF:=h_ hF;have HM1:=h_ (hM.below hB);have hne:U≠w.heap.size:=o_;have hjs:j<cs.size:=(Array.getElem?_eq_some_iff.1 hj).1;have HS:=h_ HSL;have HE:=h_ (Zi0 ⟨val.toArray⟩ (w.alloc (.cells #[.string ⟨sec.toArray⟩,.string ⟨name.toArray⟩,.int .i64 7,.bool list,.int .i64 kinds,.slice wa wn wc] 82)) n33_);have hv1:=hv.fr (M:=fun _=>False) (Fr.of_below hB _) (fun _ _ e=>e);have HV1:=h_ hv1;obtain ⟨cm,hc0⟩:=e_ ((XZ val).getD (false,[]));have HC0:=h_ hc0;rw [<-hc0];clear hB hbx hbu hb hj hFU hF hM hv HSL hc0 hv1;obtain ⟨c0,c1,c2,c3,c4,c5⟩:=Xz HBX.out;go_enter func72,ntmps72;go_wp2_with fail;generalize w.alloc (.cells #[.string ⟨sec.toArray⟩,.string ⟨name.toArray⟩,.int .i64 7,.bool list,.int .i64 kinds,.slice wa wn wc] 82)=wb at *;refine HE.out.mono ?_;intro e w3 he;obtain ⟨hb3,⟨d,xa,xn,xc⟩,b,rfl,hcm,hG⟩:=ZpB he;simp only at hcm hG⊢;change ZaZ w3 _ _ ((XZ val).getD (false,[])) at hcm;rw [<-HC0.out] at hcm;have hB4:Below w3.heap.size w3 (w3.alloc (.cells #[.bool d,.slice xa xn xc] 49)):=b_.alloc l_ _;have hB5:Below w3.heap.size w3 (w3.alloc (.cells #[.bool d,.slice xa xn xc] 49)).drew:=hB4.trans (Zd ⟨1,rfl⟩);have hbb5:Below wb.heap.size wb (w3.alloc (.cells #[.bool d,.slice xa xn xc] 49)).drew:=Below.more hb3 hB5;have HS0:=h_ (And.intro (Za HBU.out (Below.more hb3 hB4)) (And.intro (Za HBX.out (Below.more hb3 hB4)) (heap_alloc_new w3 (.cells #[.bool d,.slice xa xn xc] 49))));have hsz:=HB.out.size;have HMR:=h_ (ZhY U j cs F l v (w3.alloc (.cells #[.bool d,.slice xa xn xc] 49)).drew (Za HBU.out hbb5) HJ.out (HV1.out.fr (M:=fun _=>False) (Fr.of_below hbb5 _) (fun _ _ e=>e)) HFU.out (fun k hk=>by have:=HF.out k hk;have:=hbb5.size;omega) o_ val ⟨d,xa,xn,xc⟩ cm _ (hcm.fr (M:=fun _=>False) (Fr.of_below hB5 _) (fun _ _ e=>e)) (fun g hg=>by
  have h1:=hG g hg;refine ⟨o_,fun h=>?_,?_⟩
  ·have:=HF.out g h;omega
  ·have:=hB5.size;omega))
 have HBF:=h_ (HB.out.trans (hbb5.mono hsz));have HG:=h_ (show ∀g,(Value.slice xa xn xc).ownBlock=some g->w.heap.size<=g from fun g hg=>Nat.le_trans hsz (hG g hg).1);unfold ZhD at HMR;clear hb3 hcm hG hB4 hB5 hbb5 he HV1 HE;go_wp2_with fail;refine Zh (S:=fun V=>V.heap[U]?=some (.cells cs 28 (0,0))/\V.heap[w.heap.size]?=some (.cells #[.string ⟨sec.toArray⟩,.string ⟨name.toArray⟩,.int .i64 7,.bool list,.int .i64 kinds,.slice wa wn wc] 82 (0,0))/\V.heap[w3.heap.size]?=some (.cells #[.bool d,.slice xa xn xc] 49 (0,0))) 6 k_ k_ (show _/\_/\_ from HS0.out) (fun hHeld=>?_);refine u_ ?_;(iterate 3 refine dN_ 0 (gT_ rfl) (fun W hW=>by obtain ⟨x0,x1,x2,x3,x4,x5⟩:=Xz hW.2.1;obtain ⟨q1,q2⟩:=Y4 hW.2.2;clear hW;go_simp;rfl) (u_ ?_));(iterate 2 refine dN_ 1 (gT_ rfl) (fun W hW=>by obtain ⟨x0,x1,x2,x3,x4,x5⟩:=Xz hW.2.1;obtain ⟨q1,q2⟩:=Y4 hW.2.2;clear hW;go_simp;rfl) (u_ ?_));refine Zn (i:=3) (gT_ rfl) k_ k_ (fun K hK=>?_);clear hHeld;rw [if_pos n13_];go_simp;refine (HS.out _).mono ?_;rintro e w6 ⟨rfl,rfl⟩;refine hK.out _ _ (show _/\_/\_ from HS0.out) (fun hHeld=>?_);clear hK K;refine u_ ?_;refine Zv k_ ?_;clear hHeld;go_wp2_with fail;refine HMR.out.mono ?_;rintro e w7 ⟨rfl,hp⟩;have HP:=h_ (Zj.belowG HBF.out HG.out hp);clear hp;go_wp2_with fail;go_ret;exact ⟨rfl,HP.out⟩
theorem m80_{p:Prop}(h:p:=by (repeat' (first|exact Zz.zero|refine Zz.upd ?_ _ _ ?_));all_goals rfl):p:=h
def UC.tag:UC->Nat|.s _=>0|.n _=>1|.b _=>2|.ss _=>3|.ns _=>4|.rs _=>5|.cs _=>6|.ps _=>7
def Zz(u:UV):Prop:=∀j,(u j).tag=(Zy j).tag
theorem Zz.zero:Zz Zy:=fun _=>rfl
theorem Zz.upd{u:UV}(h:Zz u)(i:Nat)(c:UC)(hc:c.tag=(Zy i).tag):Zz (u.upd i c):=by
 intro j;unfold UV.upd;split
 ·rename_i e;rw [e];exact hc
 ·exact h j
theorem Zz.new(s:Str):Zz (ZL s):=by
 unfold ZL;split
 ·exact Zz.zero
 ·simp only
  split
  ·exact m80_
  ·split
   ·exact m80_
   ·exact m80_
theorem ZrN{c:UC}(h:c.tag=0):∃x,c=.s x:=n5_
theorem Zok{c:UC}(h:c.tag=1):∃x,c=.n x:=n5_
theorem Zr8{c:UC}(h:c.tag=2):∃x,c=.b x:=n5_
theorem ZkV{c:UC}(h:c.tag=3):∃x,c=.ss x:=n5_
theorem ZlA{c:UC}(h:c.tag=4):∃x,c=.ns x:=n5_
theorem Zpw{c:UC}(h:c.tag=5):∃x,c=.rs x:=n5_
theorem Zoh{c:UC}(h:c.tag=6):∃x,c=.cs x:=n5_
theorem Zpn{c:UC}(h:c.tag=7):∃x,c=.ps x:=n5_
theorem ZrF:∀k∈Ze,k.form=1->(k.name,Zc k.name)∈Y6/\(Zy (Zc k.name)).tag=0:=n4_
theorem ZrS:∀k∈Ze,k.form=2->(k.name,Zc k.name)∈XJ/\(Zy (Zc k.name)).tag=2:=n4_
theorem Zr9:∀k∈Ze,k.form=3->(k.name,Zc k.name)∈Yb/\(Zy (Zc k.name)).tag=1:=n4_
theorem Zrz:∀k∈Ze,k.form=10->(k.name,Zc k.name)∈Yb/\(Zy (Zc k.name)).tag=1:=n4_
theorem Zr1:∀k∈Ze,k.form=5->(k.name,Zc k.name)∈Y6/\(Zy (Zc k.name)).tag=0:=n4_
theorem ZrQ:∀k∈Ze,k.form=7->(k.name,Zc k.name)∈Xi/\(Zy (Zc k.name)).tag=6:=n4_
theorem ZrD:∀k∈Ze,k.form=8->Zc k.name=19:=n4_
theorem ZrY:∀k∈Ze,k.form=9->(k.name,Zc k.name)∈YE/\(Zy (Zc k.name)).tag=3:=n4_
theorem Zrr:∀k∈Ze,k.form=11->(k.name,Zc k.name)∈Yj/\(Zy (Zc k.name)).tag=4/\(k.name !=[76,105,115,116,101,110,83,116,114,101,97,109])=!(Zc k.name==21):=n4_
theorem ZrR:∀k∈Ze,k.form=4->(k.list=true/\(k.name,Zc k.name)∈Yj/\(Zy (Zc k.name)).tag=4)\/(k.list=false/\(k.name,Zc k.name)∈Yb/\(Zy (Zc k.name)).tag=1):=n4_
theorem ZrC:∀k∈Ze,k.form=6->(ZI k.name=0/\(k.name,Zc k.name)∈YE/\(Zy (Zc k.name)).tag=3)\/(0<ZI k.name/\Zc k.name=4):=n4_
theorem ZmF:∀k∈Ze,Zc k.name<35/\Zc k.name≠0/\Zc k.name≠1:=n4_
theorem ZrM:∀k∈Ze,k.form=1\/k.form=2\/k.form=3\/k.form=10\/k.form=5\/k.form=7\/k.form=8\/k.form=9\/k.form=11\/k.form=4\/k.form=6:=n4_
theorem ZrT:∀k∈Ze,Zc k.name<35/\Zc k.name≠0/\Zc k.name≠1/\(
  (k.form=1/\(k.name,Zc k.name)∈Y6/\(Zy (Zc k.name)).tag=0)\/(k.form=2/\(k.name,Zc k.name)∈XJ/\(Zy (Zc k.name)).tag=2)\/
  (k.form=3/\(k.name,Zc k.name)∈Yb/\(Zy (Zc k.name)).tag=1)\/(k.form=10/\(k.name,Zc k.name)∈Yb/\(Zy (Zc k.name)).tag=1)\/
  (k.form=5/\(k.name,Zc k.name)∈Y6/\(Zy (Zc k.name)).tag=0)\/(k.form=7/\(k.name,Zc k.name)∈Xi/\(Zy (Zc k.name)).tag=6)\/
  (k.form=8/\Zc k.name=19)\/(k.form=9/\(k.name,Zc k.name)∈YE/\(Zy (Zc k.name)).tag=3)\/
  (k.form=11/\(k.name,Zc k.name)∈Yj/\(Zy (Zc k.name)).tag=4/\(k.name !=[76,105,115,116,101,110,83,116,114,101,97,109])=!(Zc k.name==21))\/
  (k.form=4/\k.list=true/\(k.name,Zc k.name)∈Yj/\(Zy (Zc k.name)).tag=4)\/(k.form=4/\k.list=false/\(k.name,Zc k.name)∈Yb/\(Zy (Zc k.name)).tag=1)\/
  (k.form=6/\ZI k.name=0/\(k.name,Zc k.name)∈YE/\(Zy (Zc k.name)).tag=3)\/(k.form=6/\0<ZI k.name/\Zc k.name=4)):=by
 intro k hk;obtain ⟨a,b,c⟩:=ZmF k hk;refine ⟨a,b,c,?_⟩;rcases ZrM k hk with f|f|f|f|f|f|f|f|f|f|f
 ·exact .inl ⟨f,ZrF k hk f⟩
 ·exact .inr (.inl ⟨f,ZrS k hk f⟩)
 ·exact .inr (.inr (.inl ⟨f,Zr9 k hk f⟩))
 ·exact .inr (.inr (.inr (.inl ⟨f,Zrz k hk f⟩)))
 ·exact .inr (.inr (.inr (.inr (.inl ⟨f,Zr1 k hk f⟩))))
 ·exact .inr (.inr (.inr (.inr (.inr (.inl ⟨f,ZrQ k hk f⟩)))))
 ·exact .inr (.inr (.inr (.inr (.inr (.inr (.inl ⟨f,ZrD k hk f⟩))))))
 ·exact .inr (.inr (.inr (.inr (.inr (.inr (.inr (.inl ⟨f,ZrY k hk f⟩)))))))
 ·exact .inr (.inr (.inr (.inr (.inr (.inr (.inr (.inr (.inl ⟨f,Zrr k hk f⟩))))))))
 ·rcases ZrR k hk f with h|h
  ·exact .inr (.inr (.inr (.inr (.inr (.inr (.inr (.inr (.inr (.inl ⟨f,h⟩)))))))))
  ·exact .inr (.inr (.inr (.inr (.inr (.inr (.inr (.inr (.inr (.inr (.inl ⟨f,h⟩))))))))))
 ·rcases ZrC k hk f with h|h
  ·exact .inr (.inr (.inr (.inr (.inr (.inr (.inr (.inr (.inr (.inr (.inr (.inl ⟨f,h⟩)))))))))))
  ·exact .inr (.inr (.inr (.inr (.inr (.inr (.inr (.inr (.inr (.inr (.inr (.inr ⟨f,h⟩)))))))))))
theorem ZhU(nm:Str)(k:ZC)(v:Str)(c:UC)(h:k.form=1\/k.form=5):Zi nm k v c=.s v:=by unfold Zi;rw [if_pos h]
theorem Zq3(nm:Str)(k:ZC)(v:Str)(c:UC)(f:k.form=2):Zi nm k v c=.b (Zck v):=by
 unfold Zi;rw [if_neg n1_,if_pos f]
theorem Zq7(nm:Str)(k:ZC)(v:Str)(c:UC)(f:k.form=3):Zi nm k v c=.n (Xu v).1:=by
 unfold Zi;rw [if_neg n1_,if_neg n1_,if_pos f]
theorem ZpQ(nm:Str)(k:ZC)(v:Str)(c:UC)(f:k.form=10):Zi nm k v c=.n (Qn k.words v 0+1):=by
 unfold Zi;rw [if_neg n1_,if_neg n1_,if_neg n1_,if_pos f]
theorem Zra(nm:Str)(k:ZC)(v:Str)(c:UC)(f:k.form=7):Zi nm k v c=.cs (YF c.cmds v ((XZ v).getD (false,[]))):=by
 unfold Zi;rw [if_neg n1_,if_neg n1_,if_neg n1_,if_neg n1_,if_pos f]
theorem Zq8(nm:Str)(k:ZC)(v:Str)(c:UC)(f:k.form=8):Zi nm k v c=.ps (Yv (if v=[] then [] else c.prs) (Jd v).1):=by
 unfold Zi;rw [if_neg n1_,if_neg n1_,if_neg n1_,if_neg n1_,if_neg n1_,if_pos f]
theorem Zq9(nm:Str)(k:ZC)(v:Str)(c:UC)(f:k.form=9):Zi nm k v c=.ss (YF c.strs v v):=by
 unfold Zi;rw [if_neg n1_,if_neg n1_,if_neg n1_,if_neg n1_,if_neg n1_,if_neg n1_,if_pos f]
theorem Zos(nm:Str)(k:ZC)(v:Str)(c:UC)(f:k.form=11):Zi nm k v c=.ns (YK c.nums (numsOf v)):=by
 unfold Zi;rw [if_neg n1_,if_neg n1_,if_neg n1_,if_neg n1_,if_neg n1_,if_neg n1_,if_neg n1_,if_pos f];rfl
theorem Zo8(nm:Str)(k:ZC)(v:Str)(c:UC)(f:k.form=4)(g:k.list=true):Zi nm k v c=.ns (YF c.nums v (YO v).1):=by
 unfold Zi;rw [if_neg n1_,if_neg n1_,if_neg n1_,if_neg n1_,if_neg n1_,if_neg n1_,if_neg n1_,if_neg n1_,if_pos f,if_pos g]
theorem ZoM(nm:Str)(k:ZC)(v:Str)(c:UC)(f:k.form=4)(g:k.list=false):Zi nm k v c=.n (YO v).1:=by
 unfold Zi;rw [if_neg n1_,if_neg n1_,if_neg n1_,if_neg n1_,if_neg n1_,if_neg n1_,if_neg n1_,if_neg n1_,if_pos f,if_neg (by rw [g];decide)]
theorem ZoS(nm:Str)(k:ZC)(v:Str)(c:UC)(f:k.form=6)(g:ZI k.name=0):Zi nm k v c=.ss (YK c.strs (Zg v)):=by
 unfold Zi;rw [if_neg n1_,if_neg n1_,if_neg n1_,if_neg n1_,if_neg n1_,if_neg n1_,if_neg n1_,if_neg n1_,if_neg n1_,if_pos g]
theorem Zoj(nm:Str)(k:ZC)(v:Str)(c:UC)(f:k.form=6)(g:0<ZI k.name):Zi nm k v c=.rs (ZK nm (ZI k.name:Nat) (if v=[] then c.rels.filter (fun r=>r.1 !=(ZI k.name:Nat)) else c.rels) (Zg v)):=by
 unfold Zi;rw [if_neg n1_,if_neg n1_,if_neg n1_,if_neg n1_,if_neg n1_,if_neg n1_,if_neg n1_,if_neg n1_,if_neg n1_,if_neg o_]
theorem Zr6(k:ZC)(v:Str)(f:k.form=5):Qm k v=(k.name !=[83,101,114,118,105,99,101]||ZB v==1):=by unfold Qm;rw [if_pos f]
theorem Zrg(k:ZC)(v:Str)(f:k.form=11):Qm k v=(k.name !=[76,105,115,116,101,110,83,116,114,101,97,109]||!((Zg v).any fun w=>(Xu w).1==0)):=by unfold Qm;rw [if_neg n1_,if_pos f]
theorem Jq(k:ZC)(v:Str)(h5:k.form≠5)(h11:k.form≠11):Qm k v=true:=by unfold Qm;rw [if_neg h5,if_neg h11]
theorem Zcw(name:Str)(k:ZC)(hk:k∈Ze)(v:Str)(c:UC):(Zi name k v c).tag=(Zy (Zc k.name)).tag:=by
 obtain ⟨_,_,_,h⟩:=ZrT k hk;rcases h with ⟨f,_,t⟩|⟨f,_,t⟩|⟨f,_,t⟩|⟨f,_,t⟩|⟨f,_,t⟩|⟨f,_,t⟩|⟨f,t⟩|⟨f,_,t⟩|⟨f,_,t,_⟩|⟨f,g,_,t⟩|⟨f,g,_,t⟩|⟨f,g,_,t⟩|⟨f,g,t⟩
 ·rw [ZhU _ _ _ _ (.inl f),t];rfl
 ·rw [Zq3 _ _ _ _ f,t];rfl
 ·rw [Zq7 _ _ _ _ f,t];rfl
 ·rw [ZpQ _ _ _ _ f,t];rfl
 ·rw [ZhU _ _ _ _ (.inr f),t];rfl
 ·rw [Zra _ _ _ _ f,t];rfl
 ·rw [Zq8 _ _ _ _ f,t];rfl
 ·rw [Zq9 _ _ _ _ f,t];rfl
 ·rw [Zos _ _ _ _ f,t];rfl
 ·rw [Zo8 _ _ _ _ f g,t];rfl
 ·rw [ZoM _ _ _ _ f g,t];rfl
 ·rw [ZoS _ _ _ _ f g,t];rfl
 ·rw [Zoj _ _ _ _ f g,t];rfl
theorem Zqy(U:Nat)(cs:Array Value)(F:Nat->Nat->Prop)(u:UV)(w:World)(hU:YD w U cs F u)(hT:Zz u)(hlen:∀j,(u j).len<=100000)(hM:Zt w)(nm:Str)(h0:u 0=.s nm)(k:ZC)(hk:k∈Ze)(kv:ZM)(hkv:YJ w kv k)
  (val:Str) (hval:val.length<=500000000) :
  Calls prog 72 #[.pointer (some ⟨U,0,none⟩),.agg (Zp kv).toArray,.string ⟨val.toArray⟩] w fun e w'=>e=.returned (.bool (Qm k val))/\Zj w w' U cs (Zc k.name) (F (Zc k.name)) (Zi nm k val (u (Zc k.name))):=by
 obtain ⟨hs35,hs0,hs1,h⟩:=ZrT k hk;have hj:∃v,cs[Zc k.name]?=some v:=⟨_,Array.getElem?_eq_getElem (by rw [hU.size];exact hs35)⟩;obtain ⟨v,hj⟩:=hj;have hv:=hU.fld _ v hj;have hFU:=hU.notU (Zc k.name);have hF:∀i,F (Zc k.name) i->i<w.heap.size:=fun i hi=>(hU.lt _ i hi).2
 have ht:=hT (Zc k.name);have hl:=hlen (Zc k.name);have hc0:∃v0,cs[0]?=some v0:=⟨_,Array.getElem?_eq_getElem (by rw [hU.size];decide)⟩;obtain ⟨v0,hc0⟩:=hc0;have hv0:=hU.fld _ v0 hc0;rw [h0] at hv0;have hv0':v0=.string ⟨nm.toArray⟩:=hv0;subst hv0';have hn:kv.name=k.name:=hkv.name;have hform:kv.form=k.form:=hkv.form;have hlist:kv.list=k.list:=hkv.list;rcases h with ⟨f,m,t⟩|⟨f,m,t⟩|⟨f,m,t⟩|⟨f,m,t⟩|⟨f,m,t⟩|⟨f,m,t⟩|⟨f,t⟩|⟨f,m,t⟩|⟨f,m,t,hls⟩|⟨f,g,m,t⟩|⟨f,g,m,t⟩|⟨f,g,m,t⟩|⟨f,g,t⟩
 ·rw [ZhU _ _ _ _ (.inl f),Jq _ _ n1_ n1_]
  exact ZoB U _ cs _ v w hU.box hj hFU hF hM kv (hform.trans f) (fun W=>by rw [hn];exact ZcV U W _ m) val hval
 ·rw [Zq3 _ _ _ _ f,Jq _ _ n1_ n1_]
  exact ZpG U _ cs _ v w hU.box hj hFU hF hM kv (hform.trans f) (fun W=>by rw [hn];exact ZhJ U W _ m) val hval
 ·rw [Zq7 _ _ _ _ f,Jq _ _ n1_ n1_]
  exact Zqh U _ cs _ v w hU.box hj hFU hF hM kv (hform.trans f) (fun W=>by rw [hn];exact Jz U W _ m) val hval
 ·rw [ZpQ _ _ _ _ f,Jq _ _ n1_ n1_]
  exact Zou U _ cs _ v w hU.box hj hFU hF hM kv (hform.trans f) k.words hkv.wl (Nat.le_trans (ZbO k hk) d_) hkv.row (fun W=>by rw [hn];exact Jz U W _ m) val hval
 ·rw [ZhU _ _ _ _ (.inr f),Zr6 _ _ f]
  have:=Zo3 U _ cs _ v w hU.box hj hFU hF hM kv (hform.trans f) ⟨nm.toArray⟩ hc0 (fun W=>by rw [hn];exact ZcV U W _ m) val hval
  rw [hn] at this;exact this
 ·rw [Zra _ _ _ _ f,Jq _ _ n1_ n1_]
  obtain ⟨l,hc⟩:=Zoh (ht.trans t);rw [hc] at hv hl⊢;exact Zoi U _ cs _ v w hU.box hj hFU hF hM kv (hform.trans f) l hv hl (fun W=>by rw [hn];exact ZgJ U W _ m) val hval
 ·rw [Zq8 _ _ _ _ f,Jq _ _ n1_ n1_]
  rw [t] at hj hv hFU hF ht hl⊢;obtain ⟨l,hc⟩:=Zpn ht;rw [hc] at hv hl⊢;exact ZqO U cs _ v w hU.box hj hFU hF hM kv (hform.trans f) l hv hl val hval
 ·rw [Zq9 _ _ _ _ f,Jq _ _ n1_ n1_]
  obtain ⟨l,hc⟩:=ZkV (ht.trans t);rw [hc] at hv hl⊢;exact Zp8 U _ cs _ v w hU.box hj hFU hF hM kv (hform.trans f) l hv hl (fun W=>by rw [hn];exact Zb6 U W _ m) val hval
 ·rw [Zos _ _ _ _ f,Zrg _ _ f,hls]
  obtain ⟨l,hc⟩:=ZlA (ht.trans t);rw [hc] at hv hl⊢;exact ZpP U _ cs _ v w hU.box hj hFU hF hM kv (hform.trans f) l hv hl (fun W=>by rw [hn];exact ZaY U W _ m) val hval
 ·rw [Zo8 _ _ _ _ f g,Jq _ _ n1_ n1_]
  obtain ⟨l,hc⟩:=ZlA (ht.trans t);rw [hc] at hv hl⊢;exact ZhA U _ cs _ v w hU.box hj hFU hF hM kv (hform.trans f) l hv hl (hlist.trans g) (fun W=>by rw [hn];exact ZaY U W _ m) val hval
 ·rw [ZoM _ _ _ _ f g,Jq _ _ n1_ n1_]
  obtain ⟨n0,hc⟩:=Zok (ht.trans t);rw [hc] at hv;exact ZiH U _ cs _ v w hU.box hj hFU hF hM kv (hform.trans f) ⟨n0,hv⟩ (hlist.trans g) (fun W=>by rw [hn];exact Jz U W _ m) val hval
 ·rw [ZoS _ _ _ _ f g,Jq _ _ n1_ n1_]
  obtain ⟨l,hc⟩:=ZkV (ht.trans t);rw [hc] at hv hl⊢;have hR:∀W,Calls prog 92 #[.string ⟨kv.name.toArray⟩] W fun e w'=>e=.returned (.int .i64 0)/\w'=W:=fun W=>by
   have:=JP W k.name (Zg6 k hk f)
   rw [g] at this;rw [hn];exact this
  exact Zob U _ cs _ v w hU.box hj hFU hF hM kv (hform.trans f) l hv hl hR (fun W=>by rw [hn];exact Zb6 U W _ m) val hval
 ·rw [Zoj _ _ _ _ f g,Jq _ _ n1_ n1_]
  rw [t] at hj hv hFU hF ht hl⊢;obtain ⟨l,hc⟩:=Zpw ht;rw [hc] at hv hl⊢;exact Zpi U cs _ v w hU.box hj hFU hF hM kv (hform.trans f) l hv hl nm hc0 (ZI k.name:Nat) n11_ (fun W=>by rw [hn];exact JP W k.name (Zg6 k hk f)) val hval
theorem Yu.len{w:World}{F:Nat->Prop}:∀{c:UC} {v:Value},Yu w F c v->3<=c.tag->∃oa cap,v=.slice oa c.len cap
 |.s _,_,_,h=>absurd h (by simp [UC.tag])
 |.n _,_,_,h=>absurd h (by simp [UC.tag])
 |.b _,_,_,h=>absurd h (by simp [UC.tag])
 |.ss _,_,h,_=>ownsRow_form h.1
 |.ns _,_,h,_=>ownsRow_form h.1
 |.rs _,_,h,_=>ownsRow_form h.1
 |.ps _,_,h,_=>ownsRow_form h.1
 |.cs _,_,h,_=>by obtain ⟨_,_,h,_⟩:=h;exact ownsRow_form h
theorem ZqF:∀i∈Qt,3<=(Zy i).tag/\i<35:=n4_
def Zlo(cs:Array Value)(u:UV):Prop:=∀i∈Qt,∃oa cap,cs[i]?=some (.slice oa (u i).len cap)
theorem YD.lens{w:World}{U:Nat}{cs:Array Value}{F:Nat->Nat->Prop}{u:UV}(h:YD w U cs F u)(hT:Zz u):Zlo cs u:=by
 intro i hi;obtain ⟨h3,h35⟩:=ZqF i hi;have hj:cs[i]?=some (cs[i]'(by rw [h.size];exact h35)):=Array.getElem?_eq_getElem (by rw [h.size];exact h35);obtain ⟨oa,cap,e⟩:=(h.fld i _ hj).len (by rw [hT i];exact h3);exact ⟨oa,cap,by rw [hj,e]⟩
theorem Zj7:∀(l:List Int) (m k:Int),decide (k<l.foldl max m)=(decide (k<m)||l.any fun x=>decide (k<x))
 |[],m,k=>by rw [List.any_nil,Bool.or_false];rfl
 |x::t,m,k=>by
  rw [List.foldl_cons,Zj7 t,List.any_cons,<-Bool.or_assoc];congr 1;rw [<-Bool.decide_or];apply decide_eq_decide.2;omega
theorem ZmY(l:List Int)(k:Int)(h:l≠[]):decide (k<Lib.maxOf l)=l.any fun x=>decide (k<x):=by
 unfold Lib.maxOf;rw [Zj7];cases l with
 |nil=>exact absurd rfl h
 |cons a t=>simp
def Qr(u:UV):List Int:=Qt.map fun i=>((u i).len:Int)
theorem Zlv(cs:Array Value)(u:UV)(w:World)(hL:Zlo cs u) :
  Calls prog 74 #[.agg cs] w fun e w'=>∃A,e=.returned (.slice (some ⟨A,0,none⟩) 17 17)/\(∀j,j<(Qr u).length->w'.cell? ⟨A,0+j,none⟩=some (.int .i64 ((Qr u).getD j 0)))/\Below w.heap.size w w':=by
 have hB:=(Below.refl w.heap.size w).alloc l_ (.cells cs 28);have hb:=(rd (heap_alloc_new w (.cells cs 28))).1;have HB:=h_ hB;obtain ⟨o8,p8,q8⟩:=hL 8 d_;have k8:=(hb 8).trans q8;obtain ⟨o9,p9,q9⟩:=hL 9 d_;have k9:=(hb 9).trans q9;obtain ⟨o10,p10,q10⟩:=hL 10 d_;have k10:=(hb 10).trans q10;obtain ⟨o11,p11,q11⟩:=hL 11 d_;have k11:=(hb 11).trans q11;obtain ⟨o12,p12,q12⟩:=hL 12 d_;have k12:=(hb 12).trans q12;obtain ⟨o18,p18,q18⟩:=hL 18 d_;have k18:=(hb 18).trans q18;obtain ⟨o19,p19,q19⟩:=hL 19 d_;have k19:=(hb 19).trans q19;obtain ⟨o20,p20,q20⟩:=hL 20 d_;have k20:=(hb 20).trans q20;obtain ⟨o21,p21,q21⟩:=hL 21 d_;have k21:=(hb 21).trans q21;obtain ⟨o25,p25,q25⟩:=hL 25 d_;have k25:=(hb 25).trans q25;obtain ⟨o26,p26,q26⟩:=hL 26 d_;have k26:=(hb 26).trans q26;obtain ⟨o27,p27,q27⟩:=hL 27 d_;have k27:=(hb 27).trans q27;obtain ⟨o28,p28,q28⟩:=hL 28 d_;have k28:=(hb 28).trans q28;obtain ⟨o30,p30,q30⟩:=hL 30 d_;have k30:=(hb 30).trans q30;obtain ⟨o31,p31,q31⟩:=hL 31 d_;have k31:=(hb 31).trans q31;obtain ⟨o32,p32,q32⟩:=hL 32 d_;have k32:=(hb 32).trans q32;obtain ⟨o33,p33,q33⟩:=hL 33 d_;have k33:=(hb 33).trans q33;have HLN:=h_ (show Qr u=[((u 8).len:Int),((u 9).len:Int),((u 10).len:Int),((u 11).len:Int),((u 12).len:Int),((u 18).len:Int),((u 19).len:Int),((u 20).len:Int),((u 21).len:Int),((u 25).len:Int),((u 26).len:Int),((u 27).len:Int),((u 28).len:Int),((u 30).len:Int),((u 31).len:Int),((u 32).len:Int),((u 33).len:Int)] from rfl);generalize (u 8).len=n8 at *;generalize (u 9).len=n9 at *;generalize (u 10).len=n10 at *;generalize (u 11).len=n11 at *;generalize (u 12).len=n12 at *;generalize (u 18).len=n18 at *;generalize (u 19).len=n19 at *;generalize (u 20).len=n20 at *;generalize (u 21).len=n21 at *;generalize (u 25).len=n25 at *;generalize (u 26).len=n26 at *;generalize (u 27).len=n27 at *;generalize (u 28).len=n28 at *;generalize (u 30).len=n30 at *;generalize (u 31).len=n31 at *;generalize (u 32).len=n32 at *;generalize (u 33).len=n33 at *;clear hL hb hB q8 q9 q10 q11 q12 q18 q19 q20 q21 q25 q26 q27 q28 q30 q31 q32 q33;go_enter func74,ntmps74;go_wp2_with fail;go_ret;have hn:=heap_alloc_new (w.alloc (.cells cs 28)) (.cells #[.int .i64 n8,.int .i64 n9,.int .i64 n10,.int .i64 n11,.int .i64 n12,.int .i64 n18,.int .i64 n19,.int .i64 n20,.int .i64 n21,.int .i64 n25,.int .i64 n26,.int .i64 n27,.int .i64 n28,.int .i64 n30,.int .i64 n31,.int .i64 n32,.int .i64 n33] 3);refine ⟨_,rfl,fun j hj=>?_,HB.out.alloc HB.out.size _⟩;rw [HLN.out] at hj⊢;have hz:(w.alloc (.cells cs 28)).heap.size=w.heap.size+1:=s_;rw [hz] at hn;rw [(rd hn).1,Nat.zero_add];have hj17:j<17:=hj;match j,hj17 with
 |0,_=>rfl
 |1,_=>rfl
 |2,_=>rfl
 |3,_=>rfl
 |4,_=>rfl
 |5,_=>rfl
 |6,_=>rfl
 |7,_=>rfl
 |8,_=>rfl
 |9,_=>rfl
 |10,_=>rfl
 |11,_=>rfl
 |12,_=>rfl
 |13,_=>rfl
 |14,_=>rfl
 |15,_=>rfl
 |16,_=>rfl
 |n+17,h=>omega
end Go.Proofs.YtmgmbeipbeknaaaGreatDoor
