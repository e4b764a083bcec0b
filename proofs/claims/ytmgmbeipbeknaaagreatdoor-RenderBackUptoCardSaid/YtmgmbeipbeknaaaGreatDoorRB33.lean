import Derived.Test.YtmgmbeipbeknaaaGreatDoorRB29
import Derived.Test.YtmgmbeipbeknaaaGreatDoorRB32
namespace Go.Proofs.YtmgmbeipbeknaaaGreatDoor
open Go.Proofs.Tryz
open Go Go.RowKit
set_option linter.all false
set_option maxHeartbeats 16000000
set_option maxRecDepth 100000
theorem Zsd(U j:Nat)(cs:Array Value)(F:Nat->Prop)(v:Value)(w:World)(hb:w.heap[U]?=some (.cells cs 28 (0,0)))(hj:cs[j]?=some v)(hFU:¬F U)(hF:∀k,F k->k<w.heap.size)(hM:Zz w)
  (kv:ZQ) (hf:kv.form=10) (ws:List Str) (hwn:kv.wn=ws.length) (hwl:ws.length<=4294967296) (hws:Zp w kv.wa ws) (HSL:∀W,Calls prog 138 #[.pointer (some ⟨U,0,none⟩),.string ⟨kv.name.toArray⟩] W fun e w'=>e=.returned (.pointer (some ⟨U,j,none⟩))/\w'=W) (val:Str) (hval:val.length<=500000000) :
  Calls prog 72 #[.pointer (some ⟨U,0,none⟩),.agg (Zm kv).toArray,.string ⟨val.toArray⟩] w fun e w'=>e=.returned (.bool true)/\Zq w w' U cs j F (.n (Xk ws val 0+1)):=by
 obtain ⟨sec,name,form,list,kinds,wa,wn,wc⟩:=kv;unfold Zm;simp only at *;subst hf;have hUl:=Zd hb;have hB:=(Below.refl w.heap.size w).alloc l_ (.cells #[.string ⟨sec.toArray⟩,.string ⟨name.toArray⟩,.int .i64 10,.bool list,.int .i64 kinds,.slice wa wn wc] 82);have hbx:=heap_alloc_new w (.cells #[.string ⟨sec.toArray⟩,.string ⟨name.toArray⟩,.int .i64 10,.bool list,.int .i64 kinds,.slice wa wn wc] 82);have hbu:=Za hb hB;have HB:=h_ hB;have HBX:=h_ hbx;have HBU:=h_ hbu;have HJ:=h_ hj;have HFU:=h_ hFU;have HF:=h_ hF;have HM1:=h_ (hM.below hB);have hne:U≠w.heap.size:=o_;have hjs:j<cs.size:=(c6_.1 hj).1;subst hwn;have HS:=h_ HSL;have hwrow:Zp (w.alloc (.cells #[.string ⟨sec.toArray⟩,.string ⟨name.toArray⟩,.int .i64 10,.bool list,.int .i64 kinds,.slice wa ws.length wc] 82)).drew wa ws:=hws.below (hB.trans (Ze ⟨1,rfl⟩));have HC:=h_ (Znv wa wc ws val _ hwl hwrow);obtain ⟨n,hn⟩:=e_ (Xk ws val 0);have hnb : -1<=n/\n<=4294967296:=by
  rw [hn];have:=Zfw ws val 0;omega
 have HNB:=h_ hnb;rw [<-hn] at HC⊢;clear hB hbx hbu hb hj hFU hF hM hws HSL hn hnb;obtain ⟨c0,c1,c2,c3,c4,c5⟩:=Qy HBX.out;go_enter func72,ntmps72;go_wp2_with fail;generalize w.alloc (.cells #[.string ⟨sec.toArray⟩,.string ⟨name.toArray⟩,.int .i64 10,.bool list,.int .i64 kinds,.slice wa ws.length wc] 82)=wb at *;refine Zk (S:=fun V=>V.heap[U]?=some (.cells cs 28 (0,0))/\V.heap[w.heap.size]?=some (.cells #[.string ⟨sec.toArray⟩,.string ⟨name.toArray⟩,.int .i64 10,.bool list,.int .i64 kinds,.slice wa ws.length wc] 82 (0,0))) 7 k_ k_ (show _/\_ from ⟨HBU.out,HBX.out⟩) (fun hHeld=>?_);refine u_ ?_;(iterate 3 refine dN_ 0 (gT_ rfl) (fun W hW=>by obtain ⟨x0,x1,x2,x3,x4,x5⟩:=Qy hW.2;clear hW;go_simp;rfl) (u_ ?_));(iterate 3 refine dN_ 1 (gT_ rfl) (fun W hW=>by obtain ⟨x0,x1,x2,x3,x4,x5⟩:=Qy hW.2;clear hW;go_simp;rfl) (u_ ?_));refine Zu (i:=3) (gT_ rfl) k_ k_ (fun K hK=>?_);clear hHeld;rw [if_pos n18_];go_simp;refine (HS.out _).mono ?_;rintro e w6 ⟨rfl,rfl⟩;refine hK.out _ _ (show _/\_ from ⟨HBU.out,HBX.out⟩) (fun hHeld=>?_);clear hK K;refine u_ ?_;refine ZF k_ ?_;clear hHeld;have hbu2:wb.drew.heap[U]?=some (.cells cs 28 (0,0)):=HBU.out;obtain ⟨u1,u2,u3,_⟩:=rd hbu2;have u10:=(u1 j).trans HJ.out;have u20:=u2 j;have HPP:=h_ (Zq.of_store (w:=w) (j:=j) (F:=F) (F':=fun _=>False) (c:=.n (n+1)) (v:=.int .i64 (n+1)) hbu2 rfl (Fr.of_below (HB.out.trans (Ze ⟨1,rfl⟩)) _) rfl (fun k hk=>hk.elim) (fun e=>e));clear u1 u2 hbu2;go_wp2_with fail;refine HC.out.mono ?_;rintro e w6 ⟨rfl,rfl⟩;obtain ⟨hn1,hn2⟩:=HNB.out;go_wp2_with fail;go_ret;exact ⟨rfl,HPP.out⟩
theorem Zr4{w w':World}{s:Str}{e:Ending}(h:ZgU w s e w'):Below w.heap.size w w'/\∃(x:Zdy) (b:Bool),e=.returned (.tuple #[.agg #[.bool x.dash,.slice x.wa x.wn x.wc],.bool b])/\
  ZcM w' (fun g=>(Value.slice x.wa x.wn x.wc).ownBlock=some g) x ((XU s).getD (false,[]))/\∀g,(Value.slice x.wa x.wn x.wc).ownBlock=some g->w.heap.size<=g/\g<w'.heap.size:=by
 obtain ⟨hb,h⟩:=h;refine ⟨hb,?_⟩;cases hx:XU s with
 |none=>
  rw [hx] at h;exact ⟨⟨false,none,0,0⟩,false,h,⟨rfl,rfl,World.ownsRow_nil _ _ _ _,fun g hg=>hg⟩,fun g hg=>by simp [Value.ownBlock] at hg⟩
 |some c=>
  obtain ⟨d,l⟩:=c;rw [hx] at h;obtain ⟨wa,wc,he,ho⟩:=h;exact ⟨⟨d,wa,l.length,wc⟩,true,he,⟨rfl,rfl,⟨ho.1,ho.2.imp id (fun ⟨g,cap,cur,q,_,r⟩=>⟨g,cap,cur,q,Nat.zero_le _,r⟩)⟩,fun g hg=>hg⟩,fun g hg=>ho.lt g hg⟩
theorem Ztx(U j:Nat)(cs:Array Value)(F:Nat->Prop)(v:Value)(w:World)(hb:w.heap[U]?=some (.cells cs 28 (0,0)))(hj:cs[j]?=some v)(hFU:¬F U)(hF:∀k,F k->k<w.heap.size)(hM:Zz w)
  (kv:ZQ) (hf:kv.form=7) (l:List Zar) (hv:Y5 w F (.cs l) v) (hl:l.length<=100000) (HSL:∀W,Calls prog 142 #[.pointer (some ⟨U,0,none⟩),.string ⟨kv.name.toArray⟩] W fun e w'=>e=.returned (.pointer (some ⟨U,j,none⟩))/\w'=W) (val:Str) (hval:val.length<=500000000) :
  Calls prog 72 #[.pointer (some ⟨U,0,none⟩),.agg (Zm kv).toArray,.string ⟨val.toArray⟩] w fun e w'=>e=.returned (.bool true)/\Zq w w' U cs j F (.cs (Xf l val ((XU val).getD (false,[])))):=by
 obtain ⟨sec,name,form,list,kinds,wa,wn,wc⟩:=kv;unfold Zm;simp only at *;subst hf;have hUl:=Zd hb;have hB:=(Below.refl w.heap.size w).alloc l_ (.cells #[.string ⟨sec.toArray⟩,.string ⟨name.toArray⟩,.int .i64 7,.bool list,.int .i64 kinds,.slice wa wn wc] 82);have hbx:=heap_alloc_new w (.cells #[.string ⟨sec.toArray⟩,.string ⟨name.toArray⟩,.int .i64 7,.bool list,.int .i64 kinds,.slice wa wn wc] 82);have hbu:=Za hb hB;have HB:=h_ hB;have HBX:=h_ hbx;have HBU:=h_ hbu;have HJ:=h_ hj;have HFU:=h_ hFU;have HF:=h_ hF;have HM1:=h_ (hM.below hB);have hne:U≠w.heap.size:=o_;have hjs:j<cs.size:=(c6_.1 hj).1;have HS:=h_ HSL;have HE:=h_ (ZmO ⟨val.toArray⟩ (w.alloc (.cells #[.string ⟨sec.toArray⟩,.string ⟨name.toArray⟩,.int .i64 7,.bool list,.int .i64 kinds,.slice wa wn wc] 82)) n45_);have hv1:=hv.fr (M:=fun _=>False) (Fr.of_below hB _) (fun _ _ e=>e);have HV1:=h_ hv1;obtain ⟨cm,hc0⟩:=e_ ((XU val).getD (false,[]));have HC0:=h_ hc0;rw [<-hc0];clear hB hbx hbu hb hj hFU hF hM hv HSL hc0 hv1;obtain ⟨c0,c1,c2,c3,c4,c5⟩:=Qy HBX.out;go_enter func72,ntmps72;go_wp2_with fail;generalize w.alloc (.cells #[.string ⟨sec.toArray⟩,.string ⟨name.toArray⟩,.int .i64 7,.bool list,.int .i64 kinds,.slice wa wn wc] 82)=wb at *;refine HE.out.mono ?_;intro e w3 he;obtain ⟨hb3,⟨d,xa,xn,xc⟩,b,rfl,hcm,hG⟩:=Zr4 he;simp only at hcm hG⊢;change ZcM w3 _ _ ((XU val).getD (false,[])) at hcm;rw [<-HC0.out] at hcm;have hB4:Below w3.heap.size w3 (w3.alloc (.cells #[.bool d,.slice xa xn xc] 49)):=b_.alloc l_ _;have hB5:Below w3.heap.size w3 (w3.alloc (.cells #[.bool d,.slice xa xn xc] 49)).drew:=hB4.trans (Ze ⟨1,rfl⟩);have hbb5:Below wb.heap.size wb (w3.alloc (.cells #[.bool d,.slice xa xn xc] 49)).drew:=Below.more hb3 hB5;have HS0:=h_ (And.intro (Za HBU.out (Below.more hb3 hB4)) (And.intro (Za HBX.out (Below.more hb3 hB4)) (heap_alloc_new w3 (.cells #[.bool d,.slice xa xn xc] 49))));have hsz:=HB.out.size;have HMR:=h_ (Zka U j cs F l v (w3.alloc (.cells #[.bool d,.slice xa xn xc] 49)).drew (Za HBU.out hbb5) HJ.out (HV1.out.fr (M:=fun _=>False) (Fr.of_below hbb5 _) (fun _ _ e=>e)) HFU.out (fun k hk=>by have:=HF.out k hk;have:=hbb5.size;omega) o_ val ⟨d,xa,xn,xc⟩ cm _ (hcm.fr (M:=fun _=>False) (Fr.of_below hB5 _) (fun _ _ e=>e)) (fun g hg=>by
  have h1:=hG g hg;refine ⟨o_,fun h=>?_,?_⟩
  ·have:=HF.out g h;omega
  ·have:=hB5.size;omega))
 have HBF:=h_ (HB.out.trans (hbb5.mono hsz));have HG:=h_ (show ∀g,(Value.slice xa xn xc).ownBlock=some g->w.heap.size<=g from fun g hg=>Nat.le_trans hsz (hG g hg).1);unfold Zi6 at HMR;clear hb3 hcm hG hB4 hB5 hbb5 he HV1 HE;go_wp2_with fail;refine Zk (S:=fun V=>V.heap[U]?=some (.cells cs 28 (0,0))/\V.heap[w.heap.size]?=some (.cells #[.string ⟨sec.toArray⟩,.string ⟨name.toArray⟩,.int .i64 7,.bool list,.int .i64 kinds,.slice wa wn wc] 82 (0,0))/\V.heap[w3.heap.size]?=some (.cells #[.bool d,.slice xa xn xc] 49 (0,0))) 6 k_ k_ (show _/\_/\_ from HS0.out) (fun hHeld=>?_);refine u_ ?_;(iterate 3 refine dN_ 0 (gT_ rfl) (fun W hW=>by obtain ⟨x0,x1,x2,x3,x4,x5⟩:=Qy hW.2.1;obtain ⟨q1,q2⟩:=XV hW.2.2;clear hW;go_simp;rfl) (u_ ?_));(iterate 2 refine dN_ 1 (gT_ rfl) (fun W hW=>by obtain ⟨x0,x1,x2,x3,x4,x5⟩:=Qy hW.2.1;obtain ⟨q1,q2⟩:=XV hW.2.2;clear hW;go_simp;rfl) (u_ ?_));refine Zu (i:=3) (gT_ rfl) k_ k_ (fun K hK=>?_);clear hHeld;rw [if_pos n18_];go_simp;refine (HS.out _).mono ?_;rintro e w6 ⟨rfl,rfl⟩;refine hK.out _ _ (show _/\_/\_ from HS0.out) (fun hHeld=>?_);clear hK K;refine u_ ?_;refine ZF k_ ?_;clear hHeld;go_wp2_with fail;refine HMR.out.mono ?_;rintro e w7 ⟨rfl,hp⟩;have HP:=h_ (Zq.belowG HBF.out HG.out hp);clear hp;go_wp2_with fail;go_ret;exact ⟨rfl,HP.out⟩
theorem m80_{p:Prop}(h:p:=by (repeat' (first|exact ZH.zero|refine ZH.upd ?_ _ _ ?_));all_goals rfl):p:=h
def UC.tag:UC->Nat|.s _=>0|.n _=>1|.b _=>2|.ss _=>3|.ns _=>4|.rs _=>5|.cs _=>6|.ps _=>7
def ZH(u:UV):Prop:=∀j,(u j).tag=(ZK j).tag
theorem ZH.zero:ZH ZK:=fun _=>rfl
theorem ZH.upd{u:UV}(h:ZH u)(i:Nat)(c:UC)(hc:c.tag=(ZK i).tag):ZH (u.upd i c):=by
 intro j;unfold UV.upd;split
 ·rename_i e;rw [e];exact hc
 ·exact h j
theorem ZH.new(s:Str):ZH (Zw s):=by
 unfold Zw;split
 ·exact ZH.zero
 ·simp only
  split
  ·exact m80_
  ·split
   ·exact m80_
   ·exact m80_
theorem ZvS{c:UC}(h:c.tag=0):∃x,c=.s x:=n10_
theorem Ztu{c:UC}(h:c.tag=1):∃x,c=.n x:=n10_
theorem ZvM{c:UC}(h:c.tag=2):∃x,c=.b x:=n10_
theorem ZoJ{c:UC}(h:c.tag=3):∃x,c=.ss x:=n10_
theorem Znx{c:UC}(h:c.tag=4):∃x,c=.ns x:=n10_
theorem Zr1{c:UC}(h:c.tag=5):∃x,c=.rs x:=n10_
theorem Ztp{c:UC}(h:c.tag=6):∃x,c=.cs x:=n10_
theorem ZrQ{c:UC}(h:c.tag=7):∃x,c=.ps x:=n10_
theorem ZvL:∀k∈Zc,k.form=1->(k.name,Zb k.name)∈XQ/\(ZK (Zb k.name)).tag=0:=n1_
theorem Zv3:∀k∈Zc,k.form=2->(k.name,Zb k.name)∈QG/\(ZK (Zb k.name)).tag=2:=n1_
theorem Zv4:∀k∈Zc,k.form=3->(k.name,Zb k.name)∈YK/\(ZK (Zb k.name)).tag=1:=n1_
theorem Zvd:∀k∈Zc,k.form=10->(k.name,Zb k.name)∈YK/\(ZK (Zb k.name)).tag=1:=n1_
theorem ZvU:∀k∈Zc,k.form=5->(k.name,Zb k.name)∈XQ/\(ZK (Zb k.name)).tag=0:=n1_
theorem ZvH:∀k∈Zc,k.form=7->(k.name,Zb k.name)∈Qa/\(ZK (Zb k.name)).tag=6:=n1_
theorem ZvN:∀k∈Zc,k.form=8->Zb k.name=19:=n1_
theorem ZvZ:∀k∈Zc,k.form=9->(k.name,Zb k.name)∈Xm/\(ZK (Zb k.name)).tag=3:=n1_
theorem Zvs:∀k∈Zc,k.form=11->(k.name,Zb k.name)∈YS/\(ZK (Zb k.name)).tag=4/\(k.name !=[76,105,115,116,101,110,83,116,114,101,97,109])=!(Zb k.name==21):=n1_
theorem Zv9:∀k∈Zc,k.form=4->(k.list=true/\(k.name,Zb k.name)∈YS/\(ZK (Zb k.name)).tag=4)\/(k.list=false/\(k.name,Zb k.name)∈YK/\(ZK (Zb k.name)).tag=1):=n1_
theorem ZvF:∀k∈Zc,k.form=6->(ZL k.name=0/\(k.name,Zb k.name)∈Xm/\(ZK (Zb k.name)).tag=3)\/(0<ZL k.name/\Zb k.name=4):=n1_
theorem ZpW:∀k∈Zc,Zb k.name<35/\Zb k.name≠0/\Zb k.name≠1:=n1_
theorem ZvR:∀k∈Zc,k.form=1\/k.form=2\/k.form=3\/k.form=10\/k.form=5\/k.form=7\/k.form=8\/k.form=9\/k.form=11\/k.form=4\/k.form=6:=n1_
theorem ZvQ:∀k∈Zc,Zb k.name<35/\Zb k.name≠0/\Zb k.name≠1/\(
  (k.form=1/\(k.name,Zb k.name)∈XQ/\(ZK (Zb k.name)).tag=0)\/(k.form=2/\(k.name,Zb k.name)∈QG/\(ZK (Zb k.name)).tag=2)\/
  (k.form=3/\(k.name,Zb k.name)∈YK/\(ZK (Zb k.name)).tag=1)\/(k.form=10/\(k.name,Zb k.name)∈YK/\(ZK (Zb k.name)).tag=1)\/
  (k.form=5/\(k.name,Zb k.name)∈XQ/\(ZK (Zb k.name)).tag=0)\/(k.form=7/\(k.name,Zb k.name)∈Qa/\(ZK (Zb k.name)).tag=6)\/
  (k.form=8/\Zb k.name=19)\/(k.form=9/\(k.name,Zb k.name)∈Xm/\(ZK (Zb k.name)).tag=3)\/
  (k.form=11/\(k.name,Zb k.name)∈YS/\(ZK (Zb k.name)).tag=4/\(k.name !=[76,105,115,116,101,110,83,116,114,101,97,109])=!(Zb k.name==21))\/
  (k.form=4/\k.list=true/\(k.name,Zb k.name)∈YS/\(ZK (Zb k.name)).tag=4)\/(k.form=4/\k.list=false/\(k.name,Zb k.name)∈YK/\(ZK (Zb k.name)).tag=1)\/
  (k.form=6/\ZL k.name=0/\(k.name,Zb k.name)∈Xm/\(ZK (Zb k.name)).tag=3)\/(k.form=6/\0<ZL k.name/\Zb k.name=4)):=by
 intro k hk;obtain ⟨a,b,c⟩:=ZpW k hk;refine ⟨a,b,c,?_⟩;rcases ZvR k hk with f|f|f|f|f|f|f|f|f|f|f
 ·exact .inl ⟨f,ZvL k hk f⟩
 ·exact .inr (.inl ⟨f,Zv3 k hk f⟩)
 ·exact .inr (.inr (.inl ⟨f,Zv4 k hk f⟩))
 ·exact .inr (.inr (.inr (.inl ⟨f,Zvd k hk f⟩)))
 ·exact .inr (.inr (.inr (.inr (.inl ⟨f,ZvU k hk f⟩))))
 ·exact .inr (.inr (.inr (.inr (.inr (.inl ⟨f,ZvH k hk f⟩)))))
 ·exact .inr (.inr (.inr (.inr (.inr (.inr (.inl ⟨f,ZvN k hk f⟩))))))
 ·exact .inr (.inr (.inr (.inr (.inr (.inr (.inr (.inl ⟨f,ZvZ k hk f⟩)))))))
 ·exact .inr (.inr (.inr (.inr (.inr (.inr (.inr (.inr (.inl ⟨f,Zvs k hk f⟩))))))))
 ·rcases Zv9 k hk f with h|h
  ·exact .inr (.inr (.inr (.inr (.inr (.inr (.inr (.inr (.inr (.inl ⟨f,h⟩)))))))))
  ·exact .inr (.inr (.inr (.inr (.inr (.inr (.inr (.inr (.inr (.inr (.inl ⟨f,h⟩))))))))))
 ·rcases ZvF k hk f with h|h
  ·exact .inr (.inr (.inr (.inr (.inr (.inr (.inr (.inr (.inr (.inr (.inr (.inl ⟨f,h⟩)))))))))))
  ·exact .inr (.inr (.inr (.inr (.inr (.inr (.inr (.inr (.inr (.inr (.inr (.inr ⟨f,h⟩)))))))))))
theorem Zkz(nm:Str)(k:ZE)(v:Str)(c:UC)(h:k.form=1\/k.form=5):Zl nm k v c=.s v:=by unfold Zl;rw [if_pos h]
theorem Zvc(nm:Str)(k:ZE)(v:Str)(c:UC)(f:k.form=2):Zl nm k v c=.b (Js v):=by
 unfold Zl;rw [if_neg n2_,if_pos f]
theorem Zvb(nm:Str)(k:ZE)(v:Str)(c:UC)(f:k.form=3):Zl nm k v c=.n (Xd v).1:=by
 unfold Zl;rw [if_neg n2_,if_neg n2_,if_pos f]
theorem Ztr(nm:Str)(k:ZE)(v:Str)(c:UC)(f:k.form=10):Zl nm k v c=.n (Xk k.words v 0+1):=by
 unfold Zl;rw [if_neg n2_,if_neg n2_,if_neg n2_,if_pos f]
theorem Zu2(nm:Str)(k:ZE)(v:Str)(c:UC)(f:k.form=7):Zl nm k v c=.cs (Xf c.cmds v ((XU v).getD (false,[]))):=by
 unfold Zl;rw [if_neg n2_,if_neg n2_,if_neg n2_,if_neg n2_,if_pos f]
theorem Zu9(nm:Str)(k:ZE)(v:Str)(c:UC)(f:k.form=8):Zl nm k v c=.ps (Xa (if v=[] then [] else c.prs) (Zay v).1):=by
 unfold Zl;rw [if_neg n2_,if_neg n2_,if_neg n2_,if_neg n2_,if_neg n2_,if_pos f]
theorem Zu8(nm:Str)(k:ZE)(v:Str)(c:UC)(f:k.form=9):Zl nm k v c=.ss (Xf c.strs v v):=by
 unfold Zl;rw [if_neg n2_,if_neg n2_,if_neg n2_,if_neg n2_,if_neg n2_,if_neg n2_,if_pos f]
theorem Zts(nm:Str)(k:ZE)(v:Str)(c:UC)(f:k.form=11):Zl nm k v c=.ns (Xw c.nums (numsOf v)):=by
 unfold Zl;rw [if_neg n2_,if_neg n2_,if_neg n2_,if_neg n2_,if_neg n2_,if_neg n2_,if_neg n2_,if_pos f];rfl
theorem Ztc(nm:Str)(k:ZE)(v:Str)(c:UC)(f:k.form=4)(g:k.list=true):Zl nm k v c=.ns (Xf c.nums v (YF v).1):=by
 unfold Zl;rw [if_neg n2_,if_neg n2_,if_neg n2_,if_neg n2_,if_neg n2_,if_neg n2_,if_neg n2_,if_neg n2_,if_pos f,if_pos g]
theorem Zr7(nm:Str)(k:ZE)(v:Str)(c:UC)(f:k.form=4)(g:k.list=false):Zl nm k v c=.n (YF v).1:=by
 unfold Zl;rw [if_neg n2_,if_neg n2_,if_neg n2_,if_neg n2_,if_neg n2_,if_neg n2_,if_neg n2_,if_neg n2_,if_pos f,if_neg (by rw [g];decide)]
theorem Zst(nm:Str)(k:ZE)(v:Str)(c:UC)(f:k.form=6)(g:ZL k.name=0):Zl nm k v c=.ss (Xw c.strs (Zg v)):=by
 unfold Zl;rw [if_neg n2_,if_neg n2_,if_neg n2_,if_neg n2_,if_neg n2_,if_neg n2_,if_neg n2_,if_neg n2_,if_neg n2_,if_pos g]
theorem ZsI(nm:Str)(k:ZE)(v:Str)(c:UC)(f:k.form=6)(g:0<ZL k.name):Zl nm k v c=.rs (ZW nm (ZL k.name:Nat) (if v=[] then c.rels.filter (fun r=>r.1 !=(ZL k.name:Nat)) else c.rels) (Zg v)):=by
 unfold Zl;rw [if_neg n2_,if_neg n2_,if_neg n2_,if_neg n2_,if_neg n2_,if_neg n2_,if_neg n2_,if_neg n2_,if_neg n2_,if_neg o_]
theorem ZvK(k:ZE)(v:Str)(f:k.form=5):Qh k v=(k.name !=[83,101,114,118,105,99,101]||Zt v==1):=by unfold Qh;rw [if_pos f]
theorem Zvt(k:ZE)(v:Str)(f:k.form=11):Qh k v=(k.name !=[76,105,115,116,101,110,83,116,114,101,97,109]||!((Zg v).any fun w=>(Xd w).1==0)):=by unfold Qh;rw [if_neg n2_,if_pos f]
theorem ZaL(k:ZE)(v:Str)(h5:k.form≠5)(h11:k.form≠11):Qh k v=true:=by unfold Qh;rw [if_neg h5,if_neg h11]
theorem Zej(name:Str)(k:ZE)(hk:k∈Zc)(v:Str)(c:UC):(Zl name k v c).tag=(ZK (Zb k.name)).tag:=by
 obtain ⟨_,_,_,h⟩:=ZvQ k hk;rcases h with ⟨f,_,t⟩|⟨f,_,t⟩|⟨f,_,t⟩|⟨f,_,t⟩|⟨f,_,t⟩|⟨f,_,t⟩|⟨f,t⟩|⟨f,_,t⟩|⟨f,_,t,_⟩|⟨f,g,_,t⟩|⟨f,g,_,t⟩|⟨f,g,_,t⟩|⟨f,g,t⟩
 ·rw [Zkz _ _ _ _ (.inl f),t];rfl
 ·rw [Zvc _ _ _ _ f,t];rfl
 ·rw [Zvb _ _ _ _ f,t];rfl
 ·rw [Ztr _ _ _ _ f,t];rfl
 ·rw [Zkz _ _ _ _ (.inr f),t];rfl
 ·rw [Zu2 _ _ _ _ f,t];rfl
 ·rw [Zu9 _ _ _ _ f,t];rfl
 ·rw [Zu8 _ _ _ _ f,t];rfl
 ·rw [Zts _ _ _ _ f,t];rfl
 ·rw [Ztc _ _ _ _ f g,t];rfl
 ·rw [Zr7 _ _ _ _ f g,t];rfl
 ·rw [Zst _ _ _ _ f g,t];rfl
 ·rw [ZsI _ _ _ _ f g,t];rfl
theorem Zur(U:Nat)(cs:Array Value)(F:Nat->Nat->Prop)(u:UV)(w:World)(hU:Y7 w U cs F u)(hT:ZH u)(hlen:∀j,(u j).len<=100000)(hM:Zz w)(nm:Str)(h0:u 0=.s nm)(k:ZE)(hk:k∈Zc)(kv:ZQ)(hkv:Xu w kv k)
  (val:Str) (hval:val.length<=500000000) :
  Calls prog 72 #[.pointer (some ⟨U,0,none⟩),.agg (Zm kv).toArray,.string ⟨val.toArray⟩] w fun e w'=>e=.returned (.bool (Qh k val))/\Zq w w' U cs (Zb k.name) (F (Zb k.name)) (Zl nm k val (u (Zb k.name))):=by
 obtain ⟨hs35,hs0,hs1,h⟩:=ZvQ k hk;have hj:∃v,cs[Zb k.name]?=some v:=⟨_,Array.getElem?_eq_getElem (by rw [hU.size];exact hs35)⟩;obtain ⟨v,hj⟩:=hj;have hv:=hU.fld _ v hj;have hFU:=hU.notU (Zb k.name);have hF:∀i,F (Zb k.name) i->i<w.heap.size:=fun i hi=>(hU.lt _ i hi).2
 have ht:=hT (Zb k.name);have hl:=hlen (Zb k.name);have hc0:∃v0,cs[0]?=some v0:=⟨_,Array.getElem?_eq_getElem (by rw [hU.size];decide)⟩;obtain ⟨v0,hc0⟩:=hc0;have hv0:=hU.fld _ v0 hc0;rw [h0] at hv0;have hv0':v0=.string ⟨nm.toArray⟩:=hv0;subst hv0';have hn:kv.name=k.name:=hkv.name;have hform:kv.form=k.form:=hkv.form;have hlist:kv.list=k.list:=hkv.list;rcases h with ⟨f,m,t⟩|⟨f,m,t⟩|⟨f,m,t⟩|⟨f,m,t⟩|⟨f,m,t⟩|⟨f,m,t⟩|⟨f,t⟩|⟨f,m,t⟩|⟨f,m,t,hls⟩|⟨f,g,m,t⟩|⟨f,g,m,t⟩|⟨f,g,m,t⟩|⟨f,g,t⟩
 ·rw [Zkz _ _ _ _ (.inl f),ZaL _ _ n2_ n2_]
  exact Zsm U _ cs _ v w hU.box hj hFU hF hM kv (hform.trans f) (fun W=>by rw [hn];exact ZeL U W _ m) val hval
 ·rw [Zvc _ _ _ _ f,ZaL _ _ n2_ n2_]
  exact Zsq U _ cs _ v w hU.box hj hFU hF hM kv (hform.trans f) (fun W=>by rw [hn];exact Zkt U W _ m) val hval
 ·rw [Zvb _ _ _ _ f,ZaL _ _ n2_ n2_]
  exact ZuO U _ cs _ v w hU.box hj hFU hF hM kv (hform.trans f) (fun W=>by rw [hn];exact Za8 U W _ m) val hval
 ·rw [Ztr _ _ _ _ f,ZaL _ _ n2_ n2_]
  exact Zsd U _ cs _ v w hU.box hj hFU hF hM kv (hform.trans f) k.words hkv.wl (Nat.le_trans (ZdD k hk) d_) hkv.row (fun W=>by rw [hn];exact Za8 U W _ m) val hval
 ·rw [Zkz _ _ _ _ (.inr f),ZvK _ _ f]
  have:=ZsA U _ cs _ v w hU.box hj hFU hF hM kv (hform.trans f) ⟨nm.toArray⟩ hc0 (fun W=>by rw [hn];exact ZeL U W _ m) val hval
  rw [hn] at this;exact this
 ·rw [Zu2 _ _ _ _ f,ZaL _ _ n2_ n2_]
  obtain ⟨l,hc⟩:=Ztp (ht.trans t);rw [hc] at hv hl⊢;exact Ztx U _ cs _ v w hU.box hj hFU hF hM kv (hform.trans f) l hv hl (fun W=>by rw [hn];exact ZiX U W _ m) val hval
 ·rw [Zu9 _ _ _ _ f,ZaL _ _ n2_ n2_]
  rw [t] at hj hv hFU hF ht hl⊢;obtain ⟨l,hc⟩:=ZrQ ht;rw [hc] at hv hl⊢;exact ZuE U cs _ v w hU.box hj hFU hF hM kv (hform.trans f) l hv hl val hval
 ·rw [Zu8 _ _ _ _ f,ZaL _ _ n2_ n2_]
  obtain ⟨l,hc⟩:=ZoJ (ht.trans t);rw [hc] at hv hl⊢;exact Zux U _ cs _ v w hU.box hj hFU hF hM kv (hform.trans f) l hv hl (fun W=>by rw [hn];exact ZdZ U W _ m) val hval
 ·rw [Zts _ _ _ _ f,Zvt _ _ f,hls]
  obtain ⟨l,hc⟩:=Znx (ht.trans t);rw [hc] at hv hl⊢;exact ZsS U _ cs _ v w hU.box hj hFU hF hM kv (hform.trans f) l hv hl (fun W=>by rw [hn];exact ZcK U W _ m) val hval
 ·rw [Ztc _ _ _ _ f g,ZaL _ _ n2_ n2_]
  obtain ⟨l,hc⟩:=Znx (ht.trans t);rw [hc] at hv hl⊢;exact Zkw U _ cs _ v w hU.box hj hFU hF hM kv (hform.trans f) l hv hl (hlist.trans g) (fun W=>by rw [hn];exact ZcK U W _ m) val hval
 ·rw [Zr7 _ _ _ _ f g,ZaL _ _ n2_ n2_]
  obtain ⟨n0,hc⟩:=Ztu (ht.trans t);rw [hc] at hv;exact ZmQ U _ cs _ v w hU.box hj hFU hF hM kv (hform.trans f) ⟨n0,hv⟩ (hlist.trans g) (fun W=>by rw [hn];exact Za8 U W _ m) val hval
 ·rw [Zst _ _ _ _ f g,ZaL _ _ n2_ n2_]
  obtain ⟨l,hc⟩:=ZoJ (ht.trans t);rw [hc] at hv hl⊢;have hR:∀W,Calls prog 92 #[.string ⟨kv.name.toArray⟩] W fun e w'=>e=.returned (.int .i64 0)/\w'=W:=fun W=>by
   have:=Zbp W k.name (ZjC k hk f)
   rw [g] at this;rw [hn];exact this
  exact Zp7 U _ cs _ v w hU.box hj hFU hF hM kv (hform.trans f) l hv hl hR (fun W=>by rw [hn];exact ZdZ U W _ m) val hval
 ·rw [ZsI _ _ _ _ f g,ZaL _ _ n2_ n2_]
  rw [t] at hj hv hFU hF ht hl⊢;obtain ⟨l,hc⟩:=Zr1 ht;rw [hc] at hv hl⊢;exact Zte U cs _ v w hU.box hj hFU hF hM kv (hform.trans f) l hv hl nm hc0 (ZL k.name:Nat) n15_ (fun W=>by rw [hn];exact Zbp W k.name (ZjC k hk f)) val hval
theorem Y5.len{w:World}{F:Nat->Prop}:∀{c:UC} {v:Value},Y5 w F c v->3<=c.tag->∃oa cap,v=.slice oa c.len cap
 |.s _,_,_,h=>absurd h (by simp [UC.tag])
 |.n _,_,_,h=>absurd h (by simp [UC.tag])
 |.b _,_,_,h=>absurd h (by simp [UC.tag])
 |.ss _,_,h,_=>ownsRow_form h.1
 |.ns _,_,h,_=>ownsRow_form h.1
 |.rs _,_,h,_=>ownsRow_form h.1
 |.ps _,_,h,_=>ownsRow_form h.1
 |.cs _,_,h,_=>by obtain ⟨_,_,h,_⟩:=h;exact ownsRow_form h
theorem Zt4:∀i∈QY,3<=(ZK i).tag/\i<35:=n1_
def Zn9(cs:Array Value)(u:UV):Prop:=∀i∈QY,∃oa cap,cs[i]?=some (.slice oa (u i).len cap)
theorem Y7.lens{w:World}{U:Nat}{cs:Array Value}{F:Nat->Nat->Prop}{u:UV}(h:Y7 w U cs F u)(hT:ZH u):Zn9 cs u:=by
 intro i hi;obtain ⟨h3,h35⟩:=Zt4 i hi;have hj:cs[i]?=some (cs[i]'(by rw [h.size];exact h35)):=Array.getElem?_eq_getElem (by rw [h.size];exact h35);obtain ⟨oa,cap,e⟩:=(h.fld i _ hj).len (by rw [hT i];exact h3);exact ⟨oa,cap,by rw [hj,e]⟩
theorem ZmX:∀(l:List Int) (m k:Int),decide (k<l.foldl max m)=(decide (k<m)||l.any fun x=>decide (k<x))
 |[],m,k=>by rw [List.any_nil,Bool.or_false];rfl
 |x::t,m,k=>by
  rw [List.foldl_cons,ZmX t,List.any_cons,<-Bool.or_assoc];congr 1;rw [<-Bool.decide_or];apply decide_eq_decide.2;omega
theorem Zqv(l:List Int)(k:Int)(h:l≠[]):decide (k<Lib.maxOf l)=l.any fun x=>decide (k<x):=by
 unfold Lib.maxOf;rw [ZmX];cases l with
 |nil=>exact absurd rfl h
 |cons a t=>simp
def Jw(u:UV):List Int:=QY.map fun i=>((u i).len:Int)
theorem ZnX(cs:Array Value)(u:UV)(w:World)(hL:Zn9 cs u) :
  Calls prog 74 #[.agg cs] w fun e w'=>∃A,e=.returned (.slice (some ⟨A,0,none⟩) 17 17)/\(∀j,j<(Jw u).length->w'.cell? ⟨A,0+j,none⟩=some (.int .i64 ((Jw u).getD j 0)))/\Below w.heap.size w w':=by
 have hB:=(Below.refl w.heap.size w).alloc l_ (.cells cs 28);have hb:=(rd (heap_alloc_new w (.cells cs 28))).1;have HB:=h_ hB;obtain ⟨o8,p8,q8⟩:=hL 8 d_;have k8:=(hb 8).trans q8;obtain ⟨o9,p9,q9⟩:=hL 9 d_;have k9:=(hb 9).trans q9;obtain ⟨o10,p10,q10⟩:=hL 10 d_;have k10:=(hb 10).trans q10;obtain ⟨o11,p11,q11⟩:=hL 11 d_;have k11:=(hb 11).trans q11;obtain ⟨o12,p12,q12⟩:=hL 12 d_;have k12:=(hb 12).trans q12;obtain ⟨o18,p18,q18⟩:=hL 18 d_;have k18:=(hb 18).trans q18;obtain ⟨o19,p19,q19⟩:=hL 19 d_;have k19:=(hb 19).trans q19;obtain ⟨o20,p20,q20⟩:=hL 20 d_;have k20:=(hb 20).trans q20;obtain ⟨o21,p21,q21⟩:=hL 21 d_;have k21:=(hb 21).trans q21;obtain ⟨o25,p25,q25⟩:=hL 25 d_;have k25:=(hb 25).trans q25;obtain ⟨o26,p26,q26⟩:=hL 26 d_;have k26:=(hb 26).trans q26;obtain ⟨o27,p27,q27⟩:=hL 27 d_;have k27:=(hb 27).trans q27;obtain ⟨o28,p28,q28⟩:=hL 28 d_;have k28:=(hb 28).trans q28;obtain ⟨o30,p30,q30⟩:=hL 30 d_;have k30:=(hb 30).trans q30;obtain ⟨o31,p31,q31⟩:=hL 31 d_;have k31:=(hb 31).trans q31;obtain ⟨o32,p32,q32⟩:=hL 32 d_;have k32:=(hb 32).trans q32;obtain ⟨o33,p33,q33⟩:=hL 33 d_;have k33:=(hb 33).trans q33;have HLN:=h_ (show Jw u=[((u 8).len:Int),((u 9).len:Int),((u 10).len:Int),((u 11).len:Int),((u 12).len:Int),((u 18).len:Int),((u 19).len:Int),((u 20).len:Int),((u 21).len:Int),((u 25).len:Int),((u 26).len:Int),((u 27).len:Int),((u 28).len:Int),((u 30).len:Int),((u 31).len:Int),((u 32).len:Int),((u 33).len:Int)] from rfl);generalize (u 8).len=n8 at *;generalize (u 9).len=n9 at *;generalize (u 10).len=n10 at *;generalize (u 11).len=n11 at *;generalize (u 12).len=n12 at *;generalize (u 18).len=n18 at *;generalize (u 19).len=n19 at *;generalize (u 20).len=n20 at *;generalize (u 21).len=n21 at *;generalize (u 25).len=n25 at *;generalize (u 26).len=n26 at *;generalize (u 27).len=n27 at *;generalize (u 28).len=n28 at *;generalize (u 30).len=n30 at *;generalize (u 31).len=n31 at *;generalize (u 32).len=n32 at *;generalize (u 33).len=n33 at *;clear hL hb hB q8 q9 q10 q11 q12 q18 q19 q20 q21 q25 q26 q27 q28 q30 q31 q32 q33;go_enter func74,ntmps74;go_wp2_with fail;go_ret;have hn:=heap_alloc_new (w.alloc (.cells cs 28)) (.cells #[.int .i64 n8,.int .i64 n9,.int .i64 n10,.int .i64 n11,.int .i64 n12,.int .i64 n18,.int .i64 n19,.int .i64 n20,.int .i64 n21,.int .i64 n25,.int .i64 n26,.int .i64 n27,.int .i64 n28,.int .i64 n30,.int .i64 n31,.int .i64 n32,.int .i64 n33] 3);refine ⟨_,rfl,fun j hj=>?_,HB.out.alloc HB.out.size _⟩;rw [HLN.out] at hj⊢;have hz:(w.alloc (.cells cs 28)).heap.size=w.heap.size+1:=s_;rw [hz] at hn;rw [(rd hn).1,Nat.zero_add];have hj17:j<17:=hj;match j,hj17 with
 |0,_=>rfl
 |1,_=>rfl
 |2,_=>rfl
 |3,_=>rfl
 |4,_=>rfl
 |5,_=>rfl
 |6,_=>rfl
 |7,_=>rfl
 |8,_=>rfl
 |9,_=>rfl
 |10,_=>rfl
 |11,_=>rfl
 |12,_=>rfl
 |13,_=>rfl
 |14,_=>rfl
 |15,_=>rfl
 |16,_=>rfl
 |n+17,h=>omega
end Go.Proofs.YtmgmbeipbeknaaaGreatDoor
