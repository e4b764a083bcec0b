import Derived.Test.YtgoooebfhdbbkaaGreatDoorUM4
import Derived.Test.YtgoooebfhdbbkaaGreatDoorUM5
import Derived.Test.YtgoooebfhdbbkaaGreatDoorUM14
import Derived.Test.YtgoooebfhdbbkaaGreatDoorUM22
namespace Go.Proofs.YtgoooebfhdbbkaaGreatDoor
open Go.Proofs.Tryz
open Go Go.RowKit
set_option linter.unusedVariables false
set_option linter.unusedSimpArgs false
set_option maxHeartbeats 16000000
set_option maxRecDepth 100000
theorem Yk{P:Program}{ops:Array Oper}{o:Oper}{a:Act}{w w':World}{K:Act->World->Prop}{Q:Exit->Act->World->Prop}{E:Prop}{v v' xv:Value}(hw:Region.wanted o (yielded ops a.tmps)=true)(s x:Operand)(t:TypeId)
  (hop:o.op=Op.call { callee:=Callee.builtin Builtin.append,args:=#[s,x],argTypes:=#[t,t] }) (hr:(Builtin.append_ #[t,t] o.type #[v,xv]).run P w=.ok v' w') (hs:a.eval s=v) (hx:a.eval x=xv) (hK:K (a.put o.dst v') w') :
  if Region.wanted o (yielded ops a.tmps)=true then Oper.wp P o a w K Q else E:=by
 rw [if_pos hw];unfold Oper.wp;simp [execOp,hop,resolve,invoke,builtin,hs,hx,hr,Result.andThen];exact hK
theorem own_ne{w:World}{B B' e e' k k' n n':Nat}{v v':Value}{xs xs':List Value}(h:w.ownsRow B e k v n xs)(h':w.ownsRow B' e' k' v' n' xs')(he:e≠e'):∀g,v.ownBlock=some g->v'.ownBlock≠some g:=by
 intro g hg hg';rcases h.2 with ⟨rfl,_⟩|⟨g1,cap,cur,rfl,_,hh,_⟩
 ·simp [Value.ownBlock] at hg
 ·rcases h'.2 with ⟨rfl,_⟩|⟨g2,cap2,cur2,rfl,_,hh2,_⟩
  ·simp [Value.ownBlock] at hg'
  ·simp only [Value.ownBlock,Option.some.injEq] at hg hg'
   subst hg;subst hg';rw [hh] at hh2;injection hh2 with hh2;injection hh2 with _ h3 _
   exact he h3
theorem ZiL(U j:Nat)(cs:Array Value)(F:Nat->Prop)(l:List Zbx)(v:Value)(w:World)(hb:w.heap[U]?=some (.cells cs 30 (0,0)))(hj:cs[j]?=some v)(hv:Yg w F (.cs l) v)(hFU:¬F U)(hF:∀k,F k->k<w.heap.size)(hl:l.length<=1000000000)(val:Str)(x:Zdx)(c:Zbx)
  (G:Nat->Prop) (hx:Zax w G x c) (hG:∀k,G k->k≠U/\¬F k/\k<w.heap.size) :
  Calls prog 69 #[.pointer (some ⟨U,j,none⟩),.string ⟨val.toArray⟩,.agg (ZjN x).toArray] w fun e w'=>e=.returned (.tuple #[])/\Zh w w' U cs j (fun k=>F k\/G k) (.cs (QE l val c)):=by
 obtain ⟨i0,hi0,hz0,hz1,hz2⟩:=info_parts ZkD;obtain ⟨xs,hxl,hown,hin,hcm⟩:=hv;rw [<-hxl] at hown;obtain ⟨oa,cap,rfl⟩:=ownsRow_form hown;have hbU:=Zg hb;have hB1:Below w.heap.size w (w.alloc (.cells #[.bool x.dash,.slice x.wa x.wn x.wc] 45)):=b_.alloc l_ _;have hB2:Below w.heap.size w (w.alloc (.cells #[.bool x.dash,.slice x.wa x.wn x.wc] 45)).drew:=hB1.trans (Zb ⟨1,rfl⟩);obtain ⟨w2,hw2⟩:=e_ ((w.alloc (.cells #[.bool x.dash,.slice x.wa x.wn x.wc] 45)).drew);have hbx:w2.heap[w.heap.size]?=some (.cells #[.bool x.dash,.slice x.wa x.wn x.wc] 45 (0,0)):=by rw [hw2];exact heap_alloc_new w _
 rw [<-hw2] at hB2;have hb2:=Za hb hB2;have hown2:=Zp hown hB2;have hF2:∀k,F k->k<w2.heap.size:=fun k hk=>Nat.lt_of_lt_of_le (hF k hk) hB2.size
 obtain ⟨oa2,cap2,w4,hrun,hb4,hf4,hown4,hF4,hU4,hfo⟩:=Qn (P:=prog) 25 25 45 i0 (.agg #[.bool false,.slice none 0 0]) 2 32 underlying25 hi0 hz0 hz1 hz2 n19_ d_ hb2 hown2 hin hFU o_ d_ [.bool x.dash,.slice x.wa x.wn x.wc] rfl (by intro u hu;simp at hu;rcases hu with rfl|rfl<;>rfl);rw [show w2.heap.size=w.heap.size+1 by rw [hw2];simp] at hrun;have HRUN:=h_ hrun;have hfw:Fr (fun k=>k=U\/(F k\/G k)) w w4:=(Fr.of_below hB2 _).trans (hf4.mono (fun i hi h=>h.imp id .inl));have hown5:w4.ownsRow 0 45 2 (.slice oa2 (xs.length+1) cap2) (l++[c]).length (Zy ZjN (xs++[x])):=by
  rw [ZH,YX,List.length_append,<-hxl];exact hown4
 have hkeep:∀{y:Zdx} {d:Zbx} {H:Nat->Prop},Zax w H y d->Zax w4 H y d:=fun {y d H} h=>by
  have h2:w2.ownsRow 0 9 1 (.slice y.wa y.wn y.wc) y.wn (Ze d.2):=Zp h.row hB2;exact ⟨h.dash,h.wn,ZJ h2 hfo (fun g hg _=>own_ne h2 hown2 d_ g hg),h.inF⟩
 have hc4:Yg w4 (fun g=>(Value.slice oa2 (xs.length+1) cap2).ownBlock=some g\/(F g\/G g)) (.cs (l++[c])) (.slice oa2 (xs.length+1) cap2):=by
  refine ⟨xs++[x],by simp [hxl],hown5,fun g hg=>.inl hg,fun i h1 h2=>?_⟩;by_cases hi:i<xs.length
  ·rw [List.getElem_append_left hi,List.getElem_append_left o_]
   exact (hkeep (hcm i hi o_)).mono fun g hg=>.inr (.inl hg)
  ·have e1:i=xs.length:=by simp at h1;omega
   subst e1;rw [List.getElem_append_right l_,List.getElem_append_right o_];simp only [Nat.sub_self,List.getElem_cons_zero,hxl];exact (hkeep hx).mono fun g hg=>.inr (.inr hg)
 have hF5:∀k,((Value.slice oa2 (xs.length+1) cap2).ownBlock=some k\/(F k\/G k))->((F k\/G k)\/w.heap.size<=k)/\k<w4.heap.size:=by
  rintro k (hk|hk|hk)
  ·refine ⟨?_,(hF4 k hk).2⟩
   rcases (hF4 k hk).1 with h|h
   ·exact .inl (.inl h)
   ·exact .inr (Nat.le_trans hB2.size h)
  ·exact ⟨.inl (.inl hk),Nat.lt_of_lt_of_le (hF k hk) hfw.size⟩
  ·exact ⟨.inl (.inr hk),Nat.lt_of_lt_of_le (hG k hk).2.2 hfw.size⟩
 have hU5:¬((Value.slice oa2 (xs.length+1) cap2).ownBlock=some U\/(F U\/G U)):=by
  rintro (h|h|h)
  ·exact hU4 h
  ·exact hFU h
  ·exact (hG U h).1 rfl
 have HP1:=h_ (Zh.of_store (j:=j) hb4 rfl hfw hc4 hF5 hU5);have hjs:j<cs.size:=(Array.getElem?_eq_some_iff.1 hj).1;have c1:w4.cell? ⟨U,j,none⟩=some (.slice oa xs.length cap):=by rw [(rd hb4).1];exact hj
 obtain ⟨_,f4,s4,_⟩:=rd hb4;have f40:=f4 j;have hb5:=heap_setCell hb4 j (.slice oa2 (xs.length+1) cap2);have HB5:=h_ hb5;have HP2:=h_ (Zh.of_store (j:=j) (F':=fun _=>False) (c:=.cs []) (v:=.slice none 0 0) hb5 set_set (hfw.setCell (p:=⟨U,j,none⟩) (fun _=>.inl rfl) _) ⟨[],rfl,World.ownsRow_nil _ _ _ _,(fun g hg=>by simp [Value.ownBlock] at hg),fun i h1 h2=>absurd h1 s_⟩ (fun k hk=>hk.elim) (fun e=>e));have HJ:=h_ hj;have HS:=h_ (And.intro (Za hb hB1) (heap_alloc_new w (.cells #[.bool x.dash,.slice x.wa x.wn x.wc] 45)));have HS2:=h_ (And.intro (Za hb2 ((Below.refl w2.heap.size w2).alloc l_ (.cells #[.bool x.dash,.slice x.wa x.wn x.wc] 45))) (Za hbx ((Below.refl w2.heap.size w2).alloc l_ (.cells #[.bool x.dash,.slice x.wa x.wn x.wc] 45))));have HBX4:=h_ (show w4.heap[w.heap.size]?=some (.cells #[.bool x.dash,.slice x.wa x.wn x.wc] 45 (0,0)) from by
  rw [hfo.block _ (Zg hbx) (fun e=>by have:=hF _ (hin _ e);omega)];exact hbx)
 have HB4:=h_ hb4;subst hw2;unfold ZjN;clear hxl hb hj hown hin hcm hFU hF hx hG hB1 hB2 hbx hb2 hown2 hF2 hrun hb4 hf4 hown4 hF4 hU4 hfo hfw hown5 hkeep hc4 hF5 hU5 f4 hb5;unfold QE;cases val with
 |nil=>
  rw [if_pos rfl];go_enter func69,ntmps69;go_wp2_with fail;refine Zi (S:=fun V=>V.heap[U]?=some (.cells cs 30 (0,0))/\V.heap[w.heap.size]?=some (.cells #[.bool x.dash,.slice x.wa x.wn x.wc] 45 (0,0))) 7 k_ k_ HS.out (fun hHeld=>?_);refine u_ ?_;(iterate 5 refine dN_ 0 (gT_ rfl) (fun W hW=>by have q0:=((rd hW.1).1 j).trans HJ.out;obtain ⟨q1,q2⟩:=YB hW.2;clear hW;go_simp;rfl) (u_ ?_));refine Zq (i:=5) (gT_ rfl) k_ k_ (fun K hK=>?_);clear hHeld;rw [if_pos n19_];go_simp;refine hK.out _ _ HS2.out (fun hHeld=>?_);clear hK K;refine u_ ?_;refine Zq (i:=6) (gT_ rfl) k_ k_ (fun K hK=>?_);clear hHeld;refine Yk n19_ (.tmp 9) (.tmp 11) 25 n19_ HRUN.out n19_ n19_ ?_;refine hK.out _ _ ⟨HB4.out,HBX4.out⟩ (fun hHeld=>?_);clear hK K;refine u_ ?_;refine Zr k_ ?_;clear hHeld;go_wp2_with fail;obtain ⟨c5,f5,s5,_⟩:=rd HB5.out;have c50:=c5 j;have f50:=f5 j;rw [Array.getElem?_setIfInBounds_self_of_lt hjs] at c50;clear c5 f5;go_wp2_with fail;go_end0;exact ⟨rfl,HP2.out⟩
 |cons a t=>
  rw [if_neg s_];go_enter func69,ntmps69;go_wp2_with fail;refine Zi (S:=fun V=>V.heap[U]?=some (.cells cs 30 (0,0))/\V.heap[w.heap.size]?=some (.cells #[.bool x.dash,.slice x.wa x.wn x.wc] 45 (0,0))) 7 k_ k_ HS.out (fun hHeld=>?_);refine u_ ?_;(iterate 5 refine dN_ 0 (gT_ rfl) (fun W hW=>by have q0:=((rd hW.1).1 j).trans HJ.out;obtain ⟨q1,q2⟩:=YB hW.2;clear hW;go_simp;rfl) (u_ ?_));refine Zq (i:=5) (gT_ rfl) k_ k_ (fun K hK=>?_);clear hHeld;rw [if_pos n19_];go_simp;refine hK.out _ _ HS2.out (fun hHeld=>?_);clear hK K;refine u_ ?_;refine Zq (i:=6) (gT_ rfl) k_ k_ (fun K hK=>?_);clear hHeld;refine Yk n19_ (.tmp 9) (.tmp 11) 25 n19_ HRUN.out n19_ n19_ ?_;refine hK.out _ _ ⟨HB4.out,HBX4.out⟩ (fun hHeld=>?_);clear hK K;refine u_ ?_;refine Zr k_ ?_;clear hHeld;go_wp2_with fail;go_end0;exact ⟨rfl,HP1.out⟩
theorem m65_{p:Prop}(h:p:=by
  split
  ·rename_i hw;rw [if_pos hw] at h2;exact .inl h2
  ·rename_i hw;rw [if_neg hw] at h2;exact h2):p:=h
section
variable {P:Program} {ops:Array Oper} {Q:Exit->Act->World->Prop} {md:Region.Mode} {S:World->Prop}
theorem Zcu{n i j:Nat}{oi oj:Oper}{f:Nat}{b:Array Bool}{a:Act}{w:World}(hi:ops[i]?=some oi)(hj:ops[j]?=some oj)(hin:decide (i<n)=true)(hjn:decide (j<n)=true)(hr:Region.ready md ops b=[i,j])
  (h1:∀K:Act->World->Prop,Shut (∀a' w',S w'->(S w'->Zba P md ops Q S n f (b.setIfInBounds i true) a' w')->K a' w')->if Region.wanted oi (yielded ops a.tmps)=true then Oper.wp P oi a w K Q else K (a.put oi.dst undef) w)
  (h2:∀K:Act->World->Prop,Shut (∀a' w',S w'->(S w'->Zba P md ops Q S n f (b.setIfInBounds j true) a' w')->K a' w')->if Region.wanted oj (yielded ops a.tmps)=true then Oper.wp P oj a w K Q else K (a.put oj.dst undef) w):Zba P md ops Q S n (f+1) b a w:=by
 have hin:=of_decide_eq_true hin;have hjn:=of_decide_eq_true hjn;intro inv;have hm1:i∈Region.ready md ops b:=by rw [hr];simp
 have hm2:j∈Region.ready md ops b:=by rw [hr];simp
 refine ⟨by rw [hr];simp,fun k hk=>?_⟩;rw [hr] at hk;obtain rfl|rfl:k=i\/k=j:=by simpa using hk
 ·refine ⟨hin,?_⟩
  unfold wpOp;simp only [hi];have h2:=h1 (fun a' w'=>S w'/\ZeR P md ops Q S n (ZmP P md ops Q n) f (b.setIfInBounds k true) a' w') (fun a' w' hS q=>⟨hS,q hS (inv.set hm1 hin)⟩);exact m65_
 ·refine ⟨hjn,?_⟩
  unfold wpOp;simp only [hj];have h2:=h2 (fun a' w'=>S w'/\ZeR P md ops Q S n (ZmP P md ops Q n) f (b.setIfInBounds k true) a' w') (fun a' w' hS q=>⟨hS,q hS (inv.set hm2 hjn)⟩);exact m65_
end
theorem ZjX{P:Program}{w:World}(t ty e:TypeId)(i:TypeInfo)(z:Value)(size bytes:Nat)(ht:P.underlying t=some (.slice e))(hi:P.info? e=some i)(hz:i.zero=some z)
  (hsize:i.size=size) (hby:i.bytes=bytes) (hzs:z.cells.size=size) (hsz:0<size) {U:Nat} {cs:Array Value} {F:Nat->Prop} {v:Value} {n:Nat} {xs:List Value}
  (hb:w.heap[U]?=some (.cells cs 30 (0,0))) (hown:w.ownsRow 0 e size v n xs) (hin:∀g,v.ownBlock=some g->F g) (hFU:¬F U) (hn:n<=2000000000) (hby2:bytes<=64) (A:Nat) (news:List Value) (hl:news.length=size) (h1:∀u∈news,u.oneCell'=true)
  (hc:∀j u,news[j]?=some u->w.cell? ⟨A,j,none⟩=some u) :
  ∃oa cap w4,(Builtin.append_ #[t,t] ty #[v,.slice (some ⟨A,0,none⟩) 1 1]).run P w=.ok (.slice oa (n+1) cap) w4/\w4.heap[U]?=some (.cells cs 30 (0,0))/\Fr (fun k=>k=U\/F k) w w4/\
   w4.ownsRow 0 e size (.slice oa (n+1) cap) (n+1) (xs++news)/\(∀g,(Value.slice oa (n+1) cap).ownBlock=some g->(F g\/w.heap.size<=g)/\g<w4.heap.size)/\(Value.slice oa (n+1) cap).ownBlock≠some U/\Fr (fun k=>v.ownBlock=some k) w w4:=by
 obtain ⟨v',w4,hrun,hown4,hgrow,hwh⟩:=Zht (P:=P) 0 t ty e i z size bytes ht hi hz hsize hby hzs hsz v n xs hown (some ⟨A,0,none⟩) 1 1 news (by rw [hl,Nat.one_mul]) (fun j u hu=>⟨A,0,rfl,by rw [Nat.zero_add];exact hc j u hu⟩) h1 n20_ (by
  have:=Nat.mul_le_mul (show n+1<=2000000001 by omega) hby2
  omega) (Nat.zero_le _)
 have hbU:=Zg hb;have hne:some U≠v.ownBlock:=fun e=>hFU (hin U e.symm)
 obtain ⟨oa,cap,rfl⟩:=ownsRow_form hown4;refine ⟨oa,cap,w4,hrun,by rw [hgrow.block U hbU hne];exact hb,(Fr.refl _ _).grown hgrow (fun k hk _=>.inr (hin k hk)),hown4,fun g hg=>⟨?_,(hown4.lt g hg).2⟩,fun e=>?_,(Fr.refl _ _).grown hgrow (fun k hk _=>hk)⟩
 ·rcases hwh with h|h
  ·exact .inl (hin g (h ▸ hg))
  ·rw [h] at hg;injection hg with hg;right;omega
 ·rcases hwh with h|h
  ·exact hFU (hin U (h ▸ e))
  ·rw [h] at e;injection e with e;omega
theorem ZB.frM{α:Type}{enc:α->List Value}{k:Nat}{w w':World}{M:Nat->Prop}{oa:Option Addr}{l:List α}(h:ZB enc k w oa l)(hf:Fr M w w')(hM:∀b o,oa=some ⟨b,o,none⟩->¬M b):ZB enc k w' oa l:=by
 intro i hi;obtain ⟨b,o,e,hlt,hc⟩:=h i hi;exact ⟨b,o,e,Nat.lt_of_lt_of_le hlt hf.size,fun j v hv=>(World.cell?_of_block (hf.block b hlt (hM b o e))).trans (hc j v hv)⟩
theorem m66_{p:Prop}(h:p:=by
  have hKs:(K.length:Int)<(l.length:Int):=o_;clear hB2 hx;go_wp2_with fail;refine HC.out.mono ?_;rintro e w3 ⟨rfl,hb3⟩;have H7:=Za h7.out hb3;obtain ⟨q0,q1⟩:=YB H7;have HB3:=h_ (Below.more HB2.out hb3);have HM3:=h_ (HM.out.below HB3.out);have HF3:=h_ (HFr.out.trans (Fr.of_below HB3.out _));clear hb3 H7 m1 m2 m3 m4 d0 d1;cases hpx:p x with
  |true=>
   have HS2:=h_ (show (l.take (j+1)).filter (fun x=>!p x)=K by rw [HSN.out,hpx];simp);go_wp2_with fail;go_roundg (gk-1)
   case measure=>omega
   case rel=>exact ⟨j+1,K,rfl,n14_,o_,o_,o_,HS2,HM3.out.next,HF3⟩
  |false=>
   have HS2:=h_ (show (l.take (j+1)).filter (fun x=>!p x)=K++[x] by rw [HSN.out,hpx];simp);obtain ⟨m1,m2,m3,m4⟩:=HM3.out.bounds;have f0:=m2 (K.length*2);have f1:=m2 (K.length*2+1);obtain ⟨y0,e0⟩:=Option.isSome_iff_exists.1 (m1 (K.length*2) n113_);obtain ⟨y1,e1⟩:=Option.isSome_iff_exists.1 (m1 (K.length*2+1) n113_);clear m1 m2;go_wp2_with fail;go_roundg (gk-1)
   case measure=>omega
   case rel=>
    refine ⟨j+1,K++[x],s_,n14_,o_,n2_,o_,HS2,?_,?_⟩
    ·exact HM3.out.put hk o_ n113_ x _ _ rfl
    ·exact (HF3.out.setCell (p:=⟨G,K.length*2,none⟩) (fun _=>rfl) _).setCell (p:=⟨G,K.length*2+1,none⟩) (fun _=>rfl) _):p:=h
theorem m67_{p:Prop}(h:p:=by rw [hAB,List.take_append,List.take_of_length_le o_,show A.length+1-A.length=1 by omega];simp only [List.take_succ_cons,List.take_zero,List.filter_append];rw [List.filter_eq_self.2 (fun x hx=>by rw [hA x hx];rfl)];simp [hpy]):p:=h
theorem m68_{p:Prop}(h:p:=by
  go_wp2_with fail;go_loopg [8] 1 (fun f i wr=>i=.int .i64 0/\wr=w/\0<f)
  case atStart=>exact ⟨rfl,rfl,o_⟩
  case round=>
   obtain ⟨rfl,rfl,hfu⟩:=hrel;go_wp2_with fail;go_ret;exact ⟨rfl,rfl⟩):p:=h
theorem m69_{p:Prop}(h:p:=by go_wp2_with fail;refine HI.out.mono ?_;rintro e w1 ⟨rfl,hb1⟩;have HB1:=h_ hb1;clear hb1;go_wp2_with fail;go_ret;exact ⟨_,rfl,Zp HOW.out HB1.out,rfl,Fr.of_below HB1.out _⟩):p:=h
theorem m70_{p:Prop}(h:p:=by refine ⟨cur0,hg,rfl,?_,fun _ _=>rfl⟩;have h5:=congrArg (List.take (A.length*2)) ht;rw [List.take_take,Nat.min_eq_left o_] at h5;rw [h5,hAB,ZH,List.take_left' (Xx hk A)]):p:=h
theorem m71_{p:Prop}(h:p:=by clear hcl m1 m2 m3;go_wp2_with fail;rw [HCL.out];simp only [Result.andThen];rw [Oper.upon_value];go_wp2_with fail;go_ret;rw [HK.out];exact ⟨_,rfl,HOW.out,rfl,HFF.out⟩):p:=h
theorem m72_{p:Prop}(h:p:=by go_wp2_with fail;refine HI.out.mono ?_;rintro e w1 ⟨rfl,rfl⟩;go_wp2_with fail;go_ret;exact ⟨_,rfl,World.ownsRow_nil _ _ _ _,rfl,Fr.refl _ _⟩):p:=h
theorem ZcN{P:Program}(w:World)(t e ty:TypeId)(z:Value)(ht:P.underlying t=some (.slice e))(hv:∀w,(zeroValue e).run P w=.ok z w)(h1:∀v∈z.cells.toList,v.oneCell'=true)(hzp:0<z.cells.size)(b o n c:Nat)(hn:0<n)
  (hc:∀j,j<n*z.cells.size->(w.cell? ⟨b,o+j,none⟩).isSome=true) (hf:∀j,w.frozen? ⟨b,o+j,none⟩=false) :
  (Builtin.clear_ #[t] ty #[.slice (some ⟨b,o,none⟩) n c]).run P w=.ok (.tuple #[]) (w.setCells b o (Builtin.zeroCells z.cells n).toList):=by
 have hst:=run_storeCells_cells (P:=P) b o (Builtin.zeroCells z.cells n).toList 0 w (by
  intro j hj;simp only [Nat.add_zero];exact hc j (by rw [Array.length_toList,size_zeroCells] at hj;exact hj)) (by intro j _;simp [hf]) (by
  intro v hv';simp only [Builtin.zeroCells,Array.toList_map,List.mem_map] at hv';obtain ⟨i,_,rfl⟩:=hv';have hlt:=Nat.mod_lt i hzp;rw [getElem!_pos z.cells _ hlt];exact h1 _ s_)
 simp only [Nat.add_zero] at hst;obtain ⟨m,rfl⟩:∃m,n=m+1:=⟨n-1,o_⟩;simp [Builtin.clear_,run_underlying ht,hv,hst]
section
variable {α:Type}
theorem Zd5(p:α->Bool)(d:α):∀(l:List α) (i:Nat),(Lib.idxByFrom (fun _ y=>p y) d l i = -1/\∀x∈l,p x=false)\/∃A x B,l=A++x::B/\Lib.idxByFrom (fun _ y=>p y) d l i=((i+A.length:Nat):Int)/\p x=true/\∀y∈A,p y=false
 |[],i=>.inl ⟨rfl,fun x h=>by cases h⟩
 |a::r,i=>by
  cases h:p a with
  |true=>exact .inr ⟨[],a,r,rfl,by simp [Lib.idxByFrom,h],h,fun y hy=>by cases hy⟩
  |false=>
   rcases Zd5 p d r (i+1) with ⟨e,ha⟩|⟨A,x,B,rfl,e,hp,ha⟩
   ·refine .inl ⟨by simp [Lib.idxByFrom,h,e],fun x hx=>?_⟩
    rcases List.mem_cons.1 hx with rfl|hx
    ·exact h
    ·exact ha x hx
   ·refine .inr ⟨a::A,x,B,rfl,?_,hp,fun y hy=>?_⟩
    ·simp only [Lib.idxByFrom,h]
     rw [show (if false=true then (i:Int) else Lib.idxByFrom (fun _ y=>p y) d (A++x::B) (i+1))=Lib.idxByFrom (fun _ y=>p y) d (A++x::B) (i+1) from rfl,e];congr 1;simp;omega
    ·rcases List.mem_cons.1 hy with rfl|hy
     ·exact h
     ·exact ha y hy
theorem ZeY(p:α->Bool)(l:List α)(j:Nat)(h:j<l.length):(l.take (j+1)).filter p=(l.take j).filter p++(if p l[j]=true then [l[j]] else []):=by
 rw [List.take_succ_eq_append_getElem h,List.filter_append];congr 1;cases hp:p l[j]<;>simp [hp]
def Mid(enc:α->List Value)(w:World)(g:Nat)(T:TypeId)(cur0:Array Value)(K:List α)(j:Nat):Prop:=
 ∃cur,w.heap[g]?=some (.cells cur T (0,0))/\cur.size=cur0.size/\cur.toList.take (K.length*2)=Zy enc K/\∀m,j*2<=m->cur[m]?=cur0[m]?
theorem Mid.below{enc:α->List Value}{w w':World}{g:Nat}{T:TypeId}{cur0:Array Value}{K:List α}{j:Nat}(h:Mid enc w g T cur0 K j)(hb:Below w.heap.size w w'):Mid enc w' g T cur0 K j:=by
 obtain ⟨cur,a,b⟩:=h;exact ⟨cur,Za a hb,b⟩
theorem Mid.next{enc:α->List Value}{w:World}{g:Nat}{T:TypeId}{cur0:Array Value}{K:List α}{j:Nat}(h:Mid enc w g T cur0 K j):Mid enc w g T cur0 K (j+1):=by
 obtain ⟨cur,a,b,c,d⟩:=h;exact ⟨cur,a,b,c,fun m hm=>d m o_⟩
theorem Zpn(l:List Value)(n:Nat)(x y:Value)(h:n+2<=l.length):((l.set n x).set (n+1) y).take (n+2)=l.take n++[x,y]:=by
 apply List.ext_getElem?;intro i;rw [List.getElem?_take];by_cases hi:i<n
 ·rw [if_pos o_,List.getElem?_append_left n46_,List.getElem?_set_ne o_,List.getElem?_set_ne o_,List.getElem?_take_of_lt hi]
 ·rw [List.getElem?_append_right n46_,List.length_take,Nat.min_eq_left o_]
  by_cases h0:i=n
  ·subst h0
   rw [if_pos o_,List.getElem?_set_ne o_,List.getElem?_set_self o_];simp
  ·by_cases h1:i=n+1
   ·subst h1
    rw [if_pos o_,List.getElem?_set_self n2_];rw [show n+1-n=1 by omega];rfl
   ·rw [if_neg o_]
    rw [List.getElem?_eq_none n2_]
theorem Mid.put{enc:α->List Value}(hk:∀x,(enc x).length=2){w:World}{g:Nat}{T:TypeId}{cur0:Array Value}{K:List α}{j:Nat}(h:Mid enc w g T cur0 K j)(hj:K.length<j)(hs:j*2+2<=cur0.size)(x:α)(a b:Value)(hx:enc x=[a,b]) :
  Mid enc ((w.setCell ⟨g,K.length*2,none⟩ a).setCell ⟨g,K.length*2+1,none⟩ b) g T cur0 (K++[x]) (j+1):=by
 obtain ⟨cur,e1,e2,e3,e4⟩:=h;refine ⟨(cur.setIfInBounds (K.length*2) a).setIfInBounds (K.length*2+1) b,heap_setCell (heap_setCell e1 _ _) _ _,by simpa using e2,?_,fun m hm=>?_⟩
 ·rw [Array.toList_setIfInBounds,Array.toList_setIfInBounds,ZH,YX,hx,<-e3,List.length_append,List.length_singleton,Nat.add_mul]
  exact Zpn _ _ _ _ (by have:=@Array.length_toList _ cur;omega)
 ·rw [Array.getElem?_setIfInBounds_ne o_,Array.getElem?_setIfInBounds_ne o_]
  exact e4 m o_
theorem Mid.cells{enc:α->List Value}(hk:∀x,(enc x).length=2){w:World}{g:Nat}{T:TypeId}{cur0:Array Value}{K l:List α}{j:Nat}(h:Mid enc w g T cur0 K j)(h0:cur0.toList.take (l.length*2)=Zy enc l)(hj:j<l.length)(a b:Value)(hx:enc l[j]=[a,b]) :
  w.cell? ⟨g,j*2,none⟩=some a/\w.cell? ⟨g,j*2+1,none⟩=some b:=by
 obtain ⟨cur,e1,e2,e3,e4⟩:=h;have hget:∀r,r<2->cur0[j*2+r]?=(enc l[j])[r]?:=by
  intro r hr;have h1:=congrArg (fun q=>q[j*2+r]?) h0;simp only [List.getElem?_take] at h1;rw [if_pos o_,ZcA hk l j r hj hr] at h1;simpa using h1
 have c0:=hget 0 d_;have c1:=hget 1 d_;rw [hx] at c0 c1;rw [(rd e1).1,(rd e1).1,e4 _ l_,e4 _ o_];exact ⟨by simpa using c0,by simpa using c1⟩
theorem Mid.bounds{enc:α->List Value}{w:World}{g:Nat}{T:TypeId}{cur0:Array Value}{K:List α}{j:Nat}(h:Mid enc w g T cur0 K j):(∀m,m<cur0.size->(w.cell? ⟨g,m,none⟩).isSome=true)/\(∀m,w.frozen? ⟨g,m,none⟩=false)/\w.shape? g=some (T,cur0.size)/\g<w.heap.size:=by
 obtain ⟨cur,e1,e2,e3,e4⟩:=h;obtain ⟨a,b,c,d⟩:=rd e1;exact ⟨fun m hm=>by rw [a,Array.getElem?_eq_getElem o_];rfl,b,by rw [c,e2],d⟩
theorem Mid.own{enc:α->List Value}{w:World}{g:Nat}{T:TypeId}{cur0:Array Value}{K:List α}{j n cap:Nat}(h:Mid enc w g T cur0 K j)(hk:∀x,(enc x).length=2)(hn:K.length<=n)(hnc:n<=cap)(hcm:cap<=maxLen)(hs:cur0.size=cap*2)(zs:List Value)(hz:zs.length=(n-K.length)*2) :
  (w.setCells g (K.length*2) zs).ownsRow 0 T 2 (.slice (some ⟨g,0,none⟩) K.length cap) K.length (Zy enc K):=by
 obtain ⟨cur,e1,e2,e3,e4⟩:=h;refine ⟨Xx hk K,.inr ⟨g,cap,_,rfl,Nat.zero_le _,ZaQ zs (K.length*2) e1 o_,o_,hcm,?_,?_⟩⟩
 ·simp;omega
 ·simp only [List.append_assoc]
  rw [List.take_left' (by have:=@Array.length_toList _ cur;rw [List.length_take];omega)];exact e3
end
theorem Zjo(g:FuncId)(lb:Array Value)(w:World):Calls prog 159 #[.slice none 0 0,.func (.func g) #[] lb] w fun e w'=>e=.returned (.int .i64 (-1))/\w'=w:=by
 go_enter func159,ntmps159;exact m68_
theorem Zfa(v:Value)(l:List (Str×Str))(g:FuncId)(lb:Array Value)(eg:∀args w,(callFunc g args).run prog w=.ok (.enter g args) w)(p:Str×Str->Bool)(w:World)(hown:w.ownsRow 0 78 2 v l.length (Zy Xj l))(hl:l.length<=1000000000)
  (hp:∀(W:World) (x:Str×Str),Fr (fun k=>v.ownBlock=some k) w W->Calls prog g (#[.agg (Xj x).toArray]++lb) W fun e w'=>e=.returned (.bool (p x))/\Below W.heap.size W w') :
  Calls prog 111 #[v,.func (.func g) #[] lb] w fun e w'=>∃v',e=.returned v'/\w'.ownsRow 0 78 2 v' (l.filter fun x=>!p x).length (Zy Xj (l.filter fun x=>!p x))/\v'.ownBlock=v.ownBlock/\Fr (fun k=>v.ownBlock=some k) w w':=by
 have hk:∀x,(Xj x).length=2:=fun _=>rfl
 have EG:=h_ eg;clear eg;rcases hown.2 with ⟨rfl,h0⟩|⟨G,cap,cur0,rfl,-,hg,hnc,hcm,hcs,ht⟩
 ·obtain rfl:l=[]:=List.eq_nil_of_length_eq_zero h0
  have HI:=h_ (Zjo g lb w);clear hp hown;go_enter func111,ntmps111;exact m72_
 ·have HP:=h_ hp
  have hgl:=Zg hg;have HI:=h_ (AnyQ.slices_IndexFunc Tryz.findPair 2 isAgg78 sizeOf78 Xj hk p g lb EG.out G 0 l.length cap l w (fun W x hW=>(hp W x (Fr.of_below hW _)).mono fun e w' ⟨a,q⟩=>⟨a,Below.more hW q⟩) l_ o_ hgl (by
   intro j hj i u hu;obtain ⟨b3,o3,e3,_,hcc⟩:=ZB.of_own (enc:=Xj) (k:=2) hk hown j hj;injection e3 with e3
   injection e3 with e4 e5 e6
   subst e4;subst e5;rw [getElem!_pos l j hj] at hu;exact hcc i u hu))
  rw [List.take_length] at HI;have hM0:Mid Xj w G 78 cur0 [] 0:=⟨cur0,hg,rfl,by simp [Zy],fun _ _=>rfl⟩;have HM0:=h_ hM0;have HT:=h_ ht;have HCS:=h_ hcs;rcases Zd5 p default l 0 with ⟨h1,h2⟩|⟨A,y,B,hAB,h1,hpy,hA⟩
  ·have hf:(l.filter fun x=>!p x)=l:=List.filter_eq_self.2 fun x hx=>by rw [h2 x hx];rfl
   rw [hf];have HOW:=h_ hown;rw [show Lib.idxBy (fun _ y=>p y) l default = -1 from h1] at HI;clear hp hown h1 h2 hf hg ht hcs hM0 hgl;go_enter func111,ntmps111;exact m69_
  ·have hi1:Lib.idxBy (fun _ y=>p y) l default=(A.length:Int):=by rw [show Lib.idxBy (fun _ y=>p y) l default=Lib.idxByFrom (fun _ y=>p y) default l 0 from rfl,h1];simp
   have hAl:A.length<l.length:=by rw [hAB];simp
   have hfA:(l.take (A.length+1)).filter (fun x=>!p x)=A:=by
    exact m67_
   have hMA:Mid Xj w G 78 cur0 A (A.length+1):=by
    exact m70_
   have HMA:=h_ hMA;have HFA:=h_ hfA;have hne1:((A.length:Int)==-1)=false:=n3_;rw [hi1] at HI;clear hp hown h1 hg ht hcs hM0 HM0 hgl hAB hpy hA hi1 hfA hMA;have EGo:=EG.out;go_enter func111,ntmps111;go_wp2_with fail;refine HI.out.mono ?_;rintro e w1 ⟨rfl,hb1⟩;have HF1:=h_ (show Fr (fun k=>(Value.slice (some ⟨G,0,none⟩) l.length cap).ownBlock=some k) w w1 from Fr.of_below hb1 _);have HM1:=h_ (HMA.out.below hb1);clear hb1 HMA HI;go_wp2_with fail;go_loopg [5,6] (l.length+1) (fun f vi vj wr=>∃(j:Nat) (K:List (Str×Str)),vi=.int .i64 K.length/\vj=.int .i64 j/\j<=l.length/\K.length<j/\l.length-j<f/\Hid ((l.take j).filter (fun x=>!p x)=K)/\Hid (Mid Xj wr G 78 cur0 K j)/\Hid (Fr (fun k=>(Value.slice (some ⟨G,0,none⟩) l.length cap).ownBlock=some k) w wr))
   case atStart=>exact ⟨A.length+1,A,rfl,n14_,o_,o_,o_,HFA,HM1,HF1⟩
   case round=>
    obtain ⟨j,K,rfl,rfl,hj,hKj,hfu,HK,HM,HFr⟩:=hrel;clear HM1 HF1 HFA;by_cases hlt:j<l.length
    ·obtain ⟨x,hx⟩:=e_ (l[j])
     obtain ⟨d0,d1⟩:=HM.out.cells hk HT.out hlt (.string ⟨x.1.toArray⟩) (.string ⟨x.2.toArray⟩) (by rw [<-hx];rfl);obtain ⟨m1,m2,m3,m4⟩:=HM.out.bounds;have hlj:(j:Int)<(l.length:Int):=o_;have hB2:Below wr.heap.size wr (wr.alloc (.cells #[.string ⟨x.1.toArray⟩,.string ⟨x.2.toArray⟩] 78)):=b_.alloc l_ _;have HB2:=h_ hB2;have HC:=h_ (HP.out (wr.alloc (.cells #[.string ⟨x.1.toArray⟩,.string ⟨x.2.toArray⟩] 78)) x (HFr.out.trans (Fr.of_below hB2 _)));have HSN:=h_ (show (l.take (j+1)).filter (fun x=>!p x)=K++(if (!p x)=true then [x] else []) by rw [ZeY _ l j hlt,HK.out,hx]);have h7:=h_ (heap_alloc_new wr (.cells #[.string ⟨x.1.toArray⟩,.string ⟨x.2.toArray⟩] 78));exact m66_
    ·have hk3:j=l.length:=o_
     subst hk3;rw [List.take_of_length_le l_] at HK;obtain ⟨m1,m2,m3,m4⟩:=HM.out.bounds;have hkn:(K.length:Int)<=(l.length:Int):=o_;have hcl:=ZcN (P:=prog) wr 27 78 0 (.agg #[.string ⟨#[]⟩,.string ⟨#[]⟩]) underlying27 (fun w=>by kernel_rfl) (by intro v hv;simp [Value.cells] at hv;rcases hv with rfl|rfl<;>rfl) d_ G (K.length*2) (l.length-K.length) (cap-K.length) o_ (fun i hi=>m1 _ (by have:(Value.agg #[.string ⟨#[]⟩,.string ⟨#[]⟩]).cells.size=2:=rfl;rw [this] at hi;rw [HCS.out];omega)) (fun i=>m2 _);have HCL:=h_ hcl;have HOW:=h_ (HM.out.own hk o_ hnc hcm HCS.out (Builtin.zeroCells (Value.agg #[.string ⟨#[]⟩,.string ⟨#[]⟩]).cells (l.length-K.length)).toList (by rw [Array.length_toList,size_zeroCells];rfl));have HFF:=h_ (Fr.setCells (M:=fun k=>(Value.slice (some ⟨G,0,none⟩) l.length cap).ownBlock=some k) (b:=G) (fun _=>rfl) (Builtin.zeroCells (Value.agg #[.string ⟨#[]⟩,.string ⟨#[]⟩]).cells (l.length-K.length)).toList (K.length*2) HFr.out);exact m71_
theorem ZlM(g:FuncId)(lb:Array Value)(w:World):Calls prog 164 #[.slice none 0 0,.func (.func g) #[] lb] w fun e w'=>e=.returned (.int .i64 (-1))/\w'=w:=by
 go_enter func164,ntmps164;exact m68_
theorem ZlK(v:Value)(l:List (Int×Str))(g:FuncId)(lb:Array Value)(eg:∀args w,(callFunc g args).run prog w=.ok (.enter g args) w)(p:Int×Str->Bool)(w:World)(hown:w.ownsRow 0 43 2 v l.length (Zy Jg l))(hl:l.length<=1000000000)
  (hp:∀(W:World) (x:Int×Str),Fr (fun k=>v.ownBlock=some k) w W->Calls prog g (#[.agg (Jg x).toArray]++lb) W fun e w'=>e=.returned (.bool (p x))/\Below W.heap.size W w') :
  Calls prog 121 #[v,.func (.func g) #[] lb] w fun e w'=>∃v',e=.returned v'/\w'.ownsRow 0 43 2 v' (l.filter fun x=>!p x).length (Zy Jg (l.filter fun x=>!p x))/\v'.ownBlock=v.ownBlock/\Fr (fun k=>v.ownBlock=some k) w w':=by
 have hk:∀x,(Jg x).length=2:=fun _=>rfl
 have EG:=h_ eg;clear eg;rcases hown.2 with ⟨rfl,h0⟩|⟨G,cap,cur0,rfl,-,hg,hnc,hcm,hcs,ht⟩
 ·obtain rfl:l=[]:=List.eq_nil_of_length_eq_zero h0
  have HI:=h_ (ZlM g lb w);clear hp hown;go_enter func121,ntmps121;exact m72_
 ·have HP:=h_ hp
  have hgl:=Zg hg;have HI:=h_ (AnyQ.slices_IndexFunc Tryz.findRel 2 isAgg43 sizeOf43 Jg hk p g lb EG.out G 0 l.length cap l w (fun W x hW=>(hp W x (Fr.of_below hW _)).mono fun e w' ⟨a,q⟩=>⟨a,Below.more hW q⟩) l_ o_ hgl (by
   intro j hj i u hu;obtain ⟨b3,o3,e3,_,hcc⟩:=ZB.of_own (enc:=Jg) (k:=2) hk hown j hj;injection e3 with e3
   injection e3 with e4 e5 e6
   subst e4;subst e5;rw [getElem!_pos l j hj] at hu;exact hcc i u hu))
  rw [List.take_length] at HI;have hM0:Mid Jg w G 43 cur0 [] 0:=⟨cur0,hg,rfl,by simp [Zy],fun _ _=>rfl⟩;have HM0:=h_ hM0;have HT:=h_ ht;have HCS:=h_ hcs;rcases Zd5 p default l 0 with ⟨h1,h2⟩|⟨A,y,B,hAB,h1,hpy,hA⟩
  ·have hf:(l.filter fun x=>!p x)=l:=List.filter_eq_self.2 fun x hx=>by rw [h2 x hx];rfl
   rw [hf];have HOW:=h_ hown;rw [show Lib.idxBy (fun _ y=>p y) l default = -1 from h1] at HI;clear hp hown h1 h2 hf hg ht hcs hM0 hgl;go_enter func121,ntmps121;exact m69_
  ·have hi1:Lib.idxBy (fun _ y=>p y) l default=(A.length:Int):=by rw [show Lib.idxBy (fun _ y=>p y) l default=Lib.idxByFrom (fun _ y=>p y) default l 0 from rfl,h1];simp
   have hAl:A.length<l.length:=by rw [hAB];simp
   have hfA:(l.take (A.length+1)).filter (fun x=>!p x)=A:=by
    exact m67_
   have hMA:Mid Jg w G 43 cur0 A (A.length+1):=by
    exact m70_
   have HMA:=h_ hMA;have HFA:=h_ hfA;have hne1:((A.length:Int)==-1)=false:=n3_;rw [hi1] at HI;clear hp hown h1 hg ht hcs hM0 HM0 hgl hAB hpy hA hi1 hfA hMA;have EGo:=EG.out;go_enter func121,ntmps121;go_wp2_with fail;refine HI.out.mono ?_;rintro e w1 ⟨rfl,hb1⟩;have HF1:=h_ (show Fr (fun k=>(Value.slice (some ⟨G,0,none⟩) l.length cap).ownBlock=some k) w w1 from Fr.of_below hb1 _);have HM1:=h_ (HMA.out.below hb1);clear hb1 HMA HI;go_wp2_with fail;go_loopg [5,6] (l.length+1) (fun f vi vj wr=>∃(j:Nat) (K:List (Int×Str)),vi=.int .i64 K.length/\vj=.int .i64 j/\j<=l.length/\K.length<j/\l.length-j<f/\Hid ((l.take j).filter (fun x=>!p x)=K)/\Hid (Mid Jg wr G 43 cur0 K j)/\Hid (Fr (fun k=>(Value.slice (some ⟨G,0,none⟩) l.length cap).ownBlock=some k) w wr))
   case atStart=>exact ⟨A.length+1,A,rfl,n14_,o_,o_,o_,HFA,HM1,HF1⟩
   case round=>
    obtain ⟨j,K,rfl,rfl,hj,hKj,hfu,HK,HM,HFr⟩:=hrel;clear HM1 HF1 HFA;by_cases hlt:j<l.length
    ·obtain ⟨x,hx⟩:=e_ (l[j])
     obtain ⟨d0,d1⟩:=HM.out.cells hk HT.out hlt (.int .i64 x.1) (.string ⟨x.2.toArray⟩) (by rw [<-hx];rfl);obtain ⟨m1,m2,m3,m4⟩:=HM.out.bounds;have hlj:(j:Int)<(l.length:Int):=o_;have hB2:Below wr.heap.size wr (wr.alloc (.cells #[.int .i64 x.1,.string ⟨x.2.toArray⟩] 43)):=b_.alloc l_ _;have HB2:=h_ hB2;have HC:=h_ (HP.out (wr.alloc (.cells #[.int .i64 x.1,.string ⟨x.2.toArray⟩] 43)) x (HFr.out.trans (Fr.of_below hB2 _)));have HSN:=h_ (show (l.take (j+1)).filter (fun x=>!p x)=K++(if (!p x)=true then [x] else []) by rw [ZeY _ l j hlt,HK.out,hx]);have h7:=h_ (heap_alloc_new wr (.cells #[.int .i64 x.1,.string ⟨x.2.toArray⟩] 43));exact m66_
    ·have hk3:j=l.length:=o_
     subst hk3;rw [List.take_of_length_le l_] at HK;obtain ⟨m1,m2,m3,m4⟩:=HM.out.bounds;have hkn:(K.length:Int)<=(l.length:Int):=o_;have hcl:=ZcN (P:=prog) wr 24 43 0 (.agg #[.int .i64 0,.string ⟨#[]⟩]) underlying24 (fun w=>by kernel_rfl) (by intro v hv;simp [Value.cells] at hv;rcases hv with rfl|rfl<;>rfl) d_ G (K.length*2) (l.length-K.length) (cap-K.length) o_ (fun i hi=>m1 _ (by have:(Value.agg #[.int .i64 0,.string ⟨#[]⟩]).cells.size=2:=rfl;rw [this] at hi;rw [HCS.out];omega)) (fun i=>m2 _);have HCL:=h_ hcl;have HOW:=h_ (HM.out.own hk o_ hnc hcm HCS.out (Builtin.zeroCells (Value.agg #[.int .i64 0,.string ⟨#[]⟩]).cells (l.length-K.length)).toList (by rw [Array.length_toList,size_zeroCells];rfl));have HFF:=h_ (Fr.setCells (M:=fun k=>(Value.slice (some ⟨G,0,none⟩) l.length cap).ownBlock=some k) (b:=G) (fun _=>rfl) (Builtin.zeroCells (Value.agg #[.int .i64 0,.string ⟨#[]⟩]).cells (l.length-K.length)).toList (K.length*2) HFr.out);exact m71_
theorem m73_{p:Prop}(h:p:=by
  obtain ⟨k,L,hk,rfl,hfu,hLl,HQ,HP⟩:=hrel;have HFr:=h_ HP.out.frame;clear HPA HPB;by_cases hlt:k<ps.length
  ·have hz:(k:Int)<(ps.length:Int):=o_
   obtain ⟨⟨p1,p2⟩,hp⟩:=e_ (ps[k]);obtain ⟨b4,o4,rfl,hb4l,hcc⟩:=(HR1.out.frM HFr.out (fun b o e=>by
    have h1:=HNP.out b o e;rintro (h|h)
    ·omega
    ·have:=HF.out b h;omega)) k hlt
   rw [<-hp] at hcc;have d0:=hcc 0 _ rfl;have d1:=hcc 1 _ rfl;simp only [Nat.add_zero] at d0;have HN:=h_ (show Y5 (L.filter (fun x=>x.1 !=p1)++[(p1,p2)]) (ps.drop (k+1))=Y5 L0 ps by
    rw [<-HQ.out,List.drop_eq_getElem_cons hlt,<-hp,Y5])
   have HLF:=h_ (List.length_filter_le (fun x:Str×Str=>x.1 !=p1) L);obtain ⟨v1,F1,q1,q2,q3,q4⟩:=HP.out;have hU1:¬F1 U:=fun h=>by
    rcases (q4 U h).1 with h2|h2
    ·exact HFU.out h2
    ·omega
   have hUr:=Zg q1;have hBx:Below wr.heap.size wr (wr.alloc (.cells #[.string ⟨p1.toArray⟩,.string ⟨p2.toArray⟩] 78)):=b_.alloc l_ _;obtain ⟨wp,hwp⟩:=e_ ((wr.alloc (.cells #[.string ⟨p1.toArray⟩,.string ⟨p2.toArray⟩] 78)).drew);have hBp:Below wr.heap.size wr wp:=n72_;have hbx:wp.heap[wr.heap.size]?=some (.cells #[.string ⟨p1.toArray⟩,.string ⟨p2.toArray⟩] 78 (0,0)):=n85_;have hbu:=Za q1 hBp;have hq2p:Yg wp F1 (.ps L) v1:=q2.fr (M:=fun _=>False) (Fr.of_below hBp _) (fun _ _ e=>e);have hF1:∀k,F1 k->k<wr.heap.size:=fun k hk=>(q4 k hk).2
   have hcs1:(cs.setIfInBounds 19 v1)[19]?=some v1:=Array.getElem?_setIfInBounds_self_of_lt hjs;have hend:∀(w3:World) (v3:Value) (A:Nat) (M:List (Str×Str)),M.length<=200000->Fr (fun k=>F1 k) wr w3->w3.heap[U]?=some (.cells (cs.setIfInBounds 19 v1) 30 (0,0))->w3.heap[wr.heap.size]?=some (.cells #[.string ⟨p1.toArray⟩,.string ⟨p2.toArray⟩] 78 (0,0))->w3.ownsRow 0 78 2 v3 M.length (Zy Xj M)->v3.ownBlock=v1.ownBlock->w3.heap[A]?=some (.cells #[.string ⟨p1.toArray⟩,.string ⟨p2.toArray⟩] 78 (0,0))->
     ∃oa cap w4,(Builtin.append_ #[27,27] 27 #[v3,.slice (some ⟨A,0,none⟩) 1 1]).run prog w3=.ok (.slice oa (M.length+1) cap) w4/\w4.heap[U]?=some (.cells (cs.setIfInBounds 19 v1) 30 (0,0))/\w4.heap[wr.heap.size]?=some (.cells #[.string ⟨p1.toArray⟩,.string ⟨p2.toArray⟩] 78 (0,0))/\Zh w1 (w4.setCell ⟨U,19,none⟩ (.slice oa (M.length+1) cap)) U cs 19 F (.ps (M++[(p1,p2)])):=by
    intro w3 v3 A M hMl hf3 hu3 hx3 ho3 hv3 hA3;have hin3:∀g,v3.ownBlock=some g->F1 g:=fun g hg=>q2.2 g (hv3 ▸ hg)
    obtain ⟨oa,cap,w4,r1,r2,r3,r4,r5,r6,r7⟩:=ZjX (P:=prog) 27 27 78 i0 (.agg #[.string ⟨#[]⟩,.string ⟨#[]⟩]) 2 32 underlying27 hi0 hz0 hz1 hz2 n19_ d_ hu3 ho3 hin3 hU1 o_ d_ A [.string ⟨p1.toArray⟩,.string ⟨p2.toArray⟩] rfl (by intro u hu;simp at hu;rcases hu with rfl|rfl<;>rfl) (fun j u hu=>by rw [(rd hA3).1];simpa using hu);have hfw4:Fr (fun k=>k=U\/F1 k) wr w4:=(hf3.mono (fun i _ h=>.inr h)).trans r3;have hc4:Yg w4 (fun g=>(Value.slice oa (M.length+1) cap).ownBlock=some g) (.ps (M++[(p1,p2)])) (.slice oa (M.length+1) cap):=⟨n75_,fun g hg=>hg⟩;have hput:Zh wr (w4.setCell ⟨U,19,none⟩ (.slice oa (M.length+1) cap)) U (cs.setIfInBounds 19 v1) 19 F1 (.ps (M++[(p1,p2)])):=Zh.of_store r2 rfl hfw4 hc4 (fun g hg=>⟨(r5 g hg).1.imp id (fun h=>Nat.le_trans hf3.size h),(r5 g hg).2⟩) (fun e=>r6 e);refine ⟨oa,cap,w4,r1,r2,?_,Zh.trans' q3 q4 hput⟩;rw [r7.block _ (Zg hx3) (fun e=>by have:=hF1 _ (hin3 _ e);omega)];exact hx3
   have HEND:=h_ hend;have HBP:=h_ hBp;have hclos:∀(W0:World),Below wr.heap.size wr W0->W0.heap[wr.heap.size]?=some (.cells #[.string ⟨p1.toArray⟩,.string ⟨p2.toArray⟩] 78 (0,0))->W0.ownsRow 0 78 2 v1 L.length (Zy Xj L)->
     Calls prog 111 #[v1,.func (.func 112) #[] #[.pointer (some ⟨wr.heap.size,0,none⟩)]] W0 fun e w'=>∃v',e=.returned v'/\w'.ownsRow 0 78 2 v' (L.filter fun x=>x.1 !=p1).length (Zy Xj (L.filter fun x=>x.1 !=p1))/\v'.ownBlock=v1.ownBlock/\Fr (fun k=>v1.ownBlock=some k) W0 w':=by
    intro W0 hW0 hx0 ho0;refine Zfa v1 L 112 #[.pointer (some ⟨wr.heap.size,0,none⟩)] ZeE (fun x=>x.1==p1) W0 ho0 o_ (fun W x hW=>?_);have hxW:W.heap[wr.heap.size]?=some (.cells #[.string ⟨p1.toArray⟩,.string ⟨p2.toArray⟩] 78 (0,0)):=hW.heap hx0 (fun e=>by have:=hF1 _ (q2.2 _ e);omega);exact ZjB x p1 wr.heap.size W ((YB hxW).1)
   have HCL:=h_ hclos;have HQ2:=h_ q2.2;have HU1:=h_ hU1;have HHF1:=h_ hF1;have HUX:=h_ hbu;have HBX:=h_ hbx;have HOW:=h_ hq2p.1;have HCS:=h_ hcs1;have hne:U≠wr.heap.size:=o_;have HS:=h_ (And.intro (Za q1 hBx) (heap_alloc_new wr (.cells #[.string ⟨p1.toArray⟩,.string ⟨p2.toArray⟩] 78)));clear hcc hp HQ HP HFr hend hBp hbx hbu hq2p hclos hF1 hcs1 hBx q1 q2 q3 q4 hU1;go_wp2_with fail;refine Zi (S:=fun V=>V.heap[U]?=some (.cells (cs.setIfInBounds 19 v1) 30 (0,0))/\V.heap[wr.heap.size]?=some (.cells #[.string ⟨p1.toArray⟩,.string ⟨p2.toArray⟩] 78 (0,0))) 10 k_ k_ HS.out (fun hHeld=>?_);refine u_ ?_;(iterate 6 refine dN_ 0 (gT_ rfl) (fun W hW=>by have q0:=((rd hW.1).1 19).trans HCS.out;obtain ⟨q1,q2⟩:=YB hW.2;clear hW;go_simp;rfl) (u_ ?_));refine dT_ (i:=7) (v:=.agg #[.string ⟨p1.toArray⟩,.string ⟨p2.toArray⟩]) (gT_ rfl) (fun W hW=>by have q0:=((rd hW.1).1 19).trans HCS.out;obtain ⟨q1,q2⟩:=YB hW.2;clear hW;go_simp) (u_ ?_);rw [<-hwp] at hHeld⊢;clear hwp;refine Zcu (i:=6) (j:=8) (gT_ rfl) (gT_ rfl) k_ k_ k_ (fun K hK=>?_) (fun K hK=>?_)
   ·clear hHeld
    rw [if_pos n19_];go_simp;refine (HCL.out wp HBP.out HBX.out HOW.out).mono ?_;rintro e w3 ⟨v3,rfl,ho3,hv3,hf3⟩;have hf3':Fr (fun k=>F1 k) wr w3:=(Fr.of_below HBP.out _).trans (hf3.mono (fun i _ h=>HQ2.out i h));have hu3:=hf3.heap HUX.out (fun e=>HU1.out (HQ2.out U e));have hx3:=hf3.heap HBX.out (fun e=>by have:=HHF1.out _ (HQ2.out _ e);omega);refine hK.out _ _ ⟨hu3,hx3⟩ (fun hHeld=>?_);clear hK K;refine u_ ?_;refine Zq (i:=8) (gT_ rfl) k_ k_ (fun K hK=>?_);clear hHeld;rw [if_pos n19_];go_simp;have hB8:Below w3.heap.size w3 (w3.alloc (.cells #[.string ⟨p1.toArray⟩,.string ⟨p2.toArray⟩] 78)):=b_.alloc l_ _;have hA3:=heap_alloc_new w3 (.cells #[.string ⟨p1.toArray⟩,.string ⟨p2.toArray⟩] 78);obtain ⟨oa,cap,w4,r1,r2,r3,r4⟩:=HEND.out (w3.alloc (.cells #[.string ⟨p1.toArray⟩,.string ⟨p2.toArray⟩] 78)) v3 w3.heap.size _ (by have:=HLF.out;omega) (hf3'.trans (Fr.of_below hB8 _)) (Za hu3 hB8) (Za hx3 hB8) (Zp ho3 hB8) hv3 hA3;refine hK.out _ _ ⟨Za hu3 hB8,Za hx3 hB8⟩ (fun hHeld=>?_);clear hK K;refine u_ ?_;refine Zq (i:=9) (gT_ rfl) k_ k_ (fun K hK=>?_);clear hHeld;refine Yk n19_ (.tmp 30) (.tmp 32) 27 n19_ r1 n19_ n19_ ?_;refine hK.out _ _ ⟨r2,r3⟩ (fun hHeld=>?_);clear hK K;refine u_ ?_;refine Zr k_ ?_;clear hHeld;have HP4:=h_ r4;obtain ⟨g1,g2,g3,_⟩:=rd r2;have g19:=(g1 19).trans HCS.out;have g29:=g2 19;clear ho3 hv3 hf3 hf3' hu3 hx3 hB8 hA3 r1 r2 r3 r4 g1 g2;exact m74_
   ·clear hHeld
    rw [if_pos n19_];go_simp;have hB8:Below wp.heap.size wp (wp.alloc (.cells #[.string ⟨p1.toArray⟩,.string ⟨p2.toArray⟩] 78)):=b_.alloc l_ _;have hA8:=heap_alloc_new wp (.cells #[.string ⟨p1.toArray⟩,.string ⟨p2.toArray⟩] 78);refine hK.out _ _ ⟨Za HUX.out hB8,Za HBX.out hB8⟩ (fun hHeld=>?_);clear hK K;refine u_ ?_;refine Zq (i:=6) (gT_ rfl) k_ k_ (fun K hK=>?_);clear hHeld;rw [if_pos n19_];go_simp;refine (HCL.out (wp.alloc (.cells #[.string ⟨p1.toArray⟩,.string ⟨p2.toArray⟩] 78)) (Below.more HBP.out hB8) (Za HBX.out hB8) (Zp HOW.out hB8)).mono ?_;rintro e w3 ⟨v3,rfl,ho3,hv3,hf3⟩;have hf3':Fr (fun k=>F1 k) wr w3:=((Fr.of_below HBP.out _).trans (Fr.of_below hB8 _)).trans (hf3.mono (fun i _ h=>HQ2.out i h));have hu3:=hf3.heap (Za HUX.out hB8) (fun e=>HU1.out (HQ2.out U e));have hx3:=hf3.heap (Za HBX.out hB8) (fun e=>by have:=HHF1.out _ (HQ2.out _ e);omega);have hA3:=hf3.heap hA8 (fun e=>by have:=HHF1.out _ (HQ2.out _ e);have:=HBP.out.size;omega);obtain ⟨oa,cap,w4,r1,r2,r3,r4⟩:=HEND.out w3 v3 wp.heap.size _ (by have:=HLF.out;omega) hf3' hu3 hx3 ho3 hv3 hA3;refine hK.out _ _ ⟨hu3,hx3⟩ (fun hHeld=>?_);clear hK K;refine u_ ?_;refine Zq (i:=9) (gT_ rfl) k_ k_ (fun K hK=>?_);clear hHeld;refine Yk n19_ (.tmp 30) (.tmp 32) 27 n19_ r1 n19_ n19_ ?_;refine hK.out _ _ ⟨r2,r3⟩ (fun hHeld=>?_);clear hK K;refine u_ ?_;refine Zr k_ ?_;clear hHeld;have HP4:=h_ r4;obtain ⟨g1,g2,g3,_⟩:=rd r2;have g19:=(g1 19).trans HCS.out;have g29:=g2 19;clear ho3 hv3 hf3 hf3' hu3 hx3 hB8 hA3 hA8 r1 r2 r3 r4 g1 g2;exact m74_
  ·have hk3:k=ps.length:=o_
   subst hk3;rw [List.drop_of_length_le l_] at HQ;go_wp2_with fail;go_end0;exact ⟨rfl,by rw [<-HQ.out];exact Zh.below HB1.out HP.out⟩):p:=h
theorem m74_{p:Prop}(h:p:=by
  have hlf:=HLF.out;go_wp2_with fail;go_roundg (gk-1)
  case measure=>omega
  case rel=>exact ⟨k+1,_,o_,n14_,o_,n2_,HN,HP4⟩):p:=h
theorem ZjB(x:Str×Str)(p:Str)(b:Nat)(W:World)(hs:W.cell? ⟨b,0,none⟩=some (.string ⟨p.toArray⟩)) :
  Calls prog 112 #[.agg (Xj x).toArray,.pointer (some ⟨b,0,none⟩)] W fun e w'=>e=.returned (.bool (x.1==p))/\Below W.heap.size W w':=by
 have hb:b<W.heap.size:=World.block_lt_of_cell? W _ hs;have hne:b≠W.heap.size:=o_;unfold Xj;generalize hq:(x.1==p)=r;go_enter func112,ntmps112;go_wp2_with fail;go_ret;exact ⟨rfl,b_.alloc l_ _⟩
theorem ZeE:∀args w,(callFunc 112 args).run prog w=.ok (.enter 112 args) w:=enters_of func112 k_ rfl
theorem ZjG:∀(l:List Str) (r:List (Str×Str)),Qm l=some r->r.length=l.length
 |[],r,h=>by rw [Qm] at h;injection h with h;subst h;rfl
 |w::t,r,h=>by
  rw [Qm] at h;split at h
  ·obtain ⟨x,hx,rfl⟩:=Option.map_eq_some_iff.1 h
   simp [ZjG t x hx]
  ·cases h
theorem Zj9(s:Str):(ZaW s).1.length<=32:=by
 unfold ZaW;cases hs:split s with
 |error e=>simp
 |ok l=>
  have h1:=(Zcg s l hs).1;simp only;cases he:Qm l with
  |none=>simp
  |some r=>simp only;rw [ZjG l r he];exact h1
theorem Zh.frame{w w':World}{U:Nat}{cs:Array Value}{j:Nat}{F:Nat->Prop}{c:UC}(h:Zh w w' U cs j F c):Fr (fun k=>k=U\/F k) w w':=by
 obtain ⟨_,_,_,_,h,_⟩:=h;exact h
theorem Zo8(U:Nat)(cs:Array Value)(F:Nat->Prop)(l:List (Str×Str))(v:Value)(w:World)(hb:w.heap[U]?=some (.cells cs 30 (0,0)))(hj:cs[19]?=some v)(hv:Yg w F (.ps l) v)(hFU:¬F U)(hF:∀k,F k->k<w.heap.size)(hl:l.length<=100000)(hM:ZA w)
  (val:Str) (hval:val.length<=100000000) :
  Calls prog 71 #[.pointer (some ⟨U,0,none⟩),.string ⟨val.toArray⟩] w fun e w'=>e=.returned (.tuple #[])/\Zh w w' U cs 19 F (.ps (Y5 (if val=[] then [] else l) (ZaW val).1)):=by
 obtain ⟨i0,hi0,hz0,hz1,hz2⟩:=info_parts ZdQ;obtain ⟨ps,bb,hps⟩:∃ps bb,ZaW val=(ps,bb):=⟨_,_,rfl⟩;have hpl:ps.length<=100:=by
  have:=Zj9 val
  rw [hps] at this;simp only at this;omega
 have HE:=h_ (ZmA ⟨val.toArray⟩ w n26_ hM ps bb hps);rw [hps];have hUl:=Zg hb;have hjs:19<cs.size:=(Array.getElem?_eq_some_iff.1 hj).1;have HFU:=h_ hFU;have HF:=h_ hF;have HV:=h_ (And.intro hb (And.intro hj hv));obtain ⟨L0,hL0⟩:=e_ (if val=[] then [] else l);have hL0l:L0.length<=100000:=by
  rw [hL0];split
  ·simp
  ·exact hl
 have HL0:=h_ hL0;rw [<-hL0];clear hb hj hv hFU hF hM hps hL0;go_enter func71,ntmps71;go_wp2_with fail;refine HE.out.mono ?_;rintro e w1 ⟨hb1,pv,rfl,hown⟩;obtain ⟨pa,pc,rfl⟩:=ownsRow_form hown;have HB1:=h_ hb1;have HR1:=h_ (ZB.of_own (enc:=Xj) (k:=2) (fun _=>rfl) hown);have HNP:=h_ (show ∀b o,pa=some ⟨b,o,none⟩->w.heap.size<=b/\b<w1.heap.size from fun b o e=>by subst e;exact hown.lt b rfl);have hbu:=Za HV.out.1 hb1;obtain ⟨u1,u2,u3,_⟩:=rd hbu;have u19:=(u1 19).trans HV.out.2.1;have f19:=u2 19;have hv1:Yg w1 F (.ps l) v:=HV.out.2.2.fr (M:=fun _=>False) (Fr.of_below hb1 _) (fun _ _ e=>e);have HPA:=h_ (show Zh w1 w1 U cs 19 F (.ps l) from Zh.refl hbu HV.out.2.1 hv1 (fun k hk=>Nat.lt_of_lt_of_le (HF.out k hk) hb1.size));have HPB:=h_ (Zh.of_store (w:=w1) (j:=19) (F:=F) (F':=fun _=>False) (c:=.ps []) (v:=.slice none 0 0) hbu rfl (Fr.refl _ _) ⟨World.ownsRow_nil _ _ _ _,fun g hg=>by simp [Value.ownBlock] at hg⟩ (fun k hk=>hk.elim) (fun e=>e));clear hb1 hown hbu u1 u2 hv1 HE;cases val with
 |nil=>
  go_wp2_with fail;go_loopg [20] (ps.length+1) (fun f i wr=>∃(k:Nat) (L:List (Str×Str)),k<=ps.length/\i=.int .i64 k/\ps.length-k<f/\L.length<=100000+k/\Hid (Y5 L (ps.drop k)=Y5 L0 ps)/\Hid (Zh w1 wr U cs 19 F (.ps L)))
  case atStart=>exact ⟨0,L0,o_,rfl,o_,o_,rfl,(by rw [HL0.out];exact HPB.out)⟩
  case round=>
   exact m73_
 |cons a t=>
  go_wp2_with fail;go_loopg [20] (ps.length+1) (fun f i wr=>∃(k:Nat) (L:List (Str×Str)),k<=ps.length/\i=.int .i64 k/\ps.length-k<f/\L.length<=100000+k/\Hid (Y5 L (ps.drop k)=Y5 L0 ps)/\Hid (Zh w1 wr U cs 19 F (.ps L)))
  case atStart=>exact ⟨0,L0,o_,rfl,o_,o_,rfl,(by rw [HL0.out,if_neg s_];exact HPA.out)⟩
  case round=>
   exact m73_
end Go.Proofs.YtgoooebfhdbbkaaGreatDoor
