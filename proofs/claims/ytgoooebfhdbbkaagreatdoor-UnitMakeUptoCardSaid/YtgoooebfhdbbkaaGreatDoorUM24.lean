import Derived.Lib.Builder
import Derived.Test.YtgoooebfhdbbkaaGreatDoorUM9
import Derived.Test.YtgoooebfhdbbkaaGreatDoorUM11
import Derived.Test.YtgoooebfhdbbkaaGreatDoorUM21
import Derived.Test.YtgoooebfhdbbkaaGreatDoorUM22
import Derived.Test.YtgoooebfhdbbkaaGreatDoorUM23
namespace Go.Proofs.YtgoooebfhdbbkaaGreatDoor
open Go.Proofs.Tryz
open Go Go.RowKit
set_option linter.unusedVariables false
set_option linter.unusedSimpArgs false
set_option maxHeartbeats 16000000
set_option maxRecDepth 100000
theorem m75_{p:Prop}(h:p:=by
  have HM:=h_ (ZaD hc);have hcc:L.contains x=true:=n79_;rw [hcc] at HH;clear hc hcc hown hin p1 p3 p4 hU1;go_wp2_with fail;refine HH.out.mono ?_;rintro e w3 ⟨rfl,rfl⟩;go_wp2_with fail;go_roundg (gk-1)
  case measure=>omega
  case rel=>exact ⟨k+1,o_,n14_,o_,by rw [HSN.out,HM.out,hcl.out];exact HP.out⟩):p:=h
theorem m76_{p:Prop}(h:p:=by have hk3:k=l2.length:=o_;subst hk3;rw [List.take_of_length_le l_] at HP;go_wp2_with fail;go_end0;exact ⟨rfl,by rw [HNE.out];exact HP.out⟩):p:=h
theorem m77_{p:Prop}(h:p:=by
  go_wp2_with fail;go_roundg (gk-1)
  case measure=>omega
  case rel=>exact ⟨k+1,o_,n14_,o_,by rw [HSN.out,HM.out];exact HP1.out⟩):p:=h
theorem m78_{p:Prop}(h:p:=by obtain ⟨rfl,hfu,HP2⟩:=hrel;clear HP;go_wp2_with fail;go_end0;exact ⟨rfl,HP2.out⟩):p:=h
theorem Zj1(oa:Option Addr)(cap:Nat)(l:List Int)(x:Int)(w:World)(hl:l.length<=4294967296)(h:Qy w oa l) :
  Calls prog 116 #[.slice oa l.length cap,.int .i64 x] w fun e w'=>e=.returned (.bool (l.contains x))/\w'=w:=by
 cases l with
 |nil=>exact Tryz.slices_Contains_int_empty oa cap _ w
 |cons a t=>
  obtain ⟨b,o,rfl,-⟩:=h 0 s_
  have:=Tryz.slices_Contains_int b o (a::t).length cap (a::t) x w s_ o_ (fun j hj=>by
   obtain ⟨b2,o2,e2,hc⟩:=h j hj;injection e2 with e2
   injection e2 with e3 e4 e5
   subst e3;subst e4;rw [hc,List.getD_eq_getElem?_getD,List.getElem?_eq_getElem hj];rfl)
  rw [List.take_of_length_le s_] at this;exact this
def oneMore{α:Type}[DecidableEq α](l:List α)(x:α):List α:=if x∈l then l else l++[x]
theorem ZaD{α:Type}[DecidableEq α]{l:List α}{x:α}(h:x∈l):oneMore l x=l:=by unfold oneMore;rw [if_pos h]
theorem Zby{α:Type}[DecidableEq α]{l:List α}{x:α}(h:¬x∈l):oneMore l x=l++[x]:=by unfold oneMore;rw [if_neg h]
theorem Qu{α:Type}[DecidableEq α]:∀(ws l:List α),(ws.foldl oneMore l).length<=l.length+ws.length
 |[],l=>s_
 |x::t,l=>by
  rw [List.foldl_cons];have h:=Qu t (oneMore l x)
  have:(oneMore l x).length<=l.length+1:=by unfold oneMore;split<;>simp
  simp;omega
theorem Zf1{α:Type}[DecidableEq α](l ws:List α)(h:ws≠[]):JQ l ws=ws.foldl oneMore l:=by unfold JQ;rw [if_neg h];rfl
theorem Za7{α:Type}[DecidableEq α](l ws:List α)(k:Nat)(h:k<ws.length):(ws.take (k+1)).foldl oneMore l=oneMore ((ws.take k).foldl oneMore l) ws[k]:=by
 rw [List.take_succ_eq_append_getElem h,List.foldl_append];rfl
theorem ZjQ(U j:Nat)(cs:Array Value)(F:Nat->Prop)(l:List Str)(v:Value)(w:World)(hb:w.heap[U]?=some (.cells cs 30 (0,0)))(hj:cs[j]?=some v)(hv:Yg w F (.ss l) v)(hFU:¬F U)(hF:∀k,F k->k<w.heap.size)
  (oa2:Option Addr) (cap2:Nat) (l2:List Str) (hl:l.length+l2.length<=1000000000) (hs:Zj w oa2 l2) (hA:∀b o,oa2=some ⟨b,o,none⟩->b<w.heap.size/\b≠U/\¬F b) :
  Calls prog 120 #[.pointer (some ⟨U,j,none⟩),.slice oa2 l2.length cap2] w fun e w'=>e=.returned (.tuple #[])/\Zh w w' U cs j F (.ss (JQ l l2)):=by
 obtain ⟨i0,hi0,hz0,hz1,hz2⟩:=info_parts Zd4;have HFU:=h_ hFU;have HF:=h_ hF;have hbU:=Zg hb;have HB:=h_ hb;have hjs:j<cs.size:=(Array.getElem?_eq_some_iff.1 hj).1;have HS:=h_ hs;have HA:=h_ hA;cases l2 with
 |nil=>
  have c0:w.cell? ⟨U,j,none⟩=some v:=n122_;obtain ⟨_,f4,s4,_⟩:=rd hb;have f40:=f4 j;have HP:=h_ (Zh.of_store (j:=j) (F:=F) (F':=fun _=>False) (c:=.ss []) (v:=.slice none 0 0) hb rfl (Fr.refl _ _) ⟨World.ownsRow_nil _ _ _ _,fun g hg=>by simp [Value.ownBlock] at hg⟩ (fun k hk=>hk.elim) (fun e=>e));clear hb hj hv hFU hF hs hA f4;go_enter func120,ntmps120;go_wp2_with fail;go_loopg [13] 1 (fun f i wr=>i=.int .i64 0/\0<f/\Hid (Zh w wr U cs j F (.ss [])))
  case atStart=>exact ⟨rfl,o_,HP⟩
  case round=>
   exact m78_
 |cons a0 t0=>
  have HNE:=h_ (Zf1 l (a0::t0) s_);have hpos:((a0::t0).length:Int)≠0:=n62_;have hpos1:(((a0::t0).length:Int)==0)=false:=n53_;generalize a0::t0=l2 at *;have HP0:=h_ (show Zh w w U cs j F (.ss ((l2.take 0).foldl oneMore l)) from Zh.refl hb hj hv hF);clear hb hj hv hFU hF hs hA;go_enter func120,ntmps120;go_wp2_with fail;go_loopg [13] (l2.length+1) (fun f i wr=>∃k:Nat,k<=l2.length/\i=.int .i64 k/\l2.length-k<f/\Hid (Zh w wr U cs j F (.ss ((l2.take k).foldl oneMore l))))
  case atStart=>exact ⟨0,o_,rfl,o_,HP0⟩
  case round=>
   obtain ⟨k,hk,rfl,hfu,HP⟩:=hrel;clear HP0;by_cases hlt:k<l2.length
   ·obtain ⟨v1,F1,p1,p2,p3,p4⟩:=HP.out
    obtain ⟨L,hL⟩:=e_ ((l2.take k).foldl oneMore l);have hLn:L.length<=1000000000:=by rw [hL];have:=Qu (l2.take k) l;rw [List.length_take] at this;omega
    rw [<-hL] at p2;obtain ⟨x,hx⟩:=e_ (l2[k]);have HSN:=h_ (show (l2.take (k+1)).foldl oneMore l=oneMore L x by rw [Za7 l l2 k hlt,hL,hx]);have hrow:Zj wr oa2 l2:=HS.out.frM p3 (fun b o e=>by
     have:=HA.out b o e
     rintro (h|h)
     ·exact this.2.1 h
     ·exact this.2.2 h)
    obtain ⟨b2,o2,rfl,d0⟩:=hrow k hlt;rw [<-hx] at d0;obtain ⟨hown,hin⟩:=p2;obtain ⟨oa,cap,rfl⟩:=ownsRow_form hown;have c0:wr.cell? ⟨U,j,none⟩=some (.slice oa L.length cap):=by rw [(rd p1).1,Array.getElem?_setIfInBounds_self_of_lt hjs]
    have hU1:¬F1 U:=fun h=>by
     rcases (p4 U h).1 with h2|h2
     ·exact HFU.out h2
     ·omega
    have HH:=h_ (Zgu oa cap L x wr o_ (Zj.of_own hown));have hz:(k:Int)<(l2.length:Int):=o_;have hcl:=h_ hL;clear hL hx hrow;by_cases hc:x∈L
    ·exact m75_
    ·have HM:=h_ (Zby hc)
     have hcc:L.contains x=false:=n79_;rw [hcc] at HH;obtain ⟨oa3,cap3,w4,hrun,hb4,hf4,hown4,hF4,hU4,-⟩:=Qn (P:=prog) 28 28 9 i0 (.string ⟨#[]⟩) 1 16 underlying28 hi0 hz0 hz1 hz2 n19_ d_ p1 hown hin hU1 o_ d_ [.string ⟨x.toArray⟩] rfl n47_;have HRUN:=h_ hrun;have hc4:Yg w4 (fun g=>(Value.slice oa3 (L.length+1) cap3).ownBlock=some g) (.ss (L++[x])) (.slice oa3 (L.length+1) cap3):=⟨n107_,fun g hg=>hg⟩;have HP1:=h_ (Zh.trans' p3 p4 (Zh.of_store (j:=j) hb4 rfl hf4 hc4 hF4 hU4));have c1:w4.cell? ⟨U,j,none⟩=some (.slice oa L.length cap):=by rw [(rd hb4).1,Array.getElem?_setIfInBounds_self_of_lt hjs]
     obtain ⟨_,f4,s4,_⟩:=rd hb4;have f40:=f4 j;clear hc hcc hown hin p1 p3 p4 hU1 hrun hown4 hb4 hc4 hF4 hU4 hf4 f4;go_wp2_with fail;refine HH.out.mono ?_;rintro e w3 ⟨rfl,rfl⟩;go_wp2_with (at_builtin;refine wpList_append_run rfl _ _ 28 rfl HRUN.out rfl rfl ?_);exact m77_
   ·exact m76_
theorem Zjq(U j:Nat)(cs:Array Value)(F:Nat->Prop)(l:List Int)(v:Value)(w:World)(hb:w.heap[U]?=some (.cells cs 30 (0,0)))(hj:cs[j]?=some v)(hv:Yg w F (.ns l) v)(hFU:¬F U)(hF:∀k,F k->k<w.heap.size)
  (oa2:Option Addr) (cap2:Nat) (l2:List Int) (hl:l.length+l2.length<=1000000000) (hs:Qy w oa2 l2) (hA:∀b o,oa2=some ⟨b,o,none⟩->b<w.heap.size/\b≠U/\¬F b) :
  Calls prog 115 #[.pointer (some ⟨U,j,none⟩),.slice oa2 l2.length cap2] w fun e w'=>e=.returned (.tuple #[])/\Zh w w' U cs j F (.ns (JQ l l2)):=by
 obtain ⟨i0,hi0,hz0,hz1,hz2⟩:=info_parts ZaF;have HFU:=h_ hFU;have HF:=h_ hF;have hbU:=Zg hb;have HB:=h_ hb;have hjs:j<cs.size:=(Array.getElem?_eq_some_iff.1 hj).1;have HS:=h_ hs;have HA:=h_ hA;cases l2 with
 |nil=>
  have c0:w.cell? ⟨U,j,none⟩=some v:=n122_;obtain ⟨_,f4,s4,_⟩:=rd hb;have f40:=f4 j;have HP:=h_ (Zh.of_store (j:=j) (F:=F) (F':=fun _=>False) (c:=.ns []) (v:=.slice none 0 0) hb rfl (Fr.refl _ _) ⟨World.ownsRow_nil _ _ _ _,fun g hg=>by simp [Value.ownBlock] at hg⟩ (fun k hk=>hk.elim) (fun e=>e));clear hb hj hv hFU hF hs hA f4;go_enter func115,ntmps115;go_wp2_with fail;go_loopg [13] 1 (fun f i wr=>i=.int .i64 0/\0<f/\Hid (Zh w wr U cs j F (.ns [])))
  case atStart=>exact ⟨rfl,o_,HP⟩
  case round=>
   exact m78_
 |cons a0 t0=>
  have HNE:=h_ (Zf1 l (a0::t0) s_);have hpos:((a0::t0).length:Int)≠0:=n62_;have hpos1:(((a0::t0).length:Int)==0)=false:=n53_;generalize a0::t0=l2 at *;have HP0:=h_ (show Zh w w U cs j F (.ns ((l2.take 0).foldl oneMore l)) from Zh.refl hb hj hv hF);clear hb hj hv hFU hF hs hA;go_enter func115,ntmps115;go_wp2_with fail;go_loopg [13] (l2.length+1) (fun f i wr=>∃k:Nat,k<=l2.length/\i=.int .i64 k/\l2.length-k<f/\Hid (Zh w wr U cs j F (.ns ((l2.take k).foldl oneMore l))))
  case atStart=>exact ⟨0,o_,rfl,o_,HP0⟩
  case round=>
   obtain ⟨k,hk,rfl,hfu,HP⟩:=hrel;clear HP0;by_cases hlt:k<l2.length
   ·obtain ⟨v1,F1,p1,p2,p3,p4⟩:=HP.out
    obtain ⟨L,hL⟩:=e_ ((l2.take k).foldl oneMore l);have hLn:L.length<=1000000000:=by rw [hL];have:=Qu (l2.take k) l;rw [List.length_take] at this;omega
    rw [<-hL] at p2;obtain ⟨x,hx⟩:=e_ (l2[k]);have HSN:=h_ (show (l2.take (k+1)).foldl oneMore l=oneMore L x by rw [Za7 l l2 k hlt,hL,hx]);have hrow:Qy wr oa2 l2:=HS.out.fr p3 (fun b o e=>by
     have:=HA.out b o e
     rintro (h|h)
     ·exact this.2.1 h
     ·exact this.2.2 h)
    obtain ⟨b2,o2,rfl,d0⟩:=hrow k hlt;rw [<-hx] at d0;obtain ⟨hown,hin⟩:=p2;obtain ⟨oa,cap,rfl⟩:=ownsRow_form hown;have c0:wr.cell? ⟨U,j,none⟩=some (.slice oa L.length cap):=by rw [(rd p1).1,Array.getElem?_setIfInBounds_self_of_lt hjs]
    have hU1:¬F1 U:=fun h=>by
     rcases (p4 U h).1 with h2|h2
     ·exact HFU.out h2
     ·omega
    have HH:=h_ (Zj1 oa cap L x wr o_ (Qy.of_own hown));have hz:(k:Int)<(l2.length:Int):=o_;have hcl:=h_ hL;clear hL hx hrow;by_cases hc:x∈L
    ·exact m75_
    ·have HM:=h_ (Zby hc)
     have hcc:L.contains x=false:=n79_;rw [hcc] at HH;obtain ⟨oa3,cap3,w4,hrun,hb4,hf4,hown4,hF4,hU4,-⟩:=Qn (P:=prog) 26 26 3 i0 (.int .i64 0) 1 8 underlying26 hi0 hz0 hz1 hz2 n19_ d_ p1 hown hin hU1 o_ d_ [.int .i64 x] rfl n47_;have HRUN:=h_ hrun;have hc4:Yg w4 (fun g=>(Value.slice oa3 (L.length+1) cap3).ownBlock=some g) (.ns (L++[x])) (.slice oa3 (L.length+1) cap3):=⟨by rw [show Xh (L++[x])=Xh L++[.int .i64 x] by simp [Xh],List.length_append];exact hown4,fun g hg=>hg⟩;have HP1:=h_ (Zh.trans' p3 p4 (Zh.of_store (j:=j) hb4 rfl hf4 hc4 hF4 hU4));have c1:w4.cell? ⟨U,j,none⟩=some (.slice oa L.length cap):=by rw [(rd hb4).1,Array.getElem?_setIfInBounds_self_of_lt hjs]
     obtain ⟨_,f4,s4,_⟩:=rd hb4;have f40:=f4 j;clear hc hcc hown hin p1 p3 p4 hU1 hrun hown4 hb4 hc4 hF4 hU4 hf4 f4;go_wp2_with fail;refine HH.out.mono ?_;rintro e w3 ⟨rfl,rfl⟩;go_wp2_with (at_builtin;refine wpList_append_run rfl _ _ 26 rfl HRUN.out rfl rfl ?_);exact m77_
   ·exact m76_
theorem m79_{p:Prop}(h:p:=by
  by_cases hlt:k<ws.length
  ·have hz:(k:Int)<(ws.length:Int):=o_
   have hfr:=HP.out.frame;obtain ⟨x,hx⟩:=e_ (ws[k]);have hnA:¬(A=U\/F A):=by
    have:=HAL.out
    rintro (h|h)
    ·omega
    ·have:=HF.out _ h;omega
   have hnR:¬(w1.heap.size=U\/F w1.heap.size):=by
    rintro (h|h)
    ·omega
    ·have:=HF.out _ h;omega
   have d0:wr.cell? ⟨A,k,none⟩=some (.string ⟨x.toArray⟩):=by
    have:=HST.out k hlt
    rw [Nat.zero_add] at this;rw [hx,<-this];exact World.cell?_of_block (hfr.block A hAw hnA)
   have hrbr:=hfr.heap HRB.out hnR;have r0:=Zfz hrbr;have HSN:=h_ (show ZR nm rel (if x≠nm/\(rel,x)∉L then L++[(rel,x)] else L) (ws.drop (k+1))=ZR nm rel L0 ws by
    rw [<-HQ.out,List.drop_eq_getElem_cons hlt,<-hx,ZR])
   obtain ⟨v1,F1,q1,q2,q3,q4⟩:=HP.out;have hU1:¬F1 U:=fun h=>by
    rcases (q4 U h).1 with h2|h2
    ·exact HFU.out h2
    ·omega
   have hUr:=Zg q1;have hcs1:(cs.setIfInBounds 4 v1)[4]?=some v1:=Array.getElem?_setIfInBounds_self_of_lt hjs;have hcs0:(cs.setIfInBounds 4 v1)[0]?=some (.string ⟨nm.toArray⟩):=by rw [Array.getElem?_setIfInBounds_ne d_];exact H0.out
   have hBx:Below wr.heap.size wr (wr.alloc (.cells #[.int .i64 rel,.string ⟨x.toArray⟩] 43)):=b_.alloc l_ _;obtain ⟨wp,hwp⟩:=e_ ((wr.alloc (.cells #[.int .i64 rel,.string ⟨x.toArray⟩] 43)).drew);have hBp:Below wr.heap.size wr wp:=n72_;have hbx:wp.heap[wr.heap.size]?=some (.cells #[.int .i64 rel,.string ⟨x.toArray⟩] 43 (0,0)):=n85_;have hbup:=Za q1 hBp;have hq2p:Yg wp F1 (.rs L) v1:=q2.fr (M:=fun _=>False) (Fr.of_below hBp _) (fun _ _ e=>e);obtain ⟨oa,cap,rfl⟩:=ownsRow_form q2.1;have hrowp:ZcV Jg 2 wp (.slice oa L.length cap) L:=⟨⟨oa,cap,rfl,ZB.of_own (enc:=Jg) (k:=2) (fun _=>rfl) hq2p.1⟩⟩;have HCT:=h_ (fun b hb=>Zcd (.slice oa L.length cap) L (rel,x) wp hrowp o_ b hb);have hF1:∀k,F1 k->k<wr.heap.size:=fun k hk=>(q4 k hk).2
   have hend:∀(w3:World),Below wp.heap.size wp w3->∃oa2 cap2 w4,(Builtin.append_ #[24,24] 24 #[.slice oa L.length cap,.slice (some ⟨w3.heap.size,0,none⟩) 1 1]).run prog (w3.drew.alloc (.cells #[.int .i64 rel,.string ⟨x.toArray⟩] 43))=.ok (.slice oa2 (L.length+1) cap2) w4/\w4.heap[U]?=some (.cells (cs.setIfInBounds 4 (.slice oa L.length cap)) 30 (0,0))/\w4.heap[wr.heap.size]?=some (.cells #[.int .i64 rel,.string ⟨x.toArray⟩] 43 (0,0))/\Zh (w1.alloc (.cells #[.int .i64 rel] 3)) (w4.setCell ⟨U,4,none⟩ (.slice oa2 (L.length+1) cap2)) U cs 4 F (.rs (L++[(rel,x)])):=by
    intro w3 h3;have hb3:Below wp.heap.size wp w3.drew:=h3.trans (Zb ⟨1,rfl⟩);have hin3:∀g,(Value.slice oa L.length cap).ownBlock=some g->F1 g:=fun g hg=>q2.2 g hg
    obtain ⟨oa2,cap2,w4,r1,r2,r3,r4,r5,r6,r7⟩:=Qn (P:=prog) (w:=w3.drew) 24 24 43 i0 (.agg #[.int .i64 0,.string ⟨#[]⟩]) 2 24 underlying24 hi0 hz0 hz1 hz2 n19_ d_ (Za hbup hb3) (Zp hq2p.1 hb3) hin3 hU1 o_ d_ [.int .i64 rel,.string ⟨x.toArray⟩] rfl (by intro u hu;simp at hu;rcases hu with rfl|rfl<;>rfl);have hfw3:Below wr.heap.size wr w3.drew:=Below.more hBp hb3;have hfw4:Fr (fun k=>k=U\/F1 k) wr w4:=(Fr.of_below hfw3 _).trans r3;have hc4:Yg w4 (fun g=>(Value.slice oa2 (L.length+1) cap2).ownBlock=some g) (.rs (L++[(rel,x)])) (.slice oa2 (L.length+1) cap2):=⟨n75_,fun g hg=>hg⟩;have hput:Zh wr (w4.setCell ⟨U,4,none⟩ (.slice oa2 (L.length+1) cap2)) U (cs.setIfInBounds 4 (.slice oa L.length cap)) 4 F1 (.rs (L++[(rel,x)])):=Zh.of_store r2 rfl hfw4 hc4 (fun g hg=>⟨(r5 g hg).1.imp id (fun h=>Nat.le_trans hfw3.size h),(r5 g hg).2⟩) (fun e=>r6 e);refine ⟨oa2,cap2,w4,r1,r2,?_,Zh.trans' q3 q4 hput⟩;have hx3:=Za hbx hb3;rw [r7.block _ (Zg hx3) (fun e=>by have:=hF1 _ (hin3 _ e);omega)];exact hx3
   have HEND:=h_ hend;have HPS:=h_ (fun W (h:Below wr.heap.size wr W)=>(show Zh (w1.alloc (.cells #[.int .i64 rel] 3)) W U cs 4 F (.rs L) from Zh.after HP.out h));have HBP:=h_ hBp;have HUX:=h_ hbup;have HBX:=h_ hbx;have HCS:=h_ hcs1;have HCS0:=h_ hcs0;have hne:U≠wr.heap.size:=o_;have hrne:w1.heap.size≠wr.heap.size:=by have:=Zg hrbr;omega
   have HS:=h_ (And.intro (Za q1 hBx) (heap_alloc_new wr (.cells #[.int .i64 rel,.string ⟨x.toArray⟩] 43)));clear hx HQ HP hend hBp hbx hbup hq2p hF1 hcs1 hcs0 hBx q1 q2 q3 q4 hU1 hrowp hfr hrbr hnA hnR;by_cases hxn:x=nm
   ·have HNX:=h_ (show ZR nm rel L (ws.drop (k+1))=ZR nm rel L0 ws by rw [<-HSN.out,if_neg (fun h=>h.1 hxn)])
    subst hxn;go_wp2_with fail;refine Zi (S:=fun V=>V.heap[U]?=some (.cells (cs.setIfInBounds 4 (.slice oa L.length cap)) 30 (0,0))/\V.heap[wr.heap.size]?=some (.cells #[.int .i64 rel,.string ⟨x.toArray⟩] 43 (0,0))) 12 k_ k_ HS.out (fun hHeld=>?_);refine u_ ?_;(iterate 7 refine dN_ 0 (gT_ rfl) (fun W hW=>by have q0:=((rd hW.1).1 4).trans HCS.out;have q3:=((rd hW.1).1 0).trans HCS0.out;obtain ⟨q1,q2⟩:=YB hW.2;clear hW;go_simp;rfl) (u_ ?_));refine ZK (i:=7) (v:=undef) (gT_ rfl) k_ k_ k_ k_ (fun _ _ _ h=>h) (Or.inr ⟨n19_,rfl⟩) a_ ?_;refine u_ ?_;refine ZK (i:=8) (v:=undef) (gT_ rfl) k_ k_ k_ k_ (fun _ _ _ h=>h) (Or.inr ⟨n19_,rfl⟩) a_ ?_;refine u_ ?_;refine ZK (i:=9) (v:=undef) (gT_ rfl) k_ k_ k_ k_ (fun _ _ _ h=>h) (Or.inr ⟨n19_,rfl⟩) a_ ?_;refine u_ ?_;refine ZK (i:=10) (v:=undef) (gT_ rfl) k_ k_ k_ k_ (fun _ _ _ h=>h) (Or.inr ⟨n19_,rfl⟩) a_ ?_;refine u_ ?_;refine ZK (i:=11) (v:=undef) (gT_ rfl) k_ k_ k_ k_ (fun _ _ _ h=>h) (Or.inr ⟨n19_,rfl⟩) a_ ?_;refine u_ ?_;refine Zr k_ ?_;clear hHeld;rw [<-hwp];clear hwp;go_wp2_with fail;go_roundg (gk-1)
    case measure=>omega
    case rel=>exact ⟨k+1,L,o_,n14_,o_,o_,HNX,HPS.out _ HBP.out⟩
   ·have hbx2:(x==nm)=false:=by rw [beq_eq_false_iff_ne];exact hxn
    cases hin:L.contains (rel,x) with
    |true=>
     have HNX:=h_ (show ZR nm rel L (ws.drop (k+1))=ZR nm rel L0 ws by rw [<-HSN.out,if_neg (fun h=>h.2 (by simpa using hin))]);have HC:=h_ (HCT.out true hin);clear hin;go_wp2_with fail;refine Zi (S:=fun V=>V.heap[U]?=some (.cells (cs.setIfInBounds 4 (.slice oa L.length cap)) 30 (0,0))/\V.heap[wr.heap.size]?=some (.cells #[.int .i64 rel,.string ⟨x.toArray⟩] 43 (0,0))) 12 k_ k_ HS.out (fun hHeld=>?_);refine u_ ?_;(iterate 12 refine dN_ 0 (gT_ rfl) (fun W hW=>by have q0:=((rd hW.1).1 4).trans HCS.out;have q3:=((rd hW.1).1 0).trans HCS0.out;obtain ⟨q1,q2⟩:=YB hW.2;clear hW;go_simp;rfl) (u_ ?_));refine Zr k_ ?_;clear hHeld;rw [<-hwp];clear hwp;go_wp2_with fail;refine HC.out.mono ?_;rintro e w3 ⟨rfl,hb3⟩;have HB3:=h_ (Below.more HBP.out hb3);clear hb3;go_wp2_with fail;go_roundg (gk-1)
     case measure=>omega
     case rel=>exact ⟨k+1,L,o_,n14_,o_,o_,HNX,HPS.out _ HB3.out⟩
    |false=>
     have HNX:=h_ (show ZR nm rel (L++[(rel,x)]) (ws.drop (k+1))=ZR nm rel L0 ws by rw [<-HSN.out,if_pos ⟨hxn,by simpa using hin⟩]);have HC:=h_ (HCT.out false hin);clear hin;go_wp2_with fail;refine Zi (S:=fun V=>V.heap[U]?=some (.cells (cs.setIfInBounds 4 (.slice oa L.length cap)) 30 (0,0))/\V.heap[wr.heap.size]?=some (.cells #[.int .i64 rel,.string ⟨x.toArray⟩] 43 (0,0))) 12 k_ k_ HS.out (fun hHeld=>?_);refine u_ ?_;(iterate 12 refine dN_ 0 (gT_ rfl) (fun W hW=>by have q0:=((rd hW.1).1 4).trans HCS.out;have q3:=((rd hW.1).1 0).trans HCS0.out;obtain ⟨q1,q2⟩:=YB hW.2;clear hW;go_simp;rfl) (u_ ?_));refine Zr k_ ?_;clear hHeld;rw [<-hwp];clear hwp;go_wp2_with fail;refine HC.out.mono ?_;rintro e w3 ⟨rfl,hb3⟩;have HU3:=h_ (Za HUX.out hb3);have HX3:=h_ (Za HBX.out hb3);obtain ⟨oa2,cap2,w4,r1,r2,r3,r4⟩:=HEND.out w3 hb3;have hB8:Below w3.drew.heap.size w3.drew (w3.drew.alloc (.cells #[.int .i64 rel,.string ⟨x.toArray⟩] 43)):=b_.alloc l_ _;have hS8:=And.intro (Za (show w3.drew.heap[U]?=_ from HU3.out) hB8) (Za (show w3.drew.heap[wr.heap.size]?=_ from HX3.out) hB8);go_wp2_with fail;refine Zi (S:=fun V=>V.heap[U]?=some (.cells (cs.setIfInBounds 4 (.slice oa L.length cap)) 30 (0,0))/\V.heap[wr.heap.size]?=some (.cells #[.int .i64 rel,.string ⟨x.toArray⟩] 43 (0,0))) 8 k_ k_ (show _/\_ from ⟨HU3.out,HX3.out⟩) (fun hHeld=>?_);refine u_ ?_;(iterate 6 refine dN_ 0 (gT_ rfl) (fun W hW=>by have q0:=((rd hW.1).1 4).trans HCS.out;have q3:=((rd hW.1).1 0).trans HCS0.out;obtain ⟨q1,q2⟩:=YB hW.2;clear hW;go_simp;rfl) (u_ ?_));refine Zq (i:=6) (gT_ rfl) k_ k_ (fun K hK=>?_);clear hHeld;rw [if_pos n19_];go_simp;refine hK.out _ _ hS8 (fun hHeld=>?_);clear hK K;refine u_ ?_;refine Zq (i:=7) (gT_ rfl) k_ k_ (fun K hK=>?_);clear hHeld;refine Yk n19_ (.tmp 61) (.tmp 63) 24 n19_ r1 n19_ n19_ ?_;refine hK.out _ _ ⟨r2,r3⟩ (fun hHeld=>?_);clear hK K;refine u_ ?_;refine Zr k_ ?_;clear hHeld;have HP4:=h_ r4;obtain ⟨g1,g2,g3,_⟩:=rd r2;have g14:=(g1 4).trans HCS.out;have g24:=g2 4;clear r1 r2 r3 r4 g1 g2 hB8 hS8 hb3;go_wp2_with fail;go_roundg (gk-1)
     case measure=>omega
     case rel=>exact ⟨k+1,_,o_,n14_,o_,n2_,HNX,HP4⟩
  ·have hk3:k=ws.length:=o_
   subst hk3;rw [List.drop_of_length_le l_] at HQ;go_wp2_with fail;go_end0;exact ⟨rfl,by rw [<-HQ.out];exact Zh.below HB2.out HP.out⟩):p:=h
theorem Zmc(x:Int×Str)(rel:Int)(b:Nat)(W:World)(hs:W.cell? ⟨b,0,none⟩=some (.int .i64 rel)) :
  Calls prog 122 #[.agg (Jg x).toArray,.pointer (some ⟨b,0,none⟩)] W fun e w'=>e=.returned (.bool (x.1==rel))/\Below W.heap.size W w':=by
 have hb:b<W.heap.size:=World.block_lt_of_cell? W _ hs;have hne:b≠W.heap.size:=o_;unfold Jg;generalize hq:(x.1==rel)=r;go_enter func122,ntmps122;go_wp2_with fail;go_ret;exact ⟨rfl,b_.alloc l_ _⟩
theorem ZgW:∀args w,(callFunc 122 args).run prog w=.ok (.enter 122 args) w:=enters_of func122 k_ rfl
theorem Zkn:(prog.info? 43).map (fun i=>(i.zero,i.size,i.bytes))=some (some (.agg #[.int .i64 0,.string ⟨#[]⟩]),2,24):=k_
theorem Zfz{w:World}{b:Nat}{x:Value}{T:TypeId}(h:w.heap[b]?=some (.cells #[x] T (0,0))):w.cell? ⟨b,0,none⟩=some x:=n33_
theorem Zg4(U j:Nat)(cs:Array Value)(F:Nat->Prop)(l:List Str)(v:Value)(w:World)(hb:w.heap[U]?=some (.cells cs 30 (0,0)))(hj:cs[j]?=some v)(hv:Yg w F (.ss l) v)(hFU:¬F U)(hF:∀k,F k->k<w.heap.size)(hl:l.length<=100000)
  (key:ByteArray) (HRL:∀W,Calls prog 119 #[.string key] W fun e w'=>e=.returned (.int .i64 0)/\w'=W) (HSL:∀W,Calls prog 73 #[.pointer (some ⟨U,0,none⟩),.string key] W fun e w'=>e=.returned (.pointer (some ⟨U,j,none⟩))/\w'=W) (val:Str) (hval:val.length<=100000000) :
  Calls prog 76 #[.pointer (some ⟨U,0,none⟩),.string key,.string ⟨val.toArray⟩] w fun e w'=>e=.returned (.tuple #[])/\Zh w w' U cs j F (.ss (JQ l (Zc val))):=by
 have HW:=h_ (XH ⟨val.toArray⟩ w n51_);change Hid (Calls _ _ _ _ fun e w'=>∃A,e=.returned (.slice (some ⟨A,0,none⟩) (Zc val).length (Zc val).length)/\w.heap.size<=A/\A<w'.heap.size/\ZaE w' A 0 (Zc val)/\Below w.heap.size w w') at HW;have hll:(Zc val).length<=100000001:=n43_;generalize Zc val=ws at *;have HON:=h_ (fun W (h:Below w.heap.size w W) A cap (hA:w.heap.size<=A) (hA2:A<W.heap.size) (hs:ZaE W A 0 ws)=>ZjQ U j cs F l v W (Za hb h) hj (hv.fr (M:=fun _=>False) (Fr.of_below h _) (fun _ _ e=>e)) hFU (fun k hk=>Nat.lt_of_lt_of_le (hF k hk) h.size) (some ⟨A,0,none⟩) cap ws o_ (fun i hi=>⟨A,0,rfl,hs i hi⟩) (by
  intro b o e;injection e with e
  injection e with e1 e2
  subst e1
  have:=Zg hb
  refine ⟨hA2,o_,fun h=>?_⟩
  have:=hF _ h
  omega))
 have HR:=h_ HRL;have HS:=h_ HSL;clear HRL HSL hb hj hv hFU hF;go_enter func76,ntmps76;go_wp2_with fail;refine (HR.out w).mono ?_;rintro e w ⟨rfl,rfl⟩;go_wp2_with fail;refine HW.out.mono ?_;rintro e w1 ⟨A,rfl,hA,hA2,hst,hb1⟩;have hB2:Below w1.heap.size w1 (w1.alloc (.cells #[.int .i64 0] 3)):=b_.alloc l_ _;have HB2:=h_ (Below.more hb1 hB2);have HO:=h_ (HON.out _ HB2.out A ws.length hA (Nat.lt_of_lt_of_le hA2 hB2.size) (hst.below hA2 hB2));clear hst hb1 hB2 HON HW hA hA2;go_wp2_with fail;refine (HS.out _).mono ?_;rintro e w3 ⟨rfl,rfl⟩;go_wp2_with fail;refine HO.out.mono ?_;rintro e w4 ⟨rfl,hp⟩;have HP:=h_ (Zh.below HB2.out hp);clear hp;go_wp2_with fail;refine bodyPost_ret (results_none rfl _ _ _) rfl ?_;exact ⟨rfl,HP.out⟩
theorem Ziq(U:Nat)(cs:Array Value)(F:Nat->Prop)(l:List (Int×Str))(v:Value)(w:World)(hb:w.heap[U]?=some (.cells cs 30 (0,0)))(hj:cs[4]?=some v)(hv:Yg w F (.rs l) v)(hFU:¬F U)(hF:∀k,F k->k<w.heap.size)(hl:l.length<=100000)
  (nm:Str) (h0:cs[0]?=some (.string ⟨nm.toArray⟩)) (key:ByteArray) (rel:Int) (hrel0:(rel==0)=false) (HRL:∀W,Calls prog 119 #[.string key] W fun e w'=>e=.returned (.int .i64 rel)/\w'=W) (val:Str) (hval:val.length<=100000000) :
  Calls prog 76 #[.pointer (some ⟨U,0,none⟩),.string key,.string ⟨val.toArray⟩] w fun e w'=>e=.returned (.tuple #[])/\Zh w w' U cs 4 F (.rs (ZR nm rel (if val=[] then l.filter (fun r=>r.1 !=rel) else l) (Zc val))):=by
 obtain ⟨i0,hi0,hz0,hz1,hz2⟩:=info_parts Zkn;have HW:=h_ (XH ⟨val.toArray⟩ w n51_);change Hid (Calls _ _ _ _ fun e w'=>∃A,e=.returned (.slice (some ⟨A,0,none⟩) (Zc val).length (Zc val).length)/\w.heap.size<=A/\A<w'.heap.size/\ZaE w' A 0 (Zc val)/\Below w.heap.size w w') at HW;have hll:(Zc val).length<=100000001:=n43_;generalize Zc val=ws at *;have hUl:=Zg hb;have hjs:4<cs.size:=(Array.getElem?_eq_some_iff.1 hj).1;have HFU:=h_ hFU;have HF:=h_ hF;have HV:=h_ (And.intro hb (And.intro hj hv));have H0:=h_ h0;obtain ⟨L0,hL0⟩:=e_ (if val=[] then l.filter (fun r=>r.1 !=rel) else l);have hL0l:L0.length<=100000:=by
  have:=List.length_filter_le (fun r:Int×Str=>r.1 !=rel) l
  rw [hL0];split
  ·omega
  ·exact hl
 have HL0:=h_ hL0;rw [<-hL0];have HR:=h_ HRL;clear HRL hb hj hv hFU hF hL0 h0;go_enter func76,ntmps76;go_wp2_with fail;refine (HR.out w).mono ?_;rintro e w ⟨rfl,rfl⟩;go_wp2_with fail;refine HW.out.mono ?_;rintro e w1 ⟨A,rfl,hA,hA2,hst,hb1⟩;have hB2:Below w1.heap.size w1 (w1.alloc (.cells #[.int .i64 rel] 3)):=b_.alloc l_ _;obtain ⟨w2,hw2⟩:=e_ (w1.alloc (.cells #[.int .i64 rel] 3));rw [<-hw2] at hB2;obtain ⟨RB,hRB⟩:=e_ w1.heap.size;have hrb2:w2.heap[RB]?=some (.cells #[.int .i64 rel] 3 (0,0)):=by rw [hw2,hRB];exact heap_alloc_new w1 _
 have HRB:=h_ hrb2;have HB2:=h_ (Below.more hb1 hB2);have HST:=h_ (hst.below hA2 hB2);have hAw:A<w2.heap.size:=Nat.lt_of_lt_of_le hA2 hB2.size;have hRBw:RB<w2.heap.size:=Zg hrb2;have hRB1:w.heap.size<=RB:=by rw [hRB];exact hb1.size
 have hbu:=Za HV.out.1 HB2.out;have hv2:Yg w2 F (.rs l) v:=HV.out.2.2.fr (M:=fun _=>False) (Fr.of_below HB2.out _) (fun _ _ e=>e);have hF2:∀k,F k->k<w2.heap.size:=fun k hk=>Nat.lt_of_lt_of_le (HF.out k hk) HB2.out.size
 have HPA:=h_ (show Zh w2 w2 U cs 4 F (.rs l) from Zh.refl hbu HV.out.2.1 hv2 hF2);have r0:=(Zfz hrb2);have hdel:Calls prog 121 #[v,.func (.func 122) #[] #[.pointer (some ⟨RB,0,none⟩)]] w2 fun e w'=>∃v',e=.returned v'/\w'.ownsRow 0 43 2 v' (l.filter fun x=>x.1 !=rel).length (Zy Jg (l.filter fun x=>x.1 !=rel))/\v'.ownBlock=v.ownBlock/\Fr (fun k=>v.ownBlock=some k) w2 w':=by
  refine ZlK v l 122 #[.pointer (some ⟨RB,0,none⟩)] ZgW (fun x=>x.1==rel) w2 hv2.1 o_ (fun W x hW=>?_);have hxW:=hW.heap hrb2 (fun e=>by have:=HF.out _ (hv2.2 _ e);omega);exact Zmc x rel RB W (Zfz hxW)
 have HDEL:=h_ hdel;obtain ⟨u1,u2,u3,_⟩:=rd hbu;have u4:=(u1 4).trans HV.out.2.1;have HBU:=h_ hbu;have HV2:=h_ hv2;have HAL:=h_ hA;clear hst hb1 hB2 HW hA2 hbu hv2 hF2 u1 u2 hdel HR hrb2;subst hRB;subst hw2;cases val with
 |nil=>
  go_wp2_with fail;refine HDEL.out.mono ?_;rintro e w3 ⟨v3,rfl,ho3,hv3,hf3⟩;have hu3:=hf3.heap HBU.out (fun e=>HFU.out (HV2.out.2 U e));have HPB:=h_ (Zh.of_store (w:=(w1.alloc (.cells #[.int .i64 rel] 3))) (j:=4) (F:=F) (F':=fun g=>v3.ownBlock=some g) (c:=.rs (l.filter fun x=>x.1 !=rel)) (v:=v3) hu3 rfl (hf3.mono (fun i _ h=>.inr (HV2.out.2 i h))) ⟨ho3,fun g hg=>hg⟩ (fun k hk=>⟨.inl (HV2.out.2 k (hv3 ▸ hk)),(ho3.lt k hk).2⟩) (fun e=>HFU.out (HV2.out.2 U (hv3 ▸ e))));obtain ⟨g1,g2,g3,_⟩:=rd hu3;have g14:=(g1 4).trans HV.out.2.1;have g24:=g2 4;obtain ⟨oa3,cap3,rfl⟩:=ownsRow_form ho3;clear ho3 hv3 hf3 hu3 g1 g2;go_wp2_with fail;go_loopg [35] (ws.length+1) (fun f i wr=>∃(k:Nat) (L:List (Int×Str)),k<=ws.length/\i=.int .i64 k/\ws.length-k<f/\L.length<=100000+k/\Hid (ZR nm rel L (ws.drop k)=ZR nm rel L0 ws)/\Hid (Zh (w1.alloc (.cells #[.int .i64 rel] 3)) wr U cs 4 F (.rs L)))
  case atStart=>exact ⟨0,L0,o_,rfl,o_,o_,rfl,(by rw [HL0.out];exact HPB.out)⟩
  case round=>
   obtain ⟨k,L,hk,rfl,hfu,hLl,HQ,HP⟩:=hrel;clear HPA HPB HDEL;exact m79_
 |cons a t=>
  go_wp2_with fail;go_loopg [35] (ws.length+1) (fun f i wr=>∃(k:Nat) (L:List (Int×Str)),k<=ws.length/\i=.int .i64 k/\ws.length-k<f/\L.length<=100000+k/\Hid (ZR nm rel L (ws.drop k)=ZR nm rel L0 ws)/\Hid (Zh (w1.alloc (.cells #[.int .i64 rel] 3)) wr U cs 4 F (.rs L)))
  case atStart=>exact ⟨0,L0,o_,rfl,o_,o_,rfl,(by rw [HL0.out,if_neg s_];exact HPA.out)⟩
  case round=>
   obtain ⟨k,L,hk,rfl,hfu,hLl,HQ,HP⟩:=hrel;clear HPA HDEL;exact m79_
theorem ZfR{P:Program}(w:World){tp te:TypeId}{i:TypeInfo}(b x y:Nat)(hp:P.underlying tp=some (.pointer te))(hte:P.info? te=some i)(hi:i.size≠0) :
  (binOp .neq tp (.pointer (some ⟨b,x,none⟩)) (.pointer (some ⟨b,y,none⟩))).run P w=.ok (.bool (!(x==y))) w:=by
 have h:∀d:Nat,(Op.equalIn (d+1) tp (.pointer (some ⟨b,x,none⟩)) (.pointer (some ⟨b,y,none⟩))).run P w=.ok (x==y) w:=fun d=>by
  have e:((⟨b,x,none⟩:Addr)==⟨b,y,none⟩)=(x==y):=by
   rw [Bool.eq_iff_iff];simp
  simp [Op.equalIn,run_underlying hp,sizeOf,typeInfo,hte,hi,sameAddr,e]
 simp only [binOp];simp [Op.equal,Op.maxDepth,h 9999]
theorem Zpb:(prog.info? 26).map (fun i=>decide (i.size≠0))=some true:=k_
theorem below_grown{B:Nat}{w w':World}{row:Option Nat}(hg:w.grownBy w' row)(hr:∀k,row=some k->B<=k)(hB:B<=w.heap.size):Below B w w' :=
 ⟨hg.os,hg.tape,hg.output,hg.size,fun k hk=>hg.block k o_ (fun e=>by have:=hr k e.symm;omega)⟩
def numsOf(v:Str):List Int:=(Zc v).map fun w=>(Ql w).1
theorem ZmW(l:List Str):(l.map fun w=>(Ql w).1).contains 0=l.any fun w=>(Ql w).1==0:=by
 induction l with
 |nil=>rfl
 |cons a t ih=>
  rw [List.map_cons,List.contains_cons,ih,List.any_cons];congr 1;generalize (Ql a).1=z;rw [Bool.eq_iff_iff,beq_iff_eq,beq_iff_eq];exact eq_comm
theorem Zpg(U j:Nat)(cs:Array Value)(F:Nat->Prop)(l:List Int)(v:Value)(w:World)(hb:w.heap[U]?=some (.cells cs 30 (0,0)))(hj:cs[j]?=some v)(hv:Yg w F (.ns l) v)(hFU:¬F U)(hF:∀k,F k->k<w.heap.size)(hl:l.length<=100000)(hM:ZA w)
  (key:ByteArray) (HSL:∀W,Calls prog 114 #[.pointer (some ⟨U,0,none⟩),.string key] W fun e w'=>e=.returned (.pointer (some ⟨U,j,none⟩))/\w'=W) (val:Str) (hval:val.length<=100000000) :
  Calls prog 74 #[.pointer (some ⟨U,0,none⟩),.string key,.string ⟨val.toArray⟩] w fun e w'=>e=.returned (.bool (!(j==21)||!(Zc val).any fun w=>(Ql w).1==0))/\Zh w w' U cs j F (.ns (JQ l (numsOf val))):=by
 obtain ⟨i0,hi0,hz0,hz1,hz2⟩:=info_parts ZaF;obtain ⟨ti,hti,hts⟩:=Option.map_eq_some_iff.1 Zpb;have hts':ti.size≠0:=by simpa using hts
 have HPN:=h_ (fun W=>ZfR (P:=prog) W U j 21 underlying127 hti hts');have HW:=h_ (XH ⟨val.toArray⟩ w n51_);have HLN:=h_ (Z4 val []);have HMS:=h_ (QB val.length val [] s_);have HSLH:=h_ HSL;have HV:=h_ (And.intro hb (And.intro hj (And.intro hv (And.intro hFU hF))));have hUl:=Zg hb;have h00:=ZmW (Zc val);have HMX:=h_ hM;unfold numsOf;obtain ⟨ws,hws⟩:=e_ (Zc val);have HL:=h_ (show ∀x∈ws,x.length<=1000000000 from by rw [hws];intro x hx;have:=HMS.out x hx;omega);have hll:ws.length<=100000001:=by rw [hws];have:=HLN.out;unfold Zc;omega
 have HLL:=h_ hll;change Hid (Calls _ _ _ _ fun e w'=>∃A,e=.returned (.slice (some ⟨A,0,none⟩) (Zc val).length (Zc val).length)/\w.heap.size<=A/\A<w'.heap.size/\ZaE w' A 0 (Zc val)/\Below w.heap.size w w') at HW;rw [<-hws] at HW h00⊢;obtain ⟨ns,hns⟩:=e_ (ws.map fun w=>(Ql w).1);have hnl:ns.length=ws.length:=by rw [hns];simp
 obtain ⟨z,hzz⟩:∃z,ns.contains 0=z:=⟨_,rfl⟩;rw [<-h00,<-hns,hzz];have HZZ:=h_ hzz;have HNS:=h_ hns;have HNL:=h_ hnl;clear hzz hns hnl;clear HSL hb hj hv hFU hF hti hts hts' hM hws HMS HLN hll h00;go_enter func74,ntmps74;go_wp2_with fail;refine HW.out.mono ?_;rintro e w1 ⟨A,rfl,hA,hA2,hst,hb1⟩;have HST:=h_ hst;have HB1:=h_ hb1;clear hst hb1 HW;go_wp2_with fail;go_loopg [7,16] (ws.length+1) (fun f sv i wr=>∃k:Nat,k<=ws.length/\i=.int .i64 k/\ws.length-k<f/\Hid (Below w1.heap.size w1 wr)/\Hid (wr.ownsRow w1.heap.size 3 1 sv k (Xh ((ws.take k).map fun w=>(Ql w).1))))
 case atStart=>exact ⟨0,o_,rfl,o_,Below.refl _ _,World.ownsRow_nil _ _ _ _⟩
 case round=>
  obtain ⟨k,hk,rfl,hfu,HB,HO⟩:=hrel;obtain ⟨oa,cap,rfl⟩:=ownsRow_form HO.out;have hll:=HLL.out;by_cases hlt:k<ws.length
  ·have hz:(k:Int)<(ws.length:Int):=o_
   have d0:=(HST.out.below hA2 HB.out) k hlt;rw [Nat.zero_add] at d0;obtain ⟨x,hx⟩:=e_ (ws[k]);rw [<-hx] at d0;obtain ⟨n,b,hnb⟩:∃n b,Ql x=(n,b):=⟨_,_,rfl⟩;have hxl:x.length<=1000000000:=by rw [hx];exact HL.out _ (List.getElem_mem hlt)
   have HN:=h_ (Zak ⟨x.toArray⟩ wr n51_ n b hnb);have HSN:=h_ (show Xh ((ws.take (k+1)).map fun w=>(Ql w).1)=Xh ((ws.take k).map fun w=>(Ql w).1)++[.int .i64 n] by
    rw [List.take_succ_eq_append_getElem hlt,<-hx,List.map_append];simp [Xh,hnb])
   clear hx hnb;go_wp2_with fail;refine HN.out.mono ?_;rintro e w2 ⟨rfl,hb2⟩;have hB2:Below w1.heap.size w1 w2:=HB.out.trans (hb2.mono HB.out.size);have hB3:Below w2.heap.size w2 (w2.alloc (.cells #[.int .i64 n] 3)):=b_.alloc l_ _;obtain ⟨v',w4,hrun,hown4,hgrow⟩:=Xu (P:=prog) (w:=w2.alloc (.cells #[.int .i64 n] 3)) w1.heap.size 26 26 3 i0 (.int .i64 0) 1 8 underlying26 hi0 hz0 hz1 hz2 n19_ d_ _ _ _ (Zp (Zp HO.out hb2) hB3) (some ⟨w2.heap.size,0,none⟩) 1 1 [.int .i64 n] rfl (fun j' u hu=>⟨w2.heap.size,0,rfl,by rw [(rd (heap_alloc_new w2 _)).1,Nat.zero_add];simpa using hu⟩) n47_ (by unfold maxLen;have:=HLL.out;omega) (by have:=HLL.out;omega) (Nat.le_trans hB2.size hB3.size);have HRUN:=h_ hrun;have HO4:=h_ (show w4.ownsRow w1.heap.size 3 1 v' (k+1) (Xh ((ws.take (k+1)).map fun w=>(Ql w).1)) by rw [HSN.out];exact hown4);have HB4:=h_ (show Below w1.heap.size w1 w4 from (hB2.trans (hB3.mono hB2.size)).trans (below_grown hgrow (fun g hg=>(HO.out.lt g hg).1) (Nat.le_trans hB2.size hB3.size)));clear hb2 hB2 hB3 hrun hown4 hgrow HN;go_wp2_with (at_builtin;refine wpList_append_run rfl _ _ 26 rfl HRUN.out rfl rfl ?_);go_roundg (gk-1)
   case measure=>omega
   case rel=>exact ⟨k+1,o_,n14_,o_,HB4,HO4⟩
  ·have hk3:k=ws.length:=o_
   subst hk3;rw [List.take_of_length_le l_] at HO;have hnl:=HNL.out;rw [<-HNS.out] at HO;have HBW:=h_ (show Below w.heap.size w wr from HB1.out.trans (HB.out.mono HB1.out.size));obtain ⟨hb,hj,hv,hFU,hF⟩:=HV.out;have hO2:=HO.out;rw [<-hnl] at hO2;have hrow:=Qy.of_own hO2;have HON:=h_ (Zjq U j cs F l v wr (Za hb HBW.out) hj (hv.fr (M:=fun _=>False) (Fr.of_below HBW.out _) (fun _ _ e=>e)) hFU (fun k hk=>Nat.lt_of_lt_of_le (hF k hk) HBW.out.size) oa cap ns (by have:=HLL.out;omega) hrow (by
    intro b o e;subst e;have hlt:=hO2.lt b rfl;have hs1:=HB1.out.size;refine ⟨hlt.2,o_,fun h=>?_⟩
    have:=hF b h
    omega))
   have HCT:=h_ (fun W (h:Qy W oa ns)=>Zj1 oa cap ns 0 W (by have:=HLL.out;omega) h);rw [HZZ.out] at HCT;have HROW:=h_ hrow;have HNOT:=h_ (show ∀b o,oa=some ⟨b,o,none⟩->¬(b=U\/F b) from by
    intro b o e h;subst e;have hlt:=hO2.lt b rfl;have hs1:=HB1.out.size;rcases h with h|h
    ·omega
    ·have:=hF b h;omega)
   rw [hnl] at HON HCT;have HPB:=h_ (fun W' h=>Zh.below (w:=w) (w1:=wr) (w':=W') (U:=U) (cs:=cs) (j:=j) (Fj:=F) (c:=.ns (JQ l ns)) HBW.out h);clear hb hj hv hFU hF hO2 hrow hnl HNL HNS HL HLL HST;generalize ws.length=nw at *;go_wp2_with fail;refine (HSLH.out wr).mono ?_;rintro e w5 ⟨rfl,rfl⟩;go_wp2_with fail;refine HON.out.mono ?_;rintro e w5 ⟨rfl,hp⟩;have HPP:=h_ (HPB.out _ hp);have HR5:=h_ (HROW.out.fr (M:=fun k=>k=U\/F k) (by obtain ⟨_,_,_,_,hf,_⟩:=hp;exact hf) HNOT.out);clear hp HON;have hpn:=HPN.out w5;cases hjj:(j==21) with
   |false=>
    rw [hjj] at hpn;go_wp2_with fail;go_ret;exact ⟨by rw [hjj];rfl,HPP.out⟩
   |true=>
    rw [hjj] at hpn;go_wp2_with fail;refine (HCT.out w5 HR5.out).mono ?_;rintro e w6 ⟨rfl,rfl⟩;go_wp2_with fail;go_ret;exact ⟨by rw [hjj];cases z<;>rfl,HPP.out⟩
theorem Zhb(U j:Nat)(cs:Array Value)(F:Nat->Prop)(l:List Int)(v:Value)(w:World)(hb:w.heap[U]?=some (.cells cs 30 (0,0)))(hj:cs[j]?=some v)(hv:Yg w F (.ns l) v)(hFU:¬F U)(hF:∀k,F k->k<w.heap.size)(hl:l.length<=100000)(hM:ZA w)
  (kv:ZT) (hkl:kv.list=true) (HSL:∀W,Calls prog 114 #[.pointer (some ⟨U,0,none⟩),.string ⟨kv.name.toArray⟩] W fun e w'=>e=.returned (.pointer (some ⟨U,j,none⟩))/\w'=W) (val:Str) (hval:val.length<=100000000) :
  Calls prog 75 #[.pointer (some ⟨U,0,none⟩),.agg (Zv kv).toArray,.string ⟨val.toArray⟩] w fun e w'=>e=.returned (.tuple #[])/\Zh w w' U cs j F (.ns (QE l val (YT val).1)):=by
 obtain ⟨sec,name,form,list,kinds,wa,wn,wc⟩:=kv;unfold Zv;simp only at *;subst hkl;obtain ⟨n,b,hnb⟩:∃n b,YT val=(n,b):=⟨_,_,rfl⟩;have hB:=(Below.refl w.heap.size w).alloc l_ (.cells #[.string ⟨sec.toArray⟩,.string ⟨name.toArray⟩,.int .i64 form,.bool true,.int .i64 kinds,.slice wa wn wc] 66);have hbx:=heap_alloc_new w (.cells #[.string ⟨sec.toArray⟩,.string ⟨name.toArray⟩,.int .i64 form,.bool true,.int .i64 kinds,.slice wa wn wc] 66);have HSP:=h_ (ZaO ⟨val.toArray⟩ (w.alloc (.cells #[.string ⟨sec.toArray⟩,.string ⟨name.toArray⟩,.int .i64 form,.bool true,.int .i64 kinds,.slice wa wn wc] 66)) n26_ n b hnb);have HB:=h_ hB;have HBX:=h_ hbx;have HSLH:=h_ HSL;have HMR:=h_ (fun W (h:Below w.heap.size w W)=>Zkf U j cs F l v W (Za hb h) hj (hv.fr (M:=fun _=>False) (Fr.of_below h _) (fun _ _ e=>e)) hFU (fun k hk=>Nat.lt_of_lt_of_le (hF k hk) h.size) o_ val n);rw [hnb];clear hB hbx HSL hb hj hv hFU hF hM hnb;go_enter func75,ntmps75;go_wp2_with fail;refine HSP.out.mono ?_;rintro e w1 ⟨rfl,hb1⟩;have hbx1:=Za HBX.out hb1;have HB1:=h_ (HB.out.trans (hb1.mono HB.out.size));have q1:=((rd hbx1).1 1);have q3:=((rd hbx1).1 3);simp only [List.getElem?_toArray,List.getElem?_cons_zero,List.getElem?_cons_succ] at q1 q3;clear hbx1 hb1 HB HBX HSP;go_wp2_with fail;refine (HSLH.out w1).mono ?_;rintro e w2 ⟨rfl,rfl⟩;go_wp2_with fail;refine (HMR.out _ HB1.out).mono ?_;rintro e w3 ⟨rfl,hp⟩;have HPP:=h_ (Zh.below HB1.out hp);clear hp;go_wp2_with fail;go_end0;exact ⟨rfl,HPP.out⟩
theorem Zis(U j:Nat)(cs:Array Value)(F:Nat->Prop)(v:Value)(w:World)(hb:w.heap[U]?=some (.cells cs 30 (0,0)))(hj:cs[j]?=some v)(hv:∃n0:Int,v=.int .i64 n0)(hFU:¬F U)(hF:∀k,F k->k<w.heap.size)(hM:ZA w)
  (kv:ZT) (hkl:kv.list=false) (HSL:∀W,Calls prog 66 #[.pointer (some ⟨U,0,none⟩),.string ⟨kv.name.toArray⟩] W fun e w'=>e=.returned (.pointer (some ⟨U,j,none⟩))/\w'=W) (val:Str) (hval:val.length<=100000000) :
  Calls prog 75 #[.pointer (some ⟨U,0,none⟩),.agg (Zv kv).toArray,.string ⟨val.toArray⟩] w fun e w'=>e=.returned (.tuple #[])/\Zh w w' U cs j F (.n (YT val).1):=by
 obtain ⟨sec,name,form,list,kinds,wa,wn,wc⟩:=kv;unfold Zv;simp only at *;subst hkl;obtain ⟨n,b,hnb⟩:∃n b,YT val=(n,b):=⟨_,_,rfl⟩;have hB:=(Below.refl w.heap.size w).alloc l_ (.cells #[.string ⟨sec.toArray⟩,.string ⟨name.toArray⟩,.int .i64 form,.bool false,.int .i64 kinds,.slice wa wn wc] 66);have hbx:=heap_alloc_new w (.cells #[.string ⟨sec.toArray⟩,.string ⟨name.toArray⟩,.int .i64 form,.bool false,.int .i64 kinds,.slice wa wn wc] 66);have HSP:=h_ (ZaO ⟨val.toArray⟩ (w.alloc (.cells #[.string ⟨sec.toArray⟩,.string ⟨name.toArray⟩,.int .i64 form,.bool false,.int .i64 kinds,.slice wa wn wc] 66)) n26_ n b hnb);have HB:=h_ hB;have HBX:=h_ hbx;have HSLH:=h_ HSL;have HV:=h_ (And.intro hb hj);have HFU:=h_ hFU;rw [hnb];clear hB hbx HSL hb hj hv hFU hF hM hnb;go_enter func75,ntmps75;go_wp2_with fail;refine HSP.out.mono ?_;rintro e w1 ⟨rfl,hb1⟩;have hbx1:=Za HBX.out hb1;have HB1:=h_ (HB.out.trans (hb1.mono HB.out.size));have q1:=((rd hbx1).1 1);have q3:=((rd hbx1).1 3);simp only [List.getElem?_toArray,List.getElem?_cons_zero,List.getElem?_cons_succ] at q1 q3;clear hbx1 hb1 HB HBX HSP;have hbu:=Za HV.out.1 HB1.out;obtain ⟨u1,u2,u3,_⟩:=rd hbu;have u10:=(u1 j).trans HV.out.2;have u20:=u2 j;have HPP:=h_ (Zh.of_store (w:=w) (j:=j) (F:=F) (F':=fun _=>False) (c:=.n n) (v:=.int .i64 n) hbu rfl (Fr.of_below HB1.out _) rfl (fun k hk=>hk.elim) (fun e=>e));clear hbu u1 u2;go_wp2_with fail;refine (HSLH.out w1).mono ?_;rintro e w2 ⟨rfl,rfl⟩;go_wp2_with fail;go_end0;exact ⟨rfl,HPP.out⟩
end Go.Proofs.YtgoooebfhdbbkaaGreatDoor
