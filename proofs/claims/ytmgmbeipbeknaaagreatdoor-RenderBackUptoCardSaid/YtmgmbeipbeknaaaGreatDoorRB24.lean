import Derived.Deep.LoopGhost
import Derived.Deep.QuietTactic
import Derived.BigQuiet
import Derived.Test.YtmgmbeipbeknaaaGreatDoorRB2
import Derived.Test.YtmgmbeipbeknaaaGreatDoorRB14
import Derived.Test.YtmgmbeipbeknaaaGreatDoorRB23
namespace Go.Proofs.YtmgmbeipbeknaaaGreatDoor
open Go.Proofs.Tryz
open Go Go.RowKit
set_option linter.all false
set_option maxHeartbeats 16000000
set_option maxRecDepth 100000
theorem m59_{p:Prop}(h:p:=by obtain ⟨c5,f5,s5,_⟩:=rd HB5.out;have c50:=c5 j;have f50:=f5 j;rw [c15_ hjs] at c50;clear c5 f5;go_wp2_with fail;go_end0;exact ⟨rfl,HP2.out⟩):p:=h
theorem m60_{p:Prop}(h:p:=by intro i hi;obtain ⟨b,o,e,hc⟩:=h i hi;exact ⟨b,o,e,(World.cell?_of_block (hf.block b (World.block_lt_of_cell? w _ hc) (hM b o e))).trans hc⟩):p:=h
theorem ZjR{P:Program}{w:World}(base:Nat)(t ty e:TypeId)(i:TypeInfo)(z:Value)(size bytes:Nat)(ht:P.underlying t=some (.slice e))(hi:P.info? e=some i)(hz:i.zero=some z)
  (hsize:i.size=size) (hby:i.bytes=bytes) (hzs:z.cells.size=size) (hsz:0<size)
  (v:Value) (n:Nat) (xs:List Value) (hown:w.ownsRow base e size v n xs) (oa:Option Addr) (m c:Nat) (news:List Value) (hl:news.length=m*size)
  (hc:∀j u,news[j]?=some u->∃b o,oa=some ⟨b,o,none⟩/\w.cell? ⟨b,o+j,none⟩=some u) (h1:∀u∈news,u.oneCell'=true)
  (h63:n+m<=maxLen) (hbytes:(n+m)*bytes<=140737488355328) (hbase:base<=w.heap.size) :
  ∃v' w',(Builtin.append_ #[t,t] ty #[v,.slice oa m c]).run P w=.ok v' w'/\w'.ownsRow base e size v' (n+m) (xs++news)/\w.grownBy w' v.ownBlock/\(v'.ownBlock=v.ownBlock\/v'.ownBlock=some w.heap.size):=by
 obtain ⟨v',w',hrun,r1,r2⟩:=Xh (P:=P) base t ty e i z size bytes ht hi hz hsize hby hzs hsz v n xs hown oa m c news hl hc h1 h63 hbytes hbase;exact ⟨v',w',hrun,r1,r2,ZkE (P:=P) base t ty e i z size bytes ht hi hz hsize hby hzs hsz v v' n xs hown oa m c news hl hc h1 h63 hbytes hrun⟩
theorem Zsz:(prog.info? 49).map (fun i=>(i.zero,i.size,i.bytes))=some (some (.agg #[.bool false,.slice none 0 0]),2,32):=k_
theorem Zq.of_store{w w7:World}{U:Nat}{cs cs7:Array Value}{j:Nat}{F F':Nat->Prop}{c:UC}{v:Value}(hb:w7.heap[U]?=some (.cells cs7 28 (0,0)))(hcs:cs7.setIfInBounds j v=cs.setIfInBounds j v)
  (hf:Fr (fun k=>k=U\/F k) w w7) (hc:Y5 w7 F' c v) (hF:∀k,F' k->(F k\/w.heap.size<=k)/\k<w7.heap.size) (hU:¬F' U):Zq w (w7.setCell ⟨U,j,none⟩ v) U cs j F c:=by
 refine ⟨v,F',?_,hc.fr (M:=fun k=>k=U) (Fr.setCell (M:=fun k=>k=U) (Fr.refl _ _) (p:=⟨U,j,none⟩) (fun _=>rfl) _) (fun g hg e=>hU (e ▸ hg)),hf.setCell (p:=⟨U,j,none⟩) (fun _=>.inl rfl) _,fun k hk=>⟨(hF k hk).1,by simpa using (hF k hk).2⟩⟩;rw [<-hcs];exact heap_setCell hb j v
theorem set_set{cs:Array Value}{j:Nat}{x y:Value}:(cs.setIfInBounds j x).setIfInBounds j y=cs.setIfInBounds j y:=by
 apply Array.ext_getElem?;intro i;simp only [Array.getElem?_setIfInBounds,Array.size_setIfInBounds];split<;>rfl
theorem Zcn{P:Program}{w:World}(t ty e:TypeId)(i:TypeInfo)(z:Value)(size bytes:Nat)(ht:P.underlying t=some (.slice e))(hi:P.info? e=some i)(hz:i.zero=some z)
  (hsize:i.size=size) (hby:i.bytes=bytes) (hzs:z.cells.size=size) (hsz:0<size) {U:Nat} {cs:Array Value} {F:Nat->Prop} {v:Value} {n:Nat} {xs:List Value}
  (hb:w.heap[U]?=some (.cells cs 28 (0,0))) (hown:w.ownsRow 0 e size v n xs) (hin:∀g,v.ownBlock=some g->F g) (hFU:¬F U) (hn:n<=2000000000) (hby2:bytes<=64) (news:List Value) (hl:news.length=size) (h1:∀u∈news,u.oneCell'=true) :
  ∃oa cap w4,(Builtin.append_ #[t,t] ty #[v,.slice (some ⟨w.heap.size,0,none⟩) 1 1]).run P (w.alloc (.cells news.toArray e))=.ok (.slice oa (n+1) cap) w4/\w4.heap[U]?=some (.cells cs 28 (0,0))/\Fr (fun k=>k=U\/F k) w w4/\
   w4.ownsRow 0 e size (.slice oa (n+1) cap) (n+1) (xs++news)/\(∀g,(Value.slice oa (n+1) cap).ownBlock=some g->(F g\/w.heap.size<=g)/\g<w4.heap.size)/\(Value.slice oa (n+1) cap).ownBlock≠some U/\Fr (fun k=>v.ownBlock=some k) w w4:=by
 have hbU:=Zd hb;have hB1:Below w.heap.size w (w.alloc (.cells news.toArray e)):=b_.alloc l_ _;have hsz1:(w.alloc (.cells news.toArray e)).heap.size=w.heap.size+1:=s_;obtain ⟨v',w4,hrun,hown4,hgrow,hwh⟩:=ZjR (P:=P) 0 t ty e i z size bytes ht hi hz hsize hby hzs hsz v n xs (Zo hown hB1) (some ⟨w.heap.size,0,none⟩) 1 1 news (by rw [hl,Nat.one_mul]) (fun j u hu=>⟨w.heap.size,0,rfl,by rw [(rd (heap_alloc_new w _)).1,Nat.zero_add];simpa using hu⟩) h1 n23_ (by
  have:=Nat.mul_le_mul (show n+1<=2000000001 by omega) hby2
  omega) (Nat.zero_le _)
 have hb1:=Za hb hB1;have hne:some U≠v.ownBlock:=fun e=>hFU (hin U e.symm)
 obtain ⟨oa,cap,rfl⟩:=ownsRow_form hown4;refine ⟨oa,cap,w4,hrun,by rw [hgrow.block U (Zd hb1) hne];exact hb1,(Fr.of_below hB1 _).grown hgrow (fun k hk _=>.inr (hin k hk)),hown4,fun g hg=>⟨?_,(hown4.lt g hg).2⟩,fun e=>?_,(Fr.of_below hB1 _).grown hgrow (fun k hk _=>hk)⟩
 ·rcases hwh with h|h
  ·exact .inl (hin g (h ▸ hg))
  ·rw [h] at hg;injection hg with hg;right;omega
 ·rcases hwh with h|h
  ·exact hFU (hin U (h ▸ e))
  ·rw [h] at e;injection e with e;omega
theorem Zq.trans'{w w1 w2:World}{U:Nat}{cs:Array Value}{j:Nat}{F F':Nat->Prop}{c:UC}{v:Value}(h3:Fr (fun k=>k=U\/F k) w w1)(h4:∀k,F' k->(F k\/w.heap.size<=k)/\k<w1.heap.size)
  (h:Zq w1 w2 U (cs.setIfInBounds j v) j F' c):Zq w w2 U cs j F c:=by
 obtain ⟨v2,F2,a,b,c,d⟩:=h;rw [set_set] at a;refine ⟨v2,F2,a,b,h3.then' c ?_,fun k hk=>⟨?_,(d k hk).2⟩⟩
 ·rintro i hi (rfl|h5)
  ·exact .inl rfl
  ·rcases (h4 i h5).1 with h6|h6
   ·exact .inr h6
   ·omega
 ·rcases (d k hk).1 with h5|h5
  ·exact (h4 k h5).1
  ·exact .inr (Nat.le_trans h3.size h5)
theorem Zsr{cs:Array Value}{j:Nat}{v:Value}(h:cs[j]?=some v):cs.setIfInBounds j v=cs:=by
 apply Array.ext_getElem?;intro i;rw [Array.getElem?_setIfInBounds];split
 ·rename_i e;subst e
  have:=(c6_.1 h).1
  rw [if_pos this,h]
 ·rfl
theorem Zq.refl{w:World}{U:Nat}{cs:Array Value}{j:Nat}{F:Nat->Prop}{c:UC}{v:Value}(hb:w.heap[U]?=some (.cells cs 28 (0,0)))(hj:cs[j]?=some v)(hv:Y5 w F c v)(hF:∀k,F k->k<w.heap.size):Zq w w U cs j F c:=
 ⟨v,F,by rw [Zsr hj];exact hb,hv,Fr.refl _ _,fun k hk=>⟨.inl hk,hF k hk⟩⟩
theorem Zp.frM{w w':World}{M:Nat->Prop}{oa:Option Addr}{l:List Str}(h:Zp w oa l)(hf:Fr M w w')(hM:∀b o,oa=some ⟨b,o,none⟩->¬M b):Zp w' oa l:=by
 exact m60_
def Y8(w:World)(oa:Option Addr)(l:List Int):Prop:=
 ∀i (h:i<l.length),∃b o,oa=some ⟨b,o,none⟩/\w.cell? ⟨b,o+i,none⟩=some (.int .i64 l[i])
theorem Y8.fr{w w':World}{M:Nat->Prop}{oa:Option Addr}{l:List Int}(h:Y8 w oa l)(hf:Fr M w w')(hM:∀b o,oa=some ⟨b,o,none⟩->¬M b):Y8 w' oa l:=by
 exact m60_
theorem Y8.of_own{w:World}{base:Nat}{e:TypeId}{oa:Option Addr}{n cap:Nat}{l:List Int}(h:w.ownsRow base e 1 (.slice oa n cap) n (XK l)):Y8 w oa l:=by
 intro i hi;have hn:l.length=n:=by have:=h.1;rw [Ziv] at this;omega
 rcases h.2 with ⟨_,h0⟩|⟨g,cap',cur,hv,hb,hg,hnc,hcm,hcs,ht⟩
 ·omega
 ·injection hv with e1
  refine ⟨g,0,e1,?_⟩;rw [(rd hg).1,Nat.zero_add];have h2:=congrArg (fun l=>l[i]?) ht;simp only [Nat.mul_one,List.getElem?_take] at h2;rw [if_pos o_] at h2;simpa [XK,hi] using h2
theorem ZmD(U j:Nat)(cs:Array Value)(F:Nat->Prop)(l:List Int)(v:Value)(w:World)(hb:w.heap[U]?=some (.cells cs 28 (0,0)))(hj:cs[j]?=some v)(hv:Y5 w F (.ns l) v)(hFU:¬F U)(hF:∀k,F k->k<w.heap.size)(hl:l.length<=1000000000)(val:Str)(x:Int) :
  Calls prog 215 #[.pointer (some ⟨U,j,none⟩),.string ⟨val.toArray⟩,.int .i64 x] w fun e w'=>e=.returned (.tuple #[])/\Zq w w' U cs j F (.ns (Xf l val x)):=by
 obtain ⟨i0,hi0,hz0,hz1,hz2⟩:=info_parts ZgL;have HU:=h_ hFU;have HF:=h_ hF;obtain ⟨hown,hin⟩:=hv;obtain ⟨oa,cap,rfl⟩:=ownsRow_form hown;have hbU:=Zd hb;obtain ⟨oa2,cap2,w4,hrun,hb4,hf4,hown4,hF4,hU4,-⟩:=Zcn (P:=prog) 24 24 3 i0 (.int .i64 0) 1 8 underlying24 hi0 hz0 hz1 hz2 n18_ d_ hb hown hin hFU o_ d_ [.int .i64 x] rfl (by intro u hu;simp at hu;rcases hu with rfl|rfl<;>rfl);have HRUN:=h_ hrun;have hc4:Y5 w4 (fun g=>(Value.slice oa2 (l.length+1) cap2).ownBlock=some g) (.ns (l++[x])) (.slice oa2 (l.length+1) cap2):=⟨by rw [show XK (l++[x])=XK l++[.int .i64 x] by simp [XK],c5_];exact hown4,fun g hg=>hg⟩;have HP1:=h_ (Zq.of_store (j:=j) hb4 rfl hf4 hc4 hF4 hU4);have c0:w.cell? ⟨U,j,none⟩=some (.slice oa l.length cap):=n106_;have hjs:j<cs.size:=(c6_.1 hj).1;have c1:w4.cell? ⟨U,j,none⟩=some (.slice oa l.length cap):=by rw [(rd hb4).1];exact hj
 obtain ⟨_,f4,s4,_⟩:=rd hb4;have f40:=f4 j;have hb5:=heap_setCell hb4 j (.slice oa2 (l.length+1) cap2);have HB5:=h_ hb5;have HP2:=h_ (Zq.of_store (j:=j) (F':=fun _=>False) (c:=.ns []) (v:=.slice none 0 0) hb5 set_set ((hf4.setCell (p:=⟨U,j,none⟩) (fun _=>.inl rfl) _)) ⟨World.ownsRow_nil _ _ _ _,fun g hg=>by simp [Value.ownBlock] at hg⟩ (fun k hk=>hk.elim) (fun e=>e));have hne2:U≠w.heap.size:=o_;clear hb hj hown hin hFU hF hrun hown4 hb4 hc4 hF4 hU4 hf4 f4 hb5 HU HF;unfold Xf;cases val with
 |nil=>
  rw [if_pos rfl];go_enter func215,ntmps215;go_wp2_with (at_builtin;refine wpList_append_run rfl _ _ 24 rfl HRUN.out rfl rfl ?_);exact m59_
 |cons a t=>
  rw [if_neg s_];go_enter func215,ntmps215;go_wp2_with (at_builtin;refine wpList_append_run rfl _ _ 24 rfl HRUN.out rfl rfl ?_);go_wp2_with fail;go_end0;exact ⟨rfl,HP1.out⟩
theorem ZmZ(U j:Nat)(cs:Array Value)(F:Nat->Prop)(l:List Str)(v:Value)(w:World)(hb:w.heap[U]?=some (.cells cs 28 (0,0)))(hj:cs[j]?=some v)(hv:Y5 w F (.ss l) v)(hFU:¬F U)(hF:∀k,F k->k<w.heap.size)(hl:l.length<=1000000000)(val:Str)(x:Str) :
  Calls prog 144 #[.pointer (some ⟨U,j,none⟩),.string ⟨val.toArray⟩,.string ⟨x.toArray⟩] w fun e w'=>e=.returned (.tuple #[])/\Zq w w' U cs j F (.ss (Xf l val x)):=by
 obtain ⟨i0,hi0,hz0,hz1,hz2⟩:=info_parts ZkN;have HU:=h_ hFU;have HF:=h_ hF;obtain ⟨hown,hin⟩:=hv;obtain ⟨oa,cap,rfl⟩:=ownsRow_form hown;have hbU:=Zd hb;obtain ⟨oa2,cap2,w4,hrun,hb4,hf4,hown4,hF4,hU4,-⟩:=Zcn (P:=prog) 26 26 9 i0 (.string ⟨#[]⟩) 1 16 underlying26 hi0 hz0 hz1 hz2 n18_ d_ hb hown hin hFU o_ d_ [.string ⟨x.toArray⟩] rfl (by intro u hu;simp at hu;rcases hu with rfl|rfl<;>rfl);have HRUN:=h_ hrun;have hc4:Y5 w4 (fun g=>(Value.slice oa2 (l.length+1) cap2).ownBlock=some g) (.ss (l++[x])) (.slice oa2 (l.length+1) cap2):=⟨by rw [Xc,c5_];exact hown4,fun g hg=>hg⟩;have HP1:=h_ (Zq.of_store (j:=j) hb4 rfl hf4 hc4 hF4 hU4);have c0:w.cell? ⟨U,j,none⟩=some (.slice oa l.length cap):=n106_;have hjs:j<cs.size:=(c6_.1 hj).1;have c1:w4.cell? ⟨U,j,none⟩=some (.slice oa l.length cap):=by rw [(rd hb4).1];exact hj
 obtain ⟨_,f4,s4,_⟩:=rd hb4;have f40:=f4 j;have hb5:=heap_setCell hb4 j (.slice oa2 (l.length+1) cap2);have HB5:=h_ hb5;have HP2:=h_ (Zq.of_store (j:=j) (F':=fun _=>False) (c:=.ss []) (v:=.slice none 0 0) hb5 set_set ((hf4.setCell (p:=⟨U,j,none⟩) (fun _=>.inl rfl) _)) ⟨World.ownsRow_nil _ _ _ _,fun g hg=>by simp [Value.ownBlock] at hg⟩ (fun k hk=>hk.elim) (fun e=>e));have hne2:U≠w.heap.size:=o_;clear hb hj hown hin hFU hF hrun hown4 hb4 hc4 hF4 hU4 hf4 f4 hb5 HU HF;unfold Xf;cases val with
 |nil=>
  rw [if_pos rfl];go_enter func144,ntmps144;go_wp2_with (at_builtin;refine wpList_append_run rfl _ _ 26 rfl HRUN.out rfl rfl ?_);exact m59_
 |cons a t=>
  rw [if_neg s_];go_enter func144,ntmps144;go_wp2_with (at_builtin;refine wpList_append_run rfl _ _ 26 rfl HRUN.out rfl rfl ?_);go_wp2_with fail;go_end0;exact ⟨rfl,HP1.out⟩
theorem Zwh(x y:Str×Str)(w:World):(Op.equalIn 10000 64 (.agg #[.string ⟨x.1.toArray⟩,.string ⟨x.2.toArray⟩]) (.agg #[.string ⟨y.1.toArray⟩,.string ⟨y.2.toArray⟩])).run prog w=.ok (decide (x=y)) w:=by
 have u3:=underlying3;have u9:=underlying9;have a3:=isAgg3;have z3:=sizeOf3;have a9:=isAgg9;have z9:=sizeOf9;have hS:prog.underlying 64=some (.struct (prog.fieldsOf 64)):=k_;have hp:prog.stoodInHeld 64=false:=k_;rw [show (10000:Nat)=9999+1 from rfl,run_equalIn_agg w 9999 64 _ _ hS hp];simp only [Program.fieldsOf,underlying64];go_simp;obtain ⟨x1,x2⟩:=x;obtain ⟨y1,y2⟩:=y;by_cases h1:x1=y1<;>by_cases h2:x2=y2<;>simp [h1,h2]
theorem Zg8(x y:Str×Str)(b:Bool)(h:decide (x=y)=b)(w:World):(binOp .neq 64 (.agg #[.string ⟨x.1.toArray⟩,.string ⟨x.2.toArray⟩]) (.agg #[.string ⟨y.1.toArray⟩,.string ⟨y.2.toArray⟩])).run prog w=.ok (.bool !b) w:=by
 rw [run_neq_struct,Zwh,h];rfl
theorem Zt1:prog.eqGuardType prog.depth 64=false:=k_
theorem Zfv(op:BinOp)(x y:Operand)(xs ys:Array Value)(w:World):(eqGuard op 64 x y (.agg xs) (.agg ys)).run prog w=.ok () w:=run_eqGuard_agg w op _ x y xs ys Zt1
theorem YU{P:Program}{ops:Array Oper}{o:Oper}{a:Act}{w w':World}{K:Act->World->Prop}{Q:Exit->Act->World->Prop}{E:Prop}{v v' xv:Value}(hw:Region.wanted o (yielded ops a.tmps)=true)(s x:Operand)(t:TypeId)
  (hop:o.op=Op.call { callee:=Callee.builtin Builtin.append,args:=#[s,x],argTypes:=#[t,t] }) (hr:(Builtin.append_ #[t,t] o.type #[v,xv]).run P w=.ok v' w') (hs:a.eval s=v) (hx:a.eval x=xv) (hK:K (a.put o.dst v') w') :
  if Region.wanted o (yielded ops a.tmps)=true then Oper.wp P o a w K Q else E:=by
 rw [if_pos hw];unfold Oper.wp;simp [execOp,hop,resolve,invoke,builtin,hs,hx,hr,Result.andThen];exact hK
theorem own_ne{w:World}{B B' e e' k k' n n':Nat}{v v':Value}{xs xs':List Value}(h:w.ownsRow B e k v n xs)(h':w.ownsRow B' e' k' v' n' xs')(he:e≠e'):∀g,v.ownBlock=some g->v'.ownBlock≠some g:=by
 intro g hg hg';rcases h.2 with ⟨rfl,_⟩|⟨g1,cap,cur,rfl,_,hh,_⟩
 ·simp [Value.ownBlock] at hg
 ·rcases h'.2 with ⟨rfl,_⟩|⟨g2,cap2,cur2,rfl,_,hh2,_⟩
  ·simp [Value.ownBlock] at hg'
  ·simp only [Value.ownBlock,Option.some.injEq] at hg hg'
   subst hg;subst hg';rw [hh] at hh2;injection hh2 with hh2;injection hh2 with _ h3 _
   exact he h3
theorem Zka(U j:Nat)(cs:Array Value)(F:Nat->Prop)(l:List Zar)(v:Value)(w:World)(hb:w.heap[U]?=some (.cells cs 28 (0,0)))(hj:cs[j]?=some v)(hv:Y5 w F (.cs l) v)(hFU:¬F U)(hF:∀k,F k->k<w.heap.size)(hl:l.length<=1000000000)(val:Str)(x:Zdy)(c:Zar)
  (G:Nat->Prop) (hx:ZcM w G x c) (hG:∀k,G k->k≠U/\¬F k/\k<w.heap.size) :
  Calls prog 141 #[.pointer (some ⟨U,j,none⟩),.string ⟨val.toArray⟩,.agg (Zi6 x).toArray] w fun e w'=>e=.returned (.tuple #[])/\Zq w w' U cs j (fun k=>F k\/G k) (.cs (Xf l val c)):=by
 obtain ⟨i0,hi0,hz0,hz1,hz2⟩:=info_parts Zsz;obtain ⟨xs,hxl,hown,hin,hcm⟩:=hv;rw [<-hxl] at hown;obtain ⟨oa,cap,rfl⟩:=ownsRow_form hown;have hbU:=Zd hb;have hB1:Below w.heap.size w (w.alloc (.cells #[.bool x.dash,.slice x.wa x.wn x.wc] 49)):=b_.alloc l_ _;have hB2:Below w.heap.size w (w.alloc (.cells #[.bool x.dash,.slice x.wa x.wn x.wc] 49)).drew:=hB1.trans (Ze ⟨1,rfl⟩);obtain ⟨w2,hw2⟩:=e_ ((w.alloc (.cells #[.bool x.dash,.slice x.wa x.wn x.wc] 49)).drew);have hbx:w2.heap[w.heap.size]?=some (.cells #[.bool x.dash,.slice x.wa x.wn x.wc] 49 (0,0)):=by rw [hw2];exact heap_alloc_new w _
 rw [<-hw2] at hB2;have hb2:=Za hb hB2;have hown2:=Zo hown hB2;have hF2:∀k,F k->k<w2.heap.size:=fun k hk=>c16_ (hF k hk) hB2.size
 obtain ⟨oa2,cap2,w4,hrun,hb4,hf4,hown4,hF4,hU4,hfo⟩:=Zcn (P:=prog) 23 23 49 i0 (.agg #[.bool false,.slice none 0 0]) 2 32 underlying23 hi0 hz0 hz1 hz2 n18_ d_ hb2 hown2 hin hFU o_ d_ [.bool x.dash,.slice x.wa x.wn x.wc] rfl (by intro u hu;simp at hu;rcases hu with rfl|rfl<;>rfl);rw [show w2.heap.size=w.heap.size+1 by rw [hw2];simp] at hrun;have HRUN:=h_ hrun;have hfw:Fr (fun k=>k=U\/(F k\/G k)) w w4:=(Fr.of_below hB2 _).trans (hf4.mono (fun i hi h=>h.imp id .inl));have hown5:w4.ownsRow 0 49 2 (.slice oa2 (xs.length+1) cap2) (l++[c]).length (Zx Zi6 (xs++[x])):=by
  rw [ZT,QJ,c5_,<-hxl];exact hown4
 have hkeep:∀{y:Zdy} {d:Zar} {H:Nat->Prop},ZcM w H y d->ZcM w4 H y d:=fun {y d H} h=>by
  have h2:w2.ownsRow 0 9 1 (.slice y.wa y.wn y.wc) y.wn (Zh d.2):=Zo h.row hB2;exact ⟨h.dash,h.wn,Z4 h2 hfo (fun g hg _=>own_ne h2 hown2 d_ g hg),h.inF⟩
 have hc4:Y5 w4 (fun g=>(Value.slice oa2 (xs.length+1) cap2).ownBlock=some g\/(F g\/G g)) (.cs (l++[c])) (.slice oa2 (xs.length+1) cap2):=by
  refine ⟨xs++[x],by simp [hxl],hown5,fun g hg=>.inl hg,fun i h1 h2=>?_⟩;by_cases hi:i<xs.length
  ·rw [List.getElem_append_left hi,List.getElem_append_left o_]
   exact (hkeep (hcm i hi o_)).mono fun g hg=>.inr (.inl hg)
  ·have e1:i=xs.length:=by simp at h1;omega
   subst e1;rw [List.getElem_append_right l_,List.getElem_append_right o_];simp only [Nat.sub_self,List.getElem_cons_zero,hxl];exact (hkeep hx).mono fun g hg=>.inr (.inr hg)
 have hF5:∀k,((Value.slice oa2 (xs.length+1) cap2).ownBlock=some k\/(F k\/G k))->((F k\/G k)\/w.heap.size<=k)/\k<w4.heap.size:=by
  rintro k (hk|hk|hk)
  ·refine ⟨?_,(hF4 k hk).2⟩
   rcases (hF4 k hk).1 with h|h
   ·exact .inl (.inl h)
   ·exact .inr (Nat.le_trans hB2.size h)
  ·exact ⟨.inl (.inl hk),c16_ (hF k hk) hfw.size⟩
  ·exact ⟨.inl (.inr hk),c16_ (hG k hk).2.2 hfw.size⟩
 have hU5:¬((Value.slice oa2 (xs.length+1) cap2).ownBlock=some U\/(F U\/G U)):=by
  rintro (h|h|h)
  ·exact hU4 h
  ·exact hFU h
  ·exact (hG U h).1 rfl
 have HP1:=h_ (Zq.of_store (j:=j) hb4 rfl hfw hc4 hF5 hU5);have hjs:j<cs.size:=(c6_.1 hj).1;have c1:w4.cell? ⟨U,j,none⟩=some (.slice oa xs.length cap):=by rw [(rd hb4).1];exact hj
 obtain ⟨_,f4,s4,_⟩:=rd hb4;have f40:=f4 j;have hb5:=heap_setCell hb4 j (.slice oa2 (xs.length+1) cap2);have HB5:=h_ hb5;have HP2:=h_ (Zq.of_store (j:=j) (F':=fun _=>False) (c:=.cs []) (v:=.slice none 0 0) hb5 set_set (hfw.setCell (p:=⟨U,j,none⟩) (fun _=>.inl rfl) _) ⟨[],rfl,World.ownsRow_nil _ _ _ _,(fun g hg=>by simp [Value.ownBlock] at hg),fun i h1 h2=>absurd h1 s_⟩ (fun k hk=>hk.elim) (fun e=>e));have HJ:=h_ hj;have HS:=h_ (And.intro (Za hb hB1) (heap_alloc_new w (.cells #[.bool x.dash,.slice x.wa x.wn x.wc] 49)));have HS2:=h_ (And.intro (Za hb2 ((Below.refl w2.heap.size w2).alloc l_ (.cells #[.bool x.dash,.slice x.wa x.wn x.wc] 49))) (Za hbx ((Below.refl w2.heap.size w2).alloc l_ (.cells #[.bool x.dash,.slice x.wa x.wn x.wc] 49))));have HBX4:=h_ (show w4.heap[w.heap.size]?=some (.cells #[.bool x.dash,.slice x.wa x.wn x.wc] 49 (0,0)) from by
  rw [hfo.block _ (Zd hbx) (fun e=>by have:=hF _ (hin _ e);omega)];exact hbx)
 have HB4:=h_ hb4;subst hw2;unfold Zi6;clear hxl hb hj hown hin hcm hFU hF hx hG hB1 hB2 hbx hb2 hown2 hF2 hrun hb4 hf4 hown4 hF4 hU4 hfo hfw hown5 hkeep hc4 hF5 hU5 f4 hb5;unfold Xf;cases val with
 |nil=>
  rw [if_pos rfl];go_enter func141,ntmps141;go_wp2_with fail;refine Zk (S:=fun V=>V.heap[U]?=some (.cells cs 28 (0,0))/\V.heap[w.heap.size]?=some (.cells #[.bool x.dash,.slice x.wa x.wn x.wc] 49 (0,0))) 7 k_ k_ HS.out (fun hHeld=>?_);refine u_ ?_;(iterate 5 refine dN_ 0 (gT_ rfl) (fun W hW=>by have q0:=((rd hW.1).1 j).trans HJ.out;obtain ⟨q1,q2⟩:=XV hW.2;clear hW;go_simp;rfl) (u_ ?_));refine Zu (i:=5) (gT_ rfl) k_ k_ (fun K hK=>?_);clear hHeld;rw [if_pos n18_];go_simp;refine hK.out _ _ HS2.out (fun hHeld=>?_);clear hK K;refine u_ ?_;refine Zu (i:=6) (gT_ rfl) k_ k_ (fun K hK=>?_);clear hHeld;refine YU n18_ (.tmp 9) (.tmp 11) 23 n18_ HRUN.out n18_ n18_ ?_;refine hK.out _ _ ⟨HB4.out,HBX4.out⟩ (fun hHeld=>?_);clear hK K;refine u_ ?_;refine ZF k_ ?_;clear hHeld;go_wp2_with fail;obtain ⟨c5,f5,s5,_⟩:=rd HB5.out;have c50:=c5 j;have f50:=f5 j;rw [c15_ hjs] at c50;clear c5 f5;go_wp2_with fail;go_end0;exact ⟨rfl,HP2.out⟩
 |cons a t=>
  rw [if_neg s_];go_enter func141,ntmps141;go_wp2_with fail;refine Zk (S:=fun V=>V.heap[U]?=some (.cells cs 28 (0,0))/\V.heap[w.heap.size]?=some (.cells #[.bool x.dash,.slice x.wa x.wn x.wc] 49 (0,0))) 7 k_ k_ HS.out (fun hHeld=>?_);refine u_ ?_;(iterate 5 refine dN_ 0 (gT_ rfl) (fun W hW=>by have q0:=((rd hW.1).1 j).trans HJ.out;obtain ⟨q1,q2⟩:=XV hW.2;clear hW;go_simp;rfl) (u_ ?_));refine Zu (i:=5) (gT_ rfl) k_ k_ (fun K hK=>?_);clear hHeld;rw [if_pos n18_];go_simp;refine hK.out _ _ HS2.out (fun hHeld=>?_);clear hK K;refine u_ ?_;refine Zu (i:=6) (gT_ rfl) k_ k_ (fun K hK=>?_);clear hHeld;refine YU n18_ (.tmp 9) (.tmp 11) 23 n18_ HRUN.out n18_ n18_ ?_;refine hK.out _ _ ⟨HB4.out,HBX4.out⟩ (fun hHeld=>?_);clear hK K;refine u_ ?_;refine ZF k_ ?_;clear hHeld;go_wp2_with fail;go_end0;exact ⟨rfl,HP1.out⟩
theorem m61_{p:Prop}(h:p:=by
  split
  ·rename_i hw;rw [if_pos hw] at h2;exact .inl h2
  ·rename_i hw;rw [if_neg hw] at h2;exact h2):p:=h
section
variable {P:Program} {ops:Array Oper} {Q:Exit->Act->World->Prop} {md:Region.Mode} {S:World->Prop}
theorem ZjA{n i j:Nat}{oi oj:Oper}{f:Nat}{b:Array Bool}{a:Act}{w:World}(hi:ops[i]?=some oi)(hj:ops[j]?=some oj)(hin:decide (i<n)=true)(hjn:decide (j<n)=true)(hr:Region.ready md ops b=[i,j])
  (h1:∀K:Act->World->Prop,Shut (∀a' w',S w'->(S w'->ZbZ P md ops Q S n f (b.setIfInBounds i true) a' w')->K a' w')->if Region.wanted oi (yielded ops a.tmps)=true then Oper.wp P oi a w K Q else K (a.put oi.dst undef) w)
  (h2:∀K:Act->World->Prop,Shut (∀a' w',S w'->(S w'->ZbZ P md ops Q S n f (b.setIfInBounds j true) a' w')->K a' w')->if Region.wanted oj (yielded ops a.tmps)=true then Oper.wp P oj a w K Q else K (a.put oj.dst undef) w):ZbZ P md ops Q S n (f+1) b a w:=by
 have hin:=of_decide_eq_true hin;have hjn:=of_decide_eq_true hjn;intro inv;have hm1:i∈Region.ready md ops b:=by rw [hr];simp
 have hm2:j∈Region.ready md ops b:=by rw [hr];simp
 refine ⟨by rw [hr];simp,fun k hk=>?_⟩;rw [hr] at hk;obtain rfl|rfl:k=i\/k=j:=by simpa using hk
 ·refine ⟨hin,?_⟩
  unfold wpOp;simp only [hi];have h2:=h1 (fun a' w'=>S w'/\Zgc P md ops Q S n (Zpu P md ops Q n) f (b.setIfInBounds k true) a' w') (fun a' w' hS q=>⟨hS,q hS (inv.set hm1 hin)⟩);exact m61_
 ·refine ⟨hjn,?_⟩
  unfold wpOp;simp only [hj];have h2:=h2 (fun a' w'=>S w'/\Zgc P md ops Q S n (Zpu P md ops Q n) f (b.setIfInBounds k true) a' w') (fun a' w' hS q=>⟨hS,q hS (inv.set hm2 hjn)⟩);exact m61_
end
theorem Zlz{P:Program}{w:World}(t ty e:TypeId)(i:TypeInfo)(z:Value)(size bytes:Nat)(ht:P.underlying t=some (.slice e))(hi:P.info? e=some i)(hz:i.zero=some z)
  (hsize:i.size=size) (hby:i.bytes=bytes) (hzs:z.cells.size=size) (hsz:0<size) {U:Nat} {cs:Array Value} {F:Nat->Prop} {v:Value} {n:Nat} {xs:List Value}
  (hb:w.heap[U]?=some (.cells cs 28 (0,0))) (hown:w.ownsRow 0 e size v n xs) (hin:∀g,v.ownBlock=some g->F g) (hFU:¬F U) (hn:n<=2000000000) (hby2:bytes<=64) (A:Nat) (news:List Value) (hl:news.length=size) (h1:∀u∈news,u.oneCell'=true)
  (hc:∀j u,news[j]?=some u->w.cell? ⟨A,j,none⟩=some u) :
  ∃oa cap w4,(Builtin.append_ #[t,t] ty #[v,.slice (some ⟨A,0,none⟩) 1 1]).run P w=.ok (.slice oa (n+1) cap) w4/\w4.heap[U]?=some (.cells cs 28 (0,0))/\Fr (fun k=>k=U\/F k) w w4/\
   w4.ownsRow 0 e size (.slice oa (n+1) cap) (n+1) (xs++news)/\(∀g,(Value.slice oa (n+1) cap).ownBlock=some g->(F g\/w.heap.size<=g)/\g<w4.heap.size)/\(Value.slice oa (n+1) cap).ownBlock≠some U/\Fr (fun k=>v.ownBlock=some k) w w4:=by
 obtain ⟨v',w4,hrun,hown4,hgrow,hwh⟩:=ZjR (P:=P) 0 t ty e i z size bytes ht hi hz hsize hby hzs hsz v n xs hown (some ⟨A,0,none⟩) 1 1 news (by rw [hl,Nat.one_mul]) (fun j u hu=>⟨A,0,rfl,by rw [Nat.zero_add];exact hc j u hu⟩) h1 n23_ (by
  have:=Nat.mul_le_mul (show n+1<=2000000001 by omega) hby2
  omega) (Nat.zero_le _)
 have hbU:=Zd hb;have hne:some U≠v.ownBlock:=fun e=>hFU (hin U e.symm)
 obtain ⟨oa,cap,rfl⟩:=ownsRow_form hown4;refine ⟨oa,cap,w4,hrun,by rw [hgrow.block U hbU hne];exact hb,(Fr.refl _ _).grown hgrow (fun k hk _=>.inr (hin k hk)),hown4,fun g hg=>⟨?_,(hown4.lt g hg).2⟩,fun e=>?_,(Fr.refl _ _).grown hgrow (fun k hk _=>hk)⟩
 ·rcases hwh with h|h
  ·exact .inl (hin g (h ▸ hg))
  ·rw [h] at hg;injection hg with hg;right;omega
 ·rcases hwh with h|h
  ·exact hFU (hin U (h ▸ e))
  ·rw [h] at e;injection e with e;omega
theorem ZG.frM{α:Type}{enc:α->List Value}{k:Nat}{w w':World}{M:Nat->Prop}{oa:Option Addr}{l:List α}(h:ZG enc k w oa l)(hf:Fr M w w')(hM:∀b o,oa=some ⟨b,o,none⟩->¬M b):ZG enc k w' oa l:=by
 intro i hi;obtain ⟨b,o,e,hlt,hc⟩:=h i hi;exact ⟨b,o,e,c16_ hlt hf.size,fun j v hv=>(World.cell?_of_block (hf.block b hlt (hM b o e))).trans (hc j v hv)⟩
end Go.Proofs.YtmgmbeipbeknaaaGreatDoor
