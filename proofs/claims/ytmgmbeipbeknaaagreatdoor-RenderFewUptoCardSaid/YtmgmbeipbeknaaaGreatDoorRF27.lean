import Derived.Laws.StructEq
import Derived.Deep.QuietTactic
import Derived.BigQuiet
import Derived.Test.YtmgmbeipbeknaaaGreatDoorRF2
import Derived.Test.YtmgmbeipbeknaaaGreatDoorRF4
import Derived.Test.YtmgmbeipbeknaaaGreatDoorRF9
import Derived.Test.YtmgmbeipbeknaaaGreatDoorRF17
import Derived.Test.YtmgmbeipbeknaaaGreatDoorRF26
namespace Go.Proofs.YtmgmbeipbeknaaaGreatDoor
open Go Go.RowKit
set_option linter.unusedVariables false
set_option linter.unusedSimpArgs false
set_option maxHeartbeats 16000000
set_option maxRecDepth 100000
theorem m58_{p:Prop}(h:p:=by rw [QE base t ty e i size ht hi _ _ xs hown c] at hr;injection hr with hr _;rw [<-hr]):p:=h
theorem Zh6{P:Program}{w w':World}(base:Nat)(t ty e:TypeId)(i:TypeInfo)(z:Value)(size bytes:Nat)(ht:P.underlying t=some (.slice e))(hi:P.info? e=some i)(hz:i.zero=some z)
  (hsize:i.size=size) (hby:i.bytes=bytes) (hzs:z.cells.size=size) (hsz:0<size)
  (v v':Value) (n:Nat) (xs:List Value) (hown:w.ownsRow base e size v n xs) (oa:Option Addr) (m c:Nat) (news:List Value) (hl:news.length=m*size)
  (hc:∀j u,news[j]?=some u->∃b o,oa=some ⟨b,o,none⟩/\w.cell? ⟨b,o+j,none⟩=some u) (h1:∀u∈news,u.oneCell'=true)
  (h63:n+m<=maxLen) (hbytes:(n+m)*bytes<=140737488355328) (hr:(Builtin.append_ #[t,t] ty #[v,.slice oa m c]).run P w=.ok v' w') :
  v'.ownBlock=v.ownBlock\/v'.ownBlock=some w.heap.size:=by
 have hsmall:n+m<=9223372036854775807:=by simp only [maxLen] at h63;omega
 by_cases hm:news=[]
 ·subst hm
  have hm0:m=0:=by
   rcases Nat.eq_zero_or_pos m with h|h
   ·exact h
   ·have:=Nat.mul_pos h hsz;simp at hl;omega
  subst hm0;left;rcases hown.2 with ⟨rfl,rfl⟩|⟨g,cap,cur,rfl,_,hg,hnc,hcm,hcs,ht'⟩
  ·cases oa with
   |none=>
    exact m58_
   |some a=>
    have:(Builtin.append_ #[t,t] ty #[.slice none 0 0,.slice (some a) 0 c]).run P w=.ok (.slice none 0 0) w:=by
     simp [Builtin.append_,run_underlying ht,sizeOf,typeInfo,hi,Builtin.lenOf,Builtin.firstCells,loadCells,loadCellsFrom]
    rw [this] at hr;injection hr with hr _;rw [<-hr]
  ·cases oa with
   |none=>
    exact m58_
   |some a=>
    subst hsize
    have:=run_append_room (P:=P) w t ty e i ht hi g n cap cur hg a 0 c [] s_ s_ s_ o_ (by simp;rw [hcs];exact Nat.mul_le_mul_right _ hnc)
    rw [this] at hr;injection hr with hr _;rw [<-hr];rfl
 ·obtain ⟨u,r,rfl⟩:∃u r,news=u::r:=by
   cases news with
   |nil=>exact absurd rfl hm
   |cons u r=>exact ⟨u,r,rfl⟩
  obtain ⟨b,o,e1,_⟩:=hc 0 u rfl;subst e1;have hadd:∀j,(⟨b,o,none⟩:Addr).add j=⟨b,o+j,none⟩:=by intro j;unfold Addr.add;split<;>simp_all
  have hnews:∀j x,(u::r)[j]?=some x->w.cell? ((⟨b,o,none⟩:Addr).add j)=some x:=by
   intro j x hx;obtain ⟨b',o',e2,h5⟩:=hc j x hx;injection e2 with e2;injection e2 with e3 e4;subst e3;subst e4
   rw [hadd];exact h5
  have hmp:0<m:=by
   rcases Nat.eq_zero_or_pos m with h|h
   ·subst h;simp at hl
   ·exact h
  subst hsize;subst hby;rcases hown.2 with ⟨rfl,rfl⟩|⟨g,cap,cur,rfl,_,hg,hnc,hcm,hcs,htake⟩
  ·have:=run_append_nil (P:=P) w t ty e i z ht hi hz ⟨b,o,none⟩ m c (u::r) hl hnews o_ o_ (by have hb:=hbytes;simp only [Nat.zero_add] at hb;omega)
   rw [this] at hr;injection hr with hr _;rw [<-hr]
   right;rfl
  ·by_cases hroom:n+m<=cap
   ·have hfit:n*i.size+(u::r).length<=cur.size:=by rw [hl,hcs,<-Nat.add_mul];exact Nat.mul_le_mul_right _ hroom
    have:=run_append_room (P:=P) w t ty e i ht hi g n cap cur hg ⟨b,o,none⟩ m c (u::r) hl hnews h1 hroom hfit
    rw [this] at hr;injection hr with hr _;rw [<-hr]
    left;rfl
   ·have holds:∀j x,xs[j]?=some x->w.cell? ((⟨g,0,none⟩:Addr).add j)=some x:=hown.cells (g:=g) rfl
    have:=run_append_grow (P:=P) w t ty e i z ht hi hz ⟨g,0,none⟩ n cap xs hown.1 holds ⟨b,o,none⟩ m c (u::r) hl hnews o_ o_ (growslice_fits o_ hbytes)
    rw [this] at hr;injection hr with hr _;rw [<-hr]
    right;rfl
def Y2(l:List Int):List Value:=l.map fun n=>.int .i64 n
theorem Zf3(l:List Int):(Y2 l).length=l.length:=by simp [Y2]
def Qx(r:Int×Str):List Value:=[.int .i64 r.1,.string ⟨r.2.toArray⟩]
structure ZbV where
 dash:Bool
 wa:Option Addr
 wn:Nat
 wc:Nat
def ZhD(x:ZbV):List Value:=[.bool x.dash,.slice x.wa x.wn x.wc]
structure ZaZ(w:World)(F:Nat->Prop)(x:ZbV)(c:JB):Prop where
 dash:x.dash=c.1
 wn:x.wn=c.2.length
 row:w.ownsRow 0 9 1 (.slice x.wa x.wn x.wc) x.wn (Zr c.2)
 inF:∀g,(Value.slice x.wa x.wn x.wc).ownBlock=some g->F g
def Yu(w:World)(F:Nat->Prop):UC->Value->Prop
 |.s x,v=>v=.string ⟨x.toArray⟩
 |.n x,v=>v=.int .i64 x
 |.b x,v=>v=.bool x
 |.ss l,v=>w.ownsRow 0 9 1 v l.length (Zr l)/\∀g,v.ownBlock=some g->F g
 |.ns l,v=>w.ownsRow 0 3 1 v l.length (Y2 l)/\∀g,v.ownBlock=some g->F g
 |.rs l,v=>w.ownsRow 0 47 2 v l.length (ZA Qx l)/\∀g,v.ownBlock=some g->F g
 |.ps l,v=>w.ownsRow 0 64 2 v l.length (ZA Xy l)/\∀g,v.ownBlock=some g->F g
 |.cs l,v=>∃xs:List ZbV,xs.length=l.length/\w.ownsRow 0 49 2 v l.length (ZA ZhD xs)/\(∀g,v.ownBlock=some g->F g)/\∀i (h1:i<xs.length) (h2:i<l.length),ZaZ w F xs[i] l[i]
theorem Zdn{w w':World}{B k n:Nat}{e:TypeId}{v:Value}{xs:List Value}{M F:Nat->Prop}(h:w.ownsRow B e k v n xs)(hF:∀g,v.ownBlock=some g->F g)(hf:Fr M w w')(hM:∀g,F g->¬M g):w'.ownsRow B e k v n xs:=
 ZO h hf fun g hg _=>hM g (hF g hg)
theorem ZaZ.fr{w w':World}{F M:Nat->Prop}{x:ZbV}{c:JB}(h:ZaZ w F x c)(hf:Fr M w w')(hM:∀g,F g->¬M g):ZaZ w' F x c:=
 ⟨h.dash,h.wn,Zdn h.row h.inF hf hM,h.inF⟩
theorem ZaZ.mono{w:World}{F F':Nat->Prop}{x:ZbV}{c:JB}(h:ZaZ w F x c)(hM:∀g,F g->F' g):ZaZ w F' x c:=
 ⟨h.dash,h.wn,h.row,fun g hg=>hM g (h.inF g hg)⟩
theorem Yu.fr{w w':World}{F M:Nat->Prop}:∀{c:UC} {v:Value},Yu w F c v->Fr M w w'->(∀g,F g->¬M g)->Yu w' F c v
 |.s _,_,h,_,_=>h
 |.n _,_,h,_,_=>h
 |.b _,_,h,_,_=>h
 |.ss _,_,h,hf,hM=>⟨Zdn h.1 h.2 hf hM,h.2⟩
 |.ns _,_,h,hf,hM=>⟨Zdn h.1 h.2 hf hM,h.2⟩
 |.rs _,_,h,hf,hM=>⟨Zdn h.1 h.2 hf hM,h.2⟩
 |.ps _,_,h,hf,hM=>⟨Zdn h.1 h.2 hf hM,h.2⟩
 |.cs _,_,⟨xs,a,b,c,d⟩,hf,hM=>⟨xs,a,Zdn b c hf hM,c,fun i h1 h2=>(d i h1 h2).fr hf hM⟩
theorem Yu.mono{w:World}{F F':Nat->Prop}:∀{c:UC} {v:Value},Yu w F c v->(∀g,F g->F' g)->Yu w F' c v
 |.s _,_,h,_=>h
 |.n _,_,h,_=>h
 |.b _,_,h,_=>h
 |.ss _,_,h,hM=>⟨h.1,fun g hg=>hM g (h.2 g hg)⟩
 |.ns _,_,h,hM=>⟨h.1,fun g hg=>hM g (h.2 g hg)⟩
 |.rs _,_,h,hM=>⟨h.1,fun g hg=>hM g (h.2 g hg)⟩
 |.ps _,_,h,hM=>⟨h.1,fun g hg=>hM g (h.2 g hg)⟩
 |.cs _,_,⟨xs,a,b,c,d⟩,hM=>⟨xs,a,b,fun g hg=>hM g (c g hg),fun i h1 h2=>(d i h1 h2).mono hM⟩
structure YD(w:World)(U:Nat)(cs:Array Value)(F:Nat->Nat->Prop)(u:UV):Prop where
 box:w.heap[U]?=some (.cells cs 28 (0,0))
 size:cs.size=35
 fld:∀j v,cs[j]?=some v->Yu w (F j) (u j) v
 apart:∀i j k,F i k->F j k->i=j
 notU:∀j,¬F j U
 lt:∀j k,F j k->U<k/\k<w.heap.size
def Zj(w w':World)(U:Nat)(cs:Array Value)(j:Nat)(Fj:Nat->Prop)(c:UC):Prop:=
 ∃v F',w'.heap[U]?=some (.cells (cs.setIfInBounds j v) 28 (0,0))/\Yu w' F' c v/\Fr (fun k=>k=U\/Fj k) w w'/\∀k,F' k->(Fj k\/w.heap.size<=k)/\k<w'.heap.size
theorem YD.put{w w':World}{U:Nat}{cs:Array Value}{F:Nat->Nat->Prop}{u:UV}{j:Nat}{c:UC}(h:YD w U cs F u)(hj:j<35)(hp:Zj w w' U cs j (F j) c) :
  ∃cs' F',YD w' U cs' F' (u.upd j c)/\Fr (fun k=>k=U\/U<k) w w'/\cs'[0]?=(if j=0 then cs'[0]? else cs[0]?)/\cs'[1]?=(if j=1 then cs'[1]? else cs[1]?):=by
 obtain ⟨v,Fj,h1,h2,h3,h4⟩:=hp;have hU:=Zb h.box;refine ⟨cs.setIfInBounds j v,fun i=>if i=j then Fj else F i,⟨h1,by simp [h.size],?_,?_,?_,?_⟩,?_,?_,?_⟩
 ·intro i x hx
  by_cases e:i=j
  ·subst e
   rw [Array.getElem?_setIfInBounds_self_of_lt (by rw [h.size];exact hj)] at hx;injection hx with hx
   subst hx;rw [UV.upd_at,if_pos rfl];exact h2
  ·rw [Array.getElem?_setIfInBounds_ne (fun x=>e x.symm)] at hx
   rw [UV.upd_ne _ _ e,if_neg e];refine (h.fld i x hx).fr h3 ?_;rintro g hg (rfl|hg2)
   ·exact h.notU i hg
   ·exact e (h.apart i j g hg hg2)
 ·intro i k q hi hk
  by_cases e1:i=j
  ·subst e1
   by_cases e2:k=i
   ·exact e2.symm
   ·rw [if_pos rfl] at hi
    rw [if_neg e2] at hk;rcases (h4 q hi).1 with h5|h5
    ·exact h.apart i k q h5 hk
    ·have:=(h.lt k q hk).2;omega
  ·rw [if_neg e1] at hi
   by_cases e2:k=j
   ·subst e2
    rw [if_pos rfl] at hk;rcases (h4 q hk).1 with h5|h5
    ·exact h.apart i k q hi h5
    ·have:=(h.lt i q hi).2;omega
   ·rw [if_neg e2] at hk
    exact h.apart i k q hi hk
 ·intro i hi
  by_cases e1:i=j
  ·subst e1
   rw [if_pos rfl] at hi;rcases (h4 U hi).1 with h5|h5
   ·exact h.notU i h5
   ·omega
  ·rw [if_neg e1] at hi
   exact h.notU i hi
 ·intro i k hk
  by_cases e1:i=j
  ·subst e1
   rw [if_pos rfl] at hk;refine ⟨?_,(h4 k hk).2⟩;rcases (h4 k hk).1 with h5|h5
   ·exact (h.lt i k h5).1
   ·omega
  ·rw [if_neg e1] at hk
   exact ⟨(h.lt i k hk).1,Nat.lt_of_lt_of_le (h.lt i k hk).2 h3.size⟩
 ·refine h3.mono ?_
  rintro k hk (rfl|h5)
  ·exact .inl rfl
  ·exact .inr (h.lt j k h5).1
 ·by_cases e:j=0
  ·rw [if_pos e]
  ·rw [if_neg e,Array.getElem?_setIfInBounds_ne e]
 ·by_cases e:j=1
  ·rw [if_pos e]
  ·rw [if_neg e,Array.getElem?_setIfInBounds_ne e]
theorem YD.fr{w w':World}{U:Nat}{cs:Array Value}{F:Nat->Nat->Prop}{u:UV}{M:Nat->Prop}(h:YD w U cs F u)(hf:Fr M w w')(hU:¬M U)(hM:∀j k,F j k->¬M k):YD w' U cs F u:=
 ⟨hf.heap h.box hU,h.size,fun j v hv=>(h.fld j v hv).fr hf (hM j),h.apart,h.notU,fun j k hk=>⟨(h.lt j k hk).1,Nat.lt_of_lt_of_le (h.lt j k hk).2 hf.size⟩⟩
theorem YD.below{w w':World}{U:Nat}{cs:Array Value}{F:Nat->Nat->Prop}{u:UV}(h:YD w U cs F u)(hb:Below w.heap.size w w'):YD w' U cs F u:=
 h.fr (M:=fun _=>False) (Fr.of_below hb _) (fun e=>e) (fun _ _ _ e=>e)
theorem Zj.below{w w1 w':World}{U:Nat}{cs:Array Value}{j:Nat}{Fj:Nat->Prop}{c:UC}(hb:Below w.heap.size w w1)(h:Zj w1 w' U cs j Fj c):Zj w w' U cs j Fj c:=by
 obtain ⟨v,F',h1,h2,h3,h4⟩:=h;refine ⟨v,F',h1,h2,(Fr.of_below hb _).trans h3,fun k hk=>⟨(h4 k hk).1.imp id (fun h=>Nat.le_trans hb.size h),(h4 k hk).2⟩⟩
theorem Zj.after{w w1 w':World}{U:Nat}{cs:Array Value}{j:Nat}{Fj:Nat->Prop}{c:UC}(h:Zj w w1 U cs j Fj c)(hb:Below w1.heap.size w1 w'):Zj w w' U cs j Fj c:=by
 obtain ⟨v,F',h1,h2,h3,h4⟩:=h;refine ⟨v,F',Za h1 hb,h2.fr (M:=fun _=>False) (Fr.of_below hb _) (fun _ _ e=>e),h3.trans (Fr.of_below hb _),fun k hk=>⟨(h4 k hk).1,Nat.lt_of_lt_of_le (h4 k hk).2 hb.size⟩⟩
open Go.Proofs.Tryz
theorem ZrH(x y:Int×Str)(w:World):(Op.equalIn 10000 47 (.agg #[.int .i64 x.1,.string ⟨x.2.toArray⟩]) (.agg #[.int .i64 y.1,.string ⟨y.2.toArray⟩])).run prog w=.ok (decide (x=y)) w:=by
 have u3:=underlying3;have u9:=underlying9;have a3:=isAgg3;have z3:=sizeOf3;have a9:=isAgg9;have z9:=sizeOf9;have hS:prog.underlying 47=some (.struct (prog.fieldsOf 47)):=k_;have hp:prog.stoodInHeld 47=false:=k_;rw [show (10000:Nat)=9999+1 from rfl,run_equalIn_agg w 9999 47 _ _ hS hp];simp only [Program.fieldsOf,underlying47];go_simp;obtain ⟨x1,x2⟩:=x;obtain ⟨y1,y2⟩:=y;by_cases h1:x1=y1<;>by_cases h2:x2=y2<;>simp [h1,h2]
theorem ZfX(x y:Int×Str)(b:Bool)(h:decide (x=y)=b)(w:World):(binOp .eql 47 (.agg #[.int .i64 x.1,.string ⟨x.2.toArray⟩]) (.agg #[.int .i64 y.1,.string ⟨y.2.toArray⟩])).run prog w=.ok (.bool b) w:=by
 rw [run_eql_struct,ZrH,h];rfl
theorem Zfr(x y:Int×Str)(b:Bool)(h:decide (x=y)=b)(w:World):(binOp .neq 47 (.agg #[.int .i64 x.1,.string ⟨x.2.toArray⟩]) (.agg #[.int .i64 y.1,.string ⟨y.2.toArray⟩])).run prog w=.ok (.bool !b) w:=by
 rw [run_neq_struct,ZrH,h];rfl
theorem ZqH:prog.eqGuardType prog.depth 47=false:=k_
theorem ZaW(op:BinOp)(x y:Operand)(xs ys:Array Value)(w:World):(eqGuard op 47 x y (.agg xs) (.agg ys)).run prog w=.ok () w:=run_eqGuard_agg w op _ x y xs ys ZqH
def Zrd(w:World)(b:Bool)(e:Ending)(w':World):Prop:=∃i:Int,e=.returned (.int .i64 i)/\decide (0<=i)=b/\Below w.heap.size w w'
theorem Zjc(v:Value)(l:List (Int×Str))(x:Int×Str)(w:World)(hr:Zch Qx 2 w v l)(hl:l.length<4611686018427387904)(b:Bool)(hb:l.contains x=b) :
  Calls prog 271 #[v,.agg #[.int .i64 x.1,.string ⟨x.2.toArray⟩]] w fun e w'=>Zrd w b e w':=by
 obtain ⟨oa,cap,rfl,hrow⟩:=hr.ex;have HB0:=h_ ((Below.refl w.heap.size w).alloc l_ (.cells #[.int .i64 x.1,.string ⟨x.2.toArray⟩] 47));have HX:=h_ (heap_alloc_new w (.cells #[.int .i64 x.1,.string ⟨x.2.toArray⟩] 47));have HR:=h_ hrow;have HC:=h_ hb;clear hr hrow hb;go_enter func271,ntmps271;go_wp2_with fail;generalize w.alloc (.cells #[.int .i64 x.1,.string ⟨x.2.toArray⟩] 47)=w1 at *;go_loopg [8] (l.length+1) (fun f i wr=>∃k:Nat,k<=l.length/\i=.int .i64 k/\l.length-k<f/\Hid ((l.take k).contains x=false)/\∃n,wr=w1.drewN n)
 case atStart=>exact ⟨0,o_,rfl,o_,h_ s_,0,rfl⟩
 case round=>
  obtain ⟨k,hk,rfl,hf,Hno,n,rfl⟩:=hrel;by_cases hlt:k<l.length
  ·obtain ⟨b1,o1,rfl,hlt1,hcc⟩:=(HR.out.below HB0.out) k hlt
   obtain ⟨y,hy⟩:=e_ (l[k]);rw [<-hy] at hcc;have d0:=hcc 0 _ rfl;have d1:=hcc 1 _ rfl;simp only [Nat.add_zero] at d0;obtain ⟨cc,-,-,-⟩:=rd HX.out;have c0:=cc 0;have c1:=cc 1;simp only [List.getElem?_toArray,List.getElem?_cons_zero,List.getElem?_cons_succ] at c0 c1;have i5:(k:Int)<(l.length:Int):=o_;have hgd:=ZaW;cases hq:decide (x=y) with
   |true=>
    have hrun:=ZfX x y true hq;have HT:=h_ (show b=true by
     rw [<-HC.out,List.contains_iff_mem,of_decide_eq_true hq,hy];exact List.getElem_mem _)
    have HB1:=h_ (fun n=>HB0.out.trans (Zd (B:=w.heap.size) (a:=w1) (b:=w1.drewN n) ⟨n,rfl⟩));clear hq hy hcc cc;go_wp2_with fail;go_quiet (fail);go_wp2_with fail;go_ret;exact ⟨_,rfl,by rw [HT.out];simp,by first|exact HB1.out _|(rw [dn2];exact HB1.out _)⟩
   |false=>
    have hrun:=ZfX x y false hq;have HN:=h_ (show (l.take (k+1)).contains x=false by
     rw [List.take_succ_eq_append_getElem hlt,List.contains_append,Hno.out,<-hy];simp;exact of_decide_eq_false hq)
    clear hq hy hcc cc;go_wp2_with fail;go_quiet (fail);go_wp2_with fail;go_roundg (l.length-k)
    case measure=>omega
    case rel=>exact ⟨k+1,o_,n14_,o_,HN,n10_⟩
  ·have HT:=h_ (show b=false by
    have:=Hno.out
    rw [List.take_of_length_le o_] at this;rw [<-HC.out,this])
   have HB1:=h_ (HB0.out.trans (Zd (B:=w.heap.size) (a:=w1) (b:=w1.drewN n) ⟨n,rfl⟩));go_wp2_with fail;go_ret;exact ⟨_,rfl,by rw [HT.out];rfl,HB1.out⟩
theorem Zbw(v:Value)(l:List (Int×Str))(x:Int×Str)(w:World)(hr:Zch Qx 2 w v l)(hl:l.length<4611686018427387904)(b:Bool)(hb:l.contains x=b) :
  Calls prog 219 #[v,.agg #[.int .i64 x.1,.string ⟨x.2.toArray⟩]] w fun e w'=>e=.returned (.bool b)/\Below w.heap.size w w':=by
 have hB:=(Below.refl w.heap.size w).alloc l_ (.cells #[.int .i64 x.1,.string ⟨x.2.toArray⟩] 47);have HI:=h_ (Zjc v l x _ (hr.below hB) hl b hb);have HB:=h_ hB;obtain ⟨cc,-,-,-⟩:=rd (heap_alloc_new w (.cells #[.int .i64 x.1,.string ⟨x.2.toArray⟩] 47));have c0:=cc 0;have c1:=cc 1;simp only [List.getElem?_toArray,List.getElem?_cons_zero,List.getElem?_cons_succ] at c0 c1;obtain ⟨oa,cap,rfl,-⟩:=hr.ex;clear cc hb hB hr;go_enter func219,ntmps219;go_wp2_with fail;refine HI.out.mono ?_;rintro e w' ⟨i,rfl,hi,hb1⟩;have H2:=h_ (HB.out.trans (hb1.mono HB.out.size));clear hb1;go_wp2_with fail;go_ret;exact ⟨by first|rfl|(rw [<-hi];rfl),H2.out⟩
theorem m85_{p:Prop}(h:p:=by intro w3 w4 h3 hb3 hf4;have hne:w.heap.size≠w2.heap.size:=o_;have e3:=(hb3.block _ hl1).trans h1'.out;have e4:w4.heap[w.heap.size]?=_:=(hf4.block _ (Zb e3) hne).trans e3;refine ⟨e4,?_⟩;refine hb12.out.trans ?_;exact (hb3.mono o_).trans (hf4.below _ (Nat.le_of_lt (Nat.lt_of_lt_of_le hl1 hb3.size)) (fun k hk e=>by omega))):p:=h
theorem m86_{p:Prop}(h:p:=by have hb:=hz2.out _ _ h3 hb3 hf4;refine Jm 2 28 w.heap.size _ rfl rfl rfl (Xe 28 _ rfl rfl rfl h9) ⟨rfl,?_⟩;exact hb.2.trans (hf9.below _ hb.2.size (fun k hk e=>by omega))):p:=h
def Zf:Array Value:=#[.string ⟨#[]⟩,.int .i64 0,.string ⟨#[]⟩,.bool false,.slice none 0 0,.int .i64 0,.int .i64 0,.int .i64 0,.slice none 0 0,.slice none 0 0,.slice none 0 0,.slice none 0 0,.slice none 0 0,.bool false,.int .i64 0,.int .i64 0,.int .i64 0,.int .i64 0,.slice none 0 0,.slice none 0 0,.slice none 0 0,.slice none 0 0,.int .i64 0,.string ⟨#[]⟩,.string ⟨#[]⟩,.slice none 0 0,.slice none 0 0,.slice none 0 0,.slice none 0 0,.bool false,.slice none 0 0,.slice none 0 0,.slice none 0 0,.slice none 0 0,.string ⟨#[]⟩]
def Zcg(s:Str)(k:Int):Array Value:=#[.string ⟨s.toArray⟩,.int .i64 k,.string ⟨#[]⟩,.bool true,.slice none 0 0,.int .i64 10,.int .i64 5,.int .i64 0,.slice none 0 0,.slice none 0 0,.slice none 0 0,.slice none 0 0,.slice none 0 0,.bool false,.int .i64 0,.int .i64 0,.int .i64 0,.int .i64 0,.slice none 0 0,.slice none 0 0,.slice none 0 0,.slice none 0 0,.int .i64 0,.string ⟨#[]⟩,.string ⟨#[]⟩,.slice none 0 0,.slice none 0 0,.slice none 0 0,.slice none 0 0,.bool false,.slice none 0 0,.slice none 0 0,.slice none 0 0,.slice none 0 0,.string ⟨#[]⟩]
def Zpt(s:Str):Array Value:=#[.string ⟨s.toArray⟩,.int .i64 1,.string ⟨#[]⟩,.bool true,.slice none 0 0,.int .i64 10,.int .i64 5,.int .i64 1,.slice none 0 0,.slice none 0 0,.slice none 0 0,.slice none 0 0,.slice none 0 0,.bool false,.int .i64 1,.int .i64 0,.int .i64 90,.int .i64 90,.slice none 0 0,.slice none 0 0,.slice none 0 0,.slice none 0 0,.int .i64 0,.string ⟨#[]⟩,.string ⟨#[]⟩,.slice none 0 0,.slice none 0 0,.slice none 0 0,.slice none 0 0,.bool false,.slice none 0 0,.slice none 0 0,.slice none 0 0,.slice none 0 0,.string ⟨#[]⟩]
def ZoC(s:Str):Array Value:=#[.string ⟨s.toArray⟩,.int .i64 2,.string ⟨#[]⟩,.bool true,.slice none 0 0,.int .i64 10,.int .i64 5,.int .i64 0,.slice none 0 0,.slice none 0 0,.slice none 0 0,.slice none 0 0,.slice none 0 0,.bool false,.int .i64 0,.int .i64 0,.int .i64 0,.int .i64 0,.slice none 0 0,.slice none 0 0,.slice none 0 0,.slice none 0 0,.int .i64 16,.string ⟨#[]⟩,.string ⟨#[]⟩,.slice none 0 0,.slice none 0 0,.slice none 0 0,.slice none 0 0,.bool false,.slice none 0 0,.slice none 0 0,.slice none 0 0,.slice none 0 0,.string ⟨#[]⟩]
def Zli:UC->Value
 |.s x=>.string ⟨x.toArray⟩
 |.n x=>.int .i64 x
 |.b x=>.bool x
 |_=>.slice none 0 0
def Z6(u:UV):Array Value:=((List.range 35).map fun j=>Zli (u j)).toArray
theorem ZhM(w:World)(c:UC)(h:c.len=0):Yu w (fun _=>False) c (Zli c):=by
 have hn:∀g,(Value.slice none 0 0).ownBlock=some g->False:=fun g hg=>by simp [Value.ownBlock] at hg
 cases c with
 |s x=>rfl
 |n x=>rfl
 |b x=>rfl
 |ss l=>obtain rfl:l=[]:=List.eq_nil_of_length_eq_zero h;exact ⟨World.ownsRow_nil _ _ _ _,hn⟩
 |ns l=>obtain rfl:l=[]:=List.eq_nil_of_length_eq_zero h;exact ⟨World.ownsRow_nil _ _ _ _,hn⟩
 |rs l=>obtain rfl:l=[]:=List.eq_nil_of_length_eq_zero h;exact ⟨World.ownsRow_nil _ _ _ _,hn⟩
 |ps l=>obtain rfl:l=[]:=List.eq_nil_of_length_eq_zero h;exact ⟨World.ownsRow_nil _ _ _ _,hn⟩
 |cs l=>obtain rfl:l=[]:=List.eq_nil_of_length_eq_zero h;exact ⟨[],rfl,World.ownsRow_nil _ _ _ _,hn,fun i h1 h2=>absurd h1 s_⟩
theorem Zm9:Z6 Zy=Zf:=rfl
theorem Zq0(s:Str)(h:ZB s=0):Z6 (ZL s)=Zf:=by unfold ZL;rw [if_pos h];rfl
theorem Zjp(s:Str)(k:Nat)(h:ZB s=k)(h0:k≠0)(h1:k≠1)(h2:k≠2):Z6 (ZL s)=Zcg s k:=by
 unfold ZL;rw [h,if_neg h0];simp only;rw [if_neg h1,if_neg h2];rfl
theorem ZpI(s:Str)(h:ZB s=1):Z6 (ZL s)=Zpt s:=by
 unfold ZL;rw [h,if_neg d_];simp only;rw [if_pos d_];rfl
theorem Zoy(s:Str)(h:ZB s=2):Z6 (ZL s)=ZoC s:=by
 unfold ZL;rw [h,if_neg d_];simp only;rw [if_neg d_,if_pos d_];rfl
theorem ZE(w:World):(Instr.alloc 28 true (.tuple #[])).run prog w=.ok (.pointer (some ⟨w.heap.size,0,none⟩)) (w.alloc (.cells Zf 28)):=rfl
theorem Zai(s:Str)(k:Int)(w:World):(Instr.build 28 #[(0,.string ⟨s.toArray⟩),(1,.int .i64 k),(3,.bool true),(5,.int .i64 10),(6,.int .i64 5)]).run prog w=.ok (.agg (Zcg s k)) w:=
 run_build w _ _ _ rfl
theorem YU(w:World):(Instr.build 28 #[]).run prog w=.ok (.agg Zf) w:=run_build w _ _ _ rfl
theorem ZiC:(Zf.all fun x=>x.oneCell')=true:=n40_
theorem JH(s:Str)(k:Int):((Zcg s k).all fun x=>x.oneCell')=true:=n40_
theorem Znu(s:Str):((Zpt s).all fun x=>x.oneCell')=true:=n40_
theorem ZnV(s:Str):((ZoC s).all fun x=>x.oneCell')=true:=n40_
theorem Zr7(s:Str)(w:World)(hs:s.length<4294967281)(hm:Zt w)(hk:ZB s=0) :
  Calls prog 17 #[.string ⟨s.toArray⟩] w fun e w'=>e=.returned (.agg (Z6 (ZL s)))/\Below w.heap.size w w':=by
 rw [Zq0 s hk];have HK:=h_ (fun w' (h:Below w.heap.size w w')=>show Calls prog 37 #[.string ⟨s.toArray⟩] w' fun e w''=>e=.returned (.int .i64 0)/\Below w'.heap.size w' w'' from QX ⟨s.toArray⟩ w' n29_ (hm.below h) 0 hk);have HB:=h_ (Zai s 0);clear hk;have Z0:=h_ (JH s 0);have Z1:=h_ ZiC;go_enter func17,ntmps17;go_wp2_with (refine YR rfl _ Zf rfl (ZE _) ?_;intro w1 h1 hb1);refine (HK.out _ hb1).mono ?_;rintro e w2 ⟨rfl,hb2⟩;have hb12:=h_ (Below.more hb1 hb2);have h1':=h_ ((hb2.block _ (Zb h1)).trans h1);have hl1:w.heap.size<w2.heap.size:=Zb h1'.out;have hz2:∀w3 w4:World,w3.heap[w2.heap.size]?=some (.cells Zf 28 (0,0))->Below w2.heap.size w2 w3->Fr (fun x=>x=w2.heap.size) w3 w4->w4.heap[w.heap.size]?=some (.cells Zf 28 (0,0))/\Below w.heap.size w w4:=by
  exact m85_
 replace hz2:=h_ hz2;have HZ:=h_ (show (Zcg s 0).size=35 from rfl);clear hb1 hb2 h1;go_wp2_with (first
  |(refine XF rfl _ #[] #[] _ rfl s_ (YU _) ?_)
  |(refine XF rfl _ _ #[(0,.string ⟨s.toArray⟩),(1,.int .i64 0),(3,.bool true),(5,.int .i64 10),(6,.int .i64 5)] _ rfl n62_ (HB.out _) ?_)
  |(refine YR rfl _ Zf rfl (ZE _) ?_;intro w3 h3 hb3)
  |(refine Yk rfl 28 _ _ w2.heap.size (Zcg s 0) Zf 28 rfl rfl rfl h3 rfl rfl Z0.out ?_;intro w4 h4 hf4;have hc1:w4.cell? ⟨w2.heap.size,1,none⟩=some (.int .i64 0):=(rd h4).1 1)
  |(refine QT rfl 3 _ _ w2.heap.size _ .i64 _ _ _ rfl rfl rfl h4 (by simp [HZ.out]) _ rfl rfl ?_;intro w5 h5 hf5;replace h4:=h5;replace hf4:=hf4.trans hf5)
  |(refine X6 rfl 28 _ w2.heap.size _ 28 _ rfl rfl h4 rfl rfl rfl ?_)
  |(refine Yk rfl 28 _ _ w.heap.size Zf Zf 28 rfl rfl rfl (hz2.out _ _ h3 hb3 hf4).1 rfl rfl Z1.out ?_;intro w9 h9 hf9))
 ·exact m86_
theorem Zr5(s:Str)(w:World)(hs:s.length<4294967281)(hm:Zt w)(hk:ZB s=1) :
  Calls prog 17 #[.string ⟨s.toArray⟩] w fun e w'=>e=.returned (.agg (Z6 (ZL s)))/\Below w.heap.size w w':=by
 rw [ZpI s hk];have HK:=h_ (fun w' (h:Below w.heap.size w w')=>show Calls prog 37 #[.string ⟨s.toArray⟩] w' fun e w''=>e=.returned (.int .i64 1)/\Below w'.heap.size w' w'' from QX ⟨s.toArray⟩ w' n29_ (hm.below h) 1 hk);have HB:=h_ (Zai s 1);clear hk;have Z0:=h_ (JH s 1);have Z1:=h_ (Znu s);go_enter func17,ntmps17;go_wp2_with (refine YR rfl _ Zf rfl (ZE _) ?_;intro w1 h1 hb1);refine (HK.out _ hb1).mono ?_;rintro e w2 ⟨rfl,hb2⟩;have hb12:=h_ (Below.more hb1 hb2);have h1':=h_ ((hb2.block _ (Zb h1)).trans h1);have hl1:w.heap.size<w2.heap.size:=Zb h1'.out;have hz2:∀w3 w4:World,w3.heap[w2.heap.size]?=some (.cells Zf 28 (0,0))->Below w2.heap.size w2 w3->Fr (fun x=>x=w2.heap.size) w3 w4->w4.heap[w.heap.size]?=some (.cells Zf 28 (0,0))/\Below w.heap.size w w4:=by
  exact m85_
 replace hz2:=h_ hz2;have HZ:=h_ (show (Zcg s 1).size=35 from rfl);clear hb1 hb2 h1;go_wp2_with (first
  |(refine XF rfl _ #[] #[] _ rfl s_ (YU _) ?_)
  |(refine XF rfl _ _ #[(0,.string ⟨s.toArray⟩),(1,.int .i64 1),(3,.bool true),(5,.int .i64 10),(6,.int .i64 5)] _ rfl n62_ (HB.out _) ?_)
  |(refine YR rfl _ Zf rfl (ZE _) ?_;intro w3 h3 hb3)
  |(refine Yk rfl 28 _ _ w2.heap.size (Zcg s 1) Zf 28 rfl rfl rfl h3 rfl rfl Z0.out ?_;intro w4 h4 hf4;have hc1:w4.cell? ⟨w2.heap.size,1,none⟩=some (.int .i64 1):=(rd h4).1 1)
  |(refine QT rfl 3 _ _ w2.heap.size _ .i64 _ _ _ rfl rfl rfl h4 (by simp [HZ.out]) _ rfl rfl ?_;intro w5 h5 hf5;replace h4:=h5;replace hf4:=hf4.trans hf5)
  |(refine X6 rfl 28 _ w2.heap.size _ 28 _ rfl rfl h4 rfl rfl rfl ?_)
  |(refine Yk rfl 28 _ _ w.heap.size (Zpt s) Zf 28 rfl rfl rfl (hz2.out _ _ h3 hb3 hf4).1 rfl rfl Z1.out ?_;intro w9 h9 hf9))
 ·exact m86_
theorem ZrK(s:Str)(w:World)(hs:s.length<4294967281)(hm:Zt w)(hk:ZB s=2) :
  Calls prog 17 #[.string ⟨s.toArray⟩] w fun e w'=>e=.returned (.agg (Z6 (ZL s)))/\Below w.heap.size w w':=by
 rw [Zoy s hk];have HK:=h_ (fun w' (h:Below w.heap.size w w')=>show Calls prog 37 #[.string ⟨s.toArray⟩] w' fun e w''=>e=.returned (.int .i64 2)/\Below w'.heap.size w' w'' from QX ⟨s.toArray⟩ w' n29_ (hm.below h) 2 hk);have HB:=h_ (Zai s 2);clear hk;have Z0:=h_ (JH s 2);have Z1:=h_ (ZnV s);go_enter func17,ntmps17;go_wp2_with (refine YR rfl _ Zf rfl (ZE _) ?_;intro w1 h1 hb1);refine (HK.out _ hb1).mono ?_;rintro e w2 ⟨rfl,hb2⟩;have hb12:=h_ (Below.more hb1 hb2);have h1':=h_ ((hb2.block _ (Zb h1)).trans h1);have hl1:w.heap.size<w2.heap.size:=Zb h1'.out;have hz2:∀w3 w4:World,w3.heap[w2.heap.size]?=some (.cells Zf 28 (0,0))->Below w2.heap.size w2 w3->Fr (fun x=>x=w2.heap.size) w3 w4->w4.heap[w.heap.size]?=some (.cells Zf 28 (0,0))/\Below w.heap.size w w4:=by
  exact m85_
 replace hz2:=h_ hz2;have HZ:=h_ (show (Zcg s 2).size=35 from rfl);clear hb1 hb2 h1;go_wp2_with (first
  |(refine XF rfl _ #[] #[] _ rfl s_ (YU _) ?_)
  |(refine XF rfl _ _ #[(0,.string ⟨s.toArray⟩),(1,.int .i64 2),(3,.bool true),(5,.int .i64 10),(6,.int .i64 5)] _ rfl n62_ (HB.out _) ?_)
  |(refine YR rfl _ Zf rfl (ZE _) ?_;intro w3 h3 hb3)
  |(refine Yk rfl 28 _ _ w2.heap.size (Zcg s 2) Zf 28 rfl rfl rfl h3 rfl rfl Z0.out ?_;intro w4 h4 hf4;have hc1:w4.cell? ⟨w2.heap.size,1,none⟩=some (.int .i64 2):=(rd h4).1 1)
  |(refine QT rfl 3 _ _ w2.heap.size _ .i64 _ _ _ rfl rfl rfl h4 (by simp [HZ.out]) _ rfl rfl ?_;intro w5 h5 hf5;replace h4:=h5;replace hf4:=hf4.trans hf5)
  |(refine X6 rfl 28 _ w2.heap.size _ 28 _ rfl rfl h4 rfl rfl rfl ?_)
  |(refine Yk rfl 28 _ _ w.heap.size (ZoC s) Zf 28 rfl rfl rfl (hz2.out _ _ h3 hb3 hf4).1 rfl rfl Z1.out ?_;intro w9 h9 hf9))
 ·exact m86_
theorem ZrV(s:Str)(w:World)(hs:s.length<4294967281)(hm:Zt w)(hk:ZB s=3) :
  Calls prog 17 #[.string ⟨s.toArray⟩] w fun e w'=>e=.returned (.agg (Z6 (ZL s)))/\Below w.heap.size w w':=by
 rw [Zjp s 3 hk d_ d_ d_];have HK:=h_ (fun w' (h:Below w.heap.size w w')=>show Calls prog 37 #[.string ⟨s.toArray⟩] w' fun e w''=>e=.returned (.int .i64 3)/\Below w'.heap.size w' w'' from QX ⟨s.toArray⟩ w' n29_ (hm.below h) 3 hk);have HB:=h_ (Zai s 3);clear hk;have Z0:=h_ (JH s 3);have Z1:=h_ (JH s 3);go_enter func17,ntmps17;go_wp2_with (refine YR rfl _ Zf rfl (ZE _) ?_;intro w1 h1 hb1);refine (HK.out _ hb1).mono ?_;rintro e w2 ⟨rfl,hb2⟩;have hb12:=h_ (Below.more hb1 hb2);have h1':=h_ ((hb2.block _ (Zb h1)).trans h1);have hl1:w.heap.size<w2.heap.size:=Zb h1'.out;have hz2:∀w3 w4:World,w3.heap[w2.heap.size]?=some (.cells Zf 28 (0,0))->Below w2.heap.size w2 w3->Fr (fun x=>x=w2.heap.size) w3 w4->w4.heap[w.heap.size]?=some (.cells Zf 28 (0,0))/\Below w.heap.size w w4:=by
  exact m85_
 replace hz2:=h_ hz2;have HZ:=h_ (show (Zcg s 3).size=35 from rfl);clear hb1 hb2 h1;go_wp2_with (first
  |(refine XF rfl _ #[] #[] _ rfl s_ (YU _) ?_)
  |(refine XF rfl _ _ #[(0,.string ⟨s.toArray⟩),(1,.int .i64 3),(3,.bool true),(5,.int .i64 10),(6,.int .i64 5)] _ rfl n62_ (HB.out _) ?_)
  |(refine YR rfl _ Zf rfl (ZE _) ?_;intro w3 h3 hb3)
  |(refine Yk rfl 28 _ _ w2.heap.size (Zcg s 3) Zf 28 rfl rfl rfl h3 rfl rfl Z0.out ?_;intro w4 h4 hf4;have hc1:w4.cell? ⟨w2.heap.size,1,none⟩=some (.int .i64 3):=(rd h4).1 1)
  |(refine QT rfl 3 _ _ w2.heap.size _ .i64 _ _ _ rfl rfl rfl h4 (by simp [HZ.out]) _ rfl rfl ?_;intro w5 h5 hf5;replace h4:=h5;replace hf4:=hf4.trans hf5)
  |(refine X6 rfl 28 _ w2.heap.size _ 28 _ rfl rfl h4 rfl rfl rfl ?_)
  |(refine Yk rfl 28 _ _ w.heap.size (Zcg s 3) Zf 28 rfl rfl rfl (hz2.out _ _ h3 hb3 hf4).1 rfl rfl Z1.out ?_;intro w9 h9 hf9))
 ·exact m86_
theorem ZrZ(s:Str)(w:World)(hs:s.length<4294967281)(hm:Zt w)(hk:ZB s=4) :
  Calls prog 17 #[.string ⟨s.toArray⟩] w fun e w'=>e=.returned (.agg (Z6 (ZL s)))/\Below w.heap.size w w':=by
 rw [Zjp s 4 hk d_ d_ d_];have HK:=h_ (fun w' (h:Below w.heap.size w w')=>show Calls prog 37 #[.string ⟨s.toArray⟩] w' fun e w''=>e=.returned (.int .i64 4)/\Below w'.heap.size w' w'' from QX ⟨s.toArray⟩ w' n29_ (hm.below h) 4 hk);have HB:=h_ (Zai s 4);clear hk;have Z0:=h_ (JH s 4);have Z1:=h_ (JH s 4);go_enter func17,ntmps17;go_wp2_with (refine YR rfl _ Zf rfl (ZE _) ?_;intro w1 h1 hb1);refine (HK.out _ hb1).mono ?_;rintro e w2 ⟨rfl,hb2⟩;have hb12:=h_ (Below.more hb1 hb2);have h1':=h_ ((hb2.block _ (Zb h1)).trans h1);have hl1:w.heap.size<w2.heap.size:=Zb h1'.out;have hz2:∀w3 w4:World,w3.heap[w2.heap.size]?=some (.cells Zf 28 (0,0))->Below w2.heap.size w2 w3->Fr (fun x=>x=w2.heap.size) w3 w4->w4.heap[w.heap.size]?=some (.cells Zf 28 (0,0))/\Below w.heap.size w w4:=by
  exact m85_
 replace hz2:=h_ hz2;have HZ:=h_ (show (Zcg s 4).size=35 from rfl);clear hb1 hb2 h1;go_wp2_with (first
  |(refine XF rfl _ #[] #[] _ rfl s_ (YU _) ?_)
  |(refine XF rfl _ _ #[(0,.string ⟨s.toArray⟩),(1,.int .i64 4),(3,.bool true),(5,.int .i64 10),(6,.int .i64 5)] _ rfl n62_ (HB.out _) ?_)
  |(refine YR rfl _ Zf rfl (ZE _) ?_;intro w3 h3 hb3)
  |(refine Yk rfl 28 _ _ w2.heap.size (Zcg s 4) Zf 28 rfl rfl rfl h3 rfl rfl Z0.out ?_;intro w4 h4 hf4;have hc1:w4.cell? ⟨w2.heap.size,1,none⟩=some (.int .i64 4):=(rd h4).1 1)
  |(refine QT rfl 3 _ _ w2.heap.size _ .i64 _ _ _ rfl rfl rfl h4 (by simp [HZ.out]) _ rfl rfl ?_;intro w5 h5 hf5;replace h4:=h5;replace hf4:=hf4.trans hf5)
  |(refine X6 rfl 28 _ w2.heap.size _ 28 _ rfl rfl h4 rfl rfl rfl ?_)
  |(refine Yk rfl 28 _ _ w.heap.size (Zcg s 4) Zf 28 rfl rfl rfl (hz2.out _ _ h3 hb3 hf4).1 rfl rfl Z1.out ?_;intro w9 h9 hf9))
 ·exact m86_
theorem ZeE(s:Str)(w:World)(hs:s.length<4294967281)(hm:Zt w) :
  Calls prog 17 #[.string ⟨s.toArray⟩] w fun e w'=>e=.returned (.agg (Z6 (ZL s)))/\Below w.heap.size w w':=by
 have h4:=ZcN s;obtain h|h|h|h|h:ZB s=0\/ZB s=1\/ZB s=2\/ZB s=3\/ZB s=4:=o_
 ·exact Zr7 s w hs hm h
 ·exact Zr5 s w hs hm h
 ·exact ZrK s w hs hm h
 ·exact ZrV s w hs hm h
 ·exact ZrZ s w hs hm h
theorem ZmV{w:World}{U:Nat}(u:UV)(h:∀j,(u j).len=0)(hb:w.heap[U]?=some (.cells (Z6 u) 28 (0,0))):YD w U (Z6 u) (fun _ _=>False) u:=by
 refine ⟨hb,by simp [Z6],fun j v hv=>?_,fun _ _ _ e=>e.elim,fun _ e=>e,fun _ _ e=>e.elim⟩;have hj:j<35:=by have:=(Array.getElem?_eq_some_iff.1 hv).1;simpa [Z6] using this
 have:v=Zli (u j):=by
  simp only [Z6,List.getElem?_toArray,List.getElem?_map,List.getElem?_range hj,Option.map_some] at hv;injection hv with hv;exact hv.symm
 rw [this];exact ZhM w _ (h j)
theorem Zar(j:Nat):(Zy j).len=0:=by
 unfold Zy;(repeat' split);all_goals rfl
theorem Zc2(s:Str)(j:Nat):(ZL s j).len=0:=by
 have hu:∀(u:UV) (i:Nat) (c:UC),(∀j,(u j).len=0)->c.len=0->∀j,((u.upd i c) j).len=0:=fun u i c h1 h2 j=>by
  unfold UV.upd;split
  ·exact h2
  ·exact h1 j
 unfold ZL;split
 ·exact Zar j
 ·simp only
  split
  ·exact hu _ _ _ (hu _ _ _ (hu _ _ _ (hu _ _ _ (hu _ _ _ (hu _ _ _ (hu _ _ _ (hu _ _ _ (hu _ _ _ Zar rfl) rfl) rfl) rfl) rfl) rfl) rfl) rfl) rfl j
  ·split
   ·exact hu _ _ _ (hu _ _ _ (hu _ _ _ (hu _ _ _ (hu _ _ _ (hu _ _ _ Zar rfl) rfl) rfl) rfl) rfl) rfl j
   ·exact hu _ _ _ (hu _ _ _ (hu _ _ _ (hu _ _ _ (hu _ _ _ Zar rfl) rfl) rfl) rfl) rfl j
end Go.Proofs.YtmgmbeipbeknaaaGreatDoor
