import Derived.Test.YtmgmbeipbeknaaaGreatDoorRF26
import Derived.Test.YtmgmbeipbeknaaaGreatDoorRF34
import Derived.Test.YtmgmbeipbeknaaaGreatDoorRF36
import Derived.Test.YtmgmbeipbeknaaaGreatDoorRF38
import Derived.Test.YtmgmbeipbeknaaaGreatDoorRF45
import Derived.Test.YtmgmbeipbeknaaaGreatDoorRF46
namespace Go.Proofs.YtmgmbeipbeknaaaGreatDoor
set_option linter.unusedVariables false
set_option linter.unusedSimpArgs false
set_option maxHeartbeats 16000000
set_option maxRecDepth 100000
open Go Go.RowKit
theorem ZdJ(c a:Int):((#[.int .i64 c,.int .i64 a]:Array Value).all fun x=>x.oneCell')=true:=n40_
theorem ZjO{w2 w3 w4:World}{cs:Array Value}(h3:w3.heap[w2.heap.size]?=some (.cells Zf 28 (0,0)))(hb3:Below w2.heap.size w2 w3)
  (h4:w4.heap[w2.heap.size]?=some (.cells cs 28 (0,0))) (hf4:Fr (fun k=>k=w2.heap.size) (w3.alloc (.cells #[.int .i64 0,.int .i64 0] 37)) w4) :
  w4.heap[w3.heap.size]?=some (.cells #[.int .i64 0,.int .i64 0] 37 (0,0))/\Below w2.heap.size w2 w4/\w2.heap.size<w3.heap.size:=by
 have hlt:=Zb h3;have hF:=heap_alloc_new w3 (.cells #[.int .i64 0,.int .i64 0] 37);exact ⟨hf4.heap hF o_,(hb3.alloc hb3.size _).trans (hf4.below _ (by have:=hb3.size;simp;omega) (fun k hk e=>by omega)),hlt⟩
theorem Zhc{w2 w3 w4 w5:World}{cs:Array Value}(h4:w4.heap[w2.heap.size]?=some (.cells cs 28 (0,0)))
  (h:w4.heap[w3.heap.size]?=some (.cells #[.int .i64 0,.int .i64 0] 37 (0,0))/\Below w2.heap.size w2 w4/\w2.heap.size<w3.heap.size) (hf5:Fr (fun k=>k=w3.heap.size) w4 w5) :
  w5.heap[w2.heap.size]?=some (.cells cs 28 (0,0))/\Below w2.heap.size w2 w5/\w2.heap.size<w3.heap.size:=
 ⟨hf5.heap h4 o_,h.2.1.trans (hf5.below _ h.2.1.size (fun k hk e=>by omega)),h.2.2⟩
theorem ZaD(nm:Str)(kind:Int):∀(l:List Ln) (u r:UV),Zz u->ZV nm kind u l=.ok r->Zz r
 |[],u,r,h,e=>by injection e with e;rw [<-e];exact h
 |x::t,u,r,h,e=>by
  rw [ZV] at e;cases hx:YL nm kind u x with
  |error c=>rw [hx] at e;cases e
  |ok q=>
   rw [hx] at e;obtain ⟨k,hk,v,rfl,-⟩:=ZfO hx;exact ZaD nm kind t _ r (h.upd _ _ (Zcw nm k hk v _)) e
theorem JW(nm:Str)(l:List Ln):Zz (Z9 nm l).1:=by
 unfold Z9;split
 ·exact Zz.zero
 ·split
  ·exact Zz.zero
  ·rename_i u hu
   split
   ·exact Zz.zero
   ·exact ZaD nm _ l _ _ (Zz.new nm) hu
theorem Qq{P:Program}{w:World}{ops:Array Oper}{rest:List Oper}{o:Oper}{a:Act}{Q:Exit->Act->World->Prop}(hg:Region.wanted o (yielded ops a.tmps)=true)(t:TypeId)(x:Operand)(b:Nat)(cells:Array Value)(T:TypeId)(d:TypeDesc)(ho:o.op=Op.load t x)
  (hx:a.eval x=.pointer (some ⟨b,0,none⟩)) (hw:w.heap[b]?=some (.cells cells T (0,0))) (hd:P.underlying t=some d) (hr:d.isRow=true) (hi:(P.info? t).map (·.size)=some cells.size)
  (h:wpList P ops Q rest (a.put o.dst (.agg cells)) w):wpList P ops Q (o::rest) a w:=by
 refine wpList_step fun K hK=>?_
 rw [if_pos hg];exact XU t x b cells T d ho hx hw hd hr hi (hK _ _ h)
theorem Zna{P:Program}{w:World}{ops:Array Oper}{rest:List Oper}{o:Oper}{a:Act}{Q:Exit->Act->World->Prop}(hg:Region.wanted o (yielded ops a.tmps)=true)(t:TypeId)(parts:Array (Nat×Operand))(vs:Array (Nat×Value))(cells:Array Value)(ho:o.op=Op.build t parts)
  (hv:(parts.map fun x=>(x.1,a.eval x.2))=vs) (hb:(Instr.build t vs).run P w=.ok (.agg cells) w) (h:wpList P ops Q rest (a.put o.dst (.agg cells)) w):wpList P ops Q (o::rest) a w:=by
 refine wpList_step fun K hK=>?_
 rw [if_pos hg];exact ZfJ t parts vs cells ho hv hb (hK _ _ h)
theorem Zf0:∀{f:Nat} {l:Str} {out x:List Str},l.length<f->YV l out=.ok x->(x.map List.length).sum<=(out.map List.length).sum+l.length
 |0,_,_,_,h,_=>absurd h o_
 |f+1,l,out,x,hf,h=>by
  cases hd:l.dropWhile Zm with
  |nil=>rw [ZaF hd] at h;cases h;omega
  |cons c r=>
   by_cases h32:out.length=32
   ·rw [JV hd h32] at h;cases h
   ·cases hn:Next (c::r) [] with
    |error e=>rw [ZaL hd h32 hn] at h;cases h
    |ok y=>
     obtain ⟨w,r'⟩:=y;rw [QB hd h32 hn] at h;have hdl:=YW l;rw [hd] at hdl;have h1:r'.length<=r.length:=Qh (Y3 hd) hn;have h2:=ZbN (f:=(c::r).length+1) o_ hn;have h3:=Zf0 (f:=f) n12_ h;simp only [List.map_append,List.map_cons,List.map_nil,List.sum_append,List.sum_cons,List.sum_nil,List.length_cons,List.length_nil] at h2 h3 hdl;omega
theorem Znq{s:Str}{l:List Str}(h:split s=.ok l):(l.map List.length).sum<=s.length:=by
 rw [Zbv] at h
 have:=Zf0 (f:=s.length+1) o_ h
 simpa using this
theorem Ze6:∀l:List Str,(Yq [32] (l.map YG)).length<=4*(l.map List.length).sum+3*l.length
 |[]=>Nat.zero_le _
 |[a]=>by
  have:=ZbQ a
  show (YG a).length<=_;simp only [List.map_cons,List.map_nil,List.sum_cons,List.sum_nil,List.length_cons,List.length_nil];omega
 |a::b::t=>by
  have h0:=ZbQ a;have h1:=Ze6 (b::t);have e:Yq [32] ((a::b::t).map YG)=YG a++[32]++Yq [32] ((b::t).map YG):=rfl;rw [e];simp only [List.length_append,List.map_cons,List.sum_cons,List.length_cons,List.length_nil] at h1⊢;omega
theorem Zpm{v:Str}(hv:v.length<=100000000){c:JB}(h:XZ v=some c):(J9 c).length<=450000000/\∀y∈c.2,y.length<137438953472:=by
 unfold XZ at h;have ht:=Zjz v;cases hs:split (Go.Lib.trimPrefix v [45]) with
 |error e=>rw [hs] at h;cases h
 |ok l=>
  rw [hs] at h;cases l with
  |nil=>cases h
  |cons x t=>
   simp only at h;split at h
   ·cases h
   ·injection h with h
    subst h;have h1:=Znq hs;have h2:=JO _ _ hs;refine ⟨?_,fun y hy=>by have:=h2.2 y hy;omega⟩;have h3:=Ze6 (x::t);have h4:(join (x::t)).length<=400000096:=by
     unfold join;split
     ·exact Nat.zero_le _
     ·split
      ·exact Nat.zero_le _
      ·omega
    unfold J9;simp only [List.length_append];split
    ·have:([45]:Str).length=1:=rfl
     omega
    ·have:([]:Str).length=0:=rfl
     omega
theorem Zjq(s:Str):0<=(Xu s).1/\(Xu s).1<=65535:=by
 unfold Xu;split
 ·split
  ·exact ⟨Int.natCast_nonneg _,by show ((ZeA s:Nat):Int)<=65535;omega⟩
  ·exact ⟨d_,d_⟩
 ·exact ⟨d_,d_⟩
theorem Zhb:∀(l:List Str) (n m:Int),0<=n->n<=6311433600->JM l n=some m->0<=m/\m<=6311433600
 |[],n,m,h0,h1,h=>by injection h with h;omega
 |x::t,n,m,h0,h1,h=>by
  have hx:=Zd1 x;unfold JM at h;split at h
  ·cases h
  ·split at h
   ·cases h
   ·exact Zhb t _ m o_ o_ h
theorem Znx(s:Str):0<=(YO s).1/\(YO s).1<=1099511627776:=by
 unfold YO;split
 ·exact ⟨d_,d_⟩
 ·cases h:JM (Zg s) 0 with
  |none=>show (0:Int)<=0/\(0:Int)<=1099511627776;exact ⟨d_,d_⟩
  |some n=>
   have:=Zhb _ 0 n d_ d_ h
   exact ⟨this.1,by show n<=_;omega⟩
theorem ZfD{α:Type}{l:List α}{v:Str}{x y:α}(h:y∈YF l v x):y∈l\/(v≠[]/\y=x):=by
 unfold YF at h;split at h
 ·cases h
 ·rename_i hv
  rcases List.mem_append.1 h with h|h
  ·exact .inl h
  ·exact .inr ⟨hv,n27_⟩
theorem ZqT{v:Str}(hv:v.length<=64000000){p:Str×Str}(h:p∈(Jd v).1):p.1.length+p.2.length<=100000000:=by
 unfold Jd at h;cases hs:split v with
 |error e=>rw [hs] at h;cases h
 |ok l=>
  rw [hs] at h;simp only at h;cases he:X9 l with
  |none=>rw [he] at h;cases h
  |some ps=>
   rw [he] at h;obtain ⟨h1,w,hw,e⟩:=Zfp he p h;have h2:=(JO _ _ hs).2 w hw;have h3:=ZmH w [61];have h4:p.1.length<=60:=by unfold ZgA at h1;simp at h1;omega
   have h5:p.2.length<=w.length:=by rw [e];exact h3.2
   omega
theorem Zl.field{name:Str}{kind:Int}{k:ZC}{v:Str}{c:UC}(hk:k∈Ze)(hv:v.length<=64000000)(hval:Zgj v k=0)(hc:Zl c)(hl:(Zi name k v c).len<=2000000):Zl (Zi name k v c):=by
 have hvs:∀x∈Zg v,x.length<=100000000:=fun x hx=>by
  have:=QY v.length v [] s_ x hx
  omega
 by_cases h0:k.form=1\/k.form=5
 ·have e:Zi name k v c=.s v:=by unfold Zi;rw [if_pos h0]
  rw [e] at hl⊢;exact Zl.s o_
 by_cases h1:k.form=2
 ·have e:Zi name k v c=.b (Zck v):=by unfold Zi;rw [if_neg h0,if_pos h1]
  rw [e] at hl⊢;exact Zl.b _
 by_cases h2:k.form=3
 ·have e:Zi name k v c=.n (Xu v).1:=by unfold Zi;rw [if_neg h0,if_neg h1,if_pos h2]
  rw [e] at hl⊢
  have:=Zjq v;exact Zl.n o_ o_
 by_cases h3:k.form=10
 ·have e:Zi name k v c=.n (Qn k.words v 0+1):=by unfold Zi;rw [if_neg h0,if_neg h1,if_neg h2,if_pos h3]
  rw [e] at hl⊢;have h4:=Zdw k.words v 0;have h5:k.words.length<=1000:=by
   have h0:(Ze.all fun k=>decide (k.words.length<=1000))=true:=n4_;exact of_decide_eq_true (List.all_eq_true.1 h0 k hk)
  exact Zl.n o_ o_
 by_cases h4:k.form=7
 ·have e:Zi name k v c=.cs (YF c.cmds v ((XZ v).getD (false,[]))):=by unfold Zi;rw [if_neg h0,if_neg h1,if_neg h2,if_neg h3,if_pos h4]
  rw [e] at hl⊢;refine Zl.cs (fun x hx=>?_) hl;rcases ZfD hx with hx|⟨hv0,rfl⟩
  ·exact hc.cmds x hx
  ·cases he:XZ v with
   |none=>show (J9 (false,[])).length<=450000000/\∀y∈([]:List Str),y.length<137438953472;exact ⟨d_,s_⟩
   |some d=>exact Zpm o_ he
 by_cases h5:k.form=8
 ·have e:Zi name k v c=.ps (Yv (if v=[] then [] else c.prs) (Jd v).1):=by unfold Zi;rw [if_neg h0,if_neg h1,if_neg h2,if_neg h3,if_neg h4,if_pos h5]
  rw [e] at hl⊢;refine Zl.ps (fun p hp=>?_) hl;rcases Zcs _ _ hp with hp|hp
  ·split at hp
   ·cases hp
   ·exact hc.prs p hp
  ·exact ZqT hv hp
 by_cases h6:k.form=9
 ·have e:Zi name k v c=.ss (YF c.strs v v):=by unfold Zi;rw [if_neg h0,if_neg h1,if_neg h2,if_neg h3,if_neg h4,if_neg h5,if_pos h6]
  rw [e] at hl⊢;refine Zl.ss (fun p hp=>?_) hl;rcases ZfD hp with hp|⟨_,rfl⟩
  ·exact hc.strs p hp
  ·omega
 by_cases h7:k.form=11
 ·have e:Zi name k v c=.ns (YK c.nums ((Zg v).map fun w=>(Xu w).1)):=by unfold Zi;rw [if_neg h0,if_neg h1,if_neg h2,if_neg h3,if_neg h4,if_neg h5,if_neg h6,if_pos h7]
  rw [e] at hl⊢;refine Zl.ns (fun n hn=>?_) hl;rcases Zas hn with hn|hn
  ·exact hc.nums n hn
  ·obtain ⟨w,_,rfl⟩:=List.mem_map.1 hn
   have:=Zjq w
   omega
 by_cases h8:k.form=4
 ·have hs:=Znx v
  cases g:k.list with
  |true=>
   have e:Zi name k v c=.ns (YF c.nums v (YO v).1):=by unfold Zi;rw [if_neg h0,if_neg h1,if_neg h2,if_neg h3,if_neg h4,if_neg h5,if_neg h6,if_neg h7,if_pos h8,if_pos g]
   rw [e] at hl⊢;refine Zl.ns (fun n hn=>?_) hl;rcases ZfD hn with hn|⟨_,rfl⟩
   ·exact hc.nums n hn
   ·omega
  |false=>
   have e:Zi name k v c=.n (YO v).1:=by unfold Zi;rw [if_neg h0,if_neg h1,if_neg h2,if_neg h3,if_neg h4,if_neg h5,if_neg h6,if_neg h7,if_pos h8,if_neg (by rw [g];decide)]
   rw [e];exact Zl.n o_ o_
 by_cases h9:ZI k.name=0
 ·have e:Zi name k v c=.ss (YK c.strs (Zg v)):=by unfold Zi;rw [if_neg h0,if_neg h1,if_neg h2,if_neg h3,if_neg h4,if_neg h5,if_neg h6,if_neg h7,if_neg h8,if_pos h9]
  rw [e] at hl⊢;refine Zl.ss (fun p hp=>?_) hl;rcases Zas hp with hp|hp
  ·exact hc.strs p hp
  ·exact hvs p hp
 have e:Zi name k v c=.rs (ZK name (ZI k.name:Nat) (if v=[] then c.rels.filter (fun r=>r.1 !=(ZI k.name:Nat)) else c.rels) (Zg v)):=by unfold Zi;rw [if_neg h0,if_neg h1,if_neg h2,if_neg h3,if_neg h4,if_neg h5,if_neg h6,if_neg h7,if_neg h8,if_neg h9]
 rw [e] at hl⊢;refine Zl.rs (fun p hp=>?_) hl;rcases Zbc name _ _ _ hp with hp|hp
 ·split at hp
  ·exact hc.rels p (List.mem_filter.1 hp).1
  ·exact hc.rels p hp
 ·exact hvs p.2 hp
theorem ZmT:∀j:Fin 35,j.val=4\/Qt.contains j.val=true\/(Zy j.val).tag<=2:=n4_
theorem ZgW{u:UV}(ht:Zz u)(hl:Qi u=false)(j:Nat):(u j).len<=64:=by
 unfold Qi at hl;rw [Bool.or_eq_false_iff,List.any_eq_false] at hl;have hz:(Zy j).tag<=2->(u j).len<=64:=fun h=>by
  rw [<-ht j] at h;cases hu:u j<;>rw [hu] at h<;>first|exact Nat.zero_le _|(exfalso;simp [UC.tag] at h)
 by_cases hj:j<35
 ·rcases ZmT ⟨j,hj⟩ with h|h|h
  ·have h:j=4:=h
   subst h
   have:=of_decide_eq_false hl.1
   omega
  ·have:=hl.2 j (List.contains_iff_mem.1 h)
   simp only [decide_eq_true_eq] at this;omega
  ·exact hz h
 ·refine hz ?_
  unfold Zy;(repeat' split);all_goals first|exact Nat.zero_le _|(exfalso;omega)
theorem ZnX{u:UV}(h:∀j,(u j).len<=64):(Zew u).length<=2000000:=by
 unfold Zew;refine Nat.le_trans (Zj6 _ (fun _=>65) Ze (fun k _=>by
  rw [List.length_map];have h1:=Zpz u (ZL (u 0).str) k;have h2:=h (Zc k.name);split at h1<;>omega)) ?_
 have:=Zn6
 rw [List.map_const',List.sum_replicate_nat];omega
theorem Zl.lines{name:Str}{kind:Int}{r:UV}(hn:ZB name≠0):∀{L:List Ln} {u:UV},(∀x∈L,x.val.length<=1048576)->Zz u->(∀j,Zl (u j))->ZV name kind u L=.ok r->∀j,Zl (r j)
 |[],u,_,_,hs,h=>by injection h with h;rw [<-h];exact hs
 |x::t,u,hx,ht,hs,h=>by
  obtain ⟨q,h1,h2⟩:=Xv h;have htq:=ZaD name kind [x] u q ht (by rw [ZV,h1];rfl);obtain ⟨k,v,hsp,hf,hk,e1,e2,rfl,ha,hl,hlong⟩:=Zbt h1;refine Zl.lines hn (fun y hy=>hx y (by simp [hy])) htq ?_ h2;have hv:v.length<=64000000:=by
   have hx0:=hx x s_;unfold Xm at hsp;rw [if_neg hn] at hsp;split at hsp
   ·cases hsp
   ·rename_i r hr
    injection hsp with hsp
    subst hsp;have h3:=Zc5 name _ x.val r l_ hr;have h4:=(Jl hn).2;have h5:=Nat.mul_le_mul hx0 (show name.length+1<=61 by omega);omega
  have hvl:=((Zku (x:={ x with val:=v }) hf).1 hl).2;refine Zl.upd hs _ (Zl.field (kind:=kind) hk hv hvl (hs _) ?_)
  have:=ZgW htq hlong (Zc k.name)
  rw [UV.upd_at] at this;omega
theorem Zlw{name:Str}{l:List Ln}(h:(Z9 name l).2.1=0)(hx:∀x∈l,x.val.length<=1048576):Yx (Z9 name l).1:=by
 have ht:=JW name l;obtain ⟨hn,_,hl,_,_⟩:=ZcQ h;have hlong:=Zfv (ZpK name) hl;have h60:=(Jl hn).2;exact Yx.of (Zl.lines hn hx (Zz.new name) (Zl.new o_) hl) (ZnX (ZgW ht hlong))
end Go.Proofs.YtmgmbeipbeknaaaGreatDoor
