import Derived.WalkKit
import Derived.WalkSpells
import Derived.WalkLawsBesides
import Derived.Lib.FrozenHead2
import Derived.Lib.IndexBytes
import Derived.Lib.Hide
import Derived.Deep.MidRow
import Derived.Deep.QuietTactic
import Derived.StillTail
import Derived.OrdersHeld
import Derived.Deep.RegionHeld
import Derived.Deep.RegionLawGrows
import Derived.Deep.LoopGhost
import Derived.IntWalk
import Derived.Lib.QuietBelow
import Derived.RangeFuncNested
import Derived.RangeFuncBound
import Derived.RangeFuncCalls
import Derived.RangeFuncLeaves
import Derived.StillTailTactics
import Derived.Test.YtmgmbeipbeknaaaGreatDoorRB1
namespace Go.Proofs.YtmgmbeipbeknaaaGreatDoor
open Go Go.RowKit
set_option linter.all false
set_option maxHeartbeats 16000000
structure Fr(M:Nat->Prop)(w w':World):Prop where
 os:w'.os=w.os
 tape:w'.tape=w.tape
 output:w'.output=w.output
 size:w.heap.size<=w'.heap.size
 block:∀k,k<w.heap.size->¬M k->w'.heap[k]?=w.heap[k]?
theorem Fr.refl(M:Nat->Prop)(w:World):Fr M w w:=⟨rfl,rfl,rfl,l_,fun _ _ _=>rfl⟩
theorem Fr.drewN{M:Nat->Prop}{a w:World}(h:Fr M a w)(n:Nat):Fr M a (w.drewN n):=⟨h.os,h.tape,h.output,h.size,h.block⟩
theorem Fr.drew{M:Nat->Prop}{a w:World}(h:Fr M a w):Fr M a w.drew:=⟨h.os,h.tape,h.output,h.size,h.block⟩
theorem Fr.trans{M:Nat->Prop}{a b c:World}(h:Fr M a b)(k:Fr M b c):Fr M a c:=
 ⟨k.os.trans h.os,k.tape.trans h.tape,k.output.trans h.output,Nat.le_trans h.size k.size,
  fun i hi hm=>(k.block i (c16_ hi h.size) hm).trans (h.block i hi hm)⟩
theorem Fr.then'{M M':Nat->Prop}{a b c:World}(h:Fr M a b)(k:Fr M' b c)(hM:∀i,i<a.heap.size->M' i->M i):Fr M a c:=
 ⟨k.os.trans h.os,k.tape.trans h.tape,k.output.trans h.output,Nat.le_trans h.size k.size,
  fun i hi hm=>(k.block i (c16_ hi h.size) (fun x=>hm (hM i hi x))).trans (h.block i hi hm)⟩
theorem Fr.mono{M M':Nat->Prop}{a b:World}(h:Fr M a b)(hM:∀i,i<a.heap.size->M i->M' i):Fr M' a b:=
 ⟨h.os,h.tape,h.output,h.size,fun i hi hm=>h.block i hi (fun x=>hm (hM i hi x))⟩
theorem Fr.setCell{M:Nat->Prop}{a w:World}(h:Fr M a w){p:Addr}(hp:p.block<a.heap.size->M p.block)(u:Value):Fr M a (w.setCell p u):=
 ⟨h.os,h.tape,h.output,by simpa using h.size,fun k hk hm=>by
  by_cases e:k=p.block
  ·subst e;exact absurd (hp hk) hm
  ·rw [Below.heap_setCell _ _ _ _ e];exact h.block k hk hm⟩
theorem Fr.alloc{M:Nat->Prop}{a w:World}(h:Fr M a w)(o:Obj):Fr M a (w.alloc o):=
 ⟨h.os,h.tape,h.output,by have:=h.size;simp;omega,fun k hk hm=>by
  rw [Below.heap_alloc _ _ _ (c16_ hk h.size)];exact h.block k hk hm⟩
theorem Fr.grown{M:Nat->Prop}{a w w':World}{row:Option Nat}(h:Fr M a w)(hg:w.grownBy w' row)(hr:∀k,row=some k->k<a.heap.size->M k):Fr M a w' :=
 ⟨hg.os.trans h.os,hg.tape.trans h.tape,hg.output.trans h.output,Nat.le_trans h.size hg.size,fun k hk hm=>
  (hg.block k (c16_ hk h.size) (fun e=>hm (hr k e.symm hk))).trans (h.block k hk hm)⟩
theorem Fr.below{w w':World}{M:Nat->Prop}(h:Fr M w w')(B:Nat)(hB:B<=w.heap.size)(hM:∀k,k<B->¬M k):Below B w w' :=
 ⟨h.os,h.tape,h.output,h.size,fun k hk=>h.block k o_ (hM k hk)⟩
theorem Fr.of_below{w w':World}(h:Below w.heap.size w w')(M:Nat->Prop):Fr M w w' :=
 ⟨h.os,h.tape,h.output,h.size,fun k hk _=>h.block k hk⟩
theorem Fr.freeze{M:Nat->Prop}{a w:World}(h:Fr M a w){p:Addr}(hp:p.block<a.heap.size->M p.block)(n:Nat):Fr M a (w.freeze p n):=by
 unfold World.freeze;split
 ·exact h
 ·refine ⟨h.os,h.tape,h.output,by simpa using h.size,fun k hk hm=>?_⟩
  rw [<-h.block k hk hm];by_cases e:p.block=k
  ·subst e;exact absurd (hp hk) hm
  ·simp only [Array.getElem?_modify]
   rw [if_neg e]
theorem Zd{w:World}{b:Nat}{o:Obj}(h:w.heap[b]?=some o):b<w.heap.size:=by
 rcases Nat.lt_or_ge b w.heap.size with h'|h'
 ·exact h'
 ·simp [Array.getElem?_eq_none h'] at h
theorem rd{w:World}{b:Nat}{cs:Array Value}{T:TypeId}(h:w.heap[b]?=some (.cells cs T (0,0))) :
  (∀j,w.cell? ⟨b,j,none⟩=cs[j]?)/\(∀j,w.frozen? ⟨b,j,none⟩=false)/\w.shape? b=some (T,cs.size)/\b<w.heap.size:=
 ⟨fun j=>by simp [World.cell?,h],fun j=>by simp [World.frozen?,h],by simp [World.shape?,h],Zd h⟩
theorem heap_setCell{w:World}{b:Nat}{cs:Array Value}{T:TypeId}{fz:Nat×Nat}(h:w.heap[b]?=some (.cells cs T fz))(j:Nat)(v:Value) :
  (w.setCell ⟨b,j,none⟩ v).heap[b]?=some (.cells (cs.setIfInBounds j v) T fz):=by
 simp [World.setCell,Array.getElem?_modify,h]
theorem ZC{w:World}{b:Nat}{o:Obj}(h:w.heap[b]?=some o){a:Addr}(hb:b≠a.block)(v:Value):(w.setCell a v).heap[b]?=some o:=by
 rw [Below.heap_setCell _ _ _ _ hb];exact h
theorem heap_alloc{w:World}{b:Nat}{o:Obj}(h:w.heap[b]?=some o)(x:Obj):(w.alloc x).heap[b]?=some o:=by
 rw [Below.heap_alloc _ _ _ (Zd h)];exact h
theorem Fr.heap{M:Nat->Prop}{w w':World}{b:Nat}{o:Obj}(hf:Fr M w w')(h:w.heap[b]?=some o)(hM:¬M b):w'.heap[b]?=some o:=by
 rw [hf.block b (Zd h) hM];exact h
def Buf(B:Nat)(e:TypeId)(l:List UInt8)(v:Value)(w:World):Prop:=
 (v=.slice none 0 0/\l=[])\/(l≠[]/\w.ownsRowF B e 1 v l.length (Lib.byteCells l))
theorem Buf.own{B:Nat}{e:TypeId}{l:List UInt8}{v:Value}{w:World}(h:Buf B e l v w):w.ownsRowF B e 1 v l.length (Lib.byteCells l):=by
 rcases h with ⟨rfl,rfl⟩|⟨_,h⟩
 ·exact World.ownsRowF_nil _ _ _ _
 ·exact h
theorem Buf.kept{B:Nat}{e:TypeId}{l:List UInt8}{v:Value}{w w':World}{M:Nat->Prop}(h:Buf B e l v w)(hf:Fr M w w')(hM:∀k,v.ownBlock=some k->¬M k):Buf B e l v w':=by
 rcases h with ⟨rfl,rfl⟩|⟨h0,h⟩
 ·exact .inl ⟨rfl,rfl⟩
 ·refine .inr ⟨h0,h.1,?_⟩
  rcases h.2 with hn|⟨g,cap,cur,fz,rfl,hb,hgg,rest⟩
  ·exact .inl hn
  ·exact .inr ⟨g,cap,cur,fz,rfl,hb,hf.heap hgg (hM g rfl),rest⟩
theorem Buf.lt{B:Nat}{e:TypeId}{l:List UInt8}{v:Value}{w:World}(h:Buf B e l v w):∀k,v.ownBlock=some k->B<=k/\k<w.heap.size:=h.own.lt
theorem Buf.mono{B B':Nat}{e:TypeId}{l:List UInt8}{v:Value}{w:World}(h:Buf B e l v w)(hB:∀k,v.ownBlock=some k->B'<=k):Buf B' e l v w:=by
 rcases h with ⟨rfl,rfl⟩|⟨h0,h⟩
 ·exact .inl ⟨rfl,rfl⟩
 ·refine .inr ⟨h0,h.1,?_⟩
  rcases h.2 with hn|⟨g,cap,cur,fz,rfl,hb,hgg,rest⟩
  ·exact .inl hn
  ·exact .inr ⟨g,cap,cur,fz,rfl,hB g rfl,hgg,rest⟩
theorem Buf.form{B:Nat}{e:TypeId}{l:List UInt8}{v:Value}{w:World}(h:Buf B e l v w):∃oa cap,v=.slice oa l.length cap:=by
 rcases h.own.2 with ⟨rfl,h0⟩|⟨g,cap,cur,fz,rfl,_⟩
 ·exact ⟨none,0,by rw [h0]⟩
 ·exact ⟨_,_,rfl⟩
def Zdw(e:TypeId)(w:World)(k:Nat):Prop:=∃cs fz,w.heap[k]?=some (.cells cs e fz)
def FrB(R B:Nat)(e:TypeId)(w w':World):Prop:=Fr (fun k=>k=R\/(B<=k/\Zdw e w k)) w w'
theorem FrB.refl(R B:Nat)(e:TypeId)(w:World):FrB R B e w w:=Fr.refl _ _
theorem FrB.trans{R B:Nat}{e:TypeId}{a b c:World}(h:FrB R B e a b)(k:FrB R B e b c):FrB R B e a c:=by
 refine Fr.then' h k ?_;intro i hi hm;rcases hm with rfl|⟨h1,cs,fz,h2⟩
 ·exact .inl rfl
 ·by_cases hr:i=R
  ·exact .inl hr
  ·by_cases hx:B<=i/\Zdw e a i
   ·exact .inr hx
   ·refine .inr ⟨h1,cs,fz,?_⟩
    rw [<-h.block i hi (fun y=>y.elim hr hx)];exact h2
theorem FrB.drewN{R B:Nat}{e:TypeId}{a w:World}(h:FrB R B e a w)(n:Nat):FrB R B e a (w.drewN n):=Fr.drewN h n
theorem FrB.drew{R B:Nat}{e:TypeId}{a w:World}(h:FrB R B e a w):FrB R B e a w.drew:=Fr.drew h
theorem FrB.setCell{R B:Nat}{e:TypeId}{a w:World}(h:FrB R B e a w)(j:Nat)(u:Value):FrB R B e a (w.setCell ⟨R,j,none⟩ u):=
 Fr.setCell h (p:=⟨R,j,none⟩) (fun _=>.inl rfl) u
theorem FrB.alloc{R B:Nat}{e:TypeId}{a w:World}(h:FrB R B e a w)(o:Obj):FrB R B e a (w.alloc o):=Fr.alloc h o
theorem FrB.grown{R B:Nat}{e:TypeId}{a w w':World}{row:Option Nat}(h:FrB R B e a w)(hg:w.grownBy w' row)(hr:∀k,row=some k->B<=k/\Zdw e w k):FrB R B e a w' :=
 FrB.trans h ((Fr.refl _ _).grown hg (fun k hk _=>.inr (hr k hk)))
theorem FrB.heap{R B:Nat}{e:TypeId}{w w':World}{b:Nat}{cs:Array Value}{T:TypeId}{fz:Nat×Nat}(hf:FrB R B e w w')(h:w.heap[b]?=some (.cells cs T fz))(hR:b≠R)(hT:T≠e):w'.heap[b]?=some (.cells cs T fz):=by
 refine Fr.heap hf h ?_;rintro (rfl|⟨_,cs',fz',h'⟩)
 ·exact hR rfl
 ·rw [h] at h';simp at h';exact hT h'.2.1
theorem FrB.below{R B:Nat}{e:TypeId}{w w':World}(h:FrB R B e w w')(B':Nat)(hB:B'<=B)(hR:B'<=R)(hs:B'<=w.heap.size):Below B' w w' :=
 Fr.below h B' hs (fun k hk x=>by rcases x with rfl|⟨h1,_⟩<;>omega)
theorem ZkF{w:World}{B:Nat}{e:TypeId}{v:Value}{n:Nat}{xs:List Value}(h:w.ownsRowF B e 1 v n xs):∀g,v.ownBlock=some g->B<=g/\Zdw e w g:=by
 intro g hg;rcases h.2 with ⟨rfl,_⟩|⟨g',cap,cur,fz,rfl,hb,hh,_⟩
 ·simp [Value.ownBlock] at hg
 ·simp [Value.ownBlock] at hg
  subst hg;exact ⟨hb,cur,fz,hh⟩
theorem Buf.row{B:Nat}{e:TypeId}{l:List UInt8}{v:Value}{w:World}(h:Buf B e l v w):∀g,v.ownBlock=some g->B<=g/\Zdw e w g:=ZkF h.own
theorem Buf.ne{B:Nat}{e:TypeId}{l:List UInt8}{v:Value}{w:World}(h:Buf B e l v w){R:Nat}{cs:Array Value}{T:TypeId}{fz:Nat×Nat}(hR:w.heap[R]?=some (.cells cs T fz))(hT:T≠e):v.ownBlock≠some R:=by
 intro hv;obtain ⟨_,cs',fz',h'⟩:=h.row R hv;rw [hR] at h';simp at h';exact hT h'.2.1
theorem ZiN(c:UInt8):Lib.byteCells [c]=[.int .u8 c.toNat]:=rfl
theorem Buf.drewN{B:Nat}{e:TypeId}{l:List UInt8}{v:Value}{w:World}(h:Buf B e l v w)(n:Nat):Buf B e l v (w.drewN n):=h
theorem Buf.setCell{B:Nat}{e:TypeId}{l:List UInt8}{v:Value}{w:World}(h:Buf B e l v w){a:Addr}(ha:v.ownBlock≠some a.block)(u:Value):Buf B e l v (w.setCell a u):=
 h.kept (M:=(·=a.block)) (Fr.setCell (M:=(·=a.block)) (Fr.refl _ _) (fun _=>rfl) u) (fun k hk e=>ha (e ▸ hk))
theorem Buf.alloc{B:Nat}{e:TypeId}{l:List UInt8}{v:Value}{w:World}(h:Buf B e l v w)(o:Obj):Buf B e l v (w.alloc o):=
 h.kept (M:=fun _=>False) (Fr.alloc (Fr.refl _ _) o) (fun _ _ e=>e)
theorem ZB{a b:Bool}(h:a=b):Ending.returned (.bool a)=.returned (.bool b):=by rw [h]
theorem Zfp{k:IntKind}{a b:Int}(h:a=b):Ending.returned (.int k a)=.returned (.int k b):=by rw [h]
theorem Zbg{a b:Value}(h:a=b):Ending.returned a=.returned b:=by rw [h]
theorem dn0(w:World):∃n,w=w.drewN n:=⟨0,rfl⟩
theorem dn(w:World)(n:Nat):∃m,w.drewN n=w.drewN m:=⟨n,rfl⟩
theorem dn2(w:World)(a b:Nat):(w.drewN a).drewN b=w.drewN (a+b):=by
 simp only [World.drewN];congr 1;omega
theorem QA{a b:World}{n:Nat}(h:∃m,b=a.drewN m):∃m,b.drewN n=a.drewN m:=by
 obtain ⟨m,rfl⟩:=h;exact ⟨m+n,dn2 _ _ _⟩
theorem FrB.of_dn{R B:Nat}{e:TypeId}{a b:World}(h:∃m,b=a.drewN m):FrB R B e a b:=by
 obtain ⟨m,rfl⟩:=h;exact (FrB.refl _ _ _ _).drewN m
theorem Fr.of_dn{M:Nat->Prop}{a b:World}(h:∃m,b=a.drewN m):Fr M a b:=by
 obtain ⟨m,rfl⟩:=h;exact (Fr.refl _ _).drewN m
theorem Z4{w w':World}{base:Nat}{e:TypeId}{size:Nat}{v:Value}{n:Nat}{xs:List Value}{M:Nat->Prop}(h:w.ownsRow base e size v n xs)(hf:Fr M w w')(hM:∀g,v.ownBlock=some g->Zdw e w g->¬M g):w'.ownsRow base e size v n xs:=by
 refine ⟨h.1,?_⟩;rcases h.2 with hn|⟨g,cap,cur,rfl,hb,hgg,rest⟩
 ·exact .inl hn
 ·exact .inr ⟨g,cap,cur,rfl,hb,hf.heap hgg (hM g rfl ⟨cur,(0,0),hgg⟩),rest⟩
theorem Zf5{w w':World}{base R B:Nat}{e e':TypeId}{size:Nat}{v:Value}{n:Nat}{xs:List Value}(h:w.ownsRow base e size v n xs)(hf:FrB R B e' w w')(he:e≠e'){cs:Array Value}{T:TypeId}{fz:Nat×Nat}(hR:w.heap[R]?=some (.cells cs T fz))(hT:T≠e) :
  w'.ownsRow base e size v n xs:=by
 refine Z4 h hf ?_;rintro g hg ⟨cs',fz',h'⟩ (rfl|⟨_,cs2,fz2,h2⟩)
 ·rw [hR] at h';simp at h';exact hT h'.2.1
 ·rw [h2] at h';simp at h';exact he h'.2.1.symm
theorem ownsRow_form{w:World}{base:Nat}{e:TypeId}{size:Nat}{v:Value}{n:Nat}{xs:List Value}(h:w.ownsRow base e size v n xs):∃oa cap,v=.slice oa n cap:=by
 rcases h.2 with ⟨rfl,h0⟩|⟨g,cap,cur,rfl,_⟩
 ·exact ⟨none,0,by rw [h0]⟩
 ·exact ⟨_,_,rfl⟩
def Zh(l:List (List UInt8)):List Value:=l.map fun x=>.string ⟨x.toArray⟩
theorem ZcQ(l:List (List UInt8)):(Zh l).length=l.length:=by simp [Zh]
theorem Xc(l:List (List UInt8))(x:List UInt8):Zh (l++[x])=Zh l++[.string ⟨x.toArray⟩]:=by simp [Zh]
theorem Zap{x y:Int}{b:Bool}(h:(x==y)=b):(x !=y)=!b:=by simp [bne,h]
theorem Xo{s:ByteArray}(h:s.size≠0):s.toList.isEmpty=false/\¬s.toList=[]/\0<s.size/\(0:Int)<(s.size:Int):=by
 have h1:¬s.toList=[]:=by
  rw [ByteArray.toList_eq];intro e;apply h;obtain ⟨⟨d⟩⟩:=s;simp at e;subst e;rfl
 exact ⟨n77_,h1,o_,o_⟩
theorem QH{s:ByteArray}(h:s.size=0):s=⟨#[]⟩:=by
 obtain ⟨⟨d⟩⟩:=s;cases d with
 |nil=>rfl
 |cons a l=>simp [ByteArray.size] at h
theorem Xn(a b:UInt8):(a==b)=((a.toNat:Int)==(b.toNat:Int)):=by
 rw [Bool.eq_iff_iff];simp [<-UInt8.toNat_inj];omega
theorem drop_cons(s:ByteArray)(k:Nat)(h:k<s.size):s.data.toList.drop k=s[k]::s.data.toList.drop (k+1):=by
 rw [List.drop_eq_getElem_cons n32_];rfl
def Zp(w:World)(oa:Option Addr)(l:List (List UInt8)):Prop:=
 ∀i (h:i<l.length),∃b o,oa=some ⟨b,o,none⟩/\w.cell? ⟨b,o+i,none⟩=some (.string ⟨l[i].toArray⟩)
theorem Zp.below{w w':World}{oa:Option Addr}{l:List (List UInt8)}(h:Zp w oa l)(hb:Below w.heap.size w w'):Zp w' oa l:=by
 intro i hi;obtain ⟨b,o,e,hc⟩:=h i hi;exact ⟨b,o,e,cell_later hb hc⟩
theorem Zp.nil(w:World)(oa:Option Addr):Zp w oa []:=fun _ h=>absurd h s_
theorem Zp.of_own{w:World}{base:Nat}{e:TypeId}{oa:Option Addr}{n cap:Nat}{l:List (List UInt8)}(h:w.ownsRow base e 1 (.slice oa n cap) n (Zh l)):Zp w oa l:=by
 intro i hi;have hl:=h.1;rw [ZcQ] at hl;rcases h.2 with ⟨_,h0⟩|⟨g,cap',cur,hv,_,hg,_,_,_,ht⟩
 ·omega
 ·injection hv with h1 h2 h3
  subst h1;refine ⟨g,0,rfl,?_⟩;have hc:=h.cells (g:=g) rfl i (.string ⟨l[i].toArray⟩) (by simp [Zh,hi]);have hadd:(⟨g,0,none⟩:Addr).add i=⟨g,0+i,none⟩:=n100_;rw [hadd] at hc;exact hc
theorem Zp.take{w:World}{oa:Option Addr}{l:List (List UInt8)}(h:Zp w oa l)(k:Nat):Zp w oa (l.take k):=by
 intro i hi;simp at hi;obtain ⟨b,o,e,hc⟩:=h i o_;exact ⟨b,o,e,n95_⟩
theorem Ze{B:Nat}{a b:World}(h:∃n,b=a.drewN n):Below B a b:=by
 obtain ⟨n,rfl⟩:=h;exact ⟨rfl,rfl,rfl,l_,fun _ _=>rfl⟩
theorem Below.more{a b c:World}(h:Below a.heap.size a b)(k:Below b.heap.size b c):Below a.heap.size a c:=h.trans (k.mono h.size)
theorem JM{P:Program}{w:World}(base:Nat)(t ty e:TypeId)(i:TypeInfo)(size:Nat)(ht:P.underlying t=some (.slice e))(hi:P.info? e=some i)
  (v:Value) (n:Nat) (xs:List Value) (hown:w.ownsRow base e size v n xs) (c:Nat) :
  (Builtin.append_ #[t,t] ty #[v,.slice none 0 c]).run P w=.ok v w:=by
 rcases hown.2 with ⟨rfl,rfl⟩|⟨g,cap,cur,rfl,_,_,hnc,_⟩
 ·simp [Builtin.append_,run_underlying ht,sizeOf,typeInfo,hi,Builtin.lenOf,Builtin.firstCells]
 ·simp [Builtin.append_,run_underlying ht,sizeOf,typeInfo,hi,Builtin.lenOf,Builtin.firstCells,hnc,storeCells]
theorem Xh{P:Program}{w:World}(base:Nat)(t ty e:TypeId)(i:TypeInfo)(z:Value)(size bytes:Nat)(ht:P.underlying t=some (.slice e))(hi:P.info? e=some i)(hz:i.zero=some z)
  (hsize:i.size=size) (hby:i.bytes=bytes) (hzs:z.cells.size=size) (hsz:0<size)
  (v:Value) (n:Nat) (xs:List Value) (hown:w.ownsRow base e size v n xs) (oa:Option Addr) (m c:Nat) (news:List Value) (hl:news.length=m*size)
  (hc:∀j u,news[j]?=some u->∃b o,oa=some ⟨b,o,none⟩/\w.cell? ⟨b,o+j,none⟩=some u) (h1:∀u∈news,u.oneCell'=true)
  (h63:n+m<=maxLen) (hbytes:(n+m)*bytes<=140737488355328) (hbase:base<=w.heap.size) :
  ∃v' w',(Builtin.append_ #[t,t] ty #[v,.slice oa m c]).run P w=.ok v' w'/\w'.ownsRow base e size v' (n+m) (xs++news)/\w.grownBy w' v.ownBlock:=by
 cases oa with
 |none=>
  have hn:news=[]:=by
   cases news with
   |nil=>rfl
   |cons u r=>obtain ⟨b,o,e,_⟩:=hc 0 u rfl;cases e
  subst hn;have hm:m=0:=by
   rcases Nat.eq_zero_or_pos m with h|h
   ·exact h
   ·have:=Nat.mul_pos h hsz
    simp at hl;omega
  subst hm;exact ⟨v,w,JM base t ty e i size ht hi v n xs hown c,by simpa using hown,⟨rfl,rfl,rfl,l_,fun _ _ _=>rfl⟩⟩
 |some a=>
  by_cases h0:news=[]
  ·subst h0
   obtain ⟨v',w',h2,h3,h4,_⟩:=run_append_own (P:=P) w base t ty e i z size bytes ht hi hz hsize hby hzs hsz v n xs hown a m c [] hl s_ s_ h63 hbytes hbase;exact ⟨v',w',h2,h3,h4⟩
  ·obtain ⟨u,r,rfl⟩:∃u r,news=u::r:=by
    cases news with
    |nil=>exact absurd rfl h0
    |cons u r=>exact ⟨u,r,rfl⟩
   obtain ⟨b,o,e1,_⟩:=hc 0 u rfl;injection e1 with e1
   subst e1;obtain ⟨v',w',h2,h3,h4,_⟩:=run_append_own (P:=P) w base t ty e i z size bytes ht hi hz hsize hby hzs hsz v n xs hown ⟨b,o,none⟩ m c (u::r) hl (by
    intro j x hx;obtain ⟨b',o',e2,h5⟩:=hc j x hx;injection e2 with e2;injection e2 with e3 e4;subst e3;subst e4
    have hadd:(⟨b,o,none⟩:Addr).add j=⟨b,o+j,none⟩:=n100_;rw [hadd];exact h5) h1 h63 hbytes hbase
   exact ⟨v',w',h2,h3,h4⟩
theorem Zgu(l:List (List UInt8)):∀u∈Zh l,u.oneCell'=true:=by
 intro u hu;obtain ⟨x,_,rfl⟩:=List.mem_map.1 hu;rfl
theorem Zp.cells{w:World}{oa:Option Addr}{l:List (List UInt8)}(h:Zp w oa l):∀j u,(Zh l)[j]?=some u->∃b o,oa=some ⟨b,o,none⟩/\w.cell? ⟨b,o+j,none⟩=some u:=by
 intro j u hu;have hj:j<l.length:=by
  rcases Nat.lt_or_ge j l.length with h'|h'
  ·exact h'
  ·rw [List.getElem?_eq_none (by simpa [Zh] using h')] at hu;cases hu
 obtain ⟨b,o,e,hc⟩:=h j hj;refine ⟨b,o,e,?_⟩;rw [hc];simp [Zh,hj] at hu;rw [hu]
theorem wpList_append_run{P:Program}{w:World}{ops:Array Oper}{rest:List Oper}{o:Oper}{a:Act}{Q:Exit->Act->World->Prop}(hw:Region.wanted o (yielded ops a.tmps)=true)(s x:Operand)(t:TypeId)
  (ho:o.op=.call { callee:=.builtin .append,args:=#[s,x],argTypes:=#[t,t] }) {v xv v':Value} {w':World} (hr:(Builtin.append_ #[t,t] o.type #[v,xv]).run P w=.ok v' w') (hs:a.eval s=v) (hx:a.eval x=xv)
  (h:wpList P ops Q rest (a.put o.dst v') w'):wpList P ops Q (o::rest) a w:=by
 refine wpList_step fun K hK=>?_
 rw [if_pos hw];unfold Oper.wp execOp;simp only [ho,resolve,invoke,builtin,Sem.run_bind,Sem.run_pure,Result.andThen_ok,List.map_toArray,List.map_cons,List.map_nil,hs,hx,hr];exact hK _ _ h
theorem sA_{α:Type}{l:List α}{i:Nat}{a:α}:l.toArray.setIfInBounds i a=(l.set i a).toArray:=List.setIfInBounds_toArray ..
theorem sB_{α:Type}{x:α}{l:List α}{a:α}:(x::l).set 0 a=a::l:=List.set_cons_zero ..
theorem sC_{α:Type}{x:α}{l:List α}{n:Nat}{a:α}:(x::l).set (n+1) a=x::l.set n a:=List.set_cons_succ ..
theorem gT_{α:Type}{l:List α}{i:Nat}{v:α}(h:l[i]?=some v):l.toArray[i]?=some v:=c1_.trans h
theorem h_{p:Prop}(h:p):Hid p:=Lib.hid h
theorem u_{p q:Prop}(k:q)(h:Hid q->p:=by intro h_;(try simp only [Act.put,sA_,sB_,sC_]);exact h_.out):p:=h (h_ k)
set_option maxRecDepth 100000
theorem ZhQ{P:Program}{K:Act->World->Prop}{Q:Exit->Act->World->Prop}{a:Act}{w:World}{o:Oper}(t:TypeId)(parts:Array (Nat×Operand))(vs:Array (Nat×Value))(cells:Array Value)(ho:o.op=Op.build t parts)
  (hv:(parts.map fun x=>(x.1,a.eval x.2))=vs)
  (hb:(Instr.build t vs).run P w=.ok (.agg cells) w) (h:K (a.put o.dst (.agg cells)) w):Oper.wp P o a w K Q:=by
 unfold Oper.wp
 have:Sem.run P (execOp a.eval o) w=.ok (Next.value (.agg cells)) w:=by
  unfold execOp;simp only [ho];have hv':(Array.map (fun x:Nat×Operand=>match x with|(i,x)=>(i,a.eval x)) parts)=vs:=by rw [<-hv]
  rw [hv'];simp only [Sem.run_bind,hb];rfl
 rw [this,Oper.upon_value];exact h
theorem set_mid(l cs:List Value)(v:Value)(off:Nat)(h:off<cs.length):(cs.set off v).take (off+1)++l++(cs.set off v).drop (off+1+l.length)=cs.take off++(v::l)++cs.drop (off+(v::l).length):=by
 have e:cs=cs.take off++cs[off]::cs.drop (off+1):=by
  conv=>lhs;rw [<-List.take_append_drop off cs,List.drop_eq_getElem_cons h]
 have hA:(cs.take off).length=off:=n53_;generalize cs.take off=A at e hA;generalize cs[off]=c at e;generalize cs.drop (off+1)=B at e;subst e hA;simp [List.take_append,List.drop_append];rw [c9_ o_,List.drop_eq_nil_of_le o_];simp only [List.nil_append];rw [show A.length+1+l.length-A.length=l.length+1 by omega,@List.drop_eq_nil_of_le _ A (A.length+(l.length+1)) o_];simp
theorem ZbN{b:Nat}{T:TypeId}{fz:Nat×Nat}:∀(l:List Value) (off:Nat) {w:World} {cs:Array Value},w.heap[b]?=some (.cells cs T fz)->off+l.length<=cs.size->
  (w.setCells b off l).heap[b]?=some (.cells (cs.toList.take off++l++cs.toList.drop (off+l.length)).toArray T fz)
 |[],off,w,cs,h,_=>by
  rw [World.setCells,h];simp
 |v::l,off,w,cs,h,hl=>by
  rw [World.setCells];rw [ZbN l (off+1) (heap_setCell h off v) (by simp at hl⊢;omega)];have ho:off<cs.toList.length:=by simp at hl⊢;omega
  rw [Array.toList_setIfInBounds,set_mid l cs.toList v off ho]
theorem Fr.setCells{M:Nat->Prop}{a:World}{b:Nat}(hb:b<a.heap.size->M b):∀(l:List Value) (off:Nat) {w:World},Fr M a w->Fr M a (w.setCells b off l)
 |[],_,_,h=>h
 |v::l,off,w,h=>by
  rw [World.setCells];exact Fr.setCells hb l (off+1) (h.setCell hb v)
theorem Zc0{P:Program}{K:Act->World->Prop}{Q:Exit->Act->World->Prop}{a:Act}{w:World}{o:Oper}(t:TypeId)(x y:Operand)(b:Nat)(cells old:Array Value)(T:TypeId)(ho:o.op=Op.store t x y)
  (hx:a.eval x=.pointer (some ⟨b,0,none⟩)) (hy:a.eval y=.agg cells) (hw:w.heap[b]?=some (.cells old T (0,0))) (hs:old.size=cells.size) (hi:(P.info? t).map (·.size)=some cells.size)
  (h1:(cells.all fun x=>x.oneCell')=true) (h:∀w3:World,w3.heap[b]?=some (.cells cells T (0,0))->Fr (·=b) w w3->K (a.put o.dst undef) w3):Oper.wp P o a w K Q:=by
 refine wp_store_mid t x y ho b 0 cells hx hy ?_ hi h1 (h _ ?_ ?_)
 ·intro j hj
  obtain ⟨h1,h2,_,_⟩:=rd hw;refine ⟨?_,h2 _⟩;rw [h1];simp [hs,hj]
 ·have:=ZbN cells.toList 0 hw (by simp [hs])
  rw [this,List.drop_eq_nil_of_le (by simp [hs])];simp
 ·exact Fr.setCells (M:=fun x=>x=b) (fun _=>rfl) _ _ (Fr.refl _ _)
theorem JX{P:Program}{K:Act->World->Prop}{Q:Exit->Act->World->Prop}{a:Act}{w:World}{o:Oper}(t:TypeId)(x:Operand)(b:Nat)(cells:Array Value)(T:TypeId)(d:TypeDesc)(ho:o.op=Op.load t x)
  (hx:a.eval x=.pointer (some ⟨b,0,none⟩)) (hw:w.heap[b]?=some (.cells cells T (0,0))) (hd:P.underlying t=some d) (hr:d.isRow=true) (hi:(P.info? t).map (·.size)=some cells.size)
  (h:K (a.put o.dst (.agg cells)) w):Oper.wp P o a w K Q:=by
 refine wp_load_mid t x ho b 0 hx cells.toList d ?_ hd hr n78_ n32_;intro j v hv;rw [(rd hw).1,Nat.zero_add];simpa using hv
theorem Zo4{P:Program}{w:World}{b:Nat}{cells:Array Value}{T:TypeId}(t:TypeId)(d:TypeDesc)(hd:P.underlying t=some d)(hr:d.isRow=true)(hi:(P.info? t).map (·.size)=some cells.size)(hw:w.heap[b]?=some (.cells cells T (0,0))) :
  (Instr.loadAt t (.pointer (some ⟨b,0,none⟩))).run P w=.ok (.agg cells) w:=by
 have:=run_loadAt_mid (P:=P) w b 0 t cells.toList d (by
  intro j v hv;rw [(rd hw).1,Nat.zero_add];simpa using hv) hd hr n78_
 simpa using this
theorem QE{P:Program}{w:World}{ops:Array Oper}{rest:List Oper}{o:Oper}{a:Act}{Q:Exit->Act->World->Prop}(hg:o.guard=none)
  (h:∀K:Act->World->Prop,(∀a' w',wpList P ops Q rest a' w'->K a' w')->Oper.wp P o a w K Q):wpList P ops Q (o::rest) a w:=by
 refine wpList_step fun K hK=>?_
 rw [if_pos (by unfold Region.wanted;rw [hg])];exact h K hK
theorem Qg{P:Program}{w:World}{ops:Array Oper}{rest:List Oper}{o:Oper}{a:Act}{Q:Exit->Act->World->Prop}(hg:o.guard=none)(t:TypeId)(parts:Array (Nat×Operand))(vs:Array (Nat×Value))(cells:Array Value)(ho:o.op=Op.build t parts)
  (hv:(parts.map fun x=>(x.1,a.eval x.2))=vs) (hb:(Instr.build t vs).run P w=.ok (.agg cells) w) (h:wpList P ops Q rest (a.put o.dst (.agg cells)) w):wpList P ops Q (o::rest) a w:=
 QE hg fun K hK=>ZhQ t parts vs cells ho hv hb (hK _ _ h)
theorem Yr{P:Program}{w:World}{ops:Array Oper}{rest:List Oper}{o:Oper}{a:Act}{Q:Exit->Act->World->Prop}(hg:o.guard=none)(t:TypeId)(x y:Operand)(b:Nat)(cells old:Array Value)(T:TypeId)(ho:o.op=Op.store t x y)
  (hx:a.eval x=.pointer (some ⟨b,0,none⟩)) (hy:a.eval y=.agg cells) (hw:w.heap[b]?=some (.cells old T (0,0))) (hs:old.size=cells.size) (hi:(P.info? t).map (·.size)=some cells.size)
  (h1:(cells.all fun x=>x.oneCell')=true) (h:∀w3:World,w3.heap[b]?=some (.cells cells T (0,0))->Fr (·=b) w w3->wpList P ops Q rest (a.put o.dst undef) w3):wpList P ops Q (o::rest) a w:=
 QE hg fun K hK=>Zc0 t x y b cells old T ho hx hy hw hs hi h1 fun w3 a1 a2=>hK _ _ (h w3 a1 a2)
theorem QS{P:Program}{w:World}{ops:Array Oper}{rest:List Oper}{o:Oper}{a:Act}{Q:Exit->Act->World->Prop}(hg:o.guard=none)(t:TypeId)(x:Operand)(b:Nat)(cells:Array Value)(T:TypeId)(d:TypeDesc)(ho:o.op=Op.load t x)
  (hx:a.eval x=.pointer (some ⟨b,0,none⟩)) (hw:w.heap[b]?=some (.cells cells T (0,0))) (hd:P.underlying t=some d) (hr:d.isRow=true) (hi:(P.info? t).map (·.size)=some cells.size)
  (h:wpList P ops Q rest (a.put o.dst (.agg cells)) w):wpList P ops Q (o::rest) a w:=
 QE hg fun K hK=>JX t x b cells T d ho hx hw hd hr hi (hK _ _ h)
theorem YW{P:Program}{w:World}{ops:Array Oper}{rest:List Oper}{o:Oper}{a:Act}{Q:Exit->Act->World->Prop}(hg:o.guard=none)(t:TypeId)(Z:Array Value)(ho:o.op=Op.alloc t)
  (hr:(Instr.alloc t true (.tuple #[])).run P w=.ok (.pointer (some ⟨w.heap.size,0,none⟩)) (w.alloc (.cells Z t)))
  (h:∀w3:World,w3.heap[w.heap.size]?=some (.cells Z t (0,0))->Below w.heap.size w w3->wpList P ops Q rest (a.put o.dst (.pointer (some ⟨w.heap.size,0,none⟩))) w3):wpList P ops Q (o::rest) a w:=by
 refine QE hg fun K hK=>?_
 unfold Oper.wp
 have:Sem.run P (execOp a.eval o) w=.ok (Next.value (.pointer (some ⟨w.heap.size,0,none⟩))) (w.alloc (.cells Z t)):=by
  unfold execOp;simp only [ho,Sem.run_bind,hr];rfl
 rw [this,Oper.upon_value];exact hK _ _ (h _ (heap_alloc_new _ _) (b_.alloc l_ _))
theorem Jf{P:Program}{w:World}{ops:Array Oper}{rest:List Oper}{o:Oper}{a:Act}{Q:Exit->Act->World->Prop}(hg:o.guard=none)(t:TypeId)(x y:Operand)(b j:Nat)(k:IntKind)(n:Int)(old:Array Value)(T:TypeId)(ho:o.op=Op.store t x y)
  (hx:a.eval x=.pointer (some ⟨b,j,none⟩)) (hy:a.eval y=.int k n) (hw:w.heap[b]?=some (.cells old T (0,0))) (hs:j<old.size) (i:TypeInfo) (hi:P.info? t=some i) (h1:i.size=1)
  (h:∀w3:World,w3.heap[b]?=some (.cells (old.setIfInBounds j (.int k n)) T (0,0))->Fr (·=b) w w3->wpList P ops Q rest (a.put o.dst undef) w3):wpList P ops Q (o::rest) a w:=by
 refine QE hg fun K hK=>?_
 unfold Oper.wp
 have:Sem.run P (execOp a.eval o) w=.ok Next.skip (w.setCell ⟨b,j,none⟩ (.int k n)):=by
  unfold execOp;simp only [ho,hx,hy];have hr:Sem.run P (Instr.storeAt t (.pointer (some ⟨b,j,none⟩)) (.int k n)) w=.ok () (w.setCell ⟨b,j,none⟩ (.int k n)):=by
   obtain ⟨r1,r2,_⟩:=rd hw;unfold Instr.storeAt;have hc:=run_storeCells_cells (P:=P) b j [.int k n] 0 w (by intro q hq;rw [r1];simp at hq;subst hq;simp [hs]) (by intro q hq;exact r2 _) n88_;unfold Instr.sureAddr storeVar;have h2:(Value.int k n).cells=#[.int k n]:=rfl;simp only [Sem.run_bind,Sem.run_pure,Result.andThen_ok,run_sizeOf w hi,show P.cellsOf t=1 by (simp [Program.cellsOf,hi,h1]),h2];simpa [World.setCells] using hc
  simp only [Sem.run_bind,hr];rfl
 rw [this,Oper.upon_skip];exact hK _ _ (h _ (heap_setCell hw j _) (Fr.setCell (M:=fun x=>x=b) (Fr.refl _ _) (fun _=>rfl) _))
theorem Y2{P:Program}{w:World}{b:Nat}{cells:Array Value}{T:TypeId}(t:TypeId)(d:TypeDesc)(hd:P.underlying t=some d)(hr:d.isRow=true)(hi:(P.info? t).map (·.size)=some cells.size)(hw:w.heap[b]?=some (.cells cells T (0,0))) :
  (loadVar t ⟨b,0,none⟩).run P w=.ok (.agg cells) w:=by
 have:=run_loadVar_mid (P:=P) w b 0 t cells.toList d (by
  intro j v hv;rw [(rd hw).1,Nat.zero_add];simpa using hv) hd hr n78_
 simpa using this
theorem ZsP{P:Program}{w:World}{fn:Func}{tmps:Array Value}(a:Nat)(t:TypeId)(b:Nat)(v:Value)(hf:fn.results=#[.cell a t])(ha:tmps.getD a undef=.pointer (some ⟨b,0,none⟩))(hl:(loadVar t ⟨b,0,none⟩).run P w=.ok v w) :
  Sem.run P (results fn tmps) w=.ok v w:=by
 unfold results;have hA:(asAddr (.pointer (some ⟨b,0,none⟩))).run P w=.ok ⟨b,0,none⟩ w:=rfl;rw [hf];simp only [List.mapM_toArray,List.mapM_cons,List.mapM_nil,ha,Sem.run_bind,hA,hl,Sem.run_pure,Result.andThen_ok,map_eq_pure_bind];rfl
theorem QI{P:Program}{w:World}{fn:Func}{R:Ending->World->Prop}{x:Act}(a:Nat)(t:TypeId)(b:Nat)(v:Value)(hf:fn.results=#[.cell a t])(hd:x.defers=[])(ha:x.tmps.getD a undef=.pointer (some ⟨b,0,none⟩))(hl:(loadVar t ⟨b,0,none⟩).run P w=.ok v w)(h:R (.returned v) w) :
  bodyPost P fn R .ret x w:=
 ⟨hd,v,ZsP a t b v hf ha hl,h⟩
open Go
section
variable {P:Program} {ops:Array Oper} {Q:Exit->Act->World->Prop} {md:Region.Mode} {S:World->Prop}
def Zgc(P:Program)(md:Region.Mode)(ops:Array Oper)(Q:Exit->Act->World->Prop)(S:World->Prop)(n:Nat)(L:Array Bool->Act->World->Prop):Nat->Array Bool->Act->World->Prop
 |0,b,a,w=>L b a w
 |f+1,b,a,w=>Region.ready md ops b≠[]/\∀i∈Region.ready md ops b,i<n/\wpOp P ops Q i (fun a' w'=>S w'/\Zgc P md ops Q S n L f (b.setIfInBounds i true) a' w') a w
theorem ZjB{n g:Nat}{L:Array Bool->Act->World->Prop}(hL:∀b a w,L b a w->wpAny P md ops Q g b a w):∀(f:Nat) (b:Array Bool) (a:Act) (w:World),Zgc P md ops Q S n L f b a w->wpAny P md ops Q (f+g) b a w
 |0,b,a,w,h=>by rw [Nat.zero_add];exact hL _ _ _ h
 |f+1,b,a,w,h=>by
  rw [show f+1+g=f+g+1 by omega];exact ⟨fun e=>absurd e h.1,fun i hi=>wpOp_mono (fun a' w' q=>ZjB hL f _ a' w' q.2) (h.2 i hi).2⟩
theorem ZkY{n i j:Nat}{b:Array Bool}(hs:Region.sinkB md ops n=true)(hc:Region.chainB md ops n=true)(hn:n<ops.size)(inv:HeadInv md ops n b)(hin:i<n)(hi:i∈Region.ready md ops b)(hj:j∈Region.ready md ops b):j<n:=by
 rcases Nat.lt_or_ge j n with h|h
 ·exact h
 ·exact absurd hj (tail_waits hs hc hn inv _ i rfl hin (mem_ready.1 hi).1 j h)
theorem Zlw{n i:Nat}{oi:Oper}{v:Value}{L:Array Bool->Act->World->Prop}(hi:ops[i]?=some oi)(hsel:∀(j:Nat) (o:Oper) cs b,ops[j]?=some o->o.op≠.select cs b)
  (hs:Region.sinkB md ops n=true) (hc:Region.chainB md ops n=true) (hn:n<ops.size) (hin:i<n)
  (hQ:∀c a w,Q (.panic c) (a.put oi.dst v) w->Q (.panic c) a w) (hdone:∀b a w,L b a w->∀j∈Region.ready md ops b,n<=j) (f:Nat) :
  ∀(b:Array Bool) (a:Act) (w:World),HeadInv md ops n b->
   (∀j oj,ops[j]?=some oj->j≠i->b.getD j true=false->(∀e∈oj.after,Region.binds md e=true->e.on≠i)->oi.apart ops oj=true)->
   i∈Region.ready md ops b->YieldsIf P ops S oi v a->S w->Zgc P md ops Q S n L f (b.setIfInBounds i true) (a.put oi.dst v) w->Zgc P md ops Q S n L (f+1) b a w:=by
 induction f with
 |zero=>
  intro b a w inv _ hr hy hS H;refine ⟨List.ne_nil_of_mem hr,fun j hj=>⟨ZkY hs hc hn inv hin hr hj,?_⟩⟩;by_cases e:j=i
  ·subst e;exact hy.wpOp hi hS ⟨hS,H⟩
  ·have h1:=hdone _ _ _ H j (ready_mono hj e)
   have h2:=ZkY hs hc hn inv hin hr hj;omega
 |succ f ih=>
  intro b a w inv hfree hr hy hS H;refine ⟨List.ne_nil_of_mem hr,fun j hj=>?_⟩;have hjn:=ZkY hs hc hn inv hin hr hj;refine ⟨hjn,?_⟩;by_cases e:j=i
  ·subst e;exact hy.wpOp hi hS ⟨hS,H⟩
  ·obtain ⟨hju,oj,hoj,hall⟩:=mem_ready.1 hj
   have hno:∀e∈oj.after,Region.binds md e=true->e.on≠i:=by
    intro x hx hb q
    have:=hall x hx hb
    rw [q,getD_both (mem_ready.1 hr).1] at this;cases this
   have h2:=wpOp_putIf hoj (hfree j oj hoj e hju hno) (fun cs b=>hsel i oi cs b hi) (fun cs b=>hsel j oj cs b hoj) hQ hy (H.2 j (ready_mono hj e)).2;refine wpOp_mono (fun a' w' q=>⟨q.2.1,ih _ a' w' (inv.set hj hjn) (fun k ok hk hki hun hx=>hfree k ok hk hki ?_ hx) (ready_mono hr (Ne.symm e)) q.1 q.2.1 ?_⟩) h2
   ·by_cases z:j=k
    ·subst z;exact hju
    ·rwa [getD_set_ne true z] at hun
   ·rw [Array.setIfInBounds_comm _ _ e];exact q.2.2
def Zpu(P:Program)(md:Region.Mode)(ops:Array Oper)(Q:Exit->Act->World->Prop)(n:Nat)(b:Array Bool)(a:Act)(w:World):Prop:=
 Region.seqB md ops (ops.toList.drop n).length n b=true/\wpList P ops Q (ops.toList.drop n) a w
def ZbZ(P:Program)(md:Region.Mode)(ops:Array Oper)(Q:Exit->Act->World->Prop)(S:World->Prop)(n f:Nat)(b:Array Bool)(a:Act)(w:World):Prop:=
 HeadInv md ops n b->Zgc P md ops Q S n (Zpu P md ops Q n) f b a w
def ZfH(md:Region.Mode)(ops:Array Oper)(n:Nat):Bool:=Region.noSelect ops&&(decide (n<ops.size)&&(Region.sinkB md ops n&&Region.chainB md ops n))
theorem Zgt{n:Nat}(h:ZfH md ops n=true):Region.noSelect ops=true/\n<ops.size/\Region.sinkB md ops n=true/\Region.chainB md ops n=true:=by
 simpa [ZfH] using h
theorem Y4{n i:Nat}{oi:Oper}{v:Value}{f:Nat}{b:Array Bool}{a:Act}{w:World}(hi:ops[i]?=some oi)(hok:ZfH md ops n=true)(hin:decide (i<n)=true)
  (hf:Region.free md ops b i=true) (hr:(Region.ready md ops b).contains i=true) (hQ:∀c a w,Q (.panic c) (a.put oi.dst v) w->Q (.panic c) a w) (hy:YieldsIf P ops S oi v a) (hS:S w)
  (h:ZbZ P md ops Q S n f (b.setIfInBounds i true) (a.put oi.dst v) w):ZbZ P md ops Q S n (f+1) b a w:=by
 obtain ⟨h1,h2,h3,h4⟩:=Zgt hok;have hin:=of_decide_eq_true hin;have hr':i∈Region.ready md ops b:=by simpa using hr
 intro inv;exact Zlw hi (Region.noSelect_spec h1) h3 h4 h2 hin hQ (fun b a w hL=>seqB_ready hL.1) f b a w inv (Region.free_spec hi hf) hr' hy hS (h (inv.set hr' hin))
theorem Zu{n i:Nat}{oi:Oper}{f:Nat}{b:Array Bool}{a:Act}{w:World}(hi:ops[i]?=some oi)(hin:decide (i<n)=true)(hr:Region.ready md ops b=[i])
  (h:∀K:Act->World->Prop,Shut (∀a' w',S w'->(S w'->ZbZ P md ops Q S n f (b.setIfInBounds i true) a' w')->K a' w')->if Region.wanted oi (yielded ops a.tmps)=true then Oper.wp P oi a w K Q else K (a.put oi.dst undef) w):ZbZ P md ops Q S n (f+1) b a w:=by
 have hin:=of_decide_eq_true hin;intro inv;have hm:i∈Region.ready md ops b:=by rw [hr];simp
 refine ⟨by rw [hr];simp,fun j hj=>?_⟩;rw [hr] at hj;obtain rfl:j=i:=n113_;refine ⟨hin,?_⟩;unfold wpOp;simp only [hi];have h2:=h (fun a' w'=>S w'/\Zgc P md ops Q S n (Zpu P md ops Q n) f (b.setIfInBounds j true) a' w') (fun a' w' hS q=>⟨hS,q hS (inv.set hm hin)⟩);split
 ·rename_i hw;rw [if_pos hw] at h2;exact .inl h2
 ·rename_i hw;rw [if_neg hw] at h2;exact h2
theorem ZF{n:Nat}{b:Array Bool}{a:Act}{w:World}(hB:Region.seqB md ops (ops.toList.drop n).length n b=true)(h:wpList P ops Q (ops.toList.drop n) a w):ZbZ P md ops Q S n 0 b a w:=fun _=>⟨hB,h⟩
theorem Zk{id:Nat}{a:Act}{w:World}(n:Nat)(hm:P.follows .mixedOrders=true)(hok:ZfH .any ops n=true)(hS:S w.drew)
  (h:S w.drew->ZbZ P .any ops Q S n n (Array.replicate ops.size false) a w.drew):(Code.region id ops true).wp P Q a w:=by
 obtain ⟨_,h2,_,_⟩:=Zgt hok;have inv0:HeadInv .any ops n (Array.replicate ops.size false):=
  ⟨s_,fun j oj _ hl=>(by rw [getD_replicate_false] at hl;cases hl),fun t _ ht=>getD_in (by simpa using ht) (getD_replicate_false _ _)⟩
 refine wp_region_any hm ?_
 have:=ZjB (Q:=Q) (g:=(ops.toList.drop n).length) (fun b a w hL=>wpAny_of_seq (md:=.any) (ops.toList.drop n) n b a w (fun j=>by simp) hL.1 hL.2) n _ _ _ (h hS inv0)
 rw [show n+(ops.toList.drop n).length=ops.size by simp;omega] at this;exact this
end
theorem dT_{P:Program}{ops:Array Oper}{Q:Exit->Act->World->Prop}{md:Region.Mode}{S:World->Prop}{n i:Nat}{oi:Oper}{v:Value}{f:Nat}{b:Array Bool}{a:Act}{w:World}(hi:ops[i]?=some oi)(hy:∀w,S w->(execOp a.eval oi).run P w=.ok (.value v) w)(h:ZbZ P md ops Q S n f (b.setIfInBounds i true) (a.put oi.dst v) w)
 (hok:ZfH md ops n=true:=by kernel_rfl) (hin:decide (i<n)=true:=by kernel_rfl) (hf:Region.free md ops b i=true:=by kernel_rfl) (hr:(Region.ready md ops b).contains i=true:=by kernel_rfl) (hQ:∀c a w,Q (.panic c) (a.put oi.dst v) w->Q (.panic c) a w:=by exact fun _ _ _ h=>h) (hw:Region.wanted oi (yielded ops a.tmps)=true:=by rfl) (hS:S w:=by assumption):ZbZ P md ops Q S n (f+1) b a w:=Y4 hi hok hin hf hr hQ (Or.inl ⟨hw,hy⟩) hS h
theorem dN_{P:Program}{ops:Array Oper}{Q:Exit->Act->World->Prop}{md:Region.Mode}{S:World->Prop}{n:Nat}(s:Nat){oi:Oper}{v:Value}{f:Nat}{b:Array Bool}{a:Act}{w:World}(hi:ops[n-(f+1)+s]?=some oi)(hy:∀w,S w->(execOp a.eval oi).run P w=.ok (.value v) w)(h:ZbZ P md ops Q S n f (b.setIfInBounds (n-(f+1)+s) true) (a.put oi.dst v) w)
 (hok:ZfH md ops n=true:=by kernel_rfl) (hin:decide (n-(f+1)+s<n)=true:=by kernel_rfl) (hf:Region.free md ops b (n-(f+1)+s)=true:=by kernel_rfl) (hr:(Region.ready md ops b).contains (n-(f+1)+s)=true:=by kernel_rfl) (hQ:∀c a w,Q (.panic c) (a.put oi.dst v) w->Q (.panic c) a w:=by exact fun _ _ _ h=>h) (hw:Region.wanted oi (yielded ops a.tmps)=true:=by rfl) (hS:S w:=by assumption):ZbZ P md ops Q S n (f+1) b a w:=Y4 hi hok hin hf hr hQ (Or.inl ⟨hw,hy⟩) hS h
theorem dB_{P:Program}{ops:Array Oper}{Q:Exit->Act->World->Prop}{md:Region.Mode}{S:World->Prop}{i:Nat}{oi:Oper}{v:Value}{f:Nat}{b:Array Bool}{a:Act}{w:World}(hi:ops[i]?=some oi)(hy:∀w,S w->(execOp a.eval oi).run P w=.ok (.value v) w)(h:wpAnyH P md ops Q S f (b.setIfInBounds i true) (a.put oi.dst v) w)(hs:Region.noSelect ops=true:=by kernel_rfl)(hf:Region.free md ops b i=true:=by kernel_rfl)(hr:(Region.ready md ops b).contains i=true:=by kernel_rfl)(hQ:∀c a w,Q (.panic c) (a.put oi.dst v) w->Q (.panic c) a w:=by exact fun _ _ _ h=>h)(hw:Region.wanted oi (yielded ops a.tmps)=true:=by rfl)(hS:S w:=by assumption):wpAnyH P md ops Q S (f+1) b a w:=wpAnyH_take hi hs hf hr hQ (Or.inl ⟨hw,hy⟩) hS h
theorem dU_{P:Program}{ops:Array Oper}{Q:Exit->Act->World->Prop}{md:Region.Mode}{S:World->Prop}{i:Nat}{oi:Oper}{f:Nat}{b:Array Bool}{a:Act}{w:World}(hi:ops[i]?=some oi)(h:wpAnyH P md ops Q S f (b.setIfInBounds i true) (a.put oi.dst undef) w)(hs:Region.noSelect ops=true:=by kernel_rfl)(hf:Region.free md ops b i=true:=by kernel_rfl)(hr:(Region.ready md ops b).contains i=true:=by kernel_rfl)(hQ:∀c a w,Q (.panic c) (a.put oi.dst undef) w->Q (.panic c) a w:=by exact fun _ _ _ h=>h)(hw:Region.wanted oi (yielded ops a.tmps)=false:=by rfl)(hS:S w:=by assumption):wpAnyH P md ops Q S (f+1) b a w:=wpAnyH_take hi hs hf hr hQ (Or.inr ⟨hw,rfl⟩) hS h
theorem m1_{p:Prop}(h:p:=by obtain ⟨oa,cap,e,hr⟩:=h.ex;exact ⟨oa,cap,e,hr.below hb⟩):p:=h
def Zx{α:Type}(enc:α->List Value)(l:List α):List Value:=l.flatMap enc
theorem XB{α:Type}{enc:α->List Value}{k:Nat}(hk:∀x,(enc x).length=k):∀l:List α,(Zx enc l).length=l.length*k
 |[]=>by simp [Zx]
 |x::r=>by
  have:=XB hk r
  unfold Zx at *;rw [List.flatMap_cons,c5_,hk,this,c14_,Nat.add_mul];omega
theorem ZdE{α:Type}{enc:α->List Value}{k:Nat}(hk:∀x,(enc x).length=k):∀(l:List α) (i j:Nat) (hi:i<l.length),j<k->(Zx enc l)[i*k+j]?=(enc l[i])[j]?
 |[],i,j,hi,_=>absurd hi s_
 |x::r,0,j,_,hj=>by
  unfold Zx;rw [List.flatMap_cons,Nat.zero_mul,Nat.zero_add,List.getElem?_append_left (by rw [hk];exact hj)];rfl
 |x::r,i+1,j,hi,hj=>by
  have:=ZdE hk r i j n78_ hj
  unfold Zx at *;rw [List.flatMap_cons,List.getElem?_append_right (by rw [hk,Nat.add_mul];omega),hk];rw [show (i+1)*k+j-k=i*k+j by rw [Nat.add_mul];omega,this];rfl
theorem ZT{α:Type}(enc:α->List Value)(a b:List α):Zx enc (a++b)=Zx enc a++Zx enc b:=by simp [Zx]
theorem QJ{α:Type}(enc:α->List Value)(a:α):Zx enc [a]=enc a:=by simp [Zx]
theorem Y1{α:Type}{enc:α->List Value}(h1:∀x,∀v∈enc x,v.oneCell'=true)(l:List α):∀v∈Zx enc l,v.oneCell'=true:=by
 intro v hv;obtain ⟨x,_,hx⟩:=List.mem_flatMap.1 hv;exact h1 x v hx
theorem Zs4{α:Type}{enc:α->List Value}{k:Nat}(hk:∀x,(enc x).length=k){w:World}{B:Nat}{T:TypeId}{oa:Option Addr}{n cap:Nat}{l:List α}(h:w.ownsRow B T k (.slice oa n cap) n (Zx enc l))(hn:n=l.length)
  {i:Nat} (hi:i<l.length):∃g,oa=some ⟨g,0,none⟩/\B<=g/\g<w.heap.size/\n<=cap/\∀j v,(enc l[i])[j]?=some v->w.cell? ⟨g,i*k+j,none⟩=some v:=by
 subst hn;rcases h.2 with ⟨_,h0⟩|⟨g,cap',cur,hv,hb,hg,hnc,hcm,hsz,ht⟩
 ·omega
 ·injection hv with e1 e2 e3
  subst e1;subst e3;refine ⟨g,rfl,hb,Zd hg,hnc,fun j v hj=>?_⟩;have hjk:j<k:=by
   rcases Nat.lt_or_ge j k with q|q
   ·exact q
   ·rw [List.getElem?_eq_none (by rw [hk];exact q)] at hj;cases hj
  have h1:=ZdE hk l i j hi hjk;rw [hj,<-ht] at h1;have hlt:i*k+j<l.length*k:=by
   have:=Nat.mul_le_mul_right k (show i+1<=l.length from hi);rw [Nat.add_mul,Nat.one_mul] at this;omega
  rw [List.getElem?_take_of_lt hlt] at h1;simp only [World.cell?,hg];simpa using h1
def ZG{α:Type}(enc:α->List Value)(k:Nat)(w:World)(oa:Option Addr)(l:List α):Prop:=
 ∀i (h:i<l.length),∃b o,oa=some ⟨b,o,none⟩/\b<w.heap.size/\∀j v,(enc l[i])[j]?=some v->w.cell? ⟨b,o+i*k+j,none⟩=some v
theorem ZG.below{α:Type}{enc:α->List Value}{k:Nat}{w w':World}{oa:Option Addr}{l:List α}(h:ZG enc k w oa l)(hb:Below w.heap.size w w'):ZG enc k w' oa l:=by
 intro i hi;obtain ⟨b,o,e,hlt,hc⟩:=h i hi;exact ⟨b,o,e,c16_ hlt hb.size,fun j v hj=>(hb.cell (p:=⟨b,o+i*k+j,none⟩) hlt).trans (hc j v hj)⟩
theorem ZG.of_own{α:Type}{enc:α->List Value}{k:Nat}(hk:∀x,(enc x).length=k){w:World}{B:Nat}{T:TypeId}{oa:Option Addr}{cap:Nat}{l:List α}(h:w.ownsRow B T k (.slice oa l.length cap) l.length (Zx enc l)):ZG enc k w oa l:=by
 intro i hi;obtain ⟨g,e,hb,hlt,_,hc⟩:=Zs4 hk h rfl hi;exact ⟨g,0,e,hlt,fun j v hj=>by rw [Nat.zero_add];exact hc j v hj⟩
theorem ZG.nil{α:Type}(enc:α->List Value)(k:Nat)(w:World)(oa:Option Addr):ZG enc k w oa ([]:List α):=fun i h=>absurd h s_
theorem Ztz{α:Type}{enc:α->List Value}{k:Nat}(hk:∀x,(enc x).length=k)(h0:0<k){l:List α}{j:Nat}{u:Value}(h:(Zx enc l)[j]?=some u) :
  ∃i r,∃hi:i<l.length,r<k/\j=i*k+r/\(enc l[i])[r]?=some u:=by
 have hj:j<(Zx enc l).length:=(List.getElem?_eq_some_iff.1 h).1;rw [XB hk] at hj;have hi:j / k<l.length:=(Nat.div_lt_iff_lt_mul h0).2 hj;have hr:=Nat.mod_lt j h0;have e:j=j / k*k+j % k:=by have:=Nat.div_add_mod j k;rw [Nat.mul_comm] at this;exact this.symm
 refine ⟨j / k,j % k,hi,hr,e,?_⟩;rw [<-ZdE hk l (j / k) (j % k) hi hr,<-e];exact h
section
variable {α:Type} {enc:α->List Value} {k:Nat} {w w':World} {oa:Option Addr} {l:List α}
theorem ZG.flat(hk:∀x,(enc x).length=k)(h0:0<k)(h:ZG enc k w oa l):∀j u,(Zx enc l)[j]?=some u->∃b o,oa=some ⟨b,o,none⟩/\w.cell? ⟨b,o+j,none⟩=some u:=by
 intro j u hj;obtain ⟨i,r,hi,hr,rfl,hu⟩:=Ztz hk h0 hj;obtain ⟨b,o,e,_,hc⟩:=h i hi;exact ⟨b,o,e,by rw [<-Nat.add_assoc];exact hc r u hu⟩
theorem ZG.take(h:ZG enc k w oa l)(n:Nat):ZG enc k w oa (l.take n):=by
 intro i hi;obtain ⟨b,o,e,hl,hc⟩:=h i (by simp at hi;omega);exact ⟨b,o,e,hl,by rw [List.getElem_take];exact hc⟩
theorem ZG.drop{b o:Nat}(h:ZG enc k w (some ⟨b,o,none⟩) l)(n:Nat):ZG enc k w (some ⟨b,o+n*k,none⟩) (l.drop n):=by
 intro i hi;obtain ⟨b1,o1,e,hl,hc⟩:=h (n+i) (by simp at hi;omega);injection e with e;injection e with e1 e2
 subst e1;subst e2;refine ⟨b,o+n*k,rfl,hl,fun j v hj=>?_⟩;rw [List.getElem_drop] at hj
 have:=hc j v hj
 rwa [Nat.add_mul,<-Nat.add_assoc] at this
theorem ZG.holds{b o:Nat}(hk:∀x,(enc x).length=k)(h0:0<k)(h:ZG enc k w (some ⟨b,o,none⟩) l):∀b',(some (⟨b,o,none⟩:Addr))=some b'->∀j u,(Zx enc l)[j]?=some u->w.cell? (b'.add j)=some u:=by
 intro b' e j u hu;injection e with e
 subst e;obtain ⟨b1,o1,e1,hc⟩:=h.flat hk h0 j u hu;injection e1 with e1;injection e1 with e2 e3
 subst e2;subst e3;rw [show (⟨b,o,none⟩:Addr).add j=⟨b,o+j,none⟩ by unfold Addr.add;split<;>simp_all];exact hc
end
theorem Zjz{w:World}{base k:Nat}{e:TypeId}{v:Value}{n:Nat}{xs:List Value}(h:w.ownsRow base e k v n xs)(hn:0<n) :
  ∃g cap,v=.slice (some ⟨g,0,none⟩) n cap/\(∀j u,xs[j]?=some u->w.cell? ((⟨g,0,none⟩:Addr).add j)=some u)/\base<=g/\g<w.heap.size:=by
 rcases h.2 with ⟨_,h0⟩|⟨g,cap,cur,hv,hb,hg,hnc,hcm,hs,ht⟩
 ·omega
 ·refine ⟨g,cap,hv,fun j u hu=>?_,hb,Zd hg⟩
  rw [show (⟨g,0,none⟩:Addr).add j=⟨g,j,none⟩ by unfold Addr.add;split<;>simp_all];have hj:j<xs.length:=(List.getElem?_eq_some_iff.1 hu).1;rw [h.1] at hj;rw [<-ht,List.getElem?_take_of_lt hj] at hu;simp only [World.cell?,hg];simpa using hu
theorem ZoD(w:World)(x y z:Value)(T:TypeId):(w.alloc (.cells #[x,y,z] T)).ownsRow w.heap.size T 3 (.slice (some ⟨w.heap.size,0,none⟩) 1 1) 1 [x,y,z]:=
 ⟨rfl,.inr ⟨w.heap.size,1,#[x,y,z],rfl,l_,heap_alloc_new _ _,l_,d_,rfl,rfl⟩⟩
structure ZnA{α:Type}(enc:α->List Value)(k:Nat)(w:World)(oa:Option Addr)(cap:Nat)(l:List α):Prop where
 row:ZG enc k w oa l
 fit:l.length<=cap
 isnil:oa=none->cap=0
 form:∀a,oa=some a->∃b o,a=⟨b,o,none⟩
section
variable {α:Type} {enc:α->List Value} {k:Nat} {w w':World} {oa:Option Addr} {cap:Nat} {l:List α}
theorem ZnA.below(h:ZnA enc k w oa cap l)(hb:Below w.heap.size w w'):ZnA enc k w' oa cap l:=⟨h.row.below hb,h.fit,h.isnil,h.form⟩
theorem ZnA.none:ZnA enc k w none 0 []:=⟨fun i h=>absurd h s_,l_,fun _=>rfl,fun a e=>by cases e⟩
theorem ZnA.of_own(hk:∀x,(enc x).length=k){B:Nat}{T:TypeId}(h:w.ownsRow B T k (.slice oa l.length cap) l.length (Zx enc l)):ZnA enc k w oa cap l:=by
 refine ⟨ZG.of_own hk h,?_,?_,?_⟩
 ·rcases h.2 with ⟨hv,h0⟩|⟨g,cap',cur,hv,hb,hg,hnc,_⟩
  ·omega
  ·injection hv with _ _ e3;omega
 ·rintro rfl
  rcases h.2 with ⟨hv,h0⟩|⟨g,cap',cur,hv,_⟩
  ·injection hv
  ·injection hv with e1;cases e1
 ·rintro a rfl
  rcases h.2 with ⟨hv,h0⟩|⟨g,cap',cur,hv,_⟩
  ·injection hv with e1;cases e1
  ·injection hv with e1;injection e1 with e1;exact ⟨g,0,e1⟩
end
theorem Za{w w':World}{b:Nat}{o:Obj}(h:w.heap[b]?=some o)(hb:Below w.heap.size w w'):w'.heap[b]?=some o:=(hb.block b (Zd h)).trans h
theorem XV{w:World}{b:Nat}{x y:Value}{T:TypeId}(h:w.heap[b]?=some (.cells #[x,y] T (0,0))):w.cell? ⟨b,0,none⟩=some x/\w.cell? ⟨b,1,none⟩=some y:=
 ⟨n26_,n26_⟩
theorem cells3{w:World}{b:Nat}{x y z:Value}{T:TypeId}(h:w.heap[b]?=some (.cells #[x,y,z] T (0,0))):w.cell? ⟨b,0,none⟩=some x/\w.cell? ⟨b,1,none⟩=some y/\w.cell? ⟨b,2,none⟩=some z:=
 ⟨n26_,n26_,n26_⟩
theorem Zp.drop{w:World}{b o:Nat}{l:List (List UInt8)}(h:Zp w (some ⟨b,o,none⟩) l)(k:Nat):Zp w (some ⟨b,o+k,none⟩) (l.drop k):=by
 intro i hi;obtain ⟨b',o',e,hc⟩:=h (k+i) (by simp at hi;omega);injection e with e;injection e with e1 e2
 subst e1;subst e2;exact ⟨b,o+k,rfl,by rw [Nat.add_assoc];simpa using hc⟩
theorem XO{P:Program}{ops:Array Oper}{o:Oper}{a:Act}{w:World}{K:Act->World->Prop}{Q:Exit->Act->World->Prop}{E:Prop}
  (hg:o.guard=none) (s x:Operand) (t:TypeId) (hop:o.op=Op.call { callee:=Callee.builtin Builtin.append,args:=#[s,x],argTypes:=#[t,t] })
  (base e:TypeId) (i:TypeInfo) (z:Value) (size bytes:Nat) (ht:P.underlying t=some (.slice e)) (hi:P.info? e=some i) (hz:i.zero=some z)
  (hsize:i.size=size) (hby:i.bytes=bytes) (hzs:z.cells.size=size) (hsz:0<size)
  (v:Value) (n:Nat) (xs:List Value) (hs:a.eval s=v) (hown:w.ownsRow base e size v n xs) (oa:Option Addr) (m c:Nat) (news:List Value) (hx:a.eval x=.slice oa m c) (hl:news.length=m*size)
  (hc:∀j u,news[j]?=some u->∃b o,oa=some ⟨b,o,none⟩/\w.cell? ⟨b,o+j,none⟩=some u) (h1:∀u∈news,u.oneCell'=true)
  (h63:n+m<=maxLen) (hbytes:(n+m)*bytes<=140737488355328) (hbase:base<=w.heap.size)
  (hK:∀v' w',w'.ownsRow base e size v' (n+m) (xs++news)->w.grownBy w' v.ownBlock->K (a.put o.dst v') w') :
  if Region.wanted o (yielded ops a.tmps)=true then Oper.wp P o a w K Q else E:=by
 have hw:Region.wanted o (yielded ops a.tmps)=true:=by simp [Region.wanted,hg]
 rw [if_pos hw];obtain ⟨v',w',hrun,r1,r2⟩:=Xh (P:=P) base t o.type e i z size bytes ht hi hz hsize hby hzs hsz v n xs hown oa m c news hl hc h1 h63 hbytes hbase;unfold Oper.wp;simp [execOp,hop,resolve,invoke,builtin,hs,hx,hrun,Result.andThen];exact hK v' w' r1 r2
theorem Zo{w w':World}{B e size n:Nat}{v:Value}{xs:List Value}(h:w.ownsRow B e size v n xs)(hb:Below w.heap.size w w'):w'.ownsRow B e size v n xs:=by
 refine ⟨h.1,?_⟩;rcases h.2 with hn|⟨g,cap,cur,rfl,hg,hgg,rest⟩
 ·exact .inl hn
 ·exact .inr ⟨g,cap,cur,rfl,hg,by rw [hb.block g (Zd hgg)];exact hgg,rest⟩
theorem ZbK{P:Program}{a:Act}{w:World}{o:Oper}(t:TypeId)(x:Operand)(b:Nat)(cells:Array Value)(T:TypeId)(d:TypeDesc)(ho:o.op=Op.load t x)
  (hx:a.eval x=.pointer (some ⟨b,0,none⟩)) (hw:w.heap[b]?=some (.cells cells T (0,0))) (hd:P.underlying t=some d) (hr:d.isRow=true) (hi:(P.info? t).map (·.size)=some cells.size):(execOp a.eval o).run P w=.ok (.value (.agg cells)) w:=by
 have h:=Zo4 (P:=P) t d hd hr hi hw;unfold execOp;simp only [ho,hx,Sem.run_bind,h];rfl
theorem Yw{w:World}{base e size n X:Nat}{v:Value}{xs:List Value}(h:w.ownsRow base e size v n xs){cs:Array Value}{T:TypeId}{fz:Nat×Nat}(hx:w.heap[X]?=some (.cells cs T fz))(hT:T≠e):some X≠v.ownBlock:=by
 rcases h.2 with ⟨rfl,_⟩|⟨g,cap,cur,rfl,hg,hgg,rest⟩
 ·simp [Value.ownBlock]
 ·simp only [Value.ownBlock]
  intro e2;injection e2 with e2
  subst e2;rw [hgg] at hx;injection hx with hx
  injection hx with h1 h2
  exact hT h2.symm
theorem Zmf{P:Program}{w:World}{ops:Array Oper}{rest:List Oper}{o:Oper}{a:Act}{Q:Exit->Act->World->Prop}(hg:Region.wanted o (yielded ops a.tmps)=true)(t:TypeId)(x:Operand)(b n:Nat)(part:Array Value)(d:TypeDesc)(ho:o.op=Op.load t x)
  (hx:a.eval x=.pointer (some ⟨b,n,none⟩)) (hp:∀j v,part[j]?=some v->w.cell? ⟨b,n+j,none⟩=some v) (hd:P.underlying t=some d) (hr:d.isRow=true) (hi:(P.info? t).map (·.size)=some part.size)
  (h:wpList P ops Q rest (a.put o.dst (.agg part)) w):wpList P ops Q (o::rest) a w:=by
 refine wpList_step fun K hK=>?_
 rw [if_pos hg];refine wp_load_mid t x ho b n hx part.toList d ?_ hd hr n78_ (by simpa using hK _ _ h);intro j v hv;exact hp j v n114_
structure Zew{α:Type}(enc:α->List Value)(k:Nat)(w:World)(v:Value)(l:List α):Prop where
 ex:∃oa cap,v=.slice oa l.length cap/\ZG enc k w oa l
theorem Zew.below{α:Type}{enc:α->List Value}{k:Nat}{w w':World}{v:Value}{l:List α}(h:Zew enc k w v l)(hb:Below w.heap.size w w'):Zew enc k w' v l:=by
 exact m1_
structure Zog(w:World)(v:Value)(l:List Str):Prop where
 ex:∃oa cap,v=.slice oa l.length cap/\Zp w oa l
theorem Zog.below{w w':World}{v:Value}{l:List Str}(h:Zog w v l)(hb:Below w.heap.size w w'):Zog w' v l:=by
 exact m1_
theorem ZoI{w:World}{B:Nat}{T:TypeId}{v:Value}{l:List Str}(h:w.ownsRow B T 1 v l.length (Zh l)):∃oa cap,v=.slice oa l.length cap/\Zp w oa l:=by
 obtain ⟨oa,cap,rfl⟩:=ownsRow_form h;exact ⟨oa,cap,rfl,Zp.of_own h⟩
def ZvE{β:Type}(b:Nat)(J:β->World->Prop):Prop:=∀s A B,J s A->A.grownBy B (some b)->J s B
def Zk7{β:Type}(B0 b:Nat)(J:β->World->Prop):Prop:=
 ∀s A B row,J s A->A.grownBy B row->(∀r,row=some r->r=b\/(B0<=r/\∃o:Obj,A.heap[r]?=some o/\o.isCells=false))->J s B
def Zsg{α:Type}(n:Nat)(P:Program)(g:Nat)(lb:Array Value)(enc:α->Value)(b:Nat)(Kp:World->World->Prop)(xs:List α)(w:World):Prop:=
 ∀(l:Nat) (J Jx:List α->World->Prop) (W:World),Kp w W->ZvE b J->
  (∀pre x post W1,xs=pre++x::post->J pre W1->YieldAt Fence.wide (n-1) P l #[enc x] W1 fun e W' =>
   (e=.returned (.bool true)/\J (pre++[x]) W'/\Kp W1 W')\/(e=.returned (.bool false)/\Jx (pre++[x]) W'))->
  J [] W->
  CallsIn Fence.wide n P g (#[.func (.yield l) #[] #[]]++lb) W fun e W'=>(∃v,e=.returned v)/\(J xs W'\/∃pre,Jx pre W')
theorem Zpo{A B:World}{b k:Nat}{o:Obj}(h:A.grownBy B (some b))(hk:A.heap[k]?=some o)(hne:k≠b):B.heap[k]?=some o:=
 (h.block k (Zd hk) (fun e=>hne (by injection e))).trans hk
theorem Zge{α:Type}{n:Nat}{P:Program}{g:Operand}{ps:Array Tmp}{assign body:Code}{Q:Exit->Act->World->Prop}{a:Act}{w:World}{gf:Nat}{lb:Array Value}(hg:a.eval g=.func (.func gf) #[] lb)
  (eg:∀args w,(callFunc gf args).run P w=.ok (.enter gf args) w) {enc:α->Value} {b:Nat} {Kp:World->World->Prop} {xs:List α} (hseq:Zsg (n-1) P gf lb enc b Kp xs w) (hb:b<w.heap.size)
  (hKn:∀A o,w.heap.size<=A.heap.size->Kp A (A.alloc o)) (hKt:∀{A B C:World},Kp A B->Kp B C->Kp A C) (hKb:∀(W:World) (l:Nat) (o:Obj),w.heap.size<=l->Kp W (W.putObj l o)) (hps:ps.size=1)
  (I:List α->World->Prop) (Ix:Code->List α->World->Prop) (hI:Zk7 w.heap.size b I) (hIx:∀c,Zk7 w.heap.size b (Ix c)) (h0:I [] w) (a₁:α->Act)
  (hassign:∀(l:Nat) (x:α) (W:World) (K:Act->World->Prop),K (a₁ x) W->
   assign.wpIn (Fence.wide.inRound l) (n-1-1) P (Exit.then K (fun _ _ _=>False)) { tmps:=(ps.zip #[enc x]).foldl (fun t (p,v)=>t.setIfInBounds p v) a.tmps,defers:=[] } W)
  (hbody:∀(l:Nat) (pre:List α) (x:α) (post:List α) (W:World),xs=pre++x::post->I pre W->body.wpIn (Fence.wide.inRound l) (n-1-1) P (ownPostG w.heap.size Kp I Ix (pre++[x]) W) (a₁ x) W)
  (hdone:∀(D:Nat) (W:World),w.heap.size<=D->I xs W->W.heap[D]?=some (.deferred (some []))->Q .normal { a with defers:={ target:=.collected D,args:=#[] }::a.defers } W)
  (hstop:∀(D:Nat) (c:Code) (pre:List α) (W:World),w.heap.size<=D->Ix c pre W->W.heap[D]?=some (.deferred (some []))->c.wpIn Fence.wide n P Q { a with defers:={ target:=.collected D,args:=#[] }::a.defers } W) :
  (Code.rangeFunc g ps assign body).wpIn Fence.wide n P Q a w:=by
 refine wpIn_rangeFunc (fun fn hfn=>?_);obtain ⟨D,hD⟩:=e_ w.heap.size;let rec_:LoopState->Option Code->Loop:=fun st pe=>{ state:=st,pending:=pe,fn,tmps:=a.tmps,params:=ps,assign,body,defers:=w.heap.size }
 let w1:=(w.alloc (.deferred (some []))).alloc (.loop (rec_ .ready none));have z1:(w.alloc (.deferred (some []))).heap.size=D+1:=by rw [hD];simp
 have hL:w1.heap[D+1]?=some (.loop (rec_ .ready none)):=by rw [<-z1];exact World.alloc_heap_new _ _
 have hdf:w1.heap[D]?=some (.deferred (some [])):=by rw [hD];exact heap_alloc (World.alloc_heap_new w _) _
 have soft_new:∀A o,I [] A->I [] (A.alloc o):=fun A o h=>hI [] A _ none h (World.grownBy_alloc A o none) (fun r e=>by cases e)
 have hI1:I [] w1:=soft_new _ _ (soft_new _ _ h0);have hK1:Kp w w1:=hKt (hKn w _ l_) (hKn _ _ s_);have hbD:b≠D:=o_;have hbD1:b≠D+1:=o_;refine ⟨D+1,[{ target:=.collected D,args:=#[] }],w1,{ target:=.fn (.func gf) lb,args:=#[.func (.yield (D+1)) #[] #[]] },w1,gf,#[.func (.yield (D+1)) #[] #[]]++lb,w1,?_,?_,?_,?_,?_,?_⟩
 ·rw [hD];exact run_enterLoop_outer _ _ _ _ _
 ·simp only [resolve,hg]
  simp [go_sem]
 ·intro f' hf';trivial
 ·simp [invoke,go_sem,eg]
 ·intro h;exact absurd h (by simp [Fence.wide])
 refine (hseq (D+1) (fun pre W=>I pre W/\W.heap[D+1]?=some (.loop (rec_ .ready none))/\W.heap[D]?=some (.deferred (some [])))
  (fun pre W=>∃c,Ix c pre W/\W.heap[D+1]?=some (.loop (rec_ .done (some c)))/\W.heap[D]?=some (.deferred (some []))) w1 hK1
  (fun s A B ⟨i1,i2,i3⟩ hgr=>⟨hI s A B _ i1 hgr (fun r e=>.inl (by injection e with e;exact e.symm)),Zpo hgr i2 (Ne.symm hbD1),Zpo hgr i3 (Ne.symm hbD)⟩) ?_ ⟨hI1,hL,hdf⟩).mono ?_
 ·rintro pre x post W hx ⟨i1,i2,i3⟩
  have hlt:D+1<W.heap.size:=Zd i2;refine ⟨fn,_,assign,body,run_yield (P:=P) (args:=#[enc x]) i2 (by rw [hps];rfl),roundIn_of_wpIn hfn (hassign _ x W _ ⟨_,run_beginRound i2 rfl,?_⟩)⟩;let w2:=W.putObj (D+1) (.loop { rec_ .ready none with state:=.busy });have j2:w2.heap[D+1]?=some (.loop { rec_ .ready none with state:=.busy }):=World.putObj_heap_same hlt;have j3:w2.heap[D]?=some (.deferred (some [])):=(World.putObj_heap_other o_).trans i3;have soft_put:∀(J:List α->World->Prop) (s:List α) (A:World) (o o':Obj),Zk7 w.heap.size b J->A.heap[D+1]?=some o->o.isCells=false->J s A->J s (A.putObj (D+1) o'):=fun J s A o o' hJ h1 h2 h3=>
   hJ s A _ (some (D+1)) h3 (grownBy_putObj' A (D+1) o') (fun r e=>by cases e;exact .inr ⟨o_,o,h1,h2⟩)
  refine wpIn_mono (hbody (D+1) pre x post w2 hx (soft_put I pre W _ _ hI i2 rfl i1)) ?_;have fin:∀(jump:Option Code) (V:World),KeepsFrom w.heap.size w2 V->(Instr.endRound (D+1) jump).run P V=.ok (.bool jump.isNone) (V.putObj (D+1) (.loop (rec_ (if jump.isNone then .ready else .done) jump)))/\
    V.heap[D+1]?=some (.loop { rec_ .ready none with state:=.busy })/\(V.putObj (D+1) (.loop (rec_ (if jump.isNone then .ready else .done) jump))).heap[D+1]?=some (.loop (rec_ (if jump.isNone then .ready else .done) jump))/\
    (V.putObj (D+1) (.loop (rec_ (if jump.isNone then .ready else .done) jump))).heap[D]?=some (.deferred (some [])):=by
   intro jump V hk;have k2:=hk.same _ _ o_ j2 rfl;have k3:=hk.same _ _ o_ j3 rfl;exact ⟨run_endRound jump k2,k2,World.putObj_heap_same (Zd k2),(World.putObj_heap_other o_).trans k3⟩
  rintro e a3 V hp;cases e with
  |normal=>
   obtain ⟨p1,p2,p3⟩:=hp;obtain ⟨f1,f2,f3,f4⟩:=fin none V p1;exact ⟨_,_,f1,.inl ⟨rfl,⟨soft_put I _ V _ _ hI f2 rfl p3,f3,f4⟩,hKt (hKb W _ _ o_) (hKt p2 (hKb V _ _ o_))⟩⟩
  |ret=>
   obtain ⟨p1,p3⟩:=hp;obtain ⟨f1,f2,f3,f4⟩:=fin (some .ret) V p1;exact ⟨_,_,f1,.inr ⟨rfl,.ret,soft_put _ _ V _ _ (hIx _) f2 rfl p3,f3,f4⟩⟩
  |exit id=>
   obtain ⟨p1,p3⟩:=hp;obtain ⟨f1,f2,f3,f4⟩:=fin (some (.exit id)) V p1;exact ⟨_,_,f1,.inr ⟨rfl,.exit id,soft_put _ _ V _ _ (hIx _) f2 rfl p3,f3,f4⟩⟩
  |goto t=>
   obtain ⟨p1,p3⟩:=hp;obtain ⟨f1,f2,f3,f4⟩:=fin (some (.goto t)) V p1;exact ⟨_,_,f1,.inr ⟨rfl,.goto t,soft_put _ _ V _ _ (hIx _) f2 rfl p3,f3,f4⟩⟩
  |panic ch=>exact hp.elim
  |outgrown=>exact hp.elim
 ·have soft_put:∀(J:List α->World->Prop) (s:List α) (A:World) (o o':Obj),Zk7 w.heap.size b J->A.heap[D+1]?=some o->o.isCells=false->J s A->J s (A.putObj (D+1) o'):=fun J s A o o' hJ h1 h2 h3=>
   hJ s A _ (some (D+1)) h3 (grownBy_putObj' A (D+1) o') (fun r e=>by cases e;exact .inr ⟨o_,o,h1,h2⟩)
  rintro e W2 ⟨⟨v,rfl⟩,⟨i1,i2,i3⟩|⟨pre,c,i1,i2,i3⟩⟩
  ·exact ⟨none,_,run_endLoop (P:=P) i2 (by simp [rec_]),hdone D _ o_ (soft_put I _ W2 _ _ hI i2 rfl i1) ((World.putObj_heap_other o_).trans i3)⟩
  ·exact ⟨some c,_,run_endLoop (P:=P) i2 (by simp [rec_]),hstop D c pre _ o_ (soft_put _ _ W2 _ _ (hIx c) i2 rfl i1) ((World.putObj_heap_other o_).trans i3)⟩
end Go.Proofs.YtmgmbeipbeknaaaGreatDoor
