import Derived.WalkKit
import Derived.WalkSpells
import Derived.WalkLawsBesides
import Derived.Lib.FrozenHead2
import Derived.Lib.IndexBytes
import Derived.Lib.Hide
import Derived.Deep.MidRow
import Derived.Deep.QuietTactic
import Derived.Test.YtmgmbeipbeknaaaGreatDoorProg
import Derived.BigQuiet
import Derived.BigRegion
import Derived.Test.YtmgmbeipbeknaaaGreatDoorRF1
namespace Go.Proofs.YtmgmbeipbeknaaaGreatDoor
open Go Go.RowKit
set_option linter.unusedVariables false
set_option linter.unusedSimpArgs false
set_option maxHeartbeats 16000000
structure Fr(M:Nat->Prop)(w w':World):Prop where
 os:w'.os=w.os
 tape:w'.tape=w.tape
 output:w'.output=w.output
 size:w.heap.size<=w'.heap.size
 block:∀k,k<w.heap.size->¬M k->w'.heap[k]?=w.heap[k]?
theorem Fr.refl(M:Nat->Prop)(w:World):Fr M w w:=⟨rfl,rfl,rfl,l_,fun _ _ _=>rfl⟩
theorem Fr.drewN{M:Nat->Prop}{a w:World}(h:Fr M a w)(n:Nat):Fr M a (w.drewN n):=⟨h.os,h.tape,h.output,h.size,h.block⟩
theorem Fr.drew{M:Nat->Prop}{a w:World}(h:Fr M a w):Fr M a w.drew:=⟨h.os,h.tape,h.output,h.size,h.block⟩
theorem Fr.trans{M:Nat->Prop}{a b c:World}(h:Fr M a b)(k:Fr M b c):Fr M a c:=
 ⟨k.os.trans h.os,k.tape.trans h.tape,k.output.trans h.output,Nat.le_trans h.size k.size,
  fun i hi hm=>(k.block i (Nat.lt_of_lt_of_le hi h.size) hm).trans (h.block i hi hm)⟩
theorem Fr.then'{M M':Nat->Prop}{a b c:World}(h:Fr M a b)(k:Fr M' b c)(hM:∀i,i<a.heap.size->M' i->M i):Fr M a c:=
 ⟨k.os.trans h.os,k.tape.trans h.tape,k.output.trans h.output,Nat.le_trans h.size k.size,
  fun i hi hm=>(k.block i (Nat.lt_of_lt_of_le hi h.size) (fun x=>hm (hM i hi x))).trans (h.block i hi hm)⟩
theorem Fr.mono{M M':Nat->Prop}{a b:World}(h:Fr M a b)(hM:∀i,i<a.heap.size->M i->M' i):Fr M' a b:=
 ⟨h.os,h.tape,h.output,h.size,fun i hi hm=>h.block i hi (fun x=>hm (hM i hi x))⟩
theorem Fr.setCell{M:Nat->Prop}{a w:World}(h:Fr M a w){p:Addr}(hp:p.block<a.heap.size->M p.block)(u:Value):Fr M a (w.setCell p u):=
 ⟨h.os,h.tape,h.output,by simpa using h.size,fun k hk hm=>by
  by_cases e:k=p.block
  ·subst e;exact absurd (hp hk) hm
  ·rw [Below.heap_setCell _ _ _ _ e];exact h.block k hk hm⟩
theorem Fr.alloc{M:Nat->Prop}{a w:World}(h:Fr M a w)(o:Obj):Fr M a (w.alloc o):=
 ⟨h.os,h.tape,h.output,by have:=h.size;simp;omega,fun k hk hm=>by
  rw [Below.heap_alloc _ _ _ (Nat.lt_of_lt_of_le hk h.size)];exact h.block k hk hm⟩
theorem Fr.grown{M:Nat->Prop}{a w w':World}{row:Option Nat}(h:Fr M a w)(hg:w.grownBy w' row)(hr:∀k,row=some k->k<a.heap.size->M k):Fr M a w' :=
 ⟨hg.os.trans h.os,hg.tape.trans h.tape,hg.output.trans h.output,Nat.le_trans h.size hg.size,fun k hk hm=>
  (hg.block k (Nat.lt_of_lt_of_le hk h.size) (fun e=>hm (hr k e.symm hk))).trans (h.block k hk hm)⟩
theorem Fr.below{w w':World}{M:Nat->Prop}(h:Fr M w w')(B:Nat)(hB:B<=w.heap.size)(hM:∀k,k<B->¬M k):Below B w w' :=
 ⟨h.os,h.tape,h.output,h.size,fun k hk=>h.block k o_ (hM k hk)⟩
theorem Fr.of_below{w w':World}(h:Below w.heap.size w w')(M:Nat->Prop):Fr M w w' :=
 ⟨h.os,h.tape,h.output,h.size,fun k hk _=>h.block k hk⟩
theorem Fr.freeze{M:Nat->Prop}{a w:World}(h:Fr M a w){p:Addr}(hp:p.block<a.heap.size->M p.block)(n:Nat):Fr M a (w.freeze p n):=by
 unfold World.freeze;split
 ·exact h
 ·refine ⟨h.os,h.tape,h.output,by simpa using h.size,fun k hk hm=>?_⟩
  rw [<-h.block k hk hm];by_cases e:p.block=k
  ·subst e;exact absurd (hp hk) hm
  ·simp only [Array.getElem?_modify]
   rw [if_neg e]
theorem Zb{w:World}{b:Nat}{o:Obj}(h:w.heap[b]?=some o):b<w.heap.size:=by
 rcases Nat.lt_or_ge b w.heap.size with h'|h'
 ·exact h'
 ·simp [Array.getElem?_eq_none h'] at h
theorem rd{w:World}{b:Nat}{cs:Array Value}{T:TypeId}(h:w.heap[b]?=some (.cells cs T (0,0))) :
  (∀j,w.cell? ⟨b,j,none⟩=cs[j]?)/\(∀j,w.frozen? ⟨b,j,none⟩=false)/\w.shape? b=some (T,cs.size)/\b<w.heap.size:=
 ⟨fun j=>by simp [World.cell?,h],fun j=>by simp [World.frozen?,h],by simp [World.shape?,h],Zb h⟩
theorem heap_setCell{w:World}{b:Nat}{cs:Array Value}{T:TypeId}{fz:Nat×Nat}(h:w.heap[b]?=some (.cells cs T fz))(j:Nat)(v:Value) :
  (w.setCell ⟨b,j,none⟩ v).heap[b]?=some (.cells (cs.setIfInBounds j v) T fz):=by
 simp [World.setCell,Array.getElem?_modify,h]
theorem Zw{w:World}{b:Nat}{o:Obj}(h:w.heap[b]?=some o){a:Addr}(hb:b≠a.block)(v:Value):(w.setCell a v).heap[b]?=some o:=by
 rw [Below.heap_setCell _ _ _ _ hb];exact h
theorem heap_alloc{w:World}{b:Nat}{o:Obj}(h:w.heap[b]?=some o)(x:Obj):(w.alloc x).heap[b]?=some o:=by
 rw [Below.heap_alloc _ _ _ (Zb h)];exact h
theorem Fr.heap{M:Nat->Prop}{w w':World}{b:Nat}{o:Obj}(hf:Fr M w w')(h:w.heap[b]?=some o)(hM:¬M b):w'.heap[b]?=some o:=by
 rw [hf.block b (Zb h) hM];exact h
def Buf(B:Nat)(e:TypeId)(l:List UInt8)(v:Value)(w:World):Prop:=
 (v=.slice none 0 0/\l=[])\/(l≠[]/\w.ownsRowF B e 1 v l.length (Lib.byteCells l))
theorem Buf.own{B:Nat}{e:TypeId}{l:List UInt8}{v:Value}{w:World}(h:Buf B e l v w):w.ownsRowF B e 1 v l.length (Lib.byteCells l):=by
 rcases h with ⟨rfl,rfl⟩|⟨_,h⟩
 ·exact World.ownsRowF_nil _ _ _ _
 ·exact h
theorem Buf.kept{B:Nat}{e:TypeId}{l:List UInt8}{v:Value}{w w':World}{M:Nat->Prop}(h:Buf B e l v w)(hf:Fr M w w')(hM:∀k,v.ownBlock=some k->¬M k):Buf B e l v w':=by
 rcases h with ⟨rfl,rfl⟩|⟨h0,h⟩
 ·exact .inl ⟨rfl,rfl⟩
 ·refine .inr ⟨h0,h.1,?_⟩
  rcases h.2 with hn|⟨g,cap,cur,fz,rfl,hb,hgg,rest⟩
  ·exact .inl hn
  ·exact .inr ⟨g,cap,cur,fz,rfl,hb,hf.heap hgg (hM g rfl),rest⟩
theorem Buf.lt{B:Nat}{e:TypeId}{l:List UInt8}{v:Value}{w:World}(h:Buf B e l v w):∀k,v.ownBlock=some k->B<=k/\k<w.heap.size:=h.own.lt
theorem Buf.mono{B B':Nat}{e:TypeId}{l:List UInt8}{v:Value}{w:World}(h:Buf B e l v w)(hB:∀k,v.ownBlock=some k->B'<=k):Buf B' e l v w:=by
 rcases h with ⟨rfl,rfl⟩|⟨h0,h⟩
 ·exact .inl ⟨rfl,rfl⟩
 ·refine .inr ⟨h0,h.1,?_⟩
  rcases h.2 with hn|⟨g,cap,cur,fz,rfl,hb,hgg,rest⟩
  ·exact .inl hn
  ·exact .inr ⟨g,cap,cur,fz,rfl,hB g rfl,hgg,rest⟩
theorem Buf.form{B:Nat}{e:TypeId}{l:List UInt8}{v:Value}{w:World}(h:Buf B e l v w):∃oa cap,v=.slice oa l.length cap:=by
 rcases h.own.2 with ⟨rfl,h0⟩|⟨g,cap,cur,fz,rfl,_⟩
 ·exact ⟨none,0,by rw [h0]⟩
 ·exact ⟨_,_,rfl⟩
def Zbu(e:TypeId)(w:World)(k:Nat):Prop:=∃cs fz,w.heap[k]?=some (.cells cs e fz)
def FrB(R B:Nat)(e:TypeId)(w w':World):Prop:=Fr (fun k=>k=R\/(B<=k/\Zbu e w k)) w w'
theorem FrB.refl(R B:Nat)(e:TypeId)(w:World):FrB R B e w w:=Fr.refl _ _
theorem FrB.trans{R B:Nat}{e:TypeId}{a b c:World}(h:FrB R B e a b)(k:FrB R B e b c):FrB R B e a c:=by
 refine Fr.then' h k ?_;intro i hi hm;rcases hm with rfl|⟨h1,cs,fz,h2⟩
 ·exact .inl rfl
 ·by_cases hr:i=R
  ·exact .inl hr
  ·by_cases hx:B<=i/\Zbu e a i
   ·exact .inr hx
   ·refine .inr ⟨h1,cs,fz,?_⟩
    rw [<-h.block i hi (fun y=>y.elim hr hx)];exact h2
theorem FrB.drewN{R B:Nat}{e:TypeId}{a w:World}(h:FrB R B e a w)(n:Nat):FrB R B e a (w.drewN n):=Fr.drewN h n
theorem FrB.drew{R B:Nat}{e:TypeId}{a w:World}(h:FrB R B e a w):FrB R B e a w.drew:=Fr.drew h
theorem FrB.setCell{R B:Nat}{e:TypeId}{a w:World}(h:FrB R B e a w)(j:Nat)(u:Value):FrB R B e a (w.setCell ⟨R,j,none⟩ u):=
 Fr.setCell h (p:=⟨R,j,none⟩) (fun _=>.inl rfl) u
theorem FrB.alloc{R B:Nat}{e:TypeId}{a w:World}(h:FrB R B e a w)(o:Obj):FrB R B e a (w.alloc o):=Fr.alloc h o
theorem FrB.grown{R B:Nat}{e:TypeId}{a w w':World}{row:Option Nat}(h:FrB R B e a w)(hg:w.grownBy w' row)(hr:∀k,row=some k->B<=k/\Zbu e w k):FrB R B e a w' :=
 FrB.trans h ((Fr.refl _ _).grown hg (fun k hk _=>.inr (hr k hk)))
theorem FrB.heap{R B:Nat}{e:TypeId}{w w':World}{b:Nat}{cs:Array Value}{T:TypeId}{fz:Nat×Nat}(hf:FrB R B e w w')(h:w.heap[b]?=some (.cells cs T fz))(hR:b≠R)(hT:T≠e):w'.heap[b]?=some (.cells cs T fz):=by
 refine Fr.heap hf h ?_;rintro (rfl|⟨_,cs',fz',h'⟩)
 ·exact hR rfl
 ·rw [h] at h';simp at h';exact hT h'.2.1
theorem FrB.below{R B:Nat}{e:TypeId}{w w':World}(h:FrB R B e w w')(B':Nat)(hB:B'<=B)(hR:B'<=R)(hs:B'<=w.heap.size):Below B' w w' :=
 Fr.below h B' hs (fun k hk x=>by rcases x with rfl|⟨h1,_⟩<;>omega)
theorem Zh7{w:World}{B:Nat}{e:TypeId}{v:Value}{n:Nat}{xs:List Value}(h:w.ownsRowF B e 1 v n xs):∀g,v.ownBlock=some g->B<=g/\Zbu e w g:=by
 intro g hg;rcases h.2 with ⟨rfl,_⟩|⟨g',cap,cur,fz,rfl,hb,hh,_⟩
 ·simp [Value.ownBlock] at hg
 ·simp [Value.ownBlock] at hg
  subst hg;exact ⟨hb,cur,fz,hh⟩
theorem Buf.row{B:Nat}{e:TypeId}{l:List UInt8}{v:Value}{w:World}(h:Buf B e l v w):∀g,v.ownBlock=some g->B<=g/\Zbu e w g:=Zh7 h.own
theorem Buf.ne{B:Nat}{e:TypeId}{l:List UInt8}{v:Value}{w:World}(h:Buf B e l v w){R:Nat}{cs:Array Value}{T:TypeId}{fz:Nat×Nat}(hR:w.heap[R]?=some (.cells cs T fz))(hT:T≠e):v.ownBlock≠some R:=by
 intro hv;obtain ⟨_,cs',fz',h'⟩:=h.row R hv;rw [hR] at h';simp at h';exact hT h'.2.1
theorem Zgf(c:UInt8):Lib.byteCells [c]=[.int .u8 c.toNat]:=rfl
theorem Buf.drewN{B:Nat}{e:TypeId}{l:List UInt8}{v:Value}{w:World}(h:Buf B e l v w)(n:Nat):Buf B e l v (w.drewN n):=h
theorem Buf.setCell{B:Nat}{e:TypeId}{l:List UInt8}{v:Value}{w:World}(h:Buf B e l v w){a:Addr}(ha:v.ownBlock≠some a.block)(u:Value):Buf B e l v (w.setCell a u):=
 h.kept (M:=(·=a.block)) (Fr.setCell (M:=(·=a.block)) (Fr.refl _ _) (fun _=>rfl) u) (fun k hk e=>ha (e ▸ hk))
theorem Buf.alloc{B:Nat}{e:TypeId}{l:List UInt8}{v:Value}{w:World}(h:Buf B e l v w)(o:Obj):Buf B e l v (w.alloc o):=
 h.kept (M:=fun _=>False) (Fr.alloc (Fr.refl _ _) o) (fun _ _ e=>e)
theorem ZP{a b:Bool}(h:a=b):Ending.returned (.bool a)=.returned (.bool b):=by rw [h]
theorem ZcR{k:IntKind}{a b:Int}(h:a=b):Ending.returned (.int k a)=.returned (.int k b):=by rw [h]
theorem Zh9{a b:Value}(h:a=b):Ending.returned a=.returned b:=by rw [h]
theorem dn0(w:World):∃n,w=w.drewN n:=⟨0,rfl⟩
theorem dn(w:World)(n:Nat):∃m,w.drewN n=w.drewN m:=⟨n,rfl⟩
theorem dn2(w:World)(a b:Nat):(w.drewN a).drewN b=w.drewN (a+b):=by
 simp only [World.drewN];congr 1;omega
theorem XE{a b:World}{n:Nat}(h:∃m,b=a.drewN m):∃m,b.drewN n=a.drewN m:=by
 obtain ⟨m,rfl⟩:=h;exact ⟨m+n,dn2 _ _ _⟩
theorem FrB.of_dn{R B:Nat}{e:TypeId}{a b:World}(h:∃m,b=a.drewN m):FrB R B e a b:=by
 obtain ⟨m,rfl⟩:=h;exact (FrB.refl _ _ _ _).drewN m
theorem Fr.of_dn{M:Nat->Prop}{a b:World}(h:∃m,b=a.drewN m):Fr M a b:=by
 obtain ⟨m,rfl⟩:=h;exact (Fr.refl _ _).drewN m
theorem ZO{w w':World}{base:Nat}{e:TypeId}{size:Nat}{v:Value}{n:Nat}{xs:List Value}{M:Nat->Prop}(h:w.ownsRow base e size v n xs)(hf:Fr M w w')(hM:∀g,v.ownBlock=some g->Zbu e w g->¬M g):w'.ownsRow base e size v n xs:=by
 refine ⟨h.1,?_⟩;rcases h.2 with hn|⟨g,cap,cur,rfl,hb,hgg,rest⟩
 ·exact .inl hn
 ·exact .inr ⟨g,cap,cur,rfl,hb,hf.heap hgg (hM g rfl ⟨cur,(0,0),hgg⟩),rest⟩
theorem Zd9{w w':World}{base R B:Nat}{e e':TypeId}{size:Nat}{v:Value}{n:Nat}{xs:List Value}(h:w.ownsRow base e size v n xs)(hf:FrB R B e' w w')(he:e≠e'){cs:Array Value}{T:TypeId}{fz:Nat×Nat}(hR:w.heap[R]?=some (.cells cs T fz))(hT:T≠e) :
  w'.ownsRow base e size v n xs:=by
 refine ZO h hf ?_;rintro g hg ⟨cs',fz',h'⟩ (rfl|⟨_,cs2,fz2,h2⟩)
 ·rw [hR] at h';simp at h';exact hT h'.2.1
 ·rw [h2] at h';simp at h';exact he h'.2.1.symm
theorem ownsRow_form{w:World}{base:Nat}{e:TypeId}{size:Nat}{v:Value}{n:Nat}{xs:List Value}(h:w.ownsRow base e size v n xs):∃oa cap,v=.slice oa n cap:=by
 rcases h.2 with ⟨rfl,h0⟩|⟨g,cap,cur,rfl,_⟩
 ·exact ⟨none,0,by rw [h0]⟩
 ·exact ⟨_,_,rfl⟩
def Zr(l:List (List UInt8)):List Value:=l.map fun x=>.string ⟨x.toArray⟩
theorem ZfH(l:List (List UInt8)):(Zr l).length=l.length:=by simp [Zr]
theorem XK(l:List (List UInt8))(x:List UInt8):Zr (l++[x])=Zr l++[.string ⟨x.toArray⟩]:=by simp [Zr]
theorem Zaa{x y:Int}{b:Bool}(h:(x==y)=b):(x !=y)=!b:=by simp [bne,h]
theorem Zdp{s:ByteArray}(h:s.size≠0):s.toList.isEmpty=false/\¬s.toList=[]/\0<s.size/\(0:Int)<(s.size:Int):=by
 have h1:¬s.toList=[]:=by
  rw [ByteArray.toList_eq];intro e;apply h;obtain ⟨⟨d⟩⟩:=s;simp at e;subst e;rfl
 exact ⟨n59_,h1,o_,o_⟩
theorem ZhP{s:ByteArray}(h:s.size=0):s=⟨#[]⟩:=by
 obtain ⟨⟨d⟩⟩:=s;cases d with
 |nil=>rfl
 |cons a l=>simp [ByteArray.size] at h
theorem QI(a b:UInt8):(a==b)=((a.toNat:Int)==(b.toNat:Int)):=by
 rw [Bool.eq_iff_iff];simp [<-UInt8.toNat_inj];omega
theorem drop_cons(s:ByteArray)(k:Nat)(h:k<s.size):s.data.toList.drop k=s[k]::s.data.toList.drop (k+1):=by
 rw [List.drop_eq_getElem_cons n27_];rfl
def Zu(w:World)(oa:Option Addr)(l:List (List UInt8)):Prop:=
 ∀i (h:i<l.length),∃b o,oa=some ⟨b,o,none⟩/\w.cell? ⟨b,o+i,none⟩=some (.string ⟨l[i].toArray⟩)
theorem Zu.below{w w':World}{oa:Option Addr}{l:List (List UInt8)}(h:Zu w oa l)(hb:Below w.heap.size w w'):Zu w' oa l:=by
 intro i hi;obtain ⟨b,o,e,hc⟩:=h i hi;exact ⟨b,o,e,cell_later hb hc⟩
theorem Zu.nil(w:World)(oa:Option Addr):Zu w oa []:=fun _ h=>absurd h s_
theorem Zu.of_own{w:World}{base:Nat}{e:TypeId}{oa:Option Addr}{n cap:Nat}{l:List (List UInt8)}(h:w.ownsRow base e 1 (.slice oa n cap) n (Zr l)):Zu w oa l:=by
 intro i hi;have hl:=h.1;rw [ZfH] at hl;rcases h.2 with ⟨_,h0⟩|⟨g,cap',cur,hv,_,hg,_,_,_,ht⟩
 ·omega
 ·injection hv with h1 h2 h3
  subst h1;refine ⟨g,0,rfl,?_⟩;have hc:=h.cells (g:=g) rfl i (.string ⟨l[i].toArray⟩) (by simp [Zr,hi]);have hadd:(⟨g,0,none⟩:Addr).add i=⟨g,0+i,none⟩:=n79_;rw [hadd] at hc;exact hc
theorem Zu.take{w:World}{oa:Option Addr}{l:List (List UInt8)}(h:Zu w oa l)(k:Nat):Zu w oa (l.take k):=by
 intro i hi;simp at hi;obtain ⟨b,o,e,hc⟩:=h i o_;exact ⟨b,o,e,n74_⟩
theorem Zd{B:Nat}{a b:World}(h:∃n,b=a.drewN n):Below B a b:=by
 obtain ⟨n,rfl⟩:=h;exact ⟨rfl,rfl,rfl,l_,fun _ _=>rfl⟩
theorem Below.more{a b c:World}(h:Below a.heap.size a b)(k:Below b.heap.size b c):Below a.heap.size a c:=h.trans (k.mono h.size)
theorem QE{P:Program}{w:World}(base:Nat)(t ty e:TypeId)(i:TypeInfo)(size:Nat)(ht:P.underlying t=some (.slice e))(hi:P.info? e=some i)
  (v:Value) (n:Nat) (xs:List Value) (hown:w.ownsRow base e size v n xs) (c:Nat) :
  (Builtin.append_ #[t,t] ty #[v,.slice none 0 c]).run P w=.ok v w:=by
 rcases hown.2 with ⟨rfl,rfl⟩|⟨g,cap,cur,rfl,_,_,hnc,_⟩
 ·simp [Builtin.append_,run_underlying ht,sizeOf,typeInfo,hi,Builtin.lenOf,Builtin.firstCells]
 ·simp [Builtin.append_,run_underlying ht,sizeOf,typeInfo,hi,Builtin.lenOf,Builtin.firstCells,hnc,storeCells]
theorem Xf{P:Program}{w:World}(base:Nat)(t ty e:TypeId)(i:TypeInfo)(z:Value)(size bytes:Nat)(ht:P.underlying t=some (.slice e))(hi:P.info? e=some i)(hz:i.zero=some z)
  (hsize:i.size=size) (hby:i.bytes=bytes) (hzs:z.cells.size=size) (hsz:0<size)
  (v:Value) (n:Nat) (xs:List Value) (hown:w.ownsRow base e size v n xs) (oa:Option Addr) (m c:Nat) (news:List Value) (hl:news.length=m*size)
  (hc:∀j u,news[j]?=some u->∃b o,oa=some ⟨b,o,none⟩/\w.cell? ⟨b,o+j,none⟩=some u) (h1:∀u∈news,u.oneCell'=true)
  (h63:n+m<=maxLen) (hbytes:(n+m)*bytes<=140737488355328) (hbase:base<=w.heap.size) :
  ∃v' w',(Builtin.append_ #[t,t] ty #[v,.slice oa m c]).run P w=.ok v' w'/\w'.ownsRow base e size v' (n+m) (xs++news)/\w.grownBy w' v.ownBlock:=by
 cases oa with
 |none=>
  have hn:news=[]:=by
   cases news with
   |nil=>rfl
   |cons u r=>obtain ⟨b,o,e,_⟩:=hc 0 u rfl;cases e
  subst hn;have hm:m=0:=by
   rcases Nat.eq_zero_or_pos m with h|h
   ·exact h
   ·have:=Nat.mul_pos h hsz
    simp at hl;omega
  subst hm;exact ⟨v,w,QE base t ty e i size ht hi v n xs hown c,by simpa using hown,⟨rfl,rfl,rfl,l_,fun _ _ _=>rfl⟩⟩
 |some a=>
  by_cases h0:news=[]
  ·subst h0
   obtain ⟨v',w',h2,h3,h4,_⟩:=run_append_own (P:=P) w base t ty e i z size bytes ht hi hz hsize hby hzs hsz v n xs hown a m c [] hl s_ s_ h63 hbytes hbase;exact ⟨v',w',h2,h3,h4⟩
  ·obtain ⟨u,r,rfl⟩:∃u r,news=u::r:=by
    cases news with
    |nil=>exact absurd rfl h0
    |cons u r=>exact ⟨u,r,rfl⟩
   obtain ⟨b,o,e1,_⟩:=hc 0 u rfl;injection e1 with e1
   subst e1;obtain ⟨v',w',h2,h3,h4,_⟩:=run_append_own (P:=P) w base t ty e i z size bytes ht hi hz hsize hby hzs hsz v n xs hown ⟨b,o,none⟩ m c (u::r) hl (by
    intro j x hx;obtain ⟨b',o',e2,h5⟩:=hc j x hx;injection e2 with e2;injection e2 with e3 e4;subst e3;subst e4
    have hadd:(⟨b,o,none⟩:Addr).add j=⟨b,o+j,none⟩:=n79_;rw [hadd];exact h5) h1 h63 hbytes hbase
   exact ⟨v',w',h2,h3,h4⟩
theorem Zjs(l:List (List UInt8)):∀u∈Zr l,u.oneCell'=true:=by
 intro u hu;obtain ⟨x,_,rfl⟩:=List.mem_map.1 hu;rfl
theorem Zu.cells{w:World}{oa:Option Addr}{l:List (List UInt8)}(h:Zu w oa l):∀j u,(Zr l)[j]?=some u->∃b o,oa=some ⟨b,o,none⟩/\w.cell? ⟨b,o+j,none⟩=some u:=by
 intro j u hu;have hj:j<l.length:=by
  rcases Nat.lt_or_ge j l.length with h'|h'
  ·exact h'
  ·rw [List.getElem?_eq_none (by simpa [Zr] using h')] at hu;cases hu
 obtain ⟨b,o,e,hc⟩:=h j hj;refine ⟨b,o,e,?_⟩;rw [hc];simp [Zr,hj] at hu;rw [hu]
theorem wpList_append_run{P:Program}{w:World}{ops:Array Oper}{rest:List Oper}{o:Oper}{a:Act}{Q:Exit->Act->World->Prop}(hw:Region.wanted o (yielded ops a.tmps)=true)(s x:Operand)(t:TypeId)
  (ho:o.op=.call { callee:=.builtin .append,args:=#[s,x],argTypes:=#[t,t] }) {v xv v':Value} {w':World} (hr:(Builtin.append_ #[t,t] o.type #[v,xv]).run P w=.ok v' w') (hs:a.eval s=v) (hx:a.eval x=xv)
  (h:wpList P ops Q rest (a.put o.dst v') w'):wpList P ops Q (o::rest) a w:=by
 refine wpList_step fun K hK=>?_
 rw [if_pos hw];unfold Oper.wp execOp;simp only [ho,resolve,invoke,builtin,Sem.run_bind,Sem.run_pure,Result.andThen_ok,List.map_toArray,List.map_cons,List.map_nil,hs,hx,hr];exact hK _ _ h
theorem sA_{α:Type}{l:List α}{i:Nat}{a:α}:l.toArray.setIfInBounds i a=(l.set i a).toArray:=List.setIfInBounds_toArray ..
theorem sB_{α:Type}{x:α}{l:List α}{a:α}:(x::l).set 0 a=a::l:=List.set_cons_zero ..
theorem sC_{α:Type}{x:α}{l:List α}{n:Nat}{a:α}:(x::l).set (n+1) a=x::l.set n a:=List.set_cons_succ ..
theorem gT_{α:Type}{l:List α}{i:Nat}{v:α}(h:l[i]?=some v):l.toArray[i]?=some v:=List.getElem?_toArray.trans h
theorem h_{p:Prop}(h:p):Hid p:=Lib.hid h
theorem u_{p q:Prop}(k:q)(h:Hid q->p:=by intro h_;(try simp only [Act.put,sA_,sB_,sC_]);exact h_.out):p:=h (h_ k)
set_option maxRecDepth 100000
theorem ZfJ{P:Program}{K:Act->World->Prop}{Q:Exit->Act->World->Prop}{a:Act}{w:World}{o:Oper}(t:TypeId)(parts:Array (Nat×Operand))(vs:Array (Nat×Value))(cells:Array Value)(ho:o.op=Op.build t parts)
  (hv:(parts.map fun x=>(x.1,a.eval x.2))=vs)
  (hb:(Instr.build t vs).run P w=.ok (.agg cells) w) (h:K (a.put o.dst (.agg cells)) w):Oper.wp P o a w K Q:=by
 unfold Oper.wp
 have:Sem.run P (execOp a.eval o) w=.ok (Next.value (.agg cells)) w:=by
  unfold execOp;simp only [ho];have hv':(Array.map (fun x:Nat×Operand=>match x with|(i,x)=>(i,a.eval x)) parts)=vs:=by rw [<-hv]
  rw [hv'];simp only [Sem.run_bind,hb];rfl
 rw [this,Oper.upon_value];exact h
theorem set_mid(l cs:List Value)(v:Value)(off:Nat)(h:off<cs.length):(cs.set off v).take (off+1)++l++(cs.set off v).drop (off+1+l.length)=cs.take off++(v::l)++cs.drop (off+(v::l).length):=by
 have e:cs=cs.take off++cs[off]::cs.drop (off+1):=by
  conv=>lhs;rw [<-List.take_append_drop off cs,List.drop_eq_getElem_cons h]
 have hA:(cs.take off).length=off:=n39_;generalize cs.take off=A at e hA;generalize cs[off]=c at e;generalize cs.drop (off+1)=B at e;subst e hA;simp [List.take_append,List.drop_append];rw [List.take_of_length_le o_,List.drop_eq_nil_of_le o_];simp only [List.nil_append];rw [show A.length+1+l.length-A.length=l.length+1 by omega,@List.drop_eq_nil_of_le _ A (A.length+(l.length+1)) o_];simp
theorem J5{b:Nat}{T:TypeId}{fz:Nat×Nat}:∀(l:List Value) (off:Nat) {w:World} {cs:Array Value},w.heap[b]?=some (.cells cs T fz)->off+l.length<=cs.size->
  (w.setCells b off l).heap[b]?=some (.cells (cs.toList.take off++l++cs.toList.drop (off+l.length)).toArray T fz)
 |[],off,w,cs,h,_=>by
  rw [World.setCells,h];simp
 |v::l,off,w,cs,h,hl=>by
  rw [World.setCells];rw [J5 l (off+1) (heap_setCell h off v) (by simp at hl⊢;omega)];have ho:off<cs.toList.length:=by simp at hl⊢;omega
  rw [Array.toList_setIfInBounds,set_mid l cs.toList v off ho]
theorem Fr.setCells{M:Nat->Prop}{a:World}{b:Nat}(hb:b<a.heap.size->M b):∀(l:List Value) (off:Nat) {w:World},Fr M a w->Fr M a (w.setCells b off l)
 |[],_,_,h=>h
 |v::l,off,w,h=>by
  rw [World.setCells];exact Fr.setCells hb l (off+1) (h.setCell hb v)
theorem Qo{P:Program}{K:Act->World->Prop}{Q:Exit->Act->World->Prop}{a:Act}{w:World}{o:Oper}(t:TypeId)(x y:Operand)(b:Nat)(cells old:Array Value)(T:TypeId)(ho:o.op=Op.store t x y)
  (hx:a.eval x=.pointer (some ⟨b,0,none⟩)) (hy:a.eval y=.agg cells) (hw:w.heap[b]?=some (.cells old T (0,0))) (hs:old.size=cells.size) (hi:(P.info? t).map (·.size)=some cells.size)
  (h1:(cells.all fun x=>x.oneCell')=true) (h:∀w3:World,w3.heap[b]?=some (.cells cells T (0,0))->Fr (·=b) w w3->K (a.put o.dst undef) w3):Oper.wp P o a w K Q:=by
 refine wp_store_mid t x y ho b 0 cells hx hy ?_ hi h1 (h _ ?_ ?_)
 ·intro j hj
  obtain ⟨h1,h2,_,_⟩:=rd hw;refine ⟨?_,h2 _⟩;rw [h1];simp [hs,hj]
 ·have:=J5 cells.toList 0 hw (by simp [hs])
  rw [this,List.drop_eq_nil_of_le (by simp [hs])];simp
 ·exact Fr.setCells (M:=fun x=>x=b) (fun _=>rfl) _ _ (Fr.refl _ _)
theorem XU{P:Program}{K:Act->World->Prop}{Q:Exit->Act->World->Prop}{a:Act}{w:World}{o:Oper}(t:TypeId)(x:Operand)(b:Nat)(cells:Array Value)(T:TypeId)(d:TypeDesc)(ho:o.op=Op.load t x)
  (hx:a.eval x=.pointer (some ⟨b,0,none⟩)) (hw:w.heap[b]?=some (.cells cells T (0,0))) (hd:P.underlying t=some d) (hr:d.isRow=true) (hi:(P.info? t).map (·.size)=some cells.size)
  (h:K (a.put o.dst (.agg cells)) w):Oper.wp P o a w K Q:=by
 refine wp_load_mid t x ho b 0 hx cells.toList d ?_ hd hr n60_ n27_;intro j v hv;rw [(rd hw).1,Nat.zero_add];simpa using hv
theorem Zl8{P:Program}{w:World}{b:Nat}{cells:Array Value}{T:TypeId}(t:TypeId)(d:TypeDesc)(hd:P.underlying t=some d)(hr:d.isRow=true)(hi:(P.info? t).map (·.size)=some cells.size)(hw:w.heap[b]?=some (.cells cells T (0,0))) :
  (Instr.loadAt t (.pointer (some ⟨b,0,none⟩))).run P w=.ok (.agg cells) w:=by
 have:=run_loadAt_mid (P:=P) w b 0 t cells.toList d (by
  intro j v hv;rw [(rd hw).1,Nat.zero_add];simpa using hv) hd hr n60_
 simpa using this
theorem XD{P:Program}{w:World}{ops:Array Oper}{rest:List Oper}{o:Oper}{a:Act}{Q:Exit->Act->World->Prop}(hg:o.guard=none)
  (h:∀K:Act->World->Prop,(∀a' w',wpList P ops Q rest a' w'->K a' w')->Oper.wp P o a w K Q):wpList P ops Q (o::rest) a w:=by
 refine wpList_step fun K hK=>?_
 rw [if_pos (by unfold Region.wanted;rw [hg])];exact h K hK
theorem XF{P:Program}{w:World}{ops:Array Oper}{rest:List Oper}{o:Oper}{a:Act}{Q:Exit->Act->World->Prop}(hg:o.guard=none)(t:TypeId)(parts:Array (Nat×Operand))(vs:Array (Nat×Value))(cells:Array Value)(ho:o.op=Op.build t parts)
  (hv:(parts.map fun x=>(x.1,a.eval x.2))=vs) (hb:(Instr.build t vs).run P w=.ok (.agg cells) w) (h:wpList P ops Q rest (a.put o.dst (.agg cells)) w):wpList P ops Q (o::rest) a w:=
 XD hg fun K hK=>ZfJ t parts vs cells ho hv hb (hK _ _ h)
theorem Yk{P:Program}{w:World}{ops:Array Oper}{rest:List Oper}{o:Oper}{a:Act}{Q:Exit->Act->World->Prop}(hg:o.guard=none)(t:TypeId)(x y:Operand)(b:Nat)(cells old:Array Value)(T:TypeId)(ho:o.op=Op.store t x y)
  (hx:a.eval x=.pointer (some ⟨b,0,none⟩)) (hy:a.eval y=.agg cells) (hw:w.heap[b]?=some (.cells old T (0,0))) (hs:old.size=cells.size) (hi:(P.info? t).map (·.size)=some cells.size)
  (h1:(cells.all fun x=>x.oneCell')=true) (h:∀w3:World,w3.heap[b]?=some (.cells cells T (0,0))->Fr (·=b) w w3->wpList P ops Q rest (a.put o.dst undef) w3):wpList P ops Q (o::rest) a w:=
 XD hg fun K hK=>Qo t x y b cells old T ho hx hy hw hs hi h1 fun w3 a1 a2=>hK _ _ (h w3 a1 a2)
theorem X6{P:Program}{w:World}{ops:Array Oper}{rest:List Oper}{o:Oper}{a:Act}{Q:Exit->Act->World->Prop}(hg:o.guard=none)(t:TypeId)(x:Operand)(b:Nat)(cells:Array Value)(T:TypeId)(d:TypeDesc)(ho:o.op=Op.load t x)
  (hx:a.eval x=.pointer (some ⟨b,0,none⟩)) (hw:w.heap[b]?=some (.cells cells T (0,0))) (hd:P.underlying t=some d) (hr:d.isRow=true) (hi:(P.info? t).map (·.size)=some cells.size)
  (h:wpList P ops Q rest (a.put o.dst (.agg cells)) w):wpList P ops Q (o::rest) a w:=
 XD hg fun K hK=>XU t x b cells T d ho hx hw hd hr hi (hK _ _ h)
theorem YR{P:Program}{w:World}{ops:Array Oper}{rest:List Oper}{o:Oper}{a:Act}{Q:Exit->Act->World->Prop}(hg:o.guard=none)(t:TypeId)(Z:Array Value)(ho:o.op=Op.alloc t)
  (hr:(Instr.alloc t true (.tuple #[])).run P w=.ok (.pointer (some ⟨w.heap.size,0,none⟩)) (w.alloc (.cells Z t)))
  (h:∀w3:World,w3.heap[w.heap.size]?=some (.cells Z t (0,0))->Below w.heap.size w w3->wpList P ops Q rest (a.put o.dst (.pointer (some ⟨w.heap.size,0,none⟩))) w3):wpList P ops Q (o::rest) a w:=by
 refine XD hg fun K hK=>?_
 unfold Oper.wp
 have:Sem.run P (execOp a.eval o) w=.ok (Next.value (.pointer (some ⟨w.heap.size,0,none⟩))) (w.alloc (.cells Z t)):=by
  unfold execOp;simp only [ho,Sem.run_bind,hr];rfl
 rw [this,Oper.upon_value];exact hK _ _ (h _ (heap_alloc_new _ _) (b_.alloc l_ _))
theorem QT{P:Program}{w:World}{ops:Array Oper}{rest:List Oper}{o:Oper}{a:Act}{Q:Exit->Act->World->Prop}(hg:o.guard=none)(t:TypeId)(x y:Operand)(b j:Nat)(k:IntKind)(n:Int)(old:Array Value)(T:TypeId)(ho:o.op=Op.store t x y)
  (hx:a.eval x=.pointer (some ⟨b,j,none⟩)) (hy:a.eval y=.int k n) (hw:w.heap[b]?=some (.cells old T (0,0))) (hs:j<old.size) (i:TypeInfo) (hi:P.info? t=some i) (h1:i.size=1)
  (h:∀w3:World,w3.heap[b]?=some (.cells (old.setIfInBounds j (.int k n)) T (0,0))->Fr (·=b) w w3->wpList P ops Q rest (a.put o.dst undef) w3):wpList P ops Q (o::rest) a w:=by
 refine XD hg fun K hK=>?_
 unfold Oper.wp
 have:Sem.run P (execOp a.eval o) w=.ok Next.skip (w.setCell ⟨b,j,none⟩ (.int k n)):=by
  unfold execOp;simp only [ho,hx,hy];have hr:Sem.run P (Instr.storeAt t (.pointer (some ⟨b,j,none⟩)) (.int k n)) w=.ok () (w.setCell ⟨b,j,none⟩ (.int k n)):=by
   obtain ⟨r1,r2,_⟩:=rd hw;unfold Instr.storeAt;have hc:=run_storeCells_cells (P:=P) b j [.int k n] 0 w (by intro q hq;rw [r1];simp at hq;subst hq;simp [hs]) (by intro q hq;exact r2 _) (by simp [Value.oneCell']);unfold Instr.sureAddr storeVar;have h2:(Value.int k n).cells=#[.int k n]:=rfl;simp only [Sem.run_bind,Sem.run_pure,Result.andThen_ok,run_sizeOf w hi,show P.cellsOf t=1 by (simp [Program.cellsOf,hi,h1]),h2];simpa [World.setCells] using hc
  simp only [Sem.run_bind,hr];rfl
 rw [this,Oper.upon_skip];exact hK _ _ (h _ (heap_setCell hw j _) (Fr.setCell (M:=fun x=>x=b) (Fr.refl _ _) (fun _=>rfl) _))
theorem Xe{P:Program}{w:World}{b:Nat}{cells:Array Value}{T:TypeId}(t:TypeId)(d:TypeDesc)(hd:P.underlying t=some d)(hr:d.isRow=true)(hi:(P.info? t).map (·.size)=some cells.size)(hw:w.heap[b]?=some (.cells cells T (0,0))) :
  (loadVar t ⟨b,0,none⟩).run P w=.ok (.agg cells) w:=by
 have:=run_loadVar_mid (P:=P) w b 0 t cells.toList d (by
  intro j v hv;rw [(rd hw).1,Nat.zero_add];simpa using hv) hd hr n60_
 simpa using this
theorem ZoA{P:Program}{w:World}{fn:Func}{tmps:Array Value}(a:Nat)(t:TypeId)(b:Nat)(v:Value)(hf:fn.results=#[.cell a t])(ha:tmps.getD a undef=.pointer (some ⟨b,0,none⟩))(hl:(loadVar t ⟨b,0,none⟩).run P w=.ok v w) :
  Sem.run P (results fn tmps) w=.ok v w:=by
 unfold results;have hA:(asAddr (.pointer (some ⟨b,0,none⟩))).run P w=.ok ⟨b,0,none⟩ w:=rfl;rw [hf];simp only [List.mapM_toArray,List.mapM_cons,List.mapM_nil,ha,Sem.run_bind,hA,hl,Sem.run_pure,Result.andThen_ok,map_eq_pure_bind];rfl
theorem Jm{P:Program}{w:World}{fn:Func}{R:Ending->World->Prop}{x:Act}(a:Nat)(t:TypeId)(b:Nat)(v:Value)(hf:fn.results=#[.cell a t])(hd:x.defers=[])(ha:x.tmps.getD a undef=.pointer (some ⟨b,0,none⟩))(hl:(loadVar t ⟨b,0,none⟩).run P w=.ok v w)(h:R (.returned v) w) :
  bodyPost P fn R .ret x w:=
 ⟨hd,v,ZoA a t b v hf ha hl,h⟩
open Go.Proofs.Tryz
theorem Zqs(c:UInt8):((c.toNat:Int).toNat.toUInt8)=c:=s_
theorem ZiY(c:UInt8):Zm c=decide ((c.toNat:Int)=32\/(c.toNat:Int)=9):=by
 rw [Bool.eq_iff_iff];simp [Zm,<-UInt8.toNat_inj];omega
theorem Zm1(c:UInt8):QU c=decide (((c.toNat:Int)<32/\(c.toNat:Int)≠9)\/(c.toNat:Int)=127):=by
 rw [Bool.eq_iff_iff];simp [QU,<-UInt8.toNat_inj,UInt8.lt_iff_toNat_lt];omega
theorem Xo{a b:ByteArray}(h:a.data.toList=b.data.toList):a=b:=by
 obtain ⟨⟨a⟩⟩:=a;obtain ⟨⟨b⟩⟩:=b;simp at h;rw [h]
theorem Zhk(l:List UInt8)(k:Nat)(h:k<l.length):l.take (k+1)=l.take k++[l[k]]:=by
 rw [List.take_succ_eq_append_getElem h]
theorem Zmm(s:ByteArray)(f:FuncId)(fr cap:Array Value)(p:UInt8->Bool)(w:World)(h63:s.size<=9223372036854775807)
  (HE:∀args w,(callFunc f args).run prog w=.ok (.enter f args) w)
  (H:∀c:UInt8,Calls prog f (fr.push (.int .u8 c.toNat)++cap) w fun e w'=>e=.returned (.bool (p c))/\w=w') :
  Calls prog 151 #[.string s,.func (.func f) fr cap] w fun e w'=>e=.returned (.bool (s.data.toList.all p))/\w=w':=by
 have HH:=h_ H;clear H;go_enter func151,ntmps151;go_wp2;go_loop [5,8] (fun _ i=>∃k:Nat,k<=s.size/\i=.int .i64 k/\Hid ((s.data.toList.take k).all p=true)) (fun _ i=>s.size-(intOf i).toNat)
 case atStart=>exact ⟨0,Nat.zero_le _,rfl,by simp [Hid]⟩
 case round=>
  obtain ⟨k,hk,rfl,hall⟩:=hrel;by_cases hlt:k<s.size
  ·have hsn:=Zhk s.data.toList k n24_
   have hgk:s.data.toList[k]' n24_=s[k]:=rfl;rw [hgk] at hsn;cases hp:p s[k] with
   |true=>
    have HT:=h_ (show (s.data.toList.take (k+1)).all p=true by rw [hsn,List.all_append,hall.out];simp [hp]);have HP:=h_ hp;clear hsn hgk hp;go_wp2_with (refine (HH.out s[k]).mono ?_;rintro e w' ⟨rfl,rfl⟩;rw [HP.out]);go_round
    case rel=>exact ⟨k+1,o_,n14_,HT⟩
    case measure=>simp [intOf];omega
   |false=>
    have HT:=h_ (show s.data.toList.all p=false by
     rw [List.all_eq_false];exact ⟨s[k],by rw [<-hgk];exact List.getElem_mem _,by simp [hp]⟩)
    have HP:=h_ hp;clear hsn hgk hp;go_wp2_with (refine (HH.out s[k]).mono ?_;rintro e w' ⟨rfl,rfl⟩;rw [HP.out]);go_ret;exact ⟨ZP HT.out.symm,rfl⟩
  ·go_wp2
   go_ret
   have:k=s.size:=o_
   subst this
   have:=hall.out
   rw [List.take_of_length_le s_] at this;refine ⟨ZP ?_,rfl⟩;exact this.symm.trans (Array.all_toList )
theorem Zdb(c:UInt8)(w:World) :
  Calls prog 167 #[.int .u8 c.toNat] w fun e w'=>e=.returned (.bool (QU c))/\w=w':=by
 go_enter func167,ntmps167;go_wp2;all_goals
  go_ret;refine ⟨ZP ?_,rfl⟩;rw [Zm1,Bool.eq_iff_iff];simp;omega
end Go.Proofs.YtmgmbeipbeknaaaGreatDoor
