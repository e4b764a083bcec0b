import Derived.Laws.StructEq
import Derived.Deep.QuietTactic
import Derived.BigQuiet
import Derived.Test.YtmgmbeipbeknaaaGreatDoorRB1
import Derived.Test.YtmgmbeipbeknaaaGreatDoorRB2
import Derived.Test.YtmgmbeipbeknaaaGreatDoorRB4
import Derived.Test.YtmgmbeipbeknaaaGreatDoorRB8
import Derived.Test.YtmgmbeipbeknaaaGreatDoorRB9
import Derived.Test.YtmgmbeipbeknaaaGreatDoorRB14
import Derived.Test.YtmgmbeipbeknaaaGreatDoorRB22
namespace Go.Proofs.YtmgmbeipbeknaaaGreatDoor
set_option linter.all false
set_option maxHeartbeats 16000000
structure ZtU where
 kind:Nat
 pre:Str
 inst:Str
 at_:Bool
deriving DecidableEq
def ZkB:ZtU:=⟨0,[],[],false⟩
def ofS(s:Str):ZtU:=if Zt s=0 then ZkB else ⟨Zt s,(cutAt (ZX s).1).1,(cutAt (ZX s).1).2.1,(cutAt (ZX s).1).2.2⟩
theorem Zr5(s:Str):(ofS s).kind=Zt s:=by
 unfold ofS;by_cases h:Zt s=0
 ·rw [if_pos h,h];rfl
 ·rw [if_neg h]
theorem Zg7(t:Str)(k:Nat)(h1:1<=k)(h4:k<=4):kindOf t=k↔t=X5 k:=by
 constructor
 ·intro h
  unfold kindOf at h;split at h
  ·subst h;assumption
  split at h
  ·subst h;assumption
  split at h
  ·subst h;assumption
  split at h
  ·subst h;assumption
  ·omega
 ·rintro rfl
  match k,h1,h4 with
  |1,_,_=>decide
  |2,_,_=>decide
  |3,_,_=>decide
  |4,_,_=>decide
theorem ZqE(k:Nat):(X5 k).contains 46=false:=by
 unfold X5;repeat' split<;>first|decide|skip
theorem Zpt(k:Nat):(X5 k).length<=7:=by
 unfold X5;repeat' split<;>first|decide|skip
theorem ZqH(a:Str)(k:Nat):ZX (a++46::X5 k)=(a,X5 k):=by
 unfold ZX;rw [ZhK _ (ZqE k)];rfl
theorem ZlB{s:Str}{k:Nat}(h1:1<=k)(h4:k<=4)(hn:(ZX s).1≠[])(hk:kindOf (ZX s).2=k):s=(ZX s).1++46::X5 k:=by
 rw [Zg7 _ k h1 h4] at hk;rw [<-hk];unfold ZX at *;rcases Ze5 s with ⟨h,_⟩|⟨a,b,h,h2,_⟩
 ·rw [h] at hn;exact absurd rfl hn
 ·rw [h];exact h2
theorem Zos{s:Str}{k:Nat}(h1:1<=k)(h4:k<=4)(h:¬((ZX s).1≠[]/\kindOf (ZX s).2=k))(hl:(X5 k).length+1<s.length)(n:Nat)(hn:n+((X5 k).length+1)=s.length):s.drop n≠46::X5 k:=by
 intro e;apply h;have hs:s=s.take n++46::X5 k:=by rw [<-e,List.take_append_drop]
 rw [hs,ZqH];refine ⟨?_,(Zg7 _ k h1 h4).2 rfl⟩;intro e2
 have:(s.take n).length=0:=by rw [show s.take n=[] from e2];rfl
 rw [List.length_take] at this;omega
def kR(s:Str)(k:Nat):Nat:=if (ZX s).1≠[]/\kindOf (ZX s).2≠0/\kindOf (ZX s).2<k then kindOf (ZX s).2 else 0
def rR(s:Str)(k:Nat):Str:=if (ZX s).1≠[]/\kindOf (ZX s).2≠0/\kindOf (ZX s).2<k then (ZX s).1 else []
theorem Zvj(s:Str):kR s 1=0/\rR s 1=[]:=by
 unfold kR rR;rw [if_neg o_,if_neg o_];exact ⟨rfl,rfl⟩
theorem Zsi{s:Str}{k:Nat}(h1:1<=k)(hn:(ZX s).1≠[])(hk:kindOf (ZX s).2=k):kR s (k+1)=k/\rR s (k+1)=(ZX s).1:=by
 unfold kR rR;rw [if_pos ⟨hn,o_,o_⟩,if_pos ⟨hn,o_,o_⟩];exact ⟨hk,rfl⟩
theorem ZvY{s:Str}{k:Nat}(h:¬((ZX s).1≠[]/\kindOf (ZX s).2=k)):kR s (k+1)=kR s k/\rR s (k+1)=rR s k:=by
 unfold kR rR
 have:((ZX s).1≠[]/\kindOf (ZX s).2≠0/\kindOf (ZX s).2<k+1)↔((ZX s).1≠[]/\kindOf (ZX s).2≠0/\kindOf (ZX s).2<k):=by
  constructor
  ·rintro ⟨a,b,c⟩
   refine ⟨a,b,?_⟩
   have:kindOf (ZX s).2≠k:=fun e=>h ⟨a,e⟩
   omega
  ·rintro ⟨a,b,c⟩;exact ⟨a,b,o_⟩
 constructor<;>(split<;>split<;>first|rfl|(rename_i a b;exact absurd (this.1 a) b)|(rename_i a b;exact absurd (this.2 b) a))
theorem Zvp(s:Str):(kR s 5=0/\Zt s=0)\/(kR s 5≠0/\kR s 5=kindOf (ZX s).2/\rR s 5=(ZX s).1):=by
 by_cases h:(ZX s).1≠[]/\kindOf (ZX s).2≠0
 ·have h5:kindOf (ZX s).2<5:=by have:=ZfL (ZX s).2;omega
  refine .inr ?_;unfold kR rR;rw [if_pos ⟨h.1,h.2,h5⟩,if_pos ⟨h.1,h.2,h5⟩];exact ⟨h.2,rfl,rfl⟩
 ·refine .inl ⟨?_,?_⟩
  ·unfold kR;rw [if_neg (fun q=>h ⟨q.1,q.2.1⟩)]
  ·unfold Zt
   split
   ·rename_i hc
    by_cases h0:(ZX s).1=[]
    ·rw [h0] at hc;exact absurd rfl hc.2.1
    ·by_cases h2:kindOf (ZX s).2=0
     ·exact h2
     ·exact absurd ⟨h0,h2⟩ h
   ·rfl
theorem Zvy{s:Str}(hl:s.length<=60)(hk:kR s 5≠0)(he:kR s 5=kindOf (ZX s).2)(p i:Str)(f:Bool)(hp:cutAt (ZX s).1=(p,i,f)) :
  (p=[]\/Jl (p++i)=false->ofS s=ZkB)/\(p≠[]->Jl (p++i)=true->ofS s=⟨kR s 5,p,i,f⟩):=by
 have hb:Jl (p++i)=(Jl p&&Jl i):=by unfold Jl;rw [List.all_append]
 unfold ofS Zt;rw [hp];simp only;constructor
 ·intro h
  rw [if_pos];rw [if_neg];rintro ⟨_,h1,h2,h3⟩;rcases h with h|h
  ·exact h1 h
  ·rw [hb,h2,h3] at h;cases h
 ·intro h1 h2
  rw [hb,Bool.and_eq_true] at h2;have hc:(if s.length<=60/\p≠[]/\Jl p=true/\Jl i=true then kindOf (ZX s).2 else 0)=kR s 5:=by
   rw [if_pos ⟨hl,h1,h2.1,h2.2⟩,he]
  rw [hc,if_neg hk]
theorem ZnY(a b:Str)(h:a.contains 64=false):cutAt (a++64::b)=(a,b,true):=by
 induction a with
 |nil=>rfl
 |cons c r ih=>
  rw [List.contains_cons,Bool.or_eq_false_iff] at h;have hc:(c==64)=false:=by rw [c11_] at h⊢;exact fun e=>h.1 e.symm
  rw [c12_];unfold cutAt;rw [if_neg (by rw [hc];decide),ih h.2]
theorem Zs0(a:Str)(h:a.contains 64=false):cutAt a=(a,[],false):=by
 induction a with
 |nil=>rfl
 |cons c r ih=>
  rw [List.contains_cons,Bool.or_eq_false_iff] at h;have hc:(c==64)=false:=by rw [c11_] at h⊢;exact fun e=>h.1 e.symm
  unfold cutAt;rw [if_neg (by rw [hc];decide),ih h.2]
def Zjv(c:UInt8):Bool:=Yi c||(isDigit c||(c==58||(c==95||c==46)))
def Yd:Str->Option Str
 |[]=>some []
 |c::t=>
  if c=45 then (Yd t).map fun r=>47::r
  else if Zjv c=true then (Yd t).map fun r=>c::r
  else match c,t with
   |92,120::a::b::u=>match Jh [a,b] with
    |none=>none
    |some d=>(Yd u).map fun r=>d::r
   |_,_=>none
def Qb(unit:Str)(c:UInt8):Option Str:=
 if c=37 then some [37]
 else if c=110 then some unit
 else if c=78 then some (ZX unit).1
 else if c=112 then some (ofS unit).pre
 else if c=105 then some (ofS unit).inst
 else if c=73 then some ((Yd (ofS unit).inst).getD (ofS unit).inst)
 else none
def Jp(unit:Str):Str->Option Str
 |[]=>some []
 |[c]=>if c=37 then none else some [c]
 |c::d::t=>
  if c=37 then (match Qb unit d with
   |none=>none
   |some x=>(Jp unit t).map fun r=>x++r)
  else (Jp unit (d::t)).map fun r=>c::r
def Qq(s unit:Str):Except Int Str:=if Zt unit=0 then .error 5 else match Jp unit s with|none=>.error 14|some r=>.ok r
abbrev Zar:=Bool×List Str
inductive UC where
 |s (x:Str)
 |n (x:Int)
 |b (x:Bool)
 |ss (l:List Str)
 |ns (l:List Int)
 |rs (l:List (Int×Str))
 |cs (l:List Zar)
 |ps (l:List (Str×Str))
deriving DecidableEq
namespace UC
def str:UC->Str|.s x=>x|_=>[]
def num:UC->Int|.n x=>x|_=>0
def strs:UC->List Str|.ss l=>l|_=>[]
def nums:UC->List Int|.ns l=>l|_=>[]
def rels:UC->List (Int×Str)|.rs l=>l|_=>[]
def cmds:UC->List Zar|.cs l=>l|_=>[]
def prs:UC->List (Str×Str)|.ps l=>l|_=>[]
def len:UC->Nat
 |.ss l=>l.length
 |.ns l=>l.length
 |.rs l=>l.length
 |.cs l=>l.length
 |.ps l=>l.length
 |_=>0
end UC
abbrev UV:=Nat->UC
def UV.upd(u:UV)(i:Nat)(c:UC):UV:=fun j=>if j=i then c else u j
theorem UV.upd_at(u:UV)(i:Nat)(c:UC):u.upd i c i=c:=by unfold UV.upd;rw [if_pos rfl]
theorem UV.upd_ne(u:UV){i j:Nat}(c:UC)(h:j≠i):u.upd i c j=u j:=by unfold UV.upd;rw [if_neg h]
theorem UV.upd_same(u:UV)(i:Nat)(c d:UC):(u.upd i c).upd i d=u.upd i d:=by
 funext k;unfold UV.upd;by_cases h1:k=i
 ·rw [if_pos h1,if_pos h1]
 ·rw [if_neg h1,if_neg h1,if_neg h1]
def ZK:UV:=fun i=>
 if i=1\/i=5\/i=6\/i=7\/i=14\/i=15\/i=16\/i=17\/i=22 then .n 0
 else if i=3\/i=13\/i=29 then .b false
 else if i=4 then .rs []
 else if i=8\/i=9\/i=10\/i=11\/i=12 then .cs []
 else if i=18\/i=21\/i=25\/i=26\/i=27 then .ns []
 else if i=19 then .ps []
 else if i=20\/i=28\/i=30\/i=31\/i=32\/i=33 then .ss []
 else .s []
def Zw(unit:Str):UV:=
 if Zt unit=0 then ZK else
  let u:=((((ZK.upd 0 (.s unit)).upd 1 (.n (Zt unit:Nat))).upd 3 (.b true)).upd 5 (.n 10)).upd 6 (.n 5)
  if Zt unit=1 then (((u.upd 7 (.n 1)).upd 14 (.n 1)).upd 16 (.n 90)).upd 17 (.n 90)
  else if Zt unit=2 then u.upd 22 (.n 16)
  else u
def ZL(key:Str):Nat:=List.idxOf key [[82,101,113,117,105,114,101,115],[87,97,110,116,115],[82,101,113,117,105,115,105,116,101],[66,105,110,100,115,84,111],[80,97,114,116,79,102],[67,111,110,102,108,105,99,116,115],[66,101,102,111,114,101],[65,102,116,101,114],[79,110,70,97,105,108,117,114,101]] % 9+(if key∈([[82,101,113,117,105,114,101,115],[87,97,110,116,115],[82,101,113,117,105,115,105,116,101],[66,105,110,100,115,84,111],[80,97,114,116,79,102],[67,111,110,102,108,105,99,116,115],[66,101,102,111,114,101],[65,102,116,101,114],[79,110,70,97,105,108,117,114,101]]:List Str) then 1 else 0)
def Xw{α:Type}[DecidableEq α](l some_:List α):List α:=if some_=[] then [] else some_.foldl (fun l x=>if x∈l then l else l++[x]) l
def Xf{α:Type}(l:List α)(v:Str)(x:α):List α:=if v=[] then [] else l++[x]
def Xa(l:List (Str×Str)):List (Str×Str)->List (Str×Str)
 |[]=>l
 |p::t=>Xa (l.filter (fun x=>x.1 !=p.1)++[p]) t
def ZW(name:Str)(rel:Int):List (Int×Str)->List Str->List (Int×Str)
 |l,[]=>l
 |l,s::t=>ZW name rel (if s≠name/\(rel,s)∉l then l++[(rel,s)] else l) t
def ZkT:List (Str×Nat):=[([68,101,115,99,114,105,112,116,105,111,110],2),([68,101,102,97,117,108,116,68,101,112,101,110,100,101,110,99,105,101,115],3),([83,116,97,114,116,76,105,109,105,116,73,110,116,101,114,118,97,108,83,101,99],5),([83,116,97,114,116,76,105,109,105,116,66,117,114,115,116],6),([84,121,112,101],7),([69,120,101,99,83,116,97,114,116,80,114,101],8),([69,120,101,99,83,116,97,114,116],9),([69,120,101,99,83,116,97,114,116,80,111,115,116],10),([69,120,101,99,83,116,111,112],11),([69,120,101,99,82,101,108,111,97,100],12),([82,101,109,97,105,110,65,102,116,101,114,69,120,105,116],13),([82,101,115,116,97,114,116],14),([82,101,115,116,97,114,116,83,101,99],15),([84,105,109,101,111,117,116,83,116,97,114,116,83,101,99],16),([84,105,109,101,111,117,116,83,116,111,112,83,101,99],17),([83,117,99,99,101,115,115,69,120,105,116,83,116,97,116,117,115],18),([69,110,118,105,114,111,110,109,101,110,116],19),([83,111,99,107,101,116,115],20),([76,105,115,116,101,110,83,116,114,101,97,109],21),([66,97,99,107,108,111,103],22),([70,105,108,101,68,101,115,99,114,105,112,116,111,114,78,97,109,101],23),([83,101,114,118,105,99,101],24),([85,110,105,116],24),([79,110,66,111,111,116,83,101,99],25),([79,110,65,99,116,105,118,101,83,101,99],26),([79,110,85,110,105,116,73,110,97,99,116,105,118,101,83,101,99],27),([79,110,67,97,108,101,110,100,97,114],28),([80,101,114,115,105,115,116,101,110,116],29),([87,97,110,116,101,100,66,121],30),([82,101,113,117,105,114,101,100,66,121],31),([65,108,105,97,115],32),([65,108,115,111],33),([68,101,102,97,117,108,116,73,110,115,116,97,110,99,101],34)]
def Zb(key:Str):Nat:=match ZkT.find? (fun p=>p.1==key) with|some p=>p.2|none=>4
def Js(v:Str):Bool:=v==[121,101,115]||(v==[116,114,117,101]||v==[49])
def Xk:List Str->Str->Nat->Int
 |[],_,_=>-1
 |x::t,s,i=>if x=s then (i:Int) else Xk t s (i+1)
def Zl(name:Str)(k:ZE)(v:Str)(c:UC):UC:=
 if k.form=1\/k.form=5 then .s v
 else if k.form=2 then .b (Js v)
 else if k.form=3 then .n (Xd v).1
 else if k.form=10 then .n (Xk k.words v 0+1)
 else if k.form=7 then .cs (Xf c.cmds v ((XU v).getD (false,[])))
 else if k.form=8 then .ps (Xa (if v=[] then [] else c.prs) (Zay v).1)
 else if k.form=9 then .ss (Xf c.strs v v)
 else if k.form=11 then .ns (Xw c.nums ((Zg v).map fun w=>(Xd w).1))
 else if k.form=4 then (if k.list then .ns (Xf c.nums v (YF v).1) else .n (YF v).1)
 else if ZL k.name=0 then .ss (Xw c.strs (Zg v))
 else .rs (ZW name (ZL k.name:Nat) (if v=[] then c.rels.filter (fun r=>r.1 !=(ZL k.name:Nat)) else c.rels) (Zg v))
def Qh(k:ZE)(v:Str):Bool:=
 if k.form=5 then (k.name !=[83,101,114,118,105,99,101]||Zt v==1)
 else if k.form=11 then (k.name !=[76,105,115,116,101,110,83,116,114,101,97,109]||!((Zg v).any fun w=>(Xd w).1==0))
 else true
def QY:List Nat:=[8,9,10,11,12,18,19,20,21,25,26,27,28,30,31,32,33]
def Xv(u:UV):Bool:=decide (64<(u 4).len)||QY.any fun i=>decide (16<(u i).len)
def Xi(name:Str)(kind:Int)(u:UV)(x:Ln):Except Int UV:=
 match Qq x.val name with
 |.error e=>.error e
 |.ok v=>
  if lnS kind { x with val:=v }≠0 then .error (lnS kind { x with val:=v })
  else match findKey x.sec x.key with
   |none=>.error 11
   |some k=>
    if Qh k v=false then .error 12
    else if Xv (u.upd (Zb k.name) (Zl name k v (u (Zb k.name))))=true then .error 2
    else .ok (u.upd (Zb k.name) (Zl name k v (u (Zb k.name))))
def Z9(name:Str)(kind:Int):UV->List Ln->Except (Int×Int) UV
 |u,[]=>.ok u
 |u,x::t=>match Xi name kind u x with
  |.error e=>.error (e,x.at_)
  |.ok r=>Z9 name kind r t
def QO(kind:Int)(u:UV):Int:=
 if (kind=1/\(u 9).len=0)\/(kind=2/\(u 21).len=0)\/(kind=3/\(u 25).len+(u 26).len+(u 27).len+(u 28).len=0) then 6
 else if kind=1/\(u 7).num≠2/\1<(u 9).len then 7
 else 0
def Yn(name:Str)(l:List Ln):UV×(Int×Int):=
 if Zt name=0\/Zd7 name=true then (ZK,(5,0))
 else match Z9 name (Zt name:Nat) (Zw name) l with
  |.error e=>(ZK,e)
  |.ok u=>if QO (Zt name:Nat) u≠0 then (ZK,(QO (Zt name:Nat) u,0)) else (u,(0,0))
open Go Go.RowKit
set_option maxRecDepth 100000
theorem m58_{p:Prop}(h:p:=by rw [JM base t ty e i size ht hi _ _ xs hown c] at hr;injection hr with hr _;rw [<-hr]):p:=h
theorem ZkE{P:Program}{w w':World}(base:Nat)(t ty e:TypeId)(i:TypeInfo)(z:Value)(size bytes:Nat)(ht:P.underlying t=some (.slice e))(hi:P.info? e=some i)(hz:i.zero=some z)
  (hsize:i.size=size) (hby:i.bytes=bytes) (hzs:z.cells.size=size) (hsz:0<size)
  (v v':Value) (n:Nat) (xs:List Value) (hown:w.ownsRow base e size v n xs) (oa:Option Addr) (m c:Nat) (news:List Value) (hl:news.length=m*size)
  (hc:∀j u,news[j]?=some u->∃b o,oa=some ⟨b,o,none⟩/\w.cell? ⟨b,o+j,none⟩=some u) (h1:∀u∈news,u.oneCell'=true)
  (h63:n+m<=maxLen) (hbytes:(n+m)*bytes<=140737488355328) (hr:(Builtin.append_ #[t,t] ty #[v,.slice oa m c]).run P w=.ok v' w') :
  v'.ownBlock=v.ownBlock\/v'.ownBlock=some w.heap.size:=by
 have hsmall:n+m<=9223372036854775807:=by simp only [maxLen] at h63;omega
 by_cases hm:news=[]
 ·subst hm
  have hm0:m=0:=by
   rcases Nat.eq_zero_or_pos m with h|h
   ·exact h
   ·have:=Nat.mul_pos h hsz;simp at hl;omega
  subst hm0;left;rcases hown.2 with ⟨rfl,rfl⟩|⟨g,cap,cur,rfl,_,hg,hnc,hcm,hcs,ht'⟩
  ·cases oa with
   |none=>
    exact m58_
   |some a=>
    have:(Builtin.append_ #[t,t] ty #[.slice none 0 0,.slice (some a) 0 c]).run P w=.ok (.slice none 0 0) w:=by
     simp [Builtin.append_,run_underlying ht,sizeOf,typeInfo,hi,Builtin.lenOf,Builtin.firstCells,loadCells,loadCellsFrom]
    rw [this] at hr;injection hr with hr _;rw [<-hr]
  ·cases oa with
   |none=>
    exact m58_
   |some a=>
    subst hsize
    have:=run_append_room (P:=P) w t ty e i ht hi g n cap cur hg a 0 c [] s_ s_ s_ o_ (by simp;rw [hcs];exact Nat.mul_le_mul_right _ hnc)
    rw [this] at hr;injection hr with hr _;rw [<-hr];rfl
 ·obtain ⟨u,r,rfl⟩:∃u r,news=u::r:=by
   cases news with
   |nil=>exact absurd rfl hm
   |cons u r=>exact ⟨u,r,rfl⟩
  obtain ⟨b,o,e1,_⟩:=hc 0 u rfl;subst e1;have hadd:∀j,(⟨b,o,none⟩:Addr).add j=⟨b,o+j,none⟩:=by intro j;unfold Addr.add;split<;>simp_all
  have hnews:∀j x,(u::r)[j]?=some x->w.cell? ((⟨b,o,none⟩:Addr).add j)=some x:=by
   intro j x hx;obtain ⟨b',o',e2,h5⟩:=hc j x hx;injection e2 with e2;injection e2 with e3 e4;subst e3;subst e4
   rw [hadd];exact h5
  have hmp:0<m:=by
   rcases Nat.eq_zero_or_pos m with h|h
   ·subst h;simp at hl
   ·exact h
  subst hsize;subst hby;rcases hown.2 with ⟨rfl,rfl⟩|⟨g,cap,cur,rfl,_,hg,hnc,hcm,hcs,htake⟩
  ·have:=run_append_nil (P:=P) w t ty e i z ht hi hz ⟨b,o,none⟩ m c (u::r) hl hnews o_ o_ (by have hb:=hbytes;simp only [Nat.zero_add] at hb;omega)
   rw [this] at hr;injection hr with hr _;rw [<-hr]
   right;rfl
  ·by_cases hroom:n+m<=cap
   ·have hfit:n*i.size+(u::r).length<=cur.size:=by rw [hl,hcs,<-Nat.add_mul];exact Nat.mul_le_mul_right _ hroom
    have:=run_append_room (P:=P) w t ty e i ht hi g n cap cur hg ⟨b,o,none⟩ m c (u::r) hl hnews h1 hroom hfit
    rw [this] at hr;injection hr with hr _;rw [<-hr]
    left;rfl
   ·have holds:∀j x,xs[j]?=some x->w.cell? ((⟨g,0,none⟩:Addr).add j)=some x:=hown.cells (g:=g) rfl
    have:=run_append_grow (P:=P) w t ty e i z ht hi hz ⟨g,0,none⟩ n cap xs hown.1 holds ⟨b,o,none⟩ m c (u::r) hl hnews o_ o_ (growslice_fits o_ hbytes)
    rw [this] at hr;injection hr with hr _;rw [<-hr]
    right;rfl
def XK(l:List Int):List Value:=l.map fun n=>.int .i64 n
theorem Ziv(l:List Int):(XK l).length=l.length:=by simp [XK]
def JK(r:Int×Str):List Value:=[.int .i64 r.1,.string ⟨r.2.toArray⟩]
structure Zdy where
 dash:Bool
 wa:Option Addr
 wn:Nat
 wc:Nat
def Zi6(x:Zdy):List Value:=[.bool x.dash,.slice x.wa x.wn x.wc]
structure ZcM(w:World)(F:Nat->Prop)(x:Zdy)(c:Zar):Prop where
 dash:x.dash=c.1
 wn:x.wn=c.2.length
 row:w.ownsRow 0 9 1 (.slice x.wa x.wn x.wc) x.wn (Zh c.2)
 inF:∀g,(Value.slice x.wa x.wn x.wc).ownBlock=some g->F g
def Y5(w:World)(F:Nat->Prop):UC->Value->Prop
 |.s x,v=>v=.string ⟨x.toArray⟩
 |.n x,v=>v=.int .i64 x
 |.b x,v=>v=.bool x
 |.ss l,v=>w.ownsRow 0 9 1 v l.length (Zh l)/\∀g,v.ownBlock=some g->F g
 |.ns l,v=>w.ownsRow 0 3 1 v l.length (XK l)/\∀g,v.ownBlock=some g->F g
 |.rs l,v=>w.ownsRow 0 47 2 v l.length (Zx JK l)/\∀g,v.ownBlock=some g->F g
 |.ps l,v=>w.ownsRow 0 64 2 v l.length (Zx Qu l)/\∀g,v.ownBlock=some g->F g
 |.cs l,v=>∃xs:List Zdy,xs.length=l.length/\w.ownsRow 0 49 2 v l.length (Zx Zi6 xs)/\(∀g,v.ownBlock=some g->F g)/\∀i (h1:i<xs.length) (h2:i<l.length),ZcM w F xs[i] l[i]
theorem Zfx{w w':World}{B k n:Nat}{e:TypeId}{v:Value}{xs:List Value}{M F:Nat->Prop}(h:w.ownsRow B e k v n xs)(hF:∀g,v.ownBlock=some g->F g)(hf:Fr M w w')(hM:∀g,F g->¬M g):w'.ownsRow B e k v n xs:=
 Z4 h hf fun g hg _=>hM g (hF g hg)
theorem ZcM.fr{w w':World}{F M:Nat->Prop}{x:Zdy}{c:Zar}(h:ZcM w F x c)(hf:Fr M w w')(hM:∀g,F g->¬M g):ZcM w' F x c:=
 ⟨h.dash,h.wn,Zfx h.row h.inF hf hM,h.inF⟩
theorem ZcM.mono{w:World}{F F':Nat->Prop}{x:Zdy}{c:Zar}(h:ZcM w F x c)(hM:∀g,F g->F' g):ZcM w F' x c:=
 ⟨h.dash,h.wn,h.row,fun g hg=>hM g (h.inF g hg)⟩
theorem Y5.fr{w w':World}{F M:Nat->Prop}:∀{c:UC} {v:Value},Y5 w F c v->Fr M w w'->(∀g,F g->¬M g)->Y5 w' F c v
 |.s _,_,h,_,_=>h
 |.n _,_,h,_,_=>h
 |.b _,_,h,_,_=>h
 |.ss _,_,h,hf,hM=>⟨Zfx h.1 h.2 hf hM,h.2⟩
 |.ns _,_,h,hf,hM=>⟨Zfx h.1 h.2 hf hM,h.2⟩
 |.rs _,_,h,hf,hM=>⟨Zfx h.1 h.2 hf hM,h.2⟩
 |.ps _,_,h,hf,hM=>⟨Zfx h.1 h.2 hf hM,h.2⟩
 |.cs _,_,⟨xs,a,b,c,d⟩,hf,hM=>⟨xs,a,Zfx b c hf hM,c,fun i h1 h2=>(d i h1 h2).fr hf hM⟩
theorem Y5.mono{w:World}{F F':Nat->Prop}:∀{c:UC} {v:Value},Y5 w F c v->(∀g,F g->F' g)->Y5 w F' c v
 |.s _,_,h,_=>h
 |.n _,_,h,_=>h
 |.b _,_,h,_=>h
 |.ss _,_,h,hM=>⟨h.1,fun g hg=>hM g (h.2 g hg)⟩
 |.ns _,_,h,hM=>⟨h.1,fun g hg=>hM g (h.2 g hg)⟩
 |.rs _,_,h,hM=>⟨h.1,fun g hg=>hM g (h.2 g hg)⟩
 |.ps _,_,h,hM=>⟨h.1,fun g hg=>hM g (h.2 g hg)⟩
 |.cs _,_,⟨xs,a,b,c,d⟩,hM=>⟨xs,a,b,fun g hg=>hM g (c g hg),fun i h1 h2=>(d i h1 h2).mono hM⟩
structure Y7(w:World)(U:Nat)(cs:Array Value)(F:Nat->Nat->Prop)(u:UV):Prop where
 box:w.heap[U]?=some (.cells cs 28 (0,0))
 size:cs.size=35
 fld:∀j v,cs[j]?=some v->Y5 w (F j) (u j) v
 apart:∀i j k,F i k->F j k->i=j
 notU:∀j,¬F j U
 lt:∀j k,F j k->U<k/\k<w.heap.size
def Zq(w w':World)(U:Nat)(cs:Array Value)(j:Nat)(Fj:Nat->Prop)(c:UC):Prop:=
 ∃v F',w'.heap[U]?=some (.cells (cs.setIfInBounds j v) 28 (0,0))/\Y5 w' F' c v/\Fr (fun k=>k=U\/Fj k) w w'/\∀k,F' k->(Fj k\/w.heap.size<=k)/\k<w'.heap.size
theorem Y7.put{w w':World}{U:Nat}{cs:Array Value}{F:Nat->Nat->Prop}{u:UV}{j:Nat}{c:UC}(h:Y7 w U cs F u)(hj:j<35)(hp:Zq w w' U cs j (F j) c) :
  ∃cs' F',Y7 w' U cs' F' (u.upd j c)/\Fr (fun k=>k=U\/U<k) w w'/\cs'[0]?=(if j=0 then cs'[0]? else cs[0]?)/\cs'[1]?=(if j=1 then cs'[1]? else cs[1]?):=by
 obtain ⟨v,Fj,h1,h2,h3,h4⟩:=hp;have hU:=Zd h.box;refine ⟨cs.setIfInBounds j v,fun i=>if i=j then Fj else F i,⟨h1,by simp [h.size],?_,?_,?_,?_⟩,?_,?_,?_⟩
 ·intro i x hx
  by_cases e:i=j
  ·subst e
   rw [c15_ (by rw [h.size];exact hj)] at hx;injection hx with hx
   subst hx;rw [UV.upd_at,if_pos rfl];exact h2
  ·rw [c13_ (fun x=>e x.symm)] at hx
   rw [UV.upd_ne _ _ e,if_neg e];refine (h.fld i x hx).fr h3 ?_;rintro g hg (rfl|hg2)
   ·exact h.notU i hg
   ·exact e (h.apart i j g hg hg2)
 ·intro i k q hi hk
  by_cases e1:i=j
  ·subst e1
   by_cases e2:k=i
   ·exact e2.symm
   ·rw [if_pos rfl] at hi
    rw [if_neg e2] at hk;rcases (h4 q hi).1 with h5|h5
    ·exact h.apart i k q h5 hk
    ·have:=(h.lt k q hk).2;omega
  ·rw [if_neg e1] at hi
   by_cases e2:k=j
   ·subst e2
    rw [if_pos rfl] at hk;rcases (h4 q hk).1 with h5|h5
    ·exact h.apart i k q hi h5
    ·have:=(h.lt i q hi).2;omega
   ·rw [if_neg e2] at hk
    exact h.apart i k q hi hk
 ·intro i hi
  by_cases e1:i=j
  ·subst e1
   rw [if_pos rfl] at hi;rcases (h4 U hi).1 with h5|h5
   ·exact h.notU i h5
   ·omega
  ·rw [if_neg e1] at hi
   exact h.notU i hi
 ·intro i k hk
  by_cases e1:i=j
  ·subst e1
   rw [if_pos rfl] at hk;refine ⟨?_,(h4 k hk).2⟩;rcases (h4 k hk).1 with h5|h5
   ·exact (h.lt i k h5).1
   ·omega
  ·rw [if_neg e1] at hk
   exact ⟨(h.lt i k hk).1,c16_ (h.lt i k hk).2 h3.size⟩
 ·refine h3.mono ?_
  rintro k hk (rfl|h5)
  ·exact .inl rfl
  ·exact .inr (h.lt j k h5).1
 ·by_cases e:j=0
  ·rw [if_pos e]
  ·rw [if_neg e,c13_ e]
 ·by_cases e:j=1
  ·rw [if_pos e]
  ·rw [if_neg e,c13_ e]
theorem Y7.fr{w w':World}{U:Nat}{cs:Array Value}{F:Nat->Nat->Prop}{u:UV}{M:Nat->Prop}(h:Y7 w U cs F u)(hf:Fr M w w')(hU:¬M U)(hM:∀j k,F j k->¬M k):Y7 w' U cs F u:=
 ⟨hf.heap h.box hU,h.size,fun j v hv=>(h.fld j v hv).fr hf (hM j),h.apart,h.notU,fun j k hk=>⟨(h.lt j k hk).1,c16_ (h.lt j k hk).2 hf.size⟩⟩
theorem Y7.below{w w':World}{U:Nat}{cs:Array Value}{F:Nat->Nat->Prop}{u:UV}(h:Y7 w U cs F u)(hb:Below w.heap.size w w'):Y7 w' U cs F u:=
 h.fr (M:=fun _=>False) (Fr.of_below hb _) (fun e=>e) (fun _ _ _ e=>e)
theorem Zq.below{w w1 w':World}{U:Nat}{cs:Array Value}{j:Nat}{Fj:Nat->Prop}{c:UC}(hb:Below w.heap.size w w1)(h:Zq w1 w' U cs j Fj c):Zq w w' U cs j Fj c:=by
 obtain ⟨v,F',h1,h2,h3,h4⟩:=h;refine ⟨v,F',h1,h2,(Fr.of_below hb _).trans h3,fun k hk=>⟨(h4 k hk).1.imp id (fun h=>Nat.le_trans hb.size h),(h4 k hk).2⟩⟩
theorem Zq.after{w w1 w':World}{U:Nat}{cs:Array Value}{j:Nat}{Fj:Nat->Prop}{c:UC}(h:Zq w w1 U cs j Fj c)(hb:Below w1.heap.size w1 w'):Zq w w' U cs j Fj c:=by
 obtain ⟨v,F',h1,h2,h3,h4⟩:=h;refine ⟨v,F',Za h1 hb,h2.fr (M:=fun _=>False) (Fr.of_below hb _) (fun _ _ e=>e),h3.trans (Fr.of_below hb _),fun k hk=>⟨(h4 k hk).1,c16_ (h4 k hk).2 hb.size⟩⟩
open Go.Proofs.Tryz
theorem ZvX(x y:Int×Str)(w:World):(Op.equalIn 10000 47 (.agg #[.int .i64 x.1,.string ⟨x.2.toArray⟩]) (.agg #[.int .i64 y.1,.string ⟨y.2.toArray⟩])).run prog w=.ok (decide (x=y)) w:=by
 have u3:=underlying3;have u9:=underlying9;have a3:=isAgg3;have z3:=sizeOf3;have a9:=isAgg9;have z9:=sizeOf9;have hS:prog.underlying 47=some (.struct (prog.fieldsOf 47)):=k_;have hp:prog.stoodInHeld 47=false:=k_;rw [show (10000:Nat)=9999+1 from rfl,run_equalIn_agg w 9999 47 _ _ hS hp];simp only [Program.fieldsOf,underlying47];go_simp;obtain ⟨x1,x2⟩:=x;obtain ⟨y1,y2⟩:=y;by_cases h1:x1=y1<;>by_cases h2:x2=y2<;>simp [h1,h2]
theorem ZhW(x y:Int×Str)(b:Bool)(h:decide (x=y)=b)(w:World):(binOp .eql 47 (.agg #[.int .i64 x.1,.string ⟨x.2.toArray⟩]) (.agg #[.int .i64 y.1,.string ⟨y.2.toArray⟩])).run prog w=.ok (.bool b) w:=by
 rw [run_eql_struct,ZvX,h];rfl
theorem Zik(x y:Int×Str)(b:Bool)(h:decide (x=y)=b)(w:World):(binOp .neq 47 (.agg #[.int .i64 x.1,.string ⟨x.2.toArray⟩]) (.agg #[.int .i64 y.1,.string ⟨y.2.toArray⟩])).run prog w=.ok (.bool !b) w:=by
 rw [run_neq_struct,ZvX,h];rfl
theorem Zup:prog.eqGuardType prog.depth 47=false:=k_
theorem ZcB(op:BinOp)(x y:Operand)(xs ys:Array Value)(w:World):(eqGuard op 47 x y (.agg xs) (.agg ys)).run prog w=.ok () w:=run_eqGuard_agg w op _ x y xs ys Zup
def Zve(w:World)(b:Bool)(e:Ending)(w':World):Prop:=∃i:Int,e=.returned (.int .i64 i)/\decide (0<=i)=b/\Below w.heap.size w w'
theorem Zl0(v:Value)(l:List (Int×Str))(x:Int×Str)(w:World)(hr:Zew JK 2 w v l)(hl:l.length<4611686018427387904)(b:Bool)(hb:l.contains x=b) :
  Calls prog 271 #[v,.agg #[.int .i64 x.1,.string ⟨x.2.toArray⟩]] w fun e w'=>Zve w b e w':=by
 obtain ⟨oa,cap,rfl,hrow⟩:=hr.ex;have HB0:=h_ ((Below.refl w.heap.size w).alloc l_ (.cells #[.int .i64 x.1,.string ⟨x.2.toArray⟩] 47));have HX:=h_ (heap_alloc_new w (.cells #[.int .i64 x.1,.string ⟨x.2.toArray⟩] 47));have HR:=h_ hrow;have HC:=h_ hb;clear hr hrow hb;go_enter func271,ntmps271;go_wp2_with fail;generalize w.alloc (.cells #[.int .i64 x.1,.string ⟨x.2.toArray⟩] 47)=w1 at *;go_loopg [8] (l.length+1) (fun f i wr=>∃k:Nat,k<=l.length/\i=.int .i64 k/\l.length-k<f/\Hid ((l.take k).contains x=false)/\∃n,wr=w1.drewN n)
 case atStart=>exact ⟨0,o_,rfl,o_,h_ s_,0,rfl⟩
 case round=>
  obtain ⟨k,hk,rfl,hf,Hno,n,rfl⟩:=hrel;by_cases hlt:k<l.length
  ·obtain ⟨b1,o1,rfl,hlt1,hcc⟩:=(HR.out.below HB0.out) k hlt
   obtain ⟨y,hy⟩:=e_ (l[k]);rw [<-hy] at hcc;have d0:=hcc 0 _ rfl;have d1:=hcc 1 _ rfl;simp only [Nat.add_zero] at d0;obtain ⟨cc,-,-,-⟩:=rd HX.out;have c0:=cc 0;have c1:=cc 1;simp only [c1_,c2_,c3_] at c0 c1;have i5:(k:Int)<(l.length:Int):=o_;have hgd:=ZcB;cases hq:decide (x=y) with
   |true=>
    have hrun:=ZhW x y true hq;have HT:=h_ (show b=true by
     rw [<-HC.out,List.contains_iff_mem,of_decide_eq_true hq,hy];exact List.getElem_mem _)
    have HB1:=h_ (fun n=>HB0.out.trans (Ze (B:=w.heap.size) (a:=w1) (b:=w1.drewN n) ⟨n,rfl⟩));clear hq hy hcc cc;go_wp2_with fail;go_quiet (fail);go_wp2_with fail;go_ret;exact ⟨_,rfl,by rw [HT.out];simp,by first|exact HB1.out _|(rw [dn2];exact HB1.out _)⟩
   |false=>
    have hrun:=ZhW x y false hq;have HN:=h_ (show (l.take (k+1)).contains x=false by
     rw [c4_ hlt,List.contains_append,Hno.out,<-hy];simp;exact of_decide_eq_false hq)
    clear hq hy hcc cc;go_wp2_with fail;go_quiet (fail);go_wp2_with fail;go_roundg (l.length-k)
    case measure=>omega
    case rel=>exact ⟨k+1,o_,n9_,o_,HN,n19_⟩
  ·have HT:=h_ (show b=false by
    have:=Hno.out
    rw [c9_ o_] at this;rw [<-HC.out,this])
   have HB1:=h_ (HB0.out.trans (Ze (B:=w.heap.size) (a:=w1) (b:=w1.drewN n) ⟨n,rfl⟩));go_wp2_with fail;go_ret;exact ⟨_,rfl,by rw [HT.out];rfl,HB1.out⟩
theorem Zdk(v:Value)(l:List (Int×Str))(x:Int×Str)(w:World)(hr:Zew JK 2 w v l)(hl:l.length<4611686018427387904)(b:Bool)(hb:l.contains x=b) :
  Calls prog 219 #[v,.agg #[.int .i64 x.1,.string ⟨x.2.toArray⟩]] w fun e w'=>e=.returned (.bool b)/\Below w.heap.size w w':=by
 have hB:=(Below.refl w.heap.size w).alloc l_ (.cells #[.int .i64 x.1,.string ⟨x.2.toArray⟩] 47);have HI:=h_ (Zl0 v l x _ (hr.below hB) hl b hb);have HB:=h_ hB;obtain ⟨cc,-,-,-⟩:=rd (heap_alloc_new w (.cells #[.int .i64 x.1,.string ⟨x.2.toArray⟩] 47));have c0:=cc 0;have c1:=cc 1;simp only [c1_,c2_,c3_] at c0 c1;obtain ⟨oa,cap,rfl,-⟩:=hr.ex;clear cc hb hB hr;go_enter func219,ntmps219;go_wp2_with fail;refine HI.out.mono ?_;rintro e w' ⟨i,rfl,hi,hb1⟩;have H2:=h_ (HB.out.trans (hb1.mono HB.out.size));clear hb1;go_wp2_with fail;go_ret;exact ⟨by first|rfl|(rw [<-hi];rfl),H2.out⟩
end Go.Proofs.YtmgmbeipbeknaaaGreatDoor
