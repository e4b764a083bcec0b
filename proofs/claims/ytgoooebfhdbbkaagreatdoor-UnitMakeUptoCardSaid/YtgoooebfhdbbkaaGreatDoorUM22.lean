import Derived.Laws.StructEq
import Derived.Deep.QuietTactic
import Derived.BigQuiet
import Derived.Deep.LoopGhost
import Derived.Test.YtgoooebfhdbbkaaGreatDoorUM1
import Derived.Test.YtgoooebfhdbbkaaGreatDoorUM2
import Derived.Test.YtgoooebfhdbbkaaGreatDoorUM4
import Derived.Test.YtgoooebfhdbbkaaGreatDoorUM8
import Derived.Test.YtgoooebfhdbbkaaGreatDoorUM9
import Derived.Test.YtgoooebfhdbbkaaGreatDoorUM14
import Derived.Test.YtgoooebfhdbbkaaGreatDoorUM21
namespace Go.Proofs.YtgoooebfhdbbkaaGreatDoor
set_option linter.unusedVariables false
set_option linter.unusedSimpArgs false
set_option maxHeartbeats 16000000
structure Zo2 where
 kind:Nat
 pre:Str
 inst:Str
 at_:Bool
deriving DecidableEq
def ZfE:Zo2:=⟨0,[],[],false⟩
def ofS(s:Str):Zo2:=if Zw s=0 then ZfE else ⟨Zw s,(cutAt (ZG s).1).1,(cutAt (ZG s).1).2.1,(cutAt (ZG s).1).2.2⟩
def Zoz(c:Zo2)(k:Nat):Str:=(if c.at_ then c.pre++64::c.inst else c.pre)++46::Yt k
theorem Zd2(s:Str):(ofS s).kind=Zw s:=by
 unfold ofS;by_cases h:Zw s=0
 ·rw [if_pos h,h];rfl
 ·rw [if_neg h]
theorem Zgo:∀s:Str,(if (cutAt s).2.2 then (cutAt s).1++64::(cutAt s).2.1 else (cutAt s).1)=s
 |[]=>rfl
 |c::r=>by
  have:=Zgo r
  unfold cutAt;by_cases h:(c==64)=true
  ·rw [if_pos h];simp;exact (eq_of_beq h).symm
  ·rw [if_neg h]
   simp only;cases hq:(cutAt r).2.2<;>simp [hq] at this⊢<;> exact this
theorem Zgn(t:Str)(k:Nat)(h1:1<=k)(h4:k<=4):kindOf t=k↔t=Yt k:=by
 constructor
 ·intro h
  unfold kindOf at h;split at h
  ·subst h;assumption
  split at h
  ·subst h;assumption
  split at h
  ·subst h;assumption
  split at h
  ·subst h;assumption
  ·omega
 ·rintro rfl
  match k,h1,h4 with
  |1,_,_=>decide
  |2,_,_=>decide
  |3,_,_=>decide
  |4,_,_=>decide
theorem ZnI(k:Nat):(Yt k).contains 46=false:=by
 unfold Yt;repeat' split<;>first|decide|skip
theorem Zfs(k:Nat):(Yt k).length<=7:=by
 unfold Yt;repeat' split<;>first|decide|skip
theorem Zno(a:Str)(k:Nat):ZG (a++46::Yt k)=(a,Yt k):=by
 unfold ZG;rw [ZgA _ (ZnI k)];rfl
theorem ZkN{s:Str}{k:Nat}(h1:1<=k)(h4:k<=4)(hn:(ZG s).1≠[])(hk:kindOf (ZG s).2=k):s=(ZG s).1++46::Yt k:=by
 rw [Zgn _ k h1 h4] at hk;rw [<-hk];unfold ZG at *;rcases Zds s with ⟨h,_⟩|⟨a,b,h,h2,_⟩
 ·rw [h] at hn;exact absurd rfl hn
 ·rw [h];exact h2
theorem Zlj{s:Str}{k:Nat}(h1:1<=k)(h4:k<=4)(h:¬((ZG s).1≠[]/\kindOf (ZG s).2=k))(hl:(Yt k).length+1<s.length)(n:Nat)(hn:n+((Yt k).length+1)=s.length):s.drop n≠46::Yt k:=by
 intro e;apply h;have hs:s=s.take n++46::Yt k:=by rw [<-e,List.take_append_drop]
 rw [hs,Zno];refine ⟨?_,(Zgn _ k h1 h4).2 rfl⟩;intro e2
 have:(s.take n).length=0:=by rw [show s.take n=[] from e2];rfl
 rw [List.length_take] at this;omega
def kR(s:Str)(k:Nat):Nat:=if (ZG s).1≠[]/\kindOf (ZG s).2≠0/\kindOf (ZG s).2<k then kindOf (ZG s).2 else 0
def rR(s:Str)(k:Nat):Str:=if (ZG s).1≠[]/\kindOf (ZG s).2≠0/\kindOf (ZG s).2<k then (ZG s).1 else []
theorem Zq6(s:Str):kR s 1=0/\rR s 1=[]:=by
 unfold kR rR;rw [if_neg o_,if_neg o_];exact ⟨rfl,rfl⟩
theorem ZpB{s:Str}{k:Nat}(h1:1<=k)(hn:(ZG s).1≠[])(hk:kindOf (ZG s).2=k):kR s (k+1)=k/\rR s (k+1)=(ZG s).1:=by
 unfold kR rR;rw [if_pos ⟨hn,o_,o_⟩,if_pos ⟨hn,o_,o_⟩];exact ⟨hk,rfl⟩
theorem Zq8{s:Str}{k:Nat}(h:¬((ZG s).1≠[]/\kindOf (ZG s).2=k)):kR s (k+1)=kR s k/\rR s (k+1)=rR s k:=by
 unfold kR rR
 have:((ZG s).1≠[]/\kindOf (ZG s).2≠0/\kindOf (ZG s).2<k+1)↔((ZG s).1≠[]/\kindOf (ZG s).2≠0/\kindOf (ZG s).2<k):=by
  constructor
  ·rintro ⟨a,b,c⟩
   refine ⟨a,b,?_⟩
   have:kindOf (ZG s).2≠k:=fun e=>h ⟨a,e⟩
   omega
  ·rintro ⟨a,b,c⟩;exact ⟨a,b,o_⟩
 constructor<;>(split<;>split<;>first|rfl|(rename_i a b;exact absurd (this.1 a) b)|(rename_i a b;exact absurd (this.2 b) a))
theorem ZqK(s:Str):(kR s 5=0/\Zw s=0)\/(kR s 5≠0/\kR s 5=kindOf (ZG s).2/\rR s 5=(ZG s).1):=by
 by_cases h:(ZG s).1≠[]/\kindOf (ZG s).2≠0
 ·have h5:kindOf (ZG s).2<5:=by have:=Zcv (ZG s).2;omega
  refine .inr ?_;unfold kR rR;rw [if_pos ⟨h.1,h.2,h5⟩,if_pos ⟨h.1,h.2,h5⟩];exact ⟨h.2,rfl,rfl⟩
 ·refine .inl ⟨?_,?_⟩
  ·unfold kR;rw [if_neg (fun q=>h ⟨q.1,q.2.1⟩)]
  ·unfold Zw
   split
   ·rename_i hc
    by_cases h0:(ZG s).1=[]
    ·rw [h0] at hc;exact absurd rfl hc.2.1
    ·by_cases h2:kindOf (ZG s).2=0
     ·exact h2
     ·exact absurd ⟨h0,h2⟩ h
   ·rfl
theorem ZqO{s:Str}(hl:s.length<=60)(hk:kR s 5≠0)(he:kR s 5=kindOf (ZG s).2)(p i:Str)(f:Bool)(hp:cutAt (ZG s).1=(p,i,f)) :
  (p=[]\/Jb (p++i)=false->ofS s=ZfE)/\(p≠[]->Jb (p++i)=true->ofS s=⟨kR s 5,p,i,f⟩):=by
 have hb:Jb (p++i)=(Jb p&&Jb i):=by unfold Jb;rw [List.all_append]
 unfold ofS Zw;rw [hp];simp only;constructor
 ·intro h
  rw [if_pos];rw [if_neg];rintro ⟨_,h1,h2,h3⟩;rcases h with h|h
  ·exact h1 h
  ·rw [hb,h2,h3] at h;cases h
 ·intro h1 h2
  rw [hb,Bool.and_eq_true] at h2;have hc:(if s.length<=60/\p≠[]/\Jb p=true/\Jb i=true then kindOf (ZG s).2 else 0)=kR s 5:=by
   rw [if_pos ⟨hl,h1,h2.1,h2.2⟩,he]
  rw [hc,if_neg hk]
theorem ZlN(a b:Str)(h:a.contains 64=false):cutAt (a++64::b)=(a,b,true):=by
 induction a with
 |nil=>rfl
 |cons c r ih=>
  rw [List.contains_cons,Bool.or_eq_false_iff] at h;have hc:(c==64)=false:=by rw [beq_eq_false_iff_ne] at h⊢;exact fun e=>h.1 e.symm
  rw [List.cons_append];unfold cutAt;rw [if_neg (by rw [hc];decide),ih h.2]
theorem ZoY(a:Str)(h:a.contains 64=false):cutAt a=(a,[],false):=by
 induction a with
 |nil=>rfl
 |cons c r ih=>
  rw [List.contains_cons,Bool.or_eq_false_iff] at h;have hc:(c==64)=false:=by rw [beq_eq_false_iff_ne] at h⊢;exact fun e=>h.1 e.symm
  unfold cutAt;rw [if_neg (by rw [hc];decide),ih h.2]
theorem ZkR{s:Str}(h:Zw s≠0)(k:Nat):Zoz (ofS s) k=(ZG s).1++46::Yt k:=by
 unfold Zoz ofS;rw [if_neg h];simp only;rw [Zgo]
def ZcJ(c:UInt8):Bool:=Yp c||(isDigit c||(c==58||(c==95||c==46)))
def ZM:Str->Option Str
 |[]=>some []
 |c::t=>
  if c=45 then (ZM t).map fun r=>47::r
  else if ZcJ c=true then (ZM t).map fun r=>c::r
  else match c,t with
   |92,120::a::b::u=>match Xv [a,b] with
    |none=>none
    |some d=>(ZM u).map fun r=>d::r
   |_,_=>none
def YE(unit:Str)(c:UInt8):Option Str:=
 if c=37 then some [37]
 else if c=110 then some unit
 else if c=78 then some (ZG unit).1
 else if c=112 then some (ofS unit).pre
 else if c=105 then some (ofS unit).inst
 else if c=73 then some ((ZM (ofS unit).inst).getD (ofS unit).inst)
 else none
def QW(unit:Str):Str->Option Str
 |[]=>some []
 |[c]=>if c=37 then none else some [c]
 |c::d::t=>
  if c=37 then (match YE unit d with
   |none=>none
   |some x=>(QW unit t).map fun r=>x++r)
  else (QW unit (d::t)).map fun r=>c::r
def XL(s unit:Str):Except Int Str:=if Zw unit=0 then .error 5 else match QW unit s with|none=>.error 14|some r=>.ok r
abbrev Zbx:=Bool×List Str
inductive UC where
 |s (x:Str)
 |n (x:Int)
 |b (x:Bool)
 |ss (l:List Str)
 |ns (l:List Int)
 |rs (l:List (Int×Str))
 |cs (l:List Zbx)
 |ps (l:List (Str×Str))
deriving DecidableEq
namespace UC
def num:UC->Int|.n x=>x|_=>0
def strs:UC->List Str|.ss l=>l|_=>[]
def nums:UC->List Int|.ns l=>l|_=>[]
def rels:UC->List (Int×Str)|.rs l=>l|_=>[]
def cmds:UC->List Zbx|.cs l=>l|_=>[]
def prs:UC->List (Str×Str)|.ps l=>l|_=>[]
def len:UC->Nat
 |.ss l=>l.length
 |.ns l=>l.length
 |.rs l=>l.length
 |.cs l=>l.length
 |.ps l=>l.length
 |_=>0
end UC
abbrev UV:=Nat->UC
def UV.upd(u:UV)(i:Nat)(c:UC):UV:=fun j=>if j=i then c else u j
theorem UV.upd_at(u:UV)(i:Nat)(c:UC):u.upd i c i=c:=by unfold UV.upd;rw [if_pos rfl]
theorem UV.upd_ne(u:UV){i j:Nat}(c:UC)(h:j≠i):u.upd i c j=u j:=by unfold UV.upd;rw [if_neg h]
def ZV:UV:=fun i=>
 if i=1\/i=5\/i=6\/i=7\/i=14\/i=15\/i=16\/i=17\/i=22 then .n 0
 else if i=3\/i=13\/i=29 then .b false
 else if i=4 then .rs []
 else if i=8\/i=9\/i=10\/i=11\/i=12 then .cs []
 else if i=18\/i=21\/i=25\/i=26\/i=27 then .ns []
 else if i=19 then .ps []
 else if i=20\/i=28\/i=30\/i=31\/i=32\/i=33 then .ss []
 else .s []
def Yw(unit:Str):UV:=
 if Zw unit=0 then ZV else
  let u:=((((ZV.upd 0 (.s unit)).upd 1 (.n (Zw unit:Nat))).upd 3 (.b true)).upd 5 (.n 10)).upd 6 (.n 5)
  if Zw unit=1 then (((u.upd 7 (.n 1)).upd 14 (.n 1)).upd 16 (.n 90)).upd 17 (.n 90)
  else if Zw unit=2 then u.upd 22 (.n 16)
  else u
def Y6(key:Str):Nat:=List.idxOf key [[82,101,113,117,105,114,101,115],[87,97,110,116,115],[82,101,113,117,105,115,105,116,101],[66,105,110,100,115,84,111],[80,97,114,116,79,102],[67,111,110,102,108,105,99,116,115],[66,101,102,111,114,101],[65,102,116,101,114],[79,110,70,97,105,108,117,114,101]] % 9+(if key∈([[82,101,113,117,105,114,101,115],[87,97,110,116,115],[82,101,113,117,105,115,105,116,101],[66,105,110,100,115,84,111],[80,97,114,116,79,102],[67,111,110,102,108,105,99,116,115],[66,101,102,111,114,101],[65,102,116,101,114],[79,110,70,97,105,108,117,114,101]]:List Str) then 1 else 0)
def JQ{α:Type}[DecidableEq α](l some_:List α):List α:=if some_=[] then [] else some_.foldl (fun l x=>if x∈l then l else l++[x]) l
def QE{α:Type}(l:List α)(v:Str)(x:α):List α:=if v=[] then [] else l++[x]
def Y5(l:List (Str×Str)):List (Str×Str)->List (Str×Str)
 |[]=>l
 |p::t=>Y5 (l.filter (fun x=>x.1 !=p.1)++[p]) t
def ZR(name:Str)(rel:Int):List (Int×Str)->List Str->List (Int×Str)
 |l,[]=>l
 |l,s::t=>ZR name rel (if s≠name/\(rel,s)∉l then l++[(rel,s)] else l) t
def Zqn:List (Str×Nat):=[([68,101,115,99,114,105,112,116,105,111,110],2),([68,101,102,97,117,108,116,68,101,112,101,110,100,101,110,99,105,101,115],3),([83,116,97,114,116,76,105,109,105,116,73,110,116,101,114,118,97,108,83,101,99],5),([83,116,97,114,116,76,105,109,105,116,66,117,114,115,116],6),([84,121,112,101],7),([69,120,101,99,83,116,97,114,116,80,114,101],8),([69,120,101,99,83,116,97,114,116],9),([69,120,101,99,83,116,97,114,116,80,111,115,116],10),([69,120,101,99,83,116,111,112],11),([69,120,101,99,82,101,108,111,97,100],12),([82,101,109,97,105,110,65,102,116,101,114,69,120,105,116],13),([82,101,115,116,97,114,116],14),([82,101,115,116,97,114,116,83,101,99],15),([84,105,109,101,111,117,116,83,116,97,114,116,83,101,99],16),([84,105,109,101,111,117,116,83,116,111,112,83,101,99],17),([83,117,99,99,101,115,115,69,120,105,116,83,116,97,116,117,115],18),([69,110,118,105,114,111,110,109,101,110,116],19),([83,111,99,107,101,116,115],20),([76,105,115,116,101,110,83,116,114,101,97,109],21),([66,97,99,107,108,111,103],22),([70,105,108,101,68,101,115,99,114,105,112,116,111,114,78,97,109,101],23),([83,101,114,118,105,99,101],24),([85,110,105,116],24),([79,110,66,111,111,116,83,101,99],25),([79,110,65,99,116,105,118,101,83,101,99],26),([79,110,85,110,105,116,73,110,97,99,116,105,118,101,83,101,99],27),([79,110,67,97,108,101,110,100,97,114],28),([80,101,114,115,105,115,116,101,110,116],29),([87,97,110,116,101,100,66,121],30),([82,101,113,117,105,114,101,100,66,121],31),([65,108,105,97,115],32),([65,108,115,111],33),([68,101,102,97,117,108,116,73,110,115,116,97,110,99,101],34)]
def Zt(key:Str):Nat:=match Zqn.find? (fun p=>p.1==key) with|some p=>p.2|none=>4
def Zch(v:Str):Bool:=v==[121,101,115]||(v==[116,114,117,101]||v==[49])
def QI:List Str->Str->Nat->Int
 |[],_,_=>-1
 |x::t,s,i=>if x=s then (i:Int) else QI t s (i+1)
def ZY(name:Str)(k:Yn)(v:Str)(c:UC):UC:=
 if k.form=1\/k.form=5 then .s v
 else if k.form=2 then .b (Zch v)
 else if k.form=3 then .n (Ql v).1
 else if k.form=10 then .n (QI k.words v 0+1)
 else if k.form=7 then .cs (QE c.cmds v ((Xw v).getD (false,[])))
 else if k.form=8 then .ps (Y5 (if v=[] then [] else c.prs) (ZaW v).1)
 else if k.form=9 then .ss (QE c.strs v v)
 else if k.form=11 then .ns (JQ c.nums ((Zc v).map fun w=>(Ql w).1))
 else if k.form=4 then (if k.list then .ns (QE c.nums v (YT v).1) else .n (YT v).1)
 else if Y6 k.name=0 then .ss (JQ c.strs (Zc v))
 else .rs (ZR name (Y6 k.name:Nat) (if v=[] then c.rels.filter (fun r=>r.1 !=(Y6 k.name:Nat)) else c.rels) (Zc v))
def JR(k:Yn)(v:Str):Bool:=
 if k.form=5 then (k.name !=[83,101,114,118,105,99,101]||Zw v==1)
 else if k.form=11 then (k.name !=[76,105,115,116,101,110,83,116,114,101,97,109]||!((Zc v).any fun w=>(Ql w).1==0))
 else true
def Xe:List Nat:=[8,9,10,11,12,18,19,20,21,25,26,27,28,30,31,32,33]
def Za6(u:UV):Bool:=decide (64<(u 4).len)||Xe.any fun i=>decide (16<(u i).len)
def XO(name:Str)(kind:Int)(u:UV)(x:Ln):Except Int UV:=
 match XL x.val name with
 |.error e=>.error e
 |.ok v=>
  if lnS kind { x with val:=v }≠0 then .error (lnS kind { x with val:=v })
  else match findKey x.sec x.key with
   |none=>.error 11
   |some k=>
    if JR k v=false then .error 12
    else if Za6 (u.upd (Zt k.name) (ZY name k v (u (Zt k.name))))=true then .error 2
    else .ok (u.upd (Zt k.name) (ZY name k v (u (Zt k.name))))
def Y8(name:Str)(kind:Int):UV->List Ln->Except (Int×Int) UV
 |u,[]=>.ok u
 |u,x::t=>match XO name kind u x with
  |.error e=>.error (e,x.at_)
  |.ok r=>Y8 name kind r t
def QH(kind:Int)(u:UV):Int:=
 if (kind=1/\(u 9).len=0)\/(kind=2/\(u 21).len=0)\/(kind=3/\(u 25).len+(u 26).len+(u 27).len+(u 28).len=0) then 6
 else if kind=1/\(u 7).num≠2/\1<(u 9).len then 7
 else 0
def Xk(name:Str)(l:List Ln):UV×(Int×Int):=
 if Zw name=0\/ZcL name=true then (ZV,(5,0))
 else match Y8 name (Zw name:Nat) (Yw name) l with
  |.error e=>(ZV,e)
  |.ok u=>if QH (Zw name:Nat) u≠0 then (ZV,(QH (Zw name:Nat) u,0)) else (u,(0,0))
open Go Go.RowKit
set_option maxRecDepth 100000
theorem m58_{p:Prop}(h:p:=by rw [Jh base t ty e i size ht hi _ _ xs hown c] at hr;injection hr with hr _;rw [<-hr]):p:=h
theorem ZiS{P:Program}{w w':World}(base:Nat)(t ty e:TypeId)(i:TypeInfo)(z:Value)(size bytes:Nat)(ht:P.underlying t=some (.slice e))(hi:P.info? e=some i)(hz:i.zero=some z)
  (hsize:i.size=size) (hby:i.bytes=bytes) (hzs:z.cells.size=size) (hsz:0<size)
  (v v':Value) (n:Nat) (xs:List Value) (hown:w.ownsRow base e size v n xs) (oa:Option Addr) (m c:Nat) (news:List Value) (hl:news.length=m*size)
  (hc:∀j u,news[j]?=some u->∃b o,oa=some ⟨b,o,none⟩/\w.cell? ⟨b,o+j,none⟩=some u) (h1:∀u∈news,u.oneCell'=true)
  (h63:n+m<=maxLen) (hbytes:(n+m)*bytes<=140737488355328) (hr:(Builtin.append_ #[t,t] ty #[v,.slice oa m c]).run P w=.ok v' w') :
  v'.ownBlock=v.ownBlock\/v'.ownBlock=some w.heap.size:=by
 have hsmall:n+m<=9223372036854775807:=by simp only [maxLen] at h63;omega
 by_cases hm:news=[]
 ·subst hm
  have hm0:m=0:=by
   rcases Nat.eq_zero_or_pos m with h|h
   ·exact h
   ·have:=Nat.mul_pos h hsz;simp at hl;omega
  subst hm0;left;rcases hown.2 with ⟨rfl,rfl⟩|⟨g,cap,cur,rfl,_,hg,hnc,hcm,hcs,ht'⟩
  ·cases oa with
   |none=>
    exact m58_
   |some a=>
    have:(Builtin.append_ #[t,t] ty #[.slice none 0 0,.slice (some a) 0 c]).run P w=.ok (.slice none 0 0) w:=by
     simp [Builtin.append_,run_underlying ht,sizeOf,typeInfo,hi,Builtin.lenOf,Builtin.firstCells,loadCells,loadCellsFrom]
    rw [this] at hr;injection hr with hr _;rw [<-hr]
  ·cases oa with
   |none=>
    exact m58_
   |some a=>
    subst hsize
    have:=run_append_room (P:=P) w t ty e i ht hi g n cap cur hg a 0 c [] s_ s_ s_ o_ (by simp;rw [hcs];exact Nat.mul_le_mul_right _ hnc)
    rw [this] at hr;injection hr with hr _;rw [<-hr];rfl
 ·obtain ⟨u,r,rfl⟩:∃u r,news=u::r:=by
   cases news with
   |nil=>exact absurd rfl hm
   |cons u r=>exact ⟨u,r,rfl⟩
  obtain ⟨b,o,e1,_⟩:=hc 0 u rfl;subst e1;have hadd:∀j,(⟨b,o,none⟩:Addr).add j=⟨b,o+j,none⟩:=by intro j;unfold Addr.add;split<;>simp_all
  have hnews:∀j x,(u::r)[j]?=some x->w.cell? ((⟨b,o,none⟩:Addr).add j)=some x:=by
   intro j x hx;obtain ⟨b',o',e2,h5⟩:=hc j x hx;injection e2 with e2;injection e2 with e3 e4;subst e3;subst e4
   rw [hadd];exact h5
  have hmp:0<m:=by
   rcases Nat.eq_zero_or_pos m with h|h
   ·subst h;simp at hl
   ·exact h
  subst hsize;subst hby;rcases hown.2 with ⟨rfl,rfl⟩|⟨g,cap,cur,rfl,_,hg,hnc,hcm,hcs,htake⟩
  ·have:=run_append_nil (P:=P) w t ty e i z ht hi hz ⟨b,o,none⟩ m c (u::r) hl hnews o_ o_ (by have hb:=hbytes;simp only [Nat.zero_add] at hb;omega)
   rw [this] at hr;injection hr with hr _;rw [<-hr]
   right;rfl
  ·by_cases hroom:n+m<=cap
   ·have hfit:n*i.size+(u::r).length<=cur.size:=by rw [hl,hcs,<-Nat.add_mul];exact Nat.mul_le_mul_right _ hroom
    have:=run_append_room (P:=P) w t ty e i ht hi g n cap cur hg ⟨b,o,none⟩ m c (u::r) hl hnews h1 hroom hfit
    rw [this] at hr;injection hr with hr _;rw [<-hr]
    left;rfl
   ·have holds:∀j x,xs[j]?=some x->w.cell? ((⟨g,0,none⟩:Addr).add j)=some x:=hown.cells (g:=g) rfl
    have:=run_append_grow (P:=P) w t ty e i z ht hi hz ⟨g,0,none⟩ n cap xs hown.1 holds ⟨b,o,none⟩ m c (u::r) hl hnews o_ o_ (growslice_fits o_ hbytes)
    rw [this] at hr;injection hr with hr _;rw [<-hr]
    right;rfl
def Xh(l:List Int):List Value:=l.map fun n=>.int .i64 n
theorem ZgD(l:List Int):(Xh l).length=l.length:=by simp [Xh]
def Jg(r:Int×Str):List Value:=[.int .i64 r.1,.string ⟨r.2.toArray⟩]
structure Zdx where
 dash:Bool
 wa:Option Addr
 wn:Nat
 wc:Nat
def ZjN(x:Zdx):List Value:=[.bool x.dash,.slice x.wa x.wn x.wc]
structure Zax(w:World)(F:Nat->Prop)(x:Zdx)(c:Zbx):Prop where
 dash:x.dash=c.1
 wn:x.wn=c.2.length
 row:w.ownsRow 0 9 1 (.slice x.wa x.wn x.wc) x.wn (Ze c.2)
 inF:∀g,(Value.slice x.wa x.wn x.wc).ownBlock=some g->F g
def Yg(w:World)(F:Nat->Prop):UC->Value->Prop
 |.s x,v=>v=.string ⟨x.toArray⟩
 |.n x,v=>v=.int .i64 x
 |.b x,v=>v=.bool x
 |.ss l,v=>w.ownsRow 0 9 1 v l.length (Ze l)/\∀g,v.ownBlock=some g->F g
 |.ns l,v=>w.ownsRow 0 3 1 v l.length (Xh l)/\∀g,v.ownBlock=some g->F g
 |.rs l,v=>w.ownsRow 0 43 2 v l.length (Zy Jg l)/\∀g,v.ownBlock=some g->F g
 |.ps l,v=>w.ownsRow 0 78 2 v l.length (Zy Xj l)/\∀g,v.ownBlock=some g->F g
 |.cs l,v=>∃xs:List Zdx,xs.length=l.length/\w.ownsRow 0 45 2 v l.length (Zy ZjN xs)/\(∀g,v.ownBlock=some g->F g)/\∀i (h1:i<xs.length) (h2:i<l.length),Zax w F xs[i] l[i]
theorem Zeh{w w':World}{B k n:Nat}{e:TypeId}{v:Value}{xs:List Value}{M F:Nat->Prop}(h:w.ownsRow B e k v n xs)(hF:∀g,v.ownBlock=some g->F g)(hf:Fr M w w')(hM:∀g,F g->¬M g):w'.ownsRow B e k v n xs:=
 ZJ h hf fun g hg _=>hM g (hF g hg)
theorem Zax.fr{w w':World}{F M:Nat->Prop}{x:Zdx}{c:Zbx}(h:Zax w F x c)(hf:Fr M w w')(hM:∀g,F g->¬M g):Zax w' F x c:=
 ⟨h.dash,h.wn,Zeh h.row h.inF hf hM,h.inF⟩
theorem Zax.mono{w:World}{F F':Nat->Prop}{x:Zdx}{c:Zbx}(h:Zax w F x c)(hM:∀g,F g->F' g):Zax w F' x c:=
 ⟨h.dash,h.wn,h.row,fun g hg=>hM g (h.inF g hg)⟩
theorem Yg.fr{w w':World}{F M:Nat->Prop}:∀{c:UC} {v:Value},Yg w F c v->Fr M w w'->(∀g,F g->¬M g)->Yg w' F c v
 |.s _,_,h,_,_=>h
 |.n _,_,h,_,_=>h
 |.b _,_,h,_,_=>h
 |.ss _,_,h,hf,hM=>⟨Zeh h.1 h.2 hf hM,h.2⟩
 |.ns _,_,h,hf,hM=>⟨Zeh h.1 h.2 hf hM,h.2⟩
 |.rs _,_,h,hf,hM=>⟨Zeh h.1 h.2 hf hM,h.2⟩
 |.ps _,_,h,hf,hM=>⟨Zeh h.1 h.2 hf hM,h.2⟩
 |.cs _,_,⟨xs,a,b,c,d⟩,hf,hM=>⟨xs,a,Zeh b c hf hM,c,fun i h1 h2=>(d i h1 h2).fr hf hM⟩
theorem Yg.mono{w:World}{F F':Nat->Prop}:∀{c:UC} {v:Value},Yg w F c v->(∀g,F g->F' g)->Yg w F' c v
 |.s _,_,h,_=>h
 |.n _,_,h,_=>h
 |.b _,_,h,_=>h
 |.ss _,_,h,hM=>⟨h.1,fun g hg=>hM g (h.2 g hg)⟩
 |.ns _,_,h,hM=>⟨h.1,fun g hg=>hM g (h.2 g hg)⟩
 |.rs _,_,h,hM=>⟨h.1,fun g hg=>hM g (h.2 g hg)⟩
 |.ps _,_,h,hM=>⟨h.1,fun g hg=>hM g (h.2 g hg)⟩
 |.cs _,_,⟨xs,a,b,c,d⟩,hM=>⟨xs,a,b,fun g hg=>hM g (c g hg),fun i h1 h2=>(d i h1 h2).mono hM⟩
structure YL(w:World)(U:Nat)(cs:Array Value)(F:Nat->Nat->Prop)(u:UV):Prop where
 box:w.heap[U]?=some (.cells cs 30 (0,0))
 size:cs.size=35
 fld:∀j v,cs[j]?=some v->Yg w (F j) (u j) v
 apart:∀i j k,F i k->F j k->i=j
 notU:∀j,¬F j U
 lt:∀j k,F j k->U<k/\k<w.heap.size
def Zh(w w':World)(U:Nat)(cs:Array Value)(j:Nat)(Fj:Nat->Prop)(c:UC):Prop:=
 ∃v F',w'.heap[U]?=some (.cells (cs.setIfInBounds j v) 30 (0,0))/\Yg w' F' c v/\Fr (fun k=>k=U\/Fj k) w w'/\∀k,F' k->(Fj k\/w.heap.size<=k)/\k<w'.heap.size
theorem YL.put{w w':World}{U:Nat}{cs:Array Value}{F:Nat->Nat->Prop}{u:UV}{j:Nat}{c:UC}(h:YL w U cs F u)(hj:j<35)(hp:Zh w w' U cs j (F j) c) :
  ∃cs' F',YL w' U cs' F' (u.upd j c)/\Fr (fun k=>k=U\/U<k) w w'/\cs'[0]?=(if j=0 then cs'[0]? else cs[0]?)/\cs'[1]?=(if j=1 then cs'[1]? else cs[1]?):=by
 obtain ⟨v,Fj,h1,h2,h3,h4⟩:=hp;have hU:=Zg h.box;refine ⟨cs.setIfInBounds j v,fun i=>if i=j then Fj else F i,⟨h1,by simp [h.size],?_,?_,?_,?_⟩,?_,?_,?_⟩
 ·intro i x hx
  by_cases e:i=j
  ·subst e
   rw [Array.getElem?_setIfInBounds_self_of_lt n117_] at hx;injection hx with hx
   subst hx;rw [UV.upd_at,if_pos rfl];exact h2
  ·rw [Array.getElem?_setIfInBounds_ne (fun x=>e x.symm)] at hx
   rw [UV.upd_ne _ _ e,if_neg e];refine (h.fld i x hx).fr h3 ?_;rintro g hg (rfl|hg2)
   ·exact h.notU i hg
   ·exact e (h.apart i j g hg hg2)
 ·intro i k q hi hk
  by_cases e1:i=j
  ·subst e1
   by_cases e2:k=i
   ·exact e2.symm
   ·rw [if_pos rfl] at hi
    rw [if_neg e2] at hk;rcases (h4 q hi).1 with h5|h5
    ·exact h.apart i k q h5 hk
    ·have:=(h.lt k q hk).2;omega
  ·rw [if_neg e1] at hi
   by_cases e2:k=j
   ·subst e2
    rw [if_pos rfl] at hk;rcases (h4 q hk).1 with h5|h5
    ·exact h.apart i k q hi h5
    ·have:=(h.lt i q hi).2;omega
   ·rw [if_neg e2] at hk
    exact h.apart i k q hi hk
 ·intro i hi
  by_cases e1:i=j
  ·subst e1
   rw [if_pos rfl] at hi;rcases (h4 U hi).1 with h5|h5
   ·exact h.notU i h5
   ·omega
  ·rw [if_neg e1] at hi
   exact h.notU i hi
 ·intro i k hk
  by_cases e1:i=j
  ·subst e1
   rw [if_pos rfl] at hk;refine ⟨?_,(h4 k hk).2⟩;rcases (h4 k hk).1 with h5|h5
   ·exact (h.lt i k h5).1
   ·omega
  ·rw [if_neg e1] at hk
   exact ⟨(h.lt i k hk).1,Nat.lt_of_lt_of_le (h.lt i k hk).2 h3.size⟩
 ·refine h3.mono ?_
  rintro k hk (rfl|h5)
  ·exact .inl rfl
  ·exact .inr (h.lt j k h5).1
 ·by_cases e:j=0
  ·rw [if_pos e]
  ·rw [if_neg e,Array.getElem?_setIfInBounds_ne e]
 ·by_cases e:j=1
  ·rw [if_pos e]
  ·rw [if_neg e,Array.getElem?_setIfInBounds_ne e]
theorem YL.fr{w w':World}{U:Nat}{cs:Array Value}{F:Nat->Nat->Prop}{u:UV}{M:Nat->Prop}(h:YL w U cs F u)(hf:Fr M w w')(hU:¬M U)(hM:∀j k,F j k->¬M k):YL w' U cs F u:=
 ⟨hf.heap h.box hU,h.size,fun j v hv=>(h.fld j v hv).fr hf (hM j),h.apart,h.notU,fun j k hk=>⟨(h.lt j k hk).1,Nat.lt_of_lt_of_le (h.lt j k hk).2 hf.size⟩⟩
theorem YL.below{w w':World}{U:Nat}{cs:Array Value}{F:Nat->Nat->Prop}{u:UV}(h:YL w U cs F u)(hb:Below w.heap.size w w'):YL w' U cs F u:=
 h.fr (M:=fun _=>False) (Fr.of_below hb _) (fun e=>e) (fun _ _ _ e=>e)
theorem Zh.below{w w1 w':World}{U:Nat}{cs:Array Value}{j:Nat}{Fj:Nat->Prop}{c:UC}(hb:Below w.heap.size w w1)(h:Zh w1 w' U cs j Fj c):Zh w w' U cs j Fj c:=by
 obtain ⟨v,F',h1,h2,h3,h4⟩:=h;refine ⟨v,F',h1,h2,(Fr.of_below hb _).trans h3,fun k hk=>⟨(h4 k hk).1.imp id (fun h=>Nat.le_trans hb.size h),(h4 k hk).2⟩⟩
theorem Zh.after{w w1 w':World}{U:Nat}{cs:Array Value}{j:Nat}{Fj:Nat->Prop}{c:UC}(h:Zh w w1 U cs j Fj c)(hb:Below w1.heap.size w1 w'):Zh w w' U cs j Fj c:=by
 obtain ⟨v,F',h1,h2,h3,h4⟩:=h;refine ⟨v,F',Za h1 hb,h2.fr (M:=fun _=>False) (Fr.of_below hb _) (fun _ _ e=>e),h3.trans (Fr.of_below hb _),fun k hk=>⟨(h4 k hk).1,Nat.lt_of_lt_of_le (h4 k hk).2 hb.size⟩⟩
open Go.Proofs.Tryz
theorem Zrd(x y:Int×Str)(w:World):(Op.equalIn 10000 43 (.agg #[.int .i64 x.1,.string ⟨x.2.toArray⟩]) (.agg #[.int .i64 y.1,.string ⟨y.2.toArray⟩])).run prog w=.ok (decide (x=y)) w:=by
 have u3:=underlying3;have u9:=underlying9;have a3:=isAgg3;have z3:=sizeOf3;have a9:=isAgg9;have z9:=sizeOf9;have hS:prog.underlying 43=some (.struct (prog.fieldsOf 43)):=k_;have hp:prog.stoodInHeld 43=false:=k_;rw [show (10000:Nat)=9999+1 from rfl,run_equalIn_agg w 9999 43 _ _ hS hp];simp only [Program.fieldsOf,underlying43];go_simp;obtain ⟨x1,x2⟩:=x;obtain ⟨y1,y2⟩:=y;by_cases h1:x1=y1<;>by_cases h2:x2=y2<;>simp [h1,h2]
theorem ZcX(x y:Int×Str)(b:Bool)(h:decide (x=y)=b)(w:World):(binOp .eql 43 (.agg #[.int .i64 x.1,.string ⟨x.2.toArray⟩]) (.agg #[.int .i64 y.1,.string ⟨y.2.toArray⟩])).run prog w=.ok (.bool b) w:=by
 rw [run_eql_struct,Zrd,h];rfl
theorem ZgT(x y:Int×Str)(b:Bool)(h:decide (x=y)=b)(w:World):(binOp .neq 43 (.agg #[.int .i64 x.1,.string ⟨x.2.toArray⟩]) (.agg #[.int .i64 y.1,.string ⟨y.2.toArray⟩])).run prog w=.ok (.bool !b) w:=by
 rw [run_neq_struct,Zrd,h];rfl
theorem ZpK:prog.eqGuardType prog.depth 43=false:=k_
theorem J2(op:BinOp)(x y:Operand)(xs ys:Array Value)(w:World):(eqGuard op 43 x y (.agg xs) (.agg ys)).run prog w=.ok () w:=run_eqGuard_agg w op _ x y xs ys ZpK
def Zq1(w:World)(b:Bool)(e:Ending)(w':World):Prop:=∃i:Int,e=.returned (.int .i64 i)/\decide (0<=i)=b/\Below w.heap.size w w'
theorem Zjg(v:Value)(l:List (Int×Str))(x:Int×Str)(w:World)(hr:ZcV Jg 2 w v l)(hl:l.length<4611686018427387904)(b:Bool)(hb:l.contains x=b) :
  Calls prog 165 #[v,.agg #[.int .i64 x.1,.string ⟨x.2.toArray⟩]] w fun e w'=>Zq1 w b e w':=by
 obtain ⟨oa,cap,rfl,hrow⟩:=hr.ex;have HB0:=h_ ((Below.refl w.heap.size w).alloc l_ (.cells #[.int .i64 x.1,.string ⟨x.2.toArray⟩] 43));have HX:=h_ (heap_alloc_new w (.cells #[.int .i64 x.1,.string ⟨x.2.toArray⟩] 43));have HR:=h_ hrow;have HC:=h_ hb;clear hr hrow hb;go_enter func165,ntmps165;go_wp2_with fail;generalize w.alloc (.cells #[.int .i64 x.1,.string ⟨x.2.toArray⟩] 43)=w1 at *;go_loopg [8] (l.length+1) (fun f i wr=>∃k:Nat,k<=l.length/\i=.int .i64 k/\l.length-k<f/\Hid ((l.take k).contains x=false)/\∃n,wr=w1.drewN n)
 case atStart=>exact ⟨0,o_,rfl,o_,h_ s_,0,rfl⟩
 case round=>
  obtain ⟨k,hk,rfl,hf,Hno,n,rfl⟩:=hrel;by_cases hlt:k<l.length
  ·obtain ⟨b1,o1,rfl,hlt1,hcc⟩:=(HR.out.below HB0.out) k hlt
   obtain ⟨y,hy⟩:=e_ (l[k]);rw [<-hy] at hcc;have d0:=hcc 0 _ rfl;have d1:=hcc 1 _ rfl;simp only [Nat.add_zero] at d0;obtain ⟨cc,-,-,-⟩:=rd HX.out;have c0:=cc 0;have c1:=cc 1;simp only [List.getElem?_toArray,List.getElem?_cons_zero,List.getElem?_cons_succ] at c0 c1;have i5:(k:Int)<(l.length:Int):=o_;have hgd:=J2;cases hq:decide (x=y) with
   |true=>
    have hrun:=ZcX x y true hq;have HT:=h_ (show b=true by
     rw [<-HC.out,List.contains_iff_mem,of_decide_eq_true hq,hy];exact List.getElem_mem _)
    have HB1:=h_ (fun n=>HB0.out.trans (Zb (B:=w.heap.size) (a:=w1) (b:=w1.drewN n) ⟨n,rfl⟩));clear hq hy hcc cc;go_wp2_with fail;go_quiet (fail);go_wp2_with fail;go_ret;exact ⟨_,rfl,by rw [HT.out];simp,by first|exact HB1.out _|(rw [dn2];exact HB1.out _)⟩
   |false=>
    have hrun:=ZcX x y false hq;have HN:=h_ (show (l.take (k+1)).contains x=false by
     rw [List.take_succ_eq_append_getElem hlt,List.contains_append,Hno.out,<-hy];simp;exact of_decide_eq_false hq)
    clear hq hy hcc cc;go_wp2_with fail;go_quiet (fail);go_wp2_with fail;go_roundg (l.length-k)
    case measure=>omega
    case rel=>exact ⟨k+1,o_,n14_,o_,HN,n27_⟩
  ·have HT:=h_ (show b=false by
    have:=Hno.out
    rw [List.take_of_length_le o_] at this;rw [<-HC.out,this])
   have HB1:=h_ (HB0.out.trans (Zb (B:=w.heap.size) (a:=w1) (b:=w1.drewN n) ⟨n,rfl⟩));go_wp2_with fail;go_ret;exact ⟨_,rfl,by rw [HT.out];rfl,HB1.out⟩
theorem Zcd(v:Value)(l:List (Int×Str))(x:Int×Str)(w:World)(hr:ZcV Jg 2 w v l)(hl:l.length<4611686018427387904)(b:Bool)(hb:l.contains x=b) :
  Calls prog 123 #[v,.agg #[.int .i64 x.1,.string ⟨x.2.toArray⟩]] w fun e w'=>e=.returned (.bool b)/\Below w.heap.size w w':=by
 have hB:=(Below.refl w.heap.size w).alloc l_ (.cells #[.int .i64 x.1,.string ⟨x.2.toArray⟩] 43);have HI:=h_ (Zjg v l x _ (hr.below hB) hl b hb);have HB:=h_ hB;obtain ⟨cc,-,-,-⟩:=rd (heap_alloc_new w (.cells #[.int .i64 x.1,.string ⟨x.2.toArray⟩] 43));have c0:=cc 0;have c1:=cc 1;simp only [List.getElem?_toArray,List.getElem?_cons_zero,List.getElem?_cons_succ] at c0 c1;obtain ⟨oa,cap,rfl,-⟩:=hr.ex;clear cc hb hB hr;go_enter func123,ntmps123;go_wp2_with fail;refine HI.out.mono ?_;rintro e w' ⟨i,rfl,hi,hb1⟩;have H2:=h_ (HB.out.trans (hb1.mono HB.out.size));clear hb1;go_wp2_with fail;go_ret;exact ⟨by first|rfl|(rw [<-hi];rfl),H2.out⟩
theorem m59_{p:Prop}(h:p:=by obtain ⟨c5,f5,s5,_⟩:=rd HB5.out;have c50:=c5 j;have f50:=f5 j;rw [Array.getElem?_setIfInBounds_self_of_lt hjs] at c50;clear c5 f5;go_wp2_with fail;go_end0;exact ⟨rfl,HP2.out⟩):p:=h
theorem m60_{p:Prop}(h:p:=by intro i hi;obtain ⟨b,o,e,hc⟩:=h i hi;exact ⟨b,o,e,(World.cell?_of_block (hf.block b (World.block_lt_of_cell? w _ hc) (hM b o e))).trans hc⟩):p:=h
theorem Zht{P:Program}{w:World}(base:Nat)(t ty e:TypeId)(i:TypeInfo)(z:Value)(size bytes:Nat)(ht:P.underlying t=some (.slice e))(hi:P.info? e=some i)(hz:i.zero=some z)
  (hsize:i.size=size) (hby:i.bytes=bytes) (hzs:z.cells.size=size) (hsz:0<size)
  (v:Value) (n:Nat) (xs:List Value) (hown:w.ownsRow base e size v n xs) (oa:Option Addr) (m c:Nat) (news:List Value) (hl:news.length=m*size)
  (hc:∀j u,news[j]?=some u->∃b o,oa=some ⟨b,o,none⟩/\w.cell? ⟨b,o+j,none⟩=some u) (h1:∀u∈news,u.oneCell'=true)
  (h63:n+m<=maxLen) (hbytes:(n+m)*bytes<=140737488355328) (hbase:base<=w.heap.size) :
  ∃v' w',(Builtin.append_ #[t,t] ty #[v,.slice oa m c]).run P w=.ok v' w'/\w'.ownsRow base e size v' (n+m) (xs++news)/\w.grownBy w' v.ownBlock/\(v'.ownBlock=v.ownBlock\/v'.ownBlock=some w.heap.size):=by
 obtain ⟨v',w',hrun,r1,r2⟩:=Xu (P:=P) base t ty e i z size bytes ht hi hz hsize hby hzs hsz v n xs hown oa m c news hl hc h1 h63 hbytes hbase;exact ⟨v',w',hrun,r1,r2,ZiS (P:=P) base t ty e i z size bytes ht hi hz hsize hby hzs hsz v v' n xs hown oa m c news hl hc h1 h63 hbytes hrun⟩
theorem ZkD:(prog.info? 45).map (fun i=>(i.zero,i.size,i.bytes))=some (some (.agg #[.bool false,.slice none 0 0]),2,32):=k_
theorem Zh.of_store{w w7:World}{U:Nat}{cs cs7:Array Value}{j:Nat}{F F':Nat->Prop}{c:UC}{v:Value}(hb:w7.heap[U]?=some (.cells cs7 30 (0,0)))(hcs:cs7.setIfInBounds j v=cs.setIfInBounds j v)
  (hf:Fr (fun k=>k=U\/F k) w w7) (hc:Yg w7 F' c v) (hF:∀k,F' k->(F k\/w.heap.size<=k)/\k<w7.heap.size) (hU:¬F' U):Zh w (w7.setCell ⟨U,j,none⟩ v) U cs j F c:=by
 refine ⟨v,F',?_,hc.fr (M:=fun k=>k=U) (Fr.setCell (M:=fun k=>k=U) (Fr.refl _ _) (p:=⟨U,j,none⟩) (fun _=>rfl) _) (fun g hg e=>hU (e ▸ hg)),hf.setCell (p:=⟨U,j,none⟩) (fun _=>.inl rfl) _,fun k hk=>⟨(hF k hk).1,by simpa using (hF k hk).2⟩⟩;rw [<-hcs];exact heap_setCell hb j v
theorem set_set{cs:Array Value}{j:Nat}{x y:Value}:(cs.setIfInBounds j x).setIfInBounds j y=cs.setIfInBounds j y:=by
 apply Array.ext_getElem?;intro i;simp only [Array.getElem?_setIfInBounds,Array.size_setIfInBounds];split<;>rfl
theorem Qn{P:Program}{w:World}(t ty e:TypeId)(i:TypeInfo)(z:Value)(size bytes:Nat)(ht:P.underlying t=some (.slice e))(hi:P.info? e=some i)(hz:i.zero=some z)
  (hsize:i.size=size) (hby:i.bytes=bytes) (hzs:z.cells.size=size) (hsz:0<size) {U:Nat} {cs:Array Value} {F:Nat->Prop} {v:Value} {n:Nat} {xs:List Value}
  (hb:w.heap[U]?=some (.cells cs 30 (0,0))) (hown:w.ownsRow 0 e size v n xs) (hin:∀g,v.ownBlock=some g->F g) (hFU:¬F U) (hn:n<=2000000000) (hby2:bytes<=64) (news:List Value) (hl:news.length=size) (h1:∀u∈news,u.oneCell'=true) :
  ∃oa cap w4,(Builtin.append_ #[t,t] ty #[v,.slice (some ⟨w.heap.size,0,none⟩) 1 1]).run P (w.alloc (.cells news.toArray e))=.ok (.slice oa (n+1) cap) w4/\w4.heap[U]?=some (.cells cs 30 (0,0))/\Fr (fun k=>k=U\/F k) w w4/\
   w4.ownsRow 0 e size (.slice oa (n+1) cap) (n+1) (xs++news)/\(∀g,(Value.slice oa (n+1) cap).ownBlock=some g->(F g\/w.heap.size<=g)/\g<w4.heap.size)/\(Value.slice oa (n+1) cap).ownBlock≠some U/\Fr (fun k=>v.ownBlock=some k) w w4:=by
 have hbU:=Zg hb;have hB1:Below w.heap.size w (w.alloc (.cells news.toArray e)):=b_.alloc l_ _;have hsz1:(w.alloc (.cells news.toArray e)).heap.size=w.heap.size+1:=s_;obtain ⟨v',w4,hrun,hown4,hgrow,hwh⟩:=Zht (P:=P) 0 t ty e i z size bytes ht hi hz hsize hby hzs hsz v n xs (Zp hown hB1) (some ⟨w.heap.size,0,none⟩) 1 1 news (by rw [hl,Nat.one_mul]) (fun j u hu=>⟨w.heap.size,0,rfl,by rw [(rd (heap_alloc_new w _)).1,Nat.zero_add];simpa using hu⟩) h1 n20_ (by
  have:=Nat.mul_le_mul (show n+1<=2000000001 by omega) hby2
  omega) (Nat.zero_le _)
 have hb1:=Za hb hB1;have hne:some U≠v.ownBlock:=fun e=>hFU (hin U e.symm)
 obtain ⟨oa,cap,rfl⟩:=ownsRow_form hown4;refine ⟨oa,cap,w4,hrun,by rw [hgrow.block U (Zg hb1) hne];exact hb1,(Fr.of_below hB1 _).grown hgrow (fun k hk _=>.inr (hin k hk)),hown4,fun g hg=>⟨?_,(hown4.lt g hg).2⟩,fun e=>?_,(Fr.of_below hB1 _).grown hgrow (fun k hk _=>hk)⟩
 ·rcases hwh with h|h
  ·exact .inl (hin g (h ▸ hg))
  ·rw [h] at hg;injection hg with hg;right;omega
 ·rcases hwh with h|h
  ·exact hFU (hin U (h ▸ e))
  ·rw [h] at e;injection e with e;omega
theorem Zh.trans'{w w1 w2:World}{U:Nat}{cs:Array Value}{j:Nat}{F F':Nat->Prop}{c:UC}{v:Value}(h3:Fr (fun k=>k=U\/F k) w w1)(h4:∀k,F' k->(F k\/w.heap.size<=k)/\k<w1.heap.size)
  (h:Zh w1 w2 U (cs.setIfInBounds j v) j F' c):Zh w w2 U cs j F c:=by
 obtain ⟨v2,F2,a,b,c,d⟩:=h;rw [set_set] at a;refine ⟨v2,F2,a,b,h3.then' c ?_,fun k hk=>⟨?_,(d k hk).2⟩⟩
 ·rintro i hi (rfl|h5)
  ·exact .inl rfl
  ·rcases (h4 i h5).1 with h6|h6
   ·exact .inr h6
   ·omega
 ·rcases (d k hk).1 with h5|h5
  ·exact (h4 k h5).1
  ·exact .inr (Nat.le_trans h3.size h5)
theorem ZpC{cs:Array Value}{j:Nat}{v:Value}(h:cs[j]?=some v):cs.setIfInBounds j v=cs:=by
 apply Array.ext_getElem?;intro i;rw [Array.getElem?_setIfInBounds];split
 ·rename_i e;subst e
  have:=(Array.getElem?_eq_some_iff.1 h).1
  rw [if_pos this,h]
 ·rfl
theorem Zh.refl{w:World}{U:Nat}{cs:Array Value}{j:Nat}{F:Nat->Prop}{c:UC}{v:Value}(hb:w.heap[U]?=some (.cells cs 30 (0,0)))(hj:cs[j]?=some v)(hv:Yg w F c v)(hF:∀k,F k->k<w.heap.size):Zh w w U cs j F c:=
 ⟨v,F,by rw [ZpC hj];exact hb,hv,Fr.refl _ _,fun k hk=>⟨.inl hk,hF k hk⟩⟩
theorem Zj.frM{w w':World}{M:Nat->Prop}{oa:Option Addr}{l:List Str}(h:Zj w oa l)(hf:Fr M w w')(hM:∀b o,oa=some ⟨b,o,none⟩->¬M b):Zj w' oa l:=by
 exact m60_
def Qy(w:World)(oa:Option Addr)(l:List Int):Prop:=
 ∀i (h:i<l.length),∃b o,oa=some ⟨b,o,none⟩/\w.cell? ⟨b,o+i,none⟩=some (.int .i64 l[i])
theorem Qy.fr{w w':World}{M:Nat->Prop}{oa:Option Addr}{l:List Int}(h:Qy w oa l)(hf:Fr M w w')(hM:∀b o,oa=some ⟨b,o,none⟩->¬M b):Qy w' oa l:=by
 exact m60_
theorem Qy.of_own{w:World}{base:Nat}{e:TypeId}{oa:Option Addr}{n cap:Nat}{l:List Int}(h:w.ownsRow base e 1 (.slice oa n cap) n (Xh l)):Qy w oa l:=by
 intro i hi;have hn:l.length=n:=by have:=h.1;rw [ZgD] at this;omega
 rcases h.2 with ⟨_,h0⟩|⟨g,cap',cur,hv,hb,hg,hnc,hcm,hcs,ht⟩
 ·omega
 ·injection hv with e1
  refine ⟨g,0,e1,?_⟩;rw [(rd hg).1,Nat.zero_add];have h2:=congrArg (fun l=>l[i]?) ht;simp only [Nat.mul_one,List.getElem?_take] at h2;rw [if_pos o_] at h2;simpa [Xh,hi] using h2
theorem Zkf(U j:Nat)(cs:Array Value)(F:Nat->Prop)(l:List Int)(v:Value)(w:World)(hb:w.heap[U]?=some (.cells cs 30 (0,0)))(hj:cs[j]?=some v)(hv:Yg w F (.ns l) v)(hFU:¬F U)(hF:∀k,F k->k<w.heap.size)(hl:l.length<=1000000000)(val:Str)(x:Int) :
  Calls prog 118 #[.pointer (some ⟨U,j,none⟩),.string ⟨val.toArray⟩,.int .i64 x] w fun e w'=>e=.returned (.tuple #[])/\Zh w w' U cs j F (.ns (QE l val x)):=by
 obtain ⟨i0,hi0,hz0,hz1,hz2⟩:=info_parts ZaF;have HU:=h_ hFU;have HF:=h_ hF;obtain ⟨hown,hin⟩:=hv;obtain ⟨oa,cap,rfl⟩:=ownsRow_form hown;have hbU:=Zg hb;obtain ⟨oa2,cap2,w4,hrun,hb4,hf4,hown4,hF4,hU4,-⟩:=Qn (P:=prog) 26 26 3 i0 (.int .i64 0) 1 8 underlying26 hi0 hz0 hz1 hz2 n19_ d_ hb hown hin hFU o_ d_ [.int .i64 x] rfl (by intro u hu;simp at hu;rcases hu with rfl|rfl<;>rfl);have HRUN:=h_ hrun;have hc4:Yg w4 (fun g=>(Value.slice oa2 (l.length+1) cap2).ownBlock=some g) (.ns (l++[x])) (.slice oa2 (l.length+1) cap2):=⟨by rw [show Xh (l++[x])=Xh l++[.int .i64 x] by simp [Xh],List.length_append];exact hown4,fun g hg=>hg⟩;have HP1:=h_ (Zh.of_store (j:=j) hb4 rfl hf4 hc4 hF4 hU4);have c0:w.cell? ⟨U,j,none⟩=some (.slice oa l.length cap):=n122_;have hjs:j<cs.size:=(Array.getElem?_eq_some_iff.1 hj).1;have c1:w4.cell? ⟨U,j,none⟩=some (.slice oa l.length cap):=by rw [(rd hb4).1];exact hj
 obtain ⟨_,f4,s4,_⟩:=rd hb4;have f40:=f4 j;have hb5:=heap_setCell hb4 j (.slice oa2 (l.length+1) cap2);have HB5:=h_ hb5;have HP2:=h_ (Zh.of_store (j:=j) (F':=fun _=>False) (c:=.ns []) (v:=.slice none 0 0) hb5 set_set ((hf4.setCell (p:=⟨U,j,none⟩) (fun _=>.inl rfl) _)) ⟨World.ownsRow_nil _ _ _ _,fun g hg=>by simp [Value.ownBlock] at hg⟩ (fun k hk=>hk.elim) (fun e=>e));have hne2:U≠w.heap.size:=o_;clear hb hj hown hin hFU hF hrun hown4 hb4 hc4 hF4 hU4 hf4 f4 hb5 HU HF;unfold QE;cases val with
 |nil=>
  rw [if_pos rfl];go_enter func118,ntmps118;go_wp2_with (at_builtin;refine wpList_append_run rfl _ _ 26 rfl HRUN.out rfl rfl ?_);exact m59_
 |cons a t=>
  rw [if_neg s_];go_enter func118,ntmps118;go_wp2_with (at_builtin;refine wpList_append_run rfl _ _ 26 rfl HRUN.out rfl rfl ?_);go_wp2_with fail;go_end0;exact ⟨rfl,HP1.out⟩
theorem ZjS(U j:Nat)(cs:Array Value)(F:Nat->Prop)(l:List Str)(v:Value)(w:World)(hb:w.heap[U]?=some (.cells cs 30 (0,0)))(hj:cs[j]?=some v)(hv:Yg w F (.ss l) v)(hFU:¬F U)(hF:∀k,F k->k<w.heap.size)(hl:l.length<=1000000000)(val:Str)(x:Str) :
  Calls prog 72 #[.pointer (some ⟨U,j,none⟩),.string ⟨val.toArray⟩,.string ⟨x.toArray⟩] w fun e w'=>e=.returned (.tuple #[])/\Zh w w' U cs j F (.ss (QE l val x)):=by
 obtain ⟨i0,hi0,hz0,hz1,hz2⟩:=info_parts Zd4;have HU:=h_ hFU;have HF:=h_ hF;obtain ⟨hown,hin⟩:=hv;obtain ⟨oa,cap,rfl⟩:=ownsRow_form hown;have hbU:=Zg hb;obtain ⟨oa2,cap2,w4,hrun,hb4,hf4,hown4,hF4,hU4,-⟩:=Qn (P:=prog) 28 28 9 i0 (.string ⟨#[]⟩) 1 16 underlying28 hi0 hz0 hz1 hz2 n19_ d_ hb hown hin hFU o_ d_ [.string ⟨x.toArray⟩] rfl (by intro u hu;simp at hu;rcases hu with rfl|rfl<;>rfl);have HRUN:=h_ hrun;have hc4:Yg w4 (fun g=>(Value.slice oa2 (l.length+1) cap2).ownBlock=some g) (.ss (l++[x])) (.slice oa2 (l.length+1) cap2):=⟨n107_,fun g hg=>hg⟩;have HP1:=h_ (Zh.of_store (j:=j) hb4 rfl hf4 hc4 hF4 hU4);have c0:w.cell? ⟨U,j,none⟩=some (.slice oa l.length cap):=n122_;have hjs:j<cs.size:=(Array.getElem?_eq_some_iff.1 hj).1;have c1:w4.cell? ⟨U,j,none⟩=some (.slice oa l.length cap):=by rw [(rd hb4).1];exact hj
 obtain ⟨_,f4,s4,_⟩:=rd hb4;have f40:=f4 j;have hb5:=heap_setCell hb4 j (.slice oa2 (l.length+1) cap2);have HB5:=h_ hb5;have HP2:=h_ (Zh.of_store (j:=j) (F':=fun _=>False) (c:=.ss []) (v:=.slice none 0 0) hb5 set_set ((hf4.setCell (p:=⟨U,j,none⟩) (fun _=>.inl rfl) _)) ⟨World.ownsRow_nil _ _ _ _,fun g hg=>by simp [Value.ownBlock] at hg⟩ (fun k hk=>hk.elim) (fun e=>e));have hne2:U≠w.heap.size:=o_;clear hb hj hown hin hFU hF hrun hown4 hb4 hc4 hF4 hU4 hf4 f4 hb5 HU HF;unfold QE;cases val with
 |nil=>
  rw [if_pos rfl];go_enter func72,ntmps72;go_wp2_with (at_builtin;refine wpList_append_run rfl _ _ 28 rfl HRUN.out rfl rfl ?_);exact m59_
 |cons a t=>
  rw [if_neg s_];go_enter func72,ntmps72;go_wp2_with (at_builtin;refine wpList_append_run rfl _ _ 28 rfl HRUN.out rfl rfl ?_);go_wp2_with fail;go_end0;exact ⟨rfl,HP1.out⟩
theorem m61_{p:Prop}(h:p:=by
  have HR:=h_ (show r=true by
   have h1:=Hq.out;rw [List.take_of_length_le o_,List.take_of_length_le n55_] at h1;rw [<-HRS.out,h1];simp)
  go_wp2_with fail;go_ret;exact ⟨n10_,dn _ _⟩):p:=h
theorem m62_{p:Prop}(h:p:=by
  clear hb hx hy;go_wp2_with fail;go_quiet (fail);go_wp2_with fail;go_roundg (l.length-k)
  case measure=>omega
  case rel=>exact ⟨k+1,o_,n14_,o_,HT,n27_⟩):p:=h
theorem m63_{p:Prop}(h:p:=by clear hb hx hy;go_wp2_with fail;go_quiet (fail);go_wp2_with fail;go_ret;exact ⟨n10_,n27_⟩):p:=h
theorem m64_{p:Prop}(h:p:=by go_wp2_with fail;go_ret;exact ⟨n10_,dn0 _⟩):p:=h
theorem ZrE(x y:Str×Str)(w:World):(Op.equalIn 10000 78 (.agg #[.string ⟨x.1.toArray⟩,.string ⟨x.2.toArray⟩]) (.agg #[.string ⟨y.1.toArray⟩,.string ⟨y.2.toArray⟩])).run prog w=.ok (decide (x=y)) w:=by
 have u3:=underlying3;have u9:=underlying9;have a3:=isAgg3;have z3:=sizeOf3;have a9:=isAgg9;have z9:=sizeOf9;have hS:prog.underlying 78=some (.struct (prog.fieldsOf 78)):=k_;have hp:prog.stoodInHeld 78=false:=k_;rw [show (10000:Nat)=9999+1 from rfl,run_equalIn_agg w 9999 78 _ _ hS hp];simp only [Program.fieldsOf,underlying78];go_simp;obtain ⟨x1,x2⟩:=x;obtain ⟨y1,y2⟩:=y;by_cases h1:x1=y1<;>by_cases h2:x2=y2<;>simp [h1,h2]
theorem ZgF(x y:Str×Str)(b:Bool)(h:decide (x=y)=b)(w:World):(binOp .neq 78 (.agg #[.string ⟨x.1.toArray⟩,.string ⟨x.2.toArray⟩]) (.agg #[.string ⟨y.1.toArray⟩,.string ⟨y.2.toArray⟩])).run prog w=.ok (.bool !b) w:=by
 rw [run_neq_struct,ZrE,h];rfl
theorem ZpU:prog.eqGuardType prog.depth 78=false:=k_
theorem Zdy(op:BinOp)(x y:Operand)(xs ys:Array Value)(w:World):(eqGuard op 78 x y (.agg xs) (.agg ys)).run prog w=.ok () w:=run_eqGuard_agg w op _ x y xs ys ZpU
theorem Zid(oa ob:Option Addr)(ca cb:Nat)(l m:List (Int))(w:World)(hl:Qy w oa l)(hm:Qy w ob m)(hll:l.length<=9223372036854775807)(hml:m.length<=9223372036854775807)(r:Bool)(hr:decide (l=m)=r) :
  Calls prog 18 #[.slice oa l.length ca,.slice ob m.length cb] w fun e w'=>e=.returned (.bool r)/\∃n,w'=w.drewN n:=by
 have HRS:=h_ hr;clear hr;by_cases hlen:l.length=m.length
 ·have hne:((l.length:Int)!=(m.length:Int))=false:=by simp [hlen]
  have Hlen:=h_ hlen;clear hlen;have HL:=h_ hl;clear hl;have HM:=h_ hm;clear hm;go_enter func18,ntmps18;go_wp2_with fail;go_loopg [13] (l.length+1) (fun f i wr=>∃k:Nat,k<=l.length/\i=.int .i64 k/\l.length-k<f/\Hid (l.take k=m.take k)/\∃n,wr=w.drewN n)
  case atStart=>exact ⟨0,o_,rfl,o_,rfl,0,rfl⟩
  case round=>
   obtain ⟨k,hk,rfl,hfu,Hq,n,rfl⟩:=hrel;by_cases hlt:k<l.length
   ·have hlt2:k<m.length:=n55_
    have i5:(k:Int)<(l.length:Int):=o_;have i6:(k:Int)<(m.length:Int):=o_;obtain ⟨b1,o1,rfl,d0⟩:=HL.out k hlt;obtain ⟨b2,o2,rfl,e0⟩:=HM.out k hlt2;obtain ⟨x,hx⟩:=e_ (l[k]);obtain ⟨y,hy⟩:=e_ (m[k]);rw [<-hx] at d0;rw [<-hy] at e0;by_cases hb:x=y
    ·have HT:=h_ (show l.take (k+1)=m.take (k+1) by
      rw [List.take_succ_eq_append_getElem hlt,List.take_succ_eq_append_getElem hlt2,Hq.out,<-hx,<-hy,hb])
     have hq:(x !=y)=false:=by rw [hb];simp
     exact m62_
    ·have HR:=h_ (show r=false by
      rw [<-HRS.out];apply decide_eq_false;intro e;subst e;exact hb (hx.trans hy.symm))
     have hq:(x !=y)=true:=by rw [bne_iff_ne];exact hb
     exact m63_
   ·exact m61_
 ·have hne:((l.length:Int)!=(m.length:Int))=true:=n2_
  have HR:=h_ (show r=false by
   rw [<-HRS.out];apply decide_eq_false;intro e;exact hlen (by rw [e]))
  clear hlen;go_enter func18,ntmps18;exact m64_
theorem Zg9(oa ob:Option Addr)(ca cb:Nat)(l m:List (Str×Str))(w:World)(hl:ZB Xj 2 w oa l)(hm:ZB Xj 2 w ob m)(hll:l.length<=9223372036854775807)(hml:m.length<=9223372036854775807)(r:Bool)(hr:decide (l=m)=r) :
  Calls prog 20 #[.slice oa l.length ca,.slice ob m.length cb] w fun e w'=>e=.returned (.bool r)/\∃n,w'=w.drewN n:=by
 have HRS:=h_ hr;clear hr;by_cases hlen:l.length=m.length
 ·have hne:((l.length:Int)!=(m.length:Int))=false:=by simp [hlen]
  have Hlen:=h_ hlen;clear hlen;have HL:=h_ hl;clear hl;have HM:=h_ hm;clear hm;go_enter func20,ntmps20;go_wp2_with fail;go_loopg [13] (l.length+1) (fun f i wr=>∃k:Nat,k<=l.length/\i=.int .i64 k/\l.length-k<f/\Hid (l.take k=m.take k)/\∃n,wr=w.drewN n)
  case atStart=>exact ⟨0,o_,rfl,o_,rfl,0,rfl⟩
  case round=>
   obtain ⟨k,hk,rfl,hfu,Hq,n,rfl⟩:=hrel;by_cases hlt:k<l.length
   ·have hlt2:k<m.length:=n55_
    have i5:(k:Int)<(l.length:Int):=o_;have i6:(k:Int)<(m.length:Int):=o_;obtain ⟨x,hx⟩:=e_ (l[k]);obtain ⟨y,hy⟩:=e_ (m[k]);obtain ⟨b1,o1,rfl,-,hc1⟩:=HL.out k hlt;obtain ⟨b2,o2,rfl,-,hc2⟩:=HM.out k hlt2;rw [<-hx] at hc1;rw [<-hy] at hc2;have d0:=hc1 0 _ rfl;have d1:=hc1 1 _ rfl;have e0:=hc2 0 _ rfl;have e1:=hc2 1 _ rfl;simp only [Nat.add_zero] at d0 e0;clear hc1 hc2;by_cases hb:x=y
    ·have HT:=h_ (show l.take (k+1)=m.take (k+1) by
      rw [List.take_succ_eq_append_getElem hlt,List.take_succ_eq_append_getElem hlt2,Hq.out,<-hx,<-hy,hb])
     have hgd:=Zdy;have hrun:=ZgF x y true (by rw [hb];simp);exact m62_
    ·have HR:=h_ (show r=false by
      rw [<-HRS.out];apply decide_eq_false;intro e;subst e;exact hb (hx.trans hy.symm))
     have hgd:=Zdy;have hrun:=ZgF x y false (by exact decide_eq_false hb);exact m63_
   ·exact m61_
 ·have hne:((l.length:Int)!=(m.length:Int))=true:=n2_
  have HR:=h_ (show r=false by
   rw [<-HRS.out];apply decide_eq_false;intro e;exact hlen (by rw [e]))
  clear hlen;go_enter func20,ntmps20;exact m64_
theorem Ziw(oa ob:Option Addr)(ca cb:Nat)(l m:List (Int×Str))(w:World)(hl:ZB Jg 2 w oa l)(hm:ZB Jg 2 w ob m)(hll:l.length<=9223372036854775807)(hml:m.length<=9223372036854775807)(r:Bool)(hr:decide (l=m)=r) :
  Calls prog 21 #[.slice oa l.length ca,.slice ob m.length cb] w fun e w'=>e=.returned (.bool r)/\∃n,w'=w.drewN n:=by
 have HRS:=h_ hr;clear hr;by_cases hlen:l.length=m.length
 ·have hne:((l.length:Int)!=(m.length:Int))=false:=by simp [hlen]
  have Hlen:=h_ hlen;clear hlen;have HL:=h_ hl;clear hl;have HM:=h_ hm;clear hm;go_enter func21,ntmps21;go_wp2_with fail;go_loopg [13] (l.length+1) (fun f i wr=>∃k:Nat,k<=l.length/\i=.int .i64 k/\l.length-k<f/\Hid (l.take k=m.take k)/\∃n,wr=w.drewN n)
  case atStart=>exact ⟨0,o_,rfl,o_,rfl,0,rfl⟩
  case round=>
   obtain ⟨k,hk,rfl,hfu,Hq,n,rfl⟩:=hrel;by_cases hlt:k<l.length
   ·have hlt2:k<m.length:=n55_
    have i5:(k:Int)<(l.length:Int):=o_;have i6:(k:Int)<(m.length:Int):=o_;obtain ⟨x,hx⟩:=e_ (l[k]);obtain ⟨y,hy⟩:=e_ (m[k]);obtain ⟨b1,o1,rfl,-,hc1⟩:=HL.out k hlt;obtain ⟨b2,o2,rfl,-,hc2⟩:=HM.out k hlt2;rw [<-hx] at hc1;rw [<-hy] at hc2;have d0:=hc1 0 _ rfl;have d1:=hc1 1 _ rfl;have e0:=hc2 0 _ rfl;have e1:=hc2 1 _ rfl;simp only [Nat.add_zero] at d0 e0;clear hc1 hc2;by_cases hb:x=y
    ·have HT:=h_ (show l.take (k+1)=m.take (k+1) by
      rw [List.take_succ_eq_append_getElem hlt,List.take_succ_eq_append_getElem hlt2,Hq.out,<-hx,<-hy,hb])
     have hgd:=J2;have hrun:=ZgT x y true (by rw [hb];simp);exact m62_
    ·have HR:=h_ (show r=false by
      rw [<-HRS.out];apply decide_eq_false;intro e;subst e;exact hb (hx.trans hy.symm))
     have hgd:=J2;have hrun:=ZgT x y false (by exact decide_eq_false hb);exact m63_
   ·exact m61_
 ·have hne:((l.length:Int)!=(m.length:Int))=true:=n2_
  have HR:=h_ (show r=false by
   rw [<-HRS.out];apply decide_eq_false;intro e;exact hlen (by rw [e]))
  clear hlen;go_enter func21,ntmps21;exact m64_
def Jk:List (Str×Nat):=[(ZdA,2),(JU,23),(ZI,24),(Qc,24),(Zbh,34)]
theorem ZkC(U o:Nat)(w:World):∀p∈Jk,Calls prog 63 #[.pointer (some ⟨U,o,none⟩),.string ⟨p.1.toArray⟩] w fun e w'=>e=.returned (.pointer (some ⟨U,o+p.2,none⟩))/\w'=w:=by
 intro p hp;simp only [Jk,List.mem_cons,List.not_mem_nil,or_false] at hp;rcases hp with rfl|rfl|rfl|rfl|rfl<;>(go_enter func63,ntmps63;go_wp2_with fail;go_ret;exact ⟨rfl,rfl⟩)
theorem ZdS(U:Nat)(w:World)(p)(hp:p∈Jk):Calls prog 63 #[.pointer (some ⟨U,0,none⟩),.string ⟨p.1.toArray⟩] w fun e w'=>e=.returned (.pointer (some ⟨U,p.2,none⟩))/\w'=w:=by
 have h:=ZkC U 0 w p hp
 rwa [Nat.zero_add] at h
def Za0:List (Str×Nat):=[(JI,3),(Za1,13),(ZeT,29)]
theorem Zjy(U o:Nat)(w:World):∀p∈Za0,Calls prog 64 #[.pointer (some ⟨U,o,none⟩),.string ⟨p.1.toArray⟩] w fun e w'=>e=.returned (.pointer (some ⟨U,o+p.2,none⟩))/\w'=w:=by
 intro p hp;simp only [Za0,List.mem_cons,List.not_mem_nil,or_false] at hp;rcases hp with rfl|rfl|rfl<;>(go_enter func64,ntmps64;go_wp2_with fail;go_ret;exact ⟨rfl,rfl⟩)
theorem ZiW(U:Nat)(w:World)(p)(hp:p∈Za0):Calls prog 64 #[.pointer (some ⟨U,0,none⟩),.string ⟨p.1.toArray⟩] w fun e w'=>e=.returned (.pointer (some ⟨U,p.2,none⟩))/\w'=w:=by
 have h:=Zjy U 0 w p hp
 rwa [Nat.zero_add] at h
def Xr:List (Str×Nat):=[(QZ,5),(Zbg,6),(Zhu,7),(Za3,14),(Zez,15),(Za9,16),(ZbG,17),(ZkK,22)]
theorem ZgZ(U o:Nat)(w:World):∀p∈Xr,Calls prog 66 #[.pointer (some ⟨U,o,none⟩),.string ⟨p.1.toArray⟩] w fun e w'=>e=.returned (.pointer (some ⟨U,o+p.2,none⟩))/\w'=w:=by
 intro p hp;simp only [Xr,List.mem_cons,List.not_mem_nil,or_false] at hp;rcases hp with rfl|rfl|rfl|rfl|rfl|rfl|rfl|rfl<;>(go_enter func66,ntmps66;go_wp2_with fail;go_ret;exact ⟨rfl,rfl⟩)
theorem Zac(U:Nat)(w:World)(p)(hp:p∈Xr):Calls prog 66 #[.pointer (some ⟨U,0,none⟩),.string ⟨p.1.toArray⟩] w fun e w'=>e=.returned (.pointer (some ⟨U,p.2,none⟩))/\w'=w:=by
 have h:=ZgZ U 0 w p hp
 rwa [Nat.zero_add] at h
def XT:List (Str×Nat):=[(Zaa,18),(ZcQ,21),(ZgV,25),(ZdO,26),(Zaj,27)]
theorem ZfZ(U o:Nat)(w:World):∀p∈XT,Calls prog 114 #[.pointer (some ⟨U,o,none⟩),.string ⟨p.1.toArray⟩] w fun e w'=>e=.returned (.pointer (some ⟨U,o+p.2,none⟩))/\w'=w:=by
 intro p hp;simp only [XT,List.mem_cons,List.not_mem_nil,or_false] at hp;rcases hp with rfl|rfl|rfl|rfl|rfl<;>(go_enter func114,ntmps114;go_wp2_with fail;go_ret;exact ⟨rfl,rfl⟩)
theorem ZbH(U:Nat)(w:World)(p)(hp:p∈XT):Calls prog 114 #[.pointer (some ⟨U,0,none⟩),.string ⟨p.1.toArray⟩] w fun e w'=>e=.returned (.pointer (some ⟨U,p.2,none⟩))/\w'=w:=by
 have h:=ZfZ U 0 w p hp
 rwa [Nat.zero_add] at h
def QM:List (Str×Nat):=[(ZfK,20),(Zex,28),(Zeb,30),(ZbW,31),(Zlw,32),(ZoI,33)]
theorem ZiT(U o:Nat)(w:World):∀p∈QM,Calls prog 73 #[.pointer (some ⟨U,o,none⟩),.string ⟨p.1.toArray⟩] w fun e w'=>e=.returned (.pointer (some ⟨U,o+p.2,none⟩))/\w'=w:=by
 intro p hp;simp only [QM,List.mem_cons,List.not_mem_nil,or_false] at hp;rcases hp with rfl|rfl|rfl|rfl|rfl|rfl<;>(go_enter func73,ntmps73;go_wp2_with fail;go_ret;exact ⟨rfl,rfl⟩)
theorem ZcP(U:Nat)(w:World)(p)(hp:p∈QM):Calls prog 73 #[.pointer (some ⟨U,0,none⟩),.string ⟨p.1.toArray⟩] w fun e w'=>e=.returned (.pointer (some ⟨U,p.2,none⟩))/\w'=w:=by
 have h:=ZiT U 0 w p hp
 rwa [Nat.zero_add] at h
def ZaA:List (Str×Nat):=[(ZcC,8),(ZfU,9),(ZbV,10),(ZhX,11),(ZeS,12)]
theorem ZiE(U o:Nat)(w:World):∀p∈ZaA,Calls prog 70 #[.pointer (some ⟨U,o,none⟩),.string ⟨p.1.toArray⟩] w fun e w'=>e=.returned (.pointer (some ⟨U,o+p.2,none⟩))/\w'=w:=by
 intro p hp;simp only [ZaA,List.mem_cons,List.not_mem_nil,or_false] at hp;rcases hp with rfl|rfl|rfl|rfl|rfl<;>(go_enter func70,ntmps70;go_wp2_with fail;go_ret;exact ⟨rfl,rfl⟩)
theorem Zg0(U:Nat)(w:World)(p)(hp:p∈ZaA):Calls prog 70 #[.pointer (some ⟨U,0,none⟩),.string ⟨p.1.toArray⟩] w fun e w'=>e=.returned (.pointer (some ⟨U,p.2,none⟩))/\w'=w:=by
 have h:=ZiE U 0 w p hp
 rwa [Nat.zero_add] at h
def ZfI:List Str:=[ZhA,Zo1,Zgw,Zjc,Zmz,Zga,Zmu,Zo9,ZfD,ZfK,Zeb,ZbW,Zlw,ZoI]
theorem Ze3(w:World):∀s∈ZfI,Calls prog 119 #[.string ⟨s.toArray⟩] w fun e w'=>e=.returned (.int .i64 (Y6 s:Nat))/\w'=w:=by
 intro s hs;simp only [ZfI,List.mem_cons,List.not_mem_nil,or_false] at hs;rcases hs with rfl|rfl|rfl|rfl|rfl|rfl|rfl|rfl|rfl|rfl|rfl|rfl|rfl|rfl<;>(go_enter func119,ntmps119;go_wp2_with fail;go_ret;exact ⟨rfl,rfl⟩)
theorem ZhZ:∀k∈Zx,k.form=6->k.name∈ZfI:=n12_
end Go.Proofs.YtgoooebfhdbbkaaGreatDoor
