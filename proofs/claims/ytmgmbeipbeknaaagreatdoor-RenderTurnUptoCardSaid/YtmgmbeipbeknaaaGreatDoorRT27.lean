import Derived.Test.YtmgmbeipbeknaaaGreatDoorRT5
import Derived.Test.YtmgmbeipbeknaaaGreatDoorRT9
import Derived.Test.YtmgmbeipbeknaaaGreatDoorRT14
import Derived.Test.YtmgmbeipbeknaaaGreatDoorRT15
import Derived.Test.YtmgmbeipbeknaaaGreatDoorRT26
namespace Go.Proofs.YtmgmbeipbeknaaaGreatDoor
set_option linter.unusedVariables false
set_option linter.unusedSimpArgs false
set_option maxHeartbeats 16000000
structure Zsm where
 kind:Nat
 pre:Str
 inst:Str
 at_:Bool
deriving DecidableEq
def Zs1:Zsm:=⟨0,[],[],false⟩
def ofS(s:Str):Zsm:=if ZH s=0 then Zs1 else ⟨ZH s,(cutAt (YV s).1).1,(cutAt (YV s).1).2.1,(cutAt (YV s).1).2.2⟩
theorem Zmj(t:Str)(k:Nat)(h1:1<=k)(h4:k<=4):kindOf t=k↔t=Jp k:=by
 constructor
 ·intro h
  unfold kindOf at h;split at h
  ·subst h;assumption
  split at h
  ·subst h;assumption
  split at h
  ·subst h;assumption
  split at h
  ·subst h;assumption
  ·omega
 ·rintro rfl
  match k,h1,h4 with
  |1,_,_=>decide
  |2,_,_=>decide
  |3,_,_=>decide
  |4,_,_=>decide
theorem Zra(k:Nat):(Jp k).length<=7:=by
 unfold Jp;repeat' split<;>first|decide|skip
theorem Zph{s:Str}{k:Nat}(h1:1<=k)(h4:k<=4)(hn:(YV s).1≠[])(hk:kindOf (YV s).2=k):s=(YV s).1++46::Jp k:=by
 rw [Zmj _ k h1 h4] at hk;rw [<-hk];unfold YV at *;rcases Zc9 s with ⟨h,_⟩|⟨a,b,h,h2,_⟩
 ·rw [h] at hn;exact absurd rfl hn
 ·rw [h];exact h2
def Zhl(c:UInt8):Bool:=ZR c||(isDigit c||(c==58||(c==95||c==46)))
def ZO:Str->Option Str
 |[]=>some []
 |c::t=>
  if c=45 then (ZO t).map fun r=>47::r
  else if Zhl c=true then (ZO t).map fun r=>c::r
  else match c,t with
   |92,120::a::b::u=>match Qj [a,b] with
    |none=>none
    |some d=>(ZO u).map fun r=>d::r
   |_,_=>none
def Xk(unit:Str)(c:UInt8):Option Str:=
 if c=37 then some [37]
 else if c=110 then some unit
 else if c=78 then some (YV unit).1
 else if c=112 then some (ofS unit).pre
 else if c=105 then some (ofS unit).inst
 else if c=73 then some ((ZO (ofS unit).inst).getD (ofS unit).inst)
 else none
def Jl(unit:Str):Str->Option Str
 |[]=>some []
 |[c]=>if c=37 then none else some [c]
 |c::d::t=>
  if c=37 then (match Xk unit d with
   |none=>none
   |some x=>(Jl unit t).map fun r=>x++r)
  else (Jl unit (d::t)).map fun r=>c::r
def QF(s unit:Str):Except Int Str:=if ZH unit=0 then .error 5 else match Jl unit s with|none=>.error 14|some r=>.ok r
abbrev Qs:=Bool×List Str
inductive UC where
 |s (x:Str)
 |n (x:Int)
 |b (x:Bool)
 |ss (l:List Str)
 |ns (l:List Int)
 |rs (l:List (Int×Str))
 |cs (l:List Qs)
 |ps (l:List (Str×Str))
deriving DecidableEq
namespace UC
def str:UC->Str|.s x=>x|_=>[]
def num:UC->Int|.n x=>x|_=>0
def strs:UC->List Str|.ss l=>l|_=>[]
def nums:UC->List Int|.ns l=>l|_=>[]
def rels:UC->List (Int×Str)|.rs l=>l|_=>[]
def cmds:UC->List Qs|.cs l=>l|_=>[]
def prs:UC->List (Str×Str)|.ps l=>l|_=>[]
def len:UC->Nat
 |.ss l=>l.length
 |.ns l=>l.length
 |.rs l=>l.length
 |.cs l=>l.length
 |.ps l=>l.length
 |_=>0
end UC
abbrev UV:=Nat->UC
def UV.upd(u:UV)(i:Nat)(c:UC):UV:=fun j=>if j=i then c else u j
theorem UV.upd_at(u:UV)(i:Nat)(c:UC):u.upd i c i=c:=by unfold UV.upd;rw [if_pos rfl]
theorem UV.upd_ne(u:UV){i j:Nat}(c:UC)(h:j≠i):u.upd i c j=u j:=by unfold UV.upd;rw [if_neg h]
def ZF:UV:=fun i=>
 if i=1\/i=5\/i=6\/i=7\/i=14\/i=15\/i=16\/i=17\/i=22 then .n 0
 else if i=3\/i=13\/i=29 then .b false
 else if i=4 then .rs []
 else if i=8\/i=9\/i=10\/i=11\/i=12 then .cs []
 else if i=18\/i=21\/i=25\/i=26\/i=27 then .ns []
 else if i=19 then .ps []
 else if i=20\/i=28\/i=30\/i=31\/i=32\/i=33 then .ss []
 else .s []
def ZT(unit:Str):UV:=
 if ZH unit=0 then ZF else
  let u:=((((ZF.upd 0 (.s unit)).upd 1 (.n (ZH unit:Nat))).upd 3 (.b true)).upd 5 (.n 10)).upd 6 (.n 5)
  if ZH unit=1 then (((u.upd 7 (.n 1)).upd 14 (.n 1)).upd 16 (.n 90)).upd 17 (.n 90)
  else if ZH unit=2 then u.upd 22 (.n 16)
  else u
def Yp(key:Str):Nat:=List.idxOf key [[82,101,113,117,105,114,101,115],[87,97,110,116,115],[82,101,113,117,105,115,105,116,101],[66,105,110,100,115,84,111],[80,97,114,116,79,102],[67,111,110,102,108,105,99,116,115],[66,101,102,111,114,101],[65,102,116,101,114],[79,110,70,97,105,108,117,114,101]] % 9+(if key∈([[82,101,113,117,105,114,101,115],[87,97,110,116,115],[82,101,113,117,105,115,105,116,101],[66,105,110,100,115,84,111],[80,97,114,116,79,102],[67,111,110,102,108,105,99,116,115],[66,101,102,111,114,101],[65,102,116,101,114],[79,110,70,97,105,108,117,114,101]]:List Str) then 1 else 0)
def JB{α:Type}[DecidableEq α](l some_:List α):List α:=if some_=[] then [] else some_.foldl (fun l x=>if x∈l then l else l++[x]) l
def QH{α:Type}(l:List α)(v:Str)(x:α):List α:=if v=[] then [] else l++[x]
def X6(l:List (Str×Str)):List (Str×Str)->List (Str×Str)
 |[]=>l
 |p::t=>X6 (l.filter (fun x=>x.1 !=p.1)++[p]) t
def ZV(name:Str)(rel:Int):List (Int×Str)->List Str->List (Int×Str)
 |l,[]=>l
 |l,s::t=>ZV name rel (if s≠name/\(rel,s)∉l then l++[(rel,s)] else l) t
def ZiP:List (Str×Nat):=[([68,101,115,99,114,105,112,116,105,111,110],2),([68,101,102,97,117,108,116,68,101,112,101,110,100,101,110,99,105,101,115],3),([83,116,97,114,116,76,105,109,105,116,73,110,116,101,114,118,97,108,83,101,99],5),([83,116,97,114,116,76,105,109,105,116,66,117,114,115,116],6),([84,121,112,101],7),([69,120,101,99,83,116,97,114,116,80,114,101],8),([69,120,101,99,83,116,97,114,116],9),([69,120,101,99,83,116,97,114,116,80,111,115,116],10),([69,120,101,99,83,116,111,112],11),([69,120,101,99,82,101,108,111,97,100],12),([82,101,109,97,105,110,65,102,116,101,114,69,120,105,116],13),([82,101,115,116,97,114,116],14),([82,101,115,116,97,114,116,83,101,99],15),([84,105,109,101,111,117,116,83,116,97,114,116,83,101,99],16),([84,105,109,101,111,117,116,83,116,111,112,83,101,99],17),([83,117,99,99,101,115,115,69,120,105,116,83,116,97,116,117,115],18),([69,110,118,105,114,111,110,109,101,110,116],19),([83,111,99,107,101,116,115],20),([76,105,115,116,101,110,83,116,114,101,97,109],21),([66,97,99,107,108,111,103],22),([70,105,108,101,68,101,115,99,114,105,112,116,111,114,78,97,109,101],23),([83,101,114,118,105,99,101],24),([85,110,105,116],24),([79,110,66,111,111,116,83,101,99],25),([79,110,65,99,116,105,118,101,83,101,99],26),([79,110,85,110,105,116,73,110,97,99,116,105,118,101,83,101,99],27),([79,110,67,97,108,101,110,100,97,114],28),([80,101,114,115,105,115,116,101,110,116],29),([87,97,110,116,101,100,66,121],30),([82,101,113,117,105,114,101,100,66,121],31),([65,108,105,97,115],32),([65,108,115,111],33),([68,101,102,97,117,108,116,73,110,115,116,97,110,99,101],34)]
def Zh(key:Str):Nat:=match ZiP.find? (fun p=>p.1==key) with|some p=>p.2|none=>4
def ZdH(v:Str):Bool:=v==[121,101,115]||(v==[116,114,117,101]||v==[49])
def QV:List Str->Str->Nat->Int
 |[],_,_=>-1
 |x::t,s,i=>if x=s then (i:Int) else QV t s (i+1)
def Z6(name:Str)(k:ZQ)(v:Str)(c:UC):UC:=
 if k.form=1\/k.form=5 then .s v
 else if k.form=2 then .b (ZdH v)
 else if k.form=3 then .n (Jj v).1
 else if k.form=10 then .n (QV k.words v 0+1)
 else if k.form=7 then .cs (QH c.cmds v ((Zbf v).getD (false,[])))
 else if k.form=8 then .ps (X6 (if v=[] then [] else c.prs) (ZdZ v).1)
 else if k.form=9 then .ss (QH c.strs v v)
 else if k.form=11 then .ns (JB c.nums ((Zo v).map fun w=>(Jj w).1))
 else if k.form=4 then (if k.list then .ns (QH c.nums v (QC v).1) else .n (QC v).1)
 else if Yp k.name=0 then .ss (JB c.strs (Zo v))
 else .rs (ZV name (Yp k.name:Nat) (if v=[] then c.rels.filter (fun r=>r.1 !=(Yp k.name:Nat)) else c.rels) (Zo v))
def Zao(k:ZQ)(v:Str):Bool:=
 if k.form=5 then (k.name !=[83,101,114,118,105,99,101]||ZH v==1)
 else if k.form=11 then (k.name !=[76,105,115,116,101,110,83,116,114,101,97,109]||!((Zo v).any fun w=>(Jj w).1==0))
 else true
def QI:List Nat:=[8,9,10,11,12,18,19,20,21,25,26,27,28,30,31,32,33]
def Zbz(u:UV):Bool:=decide (64<(u 4).len)||QI.any fun i=>decide (16<(u i).len)
def Qx(name:Str)(kind:Int)(u:UV)(x:Ln):Except Int UV:=
 match QF x.val name with
 |.error e=>.error e
 |.ok v=>
  if lnS kind { x with val:=v }≠0 then .error (lnS kind { x with val:=v })
  else match findKey x.sec x.key with
   |none=>.error 11
   |some k=>
    if Zao k v=false then .error 12
    else if Zbz (u.upd (Zh k.name) (Z6 name k v (u (Zh k.name))))=true then .error 2
    else .ok (u.upd (Zh k.name) (Z6 name k v (u (Zh k.name))))
def QL(name:Str)(kind:Int):UV->List Ln->Except (Int×Int) UV
 |u,[]=>.ok u
 |u,x::t=>match Qx name kind u x with
  |.error e=>.error (e,x.at_)
  |.ok r=>QL name kind r t
def Zan(kind:Int)(u:UV):Int:=
 if (kind=1/\(u 9).len=0)\/(kind=2/\(u 21).len=0)\/(kind=3/\(u 25).len+(u 26).len+(u 27).len+(u 28).len=0) then 6
 else if kind=1/\(u 7).num≠2/\1<(u 9).len then 7
 else 0
def Qu(name:Str)(l:List Ln):UV×(Int×Int):=
 if ZH name=0\/Zhi name=true then (ZF,(5,0))
 else match QL name (ZH name:Nat) (ZT name) l with
  |.error e=>(ZF,e)
  |.ok u=>if Zan (ZH name:Nat) u≠0 then (ZF,(Zan (ZH name:Nat) u,0)) else (u,(0,0))
def Xy:Str->Str
 |[]=>[]
 |c::t=>if c=37 then 37::37::Xy t else c::Xy t
theorem Zln(unit:Str)(c:UInt8)(t:Str)(hc:c≠37):Jl unit (c::t)=(Jl unit t).map fun r=>c::r:=by
 cases t with
 |nil=>
  show (if c=37 then none else some [c])=_;rw [if_neg hc];rfl
 |cons d t=>rw [Jl,if_neg hc]
theorem Zgg(unit:Str):∀v:Str,Jl unit (Xy v)=some v
 |[]=>rfl
 |c::t=>by
  rw [Xy];by_cases hc:c=37
  ·rw [if_pos hc,Jl,if_pos rfl]
   have hs:Xk unit 37=some [37]:=by unfold Xk;rw [if_pos rfl]
   rw [hs,Zgg unit t,hc];rfl
  ·rw [if_neg hc,Zln unit c _ hc,Zgg unit t]
   rfl
def ZfY(u v:UV):Prop:=∀j,j≠0->u j=v j
theorem ZfY.upd{u v:UV}(h:ZfY u v)(i:Nat)(c:UC):ZfY (u.upd i c) (v.upd i c):=by
 intro j hj;unfold UV.upd;by_cases e:j=i
 ·rw [if_pos e,if_pos e]
 ·rw [if_neg e,if_neg e];exact h j hj
theorem ZfY.whole{u v:UV}(h:ZfY u v)(kind:Int):Zan kind u=Zan kind v:=by
 unfold Zan;rw [h 7 d_,h 9 d_,h 21 d_,h 25 d_,h 26 d_,h 27 d_,h 28 d_]
def Zk0(i:Nat)(c:UC):Bool:=if i=4 then decide (64<c.len) else QI.contains i&&decide (16<c.len)
def okU(u:UV):Prop:=∀j,Zk0 j (u j)=false
theorem Znv(u:UV):Zbz u=false↔okU u:=by
 unfold Zbz okU;rw [Bool.or_eq_false_iff];constructor
 ·rintro ⟨h4,hl⟩ j
  unfold Zk0;split
  ·rename_i e;rw [e];exact h4
  ·cases hc:QI.contains j with
   |false=>rfl
   |true=>
    have:=List.any_eq_false.1 hl j n87_
    simpa using this
 ·intro h
  refine ⟨by have:=h 4;unfold Zk0 at this;rw [if_pos rfl] at this;exact this,?_⟩;rw [List.any_eq_false];intro j hj
  have:=h j
  unfold Zk0 at this;have hne:j≠4:=by rintro rfl;revert hj;decide
  rw [if_neg hne,show QI.contains j=true from by simpa using hj] at this;simpa using this
theorem ZnD(name:Str)(kind:Int)(u:UV)(x:Ln)(e:Int)(h:Qx name kind u x=.error e):e≠0:=by
 unfold Qx at h;cases hs:QF x.val name with
 |error c=>
  rw [hs] at h;injection h with h
  subst h;unfold QF at hs;split at hs
  ·injection hs with hs;subst hs;decide
  ·split at hs
   ·injection hs with hs;subst hs;decide
   ·cases hs
 |ok v=>
  rw [hs] at h;simp only at h;by_cases h0:lnS kind { x with val:=v }≠0
  ·rw [if_pos h0] at h
   injection h with h
   subst h;exact h0
  ·rw [if_neg h0] at h
   cases hk:findKey x.sec x.key with
   |none=>rw [hk] at h;injection h with h;subst h;decide
   |some k=>
    rw [hk] at h;simp only at h;split at h
    ·injection h with h;subst h;decide
    ·split at h
     ·injection h with h;subst h;decide
     ·cases h
end Go.Proofs.YtmgmbeipbeknaaaGreatDoor
