import Derived.Test.YtmgmbeipbeknaaaGreatDoorRF1
import Derived.Test.YtmgmbeipbeknaaaGreatDoorRF4
import Derived.Test.YtmgmbeipbeknaaaGreatDoorRF9
import Derived.Test.YtmgmbeipbeknaaaGreatDoorRF10
import Derived.Test.YtmgmbeipbeknaaaGreatDoorRF25
namespace Go.Proofs.YtmgmbeipbeknaaaGreatDoor
set_option linter.unusedVariables false
set_option linter.unusedSimpArgs false
set_option maxHeartbeats 16000000
structure Zr3 where
 kind:Nat
 pre:Str
 inst:Str
 at_:Bool
deriving DecidableEq
def Zsg:Zr3:=⟨0,[],[],false⟩
def ofS(s:Str):Zr3:=if ZB s=0 then Zsg else ⟨ZB s,(cutAt (Y0 s).1).1,(cutAt (Y0 s).1).2.1,(cutAt (Y0 s).1).2.2⟩
theorem Zk7(t:Str)(k:Nat)(h1:1<=k)(h4:k<=4):kindOf t=k↔t=Je k:=by
 constructor
 ·intro h
  unfold kindOf at h;split at h
  ·subst h;assumption
  split at h
  ·subst h;assumption
  split at h
  ·subst h;assumption
  split at h
  ·subst h;assumption
  ·omega
 ·rintro rfl
  match k,h1,h4 with
  |1,_,_=>decide
  |2,_,_=>decide
  |3,_,_=>decide
  |4,_,_=>decide
theorem ZqP(k:Nat):(Je k).length<=7:=by
 unfold Je;repeat' split<;>first|decide|skip
theorem ZpV{s:Str}{k:Nat}(h1:1<=k)(h4:k<=4)(hn:(Y0 s).1≠[])(hk:kindOf (Y0 s).2=k):s=(Y0 s).1++46::Je k:=by
 rw [Zk7 _ k h1 h4] at hk;rw [<-hk];unfold Y0 at *;rcases Zdj s with ⟨h,_⟩|⟨a,b,h,h2,_⟩
 ·rw [h] at hn;exact absurd rfl hn
 ·rw [h];exact h2
def Zho(c:UInt8):Bool:=Yd c||(isDigit c||(c==58||(c==95||c==46)))
def ZQ:Str->Option Str
 |[]=>some []
 |c::t=>
  if c=45 then (ZQ t).map fun r=>47::r
  else if Zho c=true then (ZQ t).map fun r=>c::r
  else match c,t with
   |92,120::a::b::u=>match Qd [a,b] with
    |none=>none
    |some d=>(ZQ u).map fun r=>d::r
   |_,_=>none
def Xg(unit:Str)(c:UInt8):Option Str:=
 if c=37 then some [37]
 else if c=110 then some unit
 else if c=78 then some (Y0 unit).1
 else if c=112 then some (ofS unit).pre
 else if c=105 then some (ofS unit).inst
 else if c=73 then some ((ZQ (ofS unit).inst).getD (ofS unit).inst)
 else none
def Qp(unit:Str):Str->Option Str
 |[]=>some []
 |[c]=>if c=37 then none else some [c]
 |c::d::t=>
  if c=37 then (match Xg unit d with
   |none=>none
   |some x=>(Qp unit t).map fun r=>x++r)
  else (Qp unit (d::t)).map fun r=>c::r
def Xm(s unit:Str):Except Int Str:=if ZB unit=0 then .error 5 else match Qp unit s with|none=>.error 14|some r=>.ok r
abbrev JB:=Bool×List Str
inductive UC where
 |s (x:Str)
 |n (x:Int)
 |b (x:Bool)
 |ss (l:List Str)
 |ns (l:List Int)
 |rs (l:List (Int×Str))
 |cs (l:List JB)
 |ps (l:List (Str×Str))
deriving DecidableEq
namespace UC
def str:UC->Str|.s x=>x|_=>[]
def num:UC->Int|.n x=>x|_=>0
def strs:UC->List Str|.ss l=>l|_=>[]
def nums:UC->List Int|.ns l=>l|_=>[]
def rels:UC->List (Int×Str)|.rs l=>l|_=>[]
def cmds:UC->List JB|.cs l=>l|_=>[]
def prs:UC->List (Str×Str)|.ps l=>l|_=>[]
def len:UC->Nat
 |.ss l=>l.length
 |.ns l=>l.length
 |.rs l=>l.length
 |.cs l=>l.length
 |.ps l=>l.length
 |_=>0
end UC
abbrev UV:=Nat->UC
def UV.upd(u:UV)(i:Nat)(c:UC):UV:=fun j=>if j=i then c else u j
theorem UV.upd_at(u:UV)(i:Nat)(c:UC):u.upd i c i=c:=by unfold UV.upd;rw [if_pos rfl]
theorem UV.upd_ne(u:UV){i j:Nat}(c:UC)(h:j≠i):u.upd i c j=u j:=by unfold UV.upd;rw [if_neg h]
def Zy:UV:=fun i=>
 if i=1\/i=5\/i=6\/i=7\/i=14\/i=15\/i=16\/i=17\/i=22 then .n 0
 else if i=3\/i=13\/i=29 then .b false
 else if i=4 then .rs []
 else if i=8\/i=9\/i=10\/i=11\/i=12 then .cs []
 else if i=18\/i=21\/i=25\/i=26\/i=27 then .ns []
 else if i=19 then .ps []
 else if i=20\/i=28\/i=30\/i=31\/i=32\/i=33 then .ss []
 else .s []
def ZL(unit:Str):UV:=
 if ZB unit=0 then Zy else
  let u:=((((Zy.upd 0 (.s unit)).upd 1 (.n (ZB unit:Nat))).upd 3 (.b true)).upd 5 (.n 10)).upd 6 (.n 5)
  if ZB unit=1 then (((u.upd 7 (.n 1)).upd 14 (.n 1)).upd 16 (.n 90)).upd 17 (.n 90)
  else if ZB unit=2 then u.upd 22 (.n 16)
  else u
def ZI(key:Str):Nat:=List.idxOf key [[82,101,113,117,105,114,101,115],[87,97,110,116,115],[82,101,113,117,105,115,105,116,101],[66,105,110,100,115,84,111],[80,97,114,116,79,102],[67,111,110,102,108,105,99,116,115],[66,101,102,111,114,101],[65,102,116,101,114],[79,110,70,97,105,108,117,114,101]] % 9+(if key∈([[82,101,113,117,105,114,101,115],[87,97,110,116,115],[82,101,113,117,105,115,105,116,101],[66,105,110,100,115,84,111],[80,97,114,116,79,102],[67,111,110,102,108,105,99,116,115],[66,101,102,111,114,101],[65,102,116,101,114],[79,110,70,97,105,108,117,114,101]]:List Str) then 1 else 0)
def YK{α:Type}[DecidableEq α](l some_:List α):List α:=if some_=[] then [] else some_.foldl (fun l x=>if x∈l then l else l++[x]) l
def YF{α:Type}(l:List α)(v:Str)(x:α):List α:=if v=[] then [] else l++[x]
def Yv(l:List (Str×Str)):List (Str×Str)->List (Str×Str)
 |[]=>l
 |p::t=>Yv (l.filter (fun x=>x.1 !=p.1)++[p]) t
def ZK(name:Str)(rel:Int):List (Int×Str)->List Str->List (Int×Str)
 |l,[]=>l
 |l,s::t=>ZK name rel (if s≠name/\(rel,s)∉l then l++[(rel,s)] else l) t
def ZcG:List (Str×Nat):=[([68,101,115,99,114,105,112,116,105,111,110],2),([68,101,102,97,117,108,116,68,101,112,101,110,100,101,110,99,105,101,115],3),([83,116,97,114,116,76,105,109,105,116,73,110,116,101,114,118,97,108,83,101,99],5),([83,116,97,114,116,76,105,109,105,116,66,117,114,115,116],6),([84,121,112,101],7),([69,120,101,99,83,116,97,114,116,80,114,101],8),([69,120,101,99,83,116,97,114,116],9),([69,120,101,99,83,116,97,114,116,80,111,115,116],10),([69,120,101,99,83,116,111,112],11),([69,120,101,99,82,101,108,111,97,100],12),([82,101,109,97,105,110,65,102,116,101,114,69,120,105,116],13),([82,101,115,116,97,114,116],14),([82,101,115,116,97,114,116,83,101,99],15),([84,105,109,101,111,117,116,83,116,97,114,116,83,101,99],16),([84,105,109,101,111,117,116,83,116,111,112,83,101,99],17),([83,117,99,99,101,115,115,69,120,105,116,83,116,97,116,117,115],18),([69,110,118,105,114,111,110,109,101,110,116],19),([83,111,99,107,101,116,115],20),([76,105,115,116,101,110,83,116,114,101,97,109],21),([66,97,99,107,108,111,103],22),([70,105,108,101,68,101,115,99,114,105,112,116,111,114,78,97,109,101],23),([83,101,114,118,105,99,101],24),([85,110,105,116],24),([79,110,66,111,111,116,83,101,99],25),([79,110,65,99,116,105,118,101,83,101,99],26),([79,110,85,110,105,116,73,110,97,99,116,105,118,101,83,101,99],27),([79,110,67,97,108,101,110,100,97,114],28),([80,101,114,115,105,115,116,101,110,116],29),([87,97,110,116,101,100,66,121],30),([82,101,113,117,105,114,101,100,66,121],31),([65,108,105,97,115],32),([65,108,115,111],33),([68,101,102,97,117,108,116,73,110,115,116,97,110,99,101],34)]
def Zc(key:Str):Nat:=match ZcG.find? (fun p=>p.1==key) with|some p=>p.2|none=>4
def Zck(v:Str):Bool:=v==[121,101,115]||(v==[116,114,117,101]||v==[49])
def Qn:List Str->Str->Nat->Int
 |[],_,_=>-1
 |x::t,s,i=>if x=s then (i:Int) else Qn t s (i+1)
def Zi(name:Str)(k:ZC)(v:Str)(c:UC):UC:=
 if k.form=1\/k.form=5 then .s v
 else if k.form=2 then .b (Zck v)
 else if k.form=3 then .n (Xu v).1
 else if k.form=10 then .n (Qn k.words v 0+1)
 else if k.form=7 then .cs (YF c.cmds v ((XZ v).getD (false,[])))
 else if k.form=8 then .ps (Yv (if v=[] then [] else c.prs) (Jd v).1)
 else if k.form=9 then .ss (YF c.strs v v)
 else if k.form=11 then .ns (YK c.nums ((Zg v).map fun w=>(Xu w).1))
 else if k.form=4 then (if k.list then .ns (YF c.nums v (YO v).1) else .n (YO v).1)
 else if ZI k.name=0 then .ss (YK c.strs (Zg v))
 else .rs (ZK name (ZI k.name:Nat) (if v=[] then c.rels.filter (fun r=>r.1 !=(ZI k.name:Nat)) else c.rels) (Zg v))
def Qm(k:ZC)(v:Str):Bool:=
 if k.form=5 then (k.name !=[83,101,114,118,105,99,101]||ZB v==1)
 else if k.form=11 then (k.name !=[76,105,115,116,101,110,83,116,114,101,97,109]||!((Zg v).any fun w=>(Xu w).1==0))
 else true
def Qt:List Nat:=[8,9,10,11,12,18,19,20,21,25,26,27,28,30,31,32,33]
def Qi(u:UV):Bool:=decide (64<(u 4).len)||Qt.any fun i=>decide (16<(u i).len)
def YL(name:Str)(kind:Int)(u:UV)(x:Ln):Except Int UV:=
 match Xm x.val name with
 |.error e=>.error e
 |.ok v=>
  if lnS kind { x with val:=v }≠0 then .error (lnS kind { x with val:=v })
  else match findKey x.sec x.key with
   |none=>.error 11
   |some k=>
    if Qm k v=false then .error 12
    else if Qi (u.upd (Zc k.name) (Zi name k v (u (Zc k.name))))=true then .error 2
    else .ok (u.upd (Zc k.name) (Zi name k v (u (Zc k.name))))
def ZV(name:Str)(kind:Int):UV->List Ln->Except (Int×Int) UV
 |u,[]=>.ok u
 |u,x::t=>match YL name kind u x with
  |.error e=>.error (e,x.at_)
  |.ok r=>ZV name kind r t
def Q7(kind:Int)(u:UV):Int:=
 if (kind=1/\(u 9).len=0)\/(kind=2/\(u 21).len=0)\/(kind=3/\(u 25).len+(u 26).len+(u 27).len+(u 28).len=0) then 6
 else if kind=1/\(u 7).num≠2/\1<(u 9).len then 7
 else 0
def Z9(name:Str)(l:List Ln):UV×(Int×Int):=
 if ZB name=0\/Zcb name=true then (Zy,(5,0))
 else match ZV name (ZB name:Nat) (ZL name) l with
  |.error e=>(Zy,e)
  |.ok u=>if Q7 (ZB name:Nat) u≠0 then (Zy,(Q7 (ZB name:Nat) u,0)) else (u,(0,0))
theorem Zb1(name:Str)(kind:Int):∀(a b:List Ln) (u:UV),ZV name kind u (a++b)=match ZV name kind u a with
  |.error e=>.error e
  |.ok r=>ZV name kind r b
 |[],b,u=>rfl
 |x::t,b,u=>by
  rw [List.cons_append,ZV,ZV];cases YL name kind u x with
  |error e=>rfl
  |ok r=>exact Zb1 name kind t b r
theorem ZnN(name:Str)(l:List Ln):(Z9 name l).1=Zy\/(Z9 name l).2=(0,0):=by
 unfold Z9;split
 ·exact .inl rfl
 ·split
  ·exact .inl rfl
  ·split
   ·exact .inl rfl
   ·exact .inr rfl
def Xr:Str->Str
 |[]=>[]
 |c::t=>if c=37 then 37::37::Xr t else c::Xr t
theorem ZkD(unit:Str)(c:UInt8)(t:Str)(hc:c≠37):Qp unit (c::t)=(Qp unit t).map fun r=>c::r:=by
 cases t with
 |nil=>
  show (if c=37 then none else some [c])=_;rw [if_neg hc];rfl
 |cons d t=>rw [Qp,if_neg hc]
theorem ZfC(unit:Str):∀v:Str,Qp unit (Xr v)=some v
 |[]=>rfl
 |c::t=>by
  rw [Xr];by_cases hc:c=37
  ·rw [if_pos hc,Qp,if_pos rfl]
   have hs:Xg unit 37=some [37]:=by unfold Xg;rw [if_pos rfl]
   rw [hs,ZfC unit t,hc];rfl
  ·rw [if_neg hc,ZkD unit c _ hc,ZfC unit t]
   rfl
theorem ZpU(key:Str):2<=Zc key:=by
 have h0:∀p∈ZcG,2<=p.2:=d_;unfold Zc;cases h:ZcG.find? (fun p=>p.1==key) with
 |none=>decide
 |some p=>exact h0 p (List.mem_of_find?_eq_some h)
def Zgd(u v:UV):Prop:=∀j,j≠0->u j=v j
theorem Zgd.upd{u v:UV}(h:Zgd u v)(i:Nat)(c:UC):Zgd (u.upd i c) (v.upd i c):=by
 intro j hj;unfold UV.upd;by_cases e:j=i
 ·rw [if_pos e,if_pos e]
 ·rw [if_neg e,if_neg e];exact h j hj
theorem Zgd.whole{u v:UV}(h:Zgd u v)(kind:Int):Q7 kind u=Q7 kind v:=by
 unfold Q7;rw [h 7 d_,h 9 d_,h 21 d_,h 25 d_,h 26 d_,h 27 d_,h 28 d_]
def ZiO(i:Nat)(c:UC):Bool:=if i=4 then decide (64<c.len) else Qt.contains i&&decide (16<c.len)
def okU(u:UV):Prop:=∀j,ZiO j (u j)=false
theorem ZmP(u:UV):Qi u=false↔okU u:=by
 unfold Qi okU;rw [Bool.or_eq_false_iff];constructor
 ·rintro ⟨h4,hl⟩ j
  unfold ZiO;split
  ·rename_i e;rw [e];exact h4
  ·cases hc:Qt.contains j with
   |false=>rfl
   |true=>
    have:=List.any_eq_false.1 hl j n74_
    simpa using this
 ·intro h
  refine ⟨by have:=h 4;unfold ZiO at this;rw [if_pos rfl] at this;exact this,?_⟩;rw [List.any_eq_false];intro j hj
  have:=h j
  unfold ZiO at this;have hne:j≠4:=by rintro rfl;revert hj;decide
  rw [if_neg hne,show Qt.contains j=true from by simpa using hj] at this;simpa using this
theorem Zif(sec name:Str)(k:ZC)(h:findKey sec name=some k):k.sec=sec/\k.name=name:=by
 unfold findKey at h
 have:=List.find?_some h
 simpa using this
theorem Zhp(name:Str)(kind:Int)(u:UV)(x:Ln)(e:Int)(h:YL name kind u x=.error e):e≠0:=by
 unfold YL at h;cases hs:Xm x.val name with
 |error c=>
  rw [hs] at h;injection h with h
  subst h;unfold Xm at hs;split at hs
  ·injection hs with hs;subst hs;decide
  ·split at hs
   ·injection hs with hs;subst hs;decide
   ·cases hs
 |ok v=>
  rw [hs] at h;simp only at h;by_cases h0:lnS kind { x with val:=v }≠0
  ·rw [if_pos h0] at h
   injection h with h
   subst h;exact h0
  ·rw [if_neg h0] at h
   cases hk:findKey x.sec x.key with
   |none=>rw [hk] at h;injection h with h;subst h;decide
   |some k=>
    rw [hk] at h;simp only at h;split at h
    ·injection h with h;subst h;decide
    ·split at h
     ·injection h with h;subst h;decide
     ·cases h
theorem ZfW(name:Str)(kind:Int):∀(l:List Ln) (u:UV) (e:Int×Int),ZV name kind u l=.error e->e.1≠0
 |[],u,e,h=>n61_
 |x::t,u,e,h=>by
  rw [ZV] at h;cases hx:YL name kind u x with
  |error c=>rw [hx] at h;injection h with h;subst h;exact Zhp name kind u x c hx
  |ok r=>rw [hx] at h;exact ZfW name kind t r e h
end Go.Proofs.YtmgmbeipbeknaaaGreatDoor
