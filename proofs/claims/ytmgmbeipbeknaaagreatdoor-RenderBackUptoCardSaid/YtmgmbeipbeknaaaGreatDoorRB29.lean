import Derived.Lib.ItoaNum
import Derived.Test.YtmgmbeipbeknaaaGreatDoorRB22
import Derived.Test.YtmgmbeipbeknaaaGreatDoorRB23
import Derived.Test.YtmgmbeipbeknaaaGreatDoorRB28
namespace Go.Proofs.YtmgmbeipbeknaaaGreatDoor
set_option linter.all false
set_option maxHeartbeats 16000000
theorem Zef(name:Str)(kind:Int):∀(a b:List Ln) (u:UV),Z9 name kind u (a++b)=match Z9 name kind u a with
  |.error e=>.error e
  |.ok r=>Z9 name kind r b
 |[],b,u=>rfl
 |x::t,b,u=>by
  rw [c12_,Z9,Z9];cases Xi name kind u x with
  |error e=>rfl
  |ok r=>exact Zef name kind t b r
def Yk:Str->Str
 |[]=>[]
 |c::t=>if c=37 then 37::37::Yk t else c::Yk t
theorem Znt(unit:Str)(c:UInt8)(t:Str)(hc:c≠37):Jp unit (c::t)=(Jp unit t).map fun r=>c::r:=by
 cases t with
 |nil=>
  show (if c=37 then none else some [c])=_;rw [if_neg hc];rfl
 |cons d t=>rw [Jp,if_neg hc]
theorem Ze4(unit:Str):∀v:Str,Jp unit (Yk v)=some v
 |[]=>rfl
 |c::t=>by
  rw [Yk];by_cases hc:c=37
  ·rw [if_pos hc,Jp,if_pos rfl]
   have hs:Qb unit 37=some [37]:=by unfold Qb;rw [if_pos rfl]
   rw [hs,Ze4 unit t,hc];rfl
  ·rw [if_neg hc,Znt unit c _ hc,Ze4 unit t]
   rfl
theorem ZiJ(key:Str):2<=Zb key:=by
 have h0:∀p∈ZkT,2<=p.2:=d_;unfold Zb;cases h:ZkT.find? (fun p=>p.1==key) with
 |none=>decide
 |some p=>exact h0 p (List.mem_of_find?_eq_some h)
def Zet(u v:UV):Prop:=∀j,j≠0->u j=v j
theorem Zet.upd{u v:UV}(h:Zet u v)(i:Nat)(c:UC):Zet (u.upd i c) (v.upd i c):=by
 intro j hj;unfold UV.upd;by_cases e:j=i
 ·rw [if_pos e,if_pos e]
 ·rw [if_neg e,if_neg e];exact h j hj
theorem Zet.long{u v:UV}(h:Zet u v):Xv u=Xv v:=by
 unfold Xv;rw [h 4 d_];congr 1;unfold QY;simp only [List.any_cons,List.any_nil];rw [h 8 d_,h 9 d_,h 10 d_,h 11 d_,h 12 d_,h 18 d_,h 19 d_,h 20 d_,h 21 d_,h 25 d_,h 26 d_,h 27 d_,h 28 d_,h 30 d_,h 31 d_,h 32 d_,h 33 d_]
theorem Zet.whole{u v:UV}(h:Zet u v)(kind:Int):QO kind u=QO kind v:=by
 unfold QO;rw [h 7 d_,h 9 d_,h 21 d_,h 25 d_,h 26 d_,h 27 d_,h 28 d_]
def Znm(i:Nat)(c:UC):Bool:=if i=4 then decide (64<c.len) else QY.contains i&&decide (16<c.len)
def okU(u:UV):Prop:=∀j,Znm j (u j)=false
theorem Zp9(u:UV):Xv u=false↔okU u:=by
 unfold Xv okU;rw [Bool.or_eq_false_iff];constructor
 ·rintro ⟨h4,hl⟩ j
  unfold Znm;split
  ·rename_i e;rw [e];exact h4
  ·cases hc:QY.contains j with
   |false=>rfl
   |true=>
    have:=List.any_eq_false.1 hl j n95_
    simpa using this
 ·intro h
  refine ⟨by have:=h 4;unfold Znm at this;rw [if_pos rfl] at this;exact this,?_⟩;rw [List.any_eq_false];intro j hj
  have:=h j
  unfold Znm at this;have hne:j≠4:=by rintro rfl;revert hj;decide
  rw [if_neg hne,show QY.contains j=true from by simpa using hj] at this;simpa using this
theorem ZuA(sec name:Str)(k:ZE)(h:findKey sec name=some k):k.sec=sec/\k.name=name:=by
 unfold findKey at h
 have:=List.find?_some h
 simpa using this
theorem ZjY(name:Str)(kind:Int)(u:UV)(x:Ln)(e:Int)(h:Xi name kind u x=.error e):e≠0:=by
 unfold Xi at h;cases hs:Qq x.val name with
 |error c=>
  rw [hs] at h;injection h with h
  subst h;unfold Qq at hs;split at hs
  ·injection hs with hs;subst hs;decide
  ·split at hs
   ·injection hs with hs;subst hs;decide
   ·cases hs
 |ok v=>
  rw [hs] at h;simp only at h;by_cases h0:lnS kind { x with val:=v }≠0
  ·rw [if_pos h0] at h
   injection h with h
   subst h;exact h0
  ·rw [if_neg h0] at h
   cases hk:findKey x.sec x.key with
   |none=>rw [hk] at h;injection h with h;subst h;decide
   |some k=>
    rw [hk] at h;simp only at h;split at h
    ·injection h with h;subst h;decide
    ·split at h
     ·injection h with h;subst h;decide
     ·cases h
theorem Zhf(name:Str)(kind:Int):∀(l:List Ln) (u:UV) (e:Int×Int),Z9 name kind u l=.error e->e.1≠0
 |[],u,e,h=>n82_
 |x::t,u,e,h=>by
  rw [Z9] at h;cases hx:Xi name kind u x with
  |error c=>rw [hx] at h;injection h with h;subst h;exact ZjY name kind u x c hx
  |ok r=>rw [hx] at h;exact Zhf name kind t r e h
def ZaG(u v:UV):Bool:=(List.range 35).all fun j=>u j==v j
theorem ZsL{u v:UV}(h:∀j,j<35->u j=v j):ZaG u v=true:=by
 unfold ZaG;rw [c7_];intro j hj;rw [h j (List.mem_range.1 hj)];exact beq_self_eq_true _
theorem Zp3{u v:UV}(h:ZaG u v=true)(j:Nat)(hj:j<35):u j=v j:=by
 unfold ZaG at h;exact eq_of_beq (c7_.1 h j (List.mem_range.2 hj))
def UC.bool:UC->Bool|.b x=>x|_=>false
set_option maxRecDepth 100000
def ZN(n:Int)(u:Str):List Str:=if 0<n then [Go.Lib.itoa n++u] else []
def Yj(n:Int):Str:=
 if n=1099511627776 then [105,110,102,105,110,105,116,121]
 else if n<0\/6311433600<n then []
 else if n=0 then [48]
 else Ya [32] (ZN (n / 86400) [100]++ZN (n % 86400 / 3600) [104]++ZN (n % 3600 / 60) [109,105,110]++ZN (n % 60) [115])
def YR:List Str:=[Z8,Zhu,Za3,Zc5,Ze3,ZaH,ZeM,Zhb,ZaY]
def Yg(r:Int):Str:=if 1<=r/\r<=9 then YR.getD (r-1).toNat [] else []
def Qv(k:ZE)(n:Int):Str:=
 if k.form=4 then Yj n else if k.form=10 then (if n<1\/k.words.length<n then [] else k.words.getD (n-1).toNat []) else Go.Lib.itoa n
def Qo(b:Bool):Str:=if b then [121,101,115] else [110,111]
def Qm(u f:UV)(k:ZE):List Str:=
 if u (Zb k.name)=f (Zb k.name) then []
 else if k.form=1\/k.form=5 then [(u (Zb k.name)).str]
 else if k.form=2 then [Qo (u (Zb k.name)).bool]
 else [Qv k (u (Zb k.name)).num]
def Qc(c:Zar):Str:=(if c.1 then [45] else [])++join c.2
def Qp(u:UV)(k:ZE):List Str:=
 if k.form=7 then (u (Zb k.name)).cmds.map Qc
 else if k.form=4\/k.form=11 then (u (Zb k.name)).nums.map (Qv k)
 else (u (Zb k.name)).strs
def pairT(p:Str×Str):Str:=join [p.1++61::p.2]
def YJ(u f:UV)(k:ZE):List (Str×Str):=
 if k.name=Z8 then (u 4).rels.map fun r=>(Yg r.1,r.2)
 else if ZL k.name≠0 then []
 else if k.name=Zy then (u 19).prs.map fun p=>(k.name,pairT p)
 else if (k.name=Zn/\(u 1).num=3)\/(k.name=Z7/\(u 1).num≠3) then []
 else (if k.list then Qp u k else Qm u f k).map fun s=>(k.name,s)
def lnT(k:ZE)(p:Str×Str):Ln:=⟨k.sec,p.1,Yk p.2,0⟩
def ZbR(u:UV):List Ln:=Zc.flatMap fun k=>(YJ u (Zw (u 0).str) k).map (lnT k)
def Qe(u:UV):List Ln:=Xt none (ZbR u) 0
def ZfM(u:UV):Bool:=((Yn (u 0).str (Qe u)).2==(0,0))&&(ZaG (Yn (u 0).str (Qe u)).1 u&&Zcc (Qe u))
def QN(u:UV):List Ln:=if ZfM u then Qe u else []
def ZpU(u:UV):Str:=ZkS (QN u)
open Go Go.RowKit
theorem ZlN:(Zc.all fun k=>Zc.all fun q=>!(q.sec==k.sec)||decide (q.kinds=k.kinds))=true:=k_
theorem Zes(k:ZE)(hk:k∈Zc)(kind:Int):ZaI k.sec kind=Qi k.kinds kind:=by
 have hs:∀q∈Zc,(q.sec==k.sec)=true->q.kinds=k.kinds:=fun q hq h=>by
  have:=c7_.1 (c7_.1 ZlN k hk) q hq
  rw [h] at this;simpa using this
 unfold ZaI;rw [Bool.eq_iff_iff,List.any_eq_true];constructor
 ·rintro ⟨q,hq,h⟩
  rw [Bool.and_eq_true] at h;rw [<-hs q hq h.1];exact h.2
 ·intro h
  exact ⟨k,hk,by rw [h];simp⟩
theorem ZcS:Zg []=[]:=d_
theorem Zue:(Zay []).1=[]:=n1_
end Go.Proofs.YtmgmbeipbeknaaaGreatDoor
