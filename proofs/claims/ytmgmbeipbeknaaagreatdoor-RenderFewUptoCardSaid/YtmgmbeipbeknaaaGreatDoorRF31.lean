import Derived.Lib.ItoaNum
import Derived.Test.YtmgmbeipbeknaaaGreatDoorRF1
import Derived.Test.YtmgmbeipbeknaaaGreatDoorRF26
namespace Go.Proofs.YtmgmbeipbeknaaaGreatDoor
set_option linter.unusedVariables false
set_option linter.unusedSimpArgs false
set_option maxHeartbeats 16000000
def XY(u v:UV):Bool:=(List.range 35).all fun j=>u j==v j
theorem Zkf{u v:UV}(h:∀j,j<35->u j=v j):XY u v=true:=by
 unfold XY;rw [List.all_eq_true];intro j hj;rw [h j (List.mem_range.1 hj)];exact beq_self_eq_true _
theorem ZbI{u v:UV}(h:XY u v=true)(j:Nat)(hj:j<35):u j=v j:=by
 unfold XY at h;exact eq_of_beq (List.all_eq_true.1 h j (List.mem_range.2 hj))
theorem ZlH(u v:UV):XY u v=XY v u:=by
 cases e:XY u v with
 |true=>exact (Zkf fun j hj=>(ZbI e j hj).symm).symm
 |false=>
  cases e2:XY v u with
  |false=>rfl
  |true=>rw [Zkf fun j hj=>(ZbI e2 j hj).symm] at e;cases e
def UC.bool:UC->Bool|.b x=>x|_=>false
def XI:Option Str->List Ln->Nat->List Ln
 |_,[],_=>[]
 |none,l::r,n=>{ l with at_:=((n+2:Nat):Int) }::XI (some l.sec) r (n+2)
 |some s,l::r,n=>if l.sec=s then { l with at_:=((n+1:Nat):Int) }::XI (some l.sec) r (n+1) else { l with at_:=((n+3:Nat):Int) }::XI (some l.sec) r (n+3)
inductive YH:List Ln->List Ln->Prop where
 |nil:YH [] []
 |cons {a b:Ln} {l m:List Ln} (h:ZrA a b) (t:YH l m):YH (a::l) (b::m)
theorem Za6:∀(l:List Ln) (p:Option Str) (n:Nat),YH l (XI p l n)
 |[],p,n=>by cases p<;>exact .nil
 |x::r,none,n=>.cons ⟨rfl,rfl,rfl⟩ (Za6 r _ _)
 |x::r,some s,n=>by
  unfold XI;split
  ·exact .cons ⟨rfl,rfl,rfl⟩ (Za6 r _ _)
  ·exact .cons ⟨rfl,rfl,rfl⟩ (Za6 r _ _)
set_option maxRecDepth 100000
def Yl(n:Int)(u:Str):List Str:=if 0<n then [Go.Lib.itoa n++u] else []
def Zce(n:Int):Str:=
 if n=1099511627776 then [105,110,102,105,110,105,116,121]
 else if n<0\/6311433600<n then []
 else if n=0 then [48]
 else Yq [32] (Yl (n / 86400) [100]++Yl (n % 86400 / 3600) [104]++Yl (n % 3600 / 60) [109,105,110]++Yl (n % 60) [115])
def Y9:List Str:=[ZY,Ze5,Ju,Za7,Zc3,Js,Zdk,Zf8,JF]
def YA(r:Int):Str:=if 1<=r/\r<=9 then Y9.getD (r-1).toNat [] else []
def QD(k:ZC)(n:Int):Str:=
 if k.form=4 then Zce n else if k.form=10 then (if n<1\/k.words.length<n then [] else k.words.getD (n-1).toNat []) else Go.Lib.itoa n
def ZfA(b:Bool):Str:=if b then [121,101,115] else [110,111]
def Zah(u f:UV)(k:ZC):List Str:=
 if u (Zc k.name)=f (Zc k.name) then []
 else if k.form=1\/k.form=5 then [(u (Zc k.name)).str]
 else if k.form=2 then [ZfA (u (Zc k.name)).bool]
 else [QD k (u (Zc k.name)).num]
def J9(c:JB):Str:=(if c.1 then [45] else [])++join c.2
def Zal(u:UV)(k:ZC):List Str:=
 if k.form=7 then (u (Zc k.name)).cmds.map J9
 else if k.form=4\/k.form=11 then (u (Zc k.name)).nums.map (QD k)
 else (u (Zc k.name)).strs
def pairT(p:Str×Str):Str:=join [p.1++61::p.2]
def YS(u f:UV)(k:ZC):List (Str×Str):=
 if k.name=ZY then (u 4).rels.map fun r=>(YA r.1,r.2)
 else if ZI k.name≠0 then []
 else if k.name=ZJ then (u 19).prs.map fun p=>(k.name,pairT p)
 else if (k.name=ZW/\(u 1).num=3)\/(k.name=Xt/\(u 1).num≠3) then []
 else (if k.list then Zal u k else Zah u f k).map fun s=>(k.name,s)
def lnT(k:ZC)(p:Str×Str):Ln:=⟨k.sec,p.1,Xr p.2,0⟩
def Zew(u:UV):List Ln:=Ze.flatMap fun k=>(YS u (ZL (u 0).str) k).map (lnT k)
def Y1(u:UV):List Ln:=XI none (Zew u) 0
def ZeB(u:UV):Bool:=((Z9 (u 0).str (Y1 u)).2==(0,0))&&(XY (Z9 (u 0).str (Y1 u)).1 u&&Zht (Y1 u))
def XP(u:UV):List Ln:=if ZeB u then Y1 u else []
def Zmn(u:UV):Str:=Zh2 (XP u)
end Go.Proofs.YtmgmbeipbeknaaaGreatDoor
