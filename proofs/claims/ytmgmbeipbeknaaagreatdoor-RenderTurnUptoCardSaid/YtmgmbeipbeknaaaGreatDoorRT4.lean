import Derived.Lib.Bytealg
import Derived.Lib.SplitLaws
import Derived.Lib.IndexMore
import Derived.Test.YtmgmbeipbeknaaaGreatDoorRT2
namespace Go.Proofs.YtmgmbeipbeknaaaGreatDoor
open Go
set_option linter.unusedVariables false
set_option linter.unusedSimpArgs false
set_option maxHeartbeats 16000000
def Zij(x:UInt8):List Str->List Str
 |[]=>[[x]]
 |h::r=>(x::h)::r
def Zz(c:UInt8):Str->List Str
 |[]=>[[]]
 |x::t=>if x=c then []::Zz c t else Zij x (Zz c t)
theorem Zhx(c:UInt8):∀s:Str,Zz c s≠[]
 |[]=>by simp [Zz]
 |x::t=>by
  unfold Zz;split
  ·simp
  ·unfold Zij;split<;>simp
theorem ZcJ(c:UInt8):∀(a b:Str),(∀x∈a,x≠c)->Zz c (a++c::b)=a::Zz c b
 |[],b,_=>by simp [Zz]
 |x::t,b,h=>by
  rw [List.cons_append,Zz,if_neg (h x s_),ZcJ c t b (fun y hy=>h y n83_)];rfl
theorem ZcZ(c:UInt8):∀(a:Str),(∀x∈a,x≠c)->Zz c a=[a]
 |[],_=>rfl
 |x::t,h=>by
  rw [Zz,if_neg (h x s_),ZcZ c t (fun y hy=>h y n83_)];rfl
theorem Zgm(c:UInt8):∀s:Str,(Lib.indexByte s c = -1/\∀x∈s,x≠c)\/∃(i:Nat) (a b:Str),Lib.indexByte s c=i/\s=a++c::b/\a.length=i/\∀x∈a,x≠c
 |[]=>.inl ⟨rfl,s_⟩
 |x::t=>by
  by_cases hx:x=c
  ·subst hx
   exact .inr ⟨0,[],t,by simp [Lib.indexByte],rfl,rfl,s_⟩
  ·rcases Zgm c t with ⟨h1,h2⟩|⟨i,a,b,h1,h2,h3,h4⟩
   ·exact .inl ⟨by simp [Lib.indexByte,hx,h1],by
     intro y hy;rcases List.mem_cons.1 hy with rfl|hy
     ·exact hx
     ·exact h2 y hy⟩
   ·refine .inr ⟨i+1,x::a,b,?_,by rw [h2];rfl,by simp [h3],?_⟩
    ·have hne:¬((i:Int) = -1):=o_
     simp [Lib.indexByte,hx,h1,hne]
    ·intro y hy
     rcases List.mem_cons.1 hy with rfl|hy
     ·exact hx
     ·exact h4 y hy
theorem Qe(c:UInt8):∀(s:Str) x,x∈Zz c s->x.length<=s.length
 |[],x,h=>by simp [Zz] at h;subst h;simp
 |y::t,x,h=>by
  unfold Zz at h;split at h
  ·rcases List.mem_cons.1 h with rfl|h
   ·simp
   ·have:=Qe c t x h;simp;omega
  ·have ih:=Qe c t
   cases hs:Zz c t with
   |nil=>exact absurd hs (Zhx c t)
   |cons a r=>
    rw [hs] at h ih;simp only [Zij] at h;rcases List.mem_cons.1 h with rfl|h
    ·have:=ih a s_;simp;omega
    ·have:=ih x (by simp [h]);simp;omega
theorem QO(c:UInt8):∀(s:Str),(Zz c s).length<=s.length+1
 |[]=>by simp [Zz]
 |y::t=>by
  have ih:=QO c t;unfold Zz;split
  ·simp;omega
  ·cases hs:Zz c t with
   |nil=>exact absurd hs (Zhx c t)
   |cons a r=>rw [hs] at ih;simp [Zij] at ih⊢;omega
abbrev Zjm:List Str:=[[77,111,110],[84,117,101],[87,101,100],[84,104,117],[70,114,105],[83,97,116],[83,117,110]]
def ZaS:List Str->Str->Nat->Int
 |[],_,_=>-1
 |d::r,s,i=>if d=s then (i:Int) else ZaS r s (i+1)
def XU(s:Str):Int:=ZaS Zjm s 0
theorem Zcj:∀(l:List Str) (s:Str) (i:Nat),ZaS l s i = -1\/∃n:Nat,ZaS l s i=n/\n<i+l.length
 |[],s,i=>.inl rfl
 |d::r,s,i=>by
  unfold ZaS;split
  ·exact .inr ⟨i,rfl,s_⟩
  ·rcases Zcj r s (i+1) with h|⟨n,h1,h2⟩
   ·exact .inl h
   ·exact .inr ⟨n,h1,n5_⟩
theorem Zaa(s:Str):XU s = -1\/∃n:Nat,XU s=n/\n<7:=by
 rcases Zcj Zjm s 0 with h|⟨n,h1,h2⟩
 ·exact .inl h
 ·exact .inr ⟨n,h1,n91_⟩
def Y1(w:Str):Option (Nat×Nat):=
 if XU (Lib.cut w [46,46]).1<0\/XU (if (Lib.cut w [46,46]).2.2=true then (Lib.cut w [46,46]).2.1 else (Lib.cut w [46,46]).1)<XU (Lib.cut w [46,46]).1 then none
 else some ((XU (Lib.cut w [46,46]).1).toNat,(XU (if (Lib.cut w [46,46]).2.2=true then (Lib.cut w [46,46]).2.1 else (Lib.cut w [46,46]).1)).toNat)
def Jm:List Bool->Nat->Nat->List Bool
 |m,_,0=>m
 |m,d,n+1=>Jm (m.set (d+1) true) (d+1) n
theorem Zg0:∀(n d:Nat) (m:List Bool),(Jm m d n).length=m.length
 |0,d,m=>rfl
 |n+1,d,m=>by rw [Jm,Zg0 n];simp
def Qo:List Str->List Bool->Option (List Bool)
 |[],m=>some m
 |w::t,m=>match Y1 w with
  |none=>none
  |some (f,l)=>Qo t (Jm m f (l+1-f))
theorem ZdI:∀(l:List Str) (m r:List Bool),Qo l m=some r->r.length=m.length
 |[],m,r,h=>by simp [Qo] at h;subst h;rfl
 |w::t,m,r,h=>by
  rw [Qo] at h;cases hd:Y1 w with
  |none=>rw [hd] at h;simp at h
  |some p=>
   rw [hd] at h;simp only at h;rw [ZdI t _ r h,Zg0]
theorem ZcN:∀(l:List Str) (x:Str) (m:List Bool),Qo (l++[x]) m=match Qo l m with
  |none=>none
  |some r=>match Y1 x with
   |none=>none
   |some (f,k)=>some (Jm r f (k+1-f))
 |[],x,m=>by
  simp only [List.nil_append,Qo]
 |w::t,x,m=>by
  rw [List.cons_append,Qo,Qo];cases Y1 w with
  |none=>rfl
  |some p=>exact ZcN t x _
theorem Zgk:∀(l k:List Str) (m:List Bool),Qo l m=none->Qo (l++k) m=none
 |[],k,m,h=>by simp [Qo] at h
 |w::t,k,m,h=>by
  rw [List.cons_append,Qo];rw [Qo] at h;cases hd:Y1 w with
  |none=>rfl
  |some p=>
   rw [hd] at h;exact Zgk t k _ h
def ZcX:List Bool:=List.replicate 8 false
def Zpg(m:List Bool):List Int:=((List.range 8).filter fun i=>m.getD i false).map fun (i:Nat)=>(i:Int)
def QA(s:Str):Option (List Int):=(Qo (Zz 44 s) ZcX).map Zpg
def XZ(m:List Bool)(k:Nat):List Int:=((List.range k).filter fun i=>m.getD i false).map fun (i:Nat)=>(i:Int)
theorem ZjB(m:List Bool)(k:Nat):XZ m (k+1)=if m.getD k false=true then XZ m k++[(k:Int)] else XZ m k:=by
 unfold XZ;rw [List.range_succ,List.filter_append,List.map_append];by_cases h:m.getD k false=true
 ·rw [if_pos h];simp [List.getD_eq_getElem?_getD] at h⊢;simp [h]
 ·rw [if_neg h];simp [List.getD_eq_getElem?_getD] at h⊢;simp [h]
theorem Zf2(m:List Bool)(k:Nat):(XZ m k).length<=k:=by
 unfold XZ;rw [List.length_map];exact Nat.le_trans (List.length_filter_le _ _) s_
end Go.Proofs.YtmgmbeipbeknaaaGreatDoor
