import Derived.Deep.Slices
import Derived.Deep.Fields
import Derived.ChangeSame
import Derived.Lib.SmallJoins
import Derived.Test.YtmgmbeipbeknaaaGreatDoorRF3
import Derived.Test.YtmgmbeipbeknaaaGreatDoorRF38
import Derived.Test.YtmgmbeipbeknaaaGreatDoorRF44
namespace Go.Proofs.YtmgmbeipbeknaaaGreatDoor
open Go Go.RowKit Go.ChangeShapes Go.WideShapes Go.Deep
set_option linter.unusedVariables false
set_option linter.unusedSimpArgs false
set_option maxHeartbeats 16000000
set_option maxRecDepth 100000
section
variable {H:Type} {enc:TypeId×Value->H} {P:Program} {W:World} {base:Nat} {spare:Nat->Bool} {held:Bool}
end
section
variable {H:Type} {enc:TypeId×Value->H} {W:World}
end
open Go Go.RowKit
structure Zl(c:UC):Prop where
 str:c.str.length<=100000000
 num : -9223372036854775808<=c.num/\c.num<=9223372036854775807
 strs:∀s∈c.strs,s.length<=100000000
 nums:∀n∈c.nums,-9223372036854775808<=n/\n<=9223372036854775807
 rels:∀r∈c.rels,r.2.length<=100000000
 cmds:∀x∈c.cmds,(J9 x).length<=450000000/\∀y∈x.2,y.length<137438953472
 prs:∀p∈c.prs,p.1.length+p.2.length<=100000000
 len:c.len<=2000000
theorem Yx.of{u:UV}(h:∀j,Zl (u j))(hf:(Zew u).length<=2000000):Yx u:=
 ⟨fun j=>(h j).str,fun j=>(h j).num,fun j=>(h j).strs,fun j=>(h j).nums,(h 4).rels,fun j=>(h j).cmds,(h 19).prs,fun j=>(h j).len,hf⟩
theorem Zl.n{n:Int}(h0 : -9223372036854775808<=n)(h1:n<=9223372036854775807):Zl (.n n):=⟨n84_,⟨h0,h1⟩,n75_,n76_,n77_,n78_,n85_,by simp [UC.len]⟩
theorem Zl.b(b:Bool):Zl (.b b):=⟨n84_,n86_,n75_,n76_,n77_,n78_,n85_,by simp [UC.len]⟩
theorem Zl.s{x:Str}(h:x.length<=100000000):Zl (.s x):=⟨h,n86_,n75_,n76_,n77_,n78_,n85_,by simp [UC.len]⟩
theorem Zl.rs{l:List (Int×Str)}(h:∀r∈l,r.2.length<=100000000)(hl:l.length<=2000000):Zl (.rs l):=⟨n84_,n86_,n75_,n76_,h,n78_,n85_,hl⟩
theorem Zl.cs{l:List JB}(h:∀x∈l,(J9 x).length<=450000000/\∀y∈x.2,y.length<137438953472)(hl:l.length<=2000000):Zl (.cs l):=⟨n84_,n86_,n75_,n76_,n77_,h,n85_,hl⟩
theorem Zl.ss{l:List Str}(h:∀s∈l,s.length<=100000000)(hl:l.length<=2000000):Zl (.ss l):=⟨n84_,n86_,h,n76_,n77_,n78_,n85_,hl⟩
theorem Zl.ns{l:List Int}(h:∀n∈l,-9223372036854775808<=n/\n<=9223372036854775807)(hl:l.length<=2000000):Zl (.ns l):=⟨n84_,n86_,n75_,h,n77_,n78_,n85_,hl⟩
theorem Zl.ps{l:List (Str×Str)}(h:∀p∈l,p.1.length+p.2.length<=100000000)(hl:l.length<=2000000):Zl (.ps l):=⟨n84_,n86_,n75_,n76_,n77_,n78_,h,hl⟩
theorem Zl.upd{u:UV}(h:∀j,Zl (u j))(i:Nat){c:UC}(hc:Zl c):∀j,Zl (u.upd i c j):=by
 intro j;unfold UV.upd;split
 ·exact hc
 ·exact h j
theorem Zl.zero:∀j,Zl (Zy j):=by
 intro j;unfold Zy;repeat' split
 ·exact Zl.n d_ d_
 ·exact Zl.b _
 ·exact Zl.rs s_ s_
 ·exact Zl.cs s_ s_
 ·exact Zl.ns s_ s_
 ·exact Zl.ps s_ s_
 ·exact Zl.ss s_ s_
 ·exact Zl.s s_
theorem Zl.new{nm:Str}(h:nm.length<=100000000):∀j,Zl (ZL nm j):=by
 unfold ZL;split
 ·exact Zl.zero
 ·have hk:=ZcN nm
  have h0:=Zl.upd (Zl.upd (Zl.upd (Zl.upd (Zl.upd Zl.zero 0 (Zl.s h)) 1 (Zl.n (n:=(ZB nm:Nat)) o_ o_)) 3 (Zl.b true)) 5 (Zl.n (n:=10) d_ d_)) 6 (Zl.n (n:=5) d_ d_);split
  ·exact Zl.upd (Zl.upd (Zl.upd (Zl.upd h0 7 (Zl.n d_ d_)) 14 (Zl.n d_ d_)) 16 (Zl.n d_ d_)) 17 (Zl.n d_ d_)
  ·split
   ·exact Zl.upd h0 22 (Zl.n d_ d_)
   ·exact h0
def Zfl:Str:=[97,46,115,101,114,118,105,99,101]
def Zms:Str:=[98,46,116,97,114,103,101,116]
def ZqM:Str:=[114,117,110]
def ZmG:Str:=[53,37]
def Jr:UV:=(((ZL Zfl).upd 4 (.rs [(2,Zms)])).upd 9 (.cs [(true,[ZqM,ZmG])])).upd 16 (.n 60)
theorem ZaT:Yx Jr:=
 Yx.of (Zl.upd (Zl.upd (Zl.upd (Zl.new d_) 4 (Zl.rs d_ d_)) 9 (Zl.cs (by intro x hx;rw [List.mem_singleton.1 hx];exact ⟨n4_,d_⟩) d_)) 16 (Zl.n d_ d_))
  n4_
theorem Zkr:Yx Zy:=Yx.of Zl.zero n4_
theorem Zl0:ZeB Jr=true:=n4_
theorem ZiK:Zmn Jr=[91,85,110,105,116,93,10,87,97,110,116,115,61,98,46,116,97,114,103,101,116,10,10,91,83,101,114,118,105,99,101,93,10,69,120,101,99,83,116,97,114,116,61,45,114,117,110,32,53,37,37,10,84,105,109,101,111,117,116,83,116,97,114,116,83,101,99,61,49,109,105,110,10]:=n4_
theorem Zhz:(XP Jr).length=3:=n4_
theorem Zn3:ZeB Zy=false:=n4_
def Zmi(k:ZC):Bool:=if k.name=ZY then true else if ZI k.name≠0 then false else if k.name=ZJ then true else k.list
theorem Zag(c:UC):c.cmds.length<=c.len/\c.nums.length<=c.len/\c.strs.length<=c.len/\c.prs.length<=c.len/\c.rels.length<=c.len:=by cases c<;>simp [UC.cmds,UC.nums,UC.strs,UC.prs,UC.rels,UC.len]
theorem Zf6:Zc ZY=4/\Zc ZJ=19:=n4_
theorem Zpz(u f:UV)(k:ZC):(YS u f k).length<=(if Zmi k then (u (Zc k.name)).len else 0)+1:=by
 unfold YS Zmi;split
 ·rename_i h
  rw [List.length_map,if_pos rfl,h,Zf6.1]
  have:=(Zag (u 4)).2.2.2.2
  omega
 ·split
  ·exact Nat.zero_le _
  ·split
   ·rename_i h
    rw [List.length_map,if_pos rfl,h,Zf6.2]
    have:=(Zag (u 19)).2.2.2.1
    omega
   ·split
    ·exact Nat.zero_le _
    ·rw [List.length_map]
     split
     ·unfold Zal
      split
      ·rw [List.length_map];have:=(Zag (u (Zc k.name))).1;omega
      ·split
       ·rw [List.length_map];have:=(Zag (u (Zc k.name))).2.1;omega
       ·have:=(Zag (u (Zc k.name))).2.2.1;omega
     ·unfold Zah
      split
      ·exact Nat.zero_le _
      ·split
       ·simp
       ·split<;>simp
theorem Zj6{α β:Type}(g:α->List β)(b:α->Nat):∀l:List α,(∀x∈l,(g x).length<=b x)->(l.flatMap g).length<=(l.map b).sum
 |[],_=>s_
 |x::t,h=>by
  have h0:=h x s_;have h1:=Zj6 g b t (fun y hy=>h y (by simp [hy]));simp only [List.flatMap_cons,List.length_append,List.map_cons,List.sum_cons];omega
theorem Zn6:Ze.length<=1000:=n4_
end Go.Proofs.YtmgmbeipbeknaaaGreatDoor
