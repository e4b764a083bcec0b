import Derived.Deep.Slices
import Derived.Deep.Fields
import Derived.ChangeSame
import Derived.Lib.SmallJoins
import Derived.Test.YtmgmbeipbeknaaaGreatDoorRB3
import Derived.Test.YtmgmbeipbeknaaaGreatDoorRB35
import Derived.Test.YtmgmbeipbeknaaaGreatDoorRB38
import Derived.Test.YtmgmbeipbeknaaaGreatDoorRB41
namespace Go.Proofs.YtmgmbeipbeknaaaGreatDoor
open Go Go.RowKit Go.ChangeShapes Go.WideShapes Go.Deep
set_option linter.all false
set_option maxHeartbeats 16000000
set_option maxRecDepth 100000
section
variable {H:Type} {enc:TypeId×Value->H} {P:Program} {W:World} {base:Nat} {spare:Nat->Bool} {held:Bool}
end
section
variable {H:Type} {enc:TypeId×Value->H} {W:World}
end
open Go Go.RowKit
structure Zr(c:UC):Prop where
 str:c.str.length<=100000000
 num : -9223372036854775808<=c.num/\c.num<=9223372036854775807
 strs:∀s∈c.strs,s.length<=100000000
 nums:∀n∈c.nums,-9223372036854775808<=n/\n<=9223372036854775807
 rels:∀r∈c.rels,r.2.length<=100000000
 cmds:∀x∈c.cmds,(Qc x).length<=450000000/\∀y∈x.2,y.length<137438953472
 prs:∀p∈c.prs,p.1.length+p.2.length<=100000000
 len:c.len<=2000000
theorem Yt.of{u:UV}(h:∀j,Zr (u j))(hf:(ZbR u).length<=2000000):Yt u:=
 ⟨fun j=>(h j).str,fun j=>(h j).num,fun j=>(h j).strs,fun j=>(h j).nums,(h 4).rels,fun j=>(h j).cmds,(h 19).prs,fun j=>(h j).len,hf⟩
theorem Zr.n{n:Int}(h0 : -9223372036854775808<=n)(h1:n<=9223372036854775807):Zr (.n n):=⟨n108_,⟨h0,h1⟩,n96_,n97_,n98_,n99_,n109_,by simp [UC.len]⟩
theorem Zr.b(b:Bool):Zr (.b b):=⟨n108_,n110_,n96_,n97_,n98_,n99_,n109_,by simp [UC.len]⟩
theorem Zr.s{x:Str}(h:x.length<=100000000):Zr (.s x):=⟨h,n110_,n96_,n97_,n98_,n99_,n109_,by simp [UC.len]⟩
theorem Zr.rs{l:List (Int×Str)}(h:∀r∈l,r.2.length<=100000000)(hl:l.length<=2000000):Zr (.rs l):=⟨n108_,n110_,n96_,n97_,h,n99_,n109_,hl⟩
theorem Zr.cs{l:List Zar}(h:∀x∈l,(Qc x).length<=450000000/\∀y∈x.2,y.length<137438953472)(hl:l.length<=2000000):Zr (.cs l):=⟨n108_,n110_,n96_,n97_,n98_,h,n109_,hl⟩
theorem Zr.ss{l:List Str}(h:∀s∈l,s.length<=100000000)(hl:l.length<=2000000):Zr (.ss l):=⟨n108_,n110_,h,n97_,n98_,n99_,n109_,hl⟩
theorem Zr.ns{l:List Int}(h:∀n∈l,-9223372036854775808<=n/\n<=9223372036854775807)(hl:l.length<=2000000):Zr (.ns l):=⟨n108_,n110_,n96_,h,n98_,n99_,n109_,hl⟩
theorem Zr.ps{l:List (Str×Str)}(h:∀p∈l,p.1.length+p.2.length<=100000000)(hl:l.length<=2000000):Zr (.ps l):=⟨n108_,n110_,n96_,n97_,n98_,n99_,h,hl⟩
theorem Zr.upd{u:UV}(h:∀j,Zr (u j))(i:Nat){c:UC}(hc:Zr c):∀j,Zr (u.upd i c j):=by
 intro j;unfold UV.upd;split
 ·exact hc
 ·exact h j
theorem Zr.zero:∀j,Zr (ZK j):=by
 intro j;unfold ZK;repeat' split
 ·exact Zr.n d_ d_
 ·exact Zr.b _
 ·exact Zr.rs s_ s_
 ·exact Zr.cs s_ s_
 ·exact Zr.ns s_ s_
 ·exact Zr.ps s_ s_
 ·exact Zr.ss s_ s_
 ·exact Zr.s s_
theorem Zr.new{nm:Str}(h:nm.length<=100000000):∀j,Zr (Zw nm j):=by
 unfold Zw;split
 ·exact Zr.zero
 ·have hk:=J3 nm
  have h0:=Zr.upd (Zr.upd (Zr.upd (Zr.upd (Zr.upd Zr.zero 0 (Zr.s h)) 1 (Zr.n (n:=(Zt nm:Nat)) o_ o_)) 3 (Zr.b true)) 5 (Zr.n (n:=10) d_ d_)) 6 (Zr.n (n:=5) d_ d_);split
  ·exact Zr.upd (Zr.upd (Zr.upd (Zr.upd h0 7 (Zr.n d_ d_)) 14 (Zr.n d_ d_)) 16 (Zr.n d_ d_)) 17 (Zr.n d_ d_)
  ·split
   ·exact Zr.upd h0 22 (Zr.n d_ d_)
   ·exact h0
def Zib:Str:=[97,46,115,101,114,118,105,99,101]
def ZpG:Str:=[98,46,116,97,114,103,101,116]
def Zuf:Str:=[114,117,110]
def Zpi:Str:=[53,37]
def ZaU:UV:=(((Zw Zib).upd 4 (.rs [(2,ZpG)])).upd 9 (.cs [(true,[Zuf,Zpi])])).upd 16 (.n 60)
theorem Zce:Yt ZaU:=
 Yt.of (Zr.upd (Zr.upd (Zr.upd (Zr.new d_) 4 (Zr.rs d_ d_)) 9 (Zr.cs (by intro x hx;rw [List.mem_singleton.1 hx];exact ⟨n1_,d_⟩) d_)) 16 (Zr.n d_ d_))
  n1_
theorem ZlR:Yt ZK:=Yt.of Zr.zero n1_
theorem ZoV:ZfM ZaU=true:=n1_
theorem Zma:ZpU ZaU=[91,85,110,105,116,93,10,87,97,110,116,115,61,98,46,116,97,114,103,101,116,10,10,91,83,101,114,118,105,99,101,93,10,69,120,101,99,83,116,97,114,116,61,45,114,117,110,32,53,37,37,10,84,105,109,101,111,117,116,83,116,97,114,116,83,101,99,61,49,109,105,110,10]:=n1_
theorem ZkG:(QN ZaU).length=3:=n1_
theorem ZqG:ZfM ZK=false:=n1_
def Zpp(k:ZE):Bool:=if k.name=Z8 then true else if ZL k.name≠0 then false else if k.name=Zy then true else k.list
theorem ZbT(c:UC):c.cmds.length<=c.len/\c.nums.length<=c.len/\c.strs.length<=c.len/\c.prs.length<=c.len/\c.rels.length<=c.len:=by cases c<;>simp [UC.cmds,UC.nums,UC.strs,UC.prs,UC.rels,UC.len]
theorem Ziz:Zb Z8=4/\Zb Zy=19:=n1_
theorem Zs7(u f:UV)(k:ZE):(YJ u f k).length<=(if Zpp k then (u (Zb k.name)).len else 0)+1:=by
 unfold YJ Zpp;split
 ·rename_i h
  rw [List.length_map,if_pos rfl,h,Ziz.1]
  have:=(ZbT (u 4)).2.2.2.2
  omega
 ·split
  ·exact Nat.zero_le _
  ·split
   ·rename_i h
    rw [List.length_map,if_pos rfl,h,Ziz.2]
    have:=(ZbT (u 19)).2.2.2.1
    omega
   ·split
    ·exact Nat.zero_le _
    ·rw [List.length_map]
     split
     ·unfold Qp
      split
      ·rw [List.length_map];have:=(ZbT (u (Zb k.name))).1;omega
      ·split
       ·rw [List.length_map];have:=(ZbT (u (Zb k.name))).2.1;omega
       ·have:=(ZbT (u (Zb k.name))).2.2.1;omega
     ·unfold Qm
      split
      ·exact Nat.zero_le _
      ·split
       ·simp
       ·split<;>simp
theorem Zm5{α β:Type}(g:α->List β)(b:α->Nat):∀l:List α,(∀x∈l,(g x).length<=b x)->(l.flatMap g).length<=(l.map b).sum
 |[],_=>s_
 |x::t,h=>by
  have h0:=h x s_;have h1:=Zm5 g b t (fun y hy=>h y (by simp [hy]));simp only [List.flatMap_cons,c5_,List.map_cons,List.sum_cons];omega
theorem Zrd:Zc.length<=1000:=n1_
end Go.Proofs.YtmgmbeipbeknaaaGreatDoor
