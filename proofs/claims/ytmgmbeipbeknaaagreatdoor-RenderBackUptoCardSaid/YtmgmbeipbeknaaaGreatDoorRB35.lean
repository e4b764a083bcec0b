import Derived.Laws.StructEq
import Derived.Test.YtmgmbeipbeknaaaGreatDoorRB2
import Derived.Test.YtmgmbeipbeknaaaGreatDoorRB8
import Derived.Test.YtmgmbeipbeknaaaGreatDoorRB24
import Derived.Test.YtmgmbeipbeknaaaGreatDoorRB29
import Derived.Test.YtmgmbeipbeknaaaGreatDoorRB34
namespace Go.Proofs.YtmgmbeipbeknaaaGreatDoor
open Go Go.RowKit
set_option linter.all false
set_option maxHeartbeats 16000000
set_option maxRecDepth 100000
structure Zvk(w:World)(x:Zdy)(c:Zar):Prop where
 dash:x.dash=c.1
 wn:x.wn=c.2.length
 row:Zp w x.wa c.2
 few:c.2.length<=maxLen
structure ZbB(w:World)(oa:Option Addr)(xs:List Zdy)(l:List Zar):Prop where
 len:xs.length=l.length
 row:ZG Zi6 2 w oa xs
 see:∀i (h1:i<xs.length) (h2:i<l.length),Zvk w xs[i] l[i]
def Zh3(w:World):UC->Value->Prop
 |.s x,v=>v=.string ⟨x.toArray⟩
 |.n x,v=>v=.int .i64 x
 |.b x,v=>v=.bool x
 |.ss l,v=>∃oa cap,v=.slice oa l.length cap/\Zp w oa l/\l.length<=maxLen
 |.ns l,v=>∃oa cap,v=.slice oa l.length cap/\Y8 w oa l/\l.length<=maxLen
 |.rs l,v=>∃oa cap,v=.slice oa l.length cap/\ZG JK 2 w oa l/\l.length<=maxLen
 |.ps l,v=>∃oa cap,v=.slice oa l.length cap/\ZG Qu 2 w oa l/\l.length<=maxLen
 |.cs l,v=>∃oa cap xs,v=.slice oa l.length cap/\ZbB w oa xs l/\l.length<=maxLen
structure ZV(w:World)(cs:Array Value)(u:UV):Prop where
 size:cs.size=35
 fld:∀j v,cs[j]?=some v->Zh3 w (u j) v
theorem ZdK{w:World}{B e k n:Nat}{v:Value}{xs:List Value}(h:w.ownsRow B e k v n xs):n<=maxLen:=by
 rcases h.2 with ⟨_,h0⟩|⟨g,cap,cur,_,_,_,h1,h2,_⟩
 ·rw [h0];exact Nat.zero_le _
 ·exact Nat.le_trans h1 h2
theorem Y5.see{w:World}{F:Nat->Prop}:∀{c:UC} {v:Value},Y5 w F c v->Zh3 w c v
 |.s _,_,h=>h
 |.n _,_,h=>h
 |.b _,_,h=>h
 |.ss l,v,h=>by obtain ⟨oa,cap,rfl⟩:=ownsRow_form h.1;exact ⟨oa,cap,rfl,Zp.of_own h.1,ZdK h.1⟩
 |.ns l,v,h=>by obtain ⟨oa,cap,rfl⟩:=ownsRow_form h.1;exact ⟨oa,cap,rfl,Y8.of_own h.1,ZdK h.1⟩
 |.rs l,v,h=>by obtain ⟨oa,cap,rfl⟩:=ownsRow_form h.1;exact ⟨oa,cap,rfl,ZG.of_own (enc:=JK) (k:=2) (fun _=>rfl) h.1,ZdK h.1⟩
 |.ps l,v,h=>by obtain ⟨oa,cap,rfl⟩:=ownsRow_form h.1;exact ⟨oa,cap,rfl,ZG.of_own (enc:=Qu) (k:=2) (fun _=>rfl) h.1,ZdK h.1⟩
 |.cs l,v,h=>by
  obtain ⟨xs,hl,ho,_,hc⟩:=h;rw [<-hl] at ho;obtain ⟨oa,cap,rfl⟩:=ownsRow_form ho;refine ⟨oa,cap,xs,by rw [hl],⟨hl,ZG.of_own (enc:=Zi6) (k:=2) (fun _=>rfl) ho,fun i h1 h2=>?_⟩,by rw [<-hl];exact ZdK ho⟩;have q:=hc i h1 h2;refine ⟨q.dash,q.wn,?_,?_⟩
  ·have:=q.row;exact Zp.of_own this
  ·have:=ZdK q.row;rw [q.wn] at this;exact this
theorem Qj.see{w:World}{cs:Array Value}{u:UV}(h:Qj w cs u):ZV w cs u:=⟨h.size,fun j v hv=>(h.fld j v hv).see⟩
theorem Zh3.below{w w':World}(hb:Below w.heap.size w w'):∀{c:UC} {v:Value},Zh3 w c v->Zh3 w' c v
 |.s _,_,h=>h
 |.n _,_,h=>h
 |.b _,_,h=>h
 |.ss _,_,⟨oa,cap,e,h,q⟩=>⟨oa,cap,e,h.below hb,q⟩
 |.ns _,_,⟨oa,cap,e,h,q⟩=>⟨oa,cap,e,h.fr (M:=fun _=>False) (Fr.of_below hb _) (fun _ _ _ e=>e),q⟩
 |.rs _,_,⟨oa,cap,e,h,q⟩=>⟨oa,cap,e,h.below hb,q⟩
 |.ps _,_,⟨oa,cap,e,h,q⟩=>⟨oa,cap,e,h.below hb,q⟩
 |.cs _,_,⟨oa,cap,xs,e,h,q⟩=>⟨oa,cap,xs,e,⟨h.len,h.row.below hb,fun i h1 h2=>let s:=h.see i h1 h2;⟨s.dash,s.wn,s.row.below hb,s.few⟩⟩,q⟩
theorem JU{w w':World}{oa:Option Addr}{xs:List Zdy}{l:List Zar}(hb:Below w.heap.size w w')(h:ZbB w oa xs l):ZbB w' oa xs l:=⟨h.len,h.row.below hb,fun i h1 h2=>let s:=h.see i h1 h2;⟨s.dash,s.wn,s.row.below hb,s.few⟩⟩
theorem ZV.below{w w':World}{cs:Array Value}{u:UV}(h:ZV w cs u)(hb:Below w.heap.size w w'):ZV w' cs u:=⟨h.size,fun j v hv=>(h.fld j v hv).below hb⟩
theorem ZV.at{w:World}{cs:Array Value}{u:UV}(h:ZV w cs u)(j:Nat)(hj:j<35):∃v,cs[j]?=some v/\Zh3 w (u j) v:=
 ⟨_,Array.getElem?_eq_getElem (by rw [h.size];exact hj),h.fld j _ (Array.getElem?_eq_getElem (by rw [h.size];exact hj))⟩
theorem Zuv(x y:Str):(UC.s x==UC.s y)=(x==y):=n46_
theorem ZtT(x y:Int):(UC.n x==UC.n y)=(x==y):=n46_
theorem Zuw(x y:Bool):(UC.b x==UC.b y)=(x==y):=n46_
theorem Zsu(x y:List Str):(UC.ss x==UC.ss y)=Zal x y:=by unfold Zal;rw [Bool.eq_iff_iff];simp
theorem Zs6(x y:List Int):(UC.ns x==UC.ns y)=decide (x=y):=n46_
theorem Zs8(x y:List (Int×Str)):(UC.rs x==UC.rs y)=decide (x=y):=n46_
theorem Zs3(x y:List (Str×Str)):(UC.ps x==UC.ps y)=decide (x=y):=n46_
theorem Ztm(x y:List Zar):(UC.cs x==UC.cs y)=decide (x=y):=n46_
theorem Zi{a:Act}{s:Nat}{v:Value}(h:a.tmps[s]?=some v):a.eval (.tmp s)=v/\a.tmps.getD s undef=v:=by
 have:a.tmps.getD s undef=v:=by rw [Array.getD_eq_getD_getElem?,h];rfl
 exact ⟨this,this⟩
open Go.Proofs.Tryz
theorem ZjT{P:Program}(w:World){t:TypeId}{k:IntKind}(ht:P.underlying t=some (.int k)){xs:Array Value}{off:Nat}{v:Value}(hx:xs[off]?=some v):(part t xs off).run P w=.ok v w:=by
 simp [part,isAgg,run_underlying ht,hx]
theorem ZpQ{P:Program}(w:World)(d:Nat){xs ys:Array Value}{f:Field}{fs:List Field}{k k':IntKind}{a b:Int}(hn:f.name≠ "_") (ht:P.underlying f.type=some (.int k')) (hx:xs[f.offset]?=some (.int k a)) (hy:ys[f.offset]?=some (.int k b)) (r:Bool) (hr:(a==b)=r) :
  (Op.eqFields (d+1) xs ys (f::fs)).run P w=if r=true then (Op.eqFields (d+1) xs ys fs).run P w else .ok false w:=by
 simp only [Op.eqFields,if_pos hn,Sem.run_bind,ZjT w ht hx,ZjT w ht hy,Result.andThen_ok,run_equalIn_int w d f.type k k' a b ht,hr];cases r<;>simp
theorem Znj:(prog.fieldsOf 37).toList.map (fun f=>(f.name,f.offset))=[("Code",0),("At",1)]:=k_
theorem ZnF:(prog.fieldsOf 37).toList.map (fun f=>prog.underlying f.type)=[some (.int .i64),some (.int .i64)]:=k_
theorem Zmm:prog.underlying 37=some (.struct (prog.fieldsOf 37)):=k_
theorem ZqP:prog.stoodInHeld 37=false:=k_
theorem ZuS(a b c d:Int)(w:World):(Op.equalIn 10000 37 (.agg #[.int .i64 a,.int .i64 b]) (.agg #[.int .i64 c,.int .i64 d])).run prog w=.ok (a==c&&b==d) w:=by
 rw [run_equalIn_agg _ _ _ _ _ Zmm ZqP];have h0:=Znj;have h1:=ZnF;generalize hf:(prog.fieldsOf 37).toList=fs;rw [hf] at h0 h1;clear hf;rcases fs with _|⟨f0,_|⟨f1,_|⟨f2,fs⟩⟩⟩
 ·simp at h0
 ·simp at h0
 ·simp only [List.map_cons,List.map_nil,List.cons.injEq,Prod.mk.injEq,and_true] at h0 h1
  obtain ⟨⟨n0,o0⟩,⟨n1,o1⟩⟩:=h0;obtain ⟨t0,t1⟩:=h1;rw [ZpQ w 9998 (by rw [n0];decide) t0 (by rw [o0];rfl) (by rw [o0];rfl) _ rfl,
   ZpQ w 9998 (by rw [n1];decide) t1 (by rw [o1];rfl) (by rw [o1];rfl) _ rfl]
  cases (a==c)<;>cases (b==d)<;>simp [Op.eqFields]
 ·simp at h0
theorem ZdW(a b c d:Int)(r:Bool)(h:(a==c&&b==d)=r)(w:World):(binOp .eql 37 (.agg #[.int .i64 a,.int .i64 b]) (.agg #[.int .i64 c,.int .i64 d])).run prog w=.ok (.bool r) w:=by
 rw [run_eql_struct,ZuS,h];rfl
end Go.Proofs.YtmgmbeipbeknaaaGreatDoor
