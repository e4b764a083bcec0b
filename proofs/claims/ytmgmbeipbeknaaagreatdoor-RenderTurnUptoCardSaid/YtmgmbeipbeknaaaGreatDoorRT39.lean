import Derived.Laws.StructEq
import Derived.Test.YtmgmbeipbeknaaaGreatDoorRT3
import Derived.Test.YtmgmbeipbeknaaaGreatDoorRT8
import Derived.Test.YtmgmbeipbeknaaaGreatDoorRT29
import Derived.Test.YtmgmbeipbeknaaaGreatDoorRT32
import Derived.Test.YtmgmbeipbeknaaaGreatDoorRT38
namespace Go.Proofs.YtmgmbeipbeknaaaGreatDoor
open Go Go.RowKit
set_option linter.unusedVariables false
set_option linter.unusedSimpArgs false
set_option maxHeartbeats 16000000
set_option maxRecDepth 100000
structure Zpl(w:World)(x:Za0)(c:Qs):Prop where
 dash:x.dash=c.1
 wn:x.wn=c.2.length
 row:Zn w x.wa c.2
 few:c.2.length<=maxLen
structure ZaJ(w:World)(oa:Option Addr)(xs:List Za0)(l:List Qs):Prop where
 len:xs.length=l.length
 row:Zw ZgO 2 w oa xs
 see:∀i (h1:i<xs.length) (h2:i<l.length),Zpl w xs[i] l[i]
def Q8(w:World):UC->Value->Prop
 |.s x,v=>v=.string ⟨x.toArray⟩
 |.n x,v=>v=.int .i64 x
 |.b x,v=>v=.bool x
 |.ss l,v=>∃oa cap,v=.slice oa l.length cap/\Zn w oa l/\l.length<=maxLen
 |.ns l,v=>∃oa cap,v=.slice oa l.length cap/\YT w oa l/\l.length<=maxLen
 |.rs l,v=>∃oa cap,v=.slice oa l.length cap/\Zw QE 2 w oa l/\l.length<=maxLen
 |.ps l,v=>∃oa cap,v=.slice oa l.length cap/\Zw Xx 2 w oa l/\l.length<=maxLen
 |.cs l,v=>∃oa cap xs,v=.slice oa l.length cap/\ZaJ w oa xs l/\l.length<=maxLen
structure ZI(w:World)(cs:Array Value)(u:UV):Prop where
 size:cs.size=35
 fld:∀j v,cs[j]?=some v->Q8 w (u j) v
theorem Zcd{w:World}{B e k n:Nat}{v:Value}{xs:List Value}(h:w.ownsRow B e k v n xs):n<=maxLen:=by
 rcases h.2 with ⟨_,h0⟩|⟨g,cap,cur,_,_,_,h1,h2,_⟩
 ·rw [h0];exact Nat.zero_le _
 ·exact Nat.le_trans h1 h2
theorem Yy.see{w:World}{F:Nat->Prop}:∀{c:UC} {v:Value},Yy w F c v->Q8 w c v
 |.s _,_,h=>h
 |.n _,_,h=>h
 |.b _,_,h=>h
 |.ss l,v,h=>by obtain ⟨oa,cap,rfl⟩:=ownsRow_form h.1;exact ⟨oa,cap,rfl,Zn.of_own h.1,Zcd h.1⟩
 |.ns l,v,h=>by obtain ⟨oa,cap,rfl⟩:=ownsRow_form h.1;exact ⟨oa,cap,rfl,YT.of_own h.1,Zcd h.1⟩
 |.rs l,v,h=>by obtain ⟨oa,cap,rfl⟩:=ownsRow_form h.1;exact ⟨oa,cap,rfl,Zw.of_own (enc:=QE) (k:=2) (fun _=>rfl) h.1,Zcd h.1⟩
 |.ps l,v,h=>by obtain ⟨oa,cap,rfl⟩:=ownsRow_form h.1;exact ⟨oa,cap,rfl,Zw.of_own (enc:=Xx) (k:=2) (fun _=>rfl) h.1,Zcd h.1⟩
 |.cs l,v,h=>by
  obtain ⟨xs,hl,ho,_,hc⟩:=h;rw [<-hl] at ho;obtain ⟨oa,cap,rfl⟩:=ownsRow_form ho;refine ⟨oa,cap,xs,by rw [hl],⟨hl,Zw.of_own (enc:=ZgO) (k:=2) (fun _=>rfl) ho,fun i h1 h2=>?_⟩,by rw [<-hl];exact Zcd ho⟩;have q:=hc i h1 h2;refine ⟨q.dash,q.wn,?_,?_⟩
  ·have:=q.row;exact Zn.of_own this
  ·have:=Zcd q.row;rw [q.wn] at this;exact this
theorem Xv.see{w:World}{cs:Array Value}{u:UV}(h:Xv w cs u):ZI w cs u:=⟨h.size,fun j v hv=>(h.fld j v hv).see⟩
theorem Q8.below{w w':World}(hb:Below w.heap.size w w'):∀{c:UC} {v:Value},Q8 w c v->Q8 w' c v
 |.s _,_,h=>h
 |.n _,_,h=>h
 |.b _,_,h=>h
 |.ss _,_,⟨oa,cap,e,h,q⟩=>⟨oa,cap,e,h.below hb,q⟩
 |.ns _,_,⟨oa,cap,e,h,q⟩=>⟨oa,cap,e,h.fr (M:=fun _=>False) (Fr.of_below hb _) (fun _ _ _ e=>e),q⟩
 |.rs _,_,⟨oa,cap,e,h,q⟩=>⟨oa,cap,e,h.below hb,q⟩
 |.ps _,_,⟨oa,cap,e,h,q⟩=>⟨oa,cap,e,h.below hb,q⟩
 |.cs _,_,⟨oa,cap,xs,e,h,q⟩=>⟨oa,cap,xs,e,⟨h.len,h.row.below hb,fun i h1 h2=>let s:=h.see i h1 h2;⟨s.dash,s.wn,s.row.below hb,s.few⟩⟩,q⟩
theorem Q5{w w':World}{oa:Option Addr}{xs:List Za0}{l:List Qs}(hb:Below w.heap.size w w')(h:ZaJ w oa xs l):ZaJ w' oa xs l:=⟨h.len,h.row.below hb,fun i h1 h2=>let s:=h.see i h1 h2;⟨s.dash,s.wn,s.row.below hb,s.few⟩⟩
theorem ZI.below{w w':World}{cs:Array Value}{u:UV}(h:ZI w cs u)(hb:Below w.heap.size w w'):ZI w' cs u:=⟨h.size,fun j v hv=>(h.fld j v hv).below hb⟩
theorem ZI.at{w:World}{cs:Array Value}{u:UV}(h:ZI w cs u)(j:Nat)(hj:j<35):∃v,cs[j]?=some v/\Q8 w (u j) v:=
 ⟨_,Array.getElem?_eq_getElem (by rw [h.size];exact hj),h.fld j _ (Array.getElem?_eq_getElem (by rw [h.size];exact hj))⟩
theorem ZqS(x y:Str):(UC.s x==UC.s y)=(x==y):=n32_
theorem ZrC(x y:Int):(UC.n x==UC.n y)=(x==y):=n32_
theorem Zri(x y:Bool):(UC.b x==UC.b y)=(x==y):=n32_
theorem ZqB(x y:List Str):(UC.ss x==UC.ss y)=Q7 x y:=by unfold Q7;rw [Bool.eq_iff_iff];simp
theorem Zqo(x y:List Int):(UC.ns x==UC.ns y)=decide (x=y):=n32_
theorem ZoT(x y:List (Int×Str)):(UC.rs x==UC.rs y)=decide (x=y):=n32_
theorem Zqz(x y:List (Str×Str)):(UC.ps x==UC.ps y)=decide (x=y):=n32_
theorem ZoZ(x y:List Qs):(UC.cs x==UC.cs y)=decide (x=y):=n32_
theorem Zl{a:Act}{s:Nat}{v:Value}(h:a.tmps[s]?=some v):a.eval (.tmp s)=v/\a.tmps.getD s undef=v:=by
 have:a.tmps.getD s undef=v:=by rw [Array.getD_eq_getD_getElem?,h];rfl
 exact ⟨this,this⟩
open Go.Proofs.Tryz
theorem ZgY{P:Program}(w:World){t:TypeId}{k:IntKind}(ht:P.underlying t=some (.int k)){xs:Array Value}{off:Nat}{v:Value}(hx:xs[off]?=some v):(part t xs off).run P w=.ok v w:=by
 simp [part,isAgg,run_underlying ht,hx]
theorem Zm9{P:Program}(w:World)(d:Nat){xs ys:Array Value}{f:Field}{fs:List Field}{k k':IntKind}{a b:Int}(hn:f.name≠ "_") (ht:P.underlying f.type=some (.int k')) (hx:xs[f.offset]?=some (.int k a)) (hy:ys[f.offset]?=some (.int k b)) (r:Bool) (hr:(a==b)=r) :
  (Op.eqFields (d+1) xs ys (f::fs)).run P w=if r=true then (Op.eqFields (d+1) xs ys fs).run P w else .ok false w:=by
 simp only [Op.eqFields,if_pos hn,Sem.run_bind,ZgY w ht hx,ZgY w ht hy,Result.andThen_ok,run_equalIn_int w d f.type k k' a b ht,hr];cases r<;>simp
theorem ZkX:(prog.fieldsOf 37).toList.map (fun f=>(f.name,f.offset))=[("Code",0),("At",1)]:=k_
theorem ZmR:(prog.fieldsOf 37).toList.map (fun f=>prog.underlying f.type)=[some (.int .i64),some (.int .i64)]:=k_
theorem ZkY:prog.underlying 37=some (.struct (prog.fieldsOf 37)):=k_
theorem Zol:prog.stoodInHeld 37=false:=k_
theorem Znb(a b c d:Int)(w:World):(Op.equalIn 10000 37 (.agg #[.int .i64 a,.int .i64 b]) (.agg #[.int .i64 c,.int .i64 d])).run prog w=.ok (a==c&&b==d) w:=by
 rw [run_equalIn_agg _ _ _ _ _ ZkY Zol];have h0:=ZkX;have h1:=ZmR;generalize hf:(prog.fieldsOf 37).toList=fs;rw [hf] at h0 h1;clear hf;rcases fs with _|⟨f0,_|⟨f1,_|⟨f2,fs⟩⟩⟩
 ·simp at h0
 ·simp at h0
 ·simp only [List.map_cons,List.map_nil,List.cons.injEq,Prod.mk.injEq,and_true] at h0 h1
  obtain ⟨⟨n0,o0⟩,⟨n1,o1⟩⟩:=h0;obtain ⟨t0,t1⟩:=h1;rw [Zm9 w 9998 (by rw [n0];decide) t0 (by rw [o0];rfl) (by rw [o0];rfl) _ rfl,
   Zm9 w 9998 (by rw [n1];decide) t1 (by rw [o1];rfl) (by rw [o1];rfl) _ rfl]
  cases (a==c)<;>cases (b==d)<;>simp [Op.eqFields]
 ·simp at h0
theorem ZgP(a b c d:Int)(r:Bool)(h:(a==c&&b==d)=r)(w:World):(binOp .eql 37 (.agg #[.int .i64 a,.int .i64 b]) (.agg #[.int .i64 c,.int .i64 d])).run prog w=.ok (.bool r) w:=by
 rw [run_eql_struct,Znb,h];rfl
theorem Zgn(a b c d:Int)(r:Bool)(h:(a==c&&b==d)=r)(w:World):(binOp .neq 37 (.agg #[.int .i64 a,.int .i64 b]) (.agg #[.int .i64 c,.int .i64 d])).run prog w=.ok (.bool (!r)) w:=by
 rw [run_neq_struct,Znb,h];rfl
end Go.Proofs.YtmgmbeipbeknaaaGreatDoor
