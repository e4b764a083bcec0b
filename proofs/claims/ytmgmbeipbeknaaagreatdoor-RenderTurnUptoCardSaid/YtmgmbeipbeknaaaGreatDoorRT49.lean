import Derived.Deep.Slices
import Derived.Deep.Fields
import Derived.ChangeSame
import Derived.Lib.SmallJoins
import Derived.Test.YtmgmbeipbeknaaaGreatDoorRT7
import Derived.Test.YtmgmbeipbeknaaaGreatDoorRT39
import Derived.Test.YtmgmbeipbeknaaaGreatDoorRT42
import Derived.Test.YtmgmbeipbeknaaaGreatDoorRT48
namespace Go.Proofs.YtmgmbeipbeknaaaGreatDoor
open Go Go.RowKit Go.ChangeShapes Go.WideShapes Go.Deep
set_option linter.unusedVariables false
set_option linter.unusedSimpArgs false
set_option maxHeartbeats 16000000
set_option maxRecDepth 100000
theorem ZiM{α:Type}(P:Nat->α->Prop):∀(n:Nat),(∀i,i<n->∃x,P i x)->∃l:List α,l.length=n/\∀i (h:i<l.length),P i l[i]
 |0,_=>⟨[],rfl,fun i h=>absurd h s_⟩
 |n+1,h=>by
  obtain ⟨l,hl,hP⟩:=ZiM P n (fun i hi=>h i o_);obtain ⟨x,hx⟩:=h n o_;refine ⟨l++[x],by simp [hl],fun i hi=>?_⟩;by_cases e:i<l.length
  ·rw [List.getElem_append_left e];exact hP i e
  ·simp at hi
   have:i=l.length:=o_
   subst this;rw [List.getElem_concat_length rfl,hl];exact hx
theorem Zpk{b o:Nat}{sp:Option Nat}{w:World}{v:Value}(h:w.cell? ((⟨b,o,sp⟩:Addr).add 0)=some v):sp=none:=by
 have e:(⟨b,o,sp⟩:Addr).add 0=⟨b,o,sp⟩:=rfl;rw [e] at h;cases sp with
 |none=>rfl
 |some x=>simp [World.cell?] at h;split at h<;>simp at h
theorem Znp(b o k:Nat):(⟨b,o,none⟩:Addr).add k=⟨b,o+k,none⟩:=n75_
open Go.Proofs.Tryz
theorem m90_{p:Prop}(h:p:=by simpa [List.getD_eq_getElem?_getD,List.getElem?_eq_getElem (show j<us.length by omega)] using this):p:=h
theorem m91_{p:Prop}(h:p:=by obtain ⟨b,o,cs,e,hlt,hl,hc,rfl⟩:=h3 i hi;exact ⟨b,o,e,hlt,hc⟩):p:=h
def UC.tight(B:Nat):UC->Prop
 |.s x=>x.length<=B
 |.n x=>-9223372036854775808<=x/\x<=9223372036854775807
 |.b _=>True
 |.ss l=>(l.map fun x=>List.length x+1).sum<=B
 |.ns l=>l.length<=B/\∀x∈l,-9223372036854775808<=x/\x<=9223372036854775807
 |.rs l=>(l.map fun x=>x.2.length+1).sum<=B
 |.ps l=>(l.map fun x=>x.1.length+x.2.length+1).sum<=B
 |.cs l=>(l.map fun x=>(x.2.map fun y=>List.length y+1).sum+1).sum<=B
theorem Zpu{n:Int}(h:(Lit.int .i64 n).wf=true) : -9223372036854775808<=n/\n<=9223372036854775807:=by
 simp [Lit.wf,IntKind.min,IntKind.max,IntKind.signed,IntKind.bits] at h;omega
theorem Zjp{H α:Type}(bulk:α->Nat):∀(l:List α) (D:Nat->DataW H),(∀i (hi:i<l.length),bulk l[i]<=Rows.uptoBulk (D i))->(l.map bulk).sum<=Rows.uptoBulkAll ((List.range l.length).map D)
 |[],_,_=>s_
 |x::t,D,h=>by
  have h0:bulk x<=Rows.uptoBulk (D 0):=h 0 s_;have h1:=Zjp bulk t (fun i=>D (i+1)) (fun i hi=>h (i+1) n54_);rw [List.length_cons,List.range_succ_eq_map,List.map_cons,List.map_cons,List.sum_cons,List.map_map];simp only [Rows.uptoBulkAll];have e:(List.range t.length).map (D∘Nat.succ)=(List.range t.length).map (fun i=>D (i+1)):=rfl;rw [e];omega
theorem ZeT{α:Type}{f g:α->Nat}:∀(l:List α),(∀x∈l,f x<=g x)->(l.map f).sum<=(l.map g).sum
 |[],_=>s_
 |y::t,h=>by
  have h0:=h y s_;have h1:=ZeT t (fun x hx=>h x (by simp [hx]));simp only [List.map_cons,List.sum_cons];omega
theorem Zj0{H:Type}:∀l:List (DataW H),(l.map fun d=>Rows.uptoBulk d).sum=Rows.uptoBulkAll l
 |[]=>by simp [Rows.uptoBulkAll]
 |d::r=>by have:=Zj0 r;simp only [List.map_cons,List.sum_cons,Rows.uptoBulkAll];omega
theorem Zdk{α:Type}(f:α->Nat):∀l:List α,l.length<=(l.map fun x=>f x+1).sum
 |[]=>s_
 |x::t=>by have:=Zdk f t;simp only [List.map_cons,List.sum_cons,List.length_cons];omega
theorem J7{α:Type}(f:α->Nat):∀(l:List α) (x:α),x∈l->f x<=(l.map f).sum
 |[],_,h=>n90_
 |y::t,x,h=>by
  simp only [List.map_cons,List.sum_cons];rcases List.mem_cons.1 h with rfl|h
  ·omega
  ·have:=J7 f t x h;omega
theorem JS{H α:Type}{enc:TypeId×Value->H}{W:World}{t e:TypeId}{k:Nat}(R:α->List Value->Prop)(bulk:α->Nat)(ht:prog.underlying t=some (.slice e))(hk:prog.cellsOf e=k)(h0:0<k)
  (hel:∀(cs:List Value) (D:DataW H) (Pl:List MemPlace) (n:Nat),cs.length=k->DataW.trod enc prog W 0 (fun _=>true) true n e cs=some (D,Pl)->∃x,R x cs/\bulk x<=Rows.uptoBulk D)
  {fuel:Nat} {c:Value} {y:DataW H×List MemPlace} (h:DataW.trod enc prog W 0 (fun _=>true) true fuel t [c]=some y) :
  ∃oa cap l,c=.slice oa (List.length l) cap/\l.length<=cap/\(∀i (hi:i<l.length),∃b o cs,oa=some ⟨b,o,none⟩/\b<W.heap.size/\List.length cs=k/\(∀j v,cs[j]?=some v->W.cell? ⟨b,o+i*k+j,none⟩=some v)/\R l[i] cs)/\
   (l.map bulk).sum<Rows.uptoBulk y.1/\l.length<Rows.uptoBulk y.1:=by
 rcases open_slice ht h with ⟨hcs,rfl⟩|⟨a,len,cap,m,n,D,Pl,hcs,_,hl,hm,hmm,rfl,hi⟩
 ·simp at hcs
  subst hcs;exact ⟨none,0,[],rfl,Nat.zero_le _,fun i hi=>absurd hi s_,by simp [Rows.uptoBulk],by simp [Rows.uptoBulk]⟩
 ·simp at hcs
  subst hcs;simp only [if_true] at hmm;subst hmm;rw [hk] at hi;obtain ⟨b,o,sp⟩:=a;obtain ⟨l,hll,hP⟩:=ZiM (fun i (x:α)=>(∃cs,sp=none/\b<W.heap.size/\List.length cs=k/\(∀j v,cs[j]?=some v->W.cell? ⟨b,o+i*k+j,none⟩=some v)/\R x cs)/\bulk x<=Rows.uptoBulk (D i)) len (by
   intro i him;obtain ⟨cs',hc,ht'⟩:=hi i o_;obtain ⟨_,hcl,hat⟩:=World.cells?_some hc;have hsp:sp=none:=by
    obtain ⟨cs0,hc0,ht0⟩:=hi 0 o_;obtain ⟨_,hcl0,hat0⟩:=World.cells?_some hc0;have h1:=hat0 0 h0
    have:cs0[0]?=some (cs0[0]' o_):=List.getElem?_eq_getElem o_
    rw [this,Nat.zero_mul] at h1;exact Zpk (w:=W) h1
   subst hsp;obtain ⟨x,hR,hb⟩:=hel cs' (D i) (Pl i) n hcl ht';have hcell:∀j v,cs'[j]?=some v->W.cell? ⟨b,o+i*k+j,none⟩=some v:=by
    intro j v hj;have hjl:j<k:=by have:=(List.getElem?_eq_some_iff.1 hj).1;omega
    have h1:=hat j hjl;rw [Znp,Znp] at h1;rw [h1,hj]
   refine ⟨x,⟨cs',rfl,?_,hcl,hcell,hR⟩,hb⟩;exact World.block_lt_of_cell? W _ (hcell 0 _ (List.getElem?_eq_getElem o_)))
  subst hll;have hbk:=Zjp bulk l D (fun i hi=>(hP i hi).2);refine ⟨some ⟨b,o,sp⟩,m,l,rfl,hl,?_,?_,?_⟩
  ·intro i him
   obtain ⟨⟨cs,rfl,h1,h2,h3,h4⟩,_⟩:=hP i him;exact ⟨b,o,cs,rfl,h1,h2,h3,h4⟩
  ·simp only [Rows.uptoBulk]
   omega
  ·have:=Zo4 ((List.range l.length).map D)
   simp only [List.length_map,List.length_range] at this;simp only [Rows.uptoBulk];omega
section
variable {H:Type} {enc:TypeId×Value->H} {P:Program} {W:World} {base:Nat} {spare:Nat->Bool} {held:Bool}
theorem ZbD{t:TypeId}{f0 f1:Field}(hs:P.underlying t=some (.struct #[f0,f1]))(hone:oneCellFields P #[f0,f1]=true){n:Nat}{cs:List Value}{x:DataW H×List MemPlace}(hl:cs.length=2)
  (h:DataW.trod enc P W base spare held n t cs=some x) :
  ∃c0 c1 y0 y1 m,cs=[c0,c1]/\x.1=.agg [y0.1,y1.1]/\DataW.trod enc P W base spare held m f0.type [c0]=some y0/\DataW.trod enc P W base spare held m f1.type [c1]=some y1:=by
 obtain ⟨c0,c1,rfl⟩:∃a b,cs=[a,b]:=by
  match cs,hl with
  |[a,b],_=>exact ⟨a,b,rfl⟩
 obtain ⟨y0,y1,m,hx,_,h0,h1⟩:=trod_struct2 hs h;obtain ⟨o0,k0⟩:=hone_of hone 0 f0 rfl;obtain ⟨o1,k1⟩:=hone_of hone 1 f1 rfl;exact ⟨c0,c1,y0,y1,m,rfl,by rw [hx],by simpa [o0,k0] using h0,by simpa [o1,k1] using h1⟩
end
section
variable {H:Type} {enc:TypeId×Value->H} {W:World}
theorem Zjq{fuel:Nat}{c:Value}{y:DataW H×List MemPlace}(hk:Rows.uptoBulk y.1<=1048576)(h:DataW.trod enc prog W 0 (fun _=>true) true fuel 9 [c]=some y):∃u:UC,u.tag=0/\Q8 W u c/\u.tight (Rows.uptoBulk y.1):=by
 obtain ⟨s,e,x,_⟩:=DataW.trod_string underlying9 h;injection e with e
 subst e;rw [x];simp only [Rows.uptoBulk];exact ⟨.s s.data.toList,rfl,rfl,by show s.data.toList.length<=_;omega⟩
theorem Zdb{fuel:Nat}{c:Value}{y:DataW H×List MemPlace}(h:DataW.trod enc prog W 0 (fun _=>true) true fuel 3 [c]=some y):∃u:UC,u.tag=1/\Q8 W u c/\u.tight (Rows.uptoBulk y.1):=by
 obtain ⟨n,e,x,hw⟩:=DataW.trod_int underlying3 h;injection e with e
 subst e;exact ⟨.n n,rfl,rfl,Zpu hw⟩
theorem Zo7{fuel:Nat}{c:Value}{y:DataW H×List MemPlace}(h:DataW.trod enc prog W 0 (fun _=>true) true fuel 4 [c]=some y):∃u:UC,u.tag=2/\Q8 W u c/\u.tight (Rows.uptoBulk y.1):=by
 obtain ⟨b,e,x⟩:=DataW.trod_bool underlying4 h;injection e with e
 subst e;exact ⟨.b b,rfl,rfl,trivial⟩
theorem Zf1{fuel:Nat}{c:Value}{y:DataW H×List MemPlace}(h:DataW.trod enc prog W 0 (fun _=>true) true fuel 26 [c]=some y) :
  ∃oa cap l,c=.slice oa (List.length l) cap/\Zn W oa l/\(l.map fun x=>List.length x+1).sum<Rows.uptoBulk y.1/\l.length<Rows.uptoBulk y.1:=by
 obtain ⟨oa,cap,l,h1,_,h3,h4,h5⟩:=JS (fun (x:Str) cs=>cs=[.string ⟨x.toArray⟩]) (fun x=>x.length+1) underlying26 (k:=1) k_ o_ (fun cs D Pl n hl ht=>by
  obtain ⟨c0,rfl⟩:∃a,cs=[a]:=by
   match cs,hl with
   |[a],_=>exact ⟨a,rfl⟩
  obtain ⟨s,e,x,_⟩:=DataW.trod_string underlying9 ht;simp only [Prod.mk.injEq] at x;obtain ⟨rfl,-⟩:=x;exact ⟨s.data.toList,e,by simp [Rows.uptoBulk]⟩) h
 refine ⟨oa,cap,l,h1,fun i hi=>?_,h4,h5⟩;obtain ⟨b,o,cs,e,hlt,hl,hc,rfl⟩:=h3 i hi;refine ⟨b,o,e,?_⟩
 have:=hc 0 _ rfl
 simpa using this
theorem Zd4{fuel:Nat}{c:Value}{y:DataW H×List MemPlace}(hk:Rows.uptoBulk y.1<=1048576)(h:DataW.trod enc prog W 0 (fun _=>true) true fuel 26 [c]=some y):∃u:UC,u.tag=3/\Q8 W u c/\u.tight (Rows.uptoBulk y.1):=by
 obtain ⟨oa,cap,l,h1,h2,h3,h4⟩:=Zf1 h;exact ⟨.ss l,rfl,⟨oa,cap,h1,h2,n19_⟩,Nat.le_of_lt h3⟩
theorem Ze3{fuel:Nat}{c:Value}{y:DataW H×List MemPlace}(hk:Rows.uptoBulk y.1<=1048576)(h:DataW.trod enc prog W 0 (fun _=>true) true fuel 24 [c]=some y):∃u:UC,u.tag=4/\Q8 W u c/\u.tight (Rows.uptoBulk y.1):=by
 obtain ⟨oa,cap,l,h1,_,h3,h4,h5⟩:=JS (fun (x:Int) cs=>cs=[.int .i64 x]/\(-9223372036854775808<=x/\x<=9223372036854775807)) (fun x=>0) underlying24 (k:=1) k_ o_ (fun cs D Pl n hl ht=>by
  obtain ⟨c0,rfl⟩:∃a,cs=[a]:=by
   match cs,hl with
   |[a],_=>exact ⟨a,rfl⟩
  obtain ⟨s,e,x,hw⟩:=DataW.trod_int underlying3 ht;exact ⟨s,⟨e,Zpu hw⟩,Nat.zero_le _⟩) h
 refine ⟨.ns l,rfl,⟨oa,cap,h1,fun i hi=>?_,n19_⟩,Nat.le_of_lt h5,fun x hx=>?_⟩
 rotate_left
 ·obtain ⟨i,hi,rfl⟩:=List.getElem_of_mem hx
  obtain ⟨b,o,cs,e,hlt,hl,hc,hR⟩:=h3 i hi;exact hR.2
 obtain ⟨b,o,cs,e,hlt,hl,hc,rfl,-⟩:=h3 i hi;refine ⟨b,o,e,?_⟩
 have:=hc 0 _ rfl
 simpa using this
theorem Zr6{fuel:Nat}{c:Value}{y:DataW H×List MemPlace}(hk:Rows.uptoBulk y.1<=1048576)(h:DataW.trod enc prog W 0 (fun _=>true) true fuel 22 [c]=some y):∃u:UC,u.tag=5/\Q8 W u c/\u.tight (Rows.uptoBulk y.1):=by
 obtain ⟨oa,cap,l,h1,_,h3,h4,h5⟩:=JS (fun (x:Int×Str) cs=>cs=QE x) (fun x=>x.2.length+1) underlying22 (k:=2) k_ o_ (fun cs D Pl n hl ht=>by
  obtain ⟨c0,c1,y0,y1,m,rfl,hD,h0,h1⟩:=ZbD underlying47 k_ hl ht;obtain ⟨a,e0,x0,_⟩:=DataW.trod_int underlying3 h0;obtain ⟨s,e1,x1,_⟩:=DataW.trod_string underlying9 h1;simp only at hD;subst hD;injection e0 with e0;injection e1 with e1
  subst e0;subst e1;exact ⟨(a,s.data.toList),rfl,by simp [Rows.uptoBulk,Rows.uptoBulkAll,x1];omega⟩) h
 refine ⟨.rs l,rfl,⟨oa,cap,h1,fun i hi=>?_,n19_⟩,Nat.le_of_lt h4⟩;exact m91_
theorem ZrZ{fuel:Nat}{c:Value}{y:DataW H×List MemPlace}(hk:Rows.uptoBulk y.1<=1048576)(h:DataW.trod enc prog W 0 (fun _=>true) true fuel 25 [c]=some y):∃u:UC,u.tag=7/\Q8 W u c/\u.tight (Rows.uptoBulk y.1):=by
 obtain ⟨oa,cap,l,h1,_,h3,h4,h5⟩:=JS (fun (x:Str×Str) cs=>cs=Xx x) (fun x=>x.1.length+x.2.length+1) underlying25 (k:=2) k_ o_ (fun cs D Pl n hl ht=>by
  obtain ⟨c0,c1,y0,y1,m,rfl,hD,h0,h1⟩:=ZbD underlying64 k_ hl ht;obtain ⟨a,e0,x0,_⟩:=DataW.trod_string underlying9 h0;obtain ⟨s,e1,x1,_⟩:=DataW.trod_string underlying9 h1;simp only at hD;subst hD;injection e0 with e0;injection e1 with e1
  subst e0;subst e1;exact ⟨(a.data.toList,s.data.toList),rfl,by simp [Rows.uptoBulk,Rows.uptoBulkAll,x0,x1];omega⟩) h
 refine ⟨.ps l,rfl,⟨oa,cap,h1,fun i hi=>?_,n19_⟩,Nat.le_of_lt h4⟩;exact m91_
theorem Zfv{fuel:Nat}{c:Value}{y:DataW H×List MemPlace}(hk:Rows.uptoBulk y.1<=1048576)(h:DataW.trod enc prog W 0 (fun _=>true) true fuel 23 [c]=some y):∃u:UC,u.tag=6/\Q8 W u c/\u.tight (Rows.uptoBulk y.1):=by
 obtain ⟨oa,cap,l,h1,_,h3,h4,h5⟩:=JS (fun (x:(Za0×Qs)×Nat) cs=>cs=ZgO x.1.1/\(x.2<=1048576->Zpl W x.1.1 x.1.2)/\(x.1.2.2.map fun y=>List.length y+1).sum+1<=x.2) (fun x=>x.2) underlying23 (k:=2) k_ o_ (fun cs D Pl n hl ht=>by
  obtain ⟨c0,c1,y0,y1,m,rfl,hD,h0,h1⟩:=ZbD underlying49 k_ hl ht;obtain ⟨a,e0,x0⟩:=DataW.trod_bool underlying4 h0;obtain ⟨wa,wc,ws,rfl,hr,hx,hln⟩:=Zf1 h1;simp only at hD;subst hD;injection e0 with e0
  subst e0;refine ⟨((⟨a,wa,ws.length,wc⟩,(a,ws)),Rows.uptoBulk y1.1),⟨rfl,fun hb=>?_,hx⟩,by simp [Rows.uptoBulk,Rows.uptoBulkAll];omega⟩;simp only at hb;exact ⟨rfl,rfl,hr,by unfold maxLen;show ws.length<=_;omega⟩) h
 refine ⟨.cs (l.map (·.1.2)),rfl,⟨oa,cap,l.map (·.1.1),by rw [List.length_map];exact h1,⟨s_,fun i hi=>?_,fun i hi1 hi2=>?_⟩,by rw [List.length_map];unfold maxLen;omega⟩,?_⟩
 ·rw [List.length_map] at hi
  obtain ⟨b,o,cs,e,hlt,hl,hc,hR⟩:=h3 i hi;refine ⟨b,o,e,hlt,fun j v hj=>hc j v ?_⟩;rw [List.getElem_map] at hj;rw [hR.1];exact hj
 ·rw [List.length_map] at hi1
  obtain ⟨b,o,cs,e,hlt,hl,hc,hR⟩:=h3 i hi1;rw [List.getElem_map,List.getElem_map]
  have:=J7 (fun x:(Za0×Qs)×Nat=>x.2) l _ (List.getElem_mem hi1)
  exact hR.2.1 o_
 ·show ((l.map (·.1.2)).map fun x=>(x.2.map fun y=>List.length y+1).sum+1).sum<=_
  rw [List.map_map];refine Nat.le_trans (ZeT (g:=fun x:(Za0×Qs)×Nat=>x.2) l (fun x hx=>?_)) (Nat.le_of_lt h4);obtain ⟨i,hi,he⟩:=List.getElem_of_mem hx;obtain ⟨b,o,cs,e,hlt,hl,hc,hR⟩:=h3 i hi;rw [he] at hR;exact hR.2.2
theorem Zg2{v:Value}{d:DataW H}{ps:List MemPlace}{r:Reach}{b0:Nat}(hval:Value.okWide prog W r b0 28 v)(hk:Rows.uptoBulk d<=1048576)(h:DataW.Trod enc prog W 0 (fun _=>true) true 28 v d ps) :
  ∃cs u,v=.agg cs/\ZI W cs u/\Zx u/\∃B:List Nat,B.length=35/\B.sum<=1048576/\(∀j,(u j).tight (B.getD j 0)):=by
 obtain ⟨cs,rfl,hsz⟩:=okWide_struct underlying28 hval;have h35:cs.size=35:=by rw [hsz];kernel_rfl
 obtain ⟨fuel,hf0⟩:=h;obtain ⟨xs,m,_,hx,_,hlen,hf⟩:=DataW.trod_struct underlying28 hf0;have hl35:xs.length=35:=hlen;have hd:d=.agg (xs.map (·.1)):=by
  have:=hx
  simp only [Prod.mk.injEq] at this;exact this.1
 have hb:∀j (hj:j<xs.length),Rows.uptoBulk xs[j].1<=1048576:=fun j hj=>by
  have:=Zov (H:=H) (d:=xs[j].1) (l:=xs.map (·.1)) (List.mem_map.2 ⟨xs[j],List.getElem_mem hj,rfl⟩)
  rw [hd] at hk;simp only [Rows.uptoBulk] at hk;omega
 have gx:∀j (hj:j<xs.length),xs[j]?=some xs[j]:=fun j hj=>List.getElem?_eq_getElem hj
 have cut:∀j (hj:j<35),((Value.cells (.agg cs)).toList.drop j).take 1=[cs[j]' o_]:=fun j hj=>by
  show (cs.toList.drop j).take 1=_;rw [List.drop_eq_getElem_cons n5_];simp
 have z_s:prog.cellsOf 9=1:=k_;have z_n:prog.cellsOf 3=1:=k_;have z_b:prog.cellsOf 4=1:=k_;have z_ss:prog.cellsOf 26=1:=k_;have z_ns:prog.cellsOf 24=1:=k_;have z_rs:prog.cellsOf 22=1:=k_;have z_ps:prog.cellsOf 25=1:=k_;have z_cs:prog.cellsOf 23=1:=k_;have all:∀j (hj:j<35),∃u:UC,u.tag=(ZF j).tag/\Q8 W u (cs[j]' o_)/\u.tight (Rows.uptoBulk (xs[j]' o_).1):=by
  intro j hj;rcases (show j=0\/j=1\/j=2\/j=3\/j=4\/j=5\/j=6\/j=7\/j=8\/j=9\/j=10\/j=11\/j=12\/j=13\/j=14\/j=15\/j=16\/j=17\/j=18\/j=19\/j=20\/j=21\/j=22\/j=23\/j=24\/j=25\/j=26\/j=27\/j=28\/j=29\/j=30\/j=31\/j=32\/j=33\/j=34 by omega) with rfl|rfl|rfl|rfl|rfl|rfl|rfl|rfl|rfl|rfl|rfl|rfl|rfl|rfl|rfl|rfl|rfl|rfl|rfl|rfl|rfl|rfl|rfl|rfl|rfl|rfl|rfl|rfl|rfl|rfl|rfl|rfl|rfl|rfl|rfl
  ·have h:DataW.trod enc prog W 0 (fun _=>true) true m 9 (((Value.cells (.agg cs)).toList.drop 0).take (prog.cellsOf 9))=xs[0]?:=hf 0 _ rfl
   rw [z_s,cut 0 d_,gx 0 o_] at h;exact Zjq (hb 0 o_) h
  ·have h:DataW.trod enc prog W 0 (fun _=>true) true m 3 (((Value.cells (.agg cs)).toList.drop 1).take (prog.cellsOf 3))=xs[1]?:=hf 1 _ rfl
   rw [z_n,cut 1 d_,gx 1 o_] at h;exact Zdb h
  ·have h:DataW.trod enc prog W 0 (fun _=>true) true m 9 (((Value.cells (.agg cs)).toList.drop 2).take (prog.cellsOf 9))=xs[2]?:=hf 2 _ rfl
   rw [z_s,cut 2 d_,gx 2 o_] at h;exact Zjq (hb 2 o_) h
  ·have h:DataW.trod enc prog W 0 (fun _=>true) true m 4 (((Value.cells (.agg cs)).toList.drop 3).take (prog.cellsOf 4))=xs[3]?:=hf 3 _ rfl
   rw [z_b,cut 3 d_,gx 3 o_] at h;exact Zo7 h
  ·have h:DataW.trod enc prog W 0 (fun _=>true) true m 22 (((Value.cells (.agg cs)).toList.drop 4).take (prog.cellsOf 22))=xs[4]?:=hf 4 _ rfl
   rw [z_rs,cut 4 d_,gx 4 o_] at h;exact Zr6 (hb 4 o_) h
  ·have h:DataW.trod enc prog W 0 (fun _=>true) true m 3 (((Value.cells (.agg cs)).toList.drop 5).take (prog.cellsOf 3))=xs[5]?:=hf 5 _ rfl
   rw [z_n,cut 5 d_,gx 5 o_] at h;exact Zdb h
  ·have h:DataW.trod enc prog W 0 (fun _=>true) true m 3 (((Value.cells (.agg cs)).toList.drop 6).take (prog.cellsOf 3))=xs[6]?:=hf 6 _ rfl
   rw [z_n,cut 6 d_,gx 6 o_] at h;exact Zdb h
  ·have h:DataW.trod enc prog W 0 (fun _=>true) true m 3 (((Value.cells (.agg cs)).toList.drop 7).take (prog.cellsOf 3))=xs[7]?:=hf 7 _ rfl
   rw [z_n,cut 7 d_,gx 7 o_] at h;exact Zdb h
  ·have h:DataW.trod enc prog W 0 (fun _=>true) true m 23 (((Value.cells (.agg cs)).toList.drop 8).take (prog.cellsOf 23))=xs[8]?:=hf 8 _ rfl
   rw [z_cs,cut 8 d_,gx 8 o_] at h;exact Zfv (hb 8 o_) h
  ·have h:DataW.trod enc prog W 0 (fun _=>true) true m 23 (((Value.cells (.agg cs)).toList.drop 9).take (prog.cellsOf 23))=xs[9]?:=hf 9 _ rfl
   rw [z_cs,cut 9 d_,gx 9 o_] at h;exact Zfv (hb 9 o_) h
  ·have h:DataW.trod enc prog W 0 (fun _=>true) true m 23 (((Value.cells (.agg cs)).toList.drop 10).take (prog.cellsOf 23))=xs[10]?:=hf 10 _ rfl
   rw [z_cs,cut 10 d_,gx 10 o_] at h;exact Zfv (hb 10 o_) h
  ·have h:DataW.trod enc prog W 0 (fun _=>true) true m 23 (((Value.cells (.agg cs)).toList.drop 11).take (prog.cellsOf 23))=xs[11]?:=hf 11 _ rfl
   rw [z_cs,cut 11 d_,gx 11 o_] at h;exact Zfv (hb 11 o_) h
  ·have h:DataW.trod enc prog W 0 (fun _=>true) true m 23 (((Value.cells (.agg cs)).toList.drop 12).take (prog.cellsOf 23))=xs[12]?:=hf 12 _ rfl
   rw [z_cs,cut 12 d_,gx 12 o_] at h;exact Zfv (hb 12 o_) h
  ·have h:DataW.trod enc prog W 0 (fun _=>true) true m 4 (((Value.cells (.agg cs)).toList.drop 13).take (prog.cellsOf 4))=xs[13]?:=hf 13 _ rfl
   rw [z_b,cut 13 d_,gx 13 o_] at h;exact Zo7 h
  ·have h:DataW.trod enc prog W 0 (fun _=>true) true m 3 (((Value.cells (.agg cs)).toList.drop 14).take (prog.cellsOf 3))=xs[14]?:=hf 14 _ rfl
   rw [z_n,cut 14 d_,gx 14 o_] at h;exact Zdb h
  ·have h:DataW.trod enc prog W 0 (fun _=>true) true m 3 (((Value.cells (.agg cs)).toList.drop 15).take (prog.cellsOf 3))=xs[15]?:=hf 15 _ rfl
   rw [z_n,cut 15 d_,gx 15 o_] at h;exact Zdb h
  ·have h:DataW.trod enc prog W 0 (fun _=>true) true m 3 (((Value.cells (.agg cs)).toList.drop 16).take (prog.cellsOf 3))=xs[16]?:=hf 16 _ rfl
   rw [z_n,cut 16 d_,gx 16 o_] at h;exact Zdb h
  ·have h:DataW.trod enc prog W 0 (fun _=>true) true m 3 (((Value.cells (.agg cs)).toList.drop 17).take (prog.cellsOf 3))=xs[17]?:=hf 17 _ rfl
   rw [z_n,cut 17 d_,gx 17 o_] at h;exact Zdb h
  ·have h:DataW.trod enc prog W 0 (fun _=>true) true m 24 (((Value.cells (.agg cs)).toList.drop 18).take (prog.cellsOf 24))=xs[18]?:=hf 18 _ rfl
   rw [z_ns,cut 18 d_,gx 18 o_] at h;exact Ze3 (hb 18 o_) h
  ·have h:DataW.trod enc prog W 0 (fun _=>true) true m 25 (((Value.cells (.agg cs)).toList.drop 19).take (prog.cellsOf 25))=xs[19]?:=hf 19 _ rfl
   rw [z_ps,cut 19 d_,gx 19 o_] at h;exact ZrZ (hb 19 o_) h
  ·have h:DataW.trod enc prog W 0 (fun _=>true) true m 26 (((Value.cells (.agg cs)).toList.drop 20).take (prog.cellsOf 26))=xs[20]?:=hf 20 _ rfl
   rw [z_ss,cut 20 d_,gx 20 o_] at h;exact Zd4 (hb 20 o_) h
  ·have h:DataW.trod enc prog W 0 (fun _=>true) true m 24 (((Value.cells (.agg cs)).toList.drop 21).take (prog.cellsOf 24))=xs[21]?:=hf 21 _ rfl
   rw [z_ns,cut 21 d_,gx 21 o_] at h;exact Ze3 (hb 21 o_) h
  ·have h:DataW.trod enc prog W 0 (fun _=>true) true m 3 (((Value.cells (.agg cs)).toList.drop 22).take (prog.cellsOf 3))=xs[22]?:=hf 22 _ rfl
   rw [z_n,cut 22 d_,gx 22 o_] at h;exact Zdb h
  ·have h:DataW.trod enc prog W 0 (fun _=>true) true m 9 (((Value.cells (.agg cs)).toList.drop 23).take (prog.cellsOf 9))=xs[23]?:=hf 23 _ rfl
   rw [z_s,cut 23 d_,gx 23 o_] at h;exact Zjq (hb 23 o_) h
  ·have h:DataW.trod enc prog W 0 (fun _=>true) true m 9 (((Value.cells (.agg cs)).toList.drop 24).take (prog.cellsOf 9))=xs[24]?:=hf 24 _ rfl
   rw [z_s,cut 24 d_,gx 24 o_] at h;exact Zjq (hb 24 o_) h
  ·have h:DataW.trod enc prog W 0 (fun _=>true) true m 24 (((Value.cells (.agg cs)).toList.drop 25).take (prog.cellsOf 24))=xs[25]?:=hf 25 _ rfl
   rw [z_ns,cut 25 d_,gx 25 o_] at h;exact Ze3 (hb 25 o_) h
  ·have h:DataW.trod enc prog W 0 (fun _=>true) true m 24 (((Value.cells (.agg cs)).toList.drop 26).take (prog.cellsOf 24))=xs[26]?:=hf 26 _ rfl
   rw [z_ns,cut 26 d_,gx 26 o_] at h;exact Ze3 (hb 26 o_) h
  ·have h:DataW.trod enc prog W 0 (fun _=>true) true m 24 (((Value.cells (.agg cs)).toList.drop 27).take (prog.cellsOf 24))=xs[27]?:=hf 27 _ rfl
   rw [z_ns,cut 27 d_,gx 27 o_] at h;exact Ze3 (hb 27 o_) h
  ·have h:DataW.trod enc prog W 0 (fun _=>true) true m 26 (((Value.cells (.agg cs)).toList.drop 28).take (prog.cellsOf 26))=xs[28]?:=hf 28 _ rfl
   rw [z_ss,cut 28 d_,gx 28 o_] at h;exact Zd4 (hb 28 o_) h
  ·have h:DataW.trod enc prog W 0 (fun _=>true) true m 4 (((Value.cells (.agg cs)).toList.drop 29).take (prog.cellsOf 4))=xs[29]?:=hf 29 _ rfl
   rw [z_b,cut 29 d_,gx 29 o_] at h;exact Zo7 h
  ·have h:DataW.trod enc prog W 0 (fun _=>true) true m 26 (((Value.cells (.agg cs)).toList.drop 30).take (prog.cellsOf 26))=xs[30]?:=hf 30 _ rfl
   rw [z_ss,cut 30 d_,gx 30 o_] at h;exact Zd4 (hb 30 o_) h
  ·have h:DataW.trod enc prog W 0 (fun _=>true) true m 26 (((Value.cells (.agg cs)).toList.drop 31).take (prog.cellsOf 26))=xs[31]?:=hf 31 _ rfl
   rw [z_ss,cut 31 d_,gx 31 o_] at h;exact Zd4 (hb 31 o_) h
  ·have h:DataW.trod enc prog W 0 (fun _=>true) true m 26 (((Value.cells (.agg cs)).toList.drop 32).take (prog.cellsOf 26))=xs[32]?:=hf 32 _ rfl
   rw [z_ss,cut 32 d_,gx 32 o_] at h;exact Zd4 (hb 32 o_) h
  ·have h:DataW.trod enc prog W 0 (fun _=>true) true m 26 (((Value.cells (.agg cs)).toList.drop 33).take (prog.cellsOf 26))=xs[33]?:=hf 33 _ rfl
   rw [z_ss,cut 33 d_,gx 33 o_] at h;exact Zd4 (hb 33 o_) h
  ·have h:DataW.trod enc prog W 0 (fun _=>true) true m 9 (((Value.cells (.agg cs)).toList.drop 34).take (prog.cellsOf 9))=xs[34]?:=hf 34 _ rfl
   rw [z_s,cut 34 d_,gx 34 o_] at h;exact Zjq (hb 34 o_) h
 obtain ⟨us,hus,hU⟩:=ZiM (fun j (u:UC)=>∀hj:j<35,u.tag=(ZF j).tag/\Q8 W u (cs[j]' o_)/\u.tight (Rows.uptoBulk (xs[j]' o_).1)) 35 (fun j hj=>by obtain ⟨u,h⟩:=all j hj;exact ⟨u,fun _=>h⟩);refine ⟨cs,fun j=>us.getD j (.s []),rfl,⟨h35,fun j v hv=>?_⟩,fun j=>?_,xs.map (fun x=>Rows.uptoBulk x.1),by rw [List.length_map,hl35],?_,fun j=>?_⟩
 ·obtain ⟨hj,rfl⟩:=Array.getElem?_eq_some_iff.1 hv
  have:=(hU j o_ o_).2.1
  exact m90_
 ·by_cases hj:j<35
  ·have:=(hU j o_ hj).1
   exact m90_
  ·show (us.getD j (UC.s [])).tag=_
   rw [List.getD_eq_getElem?_getD,List.getElem?_eq_none o_];unfold ZF;(repeat (rw [if_neg o_]));rfl
 ·rw [hd] at hk
  simp only [Rows.uptoBulk] at hk
  have:=Zj0 (H:=H) (xs.map (·.1))
  rw [List.map_map] at this;have e:xs.map (fun x=>Rows.uptoBulk x.1)=xs.map ((fun d=>Rows.uptoBulk d)∘(·.1)):=rfl;rw [e];omega
 ·by_cases hj:j<35
  ·have:=(hU j o_ hj).2.2
   simpa [List.getD_eq_getElem?_getD,List.getElem?_eq_getElem (show j<us.length by omega),List.getElem?_eq_getElem (show j<xs.length by omega)] using this
  ·show (us.getD j (UC.s [])).tight _
   have e:us.getD j (UC.s [])=UC.s []:=by rw [List.getD_eq_getElem?_getD,List.getElem?_eq_none o_];rfl
   rw [e];show ([]:Str).length<=_;simp
end
open Go Go.RowKit
structure Zt(c:UC):Prop where
 str:c.str.length<=100000000
 num : -9223372036854775808<=c.num/\c.num<=9223372036854775807
 strs:∀s∈c.strs,s.length<=100000000
 nums:∀n∈c.nums,-9223372036854775808<=n/\n<=9223372036854775807
 rels:∀r∈c.rels,r.2.length<=100000000
 cmds:∀x∈c.cmds,(Zaw x).length<=450000000/\∀y∈x.2,y.length<137438953472
 prs:∀p∈c.prs,p.1.length+p.2.length<=100000000
 len:c.len<=2000000
theorem Yw.of{u:UV}(h:∀j,Zt (u j))(hf:(ZeQ u).length<=2000000):Yw u:=
 ⟨fun j=>(h j).str,fun j=>(h j).num,fun j=>(h j).strs,fun j=>(h j).nums,(h 4).rels,fun j=>(h j).cmds,(h 19).prs,fun j=>(h j).len,hf⟩
theorem Zt.n{n:Int}(h0 : -9223372036854775808<=n)(h1:n<=9223372036854775807):Zt (.n n):=⟨n80_,⟨h0,h1⟩,n71_,n72_,n73_,n74_,n81_,by simp [UC.len]⟩
theorem Zt.b(b:Bool):Zt (.b b):=⟨n80_,n82_,n71_,n72_,n73_,n74_,n81_,by simp [UC.len]⟩
theorem Zt.s{x:Str}(h:x.length<=100000000):Zt (.s x):=⟨h,n82_,n71_,n72_,n73_,n74_,n81_,by simp [UC.len]⟩
theorem Zt.rs{l:List (Int×Str)}(h:∀r∈l,r.2.length<=100000000)(hl:l.length<=2000000):Zt (.rs l):=⟨n80_,n82_,n71_,n72_,h,n74_,n81_,hl⟩
theorem Zt.cs{l:List Qs}(h:∀x∈l,(Zaw x).length<=450000000/\∀y∈x.2,y.length<137438953472)(hl:l.length<=2000000):Zt (.cs l):=⟨n80_,n82_,n71_,n72_,n73_,h,n81_,hl⟩
theorem Zt.ss{l:List Str}(h:∀s∈l,s.length<=100000000)(hl:l.length<=2000000):Zt (.ss l):=⟨n80_,n82_,h,n72_,n73_,n74_,n81_,hl⟩
theorem Zt.ns{l:List Int}(h:∀n∈l,-9223372036854775808<=n/\n<=9223372036854775807)(hl:l.length<=2000000):Zt (.ns l):=⟨n80_,n82_,n71_,h,n73_,n74_,n81_,hl⟩
theorem Zt.ps{l:List (Str×Str)}(h:∀p∈l,p.1.length+p.2.length<=100000000)(hl:l.length<=2000000):Zt (.ps l):=⟨n80_,n82_,n71_,n72_,n73_,n74_,h,hl⟩
theorem Zt.upd{u:UV}(h:∀j,Zt (u j))(i:Nat){c:UC}(hc:Zt c):∀j,Zt (u.upd i c j):=by
 intro j;unfold UV.upd;split
 ·exact hc
 ·exact h j
theorem Zt.zero:∀j,Zt (ZF j):=by
 intro j;unfold ZF;repeat' split
 ·exact Zt.n d_ d_
 ·exact Zt.b _
 ·exact Zt.rs s_ s_
 ·exact Zt.cs s_ s_
 ·exact Zt.ns s_ s_
 ·exact Zt.ps s_ s_
 ·exact Zt.ss s_ s_
 ·exact Zt.s s_
theorem Zt.new{nm:Str}(h:nm.length<=100000000):∀j,Zt (ZT nm j):=by
 unfold ZT;split
 ·exact Zt.zero
 ·have hk:=Zdo nm
  have h0:=Zt.upd (Zt.upd (Zt.upd (Zt.upd (Zt.upd Zt.zero 0 (Zt.s h)) 1 (Zt.n (n:=(ZH nm:Nat)) o_ o_)) 3 (Zt.b true)) 5 (Zt.n (n:=10) d_ d_)) 6 (Zt.n (n:=5) d_ d_);split
  ·exact Zt.upd (Zt.upd (Zt.upd (Zt.upd h0 7 (Zt.n d_ d_)) 14 (Zt.n d_ d_)) 16 (Zt.n d_ d_)) 17 (Zt.n d_ d_)
  ·split
   ·exact Zt.upd h0 22 (Zt.n d_ d_)
   ·exact h0
def Zfs:Str:=[97,46,115,101,114,118,105,99,101]
def Znh:Str:=[98,46,116,97,114,103,101,116]
def Zrf:Str:=[114,117,110]
def Znd:Str:=[53,37]
def JC:UV:=(((ZT Zfs).upd 4 (.rs [(2,Znh)])).upd 9 (.cs [(true,[Zrf,Znd])])).upd 16 (.n 60)
theorem ZaW:Yw JC:=
 Yw.of (Zt.upd (Zt.upd (Zt.upd (Zt.new d_) 4 (Zt.rs d_ d_)) 9 (Zt.cs (by intro x hx;rw [List.mem_singleton.1 hx];exact ⟨n4_,d_⟩) d_)) 16 (Zt.n d_ d_))
  n4_
theorem Zjo:Yw ZF:=Yw.of Zt.zero n4_
theorem Zlt:Zci JC=true:=n4_
theorem Zk1:X8 JC=[91,85,110,105,116,93,10,87,97,110,116,115,61,98,46,116,97,114,103,101,116,10,10,91,83,101,114,118,105,99,101,93,10,69,120,101,99,83,116,97,114,116,61,45,114,117,110,32,53,37,37,10,84,105,109,101,111,117,116,83,116,97,114,116,83,101,99,61,49,109,105,110,10]:=n4_
theorem ZhR:(Z4 JC).length=3:=n4_
theorem ZnY:Zci ZF=false:=n4_
theorem Zht(f:Nat->Nat):∀(m:List Nat) (x:Nat),x∈m->(m.map f).sum=f x+((m.erase x).map f).sum
 |[],_,h=>n90_
 |y::t,x,h=>by
  by_cases e:y=x
  ·subst e;simp
  ·have hx:x∈t:=by rcases List.mem_cons.1 h with rfl|h;exact absurd rfl e;exact h
   have:=Zht f t x hx
   rw [List.erase_cons_tail (by simpa using e)];simp only [List.map_cons,List.sum_cons];omega
theorem Znq(f:Nat->Nat):∀(l m:List Nat),l.Nodup->(∀x∈l,x∈m)->(l.map f).sum<=(m.map f).sum
 |[],m,_,_=>s_
 |x::t,m,hn,hs=>by
  obtain ⟨h1,h2⟩:=List.nodup_cons.1 hn
  have:=Znq f t (m.erase x) h2 (fun y hy=>(List.mem_erase_of_ne (fun e=>by subst e;exact h1 hy)).2 (hs y n83_))
  rw [Zht f m x (hs x s_)];simp only [List.map_cons,List.sum_cons];omega
def Zae(k:ZQ):Bool:=if k.name=XT then true else if Yp k.name≠0 then false else if k.name=Yh then true else k.list
theorem ZaF(c:UC):c.cmds.length<=c.len/\c.nums.length<=c.len/\c.strs.length<=c.len/\c.prs.length<=c.len/\c.rels.length<=c.len:=by cases c<;>simp [UC.cmds,UC.nums,UC.strs,UC.prs,UC.rels,UC.len]
theorem Zgh:Zh XT=4/\Zh Yh=19:=n4_
theorem Zpq(u f:UV)(k:ZQ):(J2 u f k).length<=(if Zae k then (u (Zh k.name)).len else 0)+1:=by
 unfold J2 Zae;split
 ·rename_i h
  rw [List.length_map,if_pos rfl,h,Zgh.1]
  have:=(ZaF (u 4)).2.2.2.2
  omega
 ·split
  ·exact Nat.zero_le _
  ·split
   ·rename_i h
    rw [List.length_map,if_pos rfl,h,Zgh.2]
    have:=(ZaF (u 19)).2.2.2.1
    omega
   ·split
    ·exact Nat.zero_le _
    ·rw [List.length_map]
     split
     ·unfold Zbl
      split
      ·rw [List.length_map];have:=(ZaF (u (Zh k.name))).1;omega
      ·split
       ·rw [List.length_map];have:=(ZaF (u (Zh k.name))).2.1;omega
       ·have:=(ZaF (u (Zh k.name))).2.2.1;omega
     ·unfold Zbk
      split
      ·exact Nat.zero_le _
      ·split
       ·simp
       ·split<;>simp
theorem Zjr{α β:Type}(g:α->List β)(b:α->Nat):∀l:List α,(∀x∈l,(g x).length<=b x)->(l.flatMap g).length<=(l.map b).sum
 |[],_=>s_
 |x::t,h=>by
  have h0:=h x s_;have h1:=Zjr g b t (fun y hy=>h y n83_);simp only [List.flatMap_cons,List.length_append,List.map_cons,List.sum_cons];omega
theorem Zpc{α:Type}(p:α->Bool)(f:α->Nat):∀l:List α,(l.map fun x=>(if p x then f x else 0)+1).sum=((l.filter p).map f).sum+l.length
 |[]=>s_
 |x::t=>by
  have:=Zpc p f t
  simp only [List.map_cons,List.sum_cons,List.length_cons,List.filter_cons];split<;>simp_all<;>omega
theorem ZmS:((Zf.filter Zae).map fun k=>Zh k.name).Nodup:=n4_
theorem keys_in:∀x∈(Zf.filter Zae).map (fun k=>Zh k.name),x∈List.range 35:=n4_
theorem Zn4:Zf.length<=1000:=n4_
theorem Zpa(u:UV):(ZeQ u).length<=((List.range 35).map fun j=>(u j).len).sum+1000:=by
 unfold ZeQ;refine Nat.le_trans (Zjr _ (fun k=>(if Zae k then (u (Zh k.name)).len else 0)+1) Zf (fun k _=>by rw [List.length_map];exact Zpq u _ k)) ?_;rw [Zpc Zae (fun k=>(u (Zh k.name)).len) Zf];have h:=Znq (fun j=>(u j).len) _ (List.range 35) ZmS keys_in;rw [List.map_map] at h;have e:((Zf.filter Zae).map ((fun j=>(u j).len)∘fun k=>Zh k.name))=(Zf.filter Zae).map (fun k=>(u (Zh k.name)).len):=rfl;rw [e] at h
 have:=Zn4
 omega
theorem ZgZ{B:Nat}{c:UC}(h:c.tight B):c.len<=B:=by
 cases c with
 |s x=>exact Nat.zero_le _
 |n x=>exact Nat.zero_le _
 |b x=>exact Nat.zero_le _
 |ss l=>exact Nat.le_trans (Zdk (fun x:Str=>x.length) l) h
 |ns l=>exact h.1
 |rs l=>exact Nat.le_trans (Zdk (fun x:Int×Str=>x.2.length) l) h
 |ps l=>exact Nat.le_trans (Zdk (fun x:Str×Str=>x.1.length+x.2.length) l) h
 |cs l=>exact Nat.le_trans (Zdk (fun x:Qs=>(x.2.map fun y=>List.length y+1).sum) l) h
theorem Znr(c:Qs)(h:∀y∈c.2,List.length y<=1048576):(Zaw c).length<=450000000:=by
 have hj:(join c.2).length<=300000000:=by
  unfold join;split
  ·exact Nat.zero_le _
  ·split
   ·exact Nat.zero_le _
   ·have hf:=Zdp 4194306 (c.2.map Y6) (fun x hx=>by
     obtain ⟨y,hy,rfl⟩:=List.mem_map.1 hx;have h1:=ZdY y;have h2:=h y hy;omega)
    rw [List.length_map] at hf;have h3:c.2.length<=32:=o_;have h4:=Nat.mul_le_mul_right (4194306+1) h3;omega
 unfold Zaw;rw [List.length_append];split
 ·have:([45]:Str).length=1:=rfl
  omega
 ·have:([]:Str).length=0:=rfl
  omega
theorem ZjE{B:Nat}{c:UC}(h:c.tight B)(hB:B<=1048576):Zt c:=by
 have hl:=ZgZ h;cases c with
 |s x=>exact Zt.s (by have:x.length<=B:=h;omega)
 |n x=>exact Zt.n h.1 h.2
 |b x=>exact Zt.b x
 |ss l=>exact Zt.ss (fun x hx=>by have:=J7 (fun x:Str=>x.length+1) l x hx;have h':(l.map fun x:Str=>x.length+1).sum<=B:=h;omega) n52_
 |ns l=>exact Zt.ns h.2 n52_
 |rs l=>exact Zt.rs (fun x hx=>by have:=J7 (fun x:Int×Str=>x.2.length+1) l x hx;have h':(l.map fun x:Int×Str=>x.2.length+1).sum<=B:=h;omega) n52_
 |ps l=>exact Zt.ps (fun x hx=>by have:=J7 (fun x:Str×Str=>x.1.length+x.2.length+1) l x hx;have h':(l.map fun x:Str×Str=>x.1.length+x.2.length+1).sum<=B:=h;omega) n52_
 |cs l=>
  refine Zt.cs (fun x hx=>?_) n52_;have h1:=J7 (fun x:Qs=>(x.2.map fun y=>List.length y+1).sum+1) l x hx;have h':(l.map fun x:Qs=>(x.2.map fun y=>List.length y+1).sum+1).sum<=B:=h;have hy:∀y∈x.2,List.length y<=1048576:=fun y hy=>by
   have h2:List.length y+1<=(x.2.map fun y=>List.length y+1).sum:=J7 (fun y:Str=>List.length y+1) x.2 y hy;have h3:(x.2.map fun y=>List.length y+1).sum+1<=(l.map fun x:Qs=>(x.2.map fun y=>List.length y+1).sum+1).sum:=h1;exact Nat.le_trans (Nat.le_succ _) (Nat.le_trans h2 (Nat.le_trans (Nat.le_succ _) (Nat.le_trans h3 (Nat.le_trans h' hB))))
  exact ⟨Znr x hy,fun y h=>by have:=hy y h;omega⟩
theorem ZqD(B:List Nat)(j:Nat):B.getD j 0<=B.sum:=by
 by_cases h:j<B.length
 ·have h1:=J7 (fun x:Nat=>x) B B[j] (List.getElem_mem h)
  rw [List.map_id'] at h1;rw [List.getD_eq_getElem?_getD,List.getElem?_eq_getElem h];exact h1
 ·rw [List.getD_eq_getElem?_getD,List.getElem?_eq_none o_]
  exact Nat.zero_le _
theorem ZmO(B:List Nat):((List.range B.length).map fun j=>B.getD j 0)=B:=by
 apply List.ext_getElem
 ·simp
 ·intro i h1 h2
  simp [List.getD_eq_getElem?_getD,List.getElem?_eq_getElem h2]
end Go.Proofs.YtmgmbeipbeknaaaGreatDoor
