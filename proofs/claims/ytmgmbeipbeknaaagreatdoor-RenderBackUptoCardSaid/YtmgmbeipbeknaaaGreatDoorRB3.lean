import Derived.Test.YtmgmbeipbeknaaaGreatDoorRows
import Derived.ProofKit
import Derived.OpenShut
import Derived.JoinedCond
import Derived.SliceStrings
import Derived.Test.YtmgmbeipbeknaaaGreatDoorProg
import Derived.Shelf.LaysM
import Derived.SevenTiedAt
import Derived.Deep.DeepHandedRow
import Derived.Lay
import Derived.LaidMore
import Derived.Stop.Joined
import Derived.Deep.Slices
import Derived.Deep.Fields
import Derived.ChangeSame
import Derived.Test.YtmgmbeipbeknaaaGreatDoorRB1
import Derived.Test.YtmgmbeipbeknaaaGreatDoorRB2
namespace Go.Proofs.YtmgmbeipbeknaaaGreatDoor
open Go.Proofs.Tryz
open Go Go.RowKit Go.ChangeShapes Go.WideShapes Go.ChangeAt
set_option linter.all false
set_option maxHeartbeats 16000000
set_option maxRecDepth 100000
theorem own:ownKnob prog.godebug=none:=k_
theorem laidOut:laidOutB prog=true:=k_
theorem ZdY{H:Type}{enc:TypeId×Value->H}{W W':World}(hb:Below W.heap.size W W'):∀{ts:List TypeId} {vs:List Value} {ds:List (DataW H)} {p:List MemPlace},
  (∀t∈ts,prog.readableRec t=true/\t<prog.types.size)->DataW.TrodAll enc prog W 0 (fun _=>true) true ts vs ds p->(∀x∈p,x.block<W.heap.size)->
  DataW.TrodAll enc prog W' 0 (fun b=>decide (b<W.heap.size)) true ts vs ds p
 |[],vs,ds,p,_,h,_=>by
  obtain ⟨rfl,rfl,rfl⟩:=trodAll_nil h;exact trodAll_mk0
 |t::ts,vs,ds,p,ht,h,hp=>by
  obtain ⟨v,vs',d,ds',p1,q1,rfl,rfl,rfl,h1,h2⟩:=trodAll_cons h;exact trodAll_cons_mk (Below.trod laidOut (ht t s_).1 (ht t s_).2 h1 hb (fun x hx=>hp x (by simp [hx])))
   (ZdY hb (fun t h=>ht t (by simp [h])) h2 (fun x hx=>hp x (by simp [hx])))
theorem Ztw{H:Type}{enc:TypeId×Value->H}{f:Func}{s:ChangeSpec}{W W':World}{args:Array Value}{ds gs:List (DataW H)}{before:List MemPlace}
  (hW:DataW.Whole enc prog f.params.toList s.vars false W args.toList ds gs before) (hb:Below W.heap.size W W') (hv:s.vars=[]) (hrt:f.resultTypes=#[4])
  (hts:∀t∈f.params.toList,prog.readableRec t=true/\t<prog.types.size)
  (hres:(s.fn H (ds++gs)).results=[.lit (.bool true)]) (hargs:(s.fn H (ds++gs)).args=ds) (hvs:(s.fn H (ds++gs)).vars=[]) :
  ∃v,Ending.returned (.bool true)=.returned v/\s.post enc prog f false true false false W args v W':=by
 have hlt:=hW.lt;have hW':=hW;obtain ⟨p,q,hA,hV,rfl,_,_⟩:=hW;rw [hv] at hV;obtain ⟨rfl,rfl⟩:=trodVars_none hV;refine ⟨_,rfl,ds,[],p++[],[],p,[],hW',?_,?_,?_,?_,fun h=>by cases h⟩
 ·rw [hrt,hres]
  exact trodAll_cons_mk (shut_bool underlying4 true) trodAll_mk0
 ·rw [hargs]
  exact ZdY hb hts hA (fun x hx=>hlt x (by simp [hx]))
 ·rw [hv,hvs];rfl
 ·exact hb.frame _
open Go Go.RowKit
def Zz(w:World):Prop:=∃m,w.cell? ⟨0,0,none⟩=some (.int .i64 m)
theorem Zz.below{w w':World}(h:Zz w)(hb:Below w.heap.size w w'):Zz w':=by
 obtain ⟨m,hm⟩:=h;exact ⟨m,(hb.cell (p:=⟨0,0,none⟩) (World.block_lt_of_cell? w _ hm)).trans hm⟩
theorem Zz.fr{w w':World}{M:Nat->Prop}(h:Zz w)(hf:Fr M w w')(hM:¬M 0):Zz w':=by
 obtain ⟨m,hm⟩:=h;refine ⟨m,?_⟩;rw [<-hm];unfold World.cell?;rw [hf.block _ (World.block_lt_of_cell? w _ hm) hM]
theorem ZsK{W:World}(h:W.ShapedOpen prog):Zz W:=
 Go.Proofs.cell_of_shapedOpen_int (zero:=#[.int .i64 0]) (t:=3) h (of_decide_eq_true k_) k_ rfl k_ k_ underlying3
theorem Zkh{H:Type}{enc:TypeId×Value->H}{C:Checked}{os:Os}{f:FuncId}{fn:Func}{s:OpenSpec}{conds:List PathCond}{apart:Bool}{laid:List (String×DataW Unit)}(w0:World)(args:Array Value)(hos:w0.os=os)
  (hsh:(w0.forCall (fun _ _=>0) ⟨#[],args,[]⟩).Shaped C.prog)
  (hok:Input.okWideB C.prog (w0.forCall (fun _ _=>0) ⟨#[],args,[]⟩) f ⟨#[],args,[]⟩=true)
  (hrow:s.preRow enc C.prog fn conds apart laid (w0.forCall (fun _ _=>0) ⟨#[],args,[]⟩).memory args) :
  ∃(w:World) (tape:Tape) (i:Input),w.os=os/\(w.forCall tape i).Shaped C.prog/\i.vars=[]/\Input.okWide C.prog (w.forCall tape i) .any w.heap.size f i/\
   s.preRow enc C.prog fn conds apart laid (w.forCall tape i).memory i.args/\({}:Assume).holds C.prog (lone (Frame.enter C.prog f i.args .normal) [] (w.forCall tape i)):=
 ⟨w0,fun _ _=>0,⟨#[],args,[]⟩,hos,hsh,(Input.okWide_of_okWideB (base:=0) hok).1,(Input.okWide_of_okWideB hok).2,hrow,by
  simp only [Assume.holds];exact ⟨s_,s_,s_,s_,s_⟩⟩
theorem ZsQ{q:Bool}{name:String}{k:FuncId}{F:Func}(hn:prog.funcNamed name=some k)(hk:prog.funcs[k]?=some F)(hl:q=Tryz.pinned.checked.prog.looks [])(ts:List TypeId)(hp:F.params.toList=ts)(hall:(ts.all fun u=>!prog.wantsStandIn u)=true)
  (f:FuncId) (fn:Func) (hf:Tryz.pinned.checked.prog.funcNamed name=some f) (hfn:Tryz.pinned.checked.prog.funcs[f]?=some fn) :
  q=Tryz.pinned.checked.prog.looks []/\∀(j:Nat) t,fn.params[j]?=some t->Tryz.pinned.checked.prog.wantsStandIn t=false:=by
 obtain rfl:k=f:=Option.some.inj (hn.symm.trans hf);obtain rfl:F=fn:=Option.some.inj (hk.symm.trans hfn);refine ⟨hl,fun j t ht=>?_⟩;have hm:t∈ts:=by rw [<-hp];simpa using Array.mem_of_getElem? ht
 exact (show prog.wantsStandIn t=false by simpa using c7_.1 hall t hm)
open Go Go.RowKit Go.ChangeShapes Go.WideShapes Go.Deep
section
variable {H:Type} {enc:TypeId×Value->H} {P:Program} {w:World} {base:Nat} {spare:Nat->Bool} {held:Bool}
theorem Zfm{t e:TypeId}{fs:Array Field}{fuel:Nat}{cs:List Value}{x:DataW H×List MemPlace}(ht:P.underlying t=some (.slice e))(he:P.underlying e=some (.struct fs))
  (hone:oneCellFields P fs=true) (hC:P.cellsOf e=fs.size) (h:DataW.trod enc P w base spare held fuel t cs=some x) :
  (cs=[.slice none 0 0]/\x=(.nil,[]))\/
  ∃(a:Addr) (len cap m:Nat) (D:Nat->DataW H) (Pl:Nat->List MemPlace),cs=[.slice (some a) len cap]/\base<=a.block/\len<=cap/\cap<=maxLen/\m=(if spare a.block then cap else len)/\
   x=(.slice ((List.range len).map D) ((List.range (m-len)).map fun j=>D (len+j)),MemPlace.row a (m*fs.size)++(List.range m).flatMap Pl)/\
   ∀i,i<m->∃(ys:List (DataW H×List MemPlace)) (n:Nat),D i=.agg (ys.map (·.1))/\Pl i=ys.flatMap (·.2)/\ys.length=fs.size/\
    ∀(j:Nat) (f:Field),fs[j]?=some f->∃(v:Value) (y:DataW H×List MemPlace),w.cell? (a.add (i*fs.size+j))=some v/\ys[j]?=some y/\DataW.trod enc P w base spare held n f.type [v]=some y:=by
 rcases open_slice ht h with h0|⟨a,len,cap,m,n,D,Pl,hcs,hb,hl,hm,hmm,hx,hi⟩
 ·exact .inl h0
 ·refine .inr ⟨a,len,cap,m,D,Pl,hcs,hb,hl,hm,hmm,by rw [hC] at hx;exact hx,fun i him=>?_⟩
  obtain ⟨cs',hc,ht'⟩:=hi i him;rw [hC] at hc;obtain ⟨ys,n',hn',hy,hlen,hyl,hf⟩:=DataW.trod_struct he ht';obtain ⟨_,hcl,hat⟩:=World.cells?_some hc;simp only [Prod.mk.injEq] at hy;refine ⟨ys,n',hy.1,hy.2,hyl,fun j f hj=>?_⟩;obtain ⟨ho,hk⟩:=hone_of hone j f hj;have hjl:j<fs.size:=(c6_.1 hj).1;have hcell:=hat j hjl;have hv:cs'[j]?=some (cs'[j]' o_):=List.getElem?_eq_getElem o_;have h1:=hf j f hj;rw [ho,hk] at h1;have hone':(cs'.drop j).take 1=[cs'[j]' o_]:=by
   rw [List.drop_eq_getElem_cons o_];rfl
  rw [hone'] at h1;have hys:ys[j]?=some (ys[j]' o_):=List.getElem?_eq_getElem o_;refine ⟨_,_,?_,hys,h1.trans hys⟩;rw [<-Go.Deep.add_add,hcell,hv]
end
def ZfO(w:World)(oa:Option Addr)(l:List Ln):Prop:=
 ∀i (h:i<l.length),∃b o,oa=some ⟨b,o,none⟩/\w.cell? ⟨b,o+i*4,none⟩=some (.string ⟨l[i].sec.toArray⟩)/\w.cell? ⟨b,o+i*4+1,none⟩=some (.string ⟨l[i].key.toArray⟩)/\
  w.cell? ⟨b,o+i*4+2,none⟩=some (.string ⟨l[i].val.toArray⟩)/\w.cell? ⟨b,o+i*4+3,none⟩=some (.int .i64 l[i].at_)
theorem ZfO.nil(w:World)(oa:Option Addr):ZfO w oa []:=fun i hi=>absurd hi s_
def Zbw:List Ln->Nat
 |[]=>0
 |x::r=>x.sec.length+x.key.length+x.val.length+5+Zbw r
theorem Zqa{l:List Ln}{x:Ln}(h:x∈l):x.sec.length+x.key.length+x.val.length+5<=Zbw l:=by
 induction l with
 |nil=>cases h
 |cons a r ih=>
  simp only [Zbw];rcases List.mem_cons.1 h with rfl|h
  ·omega
  ·have:=ih h;omega
theorem Zjy:∀(l:List Ln),l.length<=Zbw l
 |[]=>by simp [Zbw]
 |x::r=>by have:=Zjy r;simp [Zbw];omega
theorem Zmu{α:Type}(P:Nat->α->Prop):∀(n:Nat),(∀i,i<n->∃x,P i x)->∃l:List α,l.length=n/\∀i (h:i<l.length),P i l[i]
 |0,_=>⟨[],rfl,fun i h=>absurd h s_⟩
 |n+1,h=>by
  obtain ⟨l,hl,hP⟩:=Zmu P n (fun i hi=>h i o_);obtain ⟨x,hx⟩:=h n o_;refine ⟨l++[x],by simp [hl],fun i hi=>?_⟩;by_cases e:i<l.length
  ·rw [List.getElem_append_left e];exact hP i e
  ·simp at hi
   have:i=l.length:=o_
   subst this;rw [List.getElem_concat_length rfl,hl];exact hx
def Zig{H:Type}(x:Ln):DataW H:=.agg [.lit (.string x.sec),.lit (.string x.key),.lit (.string x.val),.lit (.int .i64 x.at_)]
theorem Zmj{H:Type}:∀(l:List Ln),Zbw l=Rows.uptoBulkAll (l.map (Zig (H:=H)))
 |[]=>by simp [Zbw,Rows.uptoBulkAll]
 |x::r=>by
  have:=Zmj (H:=H) r
  simp only [List.map_cons,Zbw,Rows.uptoBulkAll,Zig,Rows.uptoBulk];omega
theorem Zrp{b o:Nat}{sp:Option Nat}{k:Nat}{w:World}{v:Value}(h:w.cell? ((⟨b,o,sp⟩:Addr).add 0)=some v):sp=none:=by
 have e:(⟨b,o,sp⟩:Addr).add 0=⟨b,o,sp⟩:=rfl;rw [e] at h;cases sp with
 |none=>rfl
 |some x=>simp [World.cell?] at h;split at h<;>simp at h
theorem Ztj(b o k:Nat):(⟨b,o,none⟩:Addr).add k=⟨b,o+k,none⟩:=n100_
theorem Zri{H:Type}{enc:TypeId×Value->H}{W:World}{base:Nat}{v:Value}{d:DataW H}{ps:List MemPlace}(hval:Value.okWide prog W .any base 33 v)
  (h:DataW.Trod enc prog W 0 (fun _=>true) true 33 v d ps) :
  ∃oa cap l,v=.slice oa (List.length l) cap/\ZfO W oa l/\List.length l<=cap/\Zbw l<=Rows.uptoBulk d:=by
 obtain ⟨a0,len,cap,rfl⟩:=okWide_slice underlying33 hval;obtain ⟨fuel,hf⟩:=h;rcases Zfm underlying33 underlying53 k_ k_ hf with ⟨hcs,hx⟩|⟨a,len',cap',m,D,Pl,hcs,_,hl,hm,hmm,hx,hi⟩
 ·simp [Value.cells] at hcs
  obtain ⟨rfl,rfl,rfl⟩:=hcs;exact ⟨none,0,[],rfl,ZfO.nil _ _,Nat.zero_le _,by simp [Zbw]⟩
 ·simp [Value.cells] at hcs
  obtain ⟨rfl,rfl,rfl⟩:=hcs;simp only [Prod.mk.injEq] at hx;obtain ⟨rfl,rfl⟩:=hx;simp only [if_true] at hmm;obtain ⟨b,o,sp⟩:=a;obtain ⟨l,hll,hP⟩:=Zmu (fun i (x:Ln)=>(∃h0:sp=none,W.cell? ⟨b,o+i*4,none⟩=some (.string ⟨x.sec.toArray⟩)/\W.cell? ⟨b,o+i*4+1,none⟩=some (.string ⟨x.key.toArray⟩)/\W.cell? ⟨b,o+i*4+2,none⟩=some (.string ⟨x.val.toArray⟩)/\W.cell? ⟨b,o+i*4+3,none⟩=some (.int .i64 x.at_))/\D i=Zig x) len (by
   intro i him;have hsp:sp=none:=by
    obtain ⟨ys,n,hD,_,hys,hf⟩:=hi 0 o_;obtain ⟨v0,y0,hc0,hy0,ht0⟩:=hf 0 _ rfl;exact Zrp (k:=0) hc0
   subst hsp;obtain ⟨ys,n,hD,_,hys,hf⟩:=hi i o_;obtain ⟨v0,y0,hc0,hy0,ht0⟩:=hf 0 _ rfl;obtain ⟨v1,y1,hc1,hy1,ht1⟩:=hf 1 _ rfl;obtain ⟨v2,y2,hc2,hy2,ht2⟩:=hf 2 _ rfl;obtain ⟨v3,y3,hc3,hy3,ht3⟩:=hf 3 _ rfl;obtain ⟨s0,e0,x0,_⟩:=DataW.trod_string underlying9 ht0;obtain ⟨s1,e1,x1,_⟩:=DataW.trod_string underlying9 ht1;obtain ⟨s2,e2,x2,_⟩:=DataW.trod_string underlying9 ht2;obtain ⟨n3,e3,x3,_⟩:=DataW.trod_int underlying3 ht3;injection e0 with e0;injection e1 with e1;injection e2 with e2;injection e3 with e3
   subst e0;subst e1;subst e2;subst e3;rw [Ztj] at hc0 hc1 hc2 hc3;refine ⟨⟨s0.data.toList,s1.data.toList,s2.data.toList,n3⟩,⟨rfl,hc0,?_,?_,?_⟩,?_⟩
   ·rw [<-Nat.add_assoc] at hc1;exact hc1
   ·rw [<-Nat.add_assoc] at hc2;exact hc2
   ·rw [<-Nat.add_assoc] at hc3;exact hc3
   ·rw [hD]
    have h4:ys.length=4:=hys;rcases ys with _|⟨a,_|⟨b,_|⟨c,_|⟨d,_|⟨e,r⟩⟩⟩⟩⟩
    ·simp at h4
    ·simp at h4
    ·simp at h4
    ·simp at h4
    ·simp at hy0 hy1 hy2 hy3
     subst hy0;subst hy1;subst hy2;subst hy3;simp [Zig,x0,x1,x2,x3]
    ·simp at h4)
  subst hll;refine ⟨some ⟨b,o,sp⟩,cap,l,rfl,?_,hl,?_⟩
  ·intro i him
   obtain ⟨⟨h0,h1,h2,h3,h4⟩,_⟩:=hP i him;subst h0;exact ⟨b,o,rfl,h1,h2,h3,h4⟩
  ·rw [Zmj (H:=H)]
   have he:(List.range l.length).map D=l.map Zig:=by
    apply List.ext_getElem
    ·simp
    ·intro i h1 h2
     simp at h1;simp [(hP i h1).2]
   simp only [Rows.uptoBulk,he];omega
end Go.Proofs.YtmgmbeipbeknaaaGreatDoor
