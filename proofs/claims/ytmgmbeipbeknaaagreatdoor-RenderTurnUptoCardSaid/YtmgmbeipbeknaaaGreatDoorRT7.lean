import Derived.Test.YtmgmbeipbeknaaaGreatDoorRows
import Derived.ProofKit
import Derived.OpenShut
import Derived.JoinedCond
import Derived.SliceStrings
import Derived.Test.YtmgmbeipbeknaaaGreatDoorProg
import Derived.Shelf.LaysM
import Derived.SevenTiedAt
import Derived.Deep.DeepHandedRow
import Derived.Lay
import Derived.LaidMore
import Derived.Stop.Joined
import Derived.Deep.LoopGhost
import Derived.Test.YtmgmbeipbeknaaaGreatDoorRT1
import Derived.Test.YtmgmbeipbeknaaaGreatDoorRT2
import Derived.Test.YtmgmbeipbeknaaaGreatDoorRT3
import Derived.Test.YtmgmbeipbeknaaaGreatDoorRT6
namespace Go.Proofs.YtmgmbeipbeknaaaGreatDoor
open Go.Proofs.Tryz
open Go Go.RowKit Go.ChangeShapes Go.WideShapes Go.ChangeAt
set_option linter.unusedVariables false
set_option linter.unusedSimpArgs false
set_option maxHeartbeats 16000000
set_option maxRecDepth 100000
theorem own:ownKnob prog.godebug=none:=k_
theorem laidOut:laidOutB prog=true:=k_
theorem Zcp{H:Type}{enc:TypeId×Value->H}{W W':World}(hb:Below W.heap.size W W'):∀{ts:List TypeId} {vs:List Value} {ds:List (DataW H)} {p:List MemPlace},
  (∀t∈ts,prog.readableRec t=true/\t<prog.types.size)->DataW.TrodAll enc prog W 0 (fun _=>true) true ts vs ds p->(∀x∈p,x.block<W.heap.size)->
  DataW.TrodAll enc prog W' 0 (fun b=>decide (b<W.heap.size)) true ts vs ds p
 |[],vs,ds,p,_,h,_=>by
  obtain ⟨rfl,rfl,rfl⟩:=trodAll_nil h;exact trodAll_mk0
 |t::ts,vs,ds,p,ht,h,hp=>by
  obtain ⟨v,vs',d,ds',p1,q1,rfl,rfl,rfl,h1,h2⟩:=trodAll_cons h;exact trodAll_cons_mk (Below.trod laidOut (ht t s_).1 (ht t s_).2 h1 hb (fun x hx=>hp x (by simp [hx])))
   (Zcp hb (fun t h=>ht t (by simp [h])) h2 (fun x hx=>hp x (by simp [hx])))
theorem ZpO{H:Type}{enc:TypeId×Value->H}{f:Func}{s:ChangeSpec}{W W':World}{args:Array Value}{ds gs:List (DataW H)}{before:List MemPlace}
  (hW:DataW.Whole enc prog f.params.toList s.vars false W args.toList ds gs before) (hb:Below W.heap.size W W') (hv:s.vars=[]) (hrt:f.resultTypes=#[4])
  (hts:∀t∈f.params.toList,prog.readableRec t=true/\t<prog.types.size)
  (hres:(s.fn H (ds++gs)).results=[.lit (.bool true)]) (hargs:(s.fn H (ds++gs)).args=ds) (hvs:(s.fn H (ds++gs)).vars=[]) :
  ∃v,Ending.returned (.bool true)=.returned v/\s.post enc prog f false true false false W args v W':=by
 have hlt:=hW.lt;have hW':=hW;obtain ⟨p,q,hA,hV,rfl,_,_⟩:=hW;rw [hv] at hV;obtain ⟨rfl,rfl⟩:=trodVars_none hV;refine ⟨_,rfl,ds,[],p++[],[],p,[],hW',?_,?_,?_,?_,fun h=>by cases h⟩
 ·rw [hrt,hres]
  exact trodAll_cons_mk (shut_bool underlying4 true) trodAll_mk0
 ·rw [hargs]
  exact Zcp hb hts hA (fun x hx=>hlt x (by simp [hx]))
 ·rw [hv,hvs];rfl
 ·exact hb.frame _
theorem ZoY{H:Type}(d:DataW H):1<=Rows.uptoBulk d:=by
 cases d with
 |lit l=>cases l<;>simp [Rows.uptoBulk]
 |nil=>simp [Rows.uptoBulk]
 |ptr d=>simp [Rows.uptoBulk]
 |slice elems spare=>simp [Rows.uptoBulk]
 |agg parts=>simp [Rows.uptoBulk]
 |iface t d=>simp [Rows.uptoBulk]
 |map entries=>simp [Rows.uptoBulk]
 |held h=>simp [Rows.uptoBulk]
theorem Zov{H:Type}{d:DataW H}{l:List (DataW H)}(h:d∈l):Rows.uptoBulk d<=Rows.uptoBulkAll l:=by
 induction l with
 |nil=>cases h
 |cons x r ih=>
  simp only [Rows.uptoBulkAll];cases List.mem_cons.1 h with
  |inl e=>subst e;omega
  |inr e=>have:=ih e;omega
theorem Zo4{H:Type}(l:List (DataW H)):l.length<=Rows.uptoBulkAll l:=by
 induction l with
 |nil=>simp [Rows.uptoBulkAll]
 |cons x r ih=>have:=ZoY x;simp only [Rows.uptoBulkAll,List.length_cons];omega
open Go Go.RowKit
def Zi(w:World):Prop:=∃m,w.cell? ⟨0,0,none⟩=some (.int .i64 m)
theorem Zi.below{w w':World}(h:Zi w)(hb:Below w.heap.size w w'):Zi w':=by
 obtain ⟨m,hm⟩:=h;exact ⟨m,(hb.cell (p:=⟨0,0,none⟩) (World.block_lt_of_cell? w _ hm)).trans hm⟩
theorem Zi.fr{w w':World}{M:Nat->Prop}(h:Zi w)(hf:Fr M w w')(hM:¬M 0):Zi w':=by
 obtain ⟨m,hm⟩:=h;refine ⟨m,?_⟩;rw [<-hm];unfold World.cell?;rw [hf.block _ (World.block_lt_of_cell? w _ hm) hM]
theorem Zqh{W:World}(h:W.ShapedOpen prog):Zi W:=
 Go.Proofs.cell_of_shapedOpen_int (zero:=#[.int .i64 0]) (t:=3) h (of_decide_eq_true k_) k_ rfl k_ k_ underlying3
theorem ZiC{H:Type}{enc:TypeId×Value->H}{C:Checked}{os:Os}{f:FuncId}{fn:Func}{s:OpenSpec}{conds:List PathCond}{apart:Bool}{laid:List (String×DataW Unit)}(w0:World)(args:Array Value)(hos:w0.os=os)
  (hsh:(w0.forCall (fun _ _=>0) ⟨#[],args,[]⟩).Shaped C.prog)
  (hok:Input.okWideB C.prog (w0.forCall (fun _ _=>0) ⟨#[],args,[]⟩) f ⟨#[],args,[]⟩=true)
  (hrow:s.preRow enc C.prog fn conds apart laid (w0.forCall (fun _ _=>0) ⟨#[],args,[]⟩).memory args) :
  ∃(w:World) (tape:Tape) (i:Input),w.os=os/\(w.forCall tape i).Shaped C.prog/\i.vars=[]/\Input.okWide C.prog (w.forCall tape i) .any w.heap.size f i/\
   s.preRow enc C.prog fn conds apart laid (w.forCall tape i).memory i.args/\({}:Assume).holds C.prog (lone (Frame.enter C.prog f i.args .normal) [] (w.forCall tape i)):=
 ⟨w0,fun _ _=>0,⟨#[],args,[]⟩,hos,hsh,(Input.okWide_of_okWideB (base:=0) hok).1,(Input.okWide_of_okWideB hok).2,hrow,by
  simp only [Assume.holds];exact ⟨s_,s_,s_,s_,s_⟩⟩
theorem Zo5{q:Bool}{name:String}{k:FuncId}{F:Func}(hn:prog.funcNamed name=some k)(hk:prog.funcs[k]?=some F)(hl:q=Tryz.pinned.checked.prog.looks [])(ts:List TypeId)(hp:F.params.toList=ts)(hall:(ts.all fun u=>!prog.wantsStandIn u)=true)
  (f:FuncId) (fn:Func) (hf:Tryz.pinned.checked.prog.funcNamed name=some f) (hfn:Tryz.pinned.checked.prog.funcs[f]?=some fn) :
  q=Tryz.pinned.checked.prog.looks []/\∀(j:Nat) t,fn.params[j]?=some t->Tryz.pinned.checked.prog.wantsStandIn t=false:=by
 obtain rfl:k=f:=Option.some.inj (hn.symm.trans hf);obtain rfl:F=fn:=Option.some.inj (hk.symm.trans hfn);refine ⟨hl,fun j t ht=>?_⟩;have hm:t∈ts:=by rw [<-hp];simpa using Array.mem_of_getElem? ht
 exact (show prog.wantsStandIn t=false by simpa using List.all_eq_true.1 hall t hm)
theorem Zmt(x:Nat)(w:World):Calls prog 267 #[.int .i32 (x:Int)] w fun e w'=>e=.returned (.bool (isB x))/\w'=w:=by
 go_enter func267,ntmps267;go_wp2;go_ret;refine ⟨ZC ?_,rfl⟩;unfold isB;rw [Bool.eq_iff_iff];simp;omega
theorem Zgo:∀args w,(callFunc 267 args).run prog w=.ok (.enter 267 args) w:=enters_of func267 k_ rfl
def J8(w:World)(b off:Nat)(l:List Str):Prop:=∀j (h:j<l.length),w.cell? ⟨b,off+j,none⟩=some (.string ⟨l[j].toArray⟩)
theorem J8.below{w W:World}{b off:Nat}{l:List Str}(h:J8 w b off l)(hb:b<w.heap.size)(hB:Below w.heap.size w W):J8 W b off l:=
 fun j hj=>by rw [hB.cell (p:=⟨b,off+j,none⟩) hb];exact h j hj
theorem Y9(s:ByteArray)(w:World)(hs:s.size<=4294967296) :
  Calls prog 211 #[.string s] w fun e w'=>∃A,e=.returned (.slice (some ⟨A,0,none⟩) (Zo s.data.toList).length (Zo s.data.toList).length)/\w.heap.size<=A/\A<w'.heap.size/\
   J8 w' A 0 (Zo s.data.toList)/\Below w.heap.size w w':=by
 have H:=h_ (Tryz.strings_FieldsFunc 267 #[] Zgo isB s w hs (fun W x hb=>(Zmt x W).mono fun e w' ⟨a,q⟩=>⟨a,0,by rw [q];rfl⟩));go_enter func211,ntmps211;go_wp2_with fail;refine H.out.mono ?_;rintro e w1 ⟨A,rfl,hA,hown,hb⟩;have hfb:=Zgx s;generalize Lib.goFieldsP isB s=G at hown hfb⊢;have hlen:G.length=(Zo s.data.toList).length:=by rw [<-hfb];simp
 have HO:=h_ hown;have HB:=h_ hb;have HF:=h_ hfb;clear hown hb hfb H;go_wp2_with fail;go_ret;refine ⟨A,rfl,hA,(HO.out.lt A rfl).2,fun j hj=>?_,HB.out⟩;have hj':j<G.length:=o_
 have:=HO.out.cellAt j (by simpa using hj')
 rw [Nat.zero_add] at *;rw [this];simp only [List.getElem?_map];rw [List.getElem?_eq_getElem hj'];have h2:(Zo s.data.toList)[j]=G[j].data.toList:=by
  have:=HF.out
  simp only [<-this,List.getElem_map]
 rw [h2];rfl
theorem ZlG(g:FuncId)(lb:Array Value)(eg:∀args w,(callFunc g args).run prog w=.ok (.enter g args) w)(p:Str->Bool)(b off cap:Nat)(l:List Str)(w:World)(hb:b<w.heap.size)(hbig:l.length<=4294967296)
  (hp:∀(W:World) j (h:j<l.length),Below w.heap.size w W->Calls prog g (#[.string ⟨l[j].toArray⟩]++lb) W fun e w'=>e=.returned (.bool (p l[j]))/\Below w.heap.size w w') (hc:J8 w b off l) :
  Calls prog 320 #[.slice (some ⟨b,off,none⟩) l.length cap,.func (.func g) #[] lb] w fun e w'=>e=.returned (.int .i64 (Lib.idxBy (fun _ y=>p y) l []))/\Below w.heap.size w w':=by
 have HP:=h_ hp;have HC:=h_ hc;clear hp hc;go_enter func320,ntmps320;go_wp2;go_loopg [5,8] l.length (fun gg _ s8 wr=>∃kk:Nat,kk<=l.length/\l.length-kk<=gg/\s8=.int .i64 kk/\Hid (Below w.heap.size w wr)/\Hid (∀j,j<kk->p l[j]! =false))
 case atStart=>exact ⟨0,Nat.zero_le _,o_,rfl,Below.refl _ w,fun j hj=>absurd hj (Nat.not_lt_zero _)⟩
 case round=>
  obtain ⟨kk,hkk,hg,rfl,BW,A⟩:=hrel;by_cases hlt:kk<l.length
  ·have hltz:(kk:Int)<(l.length:Int):=o_
   have l2:=HC.out.below hb BW.out kk hlt;have hcall:=HP.out wr kk hlt BW.out;have B:=h_ (show l[kk]! =l[kk] from getElem!_pos l kk hlt);generalize l[kk]=y at l2 hcall B;cases hq:p y with
   |true=>
    rw [hq] at hcall;have HQ:=h_ hq;clear hq;have HCL:=h_ hcall;clear hcall;go_wp2_with (go_at_fn g;refine HCL.out.mono ?_;rintro e w' ⟨rfl,hb'⟩);go_ret;refine ⟨?_,hb'⟩
    have:=Lib.idxBy_hit (fun _ y=>p y) l l.length kk [] hlt l_ (by show p l[kk]! =true;rw [B.out];exact HQ.out) A.out
    rw [List.take_length] at this;rw [this];rfl
   |false=>
    rw [hq] at hcall;have HQ:=h_ hq;clear hq;have HCL:=h_ hcall;clear hcall;go_wp2_with (go_at_fn g;refine HCL.out.mono ?_;rintro e w' ⟨rfl,hb'⟩);go_roundg (l.length-(kk+1))
    case measure=>omega
    case rel=>
     refine ⟨kk+1,o_,o_,n15_,hb',(show Hid _ from fun j hj=>?_)⟩;by_cases e:j=kk
     ·subst e
      rw [B.out];exact HQ.out
     ·exact A.out j o_
  ·have hltz:¬(kk:Int)<(l.length:Int):=o_
   have hkl:kk=l.length:=o_;subst hkl;go_wp2;go_ret;refine ⟨?_,BW.out⟩
   have:=Lib.idxBy_miss (fun _ y=>p y) l l.length [] A.out
   rw [List.take_length] at this;rw [this];rfl
theorem ZgS(g:FuncId)(lb:Array Value)(eg:∀args w,(callFunc g args).run prog w=.ok (.enter g args) w)(p:Str->Bool)(b off cap:Nat)(l:List Str)(w:World)(hb:b<w.heap.size)(hbig:l.length<=4294967296)
  (hp:∀(W:World) j (h:j<l.length),Below w.heap.size w W->Calls prog g (#[.string ⟨l[j].toArray⟩]++lb) W fun e w'=>e=.returned (.bool (p l[j]))/\Below w.heap.size w w') (hc:J8 w b off l) :
  Calls prog 289 #[.slice (some ⟨b,off,none⟩) l.length cap,.func (.func g) #[] lb] w fun e w'=>e=.returned (.bool (l.any p))/\Below w.heap.size w w':=by
 have h0:l.any p=decide (0<=Lib.idxBy (fun _ y=>p y) l []):=by
  have:=(Lib.idxBy_nonneg_iff (fun _ y=>p y) l []).symm
  exact this
 rw [h0];have H:=h_ (ZlG g lb eg p b off cap l w hb hbig hp hc);clear hp hc h0;generalize Lib.idxBy (fun _ y=>p y) l []=r at *;go_enter func289,ntmps289;go_wp2_with fail;refine H.out.mono ?_;rintro e w1 ⟨rfl,hb1⟩;have HB:=h_ hb1;clear hb1;go_wp2_with fail;go_ret;exact ⟨rfl,HB.out⟩
theorem ZoC(s:ByteArray)(u:FuncId)(bx:Nat)(B:Nat)(w0 W:World)(b:Bool)(hbx:W.cell? ⟨bx,0,none⟩=some (.func (.func u) #[] #[]))(eu:∀args w,(callFunc u args).run prog w=.ok (.enter u args) w)
  (hu:Calls prog u #[.string s] W fun e w'=>e=.returned (.bool b)/\Below B w0 w') :
  Calls prog 290 #[.string s,.pointer (some ⟨bx,0,none⟩)] W fun e w'=>e=.returned (.bool (!b))/\Below B w0 w':=by
 have H:=h_ hu;clear hu;go_enter func290,ntmps290;go_wp2_with (go_at_fn u;refine H.out.mono ?_;rintro e w' ⟨rfl,hb'⟩);go_ret;exact ⟨rfl,hb'⟩
theorem ZiL:∀args w,(callFunc 290 args).run prog w=.ok (.enter 290 args) w:=enters_of func290 k_ rfl
def Zhr(p:Str->Bool)(l:List Str):Bool:=!l.isEmpty&&l.all p
theorem Zi6(u:FuncId)(eu:∀args w,(callFunc u args).run prog w=.ok (.enter u args) w)(p:Str->Bool)(b off cap:Nat)(l:List Str)(w:World)(hb:b<w.heap.size)(hbig:l.length<=4294967296)(hm:Zi w)
  (hp:∀(W:World) j (h:j<l.length),Zi W->Calls prog u #[.string ⟨l[j].toArray⟩] W fun e w'=>e=.returned (.bool (p l[j]))/\Below W.heap.size W w') (hc:J8 w b off l) (r:Bool) (hr:Zhr p l=r) :
  Calls prog 255 #[.slice (some ⟨b,off,none⟩) l.length cap,.func (.func u) #[] #[]] w fun e w'=>e=.returned (.bool r)/\Below w.heap.size w w':=by
 unfold Zhr at hr;have ha:∀w0:World,w0=w.alloc (.cells #[.func (.func u) #[] #[]] 54)->Calls prog 289 #[.slice (some ⟨b,off,none⟩) l.length cap,.func (.func 290) #[] #[.pointer (some ⟨w.heap.size,0,none⟩)]] w0 fun e w'=>e=.returned (.bool (l.any fun x=>!p x))/\Below w0.heap.size w0 w':=by
  rintro w0 rfl;have hB0:Below w.heap.size w (w.alloc (.cells #[.func (.func u) #[] #[]] 54)):=b_.alloc l_ _;have hsz:(w.alloc (.cells #[.func (.func u) #[] #[]] 54)).heap.size=w.heap.size+1:=s_;have hcell:(w.alloc (.cells #[.func (.func u) #[] #[]] 54)).cell? ⟨w.heap.size,0,none⟩=some (.func (.func u) #[] #[]):=s_;generalize w.alloc (.cells #[.func (.func u) #[] #[]] 54)=w0 at *;refine ZgS 290 _ ZiL (fun x=>!p x) b off cap l w0 o_ hbig (fun W j hj hW=>?_) (hc.below hb hB0);exact ZoC _ u _ _ _ W (p l[j]) (by rw [hW.cell (p:=⟨w.heap.size,0,none⟩) (by show w.heap.size<_;omega)];exact hcell) eu ((hp W j hj ((hm.below hB0).below hW)).mono fun e w' ⟨a,q⟩=>⟨a,hW.trans (q.mono hW.size)⟩)
 have HA:=h_ ha;clear ha hp hc hm;cases l with
 |nil=>
  have hr':r=false:=by rw [<-hr];rfl
  subst hr';clear hr;go_enter func255,ntmps255;go_wp2_with fail;go_ret;exact ⟨rfl,b_.alloc l_ _⟩
 |cons a t=>
  have hpos:(0:Int)<(((a::t).length:Nat):Int):=n61_;have hra:r=!((a::t).any fun x=>!p x):=by rw [<-hr];show ((a::t).all p)=_;rw [List.all_eq_not_any_not]
  generalize ((a::t).any fun x=>!p x)=q at *;generalize (a::t).length=n at *;subst hra;clear hr;go_enter func255,ntmps255;go_wp2_with fail;refine (HA.out _ rfl).mono ?_;rintro e w1 ⟨rfl,hb1⟩;have HB:=h_ ((Below.refl w.heap.size w).alloc l_ (.cells #[.func (.func u) #[] #[]] 54) |>.trans (hb1.mono s_));clear hb1;go_wp2_with fail;go_ret;exact ⟨rfl,HB.out⟩
end Go.Proofs.YtmgmbeipbeknaaaGreatDoor
