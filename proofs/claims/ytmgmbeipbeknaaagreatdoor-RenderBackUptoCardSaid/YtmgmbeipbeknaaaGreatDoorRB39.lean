import Derived.Deep.LoopGhost
import Derived.Deep.RegionHeld3
import Derived.Lib.SmallJoins
import Derived.Deep.AppendLies
import Derived.Lib.QuietBelow
import Derived.Deep.RegionLaw
import Derived.Test.YtmgmbeipbeknaaaGreatDoorRB3
import Derived.Test.YtmgmbeipbeknaaaGreatDoorRB28
namespace Go.Proofs.YtmgmbeipbeknaaaGreatDoor
open Go Go.RowKit
set_option linter.all false
set_option maxHeartbeats 16000000
set_option maxRecDepth 100000
theorem ZiQ(l:Str)(c:UInt8):Lib.hasSuffix l [c]=(l.getLast?==some c):=by
 unfold Lib.hasSuffix;rw [Bool.eq_iff_iff,List.isSuffixOf_iff_suffix,beq_iff_eq];constructor
 ·rintro ⟨t,rfl⟩;simp
 ·intro h;obtain ⟨t,rfl⟩:=List.getLast?_eq_some_iff.1 h;exact ⟨t,rfl⟩
theorem LRd.rd{R:Nat}{rows:List Str}{n:Nat}{sec:Str}{ov:Value}{w:World}(h:LRd R rows n sec ov w) :
  ∃oa cap,w.cell? ⟨R,0,none⟩=some (.slice oa rows.length cap)/\w.cell? ⟨R,1,none⟩=some (.int .i64 n)/\w.cell? ⟨R,2,none⟩=some (.string ⟨sec.toArray⟩)/\w.cell? ⟨R,3,none⟩=some ov/\
   w.frozen? ⟨R,2,none⟩=false/\w.frozen? ⟨R,3,none⟩=false/\∀x r,rows=x::r->∃b o,oa=some ⟨b,o,none⟩/\w.cell? ⟨b,o,none⟩=some (.string ⟨x.toArray⟩):=by
 obtain ⟨v,h1,⟨oa,cap,rfl,h2,h3,h4,h5⟩,h6⟩:=h;obtain ⟨hc,hf,-,-⟩:=YtmgmbeipbeknaaaGreatDoor.rd h1;refine ⟨oa,cap,by rw [hc];rfl,by rw [hc];rfl,by rw [hc];rfl,by rw [hc];rfl,hf 2,hf 3,?_⟩;rintro x r rfl;obtain ⟨b,o,e,hb⟩:=h4 0 s_;exact ⟨b,o,e,by simpa using hb⟩
open Go.Proofs.Tryz
open Go Go.RowKit Go.Sort Go.BigFrame
theorem m120_{p:Prop}(h:p:=by refine wpQuiet_nil ?_;intro _ hw';obtain ⟨⟨dq,osq⟩,hw''⟩:=hw';subst hw'';go_wp2_with fail;go_ret;exact ⟨rfl,ZdN HRn.out hB (below_regrown w1 dq osq)⟩):p:=h
theorem Zpz(s:ByteArray)(w:World)(h63:s.size<=9223372036854775807)(b:Bool)(hb:Zds s.data.toList=b) :
  Calls prog 98 #[.string s,.string ⟨#[92]⟩] w fun e w'=>e=.returned (.bool b)/\w=w':=by
 refine (Tryz.strings_HasSuffix s ⟨#[92]⟩ w h63).mono ?_;rintro e w' ⟨rfl,rfl⟩;refine ⟨?_,rfl⟩;rw [<-hb];show Ending.returned (.bool (Lib.hasSuffix s.data.toList [92]))=_;rw [ZiQ];rfl
inductive ZtO(sec key val:Str)(b:Bool):Prop where
 |sec (h1:Zbt sec=false) (hb:b=false)
 |key (h1:Zbt sec=true) (h2:ZfS key=false) (hb:b=false)
 |good (h1:Zbt sec=true) (h2:ZfS key=true) (h3:ZbC val=false) (hb:b=false)
 |trim (h1:Zbt sec=true) (h2:ZfS key=true) (h3:ZbC val=true) (h4:(trimS val==val)=false) (hb:b=false)
 |back (h1:Zbt sec=true) (h2:ZfS key=true) (h3:ZbC val=true) (h4:(trimS val==val)=true) (h5:Zds val=true) (hb:b=false)
 |len (h1:Zbt sec=true) (h2:ZfS key=true) (h3:ZbC val=true) (h4:(trimS val==val)=true) (h5:Zds val=false) (h6:decide (key.length+1+val.length<=400)=b)
theorem Zpl(sec key val:Str)(n:Int)(b:Bool)(h:YT ⟨sec,key,val,n⟩=b):ZtO sec key val b:=by
 unfold YT at h;simp only at h;cases h1:Zbt sec with
 |false=>rw [h1] at h;simp at h;exact .sec h1 h
 |true=>
  cases h2:ZfS key with
  |false=>rw [h1,h2] at h;simp at h;exact .key h1 h2 h
  |true=>
   cases h3:ZbC val with
   |false=>rw [h1,h2,h3] at h;simp at h;exact .good h1 h2 h3 h
   |true=>
    cases h4:(trimS val==val) with
    |false=>rw [h1,h2,h3,h4] at h;simp at h;exact .trim h1 h2 h3 h4 h
    |true=>
     cases h5:Zds val with
     |true=>rw [h1,h2,h3,h4,h5] at h;simp at h;exact .back h1 h2 h3 h4 h5 h
     |false=>rw [h1,h2,h3,h4,h5] at h;simp only [Bool.and_true,Bool.true_and,Bool.not_false] at h;exact .len h1 h2 h3 h4 h5 h
theorem ZdN{w w1 w2:World}{R:Nat}(hR:w.heap.size=R)(h1:Below R w w1)(h2:Below w1.heap.size w1 w2):Below w.heap.size w w2:=by
 subst hR;exact h1.trans (h2.mono h1.size)
theorem Zqo(sa ka va:ByteArray)(n:Int)(w:World)(hs:sa.size<=1000000000)(hk:ka.size<=1000000000)(hv:va.size<=1000000000)(b:Bool)(hb:YT ⟨sa.data.toList,ka.data.toList,va.data.toList,n⟩=b) :
  Calls prog 48 #[.agg #[.string sa,.string ka,.string va,.int .i64 n]] w fun e w'=>e=.returned (.bool b)/\Below w.heap.size w w':=by
 obtain ⟨tv,htv⟩:∃tv,trimS va.data.toList=tv:=⟨_,rfl⟩;obtain ⟨y,hy⟩:∃y:ByteArray,y=⟨tv.toArray⟩:=⟨_,rfl⟩;have hyl:y.data.toList=tv:=by rw [hy]
 have hlk:ka.data.toList.length=ka.size:=s_;have hlv:va.data.toList.length=va.size:=s_;have hc:=Zpl _ _ _ n b hb;have hB:Below w.heap.size w (w.alloc (.cells #[.string sa,.string ka,.string va,.int .i64 n] 53)):=b_.alloc l_ _;obtain ⟨bc,-,-,blt⟩:=rd (heap_alloc_new w (.cells #[.string sa,.string ka,.string va,.int .i64 n] 53));have heq:∀q,(trimS va.data.toList==va.data.toList)=q->(y.toList==va.toList)=q:=by
  intro q hq;rw [<-hq,ByteArray.toList_eq,ByteArray.toList_eq,hyl,htv]
 have HTv:=h_ htv;clear htv;have HY:=h_ hy.symm;clear hy hyl hb;have g0:(w.alloc (.cells #[.string sa,.string ka,.string va,.int .i64 n] 53)).cell? ⟨w.heap.size,0,none⟩=some (.string sa):=by rw [bc];rfl
 have g1:(w.alloc (.cells #[.string sa,.string ka,.string va,.int .i64 n] 53)).cell? ⟨w.heap.size,1,none⟩=some (.string ka):=by rw [bc];rfl
 have g2:(w.alloc (.cells #[.string sa,.string ka,.string va,.int .i64 n] 53)).cell? ⟨w.heap.size,2,none⟩=some (.string va):=by rw [bc];rfl
 clear bc;cases hc with
 |sec h1 hb=>
  subst hb;have H1:=h_ h1;clear h1;clear heq hlk hlv;go_enter func48,ntmps48;go_wp2_with fail;generalize w.alloc (.cells #[.string sa,.string ka,.string va,.int .i64 n] 53)=w1 at *;generalize hRn:w.heap.size=R at *;have HRn:=h_ hRn;clear hRn;have k0:=cell_regrown g0;have k1:=cell_regrown g1;have k2:=cell_regrown g2;have cS:∀d os,Calls prog 86 #[.string sa] (grow (redrawn w1 d) os) fun e w''=>e=.returned (.bool false)/\∃p:Regrown,w''=grow (redrawn w1 p.d) p.os:=fun d os=>Calls.regrown_of ((Q9 sa _ o_ _ H1.out).mono fun _ _ ⟨a,b⟩=>⟨a,b ▸ Below.refl _ _⟩)
  refine wp_region_quiet_below k_ k_ ?_;(repeat (go_big_quiet_step (first|exact cS _ _)));exact m120_
 |key h1 h2 hb=>
  subst hb;have H1:=h_ h1;clear h1;have H2:=h_ h2;clear h2;clear heq hlk hlv;go_enter func48,ntmps48;go_wp2_with fail;generalize w.alloc (.cells #[.string sa,.string ka,.string va,.int .i64 n] 53)=w1 at *;generalize hRn:w.heap.size=R at *;have HRn:=h_ hRn;clear hRn;have k0:=cell_regrown g0;have k1:=cell_regrown g1;have k2:=cell_regrown g2;have cS:∀d os,Calls prog 86 #[.string sa] (grow (redrawn w1 d) os) fun e w''=>e=.returned (.bool true)/\∃p:Regrown,w''=grow (redrawn w1 p.d) p.os:=fun d os=>Calls.regrown_of ((Q9 sa _ o_ _ H1.out).mono fun _ _ ⟨a,b⟩=>⟨a,b ▸ Below.refl _ _⟩)
  have cK:∀d os,Calls prog 87 #[.string ka] (grow (redrawn w1 d) os) fun e w''=>e=.returned (.bool false)/\∃p:Regrown,w''=grow (redrawn w1 p.d) p.os:=fun d os=>Calls.regrown_of (ZeR ka _ o_ _ H2.out)
  refine wp_region_quiet_below k_ k_ ?_;(repeat (go_big_quiet_step (first|exact cS _ _|exact cK _ _)));exact m120_
 |good h1 h2 h3 hb=>
  subst hb;have H1:=h_ h1;clear h1;have H2:=h_ h2;clear h2;have H3:=h_ h3;clear h3;clear heq hlk hlv;go_enter func48,ntmps48;go_wp2_with fail;generalize w.alloc (.cells #[.string sa,.string ka,.string va,.int .i64 n] 53)=w1 at *;generalize hRn:w.heap.size=R at *;have HRn:=h_ hRn;clear hRn;have k0:=cell_regrown g0;have k1:=cell_regrown g1;have k2:=cell_regrown g2;have cS:∀d os,Calls prog 86 #[.string sa] (grow (redrawn w1 d) os) fun e w''=>e=.returned (.bool true)/\∃p:Regrown,w''=grow (redrawn w1 p.d) p.os:=fun d os=>Calls.regrown_of ((Q9 sa _ o_ _ H1.out).mono fun _ _ ⟨a,b⟩=>⟨a,b ▸ Below.refl _ _⟩)
  have cK:∀d os,Calls prog 87 #[.string ka] (grow (redrawn w1 d) os) fun e w''=>e=.returned (.bool true)/\∃p:Regrown,w''=grow (redrawn w1 p.d) p.os:=fun d os=>Calls.regrown_of (ZeR ka _ o_ _ H2.out)
  have cG:∀d os,Calls prog 83 #[.string va] (grow (redrawn w1 d) os) fun e w''=>e=.returned (.bool false)/\∃p:Regrown,w''=grow (redrawn w1 p.d) p.os:=fun d os=>Calls.regrown_of ((Ze6 va _ o_ _ H3.out).mono fun _ _ ⟨a,b⟩=>⟨a,b ▸ Below.refl _ _⟩)
  refine wp_region_quiet_below k_ k_ ?_;(repeat (go_big_quiet_step (first|exact cS _ _|exact cK _ _|exact cG _ _)));exact m120_
 |trim h1 h2 h3 h4 hb=>
  subst hb;have q4:=heq _ h4;have H1:=h_ h1;clear h1;have H2:=h_ h2;clear h2;have H3:=h_ h3;clear h3;clear heq hlk hlv h4;go_enter func48,ntmps48;go_wp2_with fail;generalize w.alloc (.cells #[.string sa,.string ka,.string va,.int .i64 n] 53)=w1 at *;generalize hRn:w.heap.size=R at *;have HRn:=h_ hRn;clear hRn;have k0:=cell_regrown g0;have k1:=cell_regrown g1;have k2:=cell_regrown g2;have cS:∀d os,Calls prog 86 #[.string sa] (grow (redrawn w1 d) os) fun e w''=>e=.returned (.bool true)/\∃p:Regrown,w''=grow (redrawn w1 p.d) p.os:=fun d os=>Calls.regrown_of ((Q9 sa _ o_ _ H1.out).mono fun _ _ ⟨a,b⟩=>⟨a,b ▸ Below.refl _ _⟩)
  have cK:∀d os,Calls prog 87 #[.string ka] (grow (redrawn w1 d) os) fun e w''=>e=.returned (.bool true)/\∃p:Regrown,w''=grow (redrawn w1 p.d) p.os:=fun d os=>Calls.regrown_of (ZeR ka _ o_ _ H2.out)
  have cG:∀d os,Calls prog 83 #[.string va] (grow (redrawn w1 d) os) fun e w''=>e=.returned (.bool true)/\∃p:Regrown,w''=grow (redrawn w1 p.d) p.os:=fun d os=>Calls.regrown_of ((Ze6 va _ o_ _ H3.out).mono fun _ _ ⟨a,b⟩=>⟨a,b ▸ Below.refl _ _⟩)
  have cT:∀d os,Calls prog 40 #[.string va] (grow (redrawn w1 d) os) fun e w''=>e=.returned (.string y)/\∃p:Regrown,w''=grow (redrawn w1 p.d) p.os:=fun d os=>Calls.regrown_of ((Zh9 va _ o_ _ HTv.out).mono fun _ _ ⟨a,b⟩=>⟨by rw [a,HY.out],b⟩)
  refine wp_region_quiet_below k_ k_ ?_;(repeat (go_big_quiet_step (first|exact cS _ _|exact cK _ _|exact cG _ _|exact cT _ _)));exact m120_
 |back h1 h2 h3 h4 h5 hb=>
  subst hb;have q4:=heq _ h4;have H1:=h_ h1;clear h1;have H2:=h_ h2;clear h2;have H3:=h_ h3;clear h3;have H5:=h_ h5;clear h5;clear heq hlk hlv h4;go_enter func48,ntmps48;go_wp2_with fail;generalize w.alloc (.cells #[.string sa,.string ka,.string va,.int .i64 n] 53)=w1 at *;generalize hRn:w.heap.size=R at *;have HRn:=h_ hRn;clear hRn;have k0:=cell_regrown g0;have k1:=cell_regrown g1;have k2:=cell_regrown g2;have cS:∀d os,Calls prog 86 #[.string sa] (grow (redrawn w1 d) os) fun e w''=>e=.returned (.bool true)/\∃p:Regrown,w''=grow (redrawn w1 p.d) p.os:=fun d os=>Calls.regrown_of ((Q9 sa _ o_ _ H1.out).mono fun _ _ ⟨a,b⟩=>⟨a,b ▸ Below.refl _ _⟩)
  have cK:∀d os,Calls prog 87 #[.string ka] (grow (redrawn w1 d) os) fun e w''=>e=.returned (.bool true)/\∃p:Regrown,w''=grow (redrawn w1 p.d) p.os:=fun d os=>Calls.regrown_of (ZeR ka _ o_ _ H2.out)
  have cG:∀d os,Calls prog 83 #[.string va] (grow (redrawn w1 d) os) fun e w''=>e=.returned (.bool true)/\∃p:Regrown,w''=grow (redrawn w1 p.d) p.os:=fun d os=>Calls.regrown_of ((Ze6 va _ o_ _ H3.out).mono fun _ _ ⟨a,b⟩=>⟨a,b ▸ Below.refl _ _⟩)
  have cT:∀d os,Calls prog 40 #[.string va] (grow (redrawn w1 d) os) fun e w''=>e=.returned (.string y)/\∃p:Regrown,w''=grow (redrawn w1 p.d) p.os:=fun d os=>Calls.regrown_of ((Zh9 va _ o_ _ HTv.out).mono fun _ _ ⟨a,b⟩=>⟨by rw [a,HY.out],b⟩)
  have cH:∀d os,Calls prog 98 #[.string va,.string ⟨#[92]⟩] (grow (redrawn w1 d) os) fun e w''=>e=.returned (.bool true)/\∃p:Regrown,w''=grow (redrawn w1 p.d) p.os:=fun d os=>Calls.regrown_of ((Zpz va _ o_ _ H5.out).mono fun _ _ ⟨a,b⟩=>⟨a,b ▸ Below.refl _ _⟩)
  refine wp_region_quiet_below k_ k_ ?_;(repeat (go_big_quiet_step (first|exact cS _ _|exact cK _ _|exact cG _ _|exact cT _ _|exact cH _ _)));exact m120_
 |len h1 h2 h3 h4 h5 h6=>
  have q4:=heq _ h4;rw [hlk,hlv] at h6;have H1:=h_ h1;clear h1;have H2:=h_ h2;clear h2;have H3:=h_ h3;clear h3;have H5:=h_ h5;clear h5;have H6:=h_ h6;clear h6;clear heq hlk hlv h4;go_enter func48,ntmps48;go_wp2_with fail;generalize w.alloc (.cells #[.string sa,.string ka,.string va,.int .i64 n] 53)=w1 at *;generalize hRn:w.heap.size=R at *;have HRn:=h_ hRn;clear hRn;have k0:=cell_regrown g0;have k1:=cell_regrown g1;have k2:=cell_regrown g2;have cS:∀d os,Calls prog 86 #[.string sa] (grow (redrawn w1 d) os) fun e w''=>e=.returned (.bool true)/\∃p:Regrown,w''=grow (redrawn w1 p.d) p.os:=fun d os=>Calls.regrown_of ((Q9 sa _ o_ _ H1.out).mono fun _ _ ⟨a,b⟩=>⟨a,b ▸ Below.refl _ _⟩)
  have cK:∀d os,Calls prog 87 #[.string ka] (grow (redrawn w1 d) os) fun e w''=>e=.returned (.bool true)/\∃p:Regrown,w''=grow (redrawn w1 p.d) p.os:=fun d os=>Calls.regrown_of (ZeR ka _ o_ _ H2.out)
  have cG:∀d os,Calls prog 83 #[.string va] (grow (redrawn w1 d) os) fun e w''=>e=.returned (.bool true)/\∃p:Regrown,w''=grow (redrawn w1 p.d) p.os:=fun d os=>Calls.regrown_of ((Ze6 va _ o_ _ H3.out).mono fun _ _ ⟨a,b⟩=>⟨a,b ▸ Below.refl _ _⟩)
  have cT:∀d os,Calls prog 40 #[.string va] (grow (redrawn w1 d) os) fun e w''=>e=.returned (.string y)/\∃p:Regrown,w''=grow (redrawn w1 p.d) p.os:=fun d os=>Calls.regrown_of ((Zh9 va _ o_ _ HTv.out).mono fun _ _ ⟨a,b⟩=>⟨by rw [a,HY.out],b⟩)
  have cH:∀d os,Calls prog 98 #[.string va,.string ⟨#[92]⟩] (grow (redrawn w1 d) os) fun e w''=>e=.returned (.bool false)/\∃p:Regrown,w''=grow (redrawn w1 p.d) p.os:=fun d os=>Calls.regrown_of ((Zpz va _ o_ _ H5.out).mono fun _ _ ⟨a,b⟩=>⟨a,b ▸ Below.refl _ _⟩)
  refine wp_region_quiet_below k_ k_ ?_;(repeat (go_big_quiet_step (first|exact cS _ _|exact cK _ _|exact cG _ _|exact cT _ _|exact cH _ _)));refine wpQuiet_nil ?_;intro _ hw';obtain ⟨⟨dq,osq⟩,hw''⟩:=hw';subst hw'';go_wp2_with fail;go_ret;exact ⟨ZB (by rw [<-H6.out,decide_eq_decide];omega),ZdN HRn.out hB (below_regrown w1 dq osq)⟩
def ZdM(l:Ln):List Value:=[.string ⟨l.sec.toArray⟩,.string ⟨l.key.toArray⟩,.string ⟨l.val.toArray⟩,.int .i64 l.at_]
def ZfE:List Ln->List Value
 |[]=>[]
 |l::r=>ZdM l++ZfE r
def Said(R:Nat)(out:List Ln)(ov:Value)(w:World):Prop:=w.ownsRow (R+1) 53 4 ov out.length (ZfE out)
theorem Said.fr{R:Nat}{out:List Ln}{ov:Value}{w w':World}{M:Nat->Prop}(h:Said R out ov w)(hf:Fr M w w')(hM:∀k,M k->k<=R):Said R out ov w':=by
 refine Z4 h hf ?_;intro g hg _ hm
 have:=(h.lt g hg).1
 have:=hM g hm
 omega
theorem Said.below{R:Nat}{out:List Ln}{ov:Value}{w w':World}(h:Said R out ov w)(hf:Below w.heap.size w w'):Said R out ov w' :=
 h.fr (Fr.of_below hf (fun _=>False)) (fun _ e=>e.elim)
def ZaO(w:World)(oa:Option Addr)(l:List Ln):Prop:=
 ∀i (h:i<l.length),∃b o,oa=some ⟨b,o,none⟩/\w.cell? ⟨b,o+i*4,none⟩=some (.string ⟨l[i].sec.toArray⟩)/\w.cell? ⟨b,o+i*4+1,none⟩=some (.string ⟨l[i].key.toArray⟩)/\
  w.cell? ⟨b,o+i*4+2,none⟩=some (.string ⟨l[i].val.toArray⟩)/\w.cell? ⟨b,o+i*4+3,none⟩=some (.int .i64 l[i].at_)
theorem ZaO.below{w w':World}{oa:Option Addr}{l:List Ln}{B:Nat}(h:ZaO w oa l)(hb:Below B w w')(hB:w.heap.size<=B):ZaO w' oa l:=by
 intro i hi;obtain ⟨b,o,e,h0,h1,h2,h3⟩:=h i hi;have k:=fun (j:Nat) (v:Value) (hc:w.cell? ⟨b,j,none⟩=some v)=>((hb.cell (p:=⟨b,j,none⟩) (c16_ (World.block_lt_of_cell? w _ hc) hB)).trans hc)
 exact ⟨b,o,e,k _ _ h0,k _ _ h1,k _ _ h2,k _ _ h3⟩
theorem rd'{w:World}{b:Nat}{cs:Array Value}{T:TypeId}{fz:Nat×Nat}(h:w.heap[b]?=some (.cells cs T fz))(j:Nat):w.cell? ⟨b,j,none⟩=cs[j]?:=by simp [World.cell?,h]
theorem ZaO.nil(w:World)(oa:Option Addr):ZaO w oa []:=fun i hi=>absurd hi s_
theorem Ziq:∀(l:List Ln) (i j:Nat) (h:i<l.length),j<4->(ZfE l)[i*4+j]?=(ZdM l[i])[j]?
 |[],i,j,h,_=>absurd h s_
 |a::r,0,j,h,hj=>by
  simp only [ZfE,Nat.zero_mul,Nat.zero_add,List.getElem_cons_zero];rw [List.getElem?_append_left (by simp [ZdM];omega)]
 |a::r,i+1,j,h,hj=>by
  have:=Ziq r i j n32_ hj
  simp only [ZfE,List.getElem_cons_succ];rw [List.getElem?_append_right (by simp [ZdM];omega),<-this];congr 1;simp [ZdM];omega
theorem ZaO.of_own{w:World}{base:Nat}{l:List Ln}{oa:Option Addr}{cap:Nat}(h:w.ownsRow base 53 4 (.slice oa l.length cap) l.length (ZfE l)):ZaO w oa l:=by
 intro i hi;rcases h.2 with ⟨_,h0⟩|⟨g,cap',cur,hv,hb,hg,hc,hm,hcs,ht⟩
 ·omega
 ·injection hv with hv _ _
  subst hv;have key:∀j,j<4->w.cell? ⟨g,0+i*4+j,none⟩=(ZdM l[i])[j]?:=by
   intro j hj;rw [(rd' hg) _,<-Ziq l i j hi hj,<-ht,List.getElem?_take_of_lt o_];simp
  refine ⟨g,0,rfl,?_,?_,?_,?_⟩
  ·have:=key 0 o_;exact this
  ·exact key 1 o_
  ·exact key 2 o_
  ·exact key 3 o_
structure JY(x:Ln):Prop where
 sec:x.sec.length<=1000000000
 key:x.key.length<=1000000000
 val:x.val.length<=1000000000
theorem Zp8(x:Ln)(hx:JY x)(w:World)(b:Bool)(hb:YT x=b) :
  Calls prog 47 #[.agg #[.string ⟨x.sec.toArray⟩,.string ⟨x.key.toArray⟩,.string ⟨x.val.toArray⟩,.int .i64 x.at_]] w fun e w'=>e=.returned (.bool (!b))/\Below w.heap.size w w':=by
 have HC:=fun w=>h_ (Zqo ⟨x.sec.toArray⟩ ⟨x.key.toArray⟩ ⟨x.val.toArray⟩ x.at_ w hx.sec hx.key hx.val b hb)
 clear hb;have hB:Below w.heap.size w (w.alloc (.cells #[.string ⟨x.sec.toArray⟩,.string ⟨x.key.toArray⟩,.string ⟨x.val.toArray⟩,.int .i64 x.at_] 53)):=b_.alloc l_ _;obtain ⟨bc,-,-,blt⟩:=rd (heap_alloc_new w (.cells #[.string ⟨x.sec.toArray⟩,.string ⟨x.key.toArray⟩,.string ⟨x.val.toArray⟩,.int .i64 x.at_] 53));go_enter func47,ntmps47;go_wp2_with fail;refine (HC _).out.mono ?_;rintro e w2 ⟨rfl,hb2⟩;have HB:=h_ (hB.trans (hb2.mono hB.size));clear hb2;go_wp2_with fail;go_ret;exact ⟨rfl,HB.out⟩
end Go.Proofs.YtmgmbeipbeknaaaGreatDoor
