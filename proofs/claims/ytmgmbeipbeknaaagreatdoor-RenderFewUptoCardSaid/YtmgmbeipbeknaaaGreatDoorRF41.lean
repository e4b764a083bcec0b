import Derived.Shelf.Abstract
import Derived.Shelf.Strings.SlTrimAscii
import Derived.BigRegion
import Derived.RegionTactic
import Derived.ChangeAlike
import Derived.Deep.LoopGhost
import Derived.Deep.RegionHeld3
import Derived.Lib.SmallJoins
import Derived.Deep.AppendLies
import Derived.Lib.QuietBelow
import Derived.Test.YtmgmbeipbeknaaaGreatDoorRF2
import Derived.Test.YtmgmbeipbeknaaaGreatDoorRF5
import Derived.Test.YtmgmbeipbeknaaaGreatDoorRF8
import Derived.Test.YtmgmbeipbeknaaaGreatDoorRF29
import Derived.Test.YtmgmbeipbeknaaaGreatDoorRF31
namespace Go.Proofs.YtmgmbeipbeknaaaGreatDoor
open Go.Proofs.Tryz
open Go Go.RowKit
set_option linter.unusedVariables false
set_option linter.unusedSimpArgs false
set_option maxHeartbeats 16000000
set_option maxRecDepth 100000
theorem Zm4(c:UInt8)(w:World) :
  Calls prog 166 #[.int .u8 c.toNat] w fun e w'=>e=.returned (.bool (!QU c))/\w=w':=by
 go_enter func166,ntmps166;go_wp2_with (go_at_call 167;refine (Zdb _ _).mono ?_;rintro e w' ⟨rfl,rfl⟩);go_ret;exact ⟨rfl,rfl⟩
theorem Zii(args:Array Value)(w:World):(callFunc 166 args).run prog w=.ok (.enter 166 args) w:=enters_of func166 k_ rfl args w
theorem Zdd(s:ByteArray)(w:World)(h63:s.size<=9223372036854775807)(b:Bool)(hb:ZeU s.data.toList=b) :
  Calls prog 83 #[.string s] w fun e w'=>e=.returned (.bool b)/\w=w':=by
 have HA:=h_ (Zow s 166 #[] #[] (fun c=>!QU c) b w h63 Zii (fun c=>Zm4 c w) hb);clear hb;go_enter func83,ntmps83;go_wp2_with (go_at_call 151;refine HA.out.mono ?_;rintro e w' ⟨rfl,rfl⟩);go_ret;exact ⟨rfl,rfl⟩
theorem Zmd(s:Str):JU s 20 Yd=ZbB s:=by
 unfold JU ZbB;congr 2;rw [decide_eq_decide];omega
theorem Zm6(s:Str):JU s 40 (fun c=>Yd c||isDigit c)=Zgx s:=by
 unfold JU Zgx;congr 2;rw [decide_eq_decide];omega
theorem Qj(s:ByteArray)(w:World)(h63:s.size<=9223372036854775807)(b:Bool)(hb:ZbB s.data.toList=b) :
  Calls prog 86 #[.string s] w fun e w'=>e=.returned (.bool b)/\w=w':=by
 rw [<-Zmd] at hb;have HA:=h_ (JA s 20 153 #[] #[] Yd b w h63 QO (fun c=>QK c w) hb);clear hb;go_enter func86,ntmps86;go_wp2_with (go_at_call 170;refine HA.out.mono ?_;rintro e w' ⟨rfl,rfl⟩);go_ret;exact ⟨rfl,rfl⟩
theorem ZcJ(s:ByteArray)(w:World)(h63:s.size<=9223372036854775807)(b:Bool)(hb:Zgx s.data.toList=b) :
  Calls prog 87 #[.string s] w fun e w'=>e=.returned (.bool b)/\Below w.heap.size w w':=by
 rw [<-Zm6] at hb;have hB:Below w.heap.size w ((w.alloc (.cells #[.func (.func 153) #[] #[],.func (.func 154) #[] #[]] 148)).alloc (.cells #[.slice (some ⟨w.heap.size,0,none⟩) 2 2] 217)):=
  (b_.alloc l_ _).alloc s_ _
 have HA:∀w':World,w'=((w.alloc (.cells #[.func (.func 153) #[] #[],.func (.func 154) #[] #[]] 148)).alloc (.cells #[.slice (some ⟨w.heap.size,0,none⟩) 2 2] 217))->
   Calls prog 170 #[.string s,.int .i64 40,.func (.func 223) #[] #[.pointer (some ⟨w.heap.size+1,0,none⟩)]] w' fun e w''=>e=.returned (.bool b)/\w'=w'':=by
  intro w' hw';have h1:w'.cell? ⟨w.heap.size+1,0,none⟩=some (.slice (some ⟨w.heap.size,0,none⟩) 2 2):=by
   have h0:w'.heap[w.heap.size+1]?=some (.cells #[.slice (some ⟨w.heap.size,0,none⟩) 2 2] 217 (0,0)):=by
    rw [hw']
    have:=heap_alloc_new (w.alloc (.cells #[.func (.func 153) #[] #[],.func (.func 154) #[] #[]] 148)) (.cells #[.slice (some ⟨w.heap.size,0,none⟩) 2 2] 217)
    simpa using this
   rw [(rd h0).1];rfl
  have h2:w'.heap[w.heap.size]?=some (.cells #[.func (.func 153) #[] #[],.func (.func 154) #[] #[]] 148 (0,0)):=by
   rw [hw'];exact heap_alloc (heap_alloc_new w _) _
  obtain ⟨hc,_⟩:=rd h2;refine JA s 40 223 #[] _ (fun c=>Yd c||isDigit c) b w' h63 Zbs (fun c=>?_) hb;refine (ZeO c (w.heap.size+1) w.heap.size 2 [Yd,isDigit] w' h1 s_ ?_).mono ?_
  ·intro i hi
   match i,hi with
   |0,_=>exact ⟨_,hc 0,_,_,_,rfl,QO,fun c=>QK c w'⟩
   |1,_=>exact ⟨_,hc 1,_,_,_,rfl,Xj,fun c=>Y7 c w'⟩
   |n+2,hi=>exact absurd hi s_
  ·rintro e w'' ⟨rfl,rfl⟩
   exact ⟨ZP s_,rfl⟩
 have HH:=h_ HA;clear HA hb;have HB:=h_ hB;clear hB;go_enter func87,ntmps87;go_wp2_with (first
  |(go_at_call 152;refine (ZeM _ _ _ _).mono ?_;rintro e w' ⟨rfl,rfl⟩)
  |(go_at_call 170;refine ((HH.out _ s_).mono ?_);rintro e w' ⟨rfl,rfl⟩))
 go_ret;exact ⟨rfl,HB.out⟩
theorem Zoe(l:Str):Lib.trimS l [32,9]=trimS l:=by
 have e:([32,9]:List UInt8).contains=Zm:=by
  funext c
  have:=Jk (p:=fun c=>([32,9]:List UInt8).contains c==Zm c) n4_ c
  simpa using this
 unfold Lib.trimS Lib.trimLeftS Lib.trimRightS trimS;rw [show (fun x=>([32,9]:List UInt8).contains x)=Zm from e]
theorem ZfK(s:ByteArray)(w:World)(h63:s.size<=9223372036854775807)(t:Str)(ht:trimS s.data.toList=t) :
  Calls prog 40 #[.string s] w fun e w'=>e=.returned (.string ⟨t.toArray⟩)/\Below w.heap.size w w':=by
 have HT:=h_ (Any.strings_Trim_laid lays160 k_ s ⟨#[32,9]⟩ w h63 d_ (ascii_of_all d_));have HE:=h_ ((Zoe s.data.toList).trans ht);clear ht;go_enter func40,ntmps40;go_wp2_with fail;refine HT.out.mono ?_;rintro e w' ⟨rfl,hb⟩;have e2:Lib.trimS s.data.toList (⟨#[32,9]⟩:ByteArray).data.toList=t:=HE.out;rw [e2];clear e2;go_wp2_with fail;go_ret;exact ⟨rfl,hb⟩
def Zh8(B:Nat)(w:World)(v:Value)(rows:List Str):Prop:=
 ∃oa cap,v=.slice oa rows.length cap/\rows.length<=cap/\cap<=1000000/\Zu w oa rows/\∀a,oa=some a->a.block<B
theorem Zh8.fr{B:Nat}{w w':World}{v:Value}{rows:List Str}{M:Nat->Prop}(h:Zh8 B w v rows)(hf:Fr M w w')(hM:∀k,M k->B<=k):Zh8 B w' v rows:=by
 obtain ⟨oa,cap,rfl,h1,h2,h3,h4⟩:=h;refine ⟨oa,cap,rfl,h1,h2,?_,h4⟩;intro i hi;obtain ⟨b,o,e,hc⟩:=h3 i hi;refine ⟨b,o,e,?_⟩;have hb:=h4 _ e;have hlt:=World.block_lt_of_cell? w _ hc;rw [<-hc];unfold World.cell?;rw [hf.block b hlt (fun hm=>by have:=hM b hm;simp at hb;omega)]
def LRd(R:Nat)(rows:List Str)(n:Nat)(sec:Str)(ov:Value)(w:World):Prop:=
 ∃v,w.heap[R]?=some (.cells #[v,.int .i64 n,.string ⟨sec.toArray⟩,ov] 72 (0,0))/\Zh8 R w v rows/\∃oa ln cap,ov=.slice oa ln cap
theorem LRd.fr{R:Nat}{rows:List Str}{n:Nat}{sec:Str}{ov:Value}{w w':World}{M:Nat->Prop}(h:LRd R rows n sec ov w)(hf:Fr M w w')(hM:∀k,M k->R<k):LRd R rows n sec ov w':=by
 obtain ⟨v,h1,h2,h3⟩:=h;exact ⟨v,hf.heap h1 (fun hm=>by have:=hM R hm;omega),h2.fr hf (fun k hk=>by have:=hM k hk;omega),h3⟩
theorem LRd.below{R:Nat}{rows:List Str}{n:Nat}{sec:Str}{ov:Value}{w w':World}(h:LRd R rows n sec ov w)(hf:Below w.heap.size w w'):LRd R rows n sec ov w' :=
 h.fr (Fr.of_below hf (fun _=>False)) (fun _ e=>e.elim)
theorem LRd.lt{R:Nat}{rows:List Str}{n:Nat}{sec:Str}{ov:Value}{w:World}(h:LRd R rows n sec ov w):R<w.heap.size:=by
 obtain ⟨v,h1,_⟩:=h;exact Zb h1
theorem Zgv(l:Str)(c:UInt8):Lib.hasSuffix l [c]=(l.getLast?==some c):=by
 unfold Lib.hasSuffix;rw [Bool.eq_iff_iff,List.isSuffixOf_iff_suffix,beq_iff_eq];constructor
 ·rintro ⟨t,rfl⟩;simp
 ·intro h;obtain ⟨t,rfl⟩:=List.getLast?_eq_some_iff.1 h;exact ⟨t,rfl⟩
theorem LRd.rd{R:Nat}{rows:List Str}{n:Nat}{sec:Str}{ov:Value}{w:World}(h:LRd R rows n sec ov w) :
  ∃oa cap,w.cell? ⟨R,0,none⟩=some (.slice oa rows.length cap)/\w.cell? ⟨R,1,none⟩=some (.int .i64 n)/\w.cell? ⟨R,2,none⟩=some (.string ⟨sec.toArray⟩)/\w.cell? ⟨R,3,none⟩=some ov/\
   w.frozen? ⟨R,2,none⟩=false/\w.frozen? ⟨R,3,none⟩=false/\∀x r,rows=x::r->∃b o,oa=some ⟨b,o,none⟩/\w.cell? ⟨b,o,none⟩=some (.string ⟨x.toArray⟩):=by
 obtain ⟨v,h1,⟨oa,cap,rfl,h2,h3,h4,h5⟩,h6⟩:=h;obtain ⟨hc,hf,-,-⟩:=YtmgmbeipbeknaaaGreatDoor.rd h1;refine ⟨oa,cap,by rw [hc];rfl,by rw [hc];rfl,by rw [hc];rfl,by rw [hc];rfl,hf 2,hf 3,?_⟩;rintro x r rfl;obtain ⟨b,o,e,hb⟩:=h4 0 s_;exact ⟨b,o,e,by simpa using hb⟩
open Go Go.RowKit Go.Sort Go.BigFrame
theorem m119_{p:Prop}(h:p:=by refine wpQuiet_nil ?_;intro _ hw';obtain ⟨⟨dq,osq⟩,hw''⟩:=hw';subst hw'';go_wp2_with fail;go_ret;exact ⟨rfl,ZbJ HRn.out hB (below_regrown w1 dq osq)⟩):p:=h
theorem ZmJ(s:ByteArray)(w:World)(h63:s.size<=9223372036854775807)(b:Bool)(hb:Zfx s.data.toList=b) :
  Calls prog 98 #[.string s,.string ⟨#[92]⟩] w fun e w'=>e=.returned (.bool b)/\w=w':=by
 refine (Tryz.strings_HasSuffix s ⟨#[92]⟩ w h63).mono ?_;rintro e w' ⟨rfl,rfl⟩;refine ⟨?_,rfl⟩;rw [<-hb];show Ending.returned (.bool (Lib.hasSuffix s.data.toList [92]))=_;rw [Zgv];rfl
inductive Zqk(sec key val:Str)(b:Bool):Prop where
 |sec (h1:ZbB sec=false) (hb:b=false)
 |key (h1:ZbB sec=true) (h2:Zgx key=false) (hb:b=false)
 |good (h1:ZbB sec=true) (h2:Zgx key=true) (h3:ZeU val=false) (hb:b=false)
 |trim (h1:ZbB sec=true) (h2:Zgx key=true) (h3:ZeU val=true) (h4:(trimS val==val)=false) (hb:b=false)
 |back (h1:ZbB sec=true) (h2:Zgx key=true) (h3:ZeU val=true) (h4:(trimS val==val)=true) (h5:Zfx val=true) (hb:b=false)
 |len (h1:ZbB sec=true) (h2:Zgx key=true) (h3:ZeU val=true) (h4:(trimS val==val)=true) (h5:Zfx val=false) (h6:decide (key.length+1+val.length<=400)=b)
theorem Zp4(sec key val:Str)(n:Int)(b:Bool)(h:Jc ⟨sec,key,val,n⟩=b):Zqk sec key val b:=by
 unfold Jc at h;simp only at h;cases h1:ZbB sec with
 |false=>rw [h1] at h;simp at h;exact .sec h1 h
 |true=>
  cases h2:Zgx key with
  |false=>rw [h1,h2] at h;simp at h;exact .key h1 h2 h
  |true=>
   cases h3:ZeU val with
   |false=>rw [h1,h2,h3] at h;simp at h;exact .good h1 h2 h3 h
   |true=>
    cases h4:(trimS val==val) with
    |false=>rw [h1,h2,h3,h4] at h;simp at h;exact .trim h1 h2 h3 h4 h
    |true=>
     cases h5:Zfx val with
     |true=>rw [h1,h2,h3,h4,h5] at h;simp at h;exact .back h1 h2 h3 h4 h5 h
     |false=>rw [h1,h2,h3,h4,h5] at h;simp only [Bool.and_true,Bool.true_and,Bool.not_false] at h;exact .len h1 h2 h3 h4 h5 h
theorem ZbJ{w w1 w2:World}{R:Nat}(hR:w.heap.size=R)(h1:Below R w w1)(h2:Below w1.heap.size w1 w2):Below w.heap.size w w2:=by
 subst hR;exact h1.trans (h2.mono h1.size)
theorem ZmS(sa ka va:ByteArray)(n:Int)(w:World)(hs:sa.size<=1000000000)(hk:ka.size<=1000000000)(hv:va.size<=1000000000)(b:Bool)(hb:Jc ⟨sa.data.toList,ka.data.toList,va.data.toList,n⟩=b) :
  Calls prog 48 #[.agg #[.string sa,.string ka,.string va,.int .i64 n]] w fun e w'=>e=.returned (.bool b)/\Below w.heap.size w w':=by
 obtain ⟨tv,htv⟩:∃tv,trimS va.data.toList=tv:=⟨_,rfl⟩;obtain ⟨y,hy⟩:∃y:ByteArray,y=⟨tv.toArray⟩:=⟨_,rfl⟩;have hyl:y.data.toList=tv:=by rw [hy]
 have hlk:ka.data.toList.length=ka.size:=s_;have hlv:va.data.toList.length=va.size:=s_;have hc:=Zp4 _ _ _ n b hb;have hB:Below w.heap.size w (w.alloc (.cells #[.string sa,.string ka,.string va,.int .i64 n] 53)):=b_.alloc l_ _;obtain ⟨bc,-,-,blt⟩:=rd (heap_alloc_new w (.cells #[.string sa,.string ka,.string va,.int .i64 n] 53));have heq:∀q,(trimS va.data.toList==va.data.toList)=q->(y.toList==va.toList)=q:=by
  intro q hq;rw [<-hq,ByteArray.toList_eq,ByteArray.toList_eq,hyl,htv]
 have HTv:=h_ htv;clear htv;have HY:=h_ hy.symm;clear hy hyl hb;have g0:(w.alloc (.cells #[.string sa,.string ka,.string va,.int .i64 n] 53)).cell? ⟨w.heap.size,0,none⟩=some (.string sa):=by rw [bc];rfl
 have g1:(w.alloc (.cells #[.string sa,.string ka,.string va,.int .i64 n] 53)).cell? ⟨w.heap.size,1,none⟩=some (.string ka):=by rw [bc];rfl
 have g2:(w.alloc (.cells #[.string sa,.string ka,.string va,.int .i64 n] 53)).cell? ⟨w.heap.size,2,none⟩=some (.string va):=by rw [bc];rfl
 clear bc;cases hc with
 |sec h1 hb=>
  subst hb;have H1:=h_ h1;clear h1;clear heq hlk hlv;go_enter func48,ntmps48;go_wp2_with fail;generalize w.alloc (.cells #[.string sa,.string ka,.string va,.int .i64 n] 53)=w1 at *;generalize hRn:w.heap.size=R at *;have HRn:=h_ hRn;clear hRn;have k0:=cell_regrown g0;have k1:=cell_regrown g1;have k2:=cell_regrown g2;have cS:∀d os,Calls prog 86 #[.string sa] (grow (redrawn w1 d) os) fun e w''=>e=.returned (.bool false)/\∃p:Regrown,w''=grow (redrawn w1 p.d) p.os:=fun d os=>Calls.regrown_of ((Qj sa _ o_ _ H1.out).mono fun _ _ ⟨a,b⟩=>⟨a,b ▸ Below.refl _ _⟩)
  refine wp_region_quiet_below k_ k_ ?_;(repeat (go_big_quiet_step (first|exact cS _ _)));exact m119_
 |key h1 h2 hb=>
  subst hb;have H1:=h_ h1;clear h1;have H2:=h_ h2;clear h2;clear heq hlk hlv;go_enter func48,ntmps48;go_wp2_with fail;generalize w.alloc (.cells #[.string sa,.string ka,.string va,.int .i64 n] 53)=w1 at *;generalize hRn:w.heap.size=R at *;have HRn:=h_ hRn;clear hRn;have k0:=cell_regrown g0;have k1:=cell_regrown g1;have k2:=cell_regrown g2;have cS:∀d os,Calls prog 86 #[.string sa] (grow (redrawn w1 d) os) fun e w''=>e=.returned (.bool true)/\∃p:Regrown,w''=grow (redrawn w1 p.d) p.os:=fun d os=>Calls.regrown_of ((Qj sa _ o_ _ H1.out).mono fun _ _ ⟨a,b⟩=>⟨a,b ▸ Below.refl _ _⟩)
  have cK:∀d os,Calls prog 87 #[.string ka] (grow (redrawn w1 d) os) fun e w''=>e=.returned (.bool false)/\∃p:Regrown,w''=grow (redrawn w1 p.d) p.os:=fun d os=>Calls.regrown_of (ZcJ ka _ o_ _ H2.out)
  refine wp_region_quiet_below k_ k_ ?_;(repeat (go_big_quiet_step (first|exact cS _ _|exact cK _ _)));exact m119_
 |good h1 h2 h3 hb=>
  subst hb;have H1:=h_ h1;clear h1;have H2:=h_ h2;clear h2;have H3:=h_ h3;clear h3;clear heq hlk hlv;go_enter func48,ntmps48;go_wp2_with fail;generalize w.alloc (.cells #[.string sa,.string ka,.string va,.int .i64 n] 53)=w1 at *;generalize hRn:w.heap.size=R at *;have HRn:=h_ hRn;clear hRn;have k0:=cell_regrown g0;have k1:=cell_regrown g1;have k2:=cell_regrown g2;have cS:∀d os,Calls prog 86 #[.string sa] (grow (redrawn w1 d) os) fun e w''=>e=.returned (.bool true)/\∃p:Regrown,w''=grow (redrawn w1 p.d) p.os:=fun d os=>Calls.regrown_of ((Qj sa _ o_ _ H1.out).mono fun _ _ ⟨a,b⟩=>⟨a,b ▸ Below.refl _ _⟩)
  have cK:∀d os,Calls prog 87 #[.string ka] (grow (redrawn w1 d) os) fun e w''=>e=.returned (.bool true)/\∃p:Regrown,w''=grow (redrawn w1 p.d) p.os:=fun d os=>Calls.regrown_of (ZcJ ka _ o_ _ H2.out)
  have cG:∀d os,Calls prog 83 #[.string va] (grow (redrawn w1 d) os) fun e w''=>e=.returned (.bool false)/\∃p:Regrown,w''=grow (redrawn w1 p.d) p.os:=fun d os=>Calls.regrown_of ((Zdd va _ o_ _ H3.out).mono fun _ _ ⟨a,b⟩=>⟨a,b ▸ Below.refl _ _⟩)
  refine wp_region_quiet_below k_ k_ ?_;(repeat (go_big_quiet_step (first|exact cS _ _|exact cK _ _|exact cG _ _)));exact m119_
 |trim h1 h2 h3 h4 hb=>
  subst hb;have q4:=heq _ h4;have H1:=h_ h1;clear h1;have H2:=h_ h2;clear h2;have H3:=h_ h3;clear h3;clear heq hlk hlv h4;go_enter func48,ntmps48;go_wp2_with fail;generalize w.alloc (.cells #[.string sa,.string ka,.string va,.int .i64 n] 53)=w1 at *;generalize hRn:w.heap.size=R at *;have HRn:=h_ hRn;clear hRn;have k0:=cell_regrown g0;have k1:=cell_regrown g1;have k2:=cell_regrown g2;have cS:∀d os,Calls prog 86 #[.string sa] (grow (redrawn w1 d) os) fun e w''=>e=.returned (.bool true)/\∃p:Regrown,w''=grow (redrawn w1 p.d) p.os:=fun d os=>Calls.regrown_of ((Qj sa _ o_ _ H1.out).mono fun _ _ ⟨a,b⟩=>⟨a,b ▸ Below.refl _ _⟩)
  have cK:∀d os,Calls prog 87 #[.string ka] (grow (redrawn w1 d) os) fun e w''=>e=.returned (.bool true)/\∃p:Regrown,w''=grow (redrawn w1 p.d) p.os:=fun d os=>Calls.regrown_of (ZcJ ka _ o_ _ H2.out)
  have cG:∀d os,Calls prog 83 #[.string va] (grow (redrawn w1 d) os) fun e w''=>e=.returned (.bool true)/\∃p:Regrown,w''=grow (redrawn w1 p.d) p.os:=fun d os=>Calls.regrown_of ((Zdd va _ o_ _ H3.out).mono fun _ _ ⟨a,b⟩=>⟨a,b ▸ Below.refl _ _⟩)
  have cT:∀d os,Calls prog 40 #[.string va] (grow (redrawn w1 d) os) fun e w''=>e=.returned (.string y)/\∃p:Regrown,w''=grow (redrawn w1 p.d) p.os:=fun d os=>Calls.regrown_of ((ZfK va _ o_ _ HTv.out).mono fun _ _ ⟨a,b⟩=>⟨by rw [a,HY.out],b⟩)
  refine wp_region_quiet_below k_ k_ ?_;(repeat (go_big_quiet_step (first|exact cS _ _|exact cK _ _|exact cG _ _|exact cT _ _)));exact m119_
 |back h1 h2 h3 h4 h5 hb=>
  subst hb;have q4:=heq _ h4;have H1:=h_ h1;clear h1;have H2:=h_ h2;clear h2;have H3:=h_ h3;clear h3;have H5:=h_ h5;clear h5;clear heq hlk hlv h4;go_enter func48,ntmps48;go_wp2_with fail;generalize w.alloc (.cells #[.string sa,.string ka,.string va,.int .i64 n] 53)=w1 at *;generalize hRn:w.heap.size=R at *;have HRn:=h_ hRn;clear hRn;have k0:=cell_regrown g0;have k1:=cell_regrown g1;have k2:=cell_regrown g2;have cS:∀d os,Calls prog 86 #[.string sa] (grow (redrawn w1 d) os) fun e w''=>e=.returned (.bool true)/\∃p:Regrown,w''=grow (redrawn w1 p.d) p.os:=fun d os=>Calls.regrown_of ((Qj sa _ o_ _ H1.out).mono fun _ _ ⟨a,b⟩=>⟨a,b ▸ Below.refl _ _⟩)
  have cK:∀d os,Calls prog 87 #[.string ka] (grow (redrawn w1 d) os) fun e w''=>e=.returned (.bool true)/\∃p:Regrown,w''=grow (redrawn w1 p.d) p.os:=fun d os=>Calls.regrown_of (ZcJ ka _ o_ _ H2.out)
  have cG:∀d os,Calls prog 83 #[.string va] (grow (redrawn w1 d) os) fun e w''=>e=.returned (.bool true)/\∃p:Regrown,w''=grow (redrawn w1 p.d) p.os:=fun d os=>Calls.regrown_of ((Zdd va _ o_ _ H3.out).mono fun _ _ ⟨a,b⟩=>⟨a,b ▸ Below.refl _ _⟩)
  have cT:∀d os,Calls prog 40 #[.string va] (grow (redrawn w1 d) os) fun e w''=>e=.returned (.string y)/\∃p:Regrown,w''=grow (redrawn w1 p.d) p.os:=fun d os=>Calls.regrown_of ((ZfK va _ o_ _ HTv.out).mono fun _ _ ⟨a,b⟩=>⟨by rw [a,HY.out],b⟩)
  have cH:∀d os,Calls prog 98 #[.string va,.string ⟨#[92]⟩] (grow (redrawn w1 d) os) fun e w''=>e=.returned (.bool true)/\∃p:Regrown,w''=grow (redrawn w1 p.d) p.os:=fun d os=>Calls.regrown_of ((ZmJ va _ o_ _ H5.out).mono fun _ _ ⟨a,b⟩=>⟨a,b ▸ Below.refl _ _⟩)
  refine wp_region_quiet_below k_ k_ ?_;(repeat (go_big_quiet_step (first|exact cS _ _|exact cK _ _|exact cG _ _|exact cT _ _|exact cH _ _)));exact m119_
 |len h1 h2 h3 h4 h5 h6=>
  have q4:=heq _ h4;rw [hlk,hlv] at h6;have H1:=h_ h1;clear h1;have H2:=h_ h2;clear h2;have H3:=h_ h3;clear h3;have H5:=h_ h5;clear h5;have H6:=h_ h6;clear h6;clear heq hlk hlv h4;go_enter func48,ntmps48;go_wp2_with fail;generalize w.alloc (.cells #[.string sa,.string ka,.string va,.int .i64 n] 53)=w1 at *;generalize hRn:w.heap.size=R at *;have HRn:=h_ hRn;clear hRn;have k0:=cell_regrown g0;have k1:=cell_regrown g1;have k2:=cell_regrown g2;have cS:∀d os,Calls prog 86 #[.string sa] (grow (redrawn w1 d) os) fun e w''=>e=.returned (.bool true)/\∃p:Regrown,w''=grow (redrawn w1 p.d) p.os:=fun d os=>Calls.regrown_of ((Qj sa _ o_ _ H1.out).mono fun _ _ ⟨a,b⟩=>⟨a,b ▸ Below.refl _ _⟩)
  have cK:∀d os,Calls prog 87 #[.string ka] (grow (redrawn w1 d) os) fun e w''=>e=.returned (.bool true)/\∃p:Regrown,w''=grow (redrawn w1 p.d) p.os:=fun d os=>Calls.regrown_of (ZcJ ka _ o_ _ H2.out)
  have cG:∀d os,Calls prog 83 #[.string va] (grow (redrawn w1 d) os) fun e w''=>e=.returned (.bool true)/\∃p:Regrown,w''=grow (redrawn w1 p.d) p.os:=fun d os=>Calls.regrown_of ((Zdd va _ o_ _ H3.out).mono fun _ _ ⟨a,b⟩=>⟨a,b ▸ Below.refl _ _⟩)
  have cT:∀d os,Calls prog 40 #[.string va] (grow (redrawn w1 d) os) fun e w''=>e=.returned (.string y)/\∃p:Regrown,w''=grow (redrawn w1 p.d) p.os:=fun d os=>Calls.regrown_of ((ZfK va _ o_ _ HTv.out).mono fun _ _ ⟨a,b⟩=>⟨by rw [a,HY.out],b⟩)
  have cH:∀d os,Calls prog 98 #[.string va,.string ⟨#[92]⟩] (grow (redrawn w1 d) os) fun e w''=>e=.returned (.bool false)/\∃p:Regrown,w''=grow (redrawn w1 p.d) p.os:=fun d os=>Calls.regrown_of ((ZmJ va _ o_ _ H5.out).mono fun _ _ ⟨a,b⟩=>⟨a,b ▸ Below.refl _ _⟩)
  refine wp_region_quiet_below k_ k_ ?_;(repeat (go_big_quiet_step (first|exact cS _ _|exact cK _ _|exact cG _ _|exact cT _ _|exact cH _ _)));refine wpQuiet_nil ?_;intro _ hw';obtain ⟨⟨dq,osq⟩,hw''⟩:=hw';subst hw'';go_wp2_with fail;go_ret;exact ⟨ZP (by rw [<-H6.out,decide_eq_decide];omega),ZbJ HRn.out hB (below_regrown w1 dq osq)⟩
end Go.Proofs.YtmgmbeipbeknaaaGreatDoor
