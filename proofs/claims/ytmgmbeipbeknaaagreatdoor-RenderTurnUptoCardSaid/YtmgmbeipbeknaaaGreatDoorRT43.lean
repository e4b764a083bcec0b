import Derived.Shelf.Abstract
import Derived.Shelf.Strings.SlTrimAscii
import Derived.BigRegion
import Derived.RegionTactic
import Derived.ChangeAlike
import Derived.Deep.LoopGhost
import Derived.Deep.RegionHeld3
import Derived.Lib.SmallJoins
import Derived.Deep.AppendLies
import Derived.Lib.QuietBelow
import Derived.Test.YtmgmbeipbeknaaaGreatDoorRT3
import Derived.Test.YtmgmbeipbeknaaaGreatDoorRT5
import Derived.Test.YtmgmbeipbeknaaaGreatDoorRT6
import Derived.Test.YtmgmbeipbeknaaaGreatDoorRT30
import Derived.Test.YtmgmbeipbeknaaaGreatDoorRT32
namespace Go.Proofs.YtmgmbeipbeknaaaGreatDoor
open Go.Proofs.Tryz
open Go Go.RowKit
set_option linter.unusedVariables false
set_option linter.unusedSimpArgs false
set_option maxHeartbeats 16000000
set_option maxRecDepth 100000
theorem Zox(c:UInt8)(w:World) :
  Calls prog 166 #[.int .u8 c.toNat] w fun e w'=>e=.returned (.bool (!XW c))/\w=w':=by
 go_enter func166,ntmps166;go_wp2_with (go_at_call 167;refine (Zc2 _ _).mono ?_;rintro e w' ⟨rfl,rfl⟩);go_ret;exact ⟨rfl,rfl⟩
theorem Zh8(args:Array Value)(w:World):(callFunc 166 args).run prog w=.ok (.enter 166 args) w:=enters_of func166 k_ rfl args w
theorem YO(s:ByteArray)(w:World)(h63:s.size<=9223372036854775807)(b:Bool)(hb:Xo s.data.toList=b) :
  Calls prog 83 #[.string s] w fun e w'=>e=.returned (.bool b)/\w=w':=by
 have HA:=h_ (Zqy s 166 #[] #[] (fun c=>!XW c) b w h63 Zh8 (fun c=>Zox c w) hb);clear hb;go_enter func83,ntmps83;go_wp2_with (go_at_call 151;refine HA.out.mono ?_;rintro e w' ⟨rfl,rfl⟩);go_ret;exact ⟨rfl,rfl⟩
theorem Zk9(s:Str):Zag s 20 ZR=XJ s:=by
 unfold Zag XJ;congr 2;rw [decide_eq_decide];omega
theorem ZnH(s:Str):Zag s 40 (fun c=>ZR c||isDigit c)=ZaI s:=by
 unfold Zag ZaI;congr 2;rw [decide_eq_decide];omega
theorem Xc(s:ByteArray)(w:World)(h63:s.size<=9223372036854775807)(b:Bool)(hb:XJ s.data.toList=b) :
  Calls prog 86 #[.string s] w fun e w'=>e=.returned (.bool b)/\w=w':=by
 rw [<-Zk9] at hb;have HA:=h_ (JP s 20 153 #[] #[] ZR b w h63 QZ (fun c=>QJ c w) hb);clear hb;go_enter func86,ntmps86;go_wp2_with (go_at_call 170;refine HA.out.mono ?_;rintro e w' ⟨rfl,rfl⟩);go_ret;exact ⟨rfl,rfl⟩
theorem J4(s:ByteArray)(w:World)(h63:s.size<=9223372036854775807)(b:Bool)(hb:ZaI s.data.toList=b) :
  Calls prog 87 #[.string s] w fun e w'=>e=.returned (.bool b)/\Below w.heap.size w w':=by
 rw [<-ZnH] at hb;have hB:Below w.heap.size w ((w.alloc (.cells #[.func (.func 153) #[] #[],.func (.func 154) #[] #[]] 148)).alloc (.cells #[.slice (some ⟨w.heap.size,0,none⟩) 2 2] 217)):=
  (b_.alloc l_ _).alloc s_ _
 have HA:∀w':World,w'=((w.alloc (.cells #[.func (.func 153) #[] #[],.func (.func 154) #[] #[]] 148)).alloc (.cells #[.slice (some ⟨w.heap.size,0,none⟩) 2 2] 217))->
   Calls prog 170 #[.string s,.int .i64 40,.func (.func 223) #[] #[.pointer (some ⟨w.heap.size+1,0,none⟩)]] w' fun e w''=>e=.returned (.bool b)/\w'=w'':=by
  intro w' hw';have h1:w'.cell? ⟨w.heap.size+1,0,none⟩=some (.slice (some ⟨w.heap.size,0,none⟩) 2 2):=by
   have h0:w'.heap[w.heap.size+1]?=some (.cells #[.slice (some ⟨w.heap.size,0,none⟩) 2 2] 217 (0,0)):=by
    rw [hw']
    have:=heap_alloc_new (w.alloc (.cells #[.func (.func 153) #[] #[],.func (.func 154) #[] #[]] 148)) (.cells #[.slice (some ⟨w.heap.size,0,none⟩) 2 2] 217)
    simpa using this
   rw [(rd h0).1];rfl
  have h2:w'.heap[w.heap.size]?=some (.cells #[.func (.func 153) #[] #[],.func (.func 154) #[] #[]] 148 (0,0)):=by
   rw [hw'];exact heap_alloc (heap_alloc_new w _) _
  obtain ⟨hc,_⟩:=rd h2;refine JP s 40 223 #[] _ (fun c=>ZR c||isDigit c) b w' h63 ZbP (fun c=>?_) hb;refine (ZfE c (w.heap.size+1) w.heap.size 2 [ZR,isDigit] w' h1 s_ ?_).mono ?_
  ·intro i hi
   match i,hi with
   |0,_=>exact ⟨_,hc 0,_,_,_,rfl,QZ,fun c=>QJ c w'⟩
   |1,_=>exact ⟨_,hc 1,_,_,_,rfl,Xf,fun c=>Y5 c w'⟩
   |n+2,hi=>exact absurd hi s_
  ·rintro e w'' ⟨rfl,rfl⟩
   exact ⟨ZC s_,rfl⟩
 have HH:=h_ HA;clear HA hb;have HB:=h_ hB;clear hB;go_enter func87,ntmps87;go_wp2_with (first
  |(go_at_call 152;refine (ZeZ _ _ _ _).mono ?_;rintro e w' ⟨rfl,rfl⟩)
  |(go_at_call 170;refine ((HH.out _ s_).mono ?_);rintro e w' ⟨rfl,rfl⟩))
 go_ret;exact ⟨rfl,HB.out⟩
theorem m122_{p:Prop}(h:p:=by go_enter func39,ntmps39;go_wp2_with (go_at_call 40;refine (Z5 _ _ h63 _ HT.out).mono ?_;rintro e w' ⟨rfl,hw⟩;rw [HX.out]);go_ret;exact ⟨ZC HB.out,hw⟩):p:=h
theorem Zn2(l:Str):Lib.trimS l [32,9]=trimS l:=by
 have e:([32,9]:List UInt8).contains=Zg:=by
  funext c
  have:=Ju (p:=fun c=>([32,9]:List UInt8).contains c==Zg c) n4_ c
  simpa using this
 unfold Lib.trimS Lib.trimLeftS Lib.trimRightS trimS;rw [show (fun x=>([32,9]:List UInt8).contains x)=Zg from e]
theorem Z5(s:ByteArray)(w:World)(h63:s.size<=9223372036854775807)(t:Str)(ht:trimS s.data.toList=t) :
  Calls prog 40 #[.string s] w fun e w'=>e=.returned (.string ⟨t.toArray⟩)/\Below w.heap.size w w':=by
 have HT:=h_ (Any.strings_Trim_laid lays160 k_ s ⟨#[32,9]⟩ w h63 d_ (ascii_of_all d_));have HE:=h_ ((Zn2 s.data.toList).trans ht);clear ht;go_enter func40,ntmps40;go_wp2_with fail;refine HT.out.mono ?_;rintro e w' ⟨rfl,hb⟩;have e2:Lib.trimS s.data.toList (⟨#[32,9]⟩:ByteArray).data.toList=t:=HE.out;rw [e2];clear e2;go_wp2_with fail;go_ret;exact ⟨rfl,hb⟩
theorem Zsv{c:UInt8}{n:Nat}(hn:n<256):((c.toNat:Int)==(n:Int))=(c==UInt8.ofNat n):=by
 rw [Bool.eq_iff_iff];simp only [beq_iff_eq,<-UInt8.toNat_inj];rw [UInt8.toNat_ofNat_of_lt' hn];omega
theorem J9{s:ByteArray}{c:UInt8}{t:Str}(h:s.data.toList=c::t):∃h0:0<s.size,s[0]=c:=by
 obtain ⟨⟨l⟩⟩:=s;simp at h;subst h;exact ⟨by show 0<(c::t).length;simp,rfl⟩
theorem JH(s:ByteArray)(w:World)(h63:s.size<=9223372036854775807)(b:Bool)(hb:YF s.data.toList=b) :
  Calls prog 39 #[.string s] w fun e w'=>e=.returned (.bool b)/\Below w.heap.size w w':=by
 unfold YF at hb;cases ht:trimS s.data.toList with
 |nil=>
  rw [ht] at hb;have HB:=h_ hb;clear hb;have HT:=h_ ht;clear ht;go_enter func39,ntmps39;go_wp2_with (go_at_call 40;refine (Z5 _ _ h63 _ HT.out).mono ?_;rintro e w' ⟨rfl,hw⟩);go_ret;exact ⟨ZC HB.out,hw⟩
 |cons c t=>
  rw [ht] at hb;simp only at hb;have HT:=h_ ht;clear ht;obtain ⟨x,hx⟩:∃x:ByteArray,x=⟨(c::t).toArray⟩:=⟨_,rfl⟩;have hxl:x.data.toList=c::t:=by rw [hx]
  obtain ⟨h0,hc⟩:=J9 hxl;obtain ⟨n1,n2,n3,n4⟩:=X5 (s:=x) o_;have HX:=h_ hx.symm;clear hx;have HC:=h_ hc;clear hc;have e35:((x[0].toNat:Int)==35)=(c==35):=by rw [HC.out];exact Zsv d_
  have e59:((x[0].toNat:Int)==59)=(c==59):=by rw [HC.out];exact Zsv d_
  cases k35:(c==35) with
  |true=>
   rw [k35] at e35 hb;have HB:=h_ hb;clear hb e59 k35;exact m122_
  |false=>
   rw [k35] at e35 hb;cases k59:(c==59) with
   |true=>
    rw [k59] at e59 hb;have HB:=h_ hb;clear hb k35 k59;exact m122_
   |false=>
    rw [k59] at e59 hb;have HB:=h_ hb;clear hb k35 k59;exact m122_
def ZhT(B:Nat)(w:World)(v:Value)(rows:List Str):Prop:=
 ∃oa cap,v=.slice oa rows.length cap/\rows.length<=cap/\cap<=1000000/\Zn w oa rows/\∀a,oa=some a->a.block<B
theorem ZhT.fr{B:Nat}{w w':World}{v:Value}{rows:List Str}{M:Nat->Prop}(h:ZhT B w v rows)(hf:Fr M w w')(hM:∀k,M k->B<=k):ZhT B w' v rows:=by
 obtain ⟨oa,cap,rfl,h1,h2,h3,h4⟩:=h;refine ⟨oa,cap,rfl,h1,h2,?_,h4⟩;intro i hi;obtain ⟨b,o,e,hc⟩:=h3 i hi;refine ⟨b,o,e,?_⟩;have hb:=h4 _ e;have hlt:=World.block_lt_of_cell? w _ hc;rw [<-hc];unfold World.cell?;rw [hf.block b hlt (fun hm=>by have:=hM b hm;simp at hb;omega)]
def LRd(R:Nat)(rows:List Str)(n:Nat)(sec:Str)(ov:Value)(w:World):Prop:=
 ∃v,w.heap[R]?=some (.cells #[v,.int .i64 n,.string ⟨sec.toArray⟩,ov] 72 (0,0))/\ZhT R w v rows/\∃oa ln cap,ov=.slice oa ln cap
theorem LRd.fr{R:Nat}{rows:List Str}{n:Nat}{sec:Str}{ov:Value}{w w':World}{M:Nat->Prop}(h:LRd R rows n sec ov w)(hf:Fr M w w')(hM:∀k,M k->R<k):LRd R rows n sec ov w':=by
 obtain ⟨v,h1,h2,h3⟩:=h;exact ⟨v,hf.heap h1 (fun hm=>by have:=hM R hm;omega),h2.fr hf (fun k hk=>by have:=hM k hk;omega),h3⟩
theorem LRd.below{R:Nat}{rows:List Str}{n:Nat}{sec:Str}{ov:Value}{w w':World}(h:LRd R rows n sec ov w)(hf:Below w.heap.size w w'):LRd R rows n sec ov w' :=
 h.fr (Fr.of_below hf (fun _=>False)) (fun _ e=>e.elim)
theorem LRd.lt{R:Nat}{rows:List Str}{n:Nat}{sec:Str}{ov:Value}{w:World}(h:LRd R rows n sec ov w):R<w.heap.size:=by
 obtain ⟨v,h1,_⟩:=h;exact Zb h1
theorem Zn.tail{w:World}{b o:Nat}{x:Str}{l:List Str}(h:Zn w (some ⟨b,o,none⟩) (x::l)):Zn w (some ⟨b,o+1,none⟩) l:=by
 intro i hi;obtain ⟨b',o',e,hc⟩:=h (i+1) n5_;injection e with e;injection e with e1 e2;subst e1;subst e2
 exact ⟨b,o+1,rfl,by rw [show o+1+i=o+(i+1) by omega];exact hc⟩
theorem ZpE(R:Nat)(w:World)(i j:Nat)(x y:Value):Fr (·=R) w ((w.setCell ⟨R,i,none⟩ x).setCell ⟨R,j,none⟩ y).drew:=
 Fr.drew (Fr.setCell (M:=(·=R)) (p:=⟨R,j,none⟩) (Fr.setCell (M:=(·=R)) (p:=⟨R,i,none⟩) (Fr.refl _ _) (fun _=>rfl) _) (fun _=>rfl) _)
theorem took{R:Nat}{x:Str}{rows:List Str}{n:Nat}{sec:Str}{ov v:Value}{w w':World}{b o o' cap:Nat}
  (h1:w.heap[R]?=some (.cells #[v,.int .i64 n,.string ⟨sec.toArray⟩,ov] 72 (0,0)))
  (h2:Zn w (some ⟨b,o,none⟩) (x::rows)/\∀a,(some ⟨b,o,none⟩:Option Addr)=some a->a.block<R) (h3:cap<=1000000) (h4:rows.length+1<=cap) (h5:∃oa ln c,ov=.slice oa ln c)
  (ho:rows≠[]->o'=o+1)
  (hw:w'.heap=((w.setCell ⟨R,0,none⟩ (.slice (some ⟨b,o',none⟩) rows.length (cap-1))).setCell ⟨R,1,none⟩ (.int .i64 ((n:Int)+1))).heap):LRd R rows (n+1) sec ov w':=by
 have hR:=heap_setCell (heap_setCell h1 0 (.slice (some ⟨b,o',none⟩) rows.length (cap-1))) 1 (.int .i64 ((n:Int)+1));rw [<-hw] at hR;refine ⟨.slice (some ⟨b,o',none⟩) rows.length (cap-1),by rw [hR];rfl,⟨some ⟨b,o',none⟩,cap-1,rfl,o_,o_,?_,?_⟩,h5⟩
 ·have hb:=h2.2 _ rfl
  have ht:=h2.1.tail;intro i hi;obtain ⟨b',o2,e,hc⟩:=ht i hi;injection e with e;injection e with e1 e2;subst e1;subst e2
  have ho':=ho (by intro e;subst e;simp at hi);subst ho';refine ⟨b,o+1,rfl,?_⟩;rw [<-hc];unfold World.cell?;rw [hw,Below.heap_setCell _ _ _ _ (by simp at hb⊢;omega),Below.heap_setCell _ _ _ _ (by simp at hb⊢;omega)]
 ·intro a e;injection e with e;subst e;exact h2.2 ⟨b,o,none⟩ rfl
theorem ZaL(R:Nat)(x:Str)(rows:List Str)(n:Nat)(sec:Str)(ov:Value)(w:World)(h:LRd R (x::rows) n sec ov w)(hn:n<=1000000) :
  Calls prog 41 #[.pointer (some ⟨R,0,none⟩)] w fun e w'=>e=.returned (.string ⟨x.toArray⟩)/\LRd R rows (n+1) sec ov w'/\Fr (·=R) w w':=by
 obtain ⟨v,h1,⟨oa,cap,rfl,hlc,hcm,hrow,hbl⟩,hov⟩:=h;obtain ⟨b,o,rfl,hc0⟩:=hrow 0 s_;obtain ⟨hc,hf,-,-⟩:=rd h1;have c0:w.cell? ⟨R,0,none⟩=some (.slice (some ⟨b,o,none⟩) (rows.length+1) cap):=by rw [hc 0];rfl
 have c1:w.cell? ⟨R,1,none⟩=some (.int .i64 n):=by rw [hc 1];rfl
 have f0:=hf 0;have f1:=hf 1;have hbR:=hbl _ rfl;simp only [Nat.add_zero,List.getElem_cons_zero] at hc0;have hbR':b≠R:=by simp at hbR;omega
 have hlc':rows.length+1<=cap:=hlc;have HRow:=h_ (And.intro hrow hbl);clear hrow hbl hlc;have H1:=h_ h1;clear h1 hc hf;have HO:=h_ hov;clear hov;by_cases hcap:cap=1
 ·subst hcap
  have hr0:rows.length=0:=o_;have hr0':rows=[]:=List.eq_nil_of_length_eq_zero hr0;subst hr0';clear hr0 hlc';go_enter func41,ntmps41;go_wp2_with fail;go_region;all_goals
   go_wp2;go_ret;refine ⟨rfl,took H1.out HRow.out hcm s_ HO.out s_ rfl,ZpE _ _ _ _ _ _⟩
 ·have hcap':¬cap-1=0:=o_
  go_enter func41,ntmps41;go_wp2_with fail;go_region;all_goals
   go_wp2;go_ret;refine ⟨rfl,took H1.out HRow.out hcm hlc' HO.out s_ rfl,ZpE _ _ _ _ _ _⟩
theorem Xp(l:Str)(c:UInt8):Lib.hasSuffix l [c]=(l.getLast?==some c):=by
 unfold Lib.hasSuffix;rw [Bool.eq_iff_iff,List.isSuffixOf_iff_suffix,beq_iff_eq];constructor
 ·rintro ⟨t,rfl⟩;simp
 ·intro h;obtain ⟨t,rfl⟩:=List.getLast?_eq_some_iff.1 h;exact ⟨t,rfl⟩
theorem ZbW{l:Str}{c:UInt8}(h:l.getLast?=some c):Lib.trimSuffix l [c]=l.dropLast:=by
 unfold Lib.trimSuffix;rw [Xp,h];simp [List.dropLast_eq_take]
theorem Zl5(s:ByteArray)(w:World)(h63:s.size<=9223372036854775807)(hg:YD s.data.toList=false) :
  Calls prog 85 #[.string s,.string ⟨#[92]⟩] w fun e w'=>e=.returned (.tuple #[.string s,.bool false])/\w=w':=by
 refine (Tryz.strings_CutSuffix s ⟨#[92]⟩ w h63).mono ?_;rintro e w' ⟨rfl,rfl⟩;have h1:Lib.hasSuffix s.data.toList [92]=false:=by rw [Xp];exact hg
 refine ⟨?_,rfl⟩;show Ending.returned (.tuple #[.string ⟨(Lib.trimSuffix s.data.toList [92]).toArray⟩,.bool (Lib.hasSuffix s.data.toList [92])])=_;unfold Lib.trimSuffix;rw [h1,if_neg d_]
theorem ZkT(s:ByteArray)(w:World)(h63:s.size<=9223372036854775807)(hg:YD s.data.toList=true) :
  Calls prog 85 #[.string s,.string ⟨#[92]⟩] w fun e w'=>e=.returned (.tuple #[.string ⟨s.data.toList.dropLast.toArray⟩,.bool true])/\w=w':=by
 refine (Tryz.strings_CutSuffix s ⟨#[92]⟩ w h63).mono ?_;rintro e w' ⟨rfl,rfl⟩;have h1:Lib.hasSuffix s.data.toList [92]=true:=by rw [Xp];exact hg
 refine ⟨?_,rfl⟩;show Ending.returned (.tuple #[.string ⟨(Lib.trimSuffix s.data.toList [92]).toArray⟩,.bool (Lib.hasSuffix s.data.toList [92])])=_;rw [ZbW (by simpa [YD] using hg),h1]
theorem LRd.rd{R:Nat}{rows:List Str}{n:Nat}{sec:Str}{ov:Value}{w:World}(h:LRd R rows n sec ov w) :
  ∃oa cap,w.cell? ⟨R,0,none⟩=some (.slice oa rows.length cap)/\w.cell? ⟨R,1,none⟩=some (.int .i64 n)/\w.cell? ⟨R,2,none⟩=some (.string ⟨sec.toArray⟩)/\w.cell? ⟨R,3,none⟩=some ov/\
   w.frozen? ⟨R,2,none⟩=false/\w.frozen? ⟨R,3,none⟩=false/\∀x r,rows=x::r->∃b o,oa=some ⟨b,o,none⟩/\w.cell? ⟨b,o,none⟩=some (.string ⟨x.toArray⟩):=by
 obtain ⟨v,h1,⟨oa,cap,rfl,h2,h3,h4,h5⟩,h6⟩:=h;obtain ⟨hc,hf,-,-⟩:=YtmgmbeipbeknaaaGreatDoor.rd h1;refine ⟨oa,cap,by rw [hc];rfl,by rw [hc];rfl,by rw [hc];rfl,by rw [hc];rfl,hf 2,hf 3,?_⟩;rintro x r rfl;obtain ⟨b,o,e,hb⟩:=h4 0 s_;exact ⟨b,o,e,by simpa using hb⟩
def Zsw(R:Nat)(sec:Str)(ov:Value)(res:Str×List Str×Nat)(w:World)(e:Ending)(w':World):Prop:=
 e=.returned (.string ⟨res.1.toArray⟩)/\LRd R res.2.1 res.2.2 sec ov w'/\Fr (·=R) w w'
theorem ZlF{s x:Str}{r:List Str}{n:Nat}(hg:YD s=true)(hx:YF x=true):Yu s (x::r) n=Yu s r (n+1):=by
 conv=>lhs;unfold Yu
 rw [if_pos hg,if_pos hx]
theorem Zl7{s x:Str}{r:List Str}{n:Nat}(hg:YD s=true)(hx:YF x=false):Yu s (x::r) n=Yu (s.dropLast++[32]++x) r (n+1):=by
 conv=>lhs;unfold Yu
 rw [if_pos hg,if_neg (by simp [hx])]
theorem Zoj{s:Str}{n:Nat}(hg:YD s=true):Yu s [] n=(s.dropLast++[32],[],n):=by
 unfold Yu;rw [if_pos hg]
theorem Zia(a b:Str):(⟨a.toArray⟩:ByteArray)++(⟨b.toArray⟩:ByteArray)=⟨(a++b).toArray⟩:=by
 apply YZ;rw [Joins.data_append]
theorem ZjZ(R:Nat)(x:Str)(rows:List Str)(n:Nat)(sec:Str)(ov:Value)(w:World)(h:LRd R (x::rows) n sec ov w)(hn:n+rows.length<=900000)(hbu:Qy (x::rows)<=1000000)
  (res:Str×List Str×Nat) (hres:Yu x rows (n+1)=res) :
  Calls prog 43 #[.pointer (some ⟨R,0,none⟩)] w fun e w'=>Zsw R sec ov res w e w':=by
 have Hres:=h_ hres;clear hres;simp only [Qy] at hbu;go_enter func43,ntmps43;go_wp2_with (go_at_call 41;refine (ZaL R x rows n sec ov w h o_).mono ?_);rintro e w1 ⟨rfl,hL1,hf1⟩;have HF1:=h_ hf1;clear hf1 h;go_wp2_with fail;go_loopg [3,4,5] (rows.length+1) (fun f v _ _ wr=>∃(t:Str) (rs:List Str) (m:Nat),v=.string ⟨t.toArray⟩/\LRd R rs m sec ov wr/\t.length+Qy rs<=1000000/\m+rs.length<=900001/\rs.length<f/\Hid (Yu t rs m=res)/\Hid (Fr (·=R) w wr))
 case atStart=>exact ⟨x,rows,n+1,rfl,hL1,o_,o_,o_,Hres.out,HF1.out⟩
 case round=>
  obtain ⟨t,rs,m,rfl,hL,hbt,hm,hfu,Hq,HF⟩:=hrel;have hts:(⟨t.toArray⟩:ByteArray).size<=9223372036854775807:=n86_;cases hg:YD t with
  |false=>
   have HR:=h_ ((ZfC hg).symm.trans Hq.out);have HG:=h_ hg;clear hg;go_wp2_with (go_at_call 85;refine (Zl5 _ _ hts HG.out).mono ?_;rintro e w' ⟨rfl,rfl⟩);go_ret;exact ⟨n45_,by rw [<-HR.out];exact hL,HF.out⟩
  |true=>
   have hne:=Zd0 hg;have hlp:=List.length_pos_iff.2 hne;have hdl:t.dropLast.length+1=t.length:=n5_;have HG:=h_ hg;clear hg hne;go_wp2_with (go_at_call 85;refine (ZkT _ _ hts HG.out).mono ?_;rintro e w' ⟨rfl,rfl⟩);obtain ⟨wo,rfl⟩:∃wo:World,wo=wr:=⟨_,rfl⟩;obtain ⟨go,rfl⟩:∃go:Nat,go=gk:=⟨_,rfl⟩;go_loopg [30] (rs.length+1) (fun f _ wr=>∃(rs2:List Str) (m2:Nat),LRd R rs2 m2 sec ov wr/\t.length+Qy rs2<=1000000/\m2+rs2.length<=900001/\rs2.length<f/\rs2.length<=rs.length/\Hid (Yu t rs2 m2=res)/\Hid (Fr (·=R) w wr))
   case atStart=>exact ⟨rs,m,hL,hbt,hm,o_,o_,Hq.out,HF.out⟩
   case round=>
    obtain ⟨rs2,m2,hL2,hb2,hm2,hfu2,hle2,Hq2,HF2⟩:=hrel;obtain ⟨oa,cap,c0,-,-,-,-,-,hhead⟩:=hL2.rd;rcases rs2 with _|⟨y,r⟩
    ·clear hhead
     have HR:=h_ ((Zoj HG.out).symm.trans Hq2.out);have HE:=h_ (Zia t.dropLast [32]);simp only [List.length_nil] at c0;go_wp2_with fail;go_ret;exact ⟨by rw [<-HR.out,<-HE.out];rfl,by rw [<-HR.out];exact hL2,HF2.out⟩
    ·obtain ⟨b,o,rfl,hy⟩:=hhead y r rfl
     clear hhead;simp only [List.length_cons] at hm2 hfu2 hle2 c0;simp only [Qy] at hb2;have hys:(⟨y.toArray⟩:ByteArray).size<=9223372036854775807:=by show y.length<=_;omega
     cases hry:YF y with
     |true=>
      have HR:=h_ ((ZlF HG.out hry).symm.trans Hq2.out);have HRy:=h_ hry;clear hry;go_wp2_with (go_at_call 39;refine (JH _ _ hys _ HRy.out).mono ?_);rintro e w3 ⟨rfl,hb3⟩;have hL3:=hL2.below hb3;have HF3:=h_ (HF2.out.trans (Fr.of_below hb3 _));clear hb3;go_wp2_with (go_at_call 41;refine (ZaL R y r m2 sec ov _ hL3 o_).mono ?_);rintro e w4 ⟨rfl,hL4,hf4⟩;have HF4:=h_ (HF3.out.trans hf4);clear hf4;go_wp2_with fail;go_roundg (gk-1)
      case measure=>omega
      case rel=>exact ⟨r,m2+1,hL4,o_,o_,o_,o_,HR,HF4⟩
     |false=>
      have HR:=h_ ((Zl7 HG.out hry).symm.trans Hq2.out);have HRy:=h_ hry;clear hry;have HE:=h_ (show ((⟨t.dropLast.toArray⟩:ByteArray)++⟨#[32]⟩)++⟨y.toArray⟩=⟨(t.dropLast++[32]++y).toArray⟩ by rw [<-Zia,<-Zia]);go_wp2_with (go_at_call 39;refine (JH _ _ hys _ HRy.out).mono ?_);rintro e w3 ⟨rfl,hb3⟩;have hL3:=hL2.below hb3;obtain ⟨oa3,cap3,c03,-⟩:=hL3.rd;have HF3:=h_ (HF2.out.trans (Fr.of_below hb3 _));clear hb3;simp only [List.length_cons] at c03;go_wp2_with (go_at_call 41;refine (ZaL R y r m2 sec ov _ hL3 o_).mono ?_);rintro e w4 ⟨rfl,hL4,hf4⟩;have HF4:=h_ (HF3.out.trans hf4);clear hf4;go_wp2_with fail;go_roundg (go-1)
      case measure=>omega
      case rel=>exact ⟨t.dropLast++[32]++y,r,m2+1,by rw [<-HE.out],hL4,n5_,o_,o_,HR,HF4⟩
open Go Go.RowKit Go.Sort Go.BigFrame
theorem m123_{p:Prop}(h:p:=by refine wpQuiet_nil ?_;intro _ hw';obtain ⟨⟨dq,osq⟩,hw''⟩:=hw';subst hw'';go_wp2_with fail;go_ret;exact ⟨rfl,Zce HRn.out hB (below_regrown w1 dq osq)⟩):p:=h
theorem Znm(s:ByteArray)(w:World)(h63:s.size<=9223372036854775807)(b:Bool)(hb:YD s.data.toList=b) :
  Calls prog 98 #[.string s,.string ⟨#[92]⟩] w fun e w'=>e=.returned (.bool b)/\w=w':=by
 refine (Tryz.strings_HasSuffix s ⟨#[92]⟩ w h63).mono ?_;rintro e w' ⟨rfl,rfl⟩;refine ⟨?_,rfl⟩;rw [<-hb];show Ending.returned (.bool (Lib.hasSuffix s.data.toList [92]))=_;rw [Xp];rfl
inductive ZrJ(sec key val:Str)(b:Bool):Prop where
 |sec (h1:XJ sec=false) (hb:b=false)
 |key (h1:XJ sec=true) (h2:ZaI key=false) (hb:b=false)
 |good (h1:XJ sec=true) (h2:ZaI key=true) (h3:Xo val=false) (hb:b=false)
 |trim (h1:XJ sec=true) (h2:ZaI key=true) (h3:Xo val=true) (h4:(trimS val==val)=false) (hb:b=false)
 |back (h1:XJ sec=true) (h2:ZaI key=true) (h3:Xo val=true) (h4:(trimS val==val)=true) (h5:YD val=true) (hb:b=false)
 |len (h1:XJ sec=true) (h2:ZaI key=true) (h3:Xo val=true) (h4:(trimS val==val)=true) (h5:YD val=false) (h6:decide (key.length+1+val.length<=400)=b)
theorem Zrw(sec key val:Str)(n:Int)(b:Bool)(h:Qt ⟨sec,key,val,n⟩=b):ZrJ sec key val b:=by
 unfold Qt at h;simp only at h;cases h1:XJ sec with
 |false=>rw [h1] at h;simp at h;exact .sec h1 h
 |true=>
  cases h2:ZaI key with
  |false=>rw [h1,h2] at h;simp at h;exact .key h1 h2 h
  |true=>
   cases h3:Xo val with
   |false=>rw [h1,h2,h3] at h;simp at h;exact .good h1 h2 h3 h
   |true=>
    cases h4:(trimS val==val) with
    |false=>rw [h1,h2,h3,h4] at h;simp at h;exact .trim h1 h2 h3 h4 h
    |true=>
     cases h5:YD val with
     |true=>rw [h1,h2,h3,h4,h5] at h;simp at h;exact .back h1 h2 h3 h4 h5 h
     |false=>rw [h1,h2,h3,h4,h5] at h;simp only [Bool.and_true,Bool.true_and,Bool.not_false] at h;exact .len h1 h2 h3 h4 h5 h
theorem Zce{w w1 w2:World}{R:Nat}(hR:w.heap.size=R)(h1:Below R w w1)(h2:Below w1.heap.size w1 w2):Below w.heap.size w w2:=by
 subst hR;exact h1.trans (h2.mono h1.size)
theorem Zn1(sa ka va:ByteArray)(n:Int)(w:World)(hs:sa.size<=1000000000)(hk:ka.size<=1000000000)(hv:va.size<=1000000000)(b:Bool)(hb:Qt ⟨sa.data.toList,ka.data.toList,va.data.toList,n⟩=b) :
  Calls prog 48 #[.agg #[.string sa,.string ka,.string va,.int .i64 n]] w fun e w'=>e=.returned (.bool b)/\Below w.heap.size w w':=by
 obtain ⟨tv,htv⟩:∃tv,trimS va.data.toList=tv:=⟨_,rfl⟩;obtain ⟨y,hy⟩:∃y:ByteArray,y=⟨tv.toArray⟩:=⟨_,rfl⟩;have hyl:y.data.toList=tv:=by rw [hy]
 have hlk:ka.data.toList.length=ka.size:=s_;have hlv:va.data.toList.length=va.size:=s_;have hc:=Zrw _ _ _ n b hb;have hB:Below w.heap.size w (w.alloc (.cells #[.string sa,.string ka,.string va,.int .i64 n] 53)):=b_.alloc l_ _;obtain ⟨bc,-,-,blt⟩:=rd (heap_alloc_new w (.cells #[.string sa,.string ka,.string va,.int .i64 n] 53));have heq:∀q,(trimS va.data.toList==va.data.toList)=q->(y.toList==va.toList)=q:=by
  intro q hq;rw [<-hq,ByteArray.toList_eq,ByteArray.toList_eq,hyl,htv]
 have HTv:=h_ htv;clear htv;have HY:=h_ hy.symm;clear hy hyl hb;have g0:(w.alloc (.cells #[.string sa,.string ka,.string va,.int .i64 n] 53)).cell? ⟨w.heap.size,0,none⟩=some (.string sa):=by rw [bc];rfl
 have g1:(w.alloc (.cells #[.string sa,.string ka,.string va,.int .i64 n] 53)).cell? ⟨w.heap.size,1,none⟩=some (.string ka):=by rw [bc];rfl
 have g2:(w.alloc (.cells #[.string sa,.string ka,.string va,.int .i64 n] 53)).cell? ⟨w.heap.size,2,none⟩=some (.string va):=by rw [bc];rfl
 clear bc;cases hc with
 |sec h1 hb=>
  subst hb;have H1:=h_ h1;clear h1;clear heq hlk hlv;go_enter func48,ntmps48;go_wp2_with fail;generalize w.alloc (.cells #[.string sa,.string ka,.string va,.int .i64 n] 53)=w1 at *;generalize hRn:w.heap.size=R at *;have HRn:=h_ hRn;clear hRn;have k0:=cell_regrown g0;have k1:=cell_regrown g1;have k2:=cell_regrown g2;have cS:∀d os,Calls prog 86 #[.string sa] (grow (redrawn w1 d) os) fun e w''=>e=.returned (.bool false)/\∃p:Regrown,w''=grow (redrawn w1 p.d) p.os:=fun d os=>Calls.regrown_of ((Xc sa _ o_ _ H1.out).mono fun _ _ ⟨a,b⟩=>⟨a,b ▸ Below.refl _ _⟩)
  refine wp_region_quiet_below k_ k_ ?_;(repeat (go_big_quiet_step (first|exact cS _ _)));exact m123_
 |key h1 h2 hb=>
  subst hb;have H1:=h_ h1;clear h1;have H2:=h_ h2;clear h2;clear heq hlk hlv;go_enter func48,ntmps48;go_wp2_with fail;generalize w.alloc (.cells #[.string sa,.string ka,.string va,.int .i64 n] 53)=w1 at *;generalize hRn:w.heap.size=R at *;have HRn:=h_ hRn;clear hRn;have k0:=cell_regrown g0;have k1:=cell_regrown g1;have k2:=cell_regrown g2;have cS:∀d os,Calls prog 86 #[.string sa] (grow (redrawn w1 d) os) fun e w''=>e=.returned (.bool true)/\∃p:Regrown,w''=grow (redrawn w1 p.d) p.os:=fun d os=>Calls.regrown_of ((Xc sa _ o_ _ H1.out).mono fun _ _ ⟨a,b⟩=>⟨a,b ▸ Below.refl _ _⟩)
  have cK:∀d os,Calls prog 87 #[.string ka] (grow (redrawn w1 d) os) fun e w''=>e=.returned (.bool false)/\∃p:Regrown,w''=grow (redrawn w1 p.d) p.os:=fun d os=>Calls.regrown_of (J4 ka _ o_ _ H2.out)
  refine wp_region_quiet_below k_ k_ ?_;(repeat (go_big_quiet_step (first|exact cS _ _|exact cK _ _)));exact m123_
 |good h1 h2 h3 hb=>
  subst hb;have H1:=h_ h1;clear h1;have H2:=h_ h2;clear h2;have H3:=h_ h3;clear h3;clear heq hlk hlv;go_enter func48,ntmps48;go_wp2_with fail;generalize w.alloc (.cells #[.string sa,.string ka,.string va,.int .i64 n] 53)=w1 at *;generalize hRn:w.heap.size=R at *;have HRn:=h_ hRn;clear hRn;have k0:=cell_regrown g0;have k1:=cell_regrown g1;have k2:=cell_regrown g2;have cS:∀d os,Calls prog 86 #[.string sa] (grow (redrawn w1 d) os) fun e w''=>e=.returned (.bool true)/\∃p:Regrown,w''=grow (redrawn w1 p.d) p.os:=fun d os=>Calls.regrown_of ((Xc sa _ o_ _ H1.out).mono fun _ _ ⟨a,b⟩=>⟨a,b ▸ Below.refl _ _⟩)
  have cK:∀d os,Calls prog 87 #[.string ka] (grow (redrawn w1 d) os) fun e w''=>e=.returned (.bool true)/\∃p:Regrown,w''=grow (redrawn w1 p.d) p.os:=fun d os=>Calls.regrown_of (J4 ka _ o_ _ H2.out)
  have cG:∀d os,Calls prog 83 #[.string va] (grow (redrawn w1 d) os) fun e w''=>e=.returned (.bool false)/\∃p:Regrown,w''=grow (redrawn w1 p.d) p.os:=fun d os=>Calls.regrown_of ((YO va _ o_ _ H3.out).mono fun _ _ ⟨a,b⟩=>⟨a,b ▸ Below.refl _ _⟩)
  refine wp_region_quiet_below k_ k_ ?_;(repeat (go_big_quiet_step (first|exact cS _ _|exact cK _ _|exact cG _ _)));exact m123_
 |trim h1 h2 h3 h4 hb=>
  subst hb;have q4:=heq _ h4;have H1:=h_ h1;clear h1;have H2:=h_ h2;clear h2;have H3:=h_ h3;clear h3;clear heq hlk hlv h4;go_enter func48,ntmps48;go_wp2_with fail;generalize w.alloc (.cells #[.string sa,.string ka,.string va,.int .i64 n] 53)=w1 at *;generalize hRn:w.heap.size=R at *;have HRn:=h_ hRn;clear hRn;have k0:=cell_regrown g0;have k1:=cell_regrown g1;have k2:=cell_regrown g2;have cS:∀d os,Calls prog 86 #[.string sa] (grow (redrawn w1 d) os) fun e w''=>e=.returned (.bool true)/\∃p:Regrown,w''=grow (redrawn w1 p.d) p.os:=fun d os=>Calls.regrown_of ((Xc sa _ o_ _ H1.out).mono fun _ _ ⟨a,b⟩=>⟨a,b ▸ Below.refl _ _⟩)
  have cK:∀d os,Calls prog 87 #[.string ka] (grow (redrawn w1 d) os) fun e w''=>e=.returned (.bool true)/\∃p:Regrown,w''=grow (redrawn w1 p.d) p.os:=fun d os=>Calls.regrown_of (J4 ka _ o_ _ H2.out)
  have cG:∀d os,Calls prog 83 #[.string va] (grow (redrawn w1 d) os) fun e w''=>e=.returned (.bool true)/\∃p:Regrown,w''=grow (redrawn w1 p.d) p.os:=fun d os=>Calls.regrown_of ((YO va _ o_ _ H3.out).mono fun _ _ ⟨a,b⟩=>⟨a,b ▸ Below.refl _ _⟩)
  have cT:∀d os,Calls prog 40 #[.string va] (grow (redrawn w1 d) os) fun e w''=>e=.returned (.string y)/\∃p:Regrown,w''=grow (redrawn w1 p.d) p.os:=fun d os=>Calls.regrown_of ((Z5 va _ o_ _ HTv.out).mono fun _ _ ⟨a,b⟩=>⟨by rw [a,HY.out],b⟩)
  refine wp_region_quiet_below k_ k_ ?_;(repeat (go_big_quiet_step (first|exact cS _ _|exact cK _ _|exact cG _ _|exact cT _ _)));exact m123_
 |back h1 h2 h3 h4 h5 hb=>
  subst hb;have q4:=heq _ h4;have H1:=h_ h1;clear h1;have H2:=h_ h2;clear h2;have H3:=h_ h3;clear h3;have H5:=h_ h5;clear h5;clear heq hlk hlv h4;go_enter func48,ntmps48;go_wp2_with fail;generalize w.alloc (.cells #[.string sa,.string ka,.string va,.int .i64 n] 53)=w1 at *;generalize hRn:w.heap.size=R at *;have HRn:=h_ hRn;clear hRn;have k0:=cell_regrown g0;have k1:=cell_regrown g1;have k2:=cell_regrown g2;have cS:∀d os,Calls prog 86 #[.string sa] (grow (redrawn w1 d) os) fun e w''=>e=.returned (.bool true)/\∃p:Regrown,w''=grow (redrawn w1 p.d) p.os:=fun d os=>Calls.regrown_of ((Xc sa _ o_ _ H1.out).mono fun _ _ ⟨a,b⟩=>⟨a,b ▸ Below.refl _ _⟩)
  have cK:∀d os,Calls prog 87 #[.string ka] (grow (redrawn w1 d) os) fun e w''=>e=.returned (.bool true)/\∃p:Regrown,w''=grow (redrawn w1 p.d) p.os:=fun d os=>Calls.regrown_of (J4 ka _ o_ _ H2.out)
  have cG:∀d os,Calls prog 83 #[.string va] (grow (redrawn w1 d) os) fun e w''=>e=.returned (.bool true)/\∃p:Regrown,w''=grow (redrawn w1 p.d) p.os:=fun d os=>Calls.regrown_of ((YO va _ o_ _ H3.out).mono fun _ _ ⟨a,b⟩=>⟨a,b ▸ Below.refl _ _⟩)
  have cT:∀d os,Calls prog 40 #[.string va] (grow (redrawn w1 d) os) fun e w''=>e=.returned (.string y)/\∃p:Regrown,w''=grow (redrawn w1 p.d) p.os:=fun d os=>Calls.regrown_of ((Z5 va _ o_ _ HTv.out).mono fun _ _ ⟨a,b⟩=>⟨by rw [a,HY.out],b⟩)
  have cH:∀d os,Calls prog 98 #[.string va,.string ⟨#[92]⟩] (grow (redrawn w1 d) os) fun e w''=>e=.returned (.bool true)/\∃p:Regrown,w''=grow (redrawn w1 p.d) p.os:=fun d os=>Calls.regrown_of ((Znm va _ o_ _ H5.out).mono fun _ _ ⟨a,b⟩=>⟨a,b ▸ Below.refl _ _⟩)
  refine wp_region_quiet_below k_ k_ ?_;(repeat (go_big_quiet_step (first|exact cS _ _|exact cK _ _|exact cG _ _|exact cT _ _|exact cH _ _)));exact m123_
 |len h1 h2 h3 h4 h5 h6=>
  have q4:=heq _ h4;rw [hlk,hlv] at h6;have H1:=h_ h1;clear h1;have H2:=h_ h2;clear h2;have H3:=h_ h3;clear h3;have H5:=h_ h5;clear h5;have H6:=h_ h6;clear h6;clear heq hlk hlv h4;go_enter func48,ntmps48;go_wp2_with fail;generalize w.alloc (.cells #[.string sa,.string ka,.string va,.int .i64 n] 53)=w1 at *;generalize hRn:w.heap.size=R at *;have HRn:=h_ hRn;clear hRn;have k0:=cell_regrown g0;have k1:=cell_regrown g1;have k2:=cell_regrown g2;have cS:∀d os,Calls prog 86 #[.string sa] (grow (redrawn w1 d) os) fun e w''=>e=.returned (.bool true)/\∃p:Regrown,w''=grow (redrawn w1 p.d) p.os:=fun d os=>Calls.regrown_of ((Xc sa _ o_ _ H1.out).mono fun _ _ ⟨a,b⟩=>⟨a,b ▸ Below.refl _ _⟩)
  have cK:∀d os,Calls prog 87 #[.string ka] (grow (redrawn w1 d) os) fun e w''=>e=.returned (.bool true)/\∃p:Regrown,w''=grow (redrawn w1 p.d) p.os:=fun d os=>Calls.regrown_of (J4 ka _ o_ _ H2.out)
  have cG:∀d os,Calls prog 83 #[.string va] (grow (redrawn w1 d) os) fun e w''=>e=.returned (.bool true)/\∃p:Regrown,w''=grow (redrawn w1 p.d) p.os:=fun d os=>Calls.regrown_of ((YO va _ o_ _ H3.out).mono fun _ _ ⟨a,b⟩=>⟨a,b ▸ Below.refl _ _⟩)
  have cT:∀d os,Calls prog 40 #[.string va] (grow (redrawn w1 d) os) fun e w''=>e=.returned (.string y)/\∃p:Regrown,w''=grow (redrawn w1 p.d) p.os:=fun d os=>Calls.regrown_of ((Z5 va _ o_ _ HTv.out).mono fun _ _ ⟨a,b⟩=>⟨by rw [a,HY.out],b⟩)
  have cH:∀d os,Calls prog 98 #[.string va,.string ⟨#[92]⟩] (grow (redrawn w1 d) os) fun e w''=>e=.returned (.bool false)/\∃p:Regrown,w''=grow (redrawn w1 p.d) p.os:=fun d os=>Calls.regrown_of ((Znm va _ o_ _ H5.out).mono fun _ _ ⟨a,b⟩=>⟨a,b ▸ Below.refl _ _⟩)
  refine wp_region_quiet_below k_ k_ ?_;(repeat (go_big_quiet_step (first|exact cS _ _|exact cK _ _|exact cG _ _|exact cT _ _|exact cH _ _)));refine wpQuiet_nil ?_;intro _ hw';obtain ⟨⟨dq,osq⟩,hw''⟩:=hw';subst hw'';go_wp2_with fail;go_ret;exact ⟨ZC (by rw [<-H6.out,decide_eq_decide];omega),Zce HRn.out hB (below_regrown w1 dq osq)⟩
end Go.Proofs.YtmgmbeipbeknaaaGreatDoor
