import Derived.Lib.Bytealg
import Derived.Lib.SplitLaws
import Derived.Shelf.Abstract
import Derived.Shelf.RegionOpen
import Derived.WalkKit
import Derived.OwnWalkIn
import Derived.TacticsInMore
import Derived.LoopNIn
import Derived.LoopIn
import Derived.Sort.LoopGhostIn
import Derived.Lib.IndexMore
import Derived.Test.YtmgmbeipbeknaaaGreatDoorRF1
import Derived.Test.YtmgmbeipbeknaaaGreatDoorRF4
import Derived.Test.YtmgmbeipbeknaaaGreatDoorRF5
import Derived.Test.YtmgmbeipbeknaaaGreatDoorRF8
import Derived.Test.YtmgmbeipbeknaaaGreatDoorRF10
namespace Go.Proofs.YtmgmbeipbeknaaaGreatDoor
open Go
set_option linter.unusedVariables false
set_option linter.unusedSimpArgs false
set_option maxHeartbeats 16000000
def ZhG(x:UInt8):List Str->List Str
 |[]=>[[x]]
 |h::r=>(x::h)::r
def ZF(c:UInt8):Str->List Str
 |[]=>[[]]
 |x::t=>if x=c then []::ZF c t else ZhG x (ZF c t)
theorem ZgN(c:UInt8):∀s:Str,ZF c s≠[]
 |[]=>by simp [ZF]
 |x::t=>by
  unfold ZF;split
  ·simp
  ·unfold ZhG;split<;>simp
theorem ZcE(c:UInt8):∀(a b:Str),(∀x∈a,x≠c)->ZF c (a++c::b)=a::ZF c b
 |[],b,_=>by simp [ZF]
 |x::t,b,h=>by
  rw [List.cons_append,ZF,if_neg (h x s_),ZcE c t b (fun y hy=>h y (by simp [hy]))];rfl
theorem Zcq(c:UInt8):∀(a:Str),(∀x∈a,x≠c)->ZF c a=[a]
 |[],_=>rfl
 |x::t,h=>by
  rw [ZF,if_neg (h x s_),Zcq c t (fun y hy=>h y (by simp [hy]))];rfl
theorem Zfq(c:UInt8):∀s:Str,(Lib.indexByte s c = -1/\∀x∈s,x≠c)\/∃(i:Nat) (a b:Str),Lib.indexByte s c=i/\s=a++c::b/\a.length=i/\∀x∈a,x≠c
 |[]=>.inl ⟨rfl,s_⟩
 |x::t=>by
  by_cases hx:x=c
  ·subst hx
   exact .inr ⟨0,[],t,by simp [Lib.indexByte],rfl,rfl,s_⟩
  ·rcases Zfq c t with ⟨h1,h2⟩|⟨i,a,b,h1,h2,h3,h4⟩
   ·exact .inl ⟨by simp [Lib.indexByte,hx,h1],by
     intro y hy;rcases List.mem_cons.1 hy with rfl|hy
     ·exact hx
     ·exact h2 y hy⟩
   ·refine .inr ⟨i+1,x::a,b,?_,by rw [h2];rfl,by simp [h3],?_⟩
    ·have hne:¬((i:Int) = -1):=o_
     simp [Lib.indexByte,hx,h1,hne]
    ·intro y hy
     rcases List.mem_cons.1 hy with rfl|hy
     ·exact hx
     ·exact h4 y hy
theorem Qa(c:UInt8):∀(s:Str) x,x∈ZF c s->x.length<=s.length
 |[],x,h=>by simp [ZF] at h;subst h;simp
 |y::t,x,h=>by
  unfold ZF at h;split at h
  ·rcases List.mem_cons.1 h with rfl|h
   ·simp
   ·have:=Qa c t x h;simp;omega
  ·have ih:=Qa c t
   cases hs:ZF c t with
   |nil=>exact absurd hs (ZgN c t)
   |cons a r=>
    rw [hs] at h ih;simp only [ZhG] at h;rcases List.mem_cons.1 h with rfl|h
    ·have:=ih a s_;simp;omega
    ·have:=ih x (by simp [h]);simp;omega
theorem QC(c:UInt8):∀(s:Str),(ZF c s).length<=s.length+1
 |[]=>by simp [ZF]
 |y::t=>by
  have ih:=QC c t;unfold ZF;split
  ·simp;omega
  ·cases hs:ZF c t with
   |nil=>exact absurd hs (ZgN c t)
   |cons a r=>rw [hs] at ih;simp [ZhG] at ih⊢;omega
open Go.Proofs.Tryz
open Go Go.RowKit Go.Shelf
set_option maxRecDepth 100000
attribute [local go_sem] Oper.semAt_some
def KpB(b:Nat)(W W':World):Prop:=W.heap.size<=W'.heap.size/\∀k,k=b\/k=b+1\/k=b+2->W'.heap[k]?=W.heap[k]?
theorem KpB.trans{b:Nat}{A B C:World}(h:KpB b A B)(k:KpB b B C):KpB b A C:=⟨Nat.le_trans h.1 k.1,fun i hi=>(k.2 i hi).trans (h.2 i hi)⟩
theorem KpB.of_below{b:Nat}{A B:World}(h:Below A.heap.size A B)(hb:b+2<A.heap.size):KpB b A B:=⟨h.size,fun i hi=>h.block i o_⟩
structure Place(W:World)(b:Nat)(c:UInt8)(r:Str):Prop where
 s:W.heap[b]?=some (.cells #[.string ⟨r.toArray⟩] 9 (0,0))
 sep:W.heap[b+1]?=some (.cells #[.string ⟨#[c]⟩] 9 (0,0))
 save:W.heap[b+2]?=some (.cells #[.int .i64 0] 3 (0,0))
theorem Place.kept{W W':World}{b:Nat}{c:UInt8}{r:Str}(h:Place W b c r)(k:KpB b W W'):Place W' b c r:=
 ⟨(k.2 b (.inl rfl)).trans h.s,(k.2 (b+1) (.inr (.inl rfl))).trans h.sep,(k.2 (b+2) (.inr (.inr rfl))).trans h.save⟩
theorem Place.moved{W:World}{b:Nat}{c:UInt8}{r r':Str}(h:Place W b c r):Place (W.setCell ⟨b,0,none⟩ (.string ⟨r'.toArray⟩)) b c r' :=
 ⟨by have:=heap_setCell h.s 0 (.string ⟨r'.toArray⟩);exact this,Zw h.sep (a:=⟨b,0,none⟩) (by show b+1≠b;omega) _,Zw h.save (a:=⟨b,0,none⟩) (by show b+2≠b;omega) _⟩
theorem Znv(s:Str)(k n:Nat)(hn:n=s.length):(⟨s.toArray⟩:ByteArray).extract k n=⟨(s.drop k).toArray⟩:=by
 subst hn;apply ByteArray.ext;apply Array.ext'
 have:=Lib.extract_to_end (⟨s.toArray⟩:ByteArray) k
 simpa [ByteArray.size] using this
theorem Zp3(s:Str)(k:Nat):(⟨s.toArray⟩:ByteArray).extract 0 k=⟨(s.take k).toArray⟩:=by
 apply ByteArray.ext;apply Array.ext';rw [Lib.extract_data];simp
theorem ZgB(n l b:Nat)(hn1:1<=n)(c:UInt8)(xs:List Str)(J Jx:List Str->World->Prop)(s:Str)(W:World)(hp:Place W b c s)(hs:s.length<=1000000000)(hxs:ZF c s=xs)(hJ:Zr2 b J)
  (hY:∀pre x post W1,xs=pre++x::post->J pre W1->YieldAt Fence.wide (n-1) prog l #[.string ⟨x.toArray⟩] W1 fun e W' =>
   (e=.returned (.bool true)/\J (pre++[x]) W'/\KpB b W1 W')\/(e=.returned (.bool false)/\Jx (pre++[x]) W')) (h0:J [] W) :
  CallsIn Fence.wide n prog 355 #[.func (.yield l) #[] #[],.pointer (some ⟨b+1,0,none⟩),.pointer (some ⟨b,0,none⟩),.pointer (some ⟨b+2,0,none⟩)] W fun e W'=>(∃v,e=.returned v)/\(J xs W'\/∃pre,Jx pre W'):=by
 have HP:=h_ hp;have HXS:=h_ hxs;have HJ:=h_ hJ;have HY:=h_ hY;have H0:=h_ h0;have e1:=(rd hp.sep).1 0;simp only [List.getElem?_toArray,List.getElem?_cons_zero] at e1;clear hp hxs hJ hY h0;have hF:Fence.wide.fn 158:=trivial;refine callsIn_of_wp func355 rfl trivial ?_ rfl;simp only [ntmps355,List.size_toArray,List.length_cons,List.length_nil,Nat.reduceAdd,Nat.reduceSub,Array.replicate_succ,Array.replicate_zero,List.push_toArray,List.append_toArray,List.nil_append,List.cons_append]
 gi_wp2
 gi_loopg [] (s.length+1) (fun f wr=>∃(done:List Str) (r:Str),r.length<f/\r.length<=s.length/\Hid (Place wr b c r)/\Hid (done++ZF c r=xs)/\Hid (J done wr))
 case atStart=>exact ⟨[],s,o_,o_,HP,HXS,H0⟩
 case round=>
  obtain ⟨done,r,hf,hrl,HPr,HD,HJr⟩:=hrel;obtain ⟨c0,f0,s0,l0⟩:=rd HPr.out.s;obtain ⟨c1,f1,s1,l1⟩:=rd HPr.out.sep;obtain ⟨c2,f2,s2,l2⟩:=rd HPr.out.save;have d0:=c0 0;have d1:=c1 0;have d2:=c2 0;have g0:=f0 0;simp only [List.getElem?_toArray,List.getElem?_cons_zero] at d0 d1 d2;clear c0 c1 c2 f0 f1 f2 s0 s1 s2 e1;rcases Zfq c r with ⟨h1,h2⟩|⟨i,a,t,h1,h2,h3,h4⟩
  ·have hx:xs=done++r::[]:=by rw [<-HD.out,Zcq c r h2]
   have HX:=h_ hx;have HI:=h_ (fun V=>Tryz.strings_Index_one ⟨r.toArray⟩ c V);change Hid (∀V,Calls _ _ _ V fun e w'=>e=.returned (.int .i64 (Lib.indexByte r c))/\_) at HI;rw [h1] at HI;obtain ⟨fn,tmps,assign,body,hy,hR⟩:=HY.out done r [] wr hx HJr.out;have HRR:=h_ hR;clear hx hR h1 h2 HY
   gi_wp2_with (gi_at_call 158;refine (callsIn_wide.2 (HI.out _)).mono ?_;rintro e w' ⟨rfl,rfl⟩)
   refine HRR.out.mono ?_;rintro e W3 (⟨rfl,hJ3,hk3⟩|⟨rfl,hJx3⟩)
   ·have HJ3:=h_ (show J xs W3 from by rw [HX.out];exact hJ3)
    clear hJ3 hk3 HX
    gi_wp2
    refine ⟨rfl,_,results_none rfl _ _ _,?_⟩;exact ⟨⟨_,rfl⟩,.inl HJ3.out⟩
   ·have HJ3:=h_ hJx3
    clear hJx3
    gi_wp2
    refine ⟨rfl,_,results_none rfl _ _ _,?_⟩;exact ⟨⟨_,rfl⟩,.inr ⟨_,HJ3.out⟩⟩
  ·have hx:xs=done++a::ZF c t:=by rw [<-HD.out,h2,ZcE c a t h4]
   have HX:=h_ (show (done++[a])++ZF c t=xs from by rw [hx];simp);have HI:=h_ (fun V=>Tryz.strings_Index_one ⟨r.toArray⟩ c V);change Hid (∀V,Calls _ _ _ V fun e w'=>e=.returned (.int .i64 (Lib.indexByte r c))/\_) at HI;rw [h1] at HI;have hil:i+1<=r.length:=by rw [h2,<-h3];simp
   have hrs:(⟨r.toArray⟩:ByteArray).size=r.length:=n15_;have ea:(⟨r.toArray⟩:ByteArray).extract 0 i=⟨a.toArray⟩:=by rw [Zp3,h2,<-h3];simp
   have et:(⟨r.toArray⟩:ByteArray).extract (i+1) (⟨r.toArray⟩:ByteArray).size=⟨t.toArray⟩:=by
    rw [hrs,Znv r (i+1) r.length rfl,h2,<-h3];simp
   have htl:t.length+(i+1)=r.length:=by rw [h2,<-h3];simp;omega
   have HEA:=h_ ea;have HET:=h_ et;obtain ⟨fn,tmps,assign,body,hy,hR⟩:=HY.out done a (ZF c t) wr hx HJr.out;rw [<-ea] at hy;have HRR:=h_ hR;have iz0:¬((i:Int)<0):=o_;have iz1:(i:Int)<=((⟨r.toArray⟩:ByteArray).size:Int):=by rw [hrs];omega
   have iz2:(i:Int)+1<=((⟨r.toArray⟩:ByteArray).size:Int):=by rw [hrs];omega
   have iz3:i<=1000000000:=o_;have HTL:=h_ htl;clear hx hR h1 h2 h3 h4 ea et HD htl hrs hil;have hP1:∀V,KpB b wr V->Place V b c r:=fun V hk=>HPr.out.kept hk
   have HP1:=h_ hP1;clear hP1 HPr;generalize hRd:(⟨r.toArray⟩:ByteArray)=R at *;have HRd:=h_ hRd;clear hRd
   gi_wp2_with (gi_at_call 158;refine (callsIn_wide.2 (HI.out _)).mono ?_;rintro e w' ⟨rfl,rfl⟩)
   refine HRR.out.mono ?_;rintro e W3 (⟨rfl,hJ3,hk3⟩|⟨rfl,hJx3⟩)
   ·have hP3:=HP1.out _ hk3
    have HJ4:=h_ (HJ.out _ _ _ hJ3 (grownBy_setCell' W3 b (.string ⟨t.toArray⟩)));have HP4:=h_ (hP3.moved (r':=t));obtain ⟨c0,f0,s0,l0'⟩:=rd hP3.s;obtain ⟨c1,f1,s1,l1'⟩:=rd hP3.sep;have q0:=c0 0;have q1:=c1 0;have p0:=f0 0;simp only [List.getElem?_toArray,List.getElem?_cons_zero] at q0 q1;rw [HRd.out] at q0;clear c0 c1 f0 f1 s0 s1 hJ3 hk3 hP3 l0 l1 l2 HJr HP1 hy d0 d1 d2 g0 HI
    gi_wp2
    gi_roundg (r.length-i)
    case measure=>omega
    case rel=>exact ⟨done++[a],t,by have:=HTL.out;omega,by have:=HTL.out;omega,by rw [<-HET.out] at HP4;exact HP4,HX,by rw [<-HET.out] at HJ4;exact HJ4⟩
   ·have HJ3:=h_ hJx3
    clear hJx3
    gi_wp2
    refine bodyPost_ret (results_none rfl _ _ _) rfl ?_;exact ⟨⟨_,rfl⟩,.inr ⟨_,HJ3.out⟩⟩
theorem Zd7(n b:Nat)(hn1:1<=n)(c:UInt8)(s:Str)(w:World)(hp:Place w b c s)(hs:s.length<=1000000000) :
  Zpq n prog 355 #[.pointer (some ⟨b+1,0,none⟩),.pointer (some ⟨b,0,none⟩),.pointer (some ⟨b+2,0,none⟩)] (fun x:Str=>.string ⟨x.toArray⟩) b (KpB b) (ZF c s) w:=
 fun l J Jx W hW hJ hY h0=>ZgB n l b hn1 c _ J Jx s W (hp.kept hW) hs rfl hJ hY h0
theorem ZbZ:∀args w,(callFunc 355 args).run prog w=.ok (.enter 355 args) w:=enters_of func355 k_ rfl
def YM(w:World)(c:UInt8)(s:Str):World:=((w.alloc (.cells #[.string ⟨s.toArray⟩] 9)).alloc (.cells #[.string ⟨#[c]⟩] 9)).alloc (.cells #[.int .i64 0] 3)
theorem ZcI(c:UInt8)(s:Str)(w:World):Calls prog 321 #[.string ⟨s.toArray⟩,.string ⟨#[c]⟩] w fun e w' =>
  e=.returned (.func (.func 355) #[] #[.pointer (some ⟨w.heap.size+1,0,none⟩),.pointer (some ⟨w.heap.size,0,none⟩),.pointer (some ⟨w.heap.size+2,0,none⟩)])/\w'=YM w c s:=by
 have H:Calls prog 340 #[.string ⟨s.toArray⟩,.string ⟨#[c]⟩,.int .i64 0] w fun e w' =>
  e=.returned (.func (.func 355) #[] #[.pointer (some ⟨w.heap.size+1,0,none⟩),.pointer (some ⟨w.heap.size,0,none⟩),.pointer (some ⟨w.heap.size+2,0,none⟩)])/\w'=YM w c s:=by
  go_enter func340,ntmps340;go_wp2;go_ret;exact ⟨rfl,rfl⟩
 have HH:=h_ H;clear H;go_enter func321,ntmps321;go_wp2_with fail;refine HH.out.mono ?_;rintro e w1 ⟨rfl,rfl⟩;go_wp2;go_ret;exact ⟨rfl,rfl⟩
theorem ZcU(w:World)(c:UInt8)(s:Str):Place (YM w c s) w.heap.size c s/\Below w.heap.size w (YM w c s)/\(YM w c s).heap.size=w.heap.size+3:=by
 have z1:(w.alloc (.cells #[.string ⟨s.toArray⟩] 9)).heap.size=w.heap.size+1:=s_;have z2:((w.alloc (.cells #[.string ⟨s.toArray⟩] 9)).alloc (.cells #[.string ⟨#[c]⟩] 9)).heap.size=w.heap.size+2:=s_;refine ⟨⟨heap_alloc (heap_alloc (heap_alloc_new w _) _) _,?_,?_⟩,((b_.alloc l_ _).alloc s_ _).alloc n6_ _,by simp [YM]⟩
 ·rw [<-z1];exact heap_alloc (heap_alloc_new _ _) _
 ·rw [<-z2];exact heap_alloc_new _ _
structure Yg where
 from_:Int
 to_:Int
 step:Int
deriving DecidableEq
def Ql(s:Str):Int×Bool:=if JU s 4 isDigit=true then ((ZeA s:Nat),true) else (0,false)
def ZbX(b:Str)(st:Int):Option Yg:=
 if b=[42] then some ⟨-1,-1,st⟩
 else if (Ql (Lib.cut b [46,46]).1).2=false then none
 else if (Lib.cut b [46,46]).2.2=true then (if (Ql (Lib.cut b [46,46]).2.1).2=true then some ⟨(Ql (Lib.cut b [46,46]).1).1,(Ql (Lib.cut b [46,46]).2.1).1,st⟩ else none)
 else some ⟨(Ql (Lib.cut b [46,46]).1).1,-1,st⟩
def Yf(s:Str):Option Yg:=
 if (Lib.cut s [47]).2.2=true then
  (if (Ql (Lib.cut s [47]).2.1).2=false\/(Ql (Lib.cut s [47]).2.1).1=0 then none else ZbX (Lib.cut s [47]).1 (Ql (Lib.cut s [47]).2.1).1)
 else ZbX (Lib.cut s [47]).1 0
def YT:List Str->Option (List Yg)
 |[]=>some []
 |x::t=>match Yf x with
  |none=>none
  |some p=>(YT t).map fun r=>p::r
def Zc7(s:Str):Option (List Yg):=YT (ZF 44 s)
abbrev Zi9:List Str:=[[77,111,110],[84,117,101],[87,101,100],[84,104,117],[70,114,105],[83,97,116],[83,117,110]]
def ZaV:List Str->Str->Nat->Int
 |[],_,_=>-1
 |d::r,s,i=>if d=s then (i:Int) else ZaV r s (i+1)
def XO(s:Str):Int:=ZaV Zi9 s 0
theorem Zb7:∀(l:List Str) (s:Str) (i:Nat),ZaV l s i = -1\/∃n:Nat,ZaV l s i=n/\n<i+l.length
 |[],s,i=>.inl rfl
 |d::r,s,i=>by
  unfold ZaV;split
  ·exact .inr ⟨i,rfl,s_⟩
  ·rcases Zb7 r s (i+1) with h|⟨n,h1,h2⟩
   ·exact .inl h
   ·exact .inr ⟨n,h1,n6_⟩
theorem JX(s:Str):XO s = -1\/∃n:Nat,XO s=n/\n<7:=by
 rcases Zb7 Zi9 s 0 with h|⟨n,h1,h2⟩
 ·exact .inl h
 ·exact .inr ⟨n,h1,n41_⟩
def Xa(w:Str):Option (Nat×Nat):=
 if XO (Lib.cut w [46,46]).1<0\/XO (if (Lib.cut w [46,46]).2.2=true then (Lib.cut w [46,46]).2.1 else (Lib.cut w [46,46]).1)<XO (Lib.cut w [46,46]).1 then none
 else some ((XO (Lib.cut w [46,46]).1).toNat,(XO (if (Lib.cut w [46,46]).2.2=true then (Lib.cut w [46,46]).2.1 else (Lib.cut w [46,46]).1)).toNat)
def Jb:List Bool->Nat->Nat->List Bool
 |m,_,0=>m
 |m,d,n+1=>Jb (m.set (d+1) true) (d+1) n
theorem Zhe:∀(n d:Nat) (m:List Bool),(Jb m d n).length=m.length
 |0,d,m=>rfl
 |n+1,d,m=>by rw [Jb,Zhe n];simp
def Qc:List Str->List Bool->Option (List Bool)
 |[],m=>some m
 |w::t,m=>match Xa w with
  |none=>none
  |some (f,l)=>Qc t (Jb m f (l+1-f))
theorem Zdl:∀(l:List Str) (m r:List Bool),Qc l m=some r->r.length=m.length
 |[],m,r,h=>by simp [Qc] at h;subst h;rfl
 |w::t,m,r,h=>by
  rw [Qc] at h;cases hd:Xa w with
  |none=>rw [hd] at h;simp at h
  |some p=>
   rw [hd] at h;simp only at h;rw [Zdl t _ r h,Zhe]
theorem Zcy:∀(l:List Str) (x:Str) (m:List Bool),Qc (l++[x]) m=match Qc l m with
  |none=>none
  |some r=>match Xa x with
   |none=>none
   |some (f,k)=>some (Jb r f (k+1-f))
 |[],x,m=>by
  simp only [List.nil_append,Qc]
 |w::t,x,m=>by
  rw [List.cons_append,Qc,Qc];cases Xa w with
  |none=>rfl
  |some p=>exact Zcy t x _
theorem ZfS:∀(l k:List Str) (m:List Bool),Qc l m=none->Qc (l++k) m=none
 |[],k,m,h=>by simp [Qc] at h
 |w::t,k,m,h=>by
  rw [List.cons_append,Qc];rw [Qc] at h;cases hd:Xa w with
  |none=>rfl
  |some p=>
   rw [hd] at h;exact ZfS t k _ h
def Zci:List Bool:=List.replicate 8 false
def Zoq(m:List Bool):List Int:=((List.range 8).filter fun i=>m.getD i false).map fun (i:Nat)=>(i:Int)
def Qv(s:Str):Option (List Int):=(Qc (ZF 44 s) Zci).map Zoq
def XQ(m:List Bool)(k:Nat):List Int:=((List.range k).filter fun i=>m.getD i false).map fun (i:Nat)=>(i:Int)
theorem Zj2(m:List Bool)(k:Nat):XQ m (k+1)=if m.getD k false=true then XQ m k++[(k:Int)] else XQ m k:=by
 unfold XQ;rw [List.range_succ,List.filter_append,List.map_append];by_cases h:m.getD k false=true
 ·rw [if_pos h];simp [List.getD_eq_getElem?_getD] at h⊢;simp [h]
 ·rw [if_neg h];simp [List.getD_eq_getElem?_getD] at h⊢;simp [h]
theorem Zfh(m:List Bool)(k:Nat):(XQ m k).length<=k:=by
 unfold XQ;rw [List.length_map];exact Nat.le_trans (List.length_filter_le _ _) s_
end Go.Proofs.YtmgmbeipbeknaaaGreatDoor
