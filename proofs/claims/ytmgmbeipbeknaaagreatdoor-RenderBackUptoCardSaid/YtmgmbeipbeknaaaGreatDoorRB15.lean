import Derived.Lib.Bytealg
import Derived.Lib.SplitLaws
import Derived.Shelf.Abstract
import Derived.Shelf.RegionOpen
import Derived.WalkKit
import Derived.OwnWalkIn
import Derived.TacticsInMore
import Derived.LoopNIn
import Derived.LoopIn
import Derived.Sort.LoopGhostIn
import Derived.Lib.IndexMore
import Derived.Test.YtmgmbeipbeknaaaGreatDoorRB1
import Derived.Test.YtmgmbeipbeknaaaGreatDoorRB2
import Derived.Test.YtmgmbeipbeknaaaGreatDoorRB5
import Derived.Test.YtmgmbeipbeknaaaGreatDoorRB8
import Derived.Test.YtmgmbeipbeknaaaGreatDoorRB9
namespace Go.Proofs.YtmgmbeipbeknaaaGreatDoor
open Go
set_option linter.all false
set_option maxHeartbeats 16000000
def ZkH(x:UInt8):List Str->List Str
 |[]=>[[x]]
 |h::r=>(x::h)::r
def ZP(c:UInt8):Str->List Str
 |[]=>[[]]
 |x::t=>if x=c then []::ZP c t else ZkH x (ZP c t)
theorem ZjL(c:UInt8):∀s:Str,ZP c s≠[]
 |[]=>by simp [ZP]
 |x::t=>by
  unfold ZP;split
  ·simp
  ·unfold ZkH;split<;>simp
theorem Zep(c:UInt8):∀(a b:Str),(∀x∈a,x≠c)->ZP c (a++c::b)=a::ZP c b
 |[],b,_=>by simp [ZP]
 |x::t,b,h=>by
  rw [c12_,ZP,if_neg (h x s_),Zep c t b (fun y hy=>h y (by simp [hy]))];rfl
theorem Zeq(c:UInt8):∀(a:Str),(∀x∈a,x≠c)->ZP c a=[a]
 |[],_=>rfl
 |x::t,h=>by
  rw [ZP,if_neg (h x s_),Zeq c t (fun y hy=>h y (by simp [hy]))];rfl
theorem Zho(c:UInt8):∀s:Str,(Lib.indexByte s c = -1/\∀x∈s,x≠c)\/∃(i:Nat) (a b:Str),Lib.indexByte s c=i/\s=a++c::b/\a.length=i/\∀x∈a,x≠c
 |[]=>.inl ⟨rfl,s_⟩
 |x::t=>by
  by_cases hx:x=c
  ·subst hx
   exact .inr ⟨0,[],t,by simp [Lib.indexByte],rfl,rfl,s_⟩
  ·rcases Zho c t with ⟨h1,h2⟩|⟨i,a,b,h1,h2,h3,h4⟩
   ·exact .inl ⟨by simp [Lib.indexByte,hx,h1],by
     intro y hy;rcases List.mem_cons.1 hy with rfl|hy
     ·exact hx
     ·exact h2 y hy⟩
   ·refine .inr ⟨i+1,x::a,b,?_,by rw [h2];rfl,by simp [h3],?_⟩
    ·have hne:¬((i:Int) = -1):=o_
     simp [Lib.indexByte,hx,h1,hne]
    ·intro y hy
     rcases List.mem_cons.1 hy with rfl|hy
     ·exact hx
     ·exact h4 y hy
theorem Q8(c:UInt8):∀(s:Str) x,x∈ZP c s->x.length<=s.length
 |[],x,h=>by simp [ZP] at h;subst h;simp
 |y::t,x,h=>by
  unfold ZP at h;split at h
  ·rcases List.mem_cons.1 h with rfl|h
   ·simp
   ·have:=Q8 c t x h;simp;omega
  ·have ih:=Q8 c t
   cases hs:ZP c t with
   |nil=>exact absurd hs (ZjL c t)
   |cons a r=>
    rw [hs] at h ih;simp only [ZkH] at h;rcases List.mem_cons.1 h with rfl|h
    ·have:=ih a s_;simp;omega
    ·have:=ih x (by simp [h]);simp;omega
theorem JO(c:UInt8):∀(s:Str),(ZP c s).length<=s.length+1
 |[]=>by simp [ZP]
 |y::t=>by
  have ih:=JO c t;unfold ZP;split
  ·simp;omega
  ·cases hs:ZP c t with
   |nil=>exact absurd hs (ZjL c t)
   |cons a r=>rw [hs] at ih;simp [ZkH] at ih⊢;omega
open Go.Proofs.Tryz
open Go Go.RowKit Go.Shelf
set_option maxRecDepth 100000
attribute [local go_sem] Oper.semAt_some
def KpB(b:Nat)(W W':World):Prop:=W.heap.size<=W'.heap.size/\∀k,k=b\/k=b+1\/k=b+2->W'.heap[k]?=W.heap[k]?
theorem KpB.trans{b:Nat}{A B C:World}(h:KpB b A B)(k:KpB b B C):KpB b A C:=⟨Nat.le_trans h.1 k.1,fun i hi=>(k.2 i hi).trans (h.2 i hi)⟩
theorem KpB.of_below{b:Nat}{A B:World}(h:Below A.heap.size A B)(hb:b+2<A.heap.size):KpB b A B:=⟨h.size,fun i hi=>h.block i o_⟩
structure Place(W:World)(b:Nat)(c:UInt8)(r:Str):Prop where
 s:W.heap[b]?=some (.cells #[.string ⟨r.toArray⟩] 9 (0,0))
 sep:W.heap[b+1]?=some (.cells #[.string ⟨#[c]⟩] 9 (0,0))
 save:W.heap[b+2]?=some (.cells #[.int .i64 0] 3 (0,0))
theorem Place.kept{W W':World}{b:Nat}{c:UInt8}{r:Str}(h:Place W b c r)(k:KpB b W W'):Place W' b c r:=
 ⟨(k.2 b (.inl rfl)).trans h.s,(k.2 (b+1) (.inr (.inl rfl))).trans h.sep,(k.2 (b+2) (.inr (.inr rfl))).trans h.save⟩
theorem Place.moved{W:World}{b:Nat}{c:UInt8}{r r':Str}(h:Place W b c r):Place (W.setCell ⟨b,0,none⟩ (.string ⟨r'.toArray⟩)) b c r' :=
 ⟨by have:=heap_setCell h.s 0 (.string ⟨r'.toArray⟩);exact this,ZC h.sep (a:=⟨b,0,none⟩) (by show b+1≠b;omega) _,ZC h.save (a:=⟨b,0,none⟩) (by show b+2≠b;omega) _⟩
theorem ZrG(s:Str)(k n:Nat)(hn:n=s.length):(⟨s.toArray⟩:ByteArray).extract k n=⟨(s.drop k).toArray⟩:=by
 subst hn;apply ByteArray.ext;apply Array.ext'
 have:=Lib.extract_to_end (⟨s.toArray⟩:ByteArray) k
 simpa [ByteArray.size] using this
theorem ZtP(s:Str)(k:Nat):(⟨s.toArray⟩:ByteArray).extract 0 k=⟨(s.take k).toArray⟩:=by
 apply ByteArray.ext;apply Array.ext';rw [Lib.extract_data];simp
theorem Zi8(n l b:Nat)(hn1:1<=n)(c:UInt8)(xs:List Str)(J Jx:List Str->World->Prop)(s:Str)(W:World)(hp:Place W b c s)(hs:s.length<=1000000000)(hxs:ZP c s=xs)(hJ:ZvE b J)
  (hY:∀pre x post W1,xs=pre++x::post->J pre W1->YieldAt Fence.wide (n-1) prog l #[.string ⟨x.toArray⟩] W1 fun e W' =>
   (e=.returned (.bool true)/\J (pre++[x]) W'/\KpB b W1 W')\/(e=.returned (.bool false)/\Jx (pre++[x]) W')) (h0:J [] W) :
  CallsIn Fence.wide n prog 355 #[.func (.yield l) #[] #[],.pointer (some ⟨b+1,0,none⟩),.pointer (some ⟨b,0,none⟩),.pointer (some ⟨b+2,0,none⟩)] W fun e W'=>(∃v,e=.returned v)/\(J xs W'\/∃pre,Jx pre W'):=by
 have HP:=h_ hp;have HXS:=h_ hxs;have HJ:=h_ hJ;have HY:=h_ hY;have H0:=h_ h0;have e1:=(rd hp.sep).1 0;simp only [c1_,c2_] at e1;clear hp hxs hJ hY h0;have hF:Fence.wide.fn 158:=trivial;refine callsIn_of_wp func355 rfl trivial ?_ rfl;simp only [ntmps355,List.size_toArray,c14_,List.length_nil,Nat.reduceAdd,Nat.reduceSub,Array.replicate_succ,Array.replicate_zero,List.push_toArray,List.append_toArray,List.nil_append,c12_]
 gi_wp2
 gi_loopg [] (s.length+1) (fun f wr=>∃(done:List Str) (r:Str),r.length<f/\r.length<=s.length/\Hid (Place wr b c r)/\Hid (done++ZP c r=xs)/\Hid (J done wr))
 case atStart=>exact ⟨[],s,o_,o_,HP,HXS,H0⟩
 case round=>
  obtain ⟨done,r,hf,hrl,HPr,HD,HJr⟩:=hrel;obtain ⟨c0,f0,s0,l0⟩:=rd HPr.out.s;obtain ⟨c1,f1,s1,l1⟩:=rd HPr.out.sep;obtain ⟨c2,f2,s2,l2⟩:=rd HPr.out.save;have d0:=c0 0;have d1:=c1 0;have d2:=c2 0;have g0:=f0 0;simp only [c1_,c2_] at d0 d1 d2;clear c0 c1 c2 f0 f1 f2 s0 s1 s2 e1;rcases Zho c r with ⟨h1,h2⟩|⟨i,a,t,h1,h2,h3,h4⟩
  ·have hx:xs=done++r::[]:=by rw [<-HD.out,Zeq c r h2]
   have HX:=h_ hx;have HI:=h_ (fun V=>Tryz.strings_Index_one ⟨r.toArray⟩ c V);change Hid (∀V,Calls _ _ _ V fun e w'=>e=.returned (.int .i64 (Lib.indexByte r c))/\_) at HI;rw [h1] at HI;obtain ⟨fn,tmps,assign,body,hy,hR⟩:=HY.out done r [] wr hx HJr.out;have HRR:=h_ hR;clear hx hR h1 h2 HY
   gi_wp2_with (gi_at_call 158;refine (callsIn_wide.2 (HI.out _)).mono ?_;rintro e w' ⟨rfl,rfl⟩)
   refine HRR.out.mono ?_;rintro e W3 (⟨rfl,hJ3,hk3⟩|⟨rfl,hJx3⟩)
   ·have HJ3:=h_ (show J xs W3 from by rw [HX.out];exact hJ3)
    clear hJ3 hk3 HX
    gi_wp2
    refine ⟨rfl,_,results_none rfl _ _ _,?_⟩;exact ⟨⟨_,rfl⟩,.inl HJ3.out⟩
   ·have HJ3:=h_ hJx3
    clear hJx3
    gi_wp2
    refine ⟨rfl,_,results_none rfl _ _ _,?_⟩;exact ⟨⟨_,rfl⟩,.inr ⟨_,HJ3.out⟩⟩
  ·have hx:xs=done++a::ZP c t:=by rw [<-HD.out,h2,Zep c a t h4]
   have HX:=h_ (show (done++[a])++ZP c t=xs from by rw [hx];simp);have HI:=h_ (fun V=>Tryz.strings_Index_one ⟨r.toArray⟩ c V);change Hid (∀V,Calls _ _ _ V fun e w'=>e=.returned (.int .i64 (Lib.indexByte r c))/\_) at HI;rw [h1] at HI;have hil:i+1<=r.length:=by rw [h2,<-h3];simp
   have hrs:(⟨r.toArray⟩:ByteArray).size=r.length:=n17_;have ea:(⟨r.toArray⟩:ByteArray).extract 0 i=⟨a.toArray⟩:=by rw [ZtP,h2,<-h3];simp
   have et:(⟨r.toArray⟩:ByteArray).extract (i+1) (⟨r.toArray⟩:ByteArray).size=⟨t.toArray⟩:=by
    rw [hrs,ZrG r (i+1) r.length rfl,h2,<-h3];simp
   have htl:t.length+(i+1)=r.length:=by rw [h2,<-h3];simp;omega
   have HEA:=h_ ea;have HET:=h_ et;obtain ⟨fn,tmps,assign,body,hy,hR⟩:=HY.out done a (ZP c t) wr hx HJr.out;rw [<-ea] at hy;have HRR:=h_ hR;have iz0:¬((i:Int)<0):=o_;have iz1:(i:Int)<=((⟨r.toArray⟩:ByteArray).size:Int):=by rw [hrs];omega
   have iz2:(i:Int)+1<=((⟨r.toArray⟩:ByteArray).size:Int):=by rw [hrs];omega
   have iz3:i<=1000000000:=o_;have HTL:=h_ htl;clear hx hR h1 h2 h3 h4 ea et HD htl hrs hil;have hP1:∀V,KpB b wr V->Place V b c r:=fun V hk=>HPr.out.kept hk
   have HP1:=h_ hP1;clear hP1 HPr;generalize hRd:(⟨r.toArray⟩:ByteArray)=R at *;have HRd:=h_ hRd;clear hRd
   gi_wp2_with (gi_at_call 158;refine (callsIn_wide.2 (HI.out _)).mono ?_;rintro e w' ⟨rfl,rfl⟩)
   refine HRR.out.mono ?_;rintro e W3 (⟨rfl,hJ3,hk3⟩|⟨rfl,hJx3⟩)
   ·have hP3:=HP1.out _ hk3
    have HJ4:=h_ (HJ.out _ _ _ hJ3 (grownBy_setCell' W3 b (.string ⟨t.toArray⟩)));have HP4:=h_ (hP3.moved (r':=t));obtain ⟨c0,f0,s0,l0'⟩:=rd hP3.s;obtain ⟨c1,f1,s1,l1'⟩:=rd hP3.sep;have q0:=c0 0;have q1:=c1 0;have p0:=f0 0;simp only [c1_,c2_] at q0 q1;rw [HRd.out] at q0;clear c0 c1 f0 f1 s0 s1 hJ3 hk3 hP3 l0 l1 l2 HJr HP1 hy d0 d1 d2 g0 HI
    gi_wp2
    gi_roundg (r.length-i)
    case measure=>omega
    case rel=>exact ⟨done++[a],t,by have:=HTL.out;omega,by have:=HTL.out;omega,by rw [<-HET.out] at HP4;exact HP4,HX,by rw [<-HET.out] at HJ4;exact HJ4⟩
   ·have HJ3:=h_ hJx3
    clear hJx3
    gi_wp2
    refine bodyPost_ret (results_none rfl _ _ _) rfl ?_;exact ⟨⟨_,rfl⟩,.inr ⟨_,HJ3.out⟩⟩
theorem Zgy(n b:Nat)(hn1:1<=n)(c:UInt8)(s:Str)(w:World)(hp:Place w b c s)(hs:s.length<=1000000000) :
  Zsg n prog 355 #[.pointer (some ⟨b+1,0,none⟩),.pointer (some ⟨b,0,none⟩),.pointer (some ⟨b+2,0,none⟩)] (fun x:Str=>.string ⟨x.toArray⟩) b (KpB b) (ZP c s) w:=
 fun l J Jx W hW hJ hY h0=>Zi8 n l b hn1 c _ J Jx s W (hp.kept hW) hs rfl hJ hY h0
theorem Zea:∀args w,(callFunc 355 args).run prog w=.ok (.enter 355 args) w:=enters_of func355 k_ rfl
def Xx(w:World)(c:UInt8)(s:Str):World:=((w.alloc (.cells #[.string ⟨s.toArray⟩] 9)).alloc (.cells #[.string ⟨#[c]⟩] 9)).alloc (.cells #[.int .i64 0] 3)
theorem ZeY(c:UInt8)(s:Str)(w:World):Calls prog 321 #[.string ⟨s.toArray⟩,.string ⟨#[c]⟩] w fun e w' =>
  e=.returned (.func (.func 355) #[] #[.pointer (some ⟨w.heap.size+1,0,none⟩),.pointer (some ⟨w.heap.size,0,none⟩),.pointer (some ⟨w.heap.size+2,0,none⟩)])/\w'=Xx w c s:=by
 have H:Calls prog 340 #[.string ⟨s.toArray⟩,.string ⟨#[c]⟩,.int .i64 0] w fun e w' =>
  e=.returned (.func (.func 355) #[] #[.pointer (some ⟨w.heap.size+1,0,none⟩),.pointer (some ⟨w.heap.size,0,none⟩),.pointer (some ⟨w.heap.size+2,0,none⟩)])/\w'=Xx w c s:=by
  go_enter func340,ntmps340;go_wp2;go_ret;exact ⟨rfl,rfl⟩
 have HH:=h_ H;clear H;go_enter func321,ntmps321;go_wp2_with fail;refine HH.out.mono ?_;rintro e w1 ⟨rfl,rfl⟩;go_wp2;go_ret;exact ⟨rfl,rfl⟩
theorem ZeQ(w:World)(c:UInt8)(s:Str):Place (Xx w c s) w.heap.size c s/\Below w.heap.size w (Xx w c s)/\(Xx w c s).heap.size=w.heap.size+3:=by
 have z1:(w.alloc (.cells #[.string ⟨s.toArray⟩] 9)).heap.size=w.heap.size+1:=s_;have z2:((w.alloc (.cells #[.string ⟨s.toArray⟩] 9)).alloc (.cells #[.string ⟨#[c]⟩] 9)).heap.size=w.heap.size+2:=s_;refine ⟨⟨heap_alloc (heap_alloc (heap_alloc_new w _) _) _,?_,?_⟩,((b_.alloc l_ _).alloc s_ _).alloc n6_ _,by simp [Xx]⟩
 ·rw [<-z1];exact heap_alloc (heap_alloc_new _ _) _
 ·rw [<-z2];exact heap_alloc_new _ _
structure YO where
 from_:Int
 to_:Int
 step:Int
deriving DecidableEq
def Jk(s:Str):Int×Bool:=if JC s 4 isDigit=true then ((Zem s:Nat),true) else (0,false)
def Zd6(b:Str)(st:Int):Option YO:=
 if b=[42] then some ⟨-1,-1,st⟩
 else if (Jk (Lib.cut b [46,46]).1).2=false then none
 else if (Lib.cut b [46,46]).2.2=true then (if (Jk (Lib.cut b [46,46]).2.1).2=true then some ⟨(Jk (Lib.cut b [46,46]).1).1,(Jk (Lib.cut b [46,46]).2.1).1,st⟩ else none)
 else some ⟨(Jk (Lib.cut b [46,46]).1).1,-1,st⟩
def YM(s:Str):Option YO:=
 if (Lib.cut s [47]).2.2=true then
  (if (Jk (Lib.cut s [47]).2.1).2=false\/(Jk (Lib.cut s [47]).2.1).1=0 then none else Zd6 (Lib.cut s [47]).1 (Jk (Lib.cut s [47]).2.1).1)
 else Zd6 (Lib.cut s [47]).1 0
def XF:List Str->Option (List YO)
 |[]=>some []
 |x::t=>match YM x with
  |none=>none
  |some p=>(XF t).map fun r=>p::r
def Ze8(s:Str):Option (List YO):=XF (ZP 44 s)
abbrev Zmn:List Str:=[[77,111,110],[84,117,101],[87,101,100],[84,104,117],[70,114,105],[83,97,116],[83,117,110]]
def Zcu:List Str->Str->Nat->Int
 |[],_,_=>-1
 |d::r,s,i=>if d=s then (i:Int) else Zcu r s (i+1)
def QM(s:Str):Int:=Zcu Zmn s 0
theorem Zd9:∀(l:List Str) (s:Str) (i:Nat),Zcu l s i = -1\/∃n:Nat,Zcu l s i=n/\n<i+l.length
 |[],s,i=>.inl rfl
 |d::r,s,i=>by
  unfold Zcu;split
  ·exact .inr ⟨i,rfl,s_⟩
  ·rcases Zd9 r s (i+1) with h|⟨n,h1,h2⟩
   ·exact .inl h
   ·exact .inr ⟨n,h1,n6_⟩
theorem Zbd(s:Str):QM s = -1\/∃n:Nat,QM s=n/\n<7:=by
 rcases Zd9 Zmn s 0 with h|⟨n,h1,h2⟩
 ·exact .inl h
 ·exact .inr ⟨n,h1,n64_⟩
def XW(w:Str):Option (Nat×Nat):=
 if QM (Lib.cut w [46,46]).1<0\/QM (if (Lib.cut w [46,46]).2.2=true then (Lib.cut w [46,46]).2.1 else (Lib.cut w [46,46]).1)<QM (Lib.cut w [46,46]).1 then none
 else some ((QM (Lib.cut w [46,46]).1).toNat,(QM (if (Lib.cut w [46,46]).2.2=true then (Lib.cut w [46,46]).2.1 else (Lib.cut w [46,46]).1)).toNat)
def Zat:List Bool->Nat->Nat->List Bool
 |m,_,0=>m
 |m,d,n+1=>Zat (m.set (d+1) true) (d+1) n
theorem ZjG:∀(n d:Nat) (m:List Bool),(Zat m d n).length=m.length
 |0,d,m=>rfl
 |n+1,d,m=>by rw [Zat,ZjG n];simp
def Jg:List Str->List Bool->Option (List Bool)
 |[],m=>some m
 |w::t,m=>match XW w with
  |none=>none
  |some (f,l)=>Jg t (Zat m f (l+1-f))
theorem ZfX:∀(l:List Str) (m r:List Bool),Jg l m=some r->r.length=m.length
 |[],m,r,h=>by simp [Jg] at h;subst h;rfl
 |w::t,m,r,h=>by
  rw [Jg] at h;cases hd:XW w with
  |none=>rw [hd] at h;simp at h
  |some p=>
   rw [hd] at h;simp only at h;rw [ZfX t _ r h,ZjG]
theorem Zey:∀(l:List Str) (x:Str) (m:List Bool),Jg (l++[x]) m=match Jg l m with
  |none=>none
  |some r=>match XW x with
   |none=>none
   |some (f,k)=>some (Zat r f (k+1-f))
 |[],x,m=>by
  simp only [List.nil_append,Jg]
 |w::t,x,m=>by
  rw [c12_,Jg,Jg];cases XW w with
  |none=>rfl
  |some p=>exact Zey t x _
theorem Zia:∀(l k:List Str) (m:List Bool),Jg l m=none->Jg (l++k) m=none
 |[],k,m,h=>by simp [Jg] at h
 |w::t,k,m,h=>by
  rw [c12_,Jg];rw [Jg] at h;cases hd:XW w with
  |none=>rfl
  |some p=>
   rw [hd] at h;exact Zia t k _ h
def ZeI:List Bool:=List.replicate 8 false
def ZsU(m:List Bool):List Int:=((List.range 8).filter fun i=>m.getD i false).map fun (i:Nat)=>(i:Int)
def Jm(s:Str):Option (List Int):=(Jg (ZP 44 s) ZeI).map ZsU
def QT(m:List Bool)(k:Nat):List Int:=((List.range k).filter fun i=>m.getD i false).map fun (i:Nat)=>(i:Int)
theorem Zl7(m:List Bool)(k:Nat):QT m (k+1)=if m.getD k false=true then QT m k++[(k:Int)] else QT m k:=by
 unfold QT;rw [List.range_succ,List.filter_append,List.map_append];by_cases h:m.getD k false=true
 ·rw [if_pos h];simp [List.getD_eq_getElem?_getD] at h⊢;simp [h]
 ·rw [if_neg h];simp [List.getD_eq_getElem?_getD] at h⊢;simp [h]
theorem Zix(m:List Bool)(k:Nat):(QT m k).length<=k:=by
 unfold QT;rw [List.length_map];exact Nat.le_trans (List.length_filter_le _ _) s_
end Go.Proofs.YtmgmbeipbeknaaaGreatDoor
