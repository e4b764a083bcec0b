import Derived.Lib.AppendIntMem
import Derived.Lib.ItoaLen
import Derived.Test.YtmgmbeipbeknaaaGreatDoorRB2
import Derived.Test.YtmgmbeipbeknaaaGreatDoorRB3
import Derived.Test.YtmgmbeipbeknaaaGreatDoorRB5
import Derived.Test.YtmgmbeipbeknaaaGreatDoorRB6
import Derived.Test.YtmgmbeipbeknaaaGreatDoorRB11
import Derived.Test.YtmgmbeipbeknaaaGreatDoorRB30
import Derived.Test.YtmgmbeipbeknaaaGreatDoorRB33
import Derived.Test.YtmgmbeipbeknaaaGreatDoorRB35
namespace Go.Proofs.YtmgmbeipbeknaaaGreatDoor
open Go.Proofs.Tryz
open Go Go.RowKit
set_option linter.all false
set_option maxHeartbeats 16000000
set_option maxRecDepth 100000
theorem m93_{p:Prop}(h:p:=by
  rw [<-hm] at HB3 HZ;clear hm;have HF3:=h_ (show FrB R B 53 w w3 from HFR.out.mono fun i _ e=>.inl e);have HOW3:=h_ (Z4 HOWN.out HFR.out (fun g hg _ e=>Yw HOWN.out HB.out d_ (by rw [hg,e])));refine Zk (S:=fun V=>V.heap[R]?=some (.cells (us++fs++#[Value.int .i64 m,Value.slice la N lc]:Array Value) 78 (0,0))) 16 k_ k_ HB3.out (fun hHeld=>?_);refine u_ ?_;refine dT_ (i:=0) (v:=.pointer (some ⟨R,0,none⟩)) (gT_ rfl) (fun W hW=>by obtain ⟨q0,q1⟩:=HQ.out m W hW;clear hW;go_simp) (u_ ?_);refine dT_ (i:=1) (v:=.pointer (some ⟨R,0,none⟩)) (gT_ rfl) (fun W hW=>by obtain ⟨q0,q1⟩:=HQ.out m W hW;clear hW;go_simp) (u_ ?_);refine dT_ (i:=2) (v:=.pointer (some ⟨R,0,none⟩)) (gT_ rfl) (fun W hW=>by obtain ⟨q0,q1⟩:=HQ.out m W hW;clear hW;go_simp) (u_ ?_);refine dT_ (i:=3) (v:=.pointer (some ⟨R,71,none⟩)) (gT_ rfl) (fun W hW=>by obtain ⟨q0,q1⟩:=HQ.out m W hW;clear hW;go_simp) (u_ ?_);refine dT_ (i:=4) (v:=.slice la N lc) (gT_ rfl) (fun W hW=>by obtain ⟨q0,q1⟩:=HQ.out m W hW;clear hW;go_simp) (u_ ?_);refine dT_ (i:=5) (v:=.string ⟨sec.toArray⟩) (gT_ rfl) (fun W hW=>by obtain ⟨q0,q1⟩:=HQ.out m W hW;clear hW;go_simp) (u_ ?_);refine dT_ (i:=6) (v:=.string ⟨key.toArray⟩) (gT_ rfl) (fun W hW=>by obtain ⟨q0,q1⟩:=HQ.out m W hW;clear hW;go_simp) (u_ ?_);refine dT_ (i:=7) (v:=.string ⟨val.toArray⟩) (gT_ rfl) (fun W hW=>by obtain ⟨q0,q1⟩:=HQ.out m W hW;clear hW;go_simp) (u_ ?_);refine dT_ (i:=9) (v:=.pointer (some ⟨R,0,none⟩)) (gT_ rfl) (fun W hW=>by obtain ⟨q0,q1⟩:=HQ.out m W hW;clear hW;go_simp) (u_ ?_);refine dT_ (i:=10) (v:=.pointer (some ⟨R,0,none⟩)) (gT_ rfl) (fun W hW=>by obtain ⟨q0,q1⟩:=HQ.out m W hW;clear hW;go_simp) (u_ ?_);refine dT_ (i:=11) (v:=.pointer (some ⟨R,70,none⟩)) (gT_ rfl) (fun W hW=>by obtain ⟨q0,q1⟩:=HQ.out m W hW;clear hW;go_simp) (u_ ?_);refine dT_ (i:=12) (v:=.int .i64 m) (gT_ rfl) (fun W hW=>by obtain ⟨q0,q1⟩:=HQ.out m W hW;clear hW;go_simp) (u_ ?_);refine Zu (i:=8) (gT_ rfl) k_ k_ (fun K hK=>?_);clear hHeld;rw [if_pos n18_];go_simp;have HB03:=h_ (show Below w0.heap.size w0 w3.drew by
   have h1:Below w0.heap.size w0 w:=by rw [<-HR0.out];exact HBE.out
   have h2:Below w0.heap.size w w3:=n34_;exact (h1.trans h2).trans (Ze ⟨1,rfl⟩))
  obtain ⟨mx,hmx⟩:=(HM.out.below HB03.out);refine (Tryz.strings_ReplaceAll ⟨val.toArray⟩ ⟨#[37]⟩ ⟨#[37,37]⟩ mx w3.drew (ZdO hv).1 hmx d_ (ZdO hv).2).mono ?_;rintro e w4 ⟨rfl,hb4⟩;rw [ZkW];have HB4:=h_ (show Below w3.heap.size w3 w4 from (show Below w3.heap.size w3 w3.drew from Ze ⟨1,rfl⟩).trans hb4);clear hb4;refine hK.out _ _ (Za HB3.out HB4.out) (fun hHeld=>?_);clear hK K;refine u_ ?_;refine dT_ (i:=13) (v:=.agg #[.string ⟨sec.toArray⟩,.string ⟨key.toArray⟩,.string ⟨(Yk val).toArray⟩,.int .i64 m]) (gT_ rfl) (fun W hW=>by obtain ⟨q0,q1⟩:=HQ.out m W hW;clear hW;go_simp) (u_ ?_);refine Zu (i:=14) (gT_ rfl) k_ k_ (fun K hK=>?_);clear hHeld;rw [if_pos n18_];go_simp;have HB5:=h_ (show Below w3.heap.size w3 (w4.alloc (.cells (ZU ⟨sec,key,Yk val,m⟩).toArray 53)) from HB4.out.trans (((Below.refl w4.heap.size w4).alloc l_ _).mono HB4.out.size));have HBL:=h_ (ZG.of_own (enc:=ZU) (k:=4) (l:=[⟨sec,key,Yk val,m⟩]) (oa:=some ⟨w4.heap.size,0,none⟩) (cap:=1) (fun _=>rfl) (ZcY w4 ⟨sec,key,Yk val,m⟩));refine hK.out _ _ (Za HB3.out HB5.out) (fun hHeld=>?_);clear hK K;refine u_ ?_;refine Zu (i:=15) (gT_ rfl) k_ k_ (fun K hK=>?_);clear hHeld;refine XO n18_ (.tmp 50) (.tmp 60) 33 n18_ B 53 i0 (.agg #[.string ⟨#[]⟩,.string ⟨#[]⟩,.string ⟨#[]⟩,.int .i64 0]) 4 56 underlying33 hi0 hz0 hz1 hz2 n18_ d_ (.slice la N lc) N (Zx ZU (Xt none l 0)) n18_ (Zo HOW3.out HB5.out) (some ⟨w4.heap.size,0,none⟩) 1 1 (Zx ZU [⟨sec,key,Yk val,m⟩]) n18_
   rfl (ZG.flat (enc:=ZU) (k:=4) (fun _=>rfl) o_ HBL.out) (Y1 ZdP _) (Zkn n47_) (ZfZ n47_) (Nat.le_trans (Nat.le_trans HBW.out HF3.out.size) HB5.out.size) ?_
  intro v1 w7 hown1 hgrow1;obtain ⟨la2,lc2,rfl⟩:=ownsRow_form hown1;have HB7:=h_ (show w7.heap[R]?=some (.cells (us++fs++#[.int .i64 m,.slice la N lc]) 78 (0,0)) from by
   rw [hgrow1.block R (Zd (Za HB3.out HB5.out)) (Yw (Zo HOW3.out HB5.out) (Za HB3.out HB5.out) d_)];exact Za HB3.out HB5.out)
  have HF7:=h_ (FrB.grown (FrB.trans HF3.out (show FrB R B 53 w3 _ from Fr.of_below HB5.out _)) hgrow1 (X7 (Zo HOW3.out HB5.out)));have HOW7:=h_ hown1;clear hown1 hgrow1;refine hK.out _ _ HB7.out (fun hHeld=>?_);clear hK K;refine u_ ?_;refine ZF k_ ?_;clear hHeld;have hgb:=rd HB7.out;have s3:=(HQ.out m w7 HB7.out).2;have s4:=hgb.2.1 71;have s5:=hgb.2.2.1;clear hgb d70 d71 f70 s;go_wp2_with fail;go_end0;have hset:=heap_setCell HB7.out 71 (.slice la2 (N+1) lc2);rw [(HCA.out _ _ _).2] at hset;have hf8:=HF7.out.setCell 71 (.slice la2 (N+1) lc2);have hlen:(l++[Zby sec key val]).length=N+1:=n65_;refine ⟨rfl,⟨⟨HR0.out,HBE.out.trans (hf8.below R (Nat.le_of_lt HRB.out) l_ (Nat.le_of_lt HRW.out))⟩,HZ1.out,HZ2.out,HRB.out,Nat.le_trans HBW.out hf8.size,la2,lc2,?_,?_⟩,hf8⟩
  ·rw [HP.out.2,hlen,<-HZ.out]
   exact hset
  ·rw [HP.out.1,hlen,ZT,<-HZ.out]
   exact Z4 HOW7.out ((Fr.refl (fun k=>k=R) w7).setCell (p:=⟨R,71,none⟩) (fun _=>rfl) _) (fun g hg _ e=>Yw HOW7.out HB7.out d_ (by rw [hg,e]))):p:=h
theorem m94_{p:Prop}(h:p:=by rw [Array.setIfInBounds_append_right (by simp [h1,h2])];simp [h1,h2]):p:=h
theorem m95_{p:Prop}(h:p:=by
  rcases List.mem_cons.1 hd with rfl|hd
  ·exact hc
  ·exact h2 d hd):p:=h
theorem m96_{p:Prop}(h:p:=by rw [Array.getElem?_append_right (by simp [h1,h2])];simp [h1,h2]):p:=h
theorem m97_{p:Prop}(h:p:=by
  have HB3:=h_ (show ((w.setCell ⟨R,70,none⟩ (.int .i64 ((n:Int)+(1+min (N:Int) 1)))).setCell ⟨R,70,none⟩ (.int .i64 ((n:Int)+(1+min (N:Int) 1)+1))).heap[R]?=some (.cells (us++fs++#[.int .i64 ((n:Int)+(1+min (N:Int) 1)+1),.slice la N lc]) 78 (0,0)) by
   have a:=heap_setCell HB.out 70 (.int .i64 ((n:Int)+(1+min (N:Int) 1)));rw [(HCA.out _ _ _).1] at a;have b:=heap_setCell a 70 (.int .i64 ((n:Int)+(1+min (N:Int) 1)+1));rw [(HCA.out _ _ _).1] at b;exact b)
  have HFR:=h_ (((Fr.refl (fun k=>k=R) w).setCell (p:=⟨R,70,none⟩) (fun _=>rfl) (.int .i64 ((n:Int)+(1+min (N:Int) 1)))).setCell (p:=⟨R,70,none⟩) (fun _=>rfl) (.int .i64 ((n:Int)+(1+min (N:Int) 1)+1)));generalize (w.setCell ⟨R,70,none⟩ (.int .i64 ((n:Int)+(1+min (N:Int) 1)))).setCell ⟨R,70,none⟩ (.int .i64 ((n:Int)+(1+min (N:Int) 1)+1))=w3 at HB3 HFR⊢;obtain ⟨m,hm⟩:=e_ ((n:Int)+(1+min (N:Int) 1)+1);exact m93_):p:=h
def atN:Option Str->List Ln->Nat->Nat
 |_,[],n=>n
 |none,l::r,n=>atN (some l.sec) r (n+2)
 |some s,l::r,n=>if l.sec=s then atN (some l.sec) r (n+1) else atN (some l.sec) r (n+3)
theorem Zlv:∀(l:List Ln) (p:Option Str) (n:Nat) (x:Ln),∃q,q=(match l.getLast? with|some y=>some y.sec|none=>p)/\Xt p (l++[x]) n=Xt p l n++Xt q [x] (atN p l n)/\atN p (l++[x]) n=atN q [x] (atN p l n)
 |[],p,n,x=>⟨p,rfl,by cases p<;>rfl,by cases p<;>rfl⟩
 |y::r,p,n,x=>by
  have key:∀m,∃q,q=(match (y::r).getLast? with|some y=>some y.sec|none=>p)/\Xt (some y.sec) (r++[x]) m=Xt (some y.sec) r m++Xt q [x] (atN (some y.sec) r m)/\atN (some y.sec) (r++[x]) m=atN q [x] (atN (some y.sec) r m):=by
   intro m;obtain ⟨q,h1,h2,h3⟩:=Zlv r (some y.sec) m x;refine ⟨q,?_,h2,h3⟩;rw [h1];cases r with
   |nil=>rfl
   |cons a b=>simp only [List.getLast?_cons_cons];cases hh:(a::b).getLast? with
    |none=>simp at hh
    |some z=>rfl
  cases p with
  |none=>
   obtain ⟨q,h1,h2,h3⟩:=key (n+2);exact ⟨q,h1,by simp only [c12_,Xt,atN,h2],by simp only [c12_,atN,h3]⟩
  |some s=>
   by_cases hs:y.sec=s
   ·obtain ⟨q,h1,h2,h3⟩:=key (n+1)
    exact ⟨q,h1,by simp only [c12_,Xt,atN,if_pos hs,h2],by simp only [c12_,atN,if_pos hs,h3]⟩
   ·obtain ⟨q,h1,h2,h3⟩:=key (n+3)
    exact ⟨q,h1,by simp only [c12_,Xt,atN,if_neg hs,h2],by simp only [c12_,atN,if_neg hs,h3]⟩
theorem Zfu:∀(l:List Ln) (p:Option Str) (n:Nat),(Xt p l n).length=l.length
 |[],p,n=>by cases p<;>rfl
 |y::r,none,n=>by simp only [Xt,c14_,Zfu]
 |y::r,some s,n=>by
  unfold Xt;split
  ·rw [c14_,c14_,Zfu]
  ·rw [c14_,c14_,Zfu]
theorem ZpE:∀(l:List Ln) (p:Option Str) (n:Nat),atN p l n<=n+3*l.length
 |[],p,n=>by cases p<;>simp [atN]
 |y::r,none,n=>by have:=ZpE r (some y.sec) (n+2);simp only [atN,c14_];omega
 |y::r,some s,n=>by
  simp only [atN,c14_];split
  ·have:=ZpE r (some y.sec) (n+1);omega
  ·have:=ZpE r (some y.sec) (n+3);omega
def Zby(sec key val:Str):Ln:=⟨sec,key,Yk val,0⟩
def Zcd(l:List Ln)(sec:Str):Nat:=match l.getLast? with|none=>2|some y=>if sec=y.sec then 1 else 3
theorem Zuy(l:List Ln)(sec key val:Str):Xt none (l++[Zby sec key val]) 0=Xt none l 0++[⟨sec,key,Yk val,((atN none l 0+Zcd l sec:Nat):Int)⟩]/\atN none (l++[Zby sec key val]) 0=atN none l 0+Zcd l sec:=by
 obtain ⟨q,h1,h2,h3⟩:=Zlv l none 0 (Zby sec key val);rw [h2,h3];unfold Zcd;cases hl:l.getLast? with
 |none=>rw [hl] at h1;subst h1;exact ⟨rfl,rfl⟩
 |some y=>
  rw [hl] at h1;subst h1;simp only [Xt,atN,Zby];by_cases hs:sec=y.sec
  ·simp [hs]
  ·simp [hs]
theorem ZuC{l m:List Ln}(h:Xp l m):∀(i:Nat) (x:Ln),l[i]?=some x->∃y,m[i]?=some y/\y.sec=x.sec:=by
 induction h with
 |nil=>intro i x h;simp at h
 |cons hab ht ih=>
  intro i x hx;cases i with
  |zero=>simp at hx;subst hx;exact ⟨_,rfl,hab.1.symm⟩
  |succ i=>exact ih i x (by simpa using hx)
theorem step_nil(n N s:Nat)(hN:N=0)(hs:s=2):((n:Int)+(1+min (N:Int) 1)+1)=((n+s:Nat):Int):=by subst hN hs;omega
theorem Zs5(n N s:Nat)(hN:0<N)(hs:s=3):((n:Int)+(1+min (N:Int) 1)+1)=((n+s:Nat):Int):=by subst hs;omega
theorem Zsa(n s:Nat)(hs:s=1):((n:Int)+1)=((n+s:Nat):Int):=by subst hs;rfl
theorem Ztk(k N:Nat)(h:N<=100000000)(hk:k=N-1):wrap64 (k:Int)=(k:Int):=IntWalk.wrap64_in _ o_
theorem Zkn{N:Nat}(h:N<=100000000):N+1<=maxLen:=n23_
theorem ZfZ{N:Nat}(h:N<=100000000):(N+1)*56<=140737488355328:=o_
theorem ZdO{val:Str}(hv:val.length<=1000000000):(⟨val.toArray⟩:ByteArray).size<4294967281/\(⟨val.toArray⟩:ByteArray).size+Lib.countB ⟨val.toArray⟩ ⟨#[37]⟩*(⟨#[37,37]⟩:ByteArray).size<=140737488355328:=by
 have:=Lib.countB_mul_le (⟨#[37]⟩:ByteArray) d_ val.toArray.size ⟨val.toArray⟩ l_
 have e1:(⟨#[37]⟩:ByteArray).size=1:=rfl;have e2:(⟨#[37,37]⟩:ByteArray).size=2:=rfl;have e3:(⟨val.toArray⟩:ByteArray).size=val.length:=n17_;rw [e1,e3] at this;rw [e2,e3];omega
theorem ZuJ(k N:Nat)(h:0<N)(hk:k=N-1):((N:Int)-1)=(k:Int)/\(k:Int)<(N:Int):=o_
def Pow(w:World):Prop:=Lib.TabIs prog w "internal/strconv.uint64pow10" .u64 Lib.pow10Tab
theorem Zuz:(prog.info? 53).map (fun i=>(i.zero,i.size,i.bytes))=some (some (.agg #[.string ⟨#[]⟩,.string ⟨#[]⟩,.string ⟨#[]⟩,.int .i64 0]),4,56):=k_
theorem ZcY(w:World)(x:Ln):(w.alloc (.cells (ZU x).toArray 53)).ownsRow w.heap.size 53 4 (.slice (some ⟨w.heap.size,0,none⟩) 1 1) 1 (Zx ZU [x]):=
 ⟨rfl,.inr ⟨w.heap.size,1,(ZU x).toArray,rfl,l_,heap_alloc_new w _,l_,d_,rfl,rfl⟩⟩
def Xe(w0 w:World)(R B:Nat)(us fs:Array Value)(l:List Ln):Prop:=
 (R=w0.heap.size/\Below R w0 w)/\us.size=35/\fs.size=35/\R<B/\B<=w.heap.size/\∃la lc,w.heap[R]?=some (.cells (us++fs++#[.int .i64 (atN none l 0:Nat),.slice la l.length lc]) 78 (0,0))/\w.ownsRow B 53 4 (.slice la l.length lc) l.length (Zx ZU (Xt none l 0))
theorem ZgS{us fs:Array Value}(h1:us.size=35)(h2:fs.size=35)(a b:Value):(us++fs++#[a,b])[70]?=some a/\(us++fs++#[a,b])[71]?=some b:=by
 constructor
 ·exact m96_
 ·exact m96_
theorem Zvl{us fs:Array Value}(h1:us.size=35)(h2:fs.size=35)(a b c:Value):(us++fs++#[a,b]).setIfInBounds 70 c=us++fs++#[c,b]/\(us++fs++#[a,b]).setIfInBounds 71 c=us++fs++#[a,c]:=by
 constructor
 ·exact m94_
 ·exact m94_
theorem Zu6:∀s:Str,(Lib.index s [37] = -1/\∀c∈s,c≠37)\/∃a b,s=a++37::b/\(∀c∈a,c≠37)/\Lib.index s [37]=a.length
 |[]=>.inl ⟨rfl,s_⟩
 |c::t=>by
  by_cases hc:c=37
  ·subst hc
   exact .inr ⟨[],t,rfl,s_,by simp [Lib.index,List.isPrefixOf]⟩
  ·have hp:([37]:Str).isPrefixOf (c::t)=false:=by simp [List.isPrefixOf,Ne.symm hc]
   rcases Zu6 t with ⟨h1,h2⟩|⟨a,b,h1,h2,h3⟩
   ·refine .inl ⟨by rw [Lib.index,hp,h1];rfl,fun d hd=>?_⟩
    exact m95_
   ·refine .inr ⟨c::a,b,by rw [h1];rfl,fun d hd=>?_,?_⟩
    ·exact m95_
    ·have h4:(((a.length:Nat):Int)==-1)=false:=beq_false_of_ne o_
     rw [Lib.index,hp,h3,h4];simp
theorem ZmN:∀s:Str,(∀c∈s,c≠37)->Yk s=s
 |[],_=>rfl
 |c::t,h=>by rw [Yk,if_neg (h c s_),ZmN t fun d hd=>h d (by simp [hd])]
theorem ZpH:∀a b:Str,(∀c∈a,c≠37)->Yk (a++b)=a++Yk b
 |[],_,_=>rfl
 |c::t,b,h=>by rw [c12_,Yk,if_neg (h c s_),ZpH t b fun d hd=>h d (by simp [hd])];rfl
theorem ZgV:∀s:Str,(Yk s).length<=2*s.length
 |[]=>Nat.le_refl _
 |c::t=>by
  have:=ZgV t
  rw [Yk];split
  ·simp only [c14_];omega
  ·simp only [c14_];omega
theorem ZkW(s:Str):Lib.replaceAll s [37] [37,37]=Yk s:=by
 have h:∀(f:Nat) (s:Str),s.length<f->Lib.replaceK [37] [37,37] (Lib.countFrom [37] f s) s=Yk s:=by
  intro f;induction f with
  |zero=>intro s h;exact absurd h o_
  |succ f ih=>
   intro s hs;rcases Zu6 s with ⟨h1,h2⟩|⟨a,b,h1,h2,h3⟩
   ·rw [Lib.countFrom,h1]
    simp only [beq_self_eq_true,if_true];rw [Lib.replaceK,ZmN s h2]
   ·have hb:b.length<f:=by rw [h1] at hs;simp at hs;omega
    have e0:¬(Lib.index s [37]==-1)=true:=by rw [h3];simp
    have ed:s.drop ((Lib.index s [37]).toNat+([37]:Str).length)=b:=by
     rw [h3,h1];show List.drop (a.length+1) (a++37::b)=b;rw [<-List.drop_drop,List.drop_left];rfl
    have et:s.take (Lib.index s [37]).toNat=a:=by
     rw [h3,h1];exact List.take_left
    rw [Lib.countFrom,if_neg e0,ed,Nat.add_comm,Lib.replaceK,if_neg e0,ed,et,ih b hb]
    conv=>rhs;rw [h1,ZpH a _ h2,Yk,if_pos rfl]
    simp
 have hn:Lib.replaceNum s [37] (-1)=Lib.countFrom [37] (s.length+1) s:=by
  unfold Lib.replaceNum Lib.count;rw [if_pos (.inl d_)]
 unfold Lib.replaceAll Lib.replace;rw [if_neg d_,hn];exact h _ s o_
theorem J7(R B:Nat)(us fs:Array Value)(l:List Ln)(sec key val:Str)(w0 w:World)(hW:Xe w0 w R B us fs l)(hM:Zz w0)(hl:l.length<=100000000)(hv:val.length<=1000000000) :
  Calls prog 93 #[.pointer (some ⟨R,0,none⟩),.string ⟨sec.toArray⟩,.string ⟨key.toArray⟩,.string ⟨val.toArray⟩] w fun e w'=>e=.returned (.tuple #[])/\Xe w0 w' R B us fs (l++[Zby sec key val])/\FrB R B 53 w w':=by
 obtain ⟨i0,hi0,hz0,hz1,hz2⟩:=info_parts Zuz;obtain ⟨⟨hR0,hbe⟩,z1,z2,hRB,hBw,la,lc,hb,hown⟩:=hW;have HR0:=h_ hR0;have HBE:=h_ hbe;have HM:=h_ hM;have HRB:=h_ hRB;have HBW:=h_ hBw;have hRw:R<w.heap.size:=o_;have HRW:=h_ hRw;clear hR0 hbe hM hRB hBw hRw;obtain ⟨c70,c71⟩:=ZgS z1 z2 (.int .i64 (atN none l 0:Nat)) (.slice la l.length lc);have HL:=h_ hl;clear hl;have hpn:=Zuy l sec key val;obtain ⟨n,hn⟩:=e_ (atN none l 0);rw [<-hn] at hb c70 c71 hpn;obtain ⟨N,hN⟩:=e_ l.length;have HLN:=h_ (Zfu l none 0);rw [<-hN] at hb c70 c71 hown;obtain ⟨d,f,s,_⟩:=rd hb;have d70:=(d 70).trans c70;have d71:=(d 71).trans c71;have f70:=f 70;have HNB:=h_ (show n<=300000000/\N<=100000000 from ⟨by have:=ZpE l none 0;rw [hn];have:=HL.out;omega,by rw [hN];exact HL.out⟩);have HOWN:=h_ hown;have HB:=h_ hb;have HN:=h_ hn;have HNL:=h_ hN;have HP:=h_ hpn;clear d f hown hb hn hpn hN c70 c71;have HST:Hid ((l=[]/\Zcd l sec=2)\/∃y,l.getLast?=some y/\Zcd l sec=if sec=y.sec then 1 else 3):=h_ (by
  unfold Zcd;cases hl:l.getLast? with
  |none=>exact .inl ⟨List.getLast?_eq_none_iff.1 hl,rfl⟩
  |some y=>exact .inr ⟨y,rfl,rfl⟩)
 have HCA:=h_ (fun a b=>Zvl (us:=us) (fs:=fs) z1 z2 a b);have HQ:=h_ (fun (m:Int) (W:World) (h:W.heap[R]?=some (.cells (us++fs++#[.int .i64 m,.slice la N lc]) 78 (0,0)))=>show W.cell? ⟨R,70,none⟩=some (.int .i64 m)/\W.cell? ⟨R,71,none⟩=some (.slice la N lc) from ⟨((rd h).1 70).trans (ZgS z1 z2 _ _).1,((rd h).1 71).trans (ZgS z1 z2 _ _).2⟩);have HZ1:=h_ z1;have HZ2:=h_ z2;clear z1 z2;rcases HST.out with ⟨hnil,hstep⟩|⟨y,hy,hstep⟩
 ·have h0:N=0:=by rw [HNL.out,hnil];rfl
  have j0:((N:Int)==0)=true:=by rw [h0];rfl
  have HZ:=h_ (show ((n:Int)+(1+min (N:Int) 1)+1)=((n+Zcd l sec:Nat):Int) from step_nil n N _ h0 hstep);clear hnil hstep h0 HST;have nb:=HNB.out.1;have Nb:=HNB.out.2;go_enter func93,ntmps93;go_wp2_with fail;clear nb Nb;exact m97_
 ·have hne:l≠[]:=fun e=>by rw [e] at hy;cases hy
  have hpos:0<N:=by rw [HNL.out];exact List.length_pos_iff.2 hne
  have j0:((N:Int)==0)=false:=beq_false_of_ne o_;have hnum:(Xt none l 0).length=N:=by rw [HLN.out,HNL.out]
  obtain ⟨yn,hyn,hys⟩:∃yn,(Xt none l 0)[N-1]?=some yn/\yn.sec=y.sec:=by
   have hsm:=Zdm l none 0;have hl1:l[N-1]?=some y:=by rw [List.getLast?_eq_getElem?] at hy;rw [HNL.out];exact hy
   exact ZuC hsm _ _ hl1
  have hrow:=ZG.of_own (enc:=ZU) (k:=4) (l:=Xt none l 0) (oa:=la) (cap:=lc) (fun _=>rfl) (by rw [hnum];exact HOWN.out);obtain ⟨b,o,e1,_,hc⟩:=hrow (N-1) o_;subst e1;have hd:=hc 0 (.string ⟨y.sec.toArray⟩) (by rw [List.getElem?_eq_some_iff.1 hyn |>.2,<-hys];rfl);rw [Nat.add_zero] at hd;obtain ⟨k,hk⟩:=e_ (N-1);rw [<-hk] at hd;obtain ⟨i5,i6⟩:=ZuJ k N hpos hk;have i7:wrap64 (k:Int)=(k:Int):=Ztk k N n47_ hk;have HY:=h_ hstep;have HPOS:=h_ hpos;clear hne hnum hyn hys hrow hc hk hy HST hstep hpos;by_cases hs:sec=y.sec
  ·have j1:(y.sec==sec)=true:=by rw [hs];exact beq_self_eq_true _
   have HZ:=h_ (show ((n:Int)+1)=((n+Zcd l sec:Nat):Int) from Zsa n _ (HY.out.trans (if_pos hs)));clear hs HY;have nb:=HNB.out.1;have Nb:=HNB.out.2;go_enter func93,ntmps93;go_wp2_with fail;clear nb Nb;generalize (some (⟨b,o,none⟩:Addr))=la at HOWN HB HQ⊢;have HB3:=h_ (show (w.setCell ⟨R,70,none⟩ (.int .i64 ((n:Int)+1))).heap[R]?=some (.cells (us++fs++#[.int .i64 ((n:Int)+1),.slice la N lc]) 78 (0,0)) by
    have a:=heap_setCell HB.out 70 (.int .i64 ((n:Int)+1));rw [(HCA.out _ _ _).1] at a;exact a)
   have HFR:=h_ ((Fr.refl (fun k=>k=R) w).setCell (p:=⟨R,70,none⟩) (fun _=>rfl) (.int .i64 ((n:Int)+1)));generalize w.setCell ⟨R,70,none⟩ (.int .i64 ((n:Int)+1))=w3 at HB3 HFR⊢;obtain ⟨m,hm⟩:=e_ ((n:Int)+1);exact m93_
  ·have j1:(y.sec==sec)=false:=beq_false_of_ne fun e=>hs e.symm
   have HZ:=h_ (show ((n:Int)+(1+min (N:Int) 1)+1)=((n+Zcd l sec:Nat):Int) from Zs5 n N _ HPOS.out (HY.out.trans (if_neg hs)));clear hs HY;have nb:=HNB.out.1;have Nb:=HNB.out.2;go_enter func93,ntmps93;go_wp2_with fail;clear nb Nb;generalize (some (⟨b,o,none⟩:Addr))=la at HOWN HB HQ⊢;exact m97_
theorem m98_{p:Prop}(h:p:=by go_enter func237,ntmps237;go_wp2_with fail;go_ret;exact ⟨rfl,Below.refl _ _⟩):p:=h
theorem Pow.below{w w':World}(h:Pow w)(hb:Below w.heap.size w w'):Pow w':=by
 have hg:prog.globalNamed "internal/strconv.uint64pow10" = some 5:=k_;unfold Pow Lib.TabIs World.var? at h⊢;rw [hg] at h⊢;simp only [Option.bind_some] at h⊢;have hlt:5<w.heap.size:=by
  rcases Nat.lt_or_ge 5 w.heap.size with h'|h'
  ·exact h'
  ·rw [Array.getElem?_eq_none h'] at h;cases h
 rw [hb.block _ hlt];exact h
theorem Zno(n:Int)(h0 : -9223372036854775808<=n)(h1:n<=9223372036854775807)(w:World)(hp:Pow w):Calls prog 238 #[.int .i64 n] w fun e w'=>e=.returned (.string ⟨(Lib.itoa n).toArray⟩)/\Below w.heap.size w w' :=
 (Tryz.strconv_Itoa n h0 h1 w hp).mono fun e w' ⟨h,k,os,hw⟩=>⟨h,by rw [hw];exact Lib.below_grow _ w l_ k os⟩
theorem ZoW(w:World)(x:Str):(w.alloc (.cells #[.string ⟨x.toArray⟩] 9)).ownsRow w.heap.size 9 1 (.slice (some ⟨w.heap.size,0,none⟩) 1 1) 1 (Zh [x]):=
 ⟨rfl,.inr ⟨w.heap.size,1,#[.string ⟨x.toArray⟩],rfl,l_,heap_alloc_new w _,l_,d_,rfl,rfl⟩⟩
theorem Zk8:(prog.info? 9).map (fun i=>(i.zero,i.size,i.bytes))=some (some (.string ⟨#[]⟩),1,16):=k_
def Zvq(w0 w:World)(V:Nat)(l:List Str):Prop:=
 (V=w0.heap.size/\V<w.heap.size/\Below V w0 w)/\∃la lc,w.heap[V]?=some (.cells #[.slice la l.length lc] 26 (0,0))/\w.ownsRow (V+1) 9 1 (.slice la l.length lc) l.length (Zh l)
theorem ZvT{N:Nat}(h:N<=10):N+1<=maxLen/\(N+1)*16<=140737488355328:=n23_
theorem Zum(a b:Str)(ha:a.length<=100)(hb:b.length<=100):(⟨a.toArray⟩:ByteArray)++(⟨b.toArray⟩:ByteArray)=⟨(a++b).toArray⟩:=by
 apply Yu;rw [Joins.data_append]
theorem Zcl(V:Nat)(l:List Str)(n:Int)(u:Str)(w0 w:World)(h:Zvq w0 w V l)(hP:Pow w0)(h0 : -9223372036854775808<=n)(h1:n<=9223372036854775807)(hu:u.length<=10)(hl:l.length<=10) :
  Calls prog 281 #[.int .i64 n,.string ⟨u.toArray⟩,.pointer (some ⟨V,0,none⟩)] w fun e w'=>e=.returned (.tuple #[])/\Zvq w0 w' V (l++ZN n u):=by
 obtain ⟨i0,hi0,hz0,hz1,hz2⟩:=info_parts Zk8;obtain ⟨⟨hV,hVw,hbe⟩,la,lc,hb,hown⟩:=h;have HV:=h_ hV;have HVW:=h_ hVw;have HBE:=h_ hbe;have HB:=h_ hb;have HOW:=h_ hown;have HP:=h_ hP;have HN:=h_ (show -9223372036854775808<=n/\n<=9223372036854775807 from ⟨h0,h1⟩);clear hV hVw hbe hown hP h0 h1;by_cases hn:0<n
 ·have e:l++ZN n u=l++[Lib.itoa n++u]:=by unfold ZN;rw [if_pos hn]
  rw [e];clear e;obtain ⟨N,hN⟩:=e_ l.length;rw [<-hN] at HB HOW hb hl;have HNL:=h_ hN;clear hN;obtain ⟨sx,hsx⟩:=e_ (Lib.itoa n);have HSX:=h_ hsx;have hsl:sx.length<=21:=by rw [hsx];exact Lib.itoa_length_le n HN.out.1 HN.out.2
  rw [<-hsx];clear hsx;have HCE:=h_ (Zum sx u o_ o_);have z1:(⟨sx.toArray⟩:ByteArray).size=sx.length:=n17_;have z2:(⟨u.toArray⟩:ByteArray).size=u.length:=n17_;go_enter func281,ntmps281;go_wp2_with fail;refine Zk (S:=fun Z=>Z.heap[V]?=some (.cells #[.slice la N lc] 26 (0,0))) 7 k_ k_ HB.out (fun hHeld=>?_);refine u_ ?_;refine dT_ (i:=0) (v:=.slice la N lc) (gT_ rfl) (fun W hW=>by have q0:=((rd hW).1 0);clear hW;simp at q0;go_simp) (u_ ?_);refine dT_ (i:=1) (v:=.int .i64 n) (gT_ rfl) (fun W hW=>by clear hW;go_simp) (u_ ?_);refine dT_ (i:=3) (v:=.string ⟨u.toArray⟩) (gT_ rfl) (fun W hW=>by clear hW;go_simp) (u_ ?_);refine Zu (i:=2) (gT_ rfl) k_ k_ (fun K hK=>?_);clear hHeld;rw [if_pos n18_];go_simp;have HB1:=h_ (show Below w.heap.size w w.drew from Ze ⟨1,rfl⟩);have HPW:=h_ (show Pow w.drew from HP.out.below (by rw [<-HV.out];exact HBE.out.trans ((HB1.out).mono (Nat.le_of_lt HVW.out))));refine (Zno n HN.out.1 HN.out.2 w.drew HPW.out).mono ?_;rintro e w4 ⟨rfl,hb4⟩;rw [<-HSX.out];have HB4:=h_ (show Below w.heap.size w w4 from HB1.out.trans hb4);clear hb4;refine hK.out _ _ (Za HB.out HB4.out) (fun hHeld=>?_);clear hK K;refine u_ ?_;refine dT_ (i:=4) (v:=.string ⟨(sx++u).toArray⟩) (gT_ rfl) (fun W hW=>by clear hW;rw [<-HCE.out];go_simp;omega) (u_ ?_);refine Zu (i:=5) (gT_ rfl) k_ k_ (fun K hK=>?_);clear hHeld;rw [if_pos n18_];go_simp;have HB5:=h_ (show Below w.heap.size w (w4.alloc (.cells #[.string ⟨(sx++u).toArray⟩] 9)) from HB4.out.trans (((Below.refl w4.heap.size w4).alloc l_ _).mono HB4.out.size));have HBL:=h_ (ZoW w4 (sx++u));refine hK.out _ _ (Za HB.out HB5.out) (fun hHeld=>?_);clear hK K;refine u_ ?_;refine Zu (i:=6) (gT_ rfl) k_ k_ (fun K hK=>?_);clear hHeld;refine XO n18_ (.tmp 7) (.tmp 12) 26 n18_ (V+1) 9 i0 (.string ⟨#[]⟩) 1 16 underlying26 hi0 hz0 hz1 hz2 n18_ d_ (.slice la N lc) N (Zh l) n18_ (Zo HOW.out HB5.out) (some ⟨w4.heap.size,0,none⟩) 1 1 [.string ⟨(sx++u).toArray⟩] n18_
   rfl (fun j x hx=>⟨w4.heap.size,0,rfl,by rw [(rd (heap_alloc_new w4 _)).1,Nat.zero_add];simpa using hx⟩) (by intro x hx;simp at hx;subst hx;rfl) (ZvT hl).1 (ZvT hl).2 (Nat.le_trans HVW.out HB5.out.size) ?_
  intro v1 w7 hown1 hgrow1;obtain ⟨la2,lc2,rfl⟩:=ownsRow_form hown1;have HB7:=h_ (show w7.heap[V]?=some (.cells #[.slice la N lc] 26 (0,0)) from by
   rw [hgrow1.block V (Zd (Za HB.out HB5.out)) (Yw (Zo HOW.out HB5.out) (Za HB.out HB5.out) d_)];exact Za HB.out HB5.out)
  have HF7:=h_ (show Below V w w7 from (HB5.out.mono (Nat.le_of_lt HVW.out)).grown hgrow1 (Nat.le_trans (Nat.le_of_lt HVW.out) HB5.out.size) (fun k hk=>Nat.le_of_succ_le ((X7 (Zo HOW.out HB5.out) k hk).1)));have HOW7:=h_ hown1;clear hown1 hgrow1;refine hK.out _ _ HB7.out (fun hHeld=>?_);clear hK K;refine u_ ?_;refine ZF k_ ?_;clear hHeld;have hgb:=rd HB7.out;have s3:=hgb.1 0;have s4:=hgb.2.1 0;have s5:=hgb.2.2.1;simp at s3;clear hgb hb;go_wp2_with fail;go_end0;have hset:=heap_setCell HB7.out 0 (.slice la2 (N+1) lc2);have hlen:(l++[sx++u]).length=N+1:=n65_;have hbs:Below V w7 (w7.setCell ⟨V,0,none⟩ (.slice la2 (N+1) lc2)):=(Below.refl V w7).setCell l_ _;refine ⟨rfl,⟨HV.out,?_,(HBE.out.trans HF7.out).trans hbs⟩,la2,lc2,?_,?_⟩
  ·have:=HF7.out.size;have:=HVW.out;simp;omega
  ·rw [hlen];exact hset
  ·rw [hlen,Xc]
   exact Z4 HOW7.out ((Fr.refl (fun k=>k=V) w7).setCell (p:=⟨V,0,none⟩) (fun _=>rfl) _) (fun g hg _ e=>Yw HOW7.out HB7.out d_ (by rw [hg,e]))
 ·have e:l++ZN n u=l:=by unfold ZN;rw [if_neg hn,List.append_nil]
  rw [e];clear e;go_enter func281,ntmps281;go_wp2_with fail;go_end0;exact ⟨rfl,⟨HV.out,HVW.out,HBE.out⟩,la,lc,HB.out,HOW.out⟩
theorem Zlg(sep:Str)(l:List Str):Lib.join l sep=Ya sep l:=by
 induction l with
 |nil=>rfl
 |cons a l ih=>
  cases l with
  |nil=>simp [Lib.join,Ya]
  |cons b r=>simp only [Ya,<-ih];simp [Lib.join]
theorem Zmh(oa:Option Addr)(cap:Nat)(l:List Str)(w:World)(h:Zp w oa l)(hcap:l.length<=cap)(hn:l.length<=140737488355328)(hl:(Ya [32] l).length<=140737488355328) :
  Calls prog 178 #[.slice oa l.length cap,.string ⟨#[32]⟩] w fun e w'=>e=.returned (.string ⟨(Ya [32] l).toArray⟩)/\Below w.heap.size w w':=by
 cases l with
 |nil=>exact (Tryz.strings_Join_none oa cap ⟨#[32]⟩ w).mono fun e w' ⟨h1,h2⟩=>⟨h1,h2 ▸ Below.refl _ _⟩
 |cons a r=>
  obtain ⟨b,o,rfl,h0⟩:=h 0 s_;have hmm:(((a::r).map fun y:Str=>(⟨y.toArray⟩:ByteArray)).map (·.data.toList))=a::r:=by rw [List.map_map];exact List.map_id' _
  have hlen:((a::r).map fun y:Str=>(⟨y.toArray⟩:ByteArray)).length=(a::r).length:=List.length_map _
  have:=Tryz.strings_Join b o cap ((a::r).map fun y=>(⟨y.toArray⟩:ByteArray)) ⟨#[32]⟩ w (by
   intro j x hx;rw [List.getElem?_map,Option.map_eq_some_iff] at hx;obtain ⟨y,hy,rfl⟩:=hx;obtain ⟨hj,rfl⟩:=List.getElem?_eq_some_iff.1 hy;obtain ⟨b',o',e,hc⟩:=h j hj;injection e with e;injection e with e1 e2;subst e1;subst e2
   exact hc) (World.block_lt_of_cell? w _ h0) (by rw [hlen];exact hn) (by rw [hlen];exact hcap) (by rw [hmm,Zlg];exact hl)
  rw [hlen,hmm,Zlg] at this;exact this
theorem Ja(n:Int)(u:Str):(ZN n u).length<=1:=by unfold ZN;split<;>simp
theorem Jc{n:Int}(h0 : -9223372036854775808<=n)(h1:n<=9223372036854775807){u:Str}(hu:u.length<=10):∀x∈ZN n u,x.length<=31:=by
 intro x hx;unfold ZN at hx;split at hx
 ·have e:x=Go.Lib.itoa n++u:=by simpa using hx
  have:=Go.Lib.itoa_length_le n h0 h1
  rw [e,c5_];omega
 ·cases hx
theorem Zhh(m:Nat):∀(l:List Str),(∀x∈l,x.length<=m)->(Ya [32] l).length<=l.length*(m+1)
 |[],_=>by simp [Ya]
 |[a],h=>by have:=h a s_;simp [Ya];omega
 |a::b::r,h=>by
  have h1:=h a s_;have ih:=Zhh m (b::r) (fun x hx=>h x (by simp [hx]));simp only [Ya,c5_];rw [show (a::b::r).length=(b::r).length+1 from rfl,Nat.add_mul (b::r).length 1];have e:([32]:Str).length=1:=rfl;omega
theorem ZiW(n:Int)(w:World)(hP:Pow w)(h0 : -9223372036854775808<=n)(h1:n<=9223372036854775807):Calls prog 237 #[.int .i64 n] w fun e w'=>e=.returned (.string ⟨(Yj n).toArray⟩)/\Below w.heap.size w w':=by
 by_cases hf:n=1099511627776
 ·subst hf
  exact m98_
 have j0:(n==1099511627776)=false:=beq_false_of_ne hf;by_cases hn:n<0
 ·have e:Yj n=[]:=by unfold Yj;rw [if_neg hf,if_pos (.inl hn)]
  rw [e];exact m98_
 by_cases hm:6311433600<n
 ·have e:Yj n=[]:=by unfold Yj;rw [if_neg hf,if_pos (.inr hm)]
  rw [e];exact m98_
 by_cases hz:n=0
 ·subst hz
  exact m98_
 have j1:(n==0)=false:=beq_false_of_ne hz;have e:Yj n=Ya [32] (ZN (n / 86400) [100]++ZN (n % 86400 / 3600) [104]++ZN (n % 3600 / 60) [109,105,110]++ZN (n % 60) [115]):=by
  unfold Yj;rw [if_neg hf,if_neg (fun h=>h.elim hn hm),if_neg hz]
 rw [e];clear e;go_enter func237,ntmps237;go_wp2_with fail;have hw1:Zvq w (w.alloc (.cells #[.slice none 0 0] 26)) w.heap.size []:=⟨⟨rfl,s_,b_.alloc l_ _⟩,none,0,heap_alloc_new w _,World.ownsRow_nil _ _ _ _⟩;have HP:=h_ hP;have hr:0<=n/\n<=6311433600:=⟨o_,o_⟩;have HR:=h_ hr;clear hP hr h0 h1 j0 j1 hz hf;generalize w.alloc (.cells #[.slice none 0 0] 26)=w1 at hw1⊢;refine (Zcl w.heap.size [] (n / 86400) [100] w w1 hw1 HP.out n28_ n28_ d_ d_).mono ?_;rintro e w2 ⟨rfl,h2⟩;rw [List.nil_append] at h2;have HX:=h_ h2;have q1:=Ja (n / 86400) [100];have p1:=Jc (n:=n / 86400) (u:=[100]) n28_ n28_ d_;generalize e1:ZN (n / 86400) [100]=l1 at HX q1 p1⊢;have E1:=h_ e1;clear e1;have HQ1:=h_ q1;have HP1:=h_ p1;clear h2 hw1 q1 p1;go_wp2_with fail;refine (Zcl w.heap.size l1 (n % 86400 / 3600) [104] w w2 HX.out HP.out n28_ n28_ d_ (by have:=HQ1.out;omega)).mono ?_;rintro e w3 ⟨rfl,h3⟩;have HX3:=h_ h3;have q2:=Ja (n % 86400 / 3600) [104];have p2:=Jc (n:=n % 86400 / 3600) (u:=[104]) n28_ n28_ d_;generalize e2:ZN (n % 86400 / 3600) [104]=l2 at HX3 q2 p2⊢;have E2:=h_ e2;clear e2;have HQ2:=h_ q2;have HP2:=h_ p2;clear h3 q2 p2 HX;go_wp2_with fail;refine (Zcl w.heap.size (l1++l2) (n % 3600 / 60) [109,105,110] w w3 HX3.out HP.out n28_ n28_ d_ (by have:=HQ1.out;have:=HQ2.out;rw [c5_];omega)).mono ?_;rintro e w4 ⟨rfl,h4⟩;have HX4:=h_ h4;have q3:=Ja (n % 3600 / 60) [109,105,110];have p3:=Jc (n:=n % 3600 / 60) (u:=[109,105,110]) n28_ n28_ d_;generalize e3:ZN (n % 3600 / 60) [109,105,110]=l3 at HX4 q3 p3⊢;have E3:=h_ e3;clear e3;have HQ3:=h_ q3;have HP3:=h_ p3;clear h4 q3 p3 HX3;go_wp2_with fail;refine (Zcl w.heap.size (l1++l2++l3) (n % 60) [115] w w4 HX4.out HP.out n28_ n28_ d_ (by have:=HQ1.out;have:=HQ2.out;have:=HQ3.out;rw [c5_,c5_];omega)).mono ?_;rintro e w5 ⟨rfl,h5⟩;have q4:=Ja (n % 60) [115];have p4:=Jc (n:=n % 60) (u:=[115]) n28_ n28_ d_;generalize e4:ZN (n % 60) [115]=l4 at h5 q4 p4⊢;have E4:=h_ e4;clear e4;have hL:(l1++l2++l3++l4).length<=4:=by have:=HQ1.out;have:=HQ2.out;have:=HQ3.out;rw [c5_,c5_,c5_];omega
 have hM:∀x∈l1++l2++l3++l4,x.length<=31:=by
  intro x hx;simp only [List.mem_append] at hx;rcases hx with ((hx|hx)|hx)|hx
  ·exact HP1.out x hx
  ·exact HP2.out x hx
  ·exact HP3.out x hx
  ·exact p4 x hx
 have hJ:=Zhh 31 (l1++l2++l3++l4) hM;generalize eL:l1++l2++l3++l4=L at h5 hL hJ⊢;have EL:=h_ eL;clear eL;obtain ⟨⟨_,_,hbe⟩,la,lc,hb,hown⟩:=h5;have HBE:=h_ hbe;have hcap:L.length<=lc:=by
  rcases hown.2 with ⟨h,_⟩|⟨g,cap2,cur,h,_,_,h2,_⟩
  ·injection h with _ h _;omega
  ·injection h with _ _ h;subst h;exact h2
 have HJ:=h_ (Zmh la lc L w5 (Zp.of_own hown) hcap o_ o_);have c0:=(rd hb).1 0;simp at c0;clear hb hown hL hM hJ hcap hbe HX4 HP1 HP2 HP3 HQ1 HQ2 HQ3 q4 p4;go_wp2_with fail;refine HJ.out.mono ?_;rintro e w6 ⟨rfl,hb6⟩;go_wp2_with fail;go_ret;rw [E1.out,E2.out,E3.out,E4.out,EL.out];exact ⟨rfl,HBE.out.trans (hb6.mono HBE.out.size)⟩
theorem m99_{p:Prop}(h:p:=by go_enter func180,ntmps180;go_wp2_with fail;go_ret;exact ⟨rfl,HB.out⟩):p:=h
theorem m100_{p:Prop}(h:p:=by rintro e w2 ⟨rfl,hb2⟩;go_wp2_with fail;go_ret;exact ⟨rfl,HB.out.trans (hb2.mono HB.out.size)⟩):p:=h
theorem Znc(k:ZE)(kv:ZQ)(n:Int)(w:World)(hk:Xu w kv k)(hw:k.words.length<=1000)(hP:Pow w)(h0 : -9223372036854775808<=n)(h1:n<=9223372036854775807) :
  Calls prog 180 #[.agg (Zm kv).toArray,.int .i64 n] w fun e w'=>e=.returned (.string ⟨(Qv k n).toArray⟩)/\Below w.heap.size w w':=by
 have hform:=hk.form;have hwl:=hk.wl;have hrow:=hk.row;obtain ⟨ks,kn,kf,kl,kk,wa,wn,wc⟩:=kv;simp only at hform hwl hrow;have hB:=(Below.refl w.heap.size w).alloc l_ (.cells #[.string ⟨ks.toArray⟩,.string ⟨kn.toArray⟩,.int .i64 kf,.bool kl,.int .i64 kk,.slice wa wn wc] 82);have HB:=h_ hB;have HP1:=h_ (hP.below hB);have HR:=h_ (hrow.below hB);have HN:=h_ (show -9223372036854775808<=n/\n<=9223372036854775807 from ⟨h0,h1⟩);unfold Zm;simp only;clear hB hP hrow hk;by_cases h4:kf=4
 ·subst h4
  have e:Qv k n=Yj n:=by unfold Qv;rw [if_pos hform.symm]
  rw [e];clear e h0 h1 hform hwl;go_enter func180,ntmps180;go_wp2_with fail;refine (ZiW n _ HP1.out HN.out.1 HN.out.2).mono ?_;exact m100_
 have i4:(kf==4)=false:=beq_false_of_ne h4;by_cases h10:kf=10
 ·subst h10
  have e:Qv k n=if n<1\/(k.words.length:Int)<n then [] else k.words.getD (n-1).toNat []:=by unfold Qv;rw [<-hform,if_neg d_,if_pos rfl]
  rw [e];clear e hform;obtain ⟨ws,hws⟩:=e_ k.words;rw [<-hws] at hwl hw HR⊢;clear hws;subst hwl;obtain ⟨N,hN⟩:=e_ ws.length;rw [<-hN] at hw HB HP1 HR⊢;have HNL:=h_ hN;clear hN;by_cases hl:n<1
  ·rw [if_pos (.inl hl)]
   exact m99_
  ·by_cases hg:(N:Int)<n
   ·rw [if_pos (.inr hg)]
    exact m99_
   ·rw [if_neg (fun h=>h.elim hl hg)]
    obtain ⟨j,hj⟩:∃j:Nat,n=(j:Int)+1:=⟨(n-1).toNat,o_⟩;subst hj;have hjn:j<ws.length:=by have:=HNL.out;omega
    obtain ⟨b,o,e1,hc⟩:=HR.out j hjn;subst e1;have e2:ws.getD ((j:Int)+1-1).toNat []=ws[j]:=by
     rw [show ((j:Int)+1-1).toNat=j by omega,List.getD_eq_getElem?_getD,List.getElem?_eq_getElem hjn];rfl
    rw [e2];obtain ⟨s,hs⟩:=e_ (ws[j]);rw [<-hs] at hc⊢;clear hs e2 hjn;have i6:(j:Int)<(N:Int):=o_;have i7:wrap64 (j:Int)=(j:Int):=IntWalk.wrap64_in _ o_;have i8:¬((j:Int)+1<1):=o_;exact m99_
 have i10:(kf==10)=false:=beq_false_of_ne h10;have e:Qv k n=Lib.itoa n:=by unfold Qv;rw [<-hform,if_neg h4,if_neg h10]
 rw [e];clear e h0 h1 hform hwl;go_enter func180,ntmps180;go_wp2_with fail;refine (Zno n HN.out.1 HN.out.2 _ HP1.out).mono ?_;exact m100_
theorem m102_{p:Prop}(h:p:=by go_wp2_with (first|(go_at_call 135;refine (HTX.out _ _).mono ?_;rintro e w' ⟨rfl,rfl⟩)|(go_at_call 136;refine (HFL.out _ _).mono ?_;rintro e w' ⟨rfl,rfl⟩)|(go_at_call 138;refine (HNU.out _ _).mono ?_;rintro e w' ⟨rfl,rfl⟩));go_quiet (first|(go_at_call 135;exact Calls.quiet_of_same (HTX.out _ _))|(go_at_call 136;exact Calls.quiet_of_same (HFL.out _ _))|(go_at_call 138;exact Calls.quiet_of_same (HNU.out _ _)));exact m104_):p:=h
theorem m103_{p:Prop}(h:p:=by go_wp2_with (first|(go_at_call 135;refine (HTX.out _ _).mono ?_;rintro e w' ⟨rfl,rfl⟩)|(go_at_call 136;refine (HFL.out _ _).mono ?_;rintro e w' ⟨rfl,rfl⟩)|(go_at_call 138;refine (HNU.out _ _).mono ?_;rintro e w' ⟨rfl,rfl⟩));go_quiet (first|(go_at_call 135;exact Calls.quiet_of_same (HTX.out _ _))|(go_at_call 136;exact Calls.quiet_of_same (HFL.out _ _))|(go_at_call 138;exact Calls.quiet_of_same (HNU.out _ _)));exact m105_):p:=h
theorem m104_{p:Prop}(h:p:=by go_wp2_with (first|(go_at_call 135;refine (HTX.out _ _).mono ?_;rintro e w' ⟨rfl,rfl⟩)|(go_at_call 136;refine (HFL.out _ _).mono ?_;rintro e w' ⟨rfl,rfl⟩)|(go_at_call 138;refine (HNU.out _ _).mono ?_;rintro e w' ⟨rfl,rfl⟩));go_end0;refine ⟨rfl,HW1.out.below ?_,Fr.of_below (HB.out.trans (Below.mono (B:=w1.heap.size) ?_ HB.out.size)) _⟩;all_goals (repeat (first|exact Below.refl _ _|refine YH ?_|refine YA ?_))):p:=h
theorem m105_{p:Prop}(h:p:=by go_wp2_with (first|(go_at_call 135;refine (HTX.out _ _).mono ?_;rintro e w' ⟨rfl,rfl⟩)|(go_at_call 136;refine (HFL.out _ _).mono ?_;rintro e w' ⟨rfl,rfl⟩)|(go_at_call 138;refine (HNU.out _ _).mono ?_;rintro e w' ⟨rfl,rfl⟩));go_end0;refine ⟨rfl,Xe.below HW5.out ?_,FrB.trans HF5.out (Fr.of_below ?_ _)⟩;all_goals (repeat (first|exact Below.refl _ _|refine YH ?_|refine YA ?_))):p:=h
theorem YH{B:Nat}{a w:World}{n:Nat}(h:Below B a w):Below B a (w.drewN n):=⟨h.os,h.tape,h.output,h.size,h.block⟩
theorem YA{B:Nat}{a w:World}(h:Below B a w):Below B a w.drew:=⟨h.os,h.tape,h.output,h.size,h.block⟩
theorem XG{w1 W:World}{P:World->Prop}(h:Below w1.heap.size w1 W)(k:∀w2,Below w1.heap.size w1 w2->P w2):P W:=k W h
theorem ZvD{us fs:Array Value}(h1:us.size=35)(h2:fs.size=35)(a b v:Value){j:Nat}(h:us[j]?=some v):(us++fs++#[a,b])[j]?=some v:=by
 have hj:j<us.size:=(c6_.1 h).1;rw [Array.getElem?_append_left n6_,Array.getElem?_append_left hj,h]
theorem Zwl{us fs:Array Value}(h1:us.size=35)(h2:fs.size=35)(a b v:Value){j:Nat}(h:fs[j]?=some v):(us++fs++#[a,b])[35+j]?=some v:=by
 have hj:j<fs.size:=(c6_.1 h).1;rw [Array.getElem?_append_left n6_,Array.getElem?_append_right o_,h1,Nat.add_sub_cancel_left,h]
theorem Xe.below{w0 w w':World}{R B:Nat}{us fs:Array Value}{l:List Ln}(h:Xe w0 w R B us fs l)(hb:Below w.heap.size w w'):Xe w0 w' R B us fs l:=by
 obtain ⟨⟨a,b⟩,c,d,e,f,la,lc,g,i⟩:=h;have hs:R<=w.heap.size:=o_;exact ⟨⟨a,b.trans (hb.mono hs)⟩,c,d,e,Nat.le_trans f hb.size,la,lc,Za g hb,Zo i hb⟩
theorem Xe.base{w0 w:World}{R B:Nat}{us fs:Array Value}{l:List Ln}(h:Xe w0 w R B us fs l):Below w0.heap.size w0 w:=by rw [<-h.1.1];exact h.1.2
theorem Xe.rd{w0 w:World}{R B:Nat}{us fs:Array Value}{l:List Ln}(h:Xe w0 w R B us fs l){j:Nat}{x y:Value}(hx:us[j]?=some x)(hy:fs[j]?=some y):w.cell? ⟨R,j,none⟩=some x/\w.cell? ⟨R,35+j,none⟩=some y:=by
 obtain ⟨_,c,d,_,_,la,lc,g,_⟩:=h;exact ⟨((Proofs.YtmgmbeipbeknaaaGreatDoor.rd g).1 j).trans (ZvD c d _ _ _ hx),((Proofs.YtmgmbeipbeknaaaGreatDoor.rd g).1 (35+j)).trans (Zwl c d _ _ _ hy)⟩
theorem YB{w:World}{cs:Array Value}{u:UV}(h:ZV w cs u){j:Nat}(hj:j<35):∃v,cs[j]?=some v/\Zh3 w (u j) v:=by
 have:j<cs.size:=by rw [h.size];exact hj
 exact ⟨cs[j],Array.getElem?_eq_getElem this,h.fld j _ (Array.getElem?_eq_getElem this)⟩
def X6(w0 w:World)(R B:Nat)(us fs:Array Value)(l:List Ln)(e:Ending)(w':World):Prop:=e=.returned (.tuple #[])/\Xe w0 w' R B us fs l/\FrB R B 53 w w'
def Yy(sec:Str)(ps:List (Str×Str)):List Ln:=ps.map fun p=>Zby sec p.1 p.2
theorem ZkL(R B j:Nat)(us fs:Array Value)(l:List Ln)(k:ZE)(kv:ZQ)(x y:Str)(w0 w:World)(hW:Xe w0 w R B us fs l)(hM:Zz w0)(hP:Pow w0)(hK:Xu w kv k)(hkw:k.words.length<=1000)(hl:l.length<=100000000)
  (hx:us[j]?=some (.string ⟨x.toArray⟩)) (hy:fs[j]?=some (.string ⟨y.toArray⟩)) (hv:(x).length<=1000000000)
  (hText:∀o W,Calls prog 135 #[.pointer (some ⟨R,o,none⟩),.string ⟨k.name.toArray⟩] W fun e w'=>e=.returned (.pointer (some ⟨R,o+j,none⟩))/\w'=W)
  (hFlag:∀o W,Calls prog 136 #[.pointer (some ⟨R,o,none⟩),.string ⟨k.name.toArray⟩] W fun e w'=>e=.returned (.pointer (none))/\w'=W)
  (hNumber:∀o W,Calls prog 138 #[.pointer (some ⟨R,o,none⟩),.string ⟨k.name.toArray⟩] W fun e w'=>e=.returned (.pointer (none))/\w'=W)
  :  Calls prog 96 #[.pointer (some ⟨R,0,none⟩),.agg (Zm kv).toArray] w fun e w'=>X6 w0 w R B us fs (l++Yy k.sec (if x=y then [] else [(k.name,x)])) e w':=by
 have hsec:=hK.sec;have hname:=hK.name;have HKV:=h_ hK;obtain ⟨ks,kn,kf,kl,kk,wa,wn,wc⟩:=kv;simp only at hsec hname;subst hsec;subst hname;have hlt:R<w.heap.size:=n16_;have hB:=(Below.refl w.heap.size w).alloc l_ (.cells #[.string ⟨k.sec.toArray⟩,.string ⟨k.name.toArray⟩,.int .i64 kf,.bool kl,.int .i64 kk,.slice wa wn wc] 82);have HB:=h_ hB;have HW1:=h_ (hW.below hB);have HK1:=h_ (heap_alloc_new w (.cells #[.string ⟨k.sec.toArray⟩,.string ⟨k.name.toArray⟩,.int .i64 kf,.bool kl,.int .i64 kk,.slice wa wn wc] 82));have HTX:=h_ hText;have HFL:=h_ hFlag;have HNU:=h_ hNumber;have HM:=h_ hM;have HP:=h_ hP;have HL:=h_ hl;have HV:=h_ hv;have HX:=h_ hx;have HY:=h_ hy;have HKW:=h_ hkw;skip;unfold Zm X6;simp only;clear hB hW hM hP hK hl hv hx hy hText hFlag hNumber hkw;have HRD:=h_ (fun (W:World) (h:Below (w.alloc (.cells #[.string ⟨k.sec.toArray⟩,.string ⟨k.name.toArray⟩,.int .i64 kf,.bool kl,.int .i64 kk,.slice wa wn wc] 82)).heap.size (w.alloc (.cells #[.string ⟨k.sec.toArray⟩,.string ⟨k.name.toArray⟩,.int .i64 kf,.bool kl,.int .i64 kk,.slice wa wn wc] 82)) W)=>show W.cell? ⟨R,j,none⟩=some (.string ⟨x.toArray⟩)/\W.cell? ⟨R,35+j,none⟩=some (.string ⟨y.toArray⟩)/\W.cell? ⟨w.heap.size,0,none⟩=some (.string ⟨k.sec.toArray⟩)/\W.cell? ⟨w.heap.size,1,none⟩=some (.string ⟨k.name.toArray⟩) from
  ⟨((HW1.out.below h).rd HX.out HY.out).1,((HW1.out.below h).rd HX.out HY.out).2,(rd (Za HK1.out h)).1 0,(rd (Za HK1.out h)).1 1⟩)
 have HNR:=h_ (show w.heap.size≠R by omega);by_cases hxy:x=y
 ·rw [if_pos hxy]
  have e0:l++Yy k.sec []=l:=List.append_nil l;rw [e0];have e1:(x==y)=true:=n94_;have e2:(x !=y)=false:=n111_;clear hxy e0;go_enter func96,ntmps96;go_wp2_with fail;generalize w.alloc (.cells #[.string ⟨k.sec.toArray⟩,.string ⟨k.name.toArray⟩,.int .i64 kf,.bool kl,.int .i64 kk,.slice wa wn wc] 82)=w1 at HB HW1 HK1 HRD⊢;obtain ⟨d1,d2,d3,d4⟩:=HRD.out w1 b_;go_quiet (fail);go_wp2_with (first|(go_at_call 135;refine (HTX.out _ _).mono ?_;rintro e w' ⟨rfl,rfl⟩)|(go_at_call 136;refine (HFL.out _ _).mono ?_;rintro e w' ⟨rfl,rfl⟩)|(go_at_call 138;refine (HNU.out _ _).mono ?_;rintro e w' ⟨rfl,rfl⟩));refine wp_region_held_drew (S:=fun V=>Below w1.heap.size w1 V) k_ (by repeat (first|exact Below.refl _ _|refine YH ?_|refine YA ?_)) (fun hHeld=>?_);refine u_ ?_;refine dB_ (i:=0) (v:=.pointer (some ⟨R,j,none⟩)) (gT_ rfl) (fun W hW=>by clear hW;go_simp) (u_ ?_);refine dB_ (i:=1) (v:=.bool true) (gT_ rfl) (fun W hW=>by clear hW;go_simp) (u_ ?_);refine dB_ (i:=2) (v:=.bool true) (gT_ rfl) (fun W hW=>by clear hW;go_simp) (u_ ?_);refine dB_ (i:=3) (v:=.pointer (some ⟨R,j,none⟩)) (gT_ rfl) (fun W hW=>by clear hW;go_simp) (u_ ?_);refine dB_ (i:=4) (v:=.pointer (some ⟨R,j,none⟩)) (gT_ rfl) (fun W hW=>by clear hW;go_simp) (u_ ?_);refine dB_ (i:=5) (v:=.string ⟨x.toArray⟩) (gT_ rfl) (fun W hW=>by obtain ⟨q1,q2,q3,q4⟩:=HRD.out W hW;clear hW;go_simp) (u_ ?_);refine dB_ (i:=6) (v:=.pointer (some ⟨R,35,none⟩)) (gT_ rfl) (fun W hW=>by clear hW;go_simp) (u_ ?_);refine dB_ (i:=7) (v:=.pointer (some ⟨w.heap.size,1,none⟩)) (gT_ rfl) (fun W hW=>by clear hW;go_simp) (u_ ?_);refine dB_ (i:=8) (v:=.string ⟨k.name.toArray⟩) (gT_ rfl) (fun W hW=>by obtain ⟨q1,q2,q3,q4⟩:=HRD.out W hW;clear hW;go_simp) (u_ ?_);refine wpAnyH_ready (rs:=[9]) k_ s_ (AllReadyH.cons (gT_ rfl) (fun K hK=>?_) (AllReadyH.nil));clear hHeld;rw [if_pos n18_];go_simp;refine (HTX.out _ _).mono ?_;rintro e w' ⟨rfl,rfl⟩;refine hK.out _ _ (by repeat (first|exact Below.refl _ _|refine YH ?_|refine YA ?_)) (fun hHeld=>?_);clear hK K;refine u_ ?_;refine dB_ (i:=10) (v:=.pointer (some ⟨R,35+j,none⟩)) (gT_ rfl) (fun W hW=>by clear hW;go_simp) (u_ ?_);refine dB_ (i:=11) (v:=.string ⟨y.toArray⟩) (gT_ rfl) (fun W hW=>by obtain ⟨q1,q2,q3,q4⟩:=HRD.out W hW;clear hW;go_simp) (u_ ?_);refine dB_ (i:=12) (v:=.bool false) (gT_ rfl) (fun W hW=>by clear hW;go_simp) (u_ ?_);refine dB_ (i:=13) (v:=.bool false) (gT_ rfl) (fun W hW=>by clear hW;go_simp) (u_ ?_);refine wpAnyH_done k_ ?_ _;clear hHeld;go_wp2_with (first|(go_at_call 135;refine (HTX.out _ _).mono ?_;rintro e w' ⟨rfl,rfl⟩)|(go_at_call 136;refine (HFL.out _ _).mono ?_;rintro e w' ⟨rfl,rfl⟩)|(go_at_call 138;refine (HNU.out _ _).mono ?_;rintro e w' ⟨rfl,rfl⟩));go_quiet (first|(go_at_call 135;exact Calls.quiet_of_same (HTX.out _ _))|(go_at_call 136;exact Calls.quiet_of_same (HFL.out _ _))|(go_at_call 138;exact Calls.quiet_of_same (HNU.out _ _)));exact m102_
 ·rw [if_neg hxy]
  have e1:(x==y)=false:=beq_false_of_ne hxy;have e2:(x !=y)=true:=n111_;clear hxy;go_enter func96,ntmps96;go_wp2_with fail;generalize w.alloc (.cells #[.string ⟨k.sec.toArray⟩,.string ⟨k.name.toArray⟩,.int .i64 kf,.bool kl,.int .i64 kk,.slice wa wn wc] 82)=w1 at HB HW1 HK1 HRD⊢;obtain ⟨d1,d2,d3,d4⟩:=HRD.out w1 b_;go_quiet (fail);go_wp2_with (first|(go_at_call 135;refine (HTX.out _ _).mono ?_;rintro e w' ⟨rfl,rfl⟩)|(go_at_call 136;refine (HFL.out _ _).mono ?_;rintro e w' ⟨rfl,rfl⟩)|(go_at_call 138;refine (HNU.out _ _).mono ?_;rintro e w' ⟨rfl,rfl⟩));refine wp_region_held_drew (S:=fun V=>Below w1.heap.size w1 V) k_ (by repeat (first|exact Below.refl _ _|refine YH ?_|refine YA ?_)) (fun hHeld=>?_);refine u_ ?_;refine dB_ (i:=0) (v:=.pointer (some ⟨R,j,none⟩)) (gT_ rfl) (fun W hW=>by clear hW;go_simp) (u_ ?_);refine dB_ (i:=1) (v:=.bool true) (gT_ rfl) (fun W hW=>by clear hW;go_simp) (u_ ?_);refine dB_ (i:=2) (v:=.bool true) (gT_ rfl) (fun W hW=>by clear hW;go_simp) (u_ ?_);refine dB_ (i:=3) (v:=.pointer (some ⟨R,j,none⟩)) (gT_ rfl) (fun W hW=>by clear hW;go_simp) (u_ ?_);refine dB_ (i:=4) (v:=.pointer (some ⟨R,j,none⟩)) (gT_ rfl) (fun W hW=>by clear hW;go_simp) (u_ ?_);refine dB_ (i:=5) (v:=.string ⟨x.toArray⟩) (gT_ rfl) (fun W hW=>by obtain ⟨q1,q2,q3,q4⟩:=HRD.out W hW;clear hW;go_simp) (u_ ?_);refine dB_ (i:=6) (v:=.pointer (some ⟨R,35,none⟩)) (gT_ rfl) (fun W hW=>by clear hW;go_simp) (u_ ?_);refine dB_ (i:=7) (v:=.pointer (some ⟨w.heap.size,1,none⟩)) (gT_ rfl) (fun W hW=>by clear hW;go_simp) (u_ ?_);refine dB_ (i:=8) (v:=.string ⟨k.name.toArray⟩) (gT_ rfl) (fun W hW=>by obtain ⟨q1,q2,q3,q4⟩:=HRD.out W hW;clear hW;go_simp) (u_ ?_);refine wpAnyH_ready (rs:=[9]) k_ s_ (AllReadyH.cons (gT_ rfl) (fun K hK=>?_) (AllReadyH.nil));clear hHeld;rw [if_pos n18_];go_simp;refine (HTX.out _ _).mono ?_;rintro e w' ⟨rfl,rfl⟩;refine hK.out _ _ (by repeat (first|exact Below.refl _ _|refine YH ?_|refine YA ?_)) (fun hHeld=>?_);clear hK K;refine u_ ?_;refine dB_ (i:=10) (v:=.pointer (some ⟨R,35+j,none⟩)) (gT_ rfl) (fun W hW=>by clear hW;go_simp) (u_ ?_);refine dB_ (i:=11) (v:=.string ⟨y.toArray⟩) (gT_ rfl) (fun W hW=>by obtain ⟨q1,q2,q3,q4⟩:=HRD.out W hW;clear hW;go_simp) (u_ ?_);refine dB_ (i:=12) (v:=.bool true) (gT_ rfl) (fun W hW=>by clear hW;go_simp) (u_ ?_);refine dB_ (i:=13) (v:=.bool true) (gT_ rfl) (fun W hW=>by clear hW;go_simp) (u_ ?_);refine wpAnyH_done k_ ?_ _;clear hHeld;go_wp2_with fail;refine XG (P:=fun V=>Code.wp _ _ _ _ V) (w1:=w1) (by repeat (first|exact Below.refl _ _|refine YH ?_|refine YA ?_)) (fun w2 hb2=>?_);have HB2:=h_ (show Below w1.heap.size w1 w2.drew from YA hb2);clear hb2 d1 d2 d3 d4;refine Zk (S:=fun V=>Below w1.heap.size w1 V) 8 k_ k_ HB2.out (fun hHeld=>?_);refine u_ ?_;refine dT_ (i:=0) (v:=.pointer (some ⟨R,0,none⟩)) (gT_ rfl) (fun W hW=>by clear hW;go_simp) (u_ ?_);refine dT_ (i:=1) (v:=.pointer (some ⟨w.heap.size,0,none⟩)) (gT_ rfl) (fun W hW=>by clear hW;go_simp) (u_ ?_);refine dT_ (i:=2) (v:=.string ⟨k.sec.toArray⟩) (gT_ rfl) (fun W hW=>by obtain ⟨q1,q2,q3,q4⟩:=HRD.out W hW;clear hW;go_simp) (u_ ?_);refine dT_ (i:=3) (v:=.pointer (some ⟨w.heap.size,1,none⟩)) (gT_ rfl) (fun W hW=>by clear hW;go_simp) (u_ ?_);refine dT_ (i:=4) (v:=.string ⟨k.name.toArray⟩) (gT_ rfl) (fun W hW=>by obtain ⟨q1,q2,q3,q4⟩:=HRD.out W hW;clear hW;go_simp) (u_ ?_);refine dT_ (i:=5) (v:=.pointer (some ⟨R,j,none⟩)) (gT_ rfl) (fun W hW=>by clear hW;go_simp) (u_ ?_);refine dT_ (i:=6) (v:=.pointer (some ⟨R,j,none⟩)) (gT_ rfl) (fun W hW=>by clear hW;go_simp) (u_ ?_);refine dT_ (i:=7) (v:=.string ⟨x.toArray⟩) (gT_ rfl) (fun W hW=>by obtain ⟨q1,q2,q3,q4⟩:=HRD.out W hW;clear hW;go_simp) (u_ ?_);refine ZF k_ ?_;clear hHeld;go_wp2_with fail;refine (J7 R B us fs l k.sec k.name (x) w0 w2.drew (HW1.out.below HB2.out) HM.out HL.out HV.out).mono ?_;rintro e w5 ⟨rfl,hw5,hf5⟩;have HW5:=h_ hw5;have HF5:=h_ (show FrB R B 53 w w5 from FrB.trans (show FrB R B 53 w w2.drew from Fr.of_below (HB.out.trans (HB2.out.mono HB.out.size)) _) hf5);have hk5:=FrB.heap hf5 (Za HK1.out HB2.out) HNR.out d_;have d3:=(rd hk5).1 0;have d4:=(rd hk5).1 1;simp at d3 d4;clear hw5 hf5 hk5;go_wp2_with (first|(go_at_call 135;refine (HTX.out _ _).mono ?_;rintro e w' ⟨rfl,rfl⟩)|(go_at_call 136;refine (HFL.out _ _).mono ?_;rintro e w' ⟨rfl,rfl⟩)|(go_at_call 138;refine (HNU.out _ _).mono ?_;rintro e w' ⟨rfl,rfl⟩));go_quiet (first|(go_at_call 135;exact Calls.quiet_of_same (HTX.out _ _))|(go_at_call 136;exact Calls.quiet_of_same (HFL.out _ _))|(go_at_call 138;exact Calls.quiet_of_same (HNU.out _ _)));exact m103_
theorem ZkC(R B j:Nat)(us fs:Array Value)(l:List Ln)(k:ZE)(kv:ZQ)(x y:Bool)(w0 w:World)(hW:Xe w0 w R B us fs l)(hM:Zz w0)(hP:Pow w0)(hK:Xu w kv k)(hkw:k.words.length<=1000)(hl:l.length<=100000000)
  (hx:us[j]?=some (.bool x)) (hy:fs[j]?=some (.bool y)) (hv:(Qo x).length<=1000000000)
  (hText:∀o W,Calls prog 135 #[.pointer (some ⟨R,o,none⟩),.string ⟨k.name.toArray⟩] W fun e w'=>e=.returned (.pointer (none))/\w'=W)
  (hFlag:∀o W,Calls prog 136 #[.pointer (some ⟨R,o,none⟩),.string ⟨k.name.toArray⟩] W fun e w'=>e=.returned (.pointer (some ⟨R,o+j,none⟩))/\w'=W)
  (hNumber:∀o W,Calls prog 138 #[.pointer (some ⟨R,o,none⟩),.string ⟨k.name.toArray⟩] W fun e w'=>e=.returned (.pointer (none))/\w'=W)
  :  Calls prog 96 #[.pointer (some ⟨R,0,none⟩),.agg (Zm kv).toArray] w fun e w'=>X6 w0 w R B us fs (l++Yy k.sec (if x=y then [] else [(k.name,Qo x)])) e w':=by
 have hsec:=hK.sec;have hname:=hK.name;have HKV:=h_ hK;obtain ⟨ks,kn,kf,kl,kk,wa,wn,wc⟩:=kv;simp only at hsec hname;subst hsec;subst hname;have hlt:R<w.heap.size:=n16_;have hB:=(Below.refl w.heap.size w).alloc l_ (.cells #[.string ⟨k.sec.toArray⟩,.string ⟨k.name.toArray⟩,.int .i64 kf,.bool kl,.int .i64 kk,.slice wa wn wc] 82);have HB:=h_ hB;have HW1:=h_ (hW.below hB);have HK1:=h_ (heap_alloc_new w (.cells #[.string ⟨k.sec.toArray⟩,.string ⟨k.name.toArray⟩,.int .i64 kf,.bool kl,.int .i64 kk,.slice wa wn wc] 82));have HTX:=h_ hText;have HFL:=h_ hFlag;have HNU:=h_ hNumber;have HM:=h_ hM;have HP:=h_ hP;have HL:=h_ hl;have HV:=h_ hv;have HX:=h_ hx;have HY:=h_ hy;have HKW:=h_ hkw;skip;unfold Zm X6;simp only;clear hB hW hM hP hK hl hv hx hy hText hFlag hNumber hkw;have HRD:=h_ (fun (W:World) (h:Below (w.alloc (.cells #[.string ⟨k.sec.toArray⟩,.string ⟨k.name.toArray⟩,.int .i64 kf,.bool kl,.int .i64 kk,.slice wa wn wc] 82)).heap.size (w.alloc (.cells #[.string ⟨k.sec.toArray⟩,.string ⟨k.name.toArray⟩,.int .i64 kf,.bool kl,.int .i64 kk,.slice wa wn wc] 82)) W)=>show W.cell? ⟨R,j,none⟩=some (.bool x)/\W.cell? ⟨R,35+j,none⟩=some (.bool y)/\W.cell? ⟨w.heap.size,0,none⟩=some (.string ⟨k.sec.toArray⟩)/\W.cell? ⟨w.heap.size,1,none⟩=some (.string ⟨k.name.toArray⟩) from
  ⟨((HW1.out.below h).rd HX.out HY.out).1,((HW1.out.below h).rd HX.out HY.out).2,(rd (Za HK1.out h)).1 0,(rd (Za HK1.out h)).1 1⟩)
 have HNR:=h_ (show w.heap.size≠R by omega);by_cases hxy:x=y
 ·rw [if_pos hxy]
  have e0:l++Yy k.sec []=l:=List.append_nil l;rw [e0];have e1:(x==y)=true:=n94_;have e2:(x !=y)=false:=n111_;clear hxy e0;go_enter func96,ntmps96;go_wp2_with fail;generalize w.alloc (.cells #[.string ⟨k.sec.toArray⟩,.string ⟨k.name.toArray⟩,.int .i64 kf,.bool kl,.int .i64 kk,.slice wa wn wc] 82)=w1 at HB HW1 HK1 HRD⊢;obtain ⟨d1,d2,d3,d4⟩:=HRD.out w1 b_;go_quiet (fail);go_wp2_with (first|(go_at_call 135;refine (HTX.out _ _).mono ?_;rintro e w' ⟨rfl,rfl⟩)|(go_at_call 136;refine (HFL.out _ _).mono ?_;rintro e w' ⟨rfl,rfl⟩)|(go_at_call 138;refine (HNU.out _ _).mono ?_;rintro e w' ⟨rfl,rfl⟩));go_quiet (first|(go_at_call 135;exact Calls.quiet_of_same (HTX.out _ _))|(go_at_call 136;exact Calls.quiet_of_same (HFL.out _ _))|(go_at_call 138;exact Calls.quiet_of_same (HNU.out _ _)));go_wp2_with (first|(go_at_call 135;refine (HTX.out _ _).mono ?_;rintro e w' ⟨rfl,rfl⟩)|(go_at_call 136;refine (HFL.out _ _).mono ?_;rintro e w' ⟨rfl,rfl⟩)|(go_at_call 138;refine (HNU.out _ _).mono ?_;rintro e w' ⟨rfl,rfl⟩));refine wp_region_held_drew (S:=fun V=>Below w1.heap.size w1 V) k_ (by repeat (first|exact Below.refl _ _|refine YH ?_|refine YA ?_)) (fun hHeld=>?_);refine u_ ?_;refine dB_ (i:=0) (v:=.pointer (some ⟨R,j,none⟩)) (gT_ rfl) (fun W hW=>by clear hW;go_simp) (u_ ?_);refine dB_ (i:=1) (v:=.bool true) (gT_ rfl) (fun W hW=>by clear hW;go_simp) (u_ ?_);refine dB_ (i:=2) (v:=.bool true) (gT_ rfl) (fun W hW=>by clear hW;go_simp) (u_ ?_);refine dB_ (i:=3) (v:=.pointer (some ⟨R,j,none⟩)) (gT_ rfl) (fun W hW=>by clear hW;go_simp) (u_ ?_);refine dB_ (i:=4) (v:=.pointer (some ⟨R,j,none⟩)) (gT_ rfl) (fun W hW=>by clear hW;go_simp) (u_ ?_);refine dB_ (i:=5) (v:=.bool x) (gT_ rfl) (fun W hW=>by obtain ⟨q1,q2,q3,q4⟩:=HRD.out W hW;clear hW;go_simp) (u_ ?_);refine dB_ (i:=6) (v:=.pointer (some ⟨R,35,none⟩)) (gT_ rfl) (fun W hW=>by clear hW;go_simp) (u_ ?_);refine dB_ (i:=7) (v:=.pointer (some ⟨w.heap.size,1,none⟩)) (gT_ rfl) (fun W hW=>by clear hW;go_simp) (u_ ?_);refine dB_ (i:=8) (v:=.string ⟨k.name.toArray⟩) (gT_ rfl) (fun W hW=>by obtain ⟨q1,q2,q3,q4⟩:=HRD.out W hW;clear hW;go_simp) (u_ ?_);refine wpAnyH_ready (rs:=[9]) k_ s_ (AllReadyH.cons (gT_ rfl) (fun K hK=>?_) (AllReadyH.nil));clear hHeld;rw [if_pos n18_];go_simp;refine (HFL.out _ _).mono ?_;rintro e w' ⟨rfl,rfl⟩;refine hK.out _ _ (by repeat (first|exact Below.refl _ _|refine YH ?_|refine YA ?_)) (fun hHeld=>?_);clear hK K;refine u_ ?_;refine dB_ (i:=10) (v:=.pointer (some ⟨R,35+j,none⟩)) (gT_ rfl) (fun W hW=>by clear hW;go_simp) (u_ ?_);refine dB_ (i:=11) (v:=.bool y) (gT_ rfl) (fun W hW=>by obtain ⟨q1,q2,q3,q4⟩:=HRD.out W hW;clear hW;go_simp) (u_ ?_);refine dB_ (i:=12) (v:=.bool false) (gT_ rfl) (fun W hW=>by clear hW;go_simp) (u_ ?_);refine dB_ (i:=13) (v:=.bool false) (gT_ rfl) (fun W hW=>by clear hW;go_simp) (u_ ?_);refine wpAnyH_done k_ ?_ _;clear hHeld;exact m102_
 ·rw [if_neg hxy]
  have e1:(x==y)=false:=beq_false_of_ne hxy;have e2:(x !=y)=true:=n111_;clear hxy;go_enter func96,ntmps96;go_wp2_with fail;generalize w.alloc (.cells #[.string ⟨k.sec.toArray⟩,.string ⟨k.name.toArray⟩,.int .i64 kf,.bool kl,.int .i64 kk,.slice wa wn wc] 82)=w1 at HB HW1 HK1 HRD⊢;obtain ⟨d1,d2,d3,d4⟩:=HRD.out w1 b_;go_quiet (fail);go_wp2_with (first|(go_at_call 135;refine (HTX.out _ _).mono ?_;rintro e w' ⟨rfl,rfl⟩)|(go_at_call 136;refine (HFL.out _ _).mono ?_;rintro e w' ⟨rfl,rfl⟩)|(go_at_call 138;refine (HNU.out _ _).mono ?_;rintro e w' ⟨rfl,rfl⟩));go_quiet (first|(go_at_call 135;exact Calls.quiet_of_same (HTX.out _ _))|(go_at_call 136;exact Calls.quiet_of_same (HFL.out _ _))|(go_at_call 138;exact Calls.quiet_of_same (HNU.out _ _)));go_wp2_with (first|(go_at_call 135;refine (HTX.out _ _).mono ?_;rintro e w' ⟨rfl,rfl⟩)|(go_at_call 136;refine (HFL.out _ _).mono ?_;rintro e w' ⟨rfl,rfl⟩)|(go_at_call 138;refine (HNU.out _ _).mono ?_;rintro e w' ⟨rfl,rfl⟩));refine wp_region_held_drew (S:=fun V=>Below w1.heap.size w1 V) k_ (by repeat (first|exact Below.refl _ _|refine YH ?_|refine YA ?_)) (fun hHeld=>?_);refine u_ ?_;refine dB_ (i:=0) (v:=.pointer (some ⟨R,j,none⟩)) (gT_ rfl) (fun W hW=>by clear hW;go_simp) (u_ ?_);refine dB_ (i:=1) (v:=.bool true) (gT_ rfl) (fun W hW=>by clear hW;go_simp) (u_ ?_);refine dB_ (i:=2) (v:=.bool true) (gT_ rfl) (fun W hW=>by clear hW;go_simp) (u_ ?_);refine dB_ (i:=3) (v:=.pointer (some ⟨R,j,none⟩)) (gT_ rfl) (fun W hW=>by clear hW;go_simp) (u_ ?_);refine dB_ (i:=4) (v:=.pointer (some ⟨R,j,none⟩)) (gT_ rfl) (fun W hW=>by clear hW;go_simp) (u_ ?_);refine dB_ (i:=5) (v:=.bool x) (gT_ rfl) (fun W hW=>by obtain ⟨q1,q2,q3,q4⟩:=HRD.out W hW;clear hW;go_simp) (u_ ?_);refine dB_ (i:=6) (v:=.pointer (some ⟨R,35,none⟩)) (gT_ rfl) (fun W hW=>by clear hW;go_simp) (u_ ?_);refine dB_ (i:=7) (v:=.pointer (some ⟨w.heap.size,1,none⟩)) (gT_ rfl) (fun W hW=>by clear hW;go_simp) (u_ ?_);refine dB_ (i:=8) (v:=.string ⟨k.name.toArray⟩) (gT_ rfl) (fun W hW=>by obtain ⟨q1,q2,q3,q4⟩:=HRD.out W hW;clear hW;go_simp) (u_ ?_);refine wpAnyH_ready (rs:=[9]) k_ s_ (AllReadyH.cons (gT_ rfl) (fun K hK=>?_) (AllReadyH.nil));clear hHeld;rw [if_pos n18_];go_simp;refine (HFL.out _ _).mono ?_;rintro e w' ⟨rfl,rfl⟩;refine hK.out _ _ (by repeat (first|exact Below.refl _ _|refine YH ?_|refine YA ?_)) (fun hHeld=>?_);clear hK K;refine u_ ?_;refine dB_ (i:=10) (v:=.pointer (some ⟨R,35+j,none⟩)) (gT_ rfl) (fun W hW=>by clear hW;go_simp) (u_ ?_);refine dB_ (i:=11) (v:=.bool y) (gT_ rfl) (fun W hW=>by obtain ⟨q1,q2,q3,q4⟩:=HRD.out W hW;clear hW;go_simp) (u_ ?_);refine dB_ (i:=12) (v:=.bool true) (gT_ rfl) (fun W hW=>by clear hW;go_simp) (u_ ?_);refine dB_ (i:=13) (v:=.bool true) (gT_ rfl) (fun W hW=>by clear hW;go_simp) (u_ ?_);refine wpAnyH_done k_ ?_ _;clear hHeld;go_wp2_with fail;refine XG (P:=fun V=>Code.wp _ _ _ _ V) (w1:=w1) (by repeat (first|exact Below.refl _ _|refine YH ?_|refine YA ?_)) (fun w2 hb2=>?_);have HB2:=h_ (show Below w1.heap.size w1 w2.drew from YA hb2);clear hb2 d1 d2 d3 d4;refine Zk (S:=fun V=>Below w1.heap.size w1 V) 9 k_ k_ HB2.out (fun hHeld=>?_);refine u_ ?_;refine dT_ (i:=0) (v:=.pointer (some ⟨R,0,none⟩)) (gT_ rfl) (fun W hW=>by clear hW;go_simp) (u_ ?_);refine dT_ (i:=1) (v:=.pointer (some ⟨w.heap.size,0,none⟩)) (gT_ rfl) (fun W hW=>by clear hW;go_simp) (u_ ?_);refine dT_ (i:=2) (v:=.string ⟨k.sec.toArray⟩) (gT_ rfl) (fun W hW=>by obtain ⟨q1,q2,q3,q4⟩:=HRD.out W hW;clear hW;go_simp) (u_ ?_);refine dT_ (i:=3) (v:=.pointer (some ⟨w.heap.size,1,none⟩)) (gT_ rfl) (fun W hW=>by clear hW;go_simp) (u_ ?_);refine dT_ (i:=4) (v:=.string ⟨k.name.toArray⟩) (gT_ rfl) (fun W hW=>by obtain ⟨q1,q2,q3,q4⟩:=HRD.out W hW;clear hW;go_simp) (u_ ?_);refine dT_ (i:=5) (v:=.pointer (some ⟨R,j,none⟩)) (gT_ rfl) (fun W hW=>by clear hW;go_simp) (u_ ?_);refine dT_ (i:=6) (v:=.pointer (some ⟨R,j,none⟩)) (gT_ rfl) (fun W hW=>by clear hW;go_simp) (u_ ?_);refine dT_ (i:=7) (v:=.bool x) (gT_ rfl) (fun W hW=>by obtain ⟨q1,q2,q3,q4⟩:=HRD.out W hW;clear hW;go_simp) (u_ ?_);refine Zu (i:=8) (gT_ rfl) k_ k_ (fun K hK=>?_);clear hHeld;rw [if_pos n18_];go_simp;refine (ZrH x _).mono ?_;rintro e w' ⟨rfl,rfl⟩;refine hK.out _ _ HB2.out (fun hHeld=>?_);clear hK K;refine u_ ?_;refine ZF k_ ?_;clear hHeld;go_wp2_with fail;refine (J7 R B us fs l k.sec k.name (Qo x) w0 w2.drew (HW1.out.below HB2.out) HM.out HL.out HV.out).mono ?_;rintro e w5 ⟨rfl,hw5,hf5⟩;have HW5:=h_ hw5;have HF5:=h_ (show FrB R B 53 w w5 from FrB.trans (show FrB R B 53 w w2.drew from Fr.of_below (HB.out.trans (HB2.out.mono HB.out.size)) _) hf5);have hk5:=FrB.heap hf5 (Za HK1.out HB2.out) HNR.out d_;have d3:=(rd hk5).1 0;have d4:=(rd hk5).1 1;simp at d3 d4;clear hw5 hf5 hk5;exact m103_
theorem ZkA(R B j:Nat)(us fs:Array Value)(l:List Ln)(k:ZE)(kv:ZQ)(x y:Int)(w0 w:World)(hW:Xe w0 w R B us fs l)(hM:Zz w0)(hP:Pow w0)(hK:Xu w kv k)(hkw:k.words.length<=1000)(hl:l.length<=100000000)
  (hx:us[j]?=some (.int .i64 x)) (hy:fs[j]?=some (.int .i64 y)) (hv:(Qv k x).length<=1000000000) (hxr : -9223372036854775808<=x/\x<=9223372036854775807)
  (hText:∀o W,Calls prog 135 #[.pointer (some ⟨R,o,none⟩),.string ⟨k.name.toArray⟩] W fun e w'=>e=.returned (.pointer (none))/\w'=W)
  (hFlag:∀o W,Calls prog 136 #[.pointer (some ⟨R,o,none⟩),.string ⟨k.name.toArray⟩] W fun e w'=>e=.returned (.pointer (none))/\w'=W)
  (hNumber:∀o W,Calls prog 138 #[.pointer (some ⟨R,o,none⟩),.string ⟨k.name.toArray⟩] W fun e w'=>e=.returned (.pointer (some ⟨R,o+j,none⟩))/\w'=W)
  :  Calls prog 96 #[.pointer (some ⟨R,0,none⟩),.agg (Zm kv).toArray] w fun e w'=>X6 w0 w R B us fs (l++Yy k.sec (if x=y then [] else [(k.name,Qv k x)])) e w':=by
 have hsec:=hK.sec;have hname:=hK.name;have HKV:=h_ hK;obtain ⟨ks,kn,kf,kl,kk,wa,wn,wc⟩:=kv;simp only at hsec hname;subst hsec;subst hname;have hlt:R<w.heap.size:=n16_;have hB:=(Below.refl w.heap.size w).alloc l_ (.cells #[.string ⟨k.sec.toArray⟩,.string ⟨k.name.toArray⟩,.int .i64 kf,.bool kl,.int .i64 kk,.slice wa wn wc] 82);have HB:=h_ hB;have HW1:=h_ (hW.below hB);have HK1:=h_ (heap_alloc_new w (.cells #[.string ⟨k.sec.toArray⟩,.string ⟨k.name.toArray⟩,.int .i64 kf,.bool kl,.int .i64 kk,.slice wa wn wc] 82));have HTX:=h_ hText;have HFL:=h_ hFlag;have HNU:=h_ hNumber;have HM:=h_ hM;have HP:=h_ hP;have HL:=h_ hl;have HV:=h_ hv;have HX:=h_ hx;have HY:=h_ hy;have HKW:=h_ hkw;have HXR:=h_ hxr;clear hxr;unfold Zm X6;simp only;clear hB hW hM hP hK hl hv hx hy hText hFlag hNumber hkw;have HRD:=h_ (fun (W:World) (h:Below (w.alloc (.cells #[.string ⟨k.sec.toArray⟩,.string ⟨k.name.toArray⟩,.int .i64 kf,.bool kl,.int .i64 kk,.slice wa wn wc] 82)).heap.size (w.alloc (.cells #[.string ⟨k.sec.toArray⟩,.string ⟨k.name.toArray⟩,.int .i64 kf,.bool kl,.int .i64 kk,.slice wa wn wc] 82)) W)=>show W.cell? ⟨R,j,none⟩=some (.int .i64 x)/\W.cell? ⟨R,35+j,none⟩=some (.int .i64 y)/\W.cell? ⟨w.heap.size,0,none⟩=some (.string ⟨k.sec.toArray⟩)/\W.cell? ⟨w.heap.size,1,none⟩=some (.string ⟨k.name.toArray⟩) from
  ⟨((HW1.out.below h).rd HX.out HY.out).1,((HW1.out.below h).rd HX.out HY.out).2,(rd (Za HK1.out h)).1 0,(rd (Za HK1.out h)).1 1⟩)
 have HNR:=h_ (show w.heap.size≠R by omega);by_cases hxy:x=y
 ·rw [if_pos hxy]
  have e0:l++Yy k.sec []=l:=List.append_nil l;rw [e0];have e1:(x==y)=true:=n94_;have e2:(x !=y)=false:=n111_;clear hxy e0;go_enter func96,ntmps96;go_wp2_with fail;generalize w.alloc (.cells #[.string ⟨k.sec.toArray⟩,.string ⟨k.name.toArray⟩,.int .i64 kf,.bool kl,.int .i64 kk,.slice wa wn wc] 82)=w1 at HB HW1 HK1 HRD⊢;obtain ⟨d1,d2,d3,d4⟩:=HRD.out w1 b_;go_quiet (fail);go_wp2_with (first|(go_at_call 135;refine (HTX.out _ _).mono ?_;rintro e w' ⟨rfl,rfl⟩)|(go_at_call 136;refine (HFL.out _ _).mono ?_;rintro e w' ⟨rfl,rfl⟩)|(go_at_call 138;refine (HNU.out _ _).mono ?_;rintro e w' ⟨rfl,rfl⟩));go_quiet (first|(go_at_call 135;exact Calls.quiet_of_same (HTX.out _ _))|(go_at_call 136;exact Calls.quiet_of_same (HFL.out _ _))|(go_at_call 138;exact Calls.quiet_of_same (HNU.out _ _)));go_wp2_with (first|(go_at_call 135;refine (HTX.out _ _).mono ?_;rintro e w' ⟨rfl,rfl⟩)|(go_at_call 136;refine (HFL.out _ _).mono ?_;rintro e w' ⟨rfl,rfl⟩)|(go_at_call 138;refine (HNU.out _ _).mono ?_;rintro e w' ⟨rfl,rfl⟩));go_quiet (first|(go_at_call 135;exact Calls.quiet_of_same (HTX.out _ _))|(go_at_call 136;exact Calls.quiet_of_same (HFL.out _ _))|(go_at_call 138;exact Calls.quiet_of_same (HNU.out _ _)));go_wp2_with (first|(go_at_call 135;refine (HTX.out _ _).mono ?_;rintro e w' ⟨rfl,rfl⟩)|(go_at_call 136;refine (HFL.out _ _).mono ?_;rintro e w' ⟨rfl,rfl⟩)|(go_at_call 138;refine (HNU.out _ _).mono ?_;rintro e w' ⟨rfl,rfl⟩));refine wp_region_held_drew (S:=fun V=>Below w1.heap.size w1 V) k_ (by repeat (first|exact Below.refl _ _|refine YH ?_|refine YA ?_)) (fun hHeld=>?_);refine u_ ?_;refine dB_ (i:=0) (v:=.pointer (some ⟨R,j,none⟩)) (gT_ rfl) (fun W hW=>by clear hW;go_simp) (u_ ?_);refine dB_ (i:=1) (v:=.bool true) (gT_ rfl) (fun W hW=>by clear hW;go_simp) (u_ ?_);refine dB_ (i:=2) (v:=.bool true) (gT_ rfl) (fun W hW=>by clear hW;go_simp) (u_ ?_);refine dB_ (i:=3) (v:=.pointer (some ⟨R,j,none⟩)) (gT_ rfl) (fun W hW=>by clear hW;go_simp) (u_ ?_);refine dB_ (i:=4) (v:=.pointer (some ⟨R,j,none⟩)) (gT_ rfl) (fun W hW=>by clear hW;go_simp) (u_ ?_);refine dB_ (i:=5) (v:=.int .i64 x) (gT_ rfl) (fun W hW=>by obtain ⟨q1,q2,q3,q4⟩:=HRD.out W hW;clear hW;go_simp) (u_ ?_);refine dB_ (i:=6) (v:=.pointer (some ⟨R,35,none⟩)) (gT_ rfl) (fun W hW=>by clear hW;go_simp) (u_ ?_);refine dB_ (i:=7) (v:=.pointer (some ⟨w.heap.size,1,none⟩)) (gT_ rfl) (fun W hW=>by clear hW;go_simp) (u_ ?_);refine dB_ (i:=8) (v:=.string ⟨k.name.toArray⟩) (gT_ rfl) (fun W hW=>by obtain ⟨q1,q2,q3,q4⟩:=HRD.out W hW;clear hW;go_simp) (u_ ?_);refine wpAnyH_ready (rs:=[9]) k_ s_ (AllReadyH.cons (gT_ rfl) (fun K hK=>?_) (AllReadyH.nil));clear hHeld;rw [if_pos n18_];go_simp;refine (HNU.out _ _).mono ?_;rintro e w' ⟨rfl,rfl⟩;refine hK.out _ _ (by repeat (first|exact Below.refl _ _|refine YH ?_|refine YA ?_)) (fun hHeld=>?_);clear hK K;refine u_ ?_;refine dB_ (i:=10) (v:=.pointer (some ⟨R,35+j,none⟩)) (gT_ rfl) (fun W hW=>by clear hW;go_simp) (u_ ?_);refine dB_ (i:=11) (v:=.int .i64 y) (gT_ rfl) (fun W hW=>by obtain ⟨q1,q2,q3,q4⟩:=HRD.out W hW;clear hW;go_simp) (u_ ?_);refine dB_ (i:=12) (v:=.bool false) (gT_ rfl) (fun W hW=>by clear hW;go_simp) (u_ ?_);refine dB_ (i:=13) (v:=.bool false) (gT_ rfl) (fun W hW=>by clear hW;go_simp) (u_ ?_);refine wpAnyH_done k_ ?_ _;clear hHeld;exact m104_
 ·rw [if_neg hxy]
  have e1:(x==y)=false:=beq_false_of_ne hxy;have e2:(x !=y)=true:=n111_;clear hxy;go_enter func96,ntmps96;go_wp2_with fail;generalize w.alloc (.cells #[.string ⟨k.sec.toArray⟩,.string ⟨k.name.toArray⟩,.int .i64 kf,.bool kl,.int .i64 kk,.slice wa wn wc] 82)=w1 at HB HW1 HK1 HRD⊢;obtain ⟨d1,d2,d3,d4⟩:=HRD.out w1 b_;go_quiet (fail);go_wp2_with (first|(go_at_call 135;refine (HTX.out _ _).mono ?_;rintro e w' ⟨rfl,rfl⟩)|(go_at_call 136;refine (HFL.out _ _).mono ?_;rintro e w' ⟨rfl,rfl⟩)|(go_at_call 138;refine (HNU.out _ _).mono ?_;rintro e w' ⟨rfl,rfl⟩));go_quiet (first|(go_at_call 135;exact Calls.quiet_of_same (HTX.out _ _))|(go_at_call 136;exact Calls.quiet_of_same (HFL.out _ _))|(go_at_call 138;exact Calls.quiet_of_same (HNU.out _ _)));go_wp2_with (first|(go_at_call 135;refine (HTX.out _ _).mono ?_;rintro e w' ⟨rfl,rfl⟩)|(go_at_call 136;refine (HFL.out _ _).mono ?_;rintro e w' ⟨rfl,rfl⟩)|(go_at_call 138;refine (HNU.out _ _).mono ?_;rintro e w' ⟨rfl,rfl⟩));go_quiet (first|(go_at_call 135;exact Calls.quiet_of_same (HTX.out _ _))|(go_at_call 136;exact Calls.quiet_of_same (HFL.out _ _))|(go_at_call 138;exact Calls.quiet_of_same (HNU.out _ _)));go_wp2_with (first|(go_at_call 135;refine (HTX.out _ _).mono ?_;rintro e w' ⟨rfl,rfl⟩)|(go_at_call 136;refine (HFL.out _ _).mono ?_;rintro e w' ⟨rfl,rfl⟩)|(go_at_call 138;refine (HNU.out _ _).mono ?_;rintro e w' ⟨rfl,rfl⟩));refine wp_region_held_drew (S:=fun V=>Below w1.heap.size w1 V) k_ (by repeat (first|exact Below.refl _ _|refine YH ?_|refine YA ?_)) (fun hHeld=>?_);refine u_ ?_;refine dB_ (i:=0) (v:=.pointer (some ⟨R,j,none⟩)) (gT_ rfl) (fun W hW=>by clear hW;go_simp) (u_ ?_);refine dB_ (i:=1) (v:=.bool true) (gT_ rfl) (fun W hW=>by clear hW;go_simp) (u_ ?_);refine dB_ (i:=2) (v:=.bool true) (gT_ rfl) (fun W hW=>by clear hW;go_simp) (u_ ?_);refine dB_ (i:=3) (v:=.pointer (some ⟨R,j,none⟩)) (gT_ rfl) (fun W hW=>by clear hW;go_simp) (u_ ?_);refine dB_ (i:=4) (v:=.pointer (some ⟨R,j,none⟩)) (gT_ rfl) (fun W hW=>by clear hW;go_simp) (u_ ?_);refine dB_ (i:=5) (v:=.int .i64 x) (gT_ rfl) (fun W hW=>by obtain ⟨q1,q2,q3,q4⟩:=HRD.out W hW;clear hW;go_simp) (u_ ?_);refine dB_ (i:=6) (v:=.pointer (some ⟨R,35,none⟩)) (gT_ rfl) (fun W hW=>by clear hW;go_simp) (u_ ?_);refine dB_ (i:=7) (v:=.pointer (some ⟨w.heap.size,1,none⟩)) (gT_ rfl) (fun W hW=>by clear hW;go_simp) (u_ ?_);refine dB_ (i:=8) (v:=.string ⟨k.name.toArray⟩) (gT_ rfl) (fun W hW=>by obtain ⟨q1,q2,q3,q4⟩:=HRD.out W hW;clear hW;go_simp) (u_ ?_);refine wpAnyH_ready (rs:=[9]) k_ s_ (AllReadyH.cons (gT_ rfl) (fun K hK=>?_) (AllReadyH.nil));clear hHeld;rw [if_pos n18_];go_simp;refine (HNU.out _ _).mono ?_;rintro e w' ⟨rfl,rfl⟩;refine hK.out _ _ (by repeat (first|exact Below.refl _ _|refine YH ?_|refine YA ?_)) (fun hHeld=>?_);clear hK K;refine u_ ?_;refine dB_ (i:=10) (v:=.pointer (some ⟨R,35+j,none⟩)) (gT_ rfl) (fun W hW=>by clear hW;go_simp) (u_ ?_);refine dB_ (i:=11) (v:=.int .i64 y) (gT_ rfl) (fun W hW=>by obtain ⟨q1,q2,q3,q4⟩:=HRD.out W hW;clear hW;go_simp) (u_ ?_);refine dB_ (i:=12) (v:=.bool true) (gT_ rfl) (fun W hW=>by clear hW;go_simp) (u_ ?_);refine dB_ (i:=13) (v:=.bool true) (gT_ rfl) (fun W hW=>by clear hW;go_simp) (u_ ?_);refine wpAnyH_done k_ ?_ _;clear hHeld;go_wp2_with fail;refine XG (P:=fun V=>Code.wp _ _ _ _ V) (w1:=w1) (by repeat (first|exact Below.refl _ _|refine YH ?_|refine YA ?_)) (fun w2 hb2=>?_);have HB2:=h_ (show Below w1.heap.size w1 w2.drew from YA hb2);clear hb2 d1 d2 d3 d4;refine Zk (S:=fun V=>Below w1.heap.size w1 V) 10 k_ k_ HB2.out (fun hHeld=>?_);refine u_ ?_;refine dT_ (i:=0) (v:=.pointer (some ⟨R,0,none⟩)) (gT_ rfl) (fun W hW=>by clear hW;go_simp) (u_ ?_);refine dT_ (i:=1) (v:=.pointer (some ⟨w.heap.size,0,none⟩)) (gT_ rfl) (fun W hW=>by clear hW;go_simp) (u_ ?_);refine dT_ (i:=2) (v:=.string ⟨k.sec.toArray⟩) (gT_ rfl) (fun W hW=>by obtain ⟨q1,q2,q3,q4⟩:=HRD.out W hW;clear hW;go_simp) (u_ ?_);refine dT_ (i:=3) (v:=.pointer (some ⟨w.heap.size,1,none⟩)) (gT_ rfl) (fun W hW=>by clear hW;go_simp) (u_ ?_);refine dT_ (i:=4) (v:=.string ⟨k.name.toArray⟩) (gT_ rfl) (fun W hW=>by obtain ⟨q1,q2,q3,q4⟩:=HRD.out W hW;clear hW;go_simp) (u_ ?_);refine dT_ (i:=5) (v:=.agg #[.string ⟨k.sec.toArray⟩,.string ⟨k.name.toArray⟩,.int .i64 kf,.bool kl,.int .i64 kk,.slice wa wn wc]) (gT_ rfl) (fun W hW=>ZbK 82 (.tmp 3) w.heap.size #[.string ⟨k.sec.toArray⟩,.string ⟨k.name.toArray⟩,.int .i64 kf,.bool kl,.int .i64 kk,.slice wa wn wc] 82 _ rfl rfl (Za HK1.out hW) rfl rfl n18_) (u_ ?_);refine dT_ (i:=6) (v:=.pointer (some ⟨R,j,none⟩)) (gT_ rfl) (fun W hW=>by clear hW;go_simp) (u_ ?_);refine dT_ (i:=7) (v:=.pointer (some ⟨R,j,none⟩)) (gT_ rfl) (fun W hW=>by clear hW;go_simp) (u_ ?_);refine dT_ (i:=8) (v:=.int .i64 x) (gT_ rfl) (fun W hW=>by obtain ⟨q1,q2,q3,q4⟩:=HRD.out W hW;clear hW;go_simp) (u_ ?_);refine Zu (i:=9) (gT_ rfl) k_ k_ (fun K hK=>?_);clear hHeld;rw [if_pos n18_];go_simp;refine (Znc k _ x _ (HKV.out.below (HB.out.trans (HB2.out.mono HB.out.size))) HKW.out (HP.out.below (HW1.out.below HB2.out).base) HXR.out.1 HXR.out.2).mono ?_;rintro e w3 ⟨rfl,hb3⟩;have HB3:=h_ (show Below w1.heap.size w1 w3 from HB2.out.trans (hb3.mono HB2.out.size));clear hb3;refine hK.out _ _ HB3.out (fun hHeld=>?_);clear hK K;refine u_ ?_;refine ZF k_ ?_;clear hHeld;go_wp2_with fail;refine (J7 R B us fs l k.sec k.name (Qv k x) w0 w3 (HW1.out.below HB3.out) HM.out HL.out HV.out).mono ?_;rintro e w5 ⟨rfl,hw5,hf5⟩;have HW5:=h_ hw5;have HF5:=h_ (show FrB R B 53 w w5 from FrB.trans (show FrB R B 53 w w3 from Fr.of_below (HB.out.trans (HB3.out.mono HB.out.size)) _) hf5);have hk5:=FrB.heap hf5 (Za HK1.out HB3.out) HNR.out d_;have d3:=(rd hk5).1 0;have d4:=(rd hk5).1 1;simp at d3 d4;clear hw5 hf5 hk5;exact m105_
end Go.Proofs.YtmgmbeipbeknaaaGreatDoor
