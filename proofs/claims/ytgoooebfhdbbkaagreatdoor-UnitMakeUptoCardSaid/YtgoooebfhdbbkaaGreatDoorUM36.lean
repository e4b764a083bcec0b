import Derived.Test.YtgoooebfhdbbkaaGreatDoorUM14
import Derived.Test.YtgoooebfhdbbkaaGreatDoorUM35
namespace Go.Proofs.YtgoooebfhdbbkaaGreatDoor
open Go.Proofs.Tryz
open Go Go.RowKit
set_option linter.unusedVariables false
set_option linter.unusedSimpArgs false
set_option maxHeartbeats 16000000
set_option maxRecDepth 100000
theorem m139_{p:Prop}(h:p:=by
  have hBV:Below w.heap.size w ((w.alloc (.cells #[.bool false,.slice none 0 0] 45)).alloc (.cells #[.bool false,.slice none 0 0] 45)):=HBV;have hZ:((w.alloc (.cells #[.bool false,.slice none 0 0] 45)).alloc (.cells #[.bool false,.slice none 0 0] 45)).heap[w.heap.size]?=some (.cells #[.bool false,.slice none 0 0] 45 (0,0)):=HZV;have hE:((w.alloc (.cells #[.bool false,.slice none 0 0] 45)).alloc (.cells #[.bool false,.slice none 0 0] 45)).heap[w.heap.size+1]?=some (.cells #[.bool false,.slice none 0 0] 45 (0,0)):=HEV;refine (HSP.out _).mono ?_;rintro e w5 ⟨hb5,he⟩;have HB5:=h_ (hBV.trans (hb5.mono hBV.size));obtain ⟨cc,fc,-,-⟩:=rd (QO hZ hb5);have c0:=cc 0;have c1:=cc 1;have f0:=fc 0;have f1:=fc 1;obtain ⟨dd,gc,-,-⟩:=rd (QO hE hb5);have d0:=dd 0;have d1:=dd 1;have g0:=gc 0;have g1:=gc 1;simp only [List.getElem?_toArray,List.getElem?_cons_zero,List.getElem?_cons_succ] at c0 c1 d0 d1;have hne:w.heap.size≠w.heap.size+1:=o_;clear cc fc dd gc hBV hZ hE hb5 HSP;cases res with
  |error q=>
   exact m142_
  |ok l=>
   obtain ⟨v,rfl,hown⟩:=he;obtain ⟨oa,cap,rfl⟩:=ownsRow_form hown;have hrow:=Zj.of_own hown;have HOW:=h_ (Qp (B':=w.heap.size+2) hown s_);clear hown;cases l with
   |nil=>
    exact m144_
   |cons x t=>
    obtain ⟨b,o,rfl,k0⟩:=hrow 0 s_;simp only [List.getElem_cons_zero,Nat.add_zero] at k0;have hpos:((x::t).length:Int)≠0:=n62_;have hpos1:(((x::t).length:Int)==0)=false:=n53_;have hpos2:(0:Int)<((x::t).length:Int):=o_;have hpos3:0<(x::t).length:=s_;by_cases hx:x=[]
    ·exact m143_
    ·have hxe:List.isEmpty x=false:=by cases x with|nil=>exact absurd rfl hx|cons a u=>rfl
     have HN:=h_ (show true=r from by have h9:(!List.isEmpty x)=r:=HR.out;rw [hxe] at h9;exact h9);have HC:=h_ (HX.out x t rfl hx);clear hrow HX;generalize (x::t).length=n at *;go_wp2_with fail;refine bodyPost_ret (v:=.tuple #[.agg #[.bool false,.slice (some ⟨b,o,none⟩) n cap],.bool true]) ?_ rfl ⟨⟨_,n61_,rfl,false,some ⟨b,o,none⟩,n,cap,rfl,fun c hc=>⟨hPF.out.symm.trans (HC.out c hc).1,(HC.out c hc).2.1,n11_⟩⟩,?_⟩
     ·simp [results,results84,go_sem,c0,c1,d0,d1]
     ·exact m141_):p:=h
theorem m140_{p:Prop}(h:p:=by
  go_wp2_with fail;refine bodyPost_ret (v:=.tuple #[.agg #[.bool false,.slice none 0 0],.bool false]) ?_ rfl ⟨⟨_,n61_,rfl,false,none,0,0,rfl,fun c hc=>(HNX.out HN.out c hc).elim⟩,?_⟩
  ·simp [results,results84,go_sem,c0,c1]
  ·exact (HB5.out.setCell l_ _).setCell l_ _):p:=h
theorem m141_{p:Prop}(h:p:=by exact ((HB5.out.setCell (p:=⟨w.heap.size+1,1,none⟩) s_ _).setCell l_ _).setCell l_ _):p:=h
theorem m142_{p:Prop}(h:p:=by
  obtain rfl:=he;have HN:=h_ (show false=r from HR.out);by_cases hc0:(q:Int)=0
  ·rw [hc0]
   exact m140_
  ·have hc1:((q:Int)!=0)=true:=n125_
   exact m140_):p:=h
theorem m143_{p:Prop}(h:p:=by subst hx;have HN:=h_ (show false=r from HR.out);clear hrow;generalize (([]:Str)::t).length=n at *;exact m140_):p:=h
theorem m144_{p:Prop}(h:p:=by have HN:=h_ (show false=r from HR.out);simp only [List.length_nil];exact m140_):p:=h
theorem QO{w w':World}{b:Nat}{o:Obj}(h:w.heap[b]?=some o)(hb:Below w.heap.size w w'):w'.heap[b]?=some o:=(Fr.of_below hb (fun _=>False)).heap h (fun e=>e)
theorem ZnU(c:UInt8)(t:Str):Lib.trimPrefix (c::t) [45]=if c=45 then t else c::t:=by
 unfold Lib.trimPrefix;by_cases h:c=45
 ·subst h;simp [Lib.hasPrefix]
 ·simp [Lib.hasPrefix,h,Ne.symm h]
def ZqA(res:Except Nat (List Str)):Bool:=match res with
 |.ok (x::t)=>!x.isEmpty
 |_=>false
theorem Zpz(s:Str):ZqA (split (Lib.trimPrefix s [45]))=(Xw s).isSome:=by
 unfold ZqA Xw;cases split (Lib.trimPrefix s [45]) with
 |error c=>rfl
 |ok l=>
  cases l with
  |nil=>rfl
  |cons x t=>
   cases x with
   |nil=>rfl
   |cons a u=>simp
theorem Qp{w:World}{B B' e size n:Nat}{v:Value}{xs:List Value}(h:w.ownsRow B e size v n xs)(hB:B'<=B):w.ownsRow B' e size v n xs:=by
 refine ⟨h.1,?_⟩;rcases h.2 with hn|⟨g,cap,cur,e1,hb,rest⟩
 ·exact .inl hn
 ·exact .inr ⟨g,cap,cur,e1,Nat.le_trans hB hb,rest⟩
def Zrz(w w':World)(s:Str)(x:Value):Prop:=∃d wa wn wc,x=.agg #[.bool d,.slice wa wn wc]/\∀c,Xw s=some c->d=c.1/\wn=c.2.length/\w'.ownsRow w.heap.size 9 1 (.slice wa wn wc) wn (Ze c.2)
theorem ZfQ(s:Str)(w:World)(hs:s.length<=1000000000)(r:Bool)(hr:(Xw s).isSome=r) :
  Calls prog 84 #[.string ⟨s.toArray⟩] w fun e w'=>(∃x,e=.returned (.tuple #[x,.bool r])/\x.cells.size=2/\Zrz w w' s x)/\Below w.heap.size w w':=by
 have HX:=h_ (show ∀x t,split (Lib.trimPrefix s [45])=.ok (x::t)->x≠[]->∀c,Xw s=some c->Lib.hasPrefix s [45]=c.1/\(x::t).length=c.2.length/\Ze (x::t)=Ze c.2 from by
  intro x t h hx c hc;unfold Xw at hc;rw [h] at hc;simp only [if_neg hx] at hc;injection hc with hc
  subst hc;exact ⟨rfl,rfl,rfl⟩)
 have HNX:=h_ (fun (h:false=r) c (hc:Xw s=some c)=>show False from by rw [<-h,hc] at hr;cases hr);rw [<-Zpz] at hr;have hsz:(⟨s.toArray⟩:ByteArray).size=s.length:=n29_;obtain ⟨p,hp⟩:=e_ (Lib.trimPrefix s [45]);rw [<-hp] at hr HX;have hpl:p.length<=1000000000:=by
  rw [hp];unfold Lib.trimPrefix;split
  ·rw [List.length_drop];omega
  ·exact hs
 obtain ⟨res,hres⟩:∃res,split p=res:=⟨_,rfl⟩;rw [hres] at hr HX;have HSP:=h_ (fun V=>ZdP ⟨p.toArray⟩ V n51_ res (by
  have:=ZhN p
  rw [show (⟨p.toArray⟩:ByteArray).size=p.length by simp [ByteArray.size]];exact this.trans hres))
 have HR:=h_ hr;clear hres hr;cases s with
 |nil=>
  have hp':p=[]:=hp;subst hp';clear hsz hs hp;have HSP:Hid (∀V:World,Calls prog 129 #[.string ⟨#[]⟩] V fun e w'=>Zq4 V res e w'):=HSP;show Calls prog 84 #[.string ⟨#[]⟩] w _;go_enter func84,ntmps84;go_wp2_with fail;have hz1:(w.alloc (.cells #[.bool false,.slice none 0 0] 45)).heap.size=w.heap.size+1:=s_;have HBV:Below w.heap.size w ((w.alloc (.cells #[.bool false,.slice none 0 0] 45)).alloc (.cells #[.bool false,.slice none 0 0] 45)):=(b_.alloc l_ _).alloc s_ _;have HZV:((w.alloc (.cells #[.bool false,.slice none 0 0] 45)).alloc (.cells #[.bool false,.slice none 0 0] 45)).heap[w.heap.size]?=some (.cells #[.bool false,.slice none 0 0] 45 (0,0)):=heap_alloc (heap_alloc_new w _) _;have HEV:((w.alloc (.cells #[.bool false,.slice none 0 0] 45)).alloc (.cells #[.bool false,.slice none 0 0] 45)).heap[w.heap.size+1]?=some (.cells #[.bool false,.slice none 0 0] 45 (0,0)):=n116_;have hPF:=h_ (show Lib.hasPrefix ([]:Str) [45]=false by simp [Lib.hasPrefix,List.isPrefixOf]);exact m139_
 |cons c t=>
  rw [ZnU] at hp;by_cases hc:c=45
  ·rw [if_pos hc] at hp
   subst hc;subst hp;go_enter func84,ntmps84;have hpos:(1:Int)<=(p.length:Int)+1:=o_;have hpos2:0<(⟨(45::p).toArray⟩:ByteArray).size:=by rw [hsz];simp
   have hq0:((((⟨(45::p).toArray⟩:ByteArray)[0]'hpos2).toNat:Int)==45)=true:=rfl;have HEX:=h_ (show (⟨(45::p).toArray⟩:ByteArray).extract 1 (p.length+1)=⟨p.toArray⟩ from by
    rw [show p.length+1=(⟨(45::p).toArray⟩:ByteArray).size by rw [hsz];simp];apply Yb;rw [Lib.extract_to_end];rfl)
   go_wp2_with fail;go_region_held3 (fun w'=>w'.frozen? ⟨w.heap.size+1,0,none⟩=false) (go_keep) (first|fail);rename_i hHeld;clear hHeld;rw [HEX.out];have hz1:(w.alloc (.cells #[.bool false,.slice none 0 0] 45)).heap.size=w.heap.size+1:=s_;have HBV:Below w.heap.size w (((w.alloc (.cells #[.bool false,.slice none 0 0] 45)).alloc (.cells #[.bool true,.slice none 0 0] 45)).drew):=((b_.alloc l_ _).alloc s_ _).trans (Zb ⟨1,rfl⟩);have HZV:(((w.alloc (.cells #[.bool false,.slice none 0 0] 45)).alloc (.cells #[.bool true,.slice none 0 0] 45)).drew).heap[w.heap.size]?=some (.cells #[.bool false,.slice none 0 0] 45 (0,0)):=heap_alloc (heap_alloc_new w _) _;have HEV:(((w.alloc (.cells #[.bool false,.slice none 0 0] 45)).alloc (.cells #[.bool true,.slice none 0 0] 45)).drew).heap[w.heap.size+1]?=some (.cells #[.bool true,.slice none 0 0] 45 (0,0)):=n116_;go_wp2_with fail;have hPF:=h_ (show Lib.hasPrefix (45::p) [45]=true by simp [Lib.hasPrefix,List.isPrefixOf]);have hBV:Below w.heap.size w (((w.alloc (.cells #[.bool false,.slice none 0 0] 45)).alloc (.cells #[.bool true,.slice none 0 0] 45)).drew):=HBV;have hZ:(((w.alloc (.cells #[.bool false,.slice none 0 0] 45)).alloc (.cells #[.bool true,.slice none 0 0] 45)).drew).heap[w.heap.size]?=some (.cells #[.bool false,.slice none 0 0] 45 (0,0)):=HZV;have hE:(((w.alloc (.cells #[.bool false,.slice none 0 0] 45)).alloc (.cells #[.bool true,.slice none 0 0] 45)).drew).heap[w.heap.size+1]?=some (.cells #[.bool true,.slice none 0 0] 45 (0,0)):=HEV;refine (HSP.out _).mono ?_;rintro e w5 ⟨hb5,he⟩;have HB5:=h_ (hBV.trans (hb5.mono hBV.size));obtain ⟨cc,fc,-,-⟩:=rd (QO hZ hb5);have c0:=cc 0;have c1:=cc 1;have f0:=fc 0;have f1:=fc 1;obtain ⟨dd,gc,-,-⟩:=rd (QO hE hb5);have d0:=dd 0;have d1:=dd 1;have g0:=gc 0;have g1:=gc 1;simp only [List.getElem?_toArray,List.getElem?_cons_zero,List.getElem?_cons_succ] at c0 c1 d0 d1;have hne:w.heap.size≠w.heap.size+1:=o_;clear cc fc dd gc hBV hZ hE hb5 HSP;cases res with
   |error q=>
    exact m142_
   |ok l=>
    obtain ⟨v,rfl,hown⟩:=he;obtain ⟨oa,cap,rfl⟩:=ownsRow_form hown;have hrow:=Zj.of_own hown;have HOW:=h_ (Qp (B':=w.heap.size+2) hown s_);clear hown;cases l with
    |nil=>
     exact m144_
    |cons x t=>
     obtain ⟨b,o,rfl,k0⟩:=hrow 0 s_;simp only [List.getElem_cons_zero,Nat.add_zero] at k0;have hpos:((x::t).length:Int)≠0:=n62_;have hpos1:(((x::t).length:Int)==0)=false:=n53_;have hpos2:(0:Int)<((x::t).length:Int):=o_;have hpos3:0<(x::t).length:=s_;by_cases hx:x=[]
     ·exact m143_
     ·have hxe:List.isEmpty x=false:=by cases x with|nil=>exact absurd rfl hx|cons a u=>rfl
      have HN:=h_ (show true=r from by have h9:(!List.isEmpty x)=r:=HR.out;rw [hxe] at h9;exact h9);have HC:=h_ (HX.out x t rfl hx);clear hrow HX;generalize (x::t).length=n at *;go_wp2_with fail;refine bodyPost_ret (v:=.tuple #[.agg #[.bool true,.slice (some ⟨b,o,none⟩) n cap],.bool true]) ?_ rfl ⟨⟨_,n61_,rfl,true,some ⟨b,o,none⟩,n,cap,rfl,fun c hc=>⟨hPF.out.symm.trans (HC.out c hc).1,(HC.out c hc).2.1,n11_⟩⟩,?_⟩
      ·simp [results,results84,go_sem,c0,c1,d0,d1]
      ·exact m141_
  ·rw [if_neg hc] at hp
   subst hp;have hcz:((c.toNat:Int)==45)=false:=by
    rw [beq_eq_false_iff_ne];intro h;exact hc (UInt8.toNat_inj.1 (by have:(45:UInt8).toNat=45:=rfl;omega))
   have hpos2:0<(⟨(c::t).toArray⟩:ByteArray).size:=by rw [hsz];simp
   have hcz2:((((⟨(c::t).toArray⟩:ByteArray)[0]'hpos2).toNat:Int)==45)=false:=hcz;go_enter func84,ntmps84;go_wp2_with fail;have hz1:(w.alloc (.cells #[.bool false,.slice none 0 0] 45)).heap.size=w.heap.size+1:=s_;have HBV:Below w.heap.size w ((w.alloc (.cells #[.bool false,.slice none 0 0] 45)).alloc (.cells #[.bool false,.slice none 0 0] 45)):=(b_.alloc l_ _).alloc s_ _;have HZV:((w.alloc (.cells #[.bool false,.slice none 0 0] 45)).alloc (.cells #[.bool false,.slice none 0 0] 45)).heap[w.heap.size]?=some (.cells #[.bool false,.slice none 0 0] 45 (0,0)):=heap_alloc (heap_alloc_new w _) _;have HEV:((w.alloc (.cells #[.bool false,.slice none 0 0] 45)).alloc (.cells #[.bool false,.slice none 0 0] 45)).heap[w.heap.size+1]?=some (.cells #[.bool false,.slice none 0 0] 45 (0,0)):=n116_;have hPF:=h_ (show Lib.hasPrefix (c::t) [45]=false by simp [Lib.hasPrefix,List.isPrefixOf];exact Ne.symm hc);exact m139_
theorem ZkL(s:Str)(w:World)(hs:s.length<=1000000000)(r:Bool)(hr:(Xw s).isSome=r) :
  Calls prog 84 #[.string ⟨s.toArray⟩] w fun e w'=>(∃x,e=.returned (.tuple #[x,.bool r])/\x.cells.size=2)/\Below w.heap.size w w' :=
 (ZfQ s w hs r hr).mono fun e w' ⟨⟨x,h1,h2,_⟩,hb⟩=>⟨⟨x,h1,h2⟩,hb⟩
open Go Go.RowKit Go.Sort Go.BigFrame
theorem m145_{p:Prop}(h:p:=by go_wp2_with fail;go_ret2;exact ⟨⟨_,n58_,by rw [<-(Prod.mk.inj HQ.out).1];exact Qp Hown.out HB1.out.size⟩,HB1.out.trans (HB.out.mono HB1.out.size)⟩):p:=h
theorem ZqV(s:ByteArray)(k:Nat):s.extract k s.size=⟨(s.data.toList.drop k).toArray⟩:=by
 apply Yb;rw [Lib.extract_to_end]
theorem ZqM(s:ByteArray)(k:Nat):s.extract 0 k=⟨(s.data.toList.take k).toArray⟩:=by
 apply Yb;rw [Lib.extract_data];simp
theorem Zhs(s:ByteArray)(w:World)(hs:s.size<=1000000000)(ps:List (Str×Str))(b:Bool)(hps:ZaW s.data.toList=(ps,b)) :
  Calls prog 88 #[.string s] w fun e w'=>(∃v,e=.returned (.tuple #[v,.bool b])/\w'.ownsRow w.heap.size 78 2 v ps.length (Zy Xj ps))/\Below w.heap.size w w':=by
 obtain ⟨i0,hi0,hz0,hz1,hz2⟩:=info_parts ZdQ;obtain ⟨res,hres⟩:∃res,split s.data.toList=res:=⟨_,rfl⟩;have HSP:=h_ (ZdP s w o_ res (by
  have:=ZhN s.data.toList
  rw [show s.data.toList.length=s.size by simp] at this;exact this.trans hres))
 have HLS:=h_ (fun l (h:res=.ok l)=>show l.length<=32/\∀x∈l,x.length<=s.size from by have:=Zcg s.data.toList l (by rw [hres,h]);simpa using this);unfold ZaW at hps;rw [hres] at hps;have HP:=h_ hps;clear hres hps;go_enter func88,ntmps88;go_wp2_with fail;refine HSP.out.mono ?_;rintro e w1 ⟨hb1,he⟩;have HB1:=h_ hb1;clear hb1 HSP;cases res with
 |error c=>
  obtain rfl:=he;have HQ:=h_ (show (([]:List (Str×Str)),false)=(ps,b) from HP.out);go_wp2_with fail;go_loopg [6,17] 2 (fun f v i wr=>v=.slice none 0 0/\i=.int .i64 0/\wr=w1/\0<f)
  case atStart=>exact ⟨rfl,rfl,rfl,o_⟩
  case round=>
   obtain ⟨rfl,rfl,rfl,hfu⟩:=hrel;by_cases hc0:(c:Int)=0
   ·rw [hc0]
    go_wp2_with fail;go_ret2;exact ⟨⟨_,n58_,n45_⟩,HB1.out⟩
   ·have hc1:((c:Int)==0)=false:=n125_
    go_wp2_with fail;go_ret2;exact ⟨⟨_,n58_,n45_⟩,HB1.out⟩
 |ok l=>
  obtain ⟨v,rfl,hown⟩:=he;obtain ⟨oa,cap,rfl⟩:=ownsRow_form hown;have HR:=h_ (Zj.of_own hown);obtain ⟨hl1,hl2⟩:=HLS.out l rfl;have HL2:=h_ hl2;have hll:l.length<=32:=hl1;have HPL:=h_ (show (match Qm l with|none=>(([]:List (Str×Str)),false)|some ps=>(ps,decide (0<ps.length)))=(ps,b) from HP.out);clear hown hl2 HP;go_wp2_with fail;go_loopg [6,17] (l.length+1) (fun f v i wr=>∃(k:Nat) (done:List (Str×Str)),k<=l.length/\i=.int .i64 k/\l.length-k<f/\done.length=k/\Hid (wr.ownsRow w1.heap.size 78 2 v done.length (Zy Xj done))/\Hid (Qm l=(Qm (l.drop k)).map fun r=>done++r)/\Hid (Below w1.heap.size w1 wr))
  case atStart=>exact ⟨0,[],o_,rfl,o_,rfl,World.ownsRow_nil _ _ _ _,(show Qm l=(Qm (l.drop 0)).map fun r=>[]++r from by rw [List.drop_zero];cases Qm l<;>simp),Below.refl _ _⟩
  case round=>
   obtain ⟨_,done,hk,rfl,hfu,rfl,Hown,HE,HB⟩:=hrel;obtain ⟨oa2,cap2,rfl⟩:=ownsRow_form Hown.out;by_cases hlt:done.length<l.length
   ·have hz:(done.length:Int)<(l.length:Int):=o_
    obtain ⟨x,hx⟩:=e_ (l[done.length]);obtain ⟨b4,o4,rfl,d0⟩:=(HR.out.below HB.out) done.length hlt;rw [<-hx] at d0;have hd:l.drop done.length=x::l.drop (done.length+1):=n52_;have hxl:x.length<=s.size:=by rw [hx];exact HL2.out _ (List.getElem_mem hlt)
    have hE:=HE.out;rw [hd] at hE;rw [show Qm (x::l.drop (done.length+1))=if (Go.Lib.cut x [61]).2.2=true/\Zgj (Go.Lib.cut x [61]).1=true then (Qm (l.drop (done.length+1))).map fun r=>((Go.Lib.cut x [61]).1,(Go.Lib.cut x [61]).2.1)::r else none from rfl] at hE;obtain ⟨X,hX⟩:∃X:ByteArray,X=⟨x.toArray⟩:=⟨_,rfl⟩;have hXx:X.data.toList=x:=by rw [hX]
    have hXs:X.size=x.length:=by rw [hX];simp [ByteArray.size]
    rw [<-hX] at d0;clear hx hd HE;rcases Zdg x 0 with hq|⟨i,hq,-,hil⟩
    ·have HEQ:=h_ (fun V=>ZeM X V o_ (-1) (by rw [hXx];exact hq))
     have hE2:Qm l=none:=by rw [hE,ZqZ x hq];simp
     have HQ:=h_ (show (([]:List (Str×Str)),false)=(ps,b) from by rw [<-HPL.out,hE2]);clear hE hE2 hX hXx hq;go_wp2_with fail;refine (HEQ.out _).mono ?_;rintro e w2 ⟨rfl,hb2⟩;have HB2:=h_ (HB.out.trans (hb2.mono HB.out.size));clear hb2;go_wp2_with fail;go_ret2;exact ⟨⟨_,n58_,n45_⟩,HB1.out.trans (HB2.out.mono HB1.out.size)⟩
    ·have HEQ:=h_ (fun V=>ZeM X V o_ i (by rw [hXx];exact hq))
     rw [Zqa x i hq] at hE;simp only [true_and] at hE;have hA:(X.extract 0 i)=⟨(x.take i).toArray⟩:=by rw [ZqM,hXx]
     have hC:(X.extract (i+1) X.size)=⟨(x.drop (i+1)).toArray⟩:=by rw [ZqV,hXx]
     obtain ⟨c1,hc1⟩:=e_ (x.take i);obtain ⟨c2,hc2⟩:=e_ (x.drop (i+1));rw [<-hc1] at hA hE;rw [<-hc2] at hC hE;obtain ⟨y,hy⟩:∃y,Zgj c1=y:=⟨_,rfl⟩;have hcl:c1.length<=1000000000:=by rw [hc1,List.length_take];omega
     have HVR:=h_ (fun W=>ZjF ⟨c1.toArray⟩ W (by show c1.toArray.size<=_;simp;omega) y hy);have HA:=h_ hA;have HC:=h_ hC;have hiX:i<X.size:=o_;have hiZ:(i:Int)<(X.size:Int):=o_;have hiZ1:(i:Int)<=(X.size:Int):=o_;have hiZ2:(i:Int)+1<=(X.size:Int):=o_;have hiN:¬(i:Int)<0:=o_;have hiP:0<=(i:Int)+1:=o_;have hiP2:¬(i:Int)+1<0:=o_;have hxs:X.size<=1000000000:=o_;have hwr:IntKind.i64.wrap ((i:Int)+1)=(i:Int)+1:=by rw [IntKind.wrap_i64];omega
     clear hA hC hc1 hc2 hq hX hXx hil hXs hxl;cases y with
     |false=>
      have hE2:Qm l=none:=by rw [hE,hy];simp
      have HQ:=h_ (show (([]:List (Str×Str)),false)=(ps,b) from by rw [<-HPL.out,hE2]);clear hE hE2;go_wp2_with fail;refine (HEQ.out _).mono ?_;rintro e w2 ⟨rfl,hb2⟩;have HB2:=h_ (HB.out.trans (hb2.mono HB.out.size));clear hb2;go_wp2_with fail;rw [HA.out];refine (HVR.out _).mono ?_;rintro e w3 ⟨rfl,hb3⟩;have HB3:=h_ (HB2.out.trans (hb3.mono HB2.out.size));clear hb3;go_wp2_with fail;go_ret2;exact ⟨⟨_,n58_,n45_⟩,HB1.out.trans (HB3.out.mono HB1.out.size)⟩
     |true=>
      have HE2:=h_ (show Qm l=(Qm (l.drop (done.length+1))).map fun r=>(done++[(c1,c2)])++r from by
       rw [hE,hy];cases Qm (l.drop (done.length+1))<;>simp)
      clear hE hy;go_wp2_with fail;refine (HEQ.out _).mono ?_;rintro e w2 ⟨rfl,hb2⟩;have HB2:=h_ (HB.out.trans (hb2.mono HB.out.size));have HO2:=h_ (Zp Hown.out hb2);clear hb2;go_wp2_with fail;rw [HA.out];refine (HVR.out _).mono ?_;rintro e w3 ⟨rfl,hb3⟩;have HB3:=h_ (HB2.out.trans (hb3.mono HB2.out.size));have HO3:=h_ (Zp HO2.out hb3);clear hb3 HEQ HVR;go_wp2_with fail;refine wp_region_held_drew (S:=fun V=>Below w1.heap.size w1 V) k_ (HB3.out.trans (Zb ⟨1,rfl⟩)) (fun hHeld=>?_);refine u_ ?_;(iterate 9 refine dA_ 0 (gT_ rfl) (fun W hW=>by clear hW;go_simp;rfl) (u_ ?_));have hv0:=h_ hHeld;refine wpAnyH_ready (rs:=[9]) k_ s_ (AllReadyH.cons (gT_ rfl) (fun K hK=>?_) (AllReadyH.nil));clear hHeld;go_simp;have HBa:=h_ (show Below w3.heap.size w3 (w3.drew.alloc (.cells #[.string (X.extract 0 i),.string (X.extract (i+1) X.size)] 78)) from (Zb (B:=w3.heap.size) (b:=w3.drew) ⟨1,rfl⟩).alloc l_ (.cells #[.string (X.extract 0 i),.string (X.extract (i+1) X.size)] 78));have HOa:=h_ (Zp HO3.out HBa.out);refine hK.out _ _ (HB3.out.trans (HBa.out.mono HB3.out.size)) (fun hHeld=>?_);clear hK K;refine u_ ?_;refine wpAnyH_ready (rs:=[10]) k_ s_ (AllReadyH.cons (gT_ rfl) (fun K hK=>?_) (AllReadyH.nil));clear hHeld;have HCE:=h_ (show ∀j u,([.string (X.extract 0 i),.string (X.extract (i+1) X.size)]:List Value)[j]?=some u->∃b o,(some (⟨w3.heap.size,0,none⟩:Addr))=some ⟨b,o,none⟩/\(w3.drew.alloc (.cells #[.string (X.extract 0 i),.string (X.extract (i+1) X.size)] 78)).cell? ⟨b,o+j,none⟩=some u from fun j u hj=>⟨w3.heap.size,0,rfl,by
       have q:=(rd (heap_alloc_new w3.drew (.cells #[.string (X.extract 0 i),.string (X.extract (i+1) X.size)] 78))).1 j;rw [Nat.zero_add];exact q.trans n97_⟩)
      refine Zbj n19_ (.tmp 32) (.tmp 41) 27 n19_ w1.heap.size 78 i0 (.agg #[.string ⟨#[]⟩,.string ⟨#[]⟩]) 2 32 underlying27 hi0 hz0 hz1 hz2 n19_ d_ (.slice oa2 done.length cap2) done.length (Zy Xj done) n19_ HOa.out (some ⟨w3.heap.size,0,none⟩) 1 1 [.string (X.extract 0 i),.string (X.extract (i+1) X.size)] n19_ n19_ HCE.out (by intro u hu;simp at hu;rcases hu with rfl|rfl<;>rfl) n20_ o_ (Nat.le_trans HB3.out.size HBa.out.size) ?_;intro v5 w5 hown5 hgrow5;have HO5:=h_ (show w5.ownsRow w1.heap.size 78 2 v5 (done++[(c1,c2)]).length (Zy Xj (done++[(c1,c2)])) from by
       rw [ZH,List.length_append];rw [HA.out,HC.out] at hown5;exact hown5)
      have HB5:=h_ ((HB3.out.trans (HBa.out.mono HB3.out.size)).grown hgrow5 (Nat.le_trans HB3.out.size HBa.out.size) (fun g hg=>(HOa.out.lt g hg).1));obtain ⟨oa5,cap5,rfl⟩:=ownsRow_form HO5.out;refine hK.out _ _ HB5.out (fun hHeld=>?_);clear hK K hown5 hgrow5;refine u_ ?_;refine dB_ (i:=11) (v:=.slice oa5 (done++[(c1,c2)]).length cap5) (gT_ rfl) (fun W hW=>by clear hW;go_simp) (u_ ?_);refine wpAnyH_done k_ ?_ _;clear hHeld;go_wp2_with fail;go_roundg (l.length-done.length)
      case measure=>omega
      case rel=>exact ⟨done.length+1,done++[(c1,c2)],o_,n14_,o_,s_,HO5,HE2,HB5⟩
   ·have hz:¬((done.length:Int)<(l.length:Int)):=o_
    have hE:Qm l=some done:=by rw [HE.out,List.drop_eq_nil_of_le o_];simp [Qm]
    have HQ:=h_ (show (done,decide (0<done.length))=(ps,b) from by rw [<-HPL.out,hE]);clear hE HE;by_cases h0:0<done.length
    ·have h1:(0:Int)<(done.length:Int):=o_
     have h2:(done.length:Int)>0:=o_;rw [decide_eq_true h0] at HQ;exact m145_
    ·have h1:¬(0:Int)<(done.length:Int):=o_
     have h2:¬(done.length:Int)>0:=o_;rw [decide_eq_false h0] at HQ;exact m145_
theorem ZkV(s:ByteArray)(w:World)(hs:s.size<=1000000000)(b:Bool)(hps:(ZaW s.data.toList).2=b) :
  Calls prog 88 #[.string s] w fun e w'=>(∃v,e=.returned (.tuple #[v,.bool b]))/\Below w.heap.size w w' :=
 (Zhs s w hs (ZaW s.data.toList).1 b (by rw [<-hps])).mono fun e w' ⟨⟨v,h1,_⟩,hb⟩=>⟨⟨v,h1⟩,hb⟩
end Go.Proofs.YtgoooebfhdbbkaaGreatDoor
