import Derived.Deep.LoopGhost
import Derived.Test.YtmgmbeipbeknaaaGreatDoorRT1
import Derived.Test.YtmgmbeipbeknaaaGreatDoorRT15
import Derived.Test.YtmgmbeipbeknaaaGreatDoorRT27
import Derived.Test.YtmgmbeipbeknaaaGreatDoorRT32
namespace Go.Proofs.YtmgmbeipbeknaaaGreatDoor
open Go.Proofs.Tryz
open Go Go.RowKit
set_option linter.unusedVariables false
set_option linter.unusedSimpArgs false
set_option maxHeartbeats 16000000
set_option maxRecDepth 100000
def Y4:List (Str×Nat):=[(Zbb,2),(X7,23),(Yr,24),(Zaj,24),(QM,34)]
theorem Zi9(U o:Nat)(w:World):∀p∈Y4,Calls prog 135 #[.pointer (some ⟨U,o,none⟩),.string ⟨p.1.toArray⟩] w fun e w'=>e=.returned (.pointer (some ⟨U,o+p.2,none⟩))/\w'=w:=by
 intro p hp;simp only [Y4,List.mem_cons,List.not_mem_nil,or_false] at hp;rcases hp with rfl|rfl|rfl|rfl|rfl<;>(go_enter func135,ntmps135;go_wp2_with fail;go_ret;exact ⟨rfl,rfl⟩)
theorem Zdu(U:Nat)(w:World)(p)(hp:p∈Y4):Calls prog 135 #[.pointer (some ⟨U,0,none⟩),.string ⟨p.1.toArray⟩] w fun e w'=>e=.returned (.pointer (some ⟨U,p.2,none⟩))/\w'=w:=by
 have h:=Zi9 U 0 w p hp
 rwa [Nat.zero_add] at h
def XR:List (Str×Nat):=[(XG,3),(QT,13),(ZbS,29)]
theorem ZjF(U o:Nat)(w:World):∀p∈XR,Calls prog 136 #[.pointer (some ⟨U,o,none⟩),.string ⟨p.1.toArray⟩] w fun e w'=>e=.returned (.pointer (some ⟨U,o+p.2,none⟩))/\w'=w:=by
 intro p hp;simp only [XR,List.mem_cons,List.not_mem_nil,or_false] at hp;rcases hp with rfl|rfl|rfl<;>(go_enter func136,ntmps136;go_wp2_with fail;go_ret;exact ⟨rfl,rfl⟩)
theorem Ziq(U:Nat)(w:World)(p)(hp:p∈XR):Calls prog 136 #[.pointer (some ⟨U,0,none⟩),.string ⟨p.1.toArray⟩] w fun e w'=>e=.returned (.pointer (some ⟨U,p.2,none⟩))/\w'=w:=by
 have h:=ZjF U 0 w p hp
 rwa [Nat.zero_add] at h
def Ya:List (Str×Nat):=[(Xj,5),(QX,6),(ZmZ,7),(Zds,14),(ZbN,15),(QN,16),(Jk,17),(Zft,22)]
theorem ZgG(U o:Nat)(w:World):∀p∈Ya,Calls prog 138 #[.pointer (some ⟨U,o,none⟩),.string ⟨p.1.toArray⟩] w fun e w'=>e=.returned (.pointer (some ⟨U,o+p.2,none⟩))/\w'=w:=by
 intro p hp;simp only [Ya,List.mem_cons,List.not_mem_nil,or_false] at hp;rcases hp with rfl|rfl|rfl|rfl|rfl|rfl|rfl|rfl<;>(go_enter func138,ntmps138;go_wp2_with fail;go_ret;exact ⟨rfl,rfl⟩)
theorem JE(U:Nat)(w:World)(p)(hp:p∈Ya):Calls prog 138 #[.pointer (some ⟨U,0,none⟩),.string ⟨p.1.toArray⟩] w fun e w'=>e=.returned (.pointer (some ⟨U,p.2,none⟩))/\w'=w:=by
 have h:=ZgG U 0 w p hp
 rwa [Nat.zero_add] at h
def Yg:List (Str×Nat):=[(Qb,18),(Zal,21),(ZcI,25),(Za5,26),(Qd,27)]
theorem ZfS(U o:Nat)(w:World):∀p∈Yg,Calls prog 179 #[.pointer (some ⟨U,o,none⟩),.string ⟨p.1.toArray⟩] w fun e w'=>e=.returned (.pointer (some ⟨U,o+p.2,none⟩))/\w'=w:=by
 intro p hp;simp only [Yg,List.mem_cons,List.not_mem_nil,or_false] at hp;rcases hp with rfl|rfl|rfl|rfl|rfl<;>(go_enter func179,ntmps179;go_wp2_with fail;go_ret;exact ⟨rfl,rfl⟩)
theorem Zbh(U:Nat)(w:World)(p)(hp:p∈Yg):Calls prog 179 #[.pointer (some ⟨U,0,none⟩),.string ⟨p.1.toArray⟩] w fun e w'=>e=.returned (.pointer (some ⟨U,p.2,none⟩))/\w'=w:=by
 have h:=ZfS U 0 w p hp
 rwa [Nat.zero_add] at h
def YE:List (Str×Nat):=[(Zdy,20),(ZbT,28),(Zb7,30),(Zac,31),(Ziv,32),(ZmY,33)]
theorem ZhL(U o:Nat)(w:World):∀p∈YE,Calls prog 145 #[.pointer (some ⟨U,o,none⟩),.string ⟨p.1.toArray⟩] w fun e w'=>e=.returned (.pointer (some ⟨U,o+p.2,none⟩))/\w'=w:=by
 intro p hp;simp only [YE,List.mem_cons,List.not_mem_nil,or_false] at hp;rcases hp with rfl|rfl|rfl|rfl|rfl|rfl<;>(go_enter func145,ntmps145;go_wp2_with fail;go_ret;exact ⟨rfl,rfl⟩)
theorem Zcr(U:Nat)(w:World)(p)(hp:p∈YE):Calls prog 145 #[.pointer (some ⟨U,0,none⟩),.string ⟨p.1.toArray⟩] w fun e w'=>e=.returned (.pointer (some ⟨U,p.2,none⟩))/\w'=w:=by
 have h:=ZhL U 0 w p hp
 rwa [Nat.zero_add] at h
def Xi:List (Str×Nat):=[(Zam,8),(ZcV,9),(JX,10),(Zd1,11),(ZbL,12)]
theorem Zh0(U o:Nat)(w:World):∀p∈Xi,Calls prog 142 #[.pointer (some ⟨U,o,none⟩),.string ⟨p.1.toArray⟩] w fun e w'=>e=.returned (.pointer (some ⟨U,o+p.2,none⟩))/\w'=w:=by
 intro p hp;simp only [Xi,List.mem_cons,List.not_mem_nil,or_false] at hp;rcases hp with rfl|rfl|rfl|rfl|rfl<;>(go_enter func142,ntmps142;go_wp2_with fail;go_ret;exact ⟨rfl,rfl⟩)
theorem Zgv(U:Nat)(w:World)(p)(hp:p∈Xi):Calls prog 142 #[.pointer (some ⟨U,0,none⟩),.string ⟨p.1.toArray⟩] w fun e w'=>e=.returned (.pointer (some ⟨U,p.2,none⟩))/\w'=w:=by
 have h:=Zh0 U 0 w p hp
 rwa [Nat.zero_add] at h
def ZbK:List Str:=[XT,Zf0,JA,ZbF,Zc1,JQ,ZdB,Ze6,JI,Zdy,Zb7,Zac,Ziv,ZmY]
theorem Zai(w:World):∀s∈ZbK,Calls prog 92 #[.string ⟨s.toArray⟩] w fun e w'=>e=.returned (.int .i64 (Yp s:Nat))/\w'=w:=by
 intro s hs;simp only [ZbK,List.mem_cons,List.not_mem_nil,or_false] at hs;rcases hs with rfl|rfl|rfl|rfl|rfl|rfl|rfl|rfl|rfl|rfl|rfl|rfl|rfl|rfl<;>(go_enter func92,ntmps92;go_wp2_with fail;go_ret;exact ⟨rfl,rfl⟩)
theorem Zhv:∀k∈Zf,k.form=6->k.name∈ZbK:=n4_
theorem m93_{p:Prop}(h:p:=by go_enter func182,ntmps182;go_wp2_with fail;go_ret;exact ⟨rfl,HB.out⟩):p:=h
theorem m94_{p:Prop}(h:p:=by go_enter func183,ntmps183;go_wp2_with fail;go_ret;exact ⟨rfl,rfl⟩):p:=h
theorem Zou(b:Bool)(w:World):Calls prog 183 #[.bool b] w fun e w'=>e=.returned (.string ⟨(Zfo b).toArray⟩)/\w'=w:=by
 cases b with
 |true=>
  exact m94_
 |false=>
  exact m94_
theorem Zmo(d:Bool)(v:Value)(h1:v.oneCell'=true)(oa:Option Addr)(n c:Nat)(hv:v=.slice oa n c)(w:World):Calls prog 182 #[.agg #[.bool d,v]] w fun e w'=>e=.returned (.int .i64 (if d then 1 else 0))/\Below w.heap.size w w':=by
 subst hv;have hB:=(Below.refl w.heap.size w).alloc l_ (.cells #[.bool d,.slice oa n c] 49);have HB:=h_ hB;clear hB;cases d with
 |true=>
  exact m93_
 |false=>
  exact m93_
theorem Zk4:∀i:Fin 9,Yp (XE.getD i.val [])=i.val+1/\XE.getD i.val []∈ZbK:=n4_
theorem ZlH:∀i:Fin 9,Xh (i.val+1)=XE.getD i.val []:=n4_
theorem ZiJ{r:Int}(h:∀j:Nat,j<9->((j+1:Nat):Int)≠r):Xh r=[]:=by
 unfold Xh;rw [if_neg];intro hr;exact h (r-1).toNat o_ o_
theorem ZjY(r:Int)(w:World):Calls prog 173 #[.int .i64 r] w fun e w'=>e=.returned (.string ⟨(Xh r).toArray⟩)/\Below w.heap.size w w':=by
 have hB:=(Below.refl w.heap.size w).alloc l_ (.cells (Zj XE).toArray 9);have HB:=h_ hB;have HR:=h_ (ZcL w XE);clear hB;go_enter func173,ntmps173;go_wp2_with fail;have hw1:w.alloc (.cells (Zj XE).toArray 9)=w.alloc (.cells #[.string ⟨XT.toArray⟩,.string ⟨Zf0.toArray⟩,.string ⟨JA.toArray⟩,.string ⟨ZbF.toArray⟩,.string ⟨Zc1.toArray⟩,.string ⟨JQ.toArray⟩,.string ⟨ZdB.toArray⟩,.string ⟨Ze6.toArray⟩,.string ⟨JI.toArray⟩] 9):=rfl;rw [hw1] at HB HR;clear hw1;generalize w.alloc (.cells #[.string ⟨XT.toArray⟩,.string ⟨Zf0.toArray⟩,.string ⟨JA.toArray⟩,.string ⟨ZbF.toArray⟩,.string ⟨Zc1.toArray⟩,.string ⟨JQ.toArray⟩,.string ⟨ZdB.toArray⟩,.string ⟨Ze6.toArray⟩,.string ⟨JI.toArray⟩] 9)=w1 at HB HR⊢;go_loopg [5,9] 10 (fun f _ i wr=>∃k:Nat,k<=9/\i=.int .i64 k/\9-k<f/\wr=w1/\Hid (∀j:Nat,j<k->((j+1:Nat):Int)≠r))
 case atStart=>exact ⟨0,o_,rfl,o_,rfl,h_ fun j hj=>absurd hj o_⟩
 case round=>
  obtain ⟨k,hk,rfl,hf,rfl,HN⟩:=hrel;by_cases hlt:k<9
  ·obtain ⟨s,hs⟩:∃s,XE.getD k []=s:=⟨_,rfl⟩
   have hrow:=HR.out k hlt;obtain ⟨b,o,e1,hc⟩:=hrow;injection e1 with e1
   injection e1 with e1 e2
   subst e1;subst e2;rw [show XE[k]'hlt=s by rw [<-hs,List.getD_eq_getElem?_getD,List.getElem?_eq_getElem];rfl,Nat.zero_add] at hc;obtain ⟨hk1,hk2⟩:=Zk4 ⟨k,hlt⟩;simp only at hk1 hk2;rw [hs] at hk1 hk2;have HS:=h_ (Zai wr s hk2);rw [hk1] at HS;have HNM:=h_ (ZlH ⟨k,hlt⟩);have HSS:=h_ hs;clear hs hk1 hk2;by_cases hr:((k+1:Nat):Int)=r
   ·have hb:(((k+1:Nat):Int)==r)=true:=by rw [hr];exact beq_self_eq_true _
    have HE:=h_ hr;clear hr;go_wp2_with (first|(go_at_call 92;refine HS.out.mono ?_;rintro e w' ⟨rfl,rfl⟩));go_ret;have h:=HNM.out;rw [HSS.out,show ((k:Int)+1)=r by have:=HE.out;omega] at h;rw [h];exact ⟨rfl,HB.out⟩
   ·have hb:(((k+1:Nat):Int)==r)=false:=beq_false_of_ne hr
    have HE:=h_ hr;clear hr;go_wp2_with (first|(go_at_call 92;refine HS.out.mono ?_;rintro e w' ⟨rfl,rfl⟩));go_roundg (9-k)
    case measure=>omega
    case rel=>
     refine ⟨k+1,o_,n15_,o_,rfl,h_ fun j hj=>?_⟩;rcases (show j<k\/j=k by omega) with h|h
     ·exact HN.out j h
     ·rw [h];exact HE.out
  ·obtain rfl:k=9:=o_
   have HE:=h_ (ZiJ HN.out);go_wp2_with fail;go_ret;rw [HE.out];exact ⟨rfl,HB.out⟩
theorem m103_{p:Prop}(h:p:=by rcases hs with rfl|rfl|rfl|rfl|rfl|rfl|rfl|rfl|rfl|rfl|rfl|rfl|rfl|rfl|rfl|rfl<;>(go_enter func92,ntmps92;go_wp2_with fail;go_ret;exact ⟨rfl,rfl⟩)):p:=h
def ZgB(U o:Nat)(tab:List (Str×Nat))(s:Str):Value:=.pointer ((tab.find? fun p=>p.1==s).map fun p=>⟨U,o+p.2,none⟩)
def Jr:List Str:=[Zbb,XG,Xj,QX,ZmZ,QT,Zds,ZbN,QN,Jk,Zft,X7,Yr,ZbS,Zaj,QM]
def Zdc:List Str:=[Zam,ZcV,JX,Zd1,ZbL,Qb,Zdy,Zal,ZcI,Za5,Qd,ZbT,Zb7,Zac,Ziv,ZmY]
theorem Za8(U o:Nat)(w:World):∀s∈Jr,Calls prog 135 #[.pointer (some ⟨U,o,none⟩),.string ⟨s.toArray⟩] w fun e w'=>e=.returned (ZgB U o Y4 s)/\w'=w:=by
 intro s hs;simp only [Jr,List.mem_cons,List.not_mem_nil,or_false] at hs;rcases hs with rfl|rfl|rfl|rfl|rfl|rfl|rfl|rfl|rfl|rfl|rfl|rfl|rfl|rfl|rfl|rfl<;>(go_enter func135,ntmps135;go_wp2_with fail;go_ret;exact ⟨rfl,rfl⟩)
theorem Za4(U o:Nat)(w:World):∀s∈Jr,Calls prog 136 #[.pointer (some ⟨U,o,none⟩),.string ⟨s.toArray⟩] w fun e w'=>e=.returned (ZgB U o XR s)/\w'=w:=by
 intro s hs;simp only [Jr,List.mem_cons,List.not_mem_nil,or_false] at hs;rcases hs with rfl|rfl|rfl|rfl|rfl|rfl|rfl|rfl|rfl|rfl|rfl|rfl|rfl|rfl|rfl|rfl<;>(go_enter func136,ntmps136;go_wp2_with fail;go_ret;exact ⟨rfl,rfl⟩)
theorem JO(U o:Nat)(w:World):∀s∈Jr,Calls prog 138 #[.pointer (some ⟨U,o,none⟩),.string ⟨s.toArray⟩] w fun e w'=>e=.returned (ZgB U o Ya s)/\w'=w:=by
 intro s hs;simp only [Jr,List.mem_cons,List.not_mem_nil,or_false] at hs;rcases hs with rfl|rfl|rfl|rfl|rfl|rfl|rfl|rfl|rfl|rfl|rfl|rfl|rfl|rfl|rfl|rfl<;>(go_enter func138,ntmps138;go_wp2_with fail;go_ret;exact ⟨rfl,rfl⟩)
theorem Jh(U o:Nat)(w:World):∀s∈Zdc,Calls prog 179 #[.pointer (some ⟨U,o,none⟩),.string ⟨s.toArray⟩] w fun e w'=>e=.returned (ZgB U o Yg s)/\w'=w:=by
 intro s hs;simp only [Zdc,List.mem_cons,List.not_mem_nil,or_false] at hs;rcases hs with rfl|rfl|rfl|rfl|rfl|rfl|rfl|rfl|rfl|rfl|rfl|rfl|rfl|rfl|rfl|rfl<;>(go_enter func179,ntmps179;go_wp2_with fail;go_ret;exact ⟨rfl,rfl⟩)
theorem Zau(U o:Nat)(w:World):∀s∈Zdc,Calls prog 145 #[.pointer (some ⟨U,o,none⟩),.string ⟨s.toArray⟩] w fun e w'=>e=.returned (ZgB U o YE s)/\w'=w:=by
 intro s hs;simp only [Zdc,List.mem_cons,List.not_mem_nil,or_false] at hs;rcases hs with rfl|rfl|rfl|rfl|rfl|rfl|rfl|rfl|rfl|rfl|rfl|rfl|rfl|rfl|rfl|rfl<;>(go_enter func145,ntmps145;go_wp2_with fail;go_ret;exact ⟨rfl,rfl⟩)
theorem Zak(U o:Nat)(w:World):∀s∈Zdc,Calls prog 142 #[.pointer (some ⟨U,o,none⟩),.string ⟨s.toArray⟩] w fun e w'=>e=.returned (ZgB U o Xi s)/\w'=w:=by
 intro s hs;simp only [Zdc,List.mem_cons,List.not_mem_nil,or_false] at hs;rcases hs with rfl|rfl|rfl|rfl|rfl|rfl|rfl|rfl|rfl|rfl|rfl|rfl|rfl|rfl|rfl|rfl<;>(go_enter func142,ntmps142;go_wp2_with fail;go_ret;exact ⟨rfl,rfl⟩)
theorem Znw(w:World):∀s∈Jr,Calls prog 92 #[.string ⟨s.toArray⟩] w fun e w'=>e=.returned (.int .i64 (Yp s:Nat))/\w'=w:=by
 intro s hs;simp only [Jr,List.mem_cons,List.not_mem_nil,or_false] at hs;exact m103_
theorem ZnB(w:World):∀s∈Zdc,Calls prog 92 #[.string ⟨s.toArray⟩] w fun e w'=>e=.returned (.int .i64 (Yp s:Nat))/\w'=w:=by
 intro s hs;simp only [Zdc,List.mem_cons,List.not_mem_nil,or_false] at hs;exact m103_
theorem Znx(w:World):Calls prog 92 #[.string ⟨Yh.toArray⟩] w fun e w'=>e=.returned (.int .i64 (Yp Yh:Nat))/\w'=w:=by
 go_enter func92,ntmps92;go_wp2_with fail;go_ret;exact ⟨rfl,rfl⟩
theorem Zc4:∀k∈Zf,k.list=false->k.name∈Jr:=n4_
theorem ZfJ:∀k∈Zf,k.list=true->Yp k.name=0->k.name≠Yh->k.name∈Zdc:=n4_
theorem Zob:∀k∈Zf,Yp k.name≠0->k.name∈ZbK:=n4_
theorem Zjh(w:World)(k:ZQ)(hk:k∈Zf):Calls prog 92 #[.string ⟨k.name.toArray⟩] w fun e w'=>e=.returned (.int .i64 (Yp k.name:Nat))/\w'=w:=by
 by_cases hr:Yp k.name=0
 ·by_cases he:k.name=Yh
  ·rw [he];exact Znx w
  ·cases hl:k.list with
   |true=>exact ZnB w _ (ZfJ k hk hl hr he)
   |false=>exact Znw w _ (Zc4 k hk hl)
 ·exact Zai w _ (Zob k hk hr)
def fnd(tab:List (Str×Nat))(s:Str):Option Nat:=(tab.find? fun p=>p.1==s).map fun p=>p.2
theorem Zi2(U o:Nat)(tab:List (Str×Nat))(s:Str):ZgB U o tab s=.pointer ((fnd tab s).map fun j=>⟨U,o+j,none⟩):=by
 unfold ZgB fnd;rw [Option.map_map];rfl
theorem ZgL:(Zf.all fun k=>k.list||(if k.form==1||k.form==5 then fnd Y4 k.name==some (Zh k.name)&&(fnd XR k.name==none&&fnd Ya k.name==none) else if k.form==2 then fnd Y4 k.name==none&&(fnd XR k.name==some (Zh k.name)&&fnd Ya k.name==none) else fnd Y4 k.name==none&&(fnd XR k.name==none&&fnd Ya k.name==some (Zh k.name))))=true:=n4_
theorem Zkf:(Zf.all fun k=>!k.list||(Yp k.name !=0||(k.form==8||(if k.form==7 then fnd Yg k.name==none&&(fnd YE k.name==none&&fnd Xi k.name==some (Zh k.name)) else if k.form==4||k.form==11 then fnd Yg k.name==some (Zh k.name)&&(fnd YE k.name==none&&fnd Xi k.name==none) else fnd Yg k.name==none&&(fnd YE k.name==some (Zh k.name)&&fnd Xi k.name==none)))))=true:=n4_
end Go.Proofs.YtmgmbeipbeknaaaGreatDoor
