import Derived.Deep.LoopGhost
import Derived.Test.YtmgmbeipbeknaaaGreatDoorRF2
import Derived.Test.YtmgmbeipbeknaaaGreatDoorRF4
import Derived.Test.YtmgmbeipbeknaaaGreatDoorRF26
import Derived.Test.YtmgmbeipbeknaaaGreatDoorRF31
namespace Go.Proofs.YtmgmbeipbeknaaaGreatDoor
open Go.Proofs.Tryz
open Go Go.RowKit
set_option linter.unusedVariables false
set_option linter.unusedSimpArgs false
set_option maxHeartbeats 16000000
set_option maxRecDepth 100000
def Y6:List (Str×Nat):=[(Zaz,2),(XT,23),(ZW,24),(Xt,24),(Qz,34)]
theorem ZiF(U o:Nat)(w:World):∀p∈Y6,Calls prog 135 #[.pointer (some ⟨U,o,none⟩),.string ⟨p.1.toArray⟩] w fun e w'=>e=.returned (.pointer (some ⟨U,o+p.2,none⟩))/\w'=w:=by
 intro p hp;simp only [Y6,List.mem_cons,List.not_mem_nil,or_false] at hp;rcases hp with rfl|rfl|rfl|rfl|rfl<;>(go_enter func135,ntmps135;go_wp2_with fail;go_ret;exact ⟨rfl,rfl⟩)
theorem ZcV(U:Nat)(w:World)(p)(hp:p∈Y6):Calls prog 135 #[.pointer (some ⟨U,0,none⟩),.string ⟨p.1.toArray⟩] w fun e w'=>e=.returned (.pointer (some ⟨U,p.2,none⟩))/\w'=w:=by
 have h:=ZiF U 0 w p hp
 rwa [Nat.zero_add] at h
def XJ:List (Str×Nat):=[(XB,3),(QJ,13),(Za8,29)]
theorem ZiG(U o:Nat)(w:World):∀p∈XJ,Calls prog 136 #[.pointer (some ⟨U,o,none⟩),.string ⟨p.1.toArray⟩] w fun e w'=>e=.returned (.pointer (some ⟨U,o+p.2,none⟩))/\w'=w:=by
 intro p hp;simp only [XJ,List.mem_cons,List.not_mem_nil,or_false] at hp;rcases hp with rfl|rfl|rfl<;>(go_enter func136,ntmps136;go_wp2_with fail;go_ret;exact ⟨rfl,rfl⟩)
theorem ZhJ(U:Nat)(w:World)(p)(hp:p∈XJ):Calls prog 136 #[.pointer (some ⟨U,0,none⟩),.string ⟨p.1.toArray⟩] w fun e w'=>e=.returned (.pointer (some ⟨U,p.2,none⟩))/\w'=w:=by
 have h:=ZiG U 0 w p hp
 rwa [Nat.zero_add] at h
def Yb:List (Str×Nat):=[(Xh,5),(QG,6),(Zmt,7),(Zda,14),(Zbg,15),(QA,16),(Ja,17),(ZfQ,22)]
theorem ZgL(U o:Nat)(w:World):∀p∈Yb,Calls prog 138 #[.pointer (some ⟨U,o,none⟩),.string ⟨p.1.toArray⟩] w fun e w'=>e=.returned (.pointer (some ⟨U,o+p.2,none⟩))/\w'=w:=by
 intro p hp;simp only [Yb,List.mem_cons,List.not_mem_nil,or_false] at hp;rcases hp with rfl|rfl|rfl|rfl|rfl|rfl|rfl|rfl<;>(go_enter func138,ntmps138;go_wp2_with fail;go_ret;exact ⟨rfl,rfl⟩)
theorem Jz(U:Nat)(w:World)(p)(hp:p∈Yb):Calls prog 138 #[.pointer (some ⟨U,0,none⟩),.string ⟨p.1.toArray⟩] w fun e w'=>e=.returned (.pointer (some ⟨U,p.2,none⟩))/\w'=w:=by
 have h:=ZgL U 0 w p hp
 rwa [Nat.zero_add] at h
def Yj:List (Str×Nat):=[(X7,18),(XV,21),(ZcB,25),(ZaI,26),(X8,27)]
theorem Zfa(U o:Nat)(w:World):∀p∈Yj,Calls prog 179 #[.pointer (some ⟨U,o,none⟩),.string ⟨p.1.toArray⟩] w fun e w'=>e=.returned (.pointer (some ⟨U,o+p.2,none⟩))/\w'=w:=by
 intro p hp;simp only [Yj,List.mem_cons,List.not_mem_nil,or_false] at hp;rcases hp with rfl|rfl|rfl|rfl|rfl<;>(go_enter func179,ntmps179;go_wp2_with fail;go_ret;exact ⟨rfl,rfl⟩)
theorem ZaY(U:Nat)(w:World)(p)(hp:p∈Yj):Calls prog 179 #[.pointer (some ⟨U,0,none⟩),.string ⟨p.1.toArray⟩] w fun e w'=>e=.returned (.pointer (some ⟨U,p.2,none⟩))/\w'=w:=by
 have h:=Zfa U 0 w p hp
 rwa [Nat.zero_add] at h
def YE:List (Str×Nat):=[(ZcZ,20),(Zbm,28),(ZbF,30),(JR,31),(ZhF,32),(ZmE,33)]
theorem ZhI(U o:Nat)(w:World):∀p∈YE,Calls prog 145 #[.pointer (some ⟨U,o,none⟩),.string ⟨p.1.toArray⟩] w fun e w'=>e=.returned (.pointer (some ⟨U,o+p.2,none⟩))/\w'=w:=by
 intro p hp;simp only [YE,List.mem_cons,List.not_mem_nil,or_false] at hp;rcases hp with rfl|rfl|rfl|rfl|rfl|rfl<;>(go_enter func145,ntmps145;go_wp2_with fail;go_ret;exact ⟨rfl,rfl⟩)
theorem Zb6(U:Nat)(w:World)(p)(hp:p∈YE):Calls prog 145 #[.pointer (some ⟨U,0,none⟩),.string ⟨p.1.toArray⟩] w fun e w'=>e=.returned (.pointer (some ⟨U,p.2,none⟩))/\w'=w:=by
 have h:=ZhI U 0 w p hp
 rwa [Nat.zero_add] at h
def Xi:List (Str×Nat):=[(J4,8),(Zcm,9),(JD,10),(Zdm,11),(ZbC,12)]
theorem Zhx(U o:Nat)(w:World):∀p∈Xi,Calls prog 142 #[.pointer (some ⟨U,o,none⟩),.string ⟨p.1.toArray⟩] w fun e w'=>e=.returned (.pointer (some ⟨U,o+p.2,none⟩))/\w'=w:=by
 intro p hp;simp only [Xi,List.mem_cons,List.not_mem_nil,or_false] at hp;rcases hp with rfl|rfl|rfl|rfl|rfl<;>(go_enter func142,ntmps142;go_wp2_with fail;go_ret;exact ⟨rfl,rfl⟩)
theorem ZgJ(U:Nat)(w:World)(p)(hp:p∈Xi):Calls prog 142 #[.pointer (some ⟨U,0,none⟩),.string ⟨p.1.toArray⟩] w fun e w'=>e=.returned (.pointer (some ⟨U,p.2,none⟩))/\w'=w:=by
 have h:=Zhx U 0 w p hp
 rwa [Nat.zero_add] at h
def ZbD:List Str:=[ZY,Ze5,Ju,Za7,Zc3,Js,Zdk,Zf8,JF,ZcZ,ZbF,JR,ZhF,ZmE]
theorem JP(w:World):∀s∈ZbD,Calls prog 92 #[.string ⟨s.toArray⟩] w fun e w'=>e=.returned (.int .i64 (ZI s:Nat))/\w'=w:=by
 intro s hs;simp only [ZbD,List.mem_cons,List.not_mem_nil,or_false] at hs;rcases hs with rfl|rfl|rfl|rfl|rfl|rfl|rfl|rfl|rfl|rfl|rfl|rfl|rfl|rfl<;>(go_enter func92,ntmps92;go_wp2_with fail;go_ret;exact ⟨rfl,rfl⟩)
theorem Zg6:∀k∈Ze,k.form=6->k.name∈ZbD:=n4_
theorem m90_{p:Prop}(h:p:=by go_enter func182,ntmps182;go_wp2_with fail;go_ret;exact ⟨rfl,HB.out⟩):p:=h
theorem m91_{p:Prop}(h:p:=by go_enter func183,ntmps183;go_wp2_with fail;go_ret;exact ⟨rfl,rfl⟩):p:=h
theorem Zm7(b:Bool)(w:World):Calls prog 183 #[.bool b] w fun e w'=>e=.returned (.string ⟨(ZfA b).toArray⟩)/\w'=w:=by
 cases b with
 |true=>
  exact m91_
 |false=>
  exact m91_
theorem Zla(d:Bool)(v:Value)(h1:v.oneCell'=true)(oa:Option Addr)(n c:Nat)(hv:v=.slice oa n c)(w:World):Calls prog 182 #[.agg #[.bool d,v]] w fun e w'=>e=.returned (.int .i64 (if d then 1 else 0))/\Below w.heap.size w w':=by
 subst hv;have hB:=(Below.refl w.heap.size w).alloc l_ (.cells #[.bool d,.slice oa n c] 49);have HB:=h_ hB;clear hB;cases d with
 |true=>
  exact m90_
 |false=>
  exact m90_
theorem Zma:∀i:Fin 9,ZI (Y9.getD i.val [])=i.val+1/\Y9.getD i.val []∈ZbD:=n4_
theorem Zk3:∀i:Fin 9,YA (i.val+1)=Y9.getD i.val []:=n4_
theorem ZhS{r:Int}(h:∀j:Nat,j<9->((j+1:Nat):Int)≠r):YA r=[]:=by
 unfold YA;rw [if_neg];intro hr;exact h (r-1).toNat o_ o_
theorem ZiM(r:Int)(w:World):Calls prog 173 #[.int .i64 r] w fun e w'=>e=.returned (.string ⟨(YA r).toArray⟩)/\Below w.heap.size w w':=by
 have hB:=(Below.refl w.heap.size w).alloc l_ (.cells (Zr Y9).toArray 9);have HB:=h_ hB;have HR:=h_ (Zct w Y9);clear hB;go_enter func173,ntmps173;go_wp2_with fail;have hw1:w.alloc (.cells (Zr Y9).toArray 9)=w.alloc (.cells #[.string ⟨ZY.toArray⟩,.string ⟨Ze5.toArray⟩,.string ⟨Ju.toArray⟩,.string ⟨Za7.toArray⟩,.string ⟨Zc3.toArray⟩,.string ⟨Js.toArray⟩,.string ⟨Zdk.toArray⟩,.string ⟨Zf8.toArray⟩,.string ⟨JF.toArray⟩] 9):=rfl;rw [hw1] at HB HR;clear hw1;generalize w.alloc (.cells #[.string ⟨ZY.toArray⟩,.string ⟨Ze5.toArray⟩,.string ⟨Ju.toArray⟩,.string ⟨Za7.toArray⟩,.string ⟨Zc3.toArray⟩,.string ⟨Js.toArray⟩,.string ⟨Zdk.toArray⟩,.string ⟨Zf8.toArray⟩,.string ⟨JF.toArray⟩] 9)=w1 at HB HR⊢;go_loopg [5,9] 10 (fun f _ i wr=>∃k:Nat,k<=9/\i=.int .i64 k/\9-k<f/\wr=w1/\Hid (∀j:Nat,j<k->((j+1:Nat):Int)≠r))
 case atStart=>exact ⟨0,o_,rfl,o_,rfl,h_ fun j hj=>absurd hj o_⟩
 case round=>
  obtain ⟨k,hk,rfl,hf,rfl,HN⟩:=hrel;by_cases hlt:k<9
  ·obtain ⟨s,hs⟩:∃s,Y9.getD k []=s:=⟨_,rfl⟩
   have hrow:=HR.out k hlt;obtain ⟨b,o,e1,hc⟩:=hrow;injection e1 with e1
   injection e1 with e1 e2
   subst e1;subst e2;rw [show Y9[k]'hlt=s by rw [<-hs,List.getD_eq_getElem?_getD,List.getElem?_eq_getElem];rfl,Nat.zero_add] at hc;obtain ⟨hk1,hk2⟩:=Zma ⟨k,hlt⟩;simp only at hk1 hk2;rw [hs] at hk1 hk2;have HS:=h_ (JP wr s hk2);rw [hk1] at HS;have HNM:=h_ (Zk3 ⟨k,hlt⟩);have HSS:=h_ hs;clear hs hk1 hk2;by_cases hr:((k+1:Nat):Int)=r
   ·have hb:(((k+1:Nat):Int)==r)=true:=by rw [hr];exact beq_self_eq_true _
    have HE:=h_ hr;clear hr;go_wp2_with (first|(go_at_call 92;refine HS.out.mono ?_;rintro e w' ⟨rfl,rfl⟩));go_ret;have h:=HNM.out;rw [HSS.out,show ((k:Int)+1)=r by have:=HE.out;omega] at h;rw [h];exact ⟨rfl,HB.out⟩
   ·have hb:(((k+1:Nat):Int)==r)=false:=beq_false_of_ne hr
    have HE:=h_ hr;clear hr;go_wp2_with (first|(go_at_call 92;refine HS.out.mono ?_;rintro e w' ⟨rfl,rfl⟩));go_roundg (9-k)
    case measure=>omega
    case rel=>
     refine ⟨k+1,o_,n14_,o_,rfl,h_ fun j hj=>?_⟩;rcases (show j<k\/j=k by omega) with h|h
     ·exact HN.out j h
     ·rw [h];exact HE.out
  ·obtain rfl:k=9:=o_
   have HE:=h_ (ZhS HN.out);go_wp2_with fail;go_ret;rw [HE.out];exact ⟨rfl,HB.out⟩
theorem m100_{p:Prop}(h:p:=by rcases hs with rfl|rfl|rfl|rfl|rfl|rfl|rfl|rfl|rfl|rfl|rfl|rfl|rfl|rfl|rfl|rfl<;>(go_enter func92,ntmps92;go_wp2_with fail;go_ret;exact ⟨rfl,rfl⟩)):p:=h
def ZgG(U o:Nat)(tab:List (Str×Nat))(s:Str):Value:=.pointer ((tab.find? fun p=>p.1==s).map fun p=>⟨U,o+p.2,none⟩)
def Jf:List Str:=[Zaz,XB,Xh,QG,Zmt,QJ,Zda,Zbg,QA,Ja,ZfQ,XT,ZW,Za8,Xt,Qz]
def Zc4:List Str:=[J4,Zcm,JD,Zdm,ZbC,X7,ZcZ,XV,ZcB,ZaI,X8,Zbm,ZbF,JR,ZhF,ZmE]
theorem ZaX(U o:Nat)(w:World):∀s∈Jf,Calls prog 135 #[.pointer (some ⟨U,o,none⟩),.string ⟨s.toArray⟩] w fun e w'=>e=.returned (ZgG U o Y6 s)/\w'=w:=by
 intro s hs;simp only [Jf,List.mem_cons,List.not_mem_nil,or_false] at hs;rcases hs with rfl|rfl|rfl|rfl|rfl|rfl|rfl|rfl|rfl|rfl|rfl|rfl|rfl|rfl|rfl|rfl<;>(go_enter func135,ntmps135;go_wp2_with fail;go_ret;exact ⟨rfl,rfl⟩)
theorem ZaN(U o:Nat)(w:World):∀s∈Jf,Calls prog 136 #[.pointer (some ⟨U,o,none⟩),.string ⟨s.toArray⟩] w fun e w'=>e=.returned (ZgG U o XJ s)/\w'=w:=by
 intro s hs;simp only [Jf,List.mem_cons,List.not_mem_nil,or_false] at hs;rcases hs with rfl|rfl|rfl|rfl|rfl|rfl|rfl|rfl|rfl|rfl|rfl|rfl|rfl|rfl|rfl|rfl<;>(go_enter func136,ntmps136;go_wp2_with fail;go_ret;exact ⟨rfl,rfl⟩)
theorem JE(U o:Nat)(w:World):∀s∈Jf,Calls prog 138 #[.pointer (some ⟨U,o,none⟩),.string ⟨s.toArray⟩] w fun e w'=>e=.returned (ZgG U o Yb s)/\w'=w:=by
 intro s hs;simp only [Jf,List.mem_cons,List.not_mem_nil,or_false] at hs;rcases hs with rfl|rfl|rfl|rfl|rfl|rfl|rfl|rfl|rfl|rfl|rfl|rfl|rfl|rfl|rfl|rfl<;>(go_enter func138,ntmps138;go_wp2_with fail;go_ret;exact ⟨rfl,rfl⟩)
theorem Q6(U o:Nat)(w:World):∀s∈Zc4,Calls prog 179 #[.pointer (some ⟨U,o,none⟩),.string ⟨s.toArray⟩] w fun e w'=>e=.returned (ZgG U o Yj s)/\w'=w:=by
 intro s hs;simp only [Zc4,List.mem_cons,List.not_mem_nil,or_false] at hs;rcases hs with rfl|rfl|rfl|rfl|rfl|rfl|rfl|rfl|rfl|rfl|rfl|rfl|rfl|rfl|rfl|rfl<;>(go_enter func179,ntmps179;go_wp2_with fail;go_ret;exact ⟨rfl,rfl⟩)
theorem Zab(U o:Nat)(w:World):∀s∈Zc4,Calls prog 145 #[.pointer (some ⟨U,o,none⟩),.string ⟨s.toArray⟩] w fun e w'=>e=.returned (ZgG U o YE s)/\w'=w:=by
 intro s hs;simp only [Zc4,List.mem_cons,List.not_mem_nil,or_false] at hs;rcases hs with rfl|rfl|rfl|rfl|rfl|rfl|rfl|rfl|rfl|rfl|rfl|rfl|rfl|rfl|rfl|rfl<;>(go_enter func145,ntmps145;go_wp2_with fail;go_ret;exact ⟨rfl,rfl⟩)
theorem J6(U o:Nat)(w:World):∀s∈Zc4,Calls prog 142 #[.pointer (some ⟨U,o,none⟩),.string ⟨s.toArray⟩] w fun e w'=>e=.returned (ZgG U o Xi s)/\w'=w:=by
 intro s hs;simp only [Zc4,List.mem_cons,List.not_mem_nil,or_false] at hs;rcases hs with rfl|rfl|rfl|rfl|rfl|rfl|rfl|rfl|rfl|rfl|rfl|rfl|rfl|rfl|rfl|rfl<;>(go_enter func142,ntmps142;go_wp2_with fail;go_ret;exact ⟨rfl,rfl⟩)
theorem Znc(w:World):∀s∈Jf,Calls prog 92 #[.string ⟨s.toArray⟩] w fun e w'=>e=.returned (.int .i64 (ZI s:Nat))/\w'=w:=by
 intro s hs;simp only [Jf,List.mem_cons,List.not_mem_nil,or_false] at hs;exact m100_
theorem ZnK(w:World):∀s∈Zc4,Calls prog 92 #[.string ⟨s.toArray⟩] w fun e w'=>e=.returned (.int .i64 (ZI s:Nat))/\w'=w:=by
 intro s hs;simp only [Zc4,List.mem_cons,List.not_mem_nil,or_false] at hs;exact m100_
theorem ZnU(w:World):Calls prog 92 #[.string ⟨ZJ.toArray⟩] w fun e w'=>e=.returned (.int .i64 (ZI ZJ:Nat))/\w'=w:=by
 go_enter func92,ntmps92;go_wp2_with fail;go_ret;exact ⟨rfl,rfl⟩
theorem Zdf:∀k∈Ze,k.list=false->k.name∈Jf:=n4_
theorem ZfF:∀k∈Ze,k.list=true->ZI k.name=0->k.name≠ZJ->k.name∈Zc4:=n4_
theorem Zn5:∀k∈Ze,ZI k.name≠0->k.name∈ZbD:=n4_
theorem Zi7(w:World)(k:ZC)(hk:k∈Ze):Calls prog 92 #[.string ⟨k.name.toArray⟩] w fun e w'=>e=.returned (.int .i64 (ZI k.name:Nat))/\w'=w:=by
 by_cases hr:ZI k.name=0
 ·by_cases he:k.name=ZJ
  ·rw [he];exact ZnU w
  ·cases hl:k.list with
   |true=>exact ZnK w _ (ZfF k hk hl hr he)
   |false=>exact Znc w _ (Zdf k hk hl)
 ·exact JP w _ (Zn5 k hk hr)
def fnd(tab:List (Str×Nat))(s:Str):Option Nat:=(tab.find? fun p=>p.1==s).map fun p=>p.2
theorem Zjm(U o:Nat)(tab:List (Str×Nat))(s:Str):ZgG U o tab s=.pointer ((fnd tab s).map fun j=>⟨U,o+j,none⟩):=by
 unfold ZgG fnd;rw [Option.map_map];rfl
theorem Zgk:(Ze.all fun k=>k.list||(if k.form==1||k.form==5 then fnd Y6 k.name==some (Zc k.name)&&(fnd XJ k.name==none&&fnd Yb k.name==none) else if k.form==2 then fnd Y6 k.name==none&&(fnd XJ k.name==some (Zc k.name)&&fnd Yb k.name==none) else fnd Y6 k.name==none&&(fnd XJ k.name==none&&fnd Yb k.name==some (Zc k.name))))=true:=n4_
theorem Zi3:(Ze.all fun k=>!k.list||(ZI k.name !=0||(k.form==8||(if k.form==7 then fnd Yj k.name==none&&(fnd YE k.name==none&&fnd Xi k.name==some (Zc k.name)) else if k.form==4||k.form==11 then fnd Yj k.name==some (Zc k.name)&&(fnd YE k.name==none&&fnd Xi k.name==none) else fnd Yj k.name==none&&(fnd YE k.name==some (Zc k.name)&&fnd Xi k.name==none)))))=true:=n4_
end Go.Proofs.YtmgmbeipbeknaaaGreatDoor
