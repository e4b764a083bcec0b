import Derived.Deep.LoopGhost
import Derived.Test.YtmgmbeipbeknaaaGreatDoorRB2
import Derived.Test.YtmgmbeipbeknaaaGreatDoorRB4
import Derived.Test.YtmgmbeipbeknaaaGreatDoorRB23
import Derived.Test.YtmgmbeipbeknaaaGreatDoorRB29
namespace Go.Proofs.YtmgmbeipbeknaaaGreatDoor
open Go.Proofs.Tryz
open Go Go.RowKit
set_option linter.all false
set_option maxHeartbeats 16000000
set_option maxRecDepth 100000
def XQ:List (Str×Nat):=[(ZcI,2),(QR,23),(Zn,24),(Z7,24),(JF,34)]
theorem Zna(U o:Nat)(w:World):∀p∈XQ,Calls prog 135 #[.pointer (some ⟨U,o,none⟩),.string ⟨p.1.toArray⟩] w fun e w'=>e=.returned (.pointer (some ⟨U,o+p.2,none⟩))/\w'=w:=by
 intro p hp;simp only [XQ,List.mem_cons,List.not_mem_nil,or_false] at hp;rcases hp with rfl|rfl|rfl|rfl|rfl<;>(go_enter func135,ntmps135;go_wp2_with fail;go_ret;exact ⟨rfl,rfl⟩)
theorem ZeL(U:Nat)(w:World)(p)(hp:p∈XQ):Calls prog 135 #[.pointer (some ⟨U,0,none⟩),.string ⟨p.1.toArray⟩] w fun e w'=>e=.returned (.pointer (some ⟨U,p.2,none⟩))/\w'=w:=by
 have h:=Zna U 0 w p hp
 rwa [Nat.zero_add] at h
def QG:List (Str×Nat):=[(Qz,3),(JN,13),(Zdo,29)]
theorem Zld(U o:Nat)(w:World):∀p∈QG,Calls prog 136 #[.pointer (some ⟨U,o,none⟩),.string ⟨p.1.toArray⟩] w fun e w'=>e=.returned (.pointer (some ⟨U,o+p.2,none⟩))/\w'=w:=by
 intro p hp;simp only [QG,List.mem_cons,List.not_mem_nil,or_false] at hp;rcases hp with rfl|rfl|rfl<;>(go_enter func136,ntmps136;go_wp2_with fail;go_ret;exact ⟨rfl,rfl⟩)
theorem Zkt(U:Nat)(w:World)(p)(hp:p∈QG):Calls prog 136 #[.pointer (some ⟨U,0,none⟩),.string ⟨p.1.toArray⟩] w fun e w'=>e=.returned (.pointer (some ⟨U,p.2,none⟩))/\w'=w:=by
 have h:=Zld U 0 w p hp
 rwa [Nat.zero_add] at h
def YK:List (Str×Nat):=[(Qf,5),(JQ,6),(Zhx,7),(ZaK,14),(Zdf,15),(JJ,16),(Zas,17),(Zhm,22)]
theorem Zi3(U o:Nat)(w:World):∀p∈YK,Calls prog 138 #[.pointer (some ⟨U,o,none⟩),.string ⟨p.1.toArray⟩] w fun e w'=>e=.returned (.pointer (some ⟨U,o+p.2,none⟩))/\w'=w:=by
 intro p hp;simp only [YK,List.mem_cons,List.not_mem_nil,or_false] at hp;rcases hp with rfl|rfl|rfl|rfl|rfl|rfl|rfl|rfl<;>(go_enter func138,ntmps138;go_wp2_with fail;go_ret;exact ⟨rfl,rfl⟩)
theorem Za8(U:Nat)(w:World)(p)(hp:p∈YK):Calls prog 138 #[.pointer (some ⟨U,0,none⟩),.string ⟨p.1.toArray⟩] w fun e w'=>e=.returned (.pointer (some ⟨U,p.2,none⟩))/\w'=w:=by
 have h:=Zi3 U 0 w p hp
 rwa [Nat.zero_add] at h
def YS:List (Str×Nat):=[(Q0,18),(Qs,21),(Zeh,25),(ZcA,26),(Q5,27)]
theorem Zin(U o:Nat)(w:World):∀p∈YS,Calls prog 179 #[.pointer (some ⟨U,o,none⟩),.string ⟨p.1.toArray⟩] w fun e w'=>e=.returned (.pointer (some ⟨U,o+p.2,none⟩))/\w'=w:=by
 intro p hp;simp only [YS,List.mem_cons,List.not_mem_nil,or_false] at hp;rcases hp with rfl|rfl|rfl|rfl|rfl<;>(go_enter func179,ntmps179;go_wp2_with fail;go_ret;exact ⟨rfl,rfl⟩)
theorem ZcK(U:Nat)(w:World)(p)(hp:p∈YS):Calls prog 179 #[.pointer (some ⟨U,0,none⟩),.string ⟨p.1.toArray⟩] w fun e w'=>e=.returned (.pointer (some ⟨U,p.2,none⟩))/\w'=w:=by
 have h:=Zin U 0 w p hp
 rwa [Nat.zero_add] at h
def Xm:List (Str×Nat):=[(Ze0,20),(Zdn,28),(ZdJ,30),(Zbs,31),(Zj1,32),(ZpB,33)]
theorem ZkR(U o:Nat)(w:World):∀p∈Xm,Calls prog 145 #[.pointer (some ⟨U,o,none⟩),.string ⟨p.1.toArray⟩] w fun e w'=>e=.returned (.pointer (some ⟨U,o+p.2,none⟩))/\w'=w:=by
 intro p hp;simp only [Xm,List.mem_cons,List.not_mem_nil,or_false] at hp;rcases hp with rfl|rfl|rfl|rfl|rfl|rfl<;>(go_enter func145,ntmps145;go_wp2_with fail;go_ret;exact ⟨rfl,rfl⟩)
theorem ZdZ(U:Nat)(w:World)(p)(hp:p∈Xm):Calls prog 145 #[.pointer (some ⟨U,0,none⟩),.string ⟨p.1.toArray⟩] w fun e w'=>e=.returned (.pointer (some ⟨U,p.2,none⟩))/\w'=w:=by
 have h:=ZkR U 0 w p hp
 rwa [Nat.zero_add] at h
def Qa:List (Str×Nat):=[(ZbJ,8),(ZeF,9),(Za6,10),(ZfI,11),(Zc7,12)]
theorem ZkV(U o:Nat)(w:World):∀p∈Qa,Calls prog 142 #[.pointer (some ⟨U,o,none⟩),.string ⟨p.1.toArray⟩] w fun e w'=>e=.returned (.pointer (some ⟨U,o+p.2,none⟩))/\w'=w:=by
 intro p hp;simp only [Qa,List.mem_cons,List.not_mem_nil,or_false] at hp;rcases hp with rfl|rfl|rfl|rfl|rfl<;>(go_enter func142,ntmps142;go_wp2_with fail;go_ret;exact ⟨rfl,rfl⟩)
theorem ZiX(U:Nat)(w:World)(p)(hp:p∈Qa):Calls prog 142 #[.pointer (some ⟨U,0,none⟩),.string ⟨p.1.toArray⟩] w fun e w'=>e=.returned (.pointer (some ⟨U,p.2,none⟩))/\w'=w:=by
 have h:=ZkV U 0 w p hp
 rwa [Nat.zero_add] at h
def Zc3:List Str:=[Z8,Zhu,Za3,Zc5,Ze3,ZaH,ZeM,Zhb,ZaY,Ze0,ZdJ,Zbs,Zj1,ZpB]
theorem Zbp(w:World):∀s∈Zc3,Calls prog 92 #[.string ⟨s.toArray⟩] w fun e w'=>e=.returned (.int .i64 (ZL s:Nat))/\w'=w:=by
 intro s hs;simp only [Zc3,List.mem_cons,List.not_mem_nil,or_false] at hs;rcases hs with rfl|rfl|rfl|rfl|rfl|rfl|rfl|rfl|rfl|rfl|rfl|rfl|rfl|rfl<;>(go_enter func92,ntmps92;go_wp2_with fail;go_ret;exact ⟨rfl,rfl⟩)
theorem ZjC:∀k∈Zc,k.form=6->k.name∈Zc3:=n1_
theorem m91_{p:Prop}(h:p:=by go_enter func182,ntmps182;go_wp2_with fail;go_ret;exact ⟨rfl,HB.out⟩):p:=h
theorem m92_{p:Prop}(h:p:=by go_enter func183,ntmps183;go_wp2_with fail;go_ret;exact ⟨rfl,rfl⟩):p:=h
theorem ZrH(b:Bool)(w:World):Calls prog 183 #[.bool b] w fun e w'=>e=.returned (.string ⟨(Qo b).toArray⟩)/\w'=w:=by
 cases b with
 |true=>
  exact m92_
 |false=>
  exact m92_
theorem Zny(d:Bool)(v:Value)(h1:v.oneCell'=true)(oa:Option Addr)(n c:Nat)(hv:v=.slice oa n c)(w:World):Calls prog 182 #[.agg #[.bool d,v]] w fun e w'=>e=.returned (.int .i64 (if d then 1 else 0))/\Below w.heap.size w w':=by
 subst hv;have hB:=(Below.refl w.heap.size w).alloc l_ (.cells #[.bool d,.slice oa n c] 49);have HB:=h_ hB;clear hB;cases d with
 |true=>
  exact m91_
 |false=>
  exact m91_
theorem ZnC:∀i:Fin 9,ZL (YR.getD i.val [])=i.val+1/\YR.getD i.val []∈Zc3:=n1_
theorem Zo1:∀i:Fin 9,Yg (i.val+1)=YR.getD i.val []:=n1_
theorem Zks{r:Int}(h:∀j:Nat,j<9->((j+1:Nat):Int)≠r):Yg r=[]:=by
 unfold Yg;rw [if_neg];intro hr;exact h (r-1).toNat o_ o_
theorem Znk(r:Int)(w:World):Calls prog 173 #[.int .i64 r] w fun e w'=>e=.returned (.string ⟨(Yg r).toArray⟩)/\Below w.heap.size w w':=by
 have hB:=(Below.refl w.heap.size w).alloc l_ (.cells (Zh YR).toArray 9);have HB:=h_ hB;have HR:=h_ (Zez w YR);clear hB;go_enter func173,ntmps173;go_wp2_with fail;have hw1:w.alloc (.cells (Zh YR).toArray 9)=w.alloc (.cells #[.string ⟨Z8.toArray⟩,.string ⟨Zhu.toArray⟩,.string ⟨Za3.toArray⟩,.string ⟨Zc5.toArray⟩,.string ⟨Ze3.toArray⟩,.string ⟨ZaH.toArray⟩,.string ⟨ZeM.toArray⟩,.string ⟨Zhb.toArray⟩,.string ⟨ZaY.toArray⟩] 9):=rfl;rw [hw1] at HB HR;clear hw1;generalize w.alloc (.cells #[.string ⟨Z8.toArray⟩,.string ⟨Zhu.toArray⟩,.string ⟨Za3.toArray⟩,.string ⟨Zc5.toArray⟩,.string ⟨Ze3.toArray⟩,.string ⟨ZaH.toArray⟩,.string ⟨ZeM.toArray⟩,.string ⟨Zhb.toArray⟩,.string ⟨ZaY.toArray⟩] 9)=w1 at HB HR⊢;go_loopg [5,9] 10 (fun f _ i wr=>∃k:Nat,k<=9/\i=.int .i64 k/\9-k<f/\wr=w1/\Hid (∀j:Nat,j<k->((j+1:Nat):Int)≠r))
 case atStart=>exact ⟨0,o_,rfl,o_,rfl,h_ fun j hj=>absurd hj o_⟩
 case round=>
  obtain ⟨k,hk,rfl,hf,rfl,HN⟩:=hrel;by_cases hlt:k<9
  ·obtain ⟨s,hs⟩:∃s,YR.getD k []=s:=⟨_,rfl⟩
   have hrow:=HR.out k hlt;obtain ⟨b,o,e1,hc⟩:=hrow;injection e1 with e1
   injection e1 with e1 e2
   subst e1;subst e2;rw [show YR[k]'hlt=s by rw [<-hs,List.getD_eq_getElem?_getD,List.getElem?_eq_getElem];rfl,Nat.zero_add] at hc;obtain ⟨hk1,hk2⟩:=ZnC ⟨k,hlt⟩;simp only at hk1 hk2;rw [hs] at hk1 hk2;have HS:=h_ (Zbp wr s hk2);rw [hk1] at HS;have HNM:=h_ (Zo1 ⟨k,hlt⟩);have HSS:=h_ hs;clear hs hk1 hk2;by_cases hr:((k+1:Nat):Int)=r
   ·have hb:(((k+1:Nat):Int)==r)=true:=by rw [hr];exact beq_self_eq_true _
    have HE:=h_ hr;clear hr;go_wp2_with (first|(go_at_call 92;refine HS.out.mono ?_;rintro e w' ⟨rfl,rfl⟩));go_ret;have h:=HNM.out;rw [HSS.out,show ((k:Int)+1)=r by have:=HE.out;omega] at h;rw [h];exact ⟨rfl,HB.out⟩
   ·have hb:(((k+1:Nat):Int)==r)=false:=beq_false_of_ne hr
    have HE:=h_ hr;clear hr;go_wp2_with (first|(go_at_call 92;refine HS.out.mono ?_;rintro e w' ⟨rfl,rfl⟩));go_roundg (9-k)
    case measure=>omega
    case rel=>
     refine ⟨k+1,o_,n9_,o_,rfl,h_ fun j hj=>?_⟩;rcases (show j<k\/j=k by omega) with h|h
     ·exact HN.out j h
     ·rw [h];exact HE.out
  ·obtain rfl:k=9:=o_
   have HE:=h_ (Zks HN.out);go_wp2_with fail;go_ret;rw [HE.out];exact ⟨rfl,HB.out⟩
theorem m101_{p:Prop}(h:p:=by rcases hs with rfl|rfl|rfl|rfl|rfl|rfl|rfl|rfl|rfl|rfl|rfl|rfl|rfl|rfl|rfl|rfl<;>(go_enter func92,ntmps92;go_wp2_with fail;go_ret;exact ⟨rfl,rfl⟩)):p:=h
def ZiM(U o:Nat)(tab:List (Str×Nat))(s:Str):Value:=.pointer ((tab.find? fun p=>p.1==s).map fun p=>⟨U,o+p.2,none⟩)
def Zau:List Str:=[ZcI,Qz,Qf,JQ,Zhx,JN,ZaK,Zdf,JJ,Zas,Zhm,QR,Zn,Zdo,Z7,JF]
def Zfi:List Str:=[ZbJ,ZeF,Za6,ZfI,Zc7,Q0,Ze0,Qs,Zeh,ZcA,Q5,Zdn,ZdJ,Zbs,Zj1,ZpB]
theorem Zcz(U o:Nat)(w:World):∀s∈Zau,Calls prog 135 #[.pointer (some ⟨U,o,none⟩),.string ⟨s.toArray⟩] w fun e w'=>e=.returned (ZiM U o XQ s)/\w'=w:=by
 intro s hs;simp only [Zau,List.mem_cons,List.not_mem_nil,or_false] at hs;rcases hs with rfl|rfl|rfl|rfl|rfl|rfl|rfl|rfl|rfl|rfl|rfl|rfl|rfl|rfl|rfl|rfl<;>(go_enter func135,ntmps135;go_wp2_with fail;go_ret;exact ⟨rfl,rfl⟩)
theorem Zct(U o:Nat)(w:World):∀s∈Zau,Calls prog 136 #[.pointer (some ⟨U,o,none⟩),.string ⟨s.toArray⟩] w fun e w'=>e=.returned (ZiM U o QG s)/\w'=w:=by
 intro s hs;simp only [Zau,List.mem_cons,List.not_mem_nil,or_false] at hs;rcases hs with rfl|rfl|rfl|rfl|rfl|rfl|rfl|rfl|rfl|rfl|rfl|rfl|rfl|rfl|rfl|rfl<;>(go_enter func136,ntmps136;go_wp2_with fail;go_ret;exact ⟨rfl,rfl⟩)
theorem Za7(U o:Nat)(w:World):∀s∈Zau,Calls prog 138 #[.pointer (some ⟨U,o,none⟩),.string ⟨s.toArray⟩] w fun e w'=>e=.returned (ZiM U o YK s)/\w'=w:=by
 intro s hs;simp only [Zau,List.mem_cons,List.not_mem_nil,or_false] at hs;rcases hs with rfl|rfl|rfl|rfl|rfl|rfl|rfl|rfl|rfl|rfl|rfl|rfl|rfl|rfl|rfl|rfl<;>(go_enter func138,ntmps138;go_wp2_with fail;go_ret;exact ⟨rfl,rfl⟩)
theorem Zao(U o:Nat)(w:World):∀s∈Zfi,Calls prog 179 #[.pointer (some ⟨U,o,none⟩),.string ⟨s.toArray⟩] w fun e w'=>e=.returned (ZiM U o YS s)/\w'=w:=by
 intro s hs;simp only [Zfi,List.mem_cons,List.not_mem_nil,or_false] at hs;rcases hs with rfl|rfl|rfl|rfl|rfl|rfl|rfl|rfl|rfl|rfl|rfl|rfl|rfl|rfl|rfl|rfl<;>(go_enter func179,ntmps179;go_wp2_with fail;go_ret;exact ⟨rfl,rfl⟩)
theorem ZbE(U o:Nat)(w:World):∀s∈Zfi,Calls prog 145 #[.pointer (some ⟨U,o,none⟩),.string ⟨s.toArray⟩] w fun e w'=>e=.returned (ZiM U o Xm s)/\w'=w:=by
 intro s hs;simp only [Zfi,List.mem_cons,List.not_mem_nil,or_false] at hs;rcases hs with rfl|rfl|rfl|rfl|rfl|rfl|rfl|rfl|rfl|rfl|rfl|rfl|rfl|rfl|rfl|rfl<;>(go_enter func145,ntmps145;go_wp2_with fail;go_ret;exact ⟨rfl,rfl⟩)
theorem ZbF(U o:Nat)(w:World):∀s∈Zfi,Calls prog 142 #[.pointer (some ⟨U,o,none⟩),.string ⟨s.toArray⟩] w fun e w'=>e=.returned (ZiM U o Qa s)/\w'=w:=by
 intro s hs;simp only [Zfi,List.mem_cons,List.not_mem_nil,or_false] at hs;rcases hs with rfl|rfl|rfl|rfl|rfl|rfl|rfl|rfl|rfl|rfl|rfl|rfl|rfl|rfl|rfl|rfl<;>(go_enter func142,ntmps142;go_wp2_with fail;go_ret;exact ⟨rfl,rfl⟩)
theorem ZqV(w:World):∀s∈Zau,Calls prog 92 #[.string ⟨s.toArray⟩] w fun e w'=>e=.returned (.int .i64 (ZL s:Nat))/\w'=w:=by
 intro s hs;simp only [Zau,List.mem_cons,List.not_mem_nil,or_false] at hs;exact m101_
theorem ZqI(w:World):∀s∈Zfi,Calls prog 92 #[.string ⟨s.toArray⟩] w fun e w'=>e=.returned (.int .i64 (ZL s:Nat))/\w'=w:=by
 intro s hs;simp only [Zfi,List.mem_cons,List.not_mem_nil,or_false] at hs;exact m101_
theorem Zqw(w:World):Calls prog 92 #[.string ⟨Zy.toArray⟩] w fun e w'=>e=.returned (.int .i64 (ZL Zy:Nat))/\w'=w:=by
 go_enter func92,ntmps92;go_wp2_with fail;go_ret;exact ⟨rfl,rfl⟩
theorem ZeX:∀k∈Zc,k.list=false->k.name∈Zau:=n1_
theorem ZiD:∀k∈Zc,k.list=true->ZL k.name=0->k.name≠Zy->k.name∈Zfi:=n1_
theorem Zp5:∀k∈Zc,ZL k.name≠0->k.name∈Zc3:=n1_
theorem Zne(w:World)(k:ZE)(hk:k∈Zc):Calls prog 92 #[.string ⟨k.name.toArray⟩] w fun e w'=>e=.returned (.int .i64 (ZL k.name:Nat))/\w'=w:=by
 by_cases hr:ZL k.name=0
 ·by_cases he:k.name=Zy
  ·rw [he];exact Zqw w
  ·cases hl:k.list with
   |true=>exact ZqI w _ (ZiD k hk hl hr he)
   |false=>exact ZqV w _ (ZeX k hk hl)
 ·exact Zbp w _ (Zp5 k hk hr)
def fnd(tab:List (Str×Nat))(s:Str):Option Nat:=(tab.find? fun p=>p.1==s).map fun p=>p.2
theorem Zl6(U o:Nat)(tab:List (Str×Nat))(s:Str):ZiM U o tab s=.pointer ((fnd tab s).map fun j=>⟨U,o+j,none⟩):=by
 unfold ZiM fnd;rw [Option.map_map];rfl
theorem Zi7:(Zc.all fun k=>k.list||(if k.form==1||k.form==5 then fnd XQ k.name==some (Zb k.name)&&(fnd QG k.name==none&&fnd YK k.name==none) else if k.form==2 then fnd XQ k.name==none&&(fnd QG k.name==some (Zb k.name)&&fnd YK k.name==none) else fnd XQ k.name==none&&(fnd QG k.name==none&&fnd YK k.name==some (Zb k.name))))=true:=n1_
theorem ZmM:(Zc.all fun k=>!k.list||(ZL k.name !=0||(k.form==8||(if k.form==7 then fnd YS k.name==none&&(fnd Xm k.name==none&&fnd Qa k.name==some (Zb k.name)) else if k.form==4||k.form==11 then fnd YS k.name==some (Zb k.name)&&(fnd Xm k.name==none&&fnd Qa k.name==none) else fnd YS k.name==none&&(fnd Xm k.name==some (Zb k.name)&&fnd Qa k.name==none)))))=true:=n1_
end Go.Proofs.YtmgmbeipbeknaaaGreatDoor
