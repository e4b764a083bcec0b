import Derived.Test.YtmgmbeipbeknaaaGreatDoorRT7
import Derived.Test.YtmgmbeipbeknaaaGreatDoorRT9
import Derived.Test.YtmgmbeipbeknaaaGreatDoorRT17
namespace Go.Proofs.YtmgmbeipbeknaaaGreatDoor
open Go.Proofs.Tryz
open Go Go.RowKit
set_option linter.unusedVariables false
set_option linter.unusedSimpArgs false
set_option maxHeartbeats 16000000
set_option maxRecDepth 100000
theorem Zdq(s:ByteArray)(w:World)(hs:s.size<4294967281)(hm:Zi w)(b:Bool)(hb:decide (ZH s.data.toList≠0)=b) :
  Calls prog 126 #[.string s] w fun e w'=>e=.returned (.bool b)/\Below w.heap.size w w':=by
 have HC:=h_ (Jc s w hs hm _ rfl);have hb':((ZH s.data.toList:Int)!=0)=b:=by
  rw [<-hb];by_cases h:ZH s.data.toList=0
  ·rw [h];rfl
  ·have:((ZH s.data.toList:Int)==0)=false:=n12_
   simp [bne,this,h]
 generalize ZH s.data.toList=n at HC hb';clear hb;go_enter func126,ntmps126;go_wp2_with (refine HC.out.mono ?_;rintro e w' ⟨rfl,hb1⟩);go_ret;exact ⟨rfl,hb1⟩
theorem m20_{p:Prop}(h:p:=by rintro e w1 ⟨rfl,hb1⟩;have HB1:=h_ hb1;clear hb1;go_wp2_with fail;go_ret;exact ⟨n10_,HB1.out⟩):p:=h
theorem m21_{p:Prop}(h:p:=by go_wp2_with fail;go_ret;exact ⟨by rw [HR.out,hi];rfl,HB1.out⟩):p:=h
def ZaU(s:Str):Str×Str×Bool:=if ZH s=0 then ([],[],false) else cutAt (YV s).1
def Zhi(s:Str):Bool:=(ZaU s).2.2&&(ZaU s).2.1.isEmpty
def Zfl(s:Str):Bool:=decide (ZH s≠0)&&!Zhi s
theorem Zhb(s:ByteArray)(w:World)(hs:s.size<4294967281)(hm:Zi w)(p i:Str)(f:Bool)(hp:ZaU s.data.toList=(p,i,f)) :
  Calls prog 68 #[.string s] w fun e w'=>e=.returned (.tuple #[.string ⟨p.toArray⟩,.string ⟨i.toArray⟩,.bool f])/\Below w.heap.size w w':=by
 obtain ⟨a,b,hab⟩:∃a b,YV s.data.toList=(a,b):=⟨_,_,rfl⟩;have hl:s.data.toList.length=s.size:=s_;have hal:a.length<=s.size:=by have:=(Zcg s.data.toList).1;rw [hab,hl] at this;exact this
 unfold ZaU at hp;rw [hab] at hp;have HM:=h_ hm;have HC1:=h_ (fun W=>Znk s W o_ a b hab);have HC2:=h_ (fun W (h:Zi W) q j g hq=>ZhD ⟨a.toArray⟩ W (by show a.toArray.size<_;simp;omega) h q j g hq);clear hm;by_cases h0:ZH s.data.toList=0
 ·rw [if_pos h0] at hp
  obtain ⟨rfl,rfl,rfl⟩:p=[]/\i=[]/\f=false:=by simpa using hp
  have HMY:=h_ (fun W h=>Zdq s W hs h false (by simp [h0]));clear hp h0;go_enter func68,ntmps68;go_wp2_with fail;refine (HMY.out w HM.out).mono ?_;rintro e w1 ⟨rfl,hb1⟩;have HB1:=h_ hb1;clear hb1;go_wp2_with fail;refine bodyPost_ret (v:=.tuple #[.string ⟨([]:Str).toArray⟩,.string ⟨([]:Str).toArray⟩,.bool false]) ?_ rfl ⟨rfl,HB1.out⟩;simp [results,results68,go_sem]
 ·rw [if_neg h0] at hp
  have HMY:=h_ (fun W h=>Zdq s W hs h true (by simp [h0]));have HP:=h_ hp;clear hp h0;go_enter func68,ntmps68;go_wp2_with fail;refine (HMY.out w HM.out).mono ?_;rintro e w1 ⟨rfl,hb1⟩;have HB1:=h_ hb1;clear hb1;go_wp2_with fail;refine (HC1.out w1).mono ?_;rintro e w2 ⟨rfl,n2,rfl⟩;have HB2:=h_ (HB1.out.trans (show Below w.heap.size w1 (w1.drewN n2) from Zc ⟨_,rfl⟩));generalize w1.drewN n2=w2 at *;go_wp2_with fail;refine (HC2.out w2 (HM.out.below HB2.out) p i f HP.out).mono ?_;rintro e w3 ⟨rfl,n3,rfl⟩;have HB3:=h_ (HB2.out.trans (show Below w.heap.size w2 (w2.drewN n3) from Zc ⟨_,rfl⟩));generalize w2.drewN n3=w3 at *;go_wp2_with fail;refine bodyPost_ret (v:=.tuple #[.string ⟨p.toArray⟩,.string ⟨i.toArray⟩,.bool f]) ?_ rfl ⟨rfl,HB3.out⟩;simp [results,results68,go_sem]
theorem ZjW(s:ByteArray)(w:World)(hs:s.size<4294967281)(hm:Zi w)(r:Bool)(hr:Zhi s.data.toList=r) :
  Calls prog 28 #[.string s] w fun e w'=>e=.returned (.bool r)/\Below w.heap.size w w':=by
 obtain ⟨p,i,f,hp⟩:∃p i f,ZaU s.data.toList=(p,i,f):=⟨_,_,_,rfl⟩;have HP:=h_ (Zhb s w hs hm p i f hp);unfold Zhi at hr;rw [hp] at hr;simp only at hr;clear hp hm;cases f with
 |false=>
  have HR:=h_ (show r=false by rw [<-hr];rfl);clear hr;go_enter func28,ntmps28;go_wp2_with fail;refine HP.out.mono ?_;exact m20_
 |true=>
  have HR:=h_ (show r=i.isEmpty by rw [<-hr];simp);clear hr;go_enter func28,ntmps28;go_wp2_with fail;refine HP.out.mono ?_;rintro e w1 ⟨rfl,hb1⟩;have HB1:=h_ hb1;clear hb1;cases hi:i.isEmpty with
  |true=>
   exact m21_
  |false=>
   exact m21_
theorem ZjJ(s:ByteArray)(w:World)(hs:s.size<4294967281)(hm:Zi w)(r:Bool)(hr:Zfl s.data.toList=r) :
  Calls prog 257 #[.string s] w fun e w'=>e=.returned (.bool r)/\Below w.heap.size w w':=by
 have HM:=h_ hm;obtain ⟨m,hmm⟩:∃m,decide (ZH s.data.toList≠0)=m:=⟨_,rfl⟩;obtain ⟨b,hb⟩:∃b,Zhi s.data.toList=b:=⟨_,rfl⟩;unfold Zfl at hr;rw [hmm,hb] at hr;have HMY:=h_ (Zdq s w hs hm m hmm);have HBR:=h_ (fun W h=>ZjW s W hs h b hb);clear hm hmm hb;cases m with
 |false=>
  have HR:=h_ (show r=false by rw [<-hr];rfl);clear hr;go_enter func257,ntmps257;go_wp2_with fail;refine HMY.out.mono ?_;exact m20_
 |true=>
  have HR:=h_ (show r=!b by rw [<-hr];simp);clear hr;go_enter func257,ntmps257;go_wp2_with fail;refine HMY.out.mono ?_;rintro e w1 ⟨rfl,hb1⟩;have HB1:=h_ hb1;clear hb1;go_wp2_with fail;refine (HBR.out w1 (HM.out.below HB1.out)).mono ?_;rintro e w2 ⟨rfl,hb2⟩;have HB2:=h_ (HB1.out.trans (hb2.mono HB1.out.size));clear hb2;go_wp2_with fail;go_ret;exact ⟨n10_,HB2.out⟩
theorem m22_{p:Prop}(h:p:=by subst hv;go_enter func132,ntmps132;go_wp2_with fail;refine (HR.out _ (b_.alloc l_ _)).mono ?_;rintro e w1 ⟨rfl,hb1⟩;have HB:=h_ (((Below.refl w.heap.size w).alloc l_ (.cells #[.string ⟨sec.toArray⟩,.string ⟨name.toArray⟩,.int .i64 form,.bool list,.int .i64 kinds,.slice wa wn wc] 82)).trans (hb1.mono s_));clear hb1;go_wp2_with fail;go_ret;exact ⟨rfl,HB.out⟩):p:=h
theorem m23_{p:Prop}(h:p:=by go_enter func132,ntmps132;go_wp2_with fail;go_ret;exact ⟨rfl,b_.alloc l_ _⟩):p:=h
def Zsg(form:Int)(list:Bool)(v:Str)(m:Bool):Int:=
 if form<1\/11<form then 3 else if v=[]/\(list=true\/form=1) then 0 else if v=[]\/m=false then 12 else 0
theorem ZnL(kv:ZJ)(v:Str)(w:World)(m:Bool)(hr:∀W,Below w.heap.size w W->Calls prog 205 #[.agg (Zq kv).toArray,.string ⟨v.toArray⟩] W fun e w'=>e=.returned (.bool m)/\Below W.heap.size W w')(r:Int)(hv:Zsg kv.form kv.list v m=r) :
  Calls prog 132 #[.agg (Zq kv).toArray,.string ⟨v.toArray⟩] w fun e w'=>e=.returned (.int .i64 r)/\Below w.heap.size w w':=by
 unfold Zq at *;obtain ⟨sec,name,form,list,kinds,wa,wn,wc⟩:=kv;unfold Zsg at hv;simp only at *;have HR:=h_ hr;clear hr;by_cases h1:form<1
 ·rw [if_pos (.inl h1)] at hv
  subst hv;exact m23_
 by_cases h2:11<form
 ·rw [if_pos (.inr h2)] at hv
  subst hv;exact m23_
 rw [if_neg o_] at hv;cases v with
 |nil=>
  cases list with
  |true=>
   rw [if_pos s_] at hv;subst hv;exact m23_
  |false=>
   by_cases h3:form=1
   ·subst h3
    rw [if_pos s_] at hv;subst hv;clear h1 h2;exact m23_
   ·rw [if_neg (by simp [h3]),if_pos s_] at hv
    subst hv;exact m23_
 |cons c t=>
  rw [if_neg s_] at hv;have hsz:(⟨(c::t).toArray⟩:ByteArray).size≠0:=n16_;obtain ⟨n1,n2,n3,n4⟩:=X5 hsz;generalize (⟨(c::t).toArray⟩:ByteArray)=s at *;cases m with
  |true=>
   rw [if_neg s_] at hv;exact m22_
  |false=>
   rw [if_pos s_] at hv;exact m22_
end Go.Proofs.YtmgmbeipbeknaaaGreatDoor
