import Derived.Test.YtgoooebfhdbbkaaGreatDoorUM1
import Derived.Test.YtgoooebfhdbbkaaGreatDoorUM8
import Derived.Test.YtgoooebfhdbbkaaGreatDoorUM10
import Derived.Test.YtgoooebfhdbbkaaGreatDoorUM31
namespace Go.Proofs.YtgoooebfhdbbkaaGreatDoor
open Go.Proofs.Tryz
open Go Go.RowKit
set_option linter.unusedVariables false
set_option linter.unusedSimpArgs false
set_option maxHeartbeats 16000000
set_option maxRecDepth 100000
theorem Zja(k:Nat):(Yt k).length<=7:=by
 unfold Yt;repeat' split<;>first|decide|skip
theorem Zml(s:ByteArray)(k:Nat)(w:World)(hs:s.size<4294967200)(hm:ZA w)(t:Str)(ht:ZdU s.data.toList k=t) :
  Calls prog 24 #[.string s,.int .i64 k] w fun e w'=>e=.returned (.string ⟨t.toArray⟩)/\Below w.heap.size w w':=by
 obtain ⟨a,b,hab⟩:∃a b,ZG s.data.toList=(a,b):=⟨_,_,rfl⟩;have hl:s.data.toList.length=s.size:=s_;have hal:a.length<=s.size:=n68_;unfold ZdU at ht;rw [hab] at ht;simp only at ht;have HC1:=h_ (Zi0 s w o_ a b hab);have HS:=h_ (fun (w':World)=>Zde (k:Int) w' (Yt k) (ZfY k));obtain ⟨A,hA⟩:∃A:ByteArray,A=⟨a.toArray⟩:=⟨_,rfl⟩;obtain ⟨B,hB⟩:∃B:ByteArray,B=⟨b.toArray⟩:=⟨_,rfl⟩;obtain ⟨F,hF⟩:∃F:ByteArray,F=⟨(Yt k).toArray⟩:=⟨_,rfl⟩;obtain ⟨T,hT⟩:∃T:ByteArray,T=(A++⟨#[46]⟩)++F:=⟨_,rfl⟩;have hTs:T.data.toList=a++46::Yt k:=by subst hT hA hF;simp [ByteArray.data_append]
 have hTz:T.size<4294967281:=by
  have:=Zja k
  have h2:T.data.toList.length=T.size:=s_;rw [<-h2,hTs,List.length_append,List.length_cons];omega
 have z1:A.size<4294967200:=by subst hA;show a.toArray.size<_;simp;omega
 have z2:F.size<=7:=by subst hF;show (Yt k).toArray.size<=_;simp;exact Zja k
 have z3:(A++(⟨#[46]⟩:ByteArray)).size=A.size+1:=by rw [ByteArray.size_append];rfl
 have HM1:=h_ (fun w' (h:Below w.heap.size w w') c hc=>Zbn s w' o_ (hm.below h) c hc);have HM2:=h_ (fun w' (h:Below w.heap.size w w') c hc=>Zbn T w' hTz (hm.below h) c hc);rw [<-hA,<-hB] at HC1;rw [<-hF] at HS;rw [<-hTs] at ht;by_cases h1:Zw s.data.toList≠0
 ·have HM1':=h_ (fun w' (h:Below w.heap.size w w')=>HM1.out w' h true (by simpa using h1))
  by_cases h2:Zw T.data.toList≠0
  ·rw [if_pos ⟨h1,h2⟩] at ht
   have HM2':=h_ (fun w' (h:Below w.heap.size w w')=>HM2.out w' h true n80_);have hTt:=h_ (show T=⟨t.toArray⟩ from Yb (by rw [<-ht,hTs]));clear HM1 HM2 h1 h2 ht hTs hTz hF hA hB hab hal hl;subst hT;go_enter func24,ntmps24;go_wp2_with (first
    |(go_at_call 43;refine HC1.out.mono ?_;rintro e w' ⟨rfl,n,rfl⟩)
    |(go_at_call 46;refine (HS.out _).mono ?_;rintro e w' ⟨rfl,rfl⟩)
    |fail)
   refine (HM1'.out _ (Zb ⟨_,rfl⟩)).mono ?_;rintro e w' ⟨rfl,hb1⟩;have hbb:=Below.more (Zb (a:=w) ⟨_,rfl⟩) hb1;clear hb1;go_wp2_with fail;refine (HM2'.out _ hbb).mono ?_;rintro e w'' ⟨rfl,hb1⟩;have hbc:=Below.more hbb hb1;clear hb1;go_wp2_with fail;go_ret;exact ⟨JZ (congrArg Value.string hTt.out),hbc⟩
  ·rw [if_neg (by intro e;exact h2 e.2)] at ht
   subst ht;have HM2':=h_ (fun w' (h:Below w.heap.size w w')=>HM2.out w' h false n80_);clear HM1 HM2 h1 h2 hTs hTz hF hA hB hab hal hl;subst hT;go_enter func24,ntmps24;go_wp2_with (first
    |(go_at_call 43;refine HC1.out.mono ?_;rintro e w' ⟨rfl,n,rfl⟩)
    |(go_at_call 46;refine (HS.out _).mono ?_;rintro e w' ⟨rfl,rfl⟩)
    |fail)
   refine (HM1'.out _ (Zb ⟨_,rfl⟩)).mono ?_;rintro e w' ⟨rfl,hb1⟩;have hbb:=Below.more (Zb (a:=w) ⟨_,rfl⟩) hb1;clear hb1;go_wp2_with fail;refine (HM2'.out _ hbb).mono ?_;rintro e w'' ⟨rfl,hb1⟩;have hbc:=Below.more hbb hb1;clear hb1;go_wp2_with fail;go_ret;exact ⟨rfl,hbc⟩
 ·rw [if_neg (by intro e;exact h1 e.1)] at ht
  subst ht;have HM1':=h_ (fun w' (h:Below w.heap.size w w')=>HM1.out w' h false (by simpa using h1));clear HM1 HM2 h1 hTs hTz hF hA hB hab hal hl;go_enter func24,ntmps24;go_wp2_with (first
   |(go_at_call 43;refine HC1.out.mono ?_;rintro e w' ⟨rfl,n,rfl⟩)
   |(go_at_call 46;refine (HS.out _).mono ?_;rintro e w' ⟨rfl,rfl⟩)
   |fail)
  refine (HM1'.out _ (Zb ⟨_,rfl⟩)).mono ?_;rintro e w' ⟨rfl,hb1⟩;have hbb:=Below.more (Zb (a:=w) ⟨_,rfl⟩) hb1;clear hb1;go_wp2_with fail;go_ret;exact ⟨rfl,hbb⟩
def Zgm(k:Int)(name unit:Str):Str:=if k=2\/k=3 then (if unit≠[] then unit else ZdU name 1) else []
theorem m235_{p:Prop}(h:p:=by go_enter func10,ntmps10;go_wp2_with fail;refine HC2.out.mono ?_;rintro e w' ⟨rfl,hb1⟩;have H2:=h_ (HB.out.trans (hb1.mono HB.out.size));clear hb1;go_wp2_with fail;go_ret;exact ⟨rfl,H2.out⟩):p:=h
theorem m236_{p:Prop}(h:p:=by go_enter func10,ntmps10;go_wp2_with fail;go_ret;exact ⟨rfl,HB.out⟩):p:=h
theorem ZnV(cs:Array Value)(nm un:Str)(k:Int)(w:World)(hm:ZA w)(h0:cs[0]?=some (.string ⟨nm.toArray⟩))(h1:cs[1]?=some (.int .i64 k))(h24:cs[24]?=some (.string ⟨un.toArray⟩))(hn:nm.length<4194304)(t:Str)(ht:Zgm k nm un=t) :
  Calls prog 10 #[.agg cs] w fun e w'=>e=.returned (.string ⟨t.toArray⟩)/\Below w.heap.size w w':=by
 have hB:=(Below.refl w.heap.size w).alloc l_ (.cells cs 30);have hb:=(rd (heap_alloc_new w (.cells cs 30))).1;have k0:=(hb 0).trans h0;have k1:=(hb 1).trans h1;have k24:=(hb 24).trans h24;have HC:=h_ (fun W (h:Below w.heap.size w W) t' h'=>Zml ⟨nm.toArray⟩ 1 W (by show nm.toArray.size<_;simp;omega) (hm.below h) t' h');have HB:=h_ hB;clear hb hB;unfold Zgm at ht;by_cases hk:k=2\/k=3
 ·rw [if_pos hk] at ht
  by_cases hu:un=[]
  ·rw [if_neg (by simp [hu])] at ht
   have HC2:=h_ (HC.out _ HB.out t ht);subst hu;clear HC ht;rcases hk with rfl|rfl
   ·exact m235_
   ·exact m235_
  ·rw [if_pos hu] at ht
   subst ht;clear HC;have q:List.isEmpty un=false:=by simpa using hu
   rcases hk with rfl|rfl
   ·exact m236_
   ·exact m236_
 ·rw [if_neg hk] at ht
  subst ht;have q2:(k !=2)=true:=n131_;have q3:(k !=3)=true:=n131_;clear HC hk;exact m236_
theorem m238_{p:Prop}(h:p:=by go_enter func11,ntmps11;go_wp2_with fail;refine (HC2.out _).mono ?_;rintro e w' ⟨rfl,hb1⟩;have H2:=h_ (HB.out.trans (hb1.mono HB.out.size));clear hb1;go_wp2_with fail;go_ret;exact ⟨rfl,H2.out⟩):p:=h
theorem m239_{p:Prop}(h:p:=by go_enter func11,ntmps11;go_wp2_with fail;go_ret;exact ⟨rfl,HB.out⟩):p:=h
theorem ZkP(cs:Array Value)(nm un:Str)(k:Int)(w:World)(h0:cs[0]?=some (.string ⟨nm.toArray⟩))(h1:cs[1]?=some (.int .i64 k))(h24:cs[24]?=some (.string ⟨un.toArray⟩))(hn:nm.length<1000000)(t:Str)(ht:Zgm k nm un=t) :
  Calls prog 11 #[.agg cs] w fun e w'=>e=.returned (.string ⟨t.toArray⟩)/\Below w.heap.size w w':=by
 have hB:=(Below.refl w.heap.size w).alloc l_ (.cells cs 30);have hb:=(rd (heap_alloc_new w (.cells cs 30))).1;have k0:=(hb 0).trans h0;have k1:=(hb 1).trans h1;have k24:=(hb 24).trans h24;have HC:=h_ (fun W t' h'=>Zkm ⟨nm.toArray⟩ 1 o_ o_ W t' h' (by show nm.toArray.size<_;simpa using hn));have HB:=h_ hB;clear hb hB;unfold Zgm at ht;by_cases hk:k=2\/k=3
 ·rw [if_pos hk] at ht
  by_cases hu:un=[]
  ·rw [if_neg (by simp [hu])] at ht
   have HC2:=h_ (fun W=>HC.out W t ht);subst hu;clear HC ht;rcases hk with rfl|rfl
   ·exact m238_
   ·exact m238_
  ·rw [if_pos hu] at ht
   subst ht;clear HC;have q:List.isEmpty un=false:=by simpa using hu
   rcases hk with rfl|rfl
   ·exact m239_
   ·exact m239_
 ·rw [if_neg hk] at ht
  subst ht;have k2:(k !=2)=true:=n131_;have k3:(k !=3)=true:=n131_;clear hk HC;exact m239_
end Go.Proofs.YtgoooebfhdbbkaaGreatDoor
