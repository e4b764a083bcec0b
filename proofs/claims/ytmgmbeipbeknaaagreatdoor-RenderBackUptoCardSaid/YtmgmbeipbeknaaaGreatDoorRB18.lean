import Derived.Test.YtmgmbeipbeknaaaGreatDoorRB5
import Derived.Test.YtmgmbeipbeknaaaGreatDoorRB16
namespace Go.Proofs.YtmgmbeipbeknaaaGreatDoor
open Go.Proofs.Tryz
open Go Go.RowKit
set_option linter.all false
set_option maxHeartbeats 16000000
set_option maxRecDepth 100000
theorem m42_{p:Prop}(h:p:=by clear hr;go_enter func327,ntmps327;go_wp2_with (go_at_call 343;refine (HB.out _).mono ?_;rintro e w' ⟨rfl,rfl⟩);go_ret;exact ⟨n3_,HW.out⟩):p:=h
theorem m43_{p:Prop}(h:p:=by go_enter func343,ntmps343;go_wp2_with fail;go_ret2;exact ⟨rfl,rfl⟩):p:=h
theorem m44_{p:Prop}(h:p:=by go_enter func291,ntmps291;go_wp2_with fail;go_ret;exact ⟨rfl,rfl⟩):p:=h
theorem m45_{p:Prop}(h:p:=by go_wp2_with (go_at_call 296;refine (H.out _).mono ?_;rintro e w' ⟨rfl,rfl⟩);go_ret;exact ⟨rfl,rfl⟩):p:=h
theorem m46_{p:Prop}(h:p:=by simp [results,results292,go_sem]):p:=h
def YQ(p:Str->Bool):List Str->Str×List Str×Bool
 |[]=>([],[],false)
 |x::t=>if p x=true then (x,t,true) else ([],x::t,false)
def ZeW(w:World)(oa0:Option Addr)(p:Str->Bool)(l:List Str)(e:Ending)(w':World):Prop:=
 ∃oa,e=.returned (.tuple #[.string ⟨(YQ p l).1.toArray⟩,.slice oa (YQ p l).2.1.length (YQ p l).2.1.length,.bool (YQ p l).2.2])/\Zp w oa (YQ p l).2.1/\(∀b o,oa=some ⟨b,o,none⟩->∃o2,oa0=some ⟨b,o2,none⟩)/\∃n,w'=w.drewN n
theorem Zis(g:FuncId)(eg:∀args w,(callFunc g args).run prog w=.ok (.enter g args) w)(p:Str->Bool)(oa:Option Addr)(l:List Str)(w:World)(hr:Zp w oa l)(hl:l.length<=1000000000)
  (hp:∀x∈l,Calls prog g #[.string ⟨x.toArray⟩] w fun e w'=>e=.returned (.bool (p x))/\w'=w) :
  Calls prog 292 #[.slice oa l.length l.length,.func (.func g) #[] #[]] w fun e w'=>ZeW w oa p l e w':=by
 unfold ZeW;cases l with
 |nil=>
  go_enter func292,ntmps292;go_wp2_with fail;refine bodyPost_ret (v:=.tuple #[.string ⟨([]:Str).toArray⟩,.slice oa 0 0,.bool false]) ?_ rfl ⟨oa,rfl,Zp.nil _ _,fun b o h=>⟨o,h⟩,0,rfl⟩;exact m46_
 |cons x t=>
  obtain ⟨b,o,rfl,d0⟩:=hr 0 s_;simp only [List.getElem_cons_zero,Nat.add_zero] at d0;have HT:=h_ (show Zp w (some ⟨b,o+1,none⟩) t from by have:=hr.drop 1;simpa using this);have HR:=h_ hr;have HP:=h_ (hp x s_);have hln:(x::t).length=t.length+1:=s_;have hz0:¬(((t.length+1:Nat):Int)=0):=o_;have hz1:(((t.length+1:Nat):Int)==0)=false:=by rw [c11_];exact hz0
  have hz2:(0:Int)<((t.length+1:Nat):Int):=o_;have hz3:0<t.length+1:=o_;cases hpx:p x with
  |false=>
   have hts:YQ p (x::t)=([],x::t,false):=by rw [YQ,if_neg (by simp [hpx])]
   rw [hts];rw [hpx] at HP;simp only;rw [hln] at *;clear hpx hr hp hts;go_enter func292,ntmps292;go_wp2_with (go_at_fn g;refine HP.out.mono ?_;rintro e w' ⟨rfl,rfl⟩);refine bodyPost_ret (v:=.tuple #[.string ⟨([]:Str).toArray⟩,.slice (some ⟨b,o,none⟩) (t.length+1) (t.length+1),.bool false]) ?_ rfl ⟨_,rfl,HR.out,fun b o h=>⟨o,h⟩,0,rfl⟩;exact m46_
  |true=>
   have hts:YQ p (x::t)=(x,t,true):=by rw [YQ,if_pos hpx]
   rw [hts];rw [hpx] at HP;simp only;have hz4:(1:Int)<=((t.length+1:Nat):Int):=o_;rw [hln] at *;clear hpx hr hp hts;go_enter func292,ntmps292;go_wp2_with (go_at_fn g;refine HP.out.mono ?_;rintro e w' ⟨rfl,rfl⟩);by_cases ht0:t.length=0
   ·have HT0:=h_ (c10_ ht0)
    rw [ht0] at *;go_quiet (fail);go_wp2;obtain rfl:=HT0.out;refine bodyPost_ret (v:=.tuple #[.string ⟨x.toArray⟩,.slice (some ⟨b,o,none⟩) 0 0,.bool true]) ?_ rfl ⟨_,rfl,Zp.nil _ _,(by first|exact fun b o h=>⟨o,h⟩|(intros;simp_all;done)|(simp;done)),_,rfl⟩;exact m46_
   ·have ht1:¬(t.length+1=1):=o_
    have ht2:¬((t.length:Int)+1=1):=o_;go_quiet (fail);go_wp2;refine bodyPost_ret (v:=.tuple #[.string ⟨x.toArray⟩,.slice (some ⟨b,o+1,none⟩) t.length t.length,.bool true]) ?_ rfl ⟨_,rfl,HT.out,(by first|exact fun b' o' h=>⟨o,by cases h;rfl⟩|(intros;simp_all;done)|(simp;done)),_,rfl⟩;exact m46_
def nmS(s:Str):Str:=
 if s=[109,105,110,117,116,101,108,121] then [42,45,42,45,42,32,42,58,42,58,48,48] else
 if s=[104,111,117,114,108,121] then [42,45,42,45,42,32,42,58,48,48,58,48,48] else
 if s=[100,97,105,108,121] then [42,45,42,45,42,32,48,48,58,48,48,58,48,48] else
 if s=[119,101,101,107,108,121] then [77,111,110,32,42,45,42,45,42,32,48,48,58,48,48,58,48,48] else
 if s=[109,111,110,116,104,108,121] then [42,45,42,45,48,49,32,48,48,58,48,48,58,48,48] else
 if s=[121,101,97,114,108,121] then [42,45,48,49,45,48,49,32,48,48,58,48,48,58,48,48] else
 s
theorem ZuV(s:Str)(h:s.length<=400):(nmS s).length<=400:=by
 unfold nmS;(repeat' split);all_goals first|exact h|simp
theorem ZrL(s:Str)(w:World):Calls prog 291 #[.string ⟨s.toArray⟩] w fun e w'=>e=.returned (.string ⟨(nmS s).toArray⟩)/\w'=w:=by
 by_cases h0:s=[109,105,110,117,116,101,108,121]
 ·subst h0
  exact m44_
 by_cases h1:s=[104,111,117,114,108,121]
 ·subst h1
  exact m44_
 by_cases h2:s=[100,97,105,108,121]
 ·subst h2
  exact m44_
 by_cases h3:s=[119,101,101,107,108,121]
 ·subst h3
  exact m44_
 by_cases h4:s=[109,111,110,116,104,108,121]
 ·subst h4
  exact m44_
 by_cases h5:s=[121,101,97,114,108,121]
 ·subst h5
  exact m44_
 have b0:(s==[109,105,110,117,116,101,108,121])=false:=by rw [c11_];exact h0
 have b1:(s==[104,111,117,114,108,121])=false:=n72_;have b2:(s==[100,97,105,108,121])=false:=n73_;have b3:(s==[119,101,101,107,108,121])=false:=n50_;have b4:(s==[109,111,110,116,104,108,121])=false:=n51_;have b5:(s==[121,101,97,114,108,121])=false:=by rw [c11_];exact h5
 have HS:=h_ (show nmS s=s by unfold nmS;simp only [if_neg h0,if_neg h1,if_neg h2,if_neg h3,if_neg h4,if_neg h5]);clear h0 h1 h2 h3 h4 h5;go_enter func291,ntmps291;go_wp2_with fail;go_ret;exact ⟨n61_,rfl⟩
def ZeE(f:Nat):Int×Int:=if f=0 then (2000,2199) else if f=1 then (1,12) else if f=2 then (1,31) else if f=3 then (0,23) else (0,59)
theorem Zor(f:Nat)(hf:f<6)(w:World):Calls prog 343 #[.int .i64 f] w fun e w'=>e=.returned (.tuple #[.int .i64 (ZeE f).1,.int .i64 (ZeE f).2])/\w'=w:=by
 match f,hf with
 |0,_=>
  exact m43_
 |1,_=>
  exact m43_
 |2,_=>
  exact m43_
 |3,_=>
  exact m43_
 |4,_=>
  exact m43_
 |5,_=>
  exact m43_
def Zck(p:YO)(f:Nat):Bool:=
 if p.step<0\/9999<p.step then false
 else if p.from_ = -1 then p.to_==-1
 else if p.from_<(ZeE f).1\/(ZeE f).2<p.from_ then false
 else p.to_==-1||(decide (p.from_<=p.to_)&&decide (p.to_<=(ZeE f).2))
theorem Zmg(p:YO)(f:Nat)(hf:f<6)(w:World)(r:Bool)(hr:Zck p f=r) :
  Calls prog 327 #[.agg #[.int .i64 p.from_,.int .i64 p.to_,.int .i64 p.step],.int .i64 f] w fun e w'=>e=.returned (.bool r)/\Below w.heap.size w w':=by
 obtain ⟨pf,pt,ps⟩:=p;have HB:=h_ (fun V=>Zor f hf V);unfold Zck at hr;simp only at hr⊢;obtain ⟨lo,hlo⟩:=e_ ((ZeE f).1);obtain ⟨hi,hhi⟩:=e_ ((ZeE f).2);rw [<-hlo,<-hhi] at HB hr;have HW:=h_ ((Below.refl w.heap.size w).alloc l_ (.cells #[.int .i64 pf,.int .i64 pt,.int .i64 ps] 300));clear hlo hhi;by_cases h1:ps<0
 ·have h1b:¬(9999<ps):=o_
  have HR:=h_ (show false=r by rw [<-hr];simp [h1]);exact m42_
 by_cases h2:9999<ps
 ·have HR:=h_ (show false=r by rw [<-hr];simp [h2])
  exact m42_
 by_cases h3:pf = -1
 ·subst h3
  by_cases h4:pt = -1
  ·subst h4
   have HR:=h_ (show true=r by rw [<-hr];simp [h1,h2]);exact m42_
  ·have h4b:(pt==-1)=false:=n51_
   have HR:=h_ (show false=r by rw [<-hr];simp [h1,h2,h4]);exact m42_
 have h3b:(pf==-1)=false:=n50_;by_cases h5:pf<lo
 ·have HR:=h_ (show false=r by rw [<-hr];simp [h1,h2,h3,h5])
  exact m42_
 by_cases h6:hi<pf
 ·have HR:=h_ (show false=r by rw [<-hr];simp [h1,h2,h3,h6])
  exact m42_
 by_cases h7:pt = -1
 ·subst h7
  have HR:=h_ (show true=r by rw [<-hr];simp [h1,h2,h3,h5,h6]);exact m42_
 have h7b:(pt==-1)=false:=by rw [c11_];exact h7
 by_cases h8:pf<=pt
 ·have h8b:¬(pt<pf):=o_
  by_cases h9:pt<=hi
  ·have HR:=h_ (show true=r by rw [<-hr];simp [h1,h2,h3,h5,h6,h7,h8,h9])
   exact m42_
  ·have HR:=h_ (show false=r by rw [<-hr];simp [h1,h2,h3,h5,h6,h7,h8,h9])
   exact m42_
 ·have h8b:pt<pf:=o_
  have HR:=h_ (show false=r by rw [<-hr];simp [h1,h2,h3,h5,h6,h7,h8]);exact m42_
def Zfh(s:Str):Bool:=match s with|[]=>false|c::_=>Yi c
theorem Zn3(s:Str)(w:World):Calls prog 293 #[.string ⟨s.toArray⟩] w fun e w'=>e=.returned (.bool (Zfh s))/\w'=w:=by
 cases s with
 |nil=>
  go_enter func293,ntmps293;go_wp2_with fail;go_ret;exact ⟨rfl,rfl⟩
 |cons c t=>
  obtain ⟨S,hS⟩:∃S:ByteArray,S=⟨(c::t).toArray⟩:=⟨_,rfl⟩;have hsz:S.size≠0:=by rw [hS];simp [ByteArray.size]
  obtain ⟨n1,n2,n3,n4⟩:=Xo hsz;have h0:S[0]=c:=by subst hS;rfl
  have HL:=h_ (fun W=>JE S[0] W);have HC:=h_ (show Yi S[0]=Zfh (c::t) from by rw [h0];rfl);rw [<-hS];clear hS h0 hsz;go_enter func293,ntmps293;go_wp2_with (go_at_call 153;refine (HL.out _).mono ?_;rintro e w' ⟨rfl,rfl⟩);go_ret;exact ⟨by rw [<-HC.out];rfl,rfl⟩
def Zbc(c:UInt8)(s:Str):Bool:=decide (0<=Lib.indexByte s c)
theorem Zns(s:Str)(w:World):Calls prog 295 #[.string ⟨s.toArray⟩] w fun e w'=>e=.returned (.bool (Zbc 45 s))/\w'=w:=by
 have H:=h_ (fun W=>Tryz.strings_Contains_one ⟨s.toArray⟩ 45 W);change Hid (∀W,Calls prog 296 #[.string ⟨s.toArray⟩,.string ⟨#[45]⟩] W fun e w'=>e=.returned (.bool (Zbc 45 s))/\w'=W) at H;go_enter func295,ntmps295;exact m45_
theorem ZoH(s:Str)(w:World):Calls prog 297 #[.string ⟨s.toArray⟩] w fun e w'=>e=.returned (.bool (Zbc 58 s))/\w'=w:=by
 have H:=h_ (fun W=>Tryz.strings_Contains_one ⟨s.toArray⟩ 58 W);change Hid (∀W,Calls prog 296 #[.string ⟨s.toArray⟩,.string ⟨#[58]⟩] W fun e w'=>e=.returned (.bool (Zbc 58 s))/\w'=W) at H;go_enter func297,ntmps297;exact m45_
theorem Zi4:∀args w,(callFunc 293 args).run prog w=.ok (.enter 293 args) w:=enters_of func293 k_ rfl
theorem Zjb:∀args w,(callFunc 295 args).run prog w=.ok (.enter 295 args) w:=enters_of func295 k_ rfl
theorem Zi2:∀args w,(callFunc 297 args).run prog w=.ok (.enter 297 args) w:=enters_of func297 k_ rfl
end Go.Proofs.YtmgmbeipbeknaaaGreatDoor
