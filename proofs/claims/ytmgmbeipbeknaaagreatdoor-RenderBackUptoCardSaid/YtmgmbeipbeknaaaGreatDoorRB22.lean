import Derived.Test.YtmgmbeipbeknaaaGreatDoorRB9
import Derived.Test.YtmgmbeipbeknaaaGreatDoorRB11
import Derived.Test.YtmgmbeipbeknaaaGreatDoorRB14
import Derived.Test.YtmgmbeipbeknaaaGreatDoorRB21
namespace Go.Proofs.YtmgmbeipbeknaaaGreatDoor
open Go.Proofs.Tryz
open Go Go.RowKit
set_option linter.all false
set_option maxHeartbeats 16000000
set_option maxRecDepth 100000
theorem m27_{p:Prop}(h:p:=by
  have HX:=h_ (Zth s k);rw [HX.out];refine (Zgo (s.data.toList.drop k) _).mono ?_;rintro e w1 ⟨rfl,rfl⟩;obtain ⟨m,hm⟩:=e_ (ZfW (s.data.toList.drop k));rw [<-hm];have hV:=HV.out;unfold ZeD at hV;rw [<-HN.out,<-hm] at hV;have hm0:=Zkc (s.data.toList.drop k);rw [<-hm] at hm0;clear hm;by_cases hk1:k<1
  ·rw [if_pos (.inl hk1)] at hV
   obtain ⟨rfl,rfl⟩:0=v/\false=b:=n115_;have hkz:(k:Int)<1:=o_;clear hV;exact m30_
  ·have hkz:¬((k:Int)<1):=o_
   by_cases hk10:10<k
   ·rw [if_pos (.inr (.inl hk10))] at hV
    obtain ⟨rfl,rfl⟩:0=v/\false=b:=n115_;have hk11:(k:Int)>10:=o_;have hk12:(10:Int)<k:=o_;clear hV;exact m30_
   ·have hk11:¬((k:Int)>10):=o_
    have hk12:¬((10:Int)<k):=o_;by_cases hmz:m=0
    ·rw [if_pos (.inr (.inr hmz))] at hV
     obtain ⟨rfl,rfl⟩:0=v/\false=b:=n115_;subst hmz;clear hV;exact m30_
    ·rw [if_neg o_] at hV
     have hme:(m==0)=false:=by rw [c11_];exact hmz
     obtain ⟨n,hn⟩:∃n,Zem (s.data.toList.take k)=n:=⟨_,rfl⟩;have HVV:=h_ (show (n:Int)*m=v/\true=b by rw [hn] at hV;simpa using hV);have hall:(s.data.toList.take k).all isDigit=true:=by rw [HN.out];exact JV _ _
     have hlt2:(s.data.toList.take k).length=k:=by rw [List.length_take,Array.length_toList];exact Nat.min_eq_left hNs
     have hne2:s.data.toList.take k≠[]:=by
      intro e;rw [e] at hlt2;simp only [List.length_nil] at hlt2;omega
     have HX2:=h_ (Znf s k);have hn10:n<10 ^ 10:=by rw [<-hn];exact Zj7 _ hall 10 o_
     have HA:=h_ (fun W=>Zfq (⟨(s.data.toList.take k).toArray⟩:ByteArray) W hne2 (by show (s.data.toList.take k).toArray.size<=18;rw [List.size_toArray];omega) hall n hn);clear hV hall hn hlt2 hne2;have hwr:wrap64 ((n:Int)*m)=(n:Int)*m:=by
      have h1:(n:Int)*m<=10000000000*604800:=Int.mul_le_mul o_ o_ o_ o_;have h2:0<=(n:Int)*m:=Int.mul_nonneg o_ o_;unfold wrap64;omega
     go_wp2_with fail;rw [HX2.out];refine (HA.out _).mono ?_;rintro e w2 ⟨rfl,hb2⟩;have HB2:=h_ hb2;clear hb2 HA;go_wp2_with fail;go_quiet (fail);go_wp2;obtain ⟨rfl,rfl⟩:=HVV.out;go_ret2;refine ⟨?_,HB2.out.trans (Ze ⟨_,rfl⟩)⟩;show Ending.returned (.tuple #[.int .i64 (wrap64 ((n:Int)*m)),.bool true])=_;rw [hwr]):p:=h
theorem m28_{p:Prop}(h:p:=by go_enter func310,ntmps310;go_wp2_with fail;go_ret;exact ⟨rfl,rfl⟩):p:=h
theorem m29_{p:Prop}(h:p:=by clear hS;go_wp2_with fail;refine HWD.out.mono ?_;rintro e w2 ⟨rfl,hb2⟩;have HB2:=h_ (HB.out.trans (hb2.mono HB.out.size));clear hb2 HWD;go_wp2_with fail;obtain ⟨rfl,rfl⟩:=HVF.out;go_ret2;exact ⟨rfl,HB1.out.trans (HB2.out.mono HB1.out.size)⟩):p:=h
theorem m30_{p:Prop}(h:p:=by go_wp2_with fail;go_ret2;exact ⟨rfl,Below.refl _ _⟩):p:=h
theorem Zth(s:ByteArray)(k:Nat):s.extract k s.size=⟨(s.data.toList.drop k).toArray⟩:=by
 apply Yu;rw [Lib.extract_to_end]
theorem Znf(s:ByteArray)(k:Nat):s.extract 0 k=⟨(s.data.toList.take k).toArray⟩:=by
 apply Yu;rw [Lib.extract_data];simp
theorem Zgo(u:Str)(w:World):Calls prog 310 #[.string ⟨u.toArray⟩] w fun e w'=>e=.returned (.int .i64 (ZfW u))/\w'=w:=by
 by_cases h0:u=[]
 ·subst h0
  exact m28_
 by_cases h1:u=[115]
 ·subst h1
  exact m28_
 by_cases h2:u=[115,101,99]
 ·subst h2
  exact m28_
 by_cases h3:u=[109]
 ·subst h3
  exact m28_
 by_cases h4:u=[109,105,110]
 ·subst h4
  exact m28_
 by_cases h5:u=[104]
 ·subst h5
  exact m28_
 by_cases h6:u=[104,114]
 ·subst h6
  exact m28_
 by_cases h7:u=[100]
 ·subst h7
  exact m28_
 by_cases h8:u=[100,97,121]
 ·subst h8
  exact m28_
 by_cases h9:u=[119]
 ·subst h9
  exact m28_
 by_cases h10:u=[119,101,101,107]
 ·subst h10
  exact m28_
 have b0:List.isEmpty u=false:=by cases u with|nil=>exact absurd rfl h0|cons a t=>rfl
 have b1:(u==[115])=false:=n72_;have b2:(u==[115,101,99])=false:=n73_;have b3:(u==[109])=false:=n50_;have b4:(u==[109,105,110])=false:=n51_;have b5:(u==[104])=false:=by rw [c11_];exact h5
 have b6:(u==[104,114])=false:=by rw [c11_];exact h6
 have b7:(u==[100])=false:=by rw [c11_];exact h7
 have b8:(u==[100,97,121])=false:=by rw [c11_];exact h8
 have b9:(u==[119])=false:=by rw [c11_];exact h9
 have b10:(u==[119,101,101,107])=false:=by rw [c11_];exact h10
 have HS:=h_ (show ZfW u=0 by unfold ZfW;simp only [if_neg h0,if_neg h1,if_neg h2,if_neg h3,if_neg h4,if_neg h5,if_neg h6,if_neg h7,if_neg h8,if_neg h9,if_neg h10]);clear h0 h1 h2 h3 h4 h5 h6 h7 h8 h9 h10;go_enter func310,ntmps310;go_wp2_with fail;go_ret;exact ⟨n61_,rfl⟩
theorem ZrB(s:ByteArray)(w:World)(hs:s.size<=1000000000)(v:Int)(b:Bool)(hv:ZeD s.data.toList=(v,b)) :
  Calls prog 269 #[.string s] w fun e w'=>e=.returned (.tuple #[.int .i64 v,.bool b])/\Below w.heap.size w w':=by
 have hlen:s.data.toList.length=s.size:=s_;have HV:=h_ hv;clear hv;obtain ⟨N,hN⟩:=e_ ((s.data.toList.takeWhile isDigit).length);have HN:=h_ hN;have hNs:N<=s.size:=by rw [hN,<-hlen];exact Zd2 _
 clear hN;go_enter func269,ntmps269;go_wp2_with fail;go_loopg [4] (s.size+1) (fun f i wr=>∃k:Nat,k<=N/\i=.int .i64 k/\s.size-k<f/\wr=w)
 case atStart=>exact ⟨0,o_,rfl,o_,rfl⟩
 case round=>
  obtain ⟨k,hk,rfl,hfu,rfl⟩:=hrel;by_cases hlt:k<s.size
  ·have hz:(k:Int)<(s.size:Int):=o_
   have hdig:isDigit s[k]=decide (k<N):=by
    have h1:=Zfk isDigit s.data.toList k (by rw [hlen];exact hlt) (by rw [<-HN.out];exact hk);rw [<-HN.out] at h1;exact h1
   by_cases hkN:k<N
   ·rw [decide_eq_true hkN] at hdig
    have HD:=h_ (fun W=>XM s[k] W);rw [hdig] at HD;clear hdig hlen;go_wp2_with (go_at_call 154;refine (HD.out _).mono ?_;rintro e w' ⟨rfl,rfl⟩);go_roundg (s.size-k)
    case measure=>omega
    case rel=>exact ⟨k+1,o_,n9_,o_,rfl⟩
   ·rw [decide_eq_false hkN] at hdig
    have HD:=h_ (fun W=>XM s[k] W);rw [hdig] at HD;obtain rfl:k=N:=o_;clear hdig hlen hkN;go_wp2_with (go_at_call 154;refine (HD.out _).mono ?_;rintro e w' ⟨rfl,rfl⟩);exact m27_
  ·have hz:¬((k:Int)<(s.size:Int)):=o_
   obtain rfl:k=N:=o_;clear hlen;go_wp2_with fail;exact m27_
theorem ZbG(s:ByteArray)(w:World)(hs:s.size<=1000000000)(v:Int)(b:Bool)(hv:YF s.data.toList=(v,b)) :
  Calls prog 214 #[.string s] w fun e w'=>e=.returned (.tuple #[.int .i64 v,.bool b])/\Below w.heap.size w w':=by
 obtain ⟨u,hu⟩:=e_ s.data.toList;obtain rfl:s=⟨u.toArray⟩:=by rw [hu]
 have hul:u.length<=1000000000:=by simpa [ByteArray.size] using hs
 clear hu hs;have hv':YF u=(v,b):=hv;clear hv;cases hi:(u==[105,110,102,105,110,105,116,121]) with
 |true=>
  obtain rfl:u=[105,110,102,105,110,105,116,121]:=eq_of_beq hi;obtain ⟨rfl,rfl⟩:1099511627776=v/\true=b:=by
   unfold YF at hv';rw [if_pos rfl] at hv';simpa using hv'
  clear hv' hul hi;go_enter func214,ntmps214;exact m30_
 |false=>
  have hne:u≠[105,110,102,105,110,105,116,121]:=by rw [c11_] at hi;exact hi
  unfold YF at hv';rw [if_neg hne] at hv';have HV:=h_ hv';have HW:=h_ (XY ⟨u.toArray⟩ w n35_);have HM:=h_ (Zab u.length u [] s_);have HLN:=h_ (QB u []);clear hv' hne;go_enter func214,ntmps214;go_wp2_with fail;refine HW.out.mono ?_;rintro e w1 ⟨A,rfl,hA,hA2,hst,hb1⟩;have HST:=h_ hst;have HB1:=h_ hb1;obtain ⟨l,hl⟩:=e_ (Zg u);have HL:=h_ (show ∀x∈l,x.length<=1000000000 from by rw [hl];intro x hx;have:=HM.out x hx;omega);have HLL:=h_ (show l.length<=1000000001 from by rw [hl];have:=HLN.out;unfold Zg;omega);change Hid (Zbj w1 A 0 (Zg u)) at HST;simp only at *;rw [<-hl] at HST HV⊢;clear hst hb1 hl HW HM HLN hA;go_wp2_with fail;go_loopg [5,16] (l.length+1) (fun f t i wr=>∃(k:Nat) (n:Int),k<=l.length/\i=.int .i64 k/\t=.int .i64 n/\l.length-k<f/\0<=n/\n<=6311433600/\Hid (Below w1.heap.size w1 wr)/\Hid (Qn (l.drop k) n=Qn l 0))
  case atStart=>exact ⟨0,0,o_,rfl,rfl,o_,o_,o_,Below.refl _ _,rfl⟩
  case round=>
   obtain ⟨k,n,hk,rfl,rfl,hfu,hn0,hn1,HB,HS⟩:=hrel;have hll:=HLL.out;by_cases hlt:k<l.length
   ·have hz:(k:Int)<(l.length:Int):=o_
    have d0:=(HST.out.below hA2 HB.out) k hlt;rw [Nat.zero_add] at d0;obtain ⟨x,hx⟩:=e_ (l[k]);rw [<-hx] at d0;have hd:l.drop k=x::l.drop (k+1):=n76_;have hxl:x.length<=1000000000:=by rw [hx];exact HL.out _ (List.getElem_mem hlt)
    have hS:=HS.out;rw [hd] at hS;obtain ⟨m,c,hmc⟩:∃m c,ZeD x=(m,c):=⟨_,_,rfl⟩;have hm0:=Zbu x;rw [hmc] at hm0;rw [show Qn (x::l.drop (k+1)) n=if (ZeD x).2=false then none else if n+(ZeD x).1>6311433600 then none else Qn (l.drop (k+1)) (n+(ZeD x).1) from rfl] at hS;rw [hmc] at hS;simp only at hS hm0;have HWD:=h_ (ZrB ⟨x.toArray⟩ wr (by simpa [ByteArray.size] using hxl) m c hmc);clear hx hd hxl hmc HS;have hw64:wrap64 (n+m)=n+m:=by unfold wrap64;omega
    cases c with
    |false=>
     have HSN:=h_ (show Qn l 0=none from by rw [<-hS];simp);have HVF:=h_ (show 0=v/\false=b from by have:=HV.out;rw [HSN.out] at this;simpa using this);exact m29_
    |true=>
     by_cases hbig:n+m>6311433600
     ·have HSN:=h_ (show Qn l 0=none from by rw [<-hS,if_neg s_,if_pos hbig])
      have HVF:=h_ (show 0=v/\false=b from by have:=HV.out;rw [HSN.out] at this;simpa using this);have hbig2:6311433600<n+m:=hbig;exact m29_
     ·have HS2:=h_ (show Qn (l.drop (k+1)) (n+m)=Qn l 0 from by rw [<-hS,if_neg s_,if_neg hbig])
      have hbig2:¬(6311433600<n+m):=hbig;clear hS;go_wp2_with fail;refine HWD.out.mono ?_;rintro e w2 ⟨rfl,hb2⟩;have HB2:=h_ (HB.out.trans (hb2.mono HB.out.size));clear hb2 HWD;go_wp2_with fail;go_roundg (l.length-k)
      case measure=>omega
      case rel=>exact ⟨k+1,n+m,o_,n9_,rfl,o_,o_,o_,HB2,HS2⟩
   ·have hz:¬((k:Int)<(l.length:Int)):=o_
    have HS2:=h_ (show Qn l 0=some n from by have:=HS.out;rw [List.drop_eq_nil_of_le o_] at this;exact this.symm);have HVF:=h_ (show n=v/\(decide (0<l.length))=b from by have:=HV.out;rw [HS2.out] at this;simpa using this);clear HS;by_cases hl0:0<l.length
    ·have hl1:(l.length:Int)>0:=o_
     have hl2:(0:Int)<(l.length:Int):=o_;go_wp2_with fail;obtain ⟨rfl,rfl⟩:=HVF.out;go_ret2;exact ⟨by rw [decide_eq_true hl0];rfl,HB1.out.trans (HB.out.mono HB1.out.size)⟩
    ·have hl1:¬((l.length:Int)>0):=o_
     have hl2:¬((0:Int)<(l.length:Int)):=o_;go_wp2_with fail;obtain ⟨rfl,rfl⟩:=HVF.out;go_ret2;exact ⟨by rw [decide_eq_false hl0];rfl,HB1.out.trans (HB.out.mono HB1.out.size)⟩
theorem m55_{p:Prop}(h:p:=by go_wp2_with fail;go_ret;exact ⟨rfl,HB.out.trans (hb1.mono HB.out.size)⟩):p:=h
theorem m56_{p:Prop}(h:p:=by go_enter func205,ntmps205;go_wp2_with fail;go_ret;exact ⟨rfl,HB.out⟩):p:=h
theorem m57_{p:Prop}(h:p:=by go_enter func205,ntmps205;go_wp2_with fail;refine H.out.mono ?_;rintro e w1 ⟨rfl,hb1⟩;exact m55_):p:=h
abbrev Zrq:List Str:=[[121,101,115],[116,114,117,101],[49],[110,111],[102,97,108,115,101],[48]]
def ZlP(x:Str):Bool:=(Xd x).2
def ZbO(form:Int)(ws:List Str)(v:Str):Bool:=
 if form=1 then true
 else if form=2 then Zrq.contains v
 else if form=3 then ZlP v
 else if form=11 then JA ZlP (Zg v)
 else if form=4 then (YF v).2
 else if form=9 then (Za9 v).isSome
 else if form=5 then ZaQ v
 else if form=6 then JA ZaQ (Zg v)
 else if form=7 then (XU v).isSome
 else if form=8 then (Zay v).2
 else if form=10 then ws.contains v
 else false
theorem Zez(w:World)(l:List Str):Zp (w.alloc (.cells (Zh l).toArray 9)) (some ⟨w.heap.size,0,none⟩) l:=Zaw w l
theorem Znu(kv:ZQ)(v:Str)(w:World)(hf:kv.form=1) :
  Calls prog 205 #[.agg (Zm kv).toArray,.string ⟨v.toArray⟩] w fun e w'=>e=.returned (.bool true)/\Below w.heap.size w w':=by
 obtain ⟨sec,name,form,list,kinds,wa,wn,wc⟩:=kv;unfold Zm;simp only at *;subst hf;have hvz:(⟨v.toArray⟩:ByteArray).size=v.length:=n17_;have hB:=(Below.refl w.heap.size w).alloc l_ (.cells #[.string ⟨sec.toArray⟩,.string ⟨name.toArray⟩,.int .i64 1,.bool list,.int .i64 kinds,.slice wa wn wc] 82);have HB:=h_ hB;clear hB;exact m56_
theorem Zru(kv:ZQ)(v:Str)(w:World)(hf:kv.form=3)(hl:v.length<=1000000000)(m:Bool)(hm:ZlP v=m) :
  Calls prog 205 #[.agg (Zm kv).toArray,.string ⟨v.toArray⟩] w fun e w'=>e=.returned (.bool m)/\Below w.heap.size w w':=by
 obtain ⟨sec,name,form,list,kinds,wa,wn,wc⟩:=kv;unfold Zm;simp only at *;subst hf;have hvz:(⟨v.toArray⟩:ByteArray).size=v.length:=n17_;have hB:=(Below.refl w.heap.size w).alloc l_ (.cells #[.string ⟨sec.toArray⟩,.string ⟨name.toArray⟩,.int .i64 3,.bool list,.int .i64 kinds,.slice wa wn wc] 82);have HB:=h_ hB;have H:=h_ (Zgx ⟨v.toArray⟩ (w.alloc (.cells #[.string ⟨sec.toArray⟩,.string ⟨name.toArray⟩,.int .i64 3,.bool list,.int .i64 kinds,.slice wa wn wc] 82)) n117_ m hm);clear hB hm;exact m57_
theorem ZoL(kv:ZQ)(v:Str)(w:World)(hf:kv.form=4)(hl:v.length<=1000000000)(m:Bool)(hm:(YF v).2=m) :
  Calls prog 205 #[.agg (Zm kv).toArray,.string ⟨v.toArray⟩] w fun e w'=>e=.returned (.bool m)/\Below w.heap.size w w':=by
 obtain ⟨sec,name,form,list,kinds,wa,wn,wc⟩:=kv;unfold Zm;simp only at *;subst hf;have hvz:(⟨v.toArray⟩:ByteArray).size=v.length:=n17_;have hB:=(Below.refl w.heap.size w).alloc l_ (.cells #[.string ⟨sec.toArray⟩,.string ⟨name.toArray⟩,.int .i64 4,.bool list,.int .i64 kinds,.slice wa wn wc] 82);have HB:=h_ hB;obtain ⟨n,b,hv⟩:∃n b,YF v=(n,b):=⟨_,_,rfl⟩;obtain rfl:b=m:=by rw [hv] at hm;exact hm
 have H:=h_ (ZbG ⟨v.toArray⟩ (w.alloc (.cells #[.string ⟨sec.toArray⟩,.string ⟨name.toArray⟩,.int .i64 4,.bool list,.int .i64 kinds,.slice wa wn wc] 82)) n117_ n b hv);clear hB hm hv;exact m57_
theorem ZoM(kv:ZQ)(v:Str)(w:World)(hf:kv.form=5)(hl:v.length<=1000000000)(hM:Zz w)(m:Bool)(hm:ZaQ v=m) :
  Calls prog 205 #[.agg (Zm kv).toArray,.string ⟨v.toArray⟩] w fun e w'=>e=.returned (.bool m)/\Below w.heap.size w w':=by
 obtain ⟨sec,name,form,list,kinds,wa,wn,wc⟩:=kv;unfold Zm;simp only at *;subst hf;have hvz:(⟨v.toArray⟩:ByteArray).size=v.length:=n17_;have hB:=(Below.refl w.heap.size w).alloc l_ (.cells #[.string ⟨sec.toArray⟩,.string ⟨name.toArray⟩,.int .i64 5,.bool list,.int .i64 kinds,.slice wa wn wc] 82);have HB:=h_ hB;have H:=h_ (ZlV ⟨v.toArray⟩ (w.alloc (.cells #[.string ⟨sec.toArray⟩,.string ⟨name.toArray⟩,.int .i64 5,.bool list,.int .i64 kinds,.slice wa wn wc] 82)) n117_ (hM.below hB) m hm);clear hB hm hM;exact m57_
theorem Zqx(kv:ZQ)(v:Str)(w:World)(hf:kv.form=9)(hl:v.length<=1000000000)(hM:Zz w)(m:Bool)(hm:(Za9 v).isSome=m) :
  Calls prog 205 #[.agg (Zm kv).toArray,.string ⟨v.toArray⟩] w fun e w'=>e=.returned (.bool m)/\Below w.heap.size w w':=by
 obtain ⟨sec,name,form,list,kinds,wa,wn,wc⟩:=kv;unfold Zm;simp only at *;subst hf;have hvz:(⟨v.toArray⟩:ByteArray).size=v.length:=n17_;have hB:=(Below.refl w.heap.size w).alloc l_ (.cells #[.string ⟨sec.toArray⟩,.string ⟨name.toArray⟩,.int .i64 9,.bool list,.int .i64 kinds,.slice wa wn wc] 82);have HB:=h_ hB;have H:=h_ (Zk3 v (w.alloc (.cells #[.string ⟨sec.toArray⟩,.string ⟨name.toArray⟩,.int .i64 9,.bool list,.int .i64 kinds,.slice wa wn wc] 82)) o_ (hM.below hB));unfold ZhJ at H;rw [hm] at H;clear hB hm hM;go_enter func205,ntmps205;go_wp2_with fail;refine H.out.mono ?_;rintro e w1 ⟨cs,rfl,-,-,hb1⟩;exact m55_
theorem Zqu(kv:ZQ)(v:Str)(w:World)(hf:kv.form=8)(hl:v.length<=1000000000)(hM:Zz w)(m:Bool)(hm:(Zay v).2=m) :
  Calls prog 205 #[.agg (Zm kv).toArray,.string ⟨v.toArray⟩] w fun e w'=>e=.returned (.bool m)/\Below w.heap.size w w':=by
 obtain ⟨sec,name,form,list,kinds,wa,wn,wc⟩:=kv;unfold Zm;simp only at *;subst hf;have hvz:(⟨v.toArray⟩:ByteArray).size=v.length:=n17_;have hB:=(Below.refl w.heap.size w).alloc l_ (.cells #[.string ⟨sec.toArray⟩,.string ⟨name.toArray⟩,.int .i64 8,.bool list,.int .i64 kinds,.slice wa wn wc] 82);have HB:=h_ hB;obtain ⟨ps,b,hv⟩:∃ps b,Zay v=(ps,b):=⟨_,_,rfl⟩;obtain rfl:b=m:=by rw [hv] at hm;exact hm
 have H:=h_ (ZpK ⟨v.toArray⟩ (w.alloc (.cells #[.string ⟨sec.toArray⟩,.string ⟨name.toArray⟩,.int .i64 8,.bool list,.int .i64 kinds,.slice wa wn wc] 82)) n117_ (hM.below hB) ps b hv);clear hB hm hv hM;go_enter func205,ntmps205;go_wp2_with fail;refine H.out.mono ?_;rintro e w1 ⟨hb1,u,rfl,hown⟩;obtain ⟨oa,cap,rfl⟩:=ownsRow_form hown;exact m55_
theorem ZnN(kv:ZQ)(v:Str)(w:World)(hf:kv.form=7)(hl:v.length<=1000000000)(m:Bool)(hm:(XU v).isSome=m) :
  Calls prog 205 #[.agg (Zm kv).toArray,.string ⟨v.toArray⟩] w fun e w'=>e=.returned (.bool m)/\Below w.heap.size w w':=by
 obtain ⟨sec,name,form,list,kinds,wa,wn,wc⟩:=kv;unfold Zm;simp only at *;subst hf;have hvz:(⟨v.toArray⟩:ByteArray).size=v.length:=n17_;have hB:=(Below.refl w.heap.size w).alloc l_ (.cells #[.string ⟨sec.toArray⟩,.string ⟨name.toArray⟩,.int .i64 7,.bool list,.int .i64 kinds,.slice wa wn wc] 82);have HB:=h_ hB;have H:=h_ (ZmO ⟨v.toArray⟩ (w.alloc (.cells #[.string ⟨sec.toArray⟩,.string ⟨name.toArray⟩,.int .i64 7,.bool list,.int .i64 kinds,.slice wa wn wc] 82)) n117_);unfold ZgU at H;rw [show (⟨v.toArray⟩:ByteArray).data.toList=v from rfl] at H;clear hB;cases hx:XU v with
 |none=>
  rw [hx] at H hm;obtain rfl:false=m:=hm;simp only at H;clear hx;go_enter func205,ntmps205;go_wp2_with fail;refine H.out.mono ?_;rintro e w1 ⟨hb1,rfl⟩;exact m55_
 |some p=>
  obtain ⟨d,l⟩:=p;rw [hx] at H hm;obtain rfl:true=m:=hm;simp only at H;clear hx;go_enter func205,ntmps205;go_wp2_with fail;refine H.out.mono ?_;rintro e w1 ⟨hb1,wa2,wc2,rfl,-⟩;exact m55_
theorem Zo3(kv:ZQ)(v:Str)(w:World)(hf:kv.form=2)(m:Bool)(hm:Zrq.contains v=m) :
  Calls prog 205 #[.agg (Zm kv).toArray,.string ⟨v.toArray⟩] w fun e w'=>e=.returned (.bool m)/\Below w.heap.size w w':=by
 obtain ⟨sec,name,form,list,kinds,wa,wn,wc⟩:=kv;unfold Zm;simp only at *;subst hf;have hvz:(⟨v.toArray⟩:ByteArray).size=v.length:=n17_;have hB:=(Below.refl w.heap.size w).alloc l_ (.cells #[.string ⟨sec.toArray⟩,.string ⟨name.toArray⟩,.int .i64 2,.bool list,.int .i64 kinds,.slice wa wn wc] 82);have HB:=h_ hB;have H:=h_ (show Calls prog 253 #[.slice (some ⟨w.heap.size+1,0,none⟩) 6 6,.string ⟨v.toArray⟩] ((w.alloc (.cells #[.string ⟨sec.toArray⟩,.string ⟨name.toArray⟩,.int .i64 2,.bool list,.int .i64 kinds,.slice wa wn wc] 82)).alloc (.cells #[.string ⟨#[121,101,115]⟩,.string ⟨#[116,114,117,101]⟩,.string ⟨#[49]⟩,.string ⟨#[110,111]⟩,.string ⟨#[102,97,108,115,101]⟩,.string ⟨#[48]⟩] 9)) fun e w'=>e=.returned (.bool m)/\w'=((w.alloc (.cells #[.string ⟨sec.toArray⟩,.string ⟨name.toArray⟩,.int .i64 2,.bool list,.int .i64 kinds,.slice wa wn wc] 82)).alloc (.cells #[.string ⟨#[121,101,115]⟩,.string ⟨#[116,114,117,101]⟩,.string ⟨#[49]⟩,.string ⟨#[110,111]⟩,.string ⟨#[102,97,108,115,101]⟩,.string ⟨#[48]⟩] 9)) from by
  have:=ZhV (some ⟨(w.alloc (.cells #[.string ⟨sec.toArray⟩,.string ⟨name.toArray⟩,.int .i64 2,.bool list,.int .i64 kinds,.slice wa wn wc] 82)).heap.size,0,none⟩) 6 Zrq v ((w.alloc (.cells #[.string ⟨sec.toArray⟩,.string ⟨name.toArray⟩,.int .i64 2,.bool list,.int .i64 kinds,.slice wa wn wc] 82)).alloc (.cells (Zh Zrq).toArray 9)) d_ (Zez (w.alloc (.cells #[.string ⟨sec.toArray⟩,.string ⟨name.toArray⟩,.int .i64 2,.bool list,.int .i64 kinds,.slice wa wn wc] 82)) Zrq)
  rw [hm,show (w.alloc (.cells #[.string ⟨sec.toArray⟩,.string ⟨name.toArray⟩,.int .i64 2,.bool list,.int .i64 kinds,.slice wa wn wc] 82)).heap.size=w.heap.size+1 by simp] at this;exact this)
 have HB2:=h_ ((Below.refl (w.alloc (.cells #[.string ⟨sec.toArray⟩,.string ⟨name.toArray⟩,.int .i64 2,.bool list,.int .i64 kinds,.slice wa wn wc] 82)).heap.size (w.alloc (.cells #[.string ⟨sec.toArray⟩,.string ⟨name.toArray⟩,.int .i64 2,.bool list,.int .i64 kinds,.slice wa wn wc] 82))).alloc l_ (.cells #[.string ⟨#[121,101,115]⟩,.string ⟨#[116,114,117,101]⟩,.string ⟨#[49]⟩,.string ⟨#[110,111]⟩,.string ⟨#[102,97,108,115,101]⟩,.string ⟨#[48]⟩] 9));clear hB hm;go_enter func205,ntmps205;go_wp2_with fail;refine H.out.mono ?_;rintro e w1 ⟨rfl,rfl⟩;go_wp2_with fail;go_ret;exact ⟨rfl,HB.out.trans (HB2.out.mono HB.out.size)⟩
theorem Zok(kv:ZQ)(v:Str)(w:World)(hf:kv.form=11)(hl:v.length<4294967281)(hM:Zz w)(m:Bool)(hm:JA ZlP (Zg v)=m) :
  Calls prog 205 #[.agg (Zm kv).toArray,.string ⟨v.toArray⟩] w fun e w'=>e=.returned (.bool m)/\Below w.heap.size w w':=by
 obtain ⟨sec,name,form,list,kinds,wa,wn,wc⟩:=kv;unfold Zm;simp only at *;subst hf;have hvz:(⟨v.toArray⟩:ByteArray).size=v.length:=n17_;have hB:=(Below.refl w.heap.size w).alloc l_ (.cells #[.string ⟨sec.toArray⟩,.string ⟨name.toArray⟩,.int .i64 11,.bool list,.int .i64 kinds,.slice wa wn wc] 82);have HB:=h_ hB;have HW:=h_ (XY ⟨v.toArray⟩ (w.alloc (.cells #[.string ⟨sec.toArray⟩,.string ⟨name.toArray⟩,.int .i64 11,.bool list,.int .i64 kinds,.slice wa wn wc] 82)) n117_);have hln:=QB v [];have hmem:=Zab v.length v [] s_;have HE:=h_ (fun (A:Nat) (W:World) (hA:A<W.heap.size) (h1:Zz W) (h2:Zbj W A 0 (Zg v))=>
  Zlq 254 Zhr ZlP A 0 (Zg v).length (Zg v) W hA (by unfold Zg;omega) h1 (fun W2 j hj hM2=>Zgx _ W2 (by
   have:(Zg v)[j].length<=v.length:=hmem _ (List.getElem_mem hj)
   show (Zg v)[j].toArray.size<=_;simp;omega) _ rfl) h2 m hm)
 have HM:=h_ (hM.below hB);clear hln hmem hB hM hl hm hvz;go_enter func205,ntmps205;go_wp2_with fail;refine HW.out.mono ?_;rintro e w1 ⟨A,rfl,hA,hA2,hs,hb1⟩;have hh:=HE.out A w1 hA2 (HM.out.below hb1) hs;have HH:=h_ hh;have HB1:=h_ (HB.out.trans (hb1.mono HB.out.size));clear hA hA2 hs hb1 hh HE HW HM HB;simp only;generalize (Zg v).length=n at *;go_wp2_with fail;refine HH.out.mono ?_;rintro e w2 ⟨rfl,hb2⟩;have HB2:=h_ (HB1.out.trans (hb2.mono HB1.out.size));clear hb2;go_wp2_with fail;go_ret;exact ⟨rfl,HB2.out⟩
theorem Zo2(kv:ZQ)(v:Str)(w:World)(h1:¬kv.form=1)(h2:¬kv.form=2)(h3:¬kv.form=3)(h11:¬kv.form=11)(h4:¬kv.form=4)(h9:¬kv.form=9)(h5:¬kv.form=5)(h6:¬kv.form=6)(h7:¬kv.form=7)(h8:¬kv.form=8)(h10:¬kv.form=10) :
  Calls prog 205 #[.agg (Zm kv).toArray,.string ⟨v.toArray⟩] w fun e w'=>e=.returned (.bool false)/\Below w.heap.size w w':=by
 obtain ⟨sec,name,form,list,kinds,wa,wn,wc⟩:=kv;unfold Zm;simp only at *;have HB:=h_ ((Below.refl w.heap.size w).alloc l_ (.cells #[.string ⟨sec.toArray⟩,.string ⟨name.toArray⟩,.int .i64 form,.bool list,.int .i64 kinds,.slice wa wn wc] 82));exact m56_
theorem ZqB(kv:ZQ)(ws:List Str)(v:Str)(w:World)(hn:kv.wn=ws.length)(hl:ws.length<=4294967296)(hw:Zp w kv.wa ws)(hv:v.length<=1000000000)(hM:Zz w) :
  Calls prog 205 #[.agg (Zm kv).toArray,.string ⟨v.toArray⟩] w fun e w'=>e=.returned (.bool (ZbO kv.form ws v))/\Below w.heap.size w w':=by
 unfold ZbO;by_cases h1:kv.form=1
 ·rw [if_pos h1];exact Znu kv v w h1
 rw [if_neg h1];by_cases h2:kv.form=2
 ·rw [if_pos h2];exact Zo3 kv v w h2 _ rfl
 rw [if_neg h2];by_cases h3:kv.form=3
 ·rw [if_pos h3];exact Zru kv v w h3 hv _ rfl
 rw [if_neg h3];by_cases h11:kv.form=11
 ·rw [if_pos h11];exact Zok kv v w h11 o_ hM _ rfl
 rw [if_neg h11];by_cases h4:kv.form=4
 ·rw [if_pos h4];exact ZoL kv v w h4 hv _ rfl
 rw [if_neg h4];by_cases h9:kv.form=9
 ·rw [if_pos h9];exact Zqx kv v w h9 hv hM _ rfl
 rw [if_neg h9];by_cases h5:kv.form=5
 ·rw [if_pos h5];exact ZoM kv v w h5 hv hM _ rfl
 rw [if_neg h5];by_cases h6:kv.form=6
 ·rw [if_pos h6];exact Zlo kv v w h6 o_ hM _ rfl
 rw [if_neg h6];by_cases h7:kv.form=7
 ·rw [if_pos h7];exact ZnN kv v w h7 hv _ rfl
 rw [if_neg h7];by_cases h8:kv.form=8
 ·rw [if_pos h8];exact Zqu kv v w h8 hv hM _ rfl
 rw [if_neg h8];by_cases h10:kv.form=10
 ·rw [if_pos h10];exact Zop kv ws v w h10 hn hl hw _ rfl
 rw [if_neg h10];exact Zo2 kv v w h1 h2 h3 h11 h4 h9 h5 h6 h7 h8 h10
def ZeK(v:Str)(k:ZE):Int:=ZqZ k.form k.list v (ZbO k.form k.words v)
def lnS(kind:Int)(x:Ln):Int:=Zlh (ZeK x.val) kind x.sec x.key
theorem Zq1(k:ZE)(kv:ZQ)(v:Str)(w:World)(hk:Xu w kv k)(hw:k.words.length<=4294967296)(hl:v.length<=1000000000)(hM:Zz w) :
  Calls prog 132 #[.agg (Zm kv).toArray,.string ⟨v.toArray⟩] w fun e w'=>e=.returned (.int .i64 (ZeK v k))/\Below w.heap.size w w':=by
 refine ZqN kv v w (ZbO k.form k.words v) (fun W hW=>?_) _ (by unfold ZeK;rw [hk.form,hk.list])
 have:=ZqB kv k.words v W hk.wl hw (hk.row.below hW) hl (hM.below hW)
 rw [hk.form] at this;exact this
theorem Zoh:(Zc.all fun k=>decide (k.words.length<=100))=true:=k_
theorem ZdD:∀k∈Zc,k.words.length<=100:=fun k hk=>of_decide_eq_true (c7_.1 Zoh k hk)
theorem Zit(sec name:Str)(k:ZE)(h:findKey sec name=some k):k∈Zc:=by
 unfold findKey at h;exact List.mem_of_find?_eq_some h
theorem Ztn(kind:Int)(x:Ln)(w:World)(hM:Zz w)(hl:x.val.length<=1000000000) :
  Calls prog 70 #[.int .i64 kind,.agg (ZU x).toArray] w fun e w'=>e=.returned (.int .i64 (lnS kind x))/\Below w.heap.size w w' :=
 ZtA (ZeK x.val) kind x.sec x.key x.val x.at_ w hM (fun k kv W hk hkv hM2=>Zq1 k kv x.val W hkv (Nat.le_trans (ZdD k (Zit _ _ k hk)) d_) hl hM2) _ rfl
end Go.Proofs.YtmgmbeipbeknaaaGreatDoor
