import Derived.Test.YtgoooebfhdbbkaaGreatDoorUM9
import Derived.Test.YtgoooebfhdbbkaaGreatDoorUM11
import Derived.Test.YtgoooebfhdbbkaaGreatDoorUM14
import Derived.Test.YtgoooebfhdbbkaaGreatDoorUM20
namespace Go.Proofs.YtgoooebfhdbbkaaGreatDoor
open Go.Proofs.Tryz
open Go Go.RowKit
set_option linter.unusedVariables false
set_option linter.unusedSimpArgs false
set_option maxHeartbeats 16000000
set_option maxRecDepth 100000
theorem m27_{p:Prop}(h:p:=by
  have HX:=h_ (Zpq s k);rw [HX.out];refine (Zfh (s.data.toList.drop k) _).mono ?_;rintro e w1 ⟨rfl,rfl⟩;obtain ⟨m,hm⟩:=e_ (ZbL (s.data.toList.drop k));rw [<-hm];have hV:=HV.out;unfold JN at hV;rw [<-HN.out,<-hm] at hV;have hm0:=ZdH (s.data.toList.drop k);rw [<-hm] at hm0;clear hm;by_cases hk1:k<1
  ·rw [if_pos (.inl hk1)] at hV
   obtain ⟨rfl,rfl⟩:0=v/\false=b:=n128_;have hkz:(k:Int)<1:=o_;clear hV;exact m30_
  ·have hkz:¬((k:Int)<1):=o_
   by_cases hk10:10<k
   ·rw [if_pos (.inr (.inl hk10))] at hV
    obtain ⟨rfl,rfl⟩:0=v/\false=b:=n128_;have hk11:(k:Int)>10:=o_;have hk12:(10:Int)<k:=o_;clear hV;exact m30_
   ·have hk11:¬((k:Int)>10):=o_
    have hk12:¬((10:Int)<k):=o_;by_cases hmz:m=0
    ·rw [if_pos (.inr (.inr hmz))] at hV
     obtain ⟨rfl,rfl⟩:0=v/\false=b:=n128_;subst hmz;clear hV;exact m30_
    ·rw [if_neg o_] at hV
     have hme:(m==0)=false:=n84_;obtain ⟨n,hn⟩:∃n,ZaB (s.data.toList.take k)=n:=⟨_,rfl⟩;have HVV:=h_ (show (n:Int)*m=v/\true=b by rw [hn] at hV;simpa using hV);have hall:(s.data.toList.take k).all isDigit=true:=by rw [HN.out];exact QC _ _
     have hlt2:(s.data.toList.take k).length=k:=by rw [List.length_take,Array.length_toList];exact Nat.min_eq_left hNs
     have hne2:s.data.toList.take k≠[]:=by
      intro e;rw [e] at hlt2;simp only [List.length_nil] at hlt2;omega
     have HX2:=h_ (ZkI s k);have hn10:n<10 ^ 10:=by rw [<-hn];exact Zcn _ hall 10 o_
     have HA:=h_ (fun W=>Zdl (⟨(s.data.toList.take k).toArray⟩:ByteArray) W hne2 (by show (s.data.toList.take k).toArray.size<=18;rw [List.size_toArray];omega) hall n hn);clear hV hall hn hlt2 hne2;have hwr:wrap64 ((n:Int)*m)=(n:Int)*m:=by
      have h1:(n:Int)*m<=10000000000*604800:=Int.mul_le_mul o_ o_ o_ o_;have h2:0<=(n:Int)*m:=Int.mul_nonneg o_ o_;unfold wrap64;omega
     go_wp2_with fail;rw [HX2.out];refine (HA.out _).mono ?_;rintro e w2 ⟨rfl,hb2⟩;have HB2:=h_ hb2;clear hb2 HA;go_wp2_with fail;go_quiet (fail);go_wp2;obtain ⟨rfl,rfl⟩:=HVV.out;go_ret2;refine ⟨?_,HB2.out.trans (Zb ⟨_,rfl⟩)⟩;show Ending.returned (.tuple #[.int .i64 (wrap64 ((n:Int)*m)),.bool true])=_;rw [hwr]):p:=h
theorem m28_{p:Prop}(h:p:=by go_enter func201,ntmps201;go_wp2_with fail;go_ret;exact ⟨rfl,rfl⟩):p:=h
theorem m29_{p:Prop}(h:p:=by clear hS;go_wp2_with fail;refine HWD.out.mono ?_;rintro e w2 ⟨rfl,hb2⟩;have HB2:=h_ (HB.out.trans (hb2.mono HB.out.size));clear hb2 HWD;go_wp2_with fail;obtain ⟨rfl,rfl⟩:=HVF.out;go_ret2;exact ⟨rfl,HB1.out.trans (HB2.out.mono HB1.out.size)⟩):p:=h
theorem m30_{p:Prop}(h:p:=by go_wp2_with fail;go_ret2;exact ⟨rfl,Below.refl _ _⟩):p:=h
theorem Zpq(s:ByteArray)(k:Nat):s.extract k s.size=⟨(s.data.toList.drop k).toArray⟩:=by
 apply Yb;rw [Lib.extract_to_end]
theorem ZkI(s:ByteArray)(k:Nat):s.extract 0 k=⟨(s.data.toList.take k).toArray⟩:=by
 apply Yb;rw [Lib.extract_data];simp
theorem Zfh(u:Str)(w:World):Calls prog 201 #[.string ⟨u.toArray⟩] w fun e w'=>e=.returned (.int .i64 (ZbL u))/\w'=w:=by
 by_cases h0:u=[]
 ·subst h0
  exact m28_
 by_cases h1:u=[115]
 ·subst h1
  exact m28_
 by_cases h2:u=[115,101,99]
 ·subst h2
  exact m28_
 by_cases h3:u=[109]
 ·subst h3
  exact m28_
 by_cases h4:u=[109,105,110]
 ·subst h4
  exact m28_
 by_cases h5:u=[104]
 ·subst h5
  exact m28_
 by_cases h6:u=[104,114]
 ·subst h6
  exact m28_
 by_cases h7:u=[100]
 ·subst h7
  exact m28_
 by_cases h8:u=[100,97,121]
 ·subst h8
  exact m28_
 by_cases h9:u=[119]
 ·subst h9
  exact m28_
 by_cases h10:u=[119,101,101,107]
 ·subst h10
  exact m28_
 have b0:List.isEmpty u=false:=by cases u with|nil=>exact absurd rfl h0|cons a t=>rfl
 have b1:(u==[115])=false:=n56_;have b2:(u==[115,101,99])=false:=n57_;have b3:(u==[109])=false:=n39_;have b4:(u==[109,105,110])=false:=n40_;have b5:(u==[104])=false:=n89_;have b6:(u==[104,114])=false:=by rw [beq_eq_false_iff_ne];exact h6
 have b7:(u==[100])=false:=n90_;have b8:(u==[100,97,121])=false:=by rw [beq_eq_false_iff_ne];exact h8
 have b9:(u==[119])=false:=by rw [beq_eq_false_iff_ne];exact h9
 have b10:(u==[119,101,101,107])=false:=by rw [beq_eq_false_iff_ne];exact h10
 have HS:=h_ (show ZbL u=0 by unfold ZbL;simp only [if_neg h0,if_neg h1,if_neg h2,if_neg h3,if_neg h4,if_neg h5,if_neg h6,if_neg h7,if_neg h8,if_neg h9,if_neg h10]);clear h0 h1 h2 h3 h4 h5 h6 h7 h8 h9 h10;go_enter func201,ntmps201;go_wp2_with fail;go_ret;exact ⟨n77_,rfl⟩
theorem ZnO(s:ByteArray)(w:World)(hs:s.size<=1000000000)(v:Int)(b:Bool)(hv:JN s.data.toList=(v,b)) :
  Calls prog 163 #[.string s] w fun e w'=>e=.returned (.tuple #[.int .i64 v,.bool b])/\Below w.heap.size w w':=by
 have hlen:s.data.toList.length=s.size:=s_;have HV:=h_ hv;clear hv;obtain ⟨N,hN⟩:=e_ ((s.data.toList.takeWhile isDigit).length);have HN:=h_ hN;have hNs:N<=s.size:=by rw [hN,<-hlen];exact ZaR _
 clear hN;go_enter func163,ntmps163;go_wp2_with fail;go_loopg [4] (s.size+1) (fun f i wr=>∃k:Nat,k<=N/\i=.int .i64 k/\s.size-k<f/\wr=w)
 case atStart=>exact ⟨0,o_,rfl,o_,rfl⟩
 case round=>
  obtain ⟨k,hk,rfl,hfu,rfl⟩:=hrel;by_cases hlt:k<s.size
  ·have hz:(k:Int)<(s.size:Int):=o_
   have hdig:isDigit s[k]=decide (k<N):=by
    have h1:=ZbA isDigit s.data.toList k (by rw [hlen];exact hlt) (by rw [<-HN.out];exact hk);rw [<-HN.out] at h1;exact h1
   by_cases hkN:k<N
   ·rw [decide_eq_true hkN] at hdig
    have HD:=h_ (fun W=>XY s[k] W);rw [hdig] at HD;clear hdig hlen;go_wp2_with (go_at_call 96;refine (HD.out _).mono ?_;rintro e w' ⟨rfl,rfl⟩);go_roundg (s.size-k)
    case measure=>omega
    case rel=>exact ⟨k+1,o_,n14_,o_,rfl⟩
   ·rw [decide_eq_false hkN] at hdig
    have HD:=h_ (fun W=>XY s[k] W);rw [hdig] at HD;obtain rfl:k=N:=o_;clear hdig hlen hkN;go_wp2_with (go_at_call 96;refine (HD.out _).mono ?_;rintro e w' ⟨rfl,rfl⟩);exact m27_
  ·have hz:¬((k:Int)<(s.size:Int)):=o_
   obtain rfl:k=N:=o_;clear hlen;go_wp2_with fail;exact m27_
theorem ZaO(s:ByteArray)(w:World)(hs:s.size<=1000000000)(v:Int)(b:Bool)(hv:YT s.data.toList=(v,b)) :
  Calls prog 117 #[.string s] w fun e w'=>e=.returned (.tuple #[.int .i64 v,.bool b])/\Below w.heap.size w w':=by
 obtain ⟨u,hu⟩:=e_ s.data.toList;obtain rfl:s=⟨u.toArray⟩:=by rw [hu]
 have hul:u.length<=1000000000:=by simpa [ByteArray.size] using hs
 clear hu hs;have hv':YT u=(v,b):=hv;clear hv;cases hi:(u==[105,110,102,105,110,105,116,121]) with
 |true=>
  obtain rfl:u=[105,110,102,105,110,105,116,121]:=eq_of_beq hi;obtain ⟨rfl,rfl⟩:1099511627776=v/\true=b:=by
   unfold YT at hv';rw [if_pos rfl] at hv';simpa using hv'
  clear hv' hul hi;go_enter func117,ntmps117;exact m30_
 |false=>
  have hne:u≠[105,110,102,105,110,105,116,121]:=by rw [beq_eq_false_iff_ne] at hi;exact hi
  unfold YT at hv';rw [if_neg hne] at hv';have HV:=h_ hv';have HW:=h_ (XH ⟨u.toArray⟩ w n51_);have HM:=h_ (QB u.length u [] s_);have HLN:=h_ (Z4 u []);clear hv' hne;go_enter func117,ntmps117;go_wp2_with fail;refine HW.out.mono ?_;rintro e w1 ⟨A,rfl,hA,hA2,hst,hb1⟩;have HST:=h_ hst;have HB1:=h_ hb1;obtain ⟨l,hl⟩:=e_ (Zc u);have HL:=h_ (show ∀x∈l,x.length<=1000000000 from by rw [hl];intro x hx;have:=HM.out x hx;omega);have HLL:=h_ (show l.length<=1000000001 from by rw [hl];have:=HLN.out;unfold Zc;omega);change Hid (ZaE w1 A 0 (Zc u)) at HST;simp only at *;rw [<-hl] at HST HV⊢;clear hst hb1 hl HW HM HLN hA;go_wp2_with fail;go_loopg [5,16] (l.length+1) (fun f t i wr=>∃(k:Nat) (n:Int),k<=l.length/\i=.int .i64 k/\t=.int .i64 n/\l.length-k<f/\0<=n/\n<=6311433600/\Hid (Below w1.heap.size w1 wr)/\Hid (XG (l.drop k) n=XG l 0))
  case atStart=>exact ⟨0,0,o_,rfl,rfl,o_,o_,o_,Below.refl _ _,rfl⟩
  case round=>
   obtain ⟨k,n,hk,rfl,rfl,hfu,hn0,hn1,HB,HS⟩:=hrel;have hll:=HLL.out;by_cases hlt:k<l.length
   ·have hz:(k:Int)<(l.length:Int):=o_
    have d0:=(HST.out.below hA2 HB.out) k hlt;rw [Nat.zero_add] at d0;obtain ⟨x,hx⟩:=e_ (l[k]);rw [<-hx] at d0;have hd:l.drop k=x::l.drop (k+1):=n52_;have hxl:x.length<=1000000000:=by rw [hx];exact HL.out _ (List.getElem_mem hlt)
    have hS:=HS.out;rw [hd] at hS;obtain ⟨m,c,hmc⟩:∃m c,JN x=(m,c):=⟨_,_,rfl⟩;have hm0:=ZjZ x;rw [hmc] at hm0;rw [show XG (x::l.drop (k+1)) n=if (JN x).2=false then none else if n+(JN x).1>6311433600 then none else XG (l.drop (k+1)) (n+(JN x).1) from rfl] at hS;rw [hmc] at hS;simp only at hS hm0;have HWD:=h_ (ZnO ⟨x.toArray⟩ wr (by simpa [ByteArray.size] using hxl) m c hmc);clear hx hd hxl hmc HS;have hw64:wrap64 (n+m)=n+m:=n49_;cases c with
    |false=>
     have HSN:=h_ (show XG l 0=none from by rw [<-hS];simp);have HVF:=h_ (show 0=v/\false=b from by have:=HV.out;rw [HSN.out] at this;simpa using this);exact m29_
    |true=>
     by_cases hbig:n+m>6311433600
     ·have HSN:=h_ (show XG l 0=none from by rw [<-hS,if_neg s_,if_pos hbig])
      have HVF:=h_ (show 0=v/\false=b from by have:=HV.out;rw [HSN.out] at this;simpa using this);have hbig2:6311433600<n+m:=hbig;exact m29_
     ·have HS2:=h_ (show XG (l.drop (k+1)) (n+m)=XG l 0 from by rw [<-hS,if_neg s_,if_neg hbig])
      have hbig2:¬(6311433600<n+m):=hbig;clear hS;go_wp2_with fail;refine HWD.out.mono ?_;rintro e w2 ⟨rfl,hb2⟩;have HB2:=h_ (HB.out.trans (hb2.mono HB.out.size));clear hb2 HWD;go_wp2_with fail;go_roundg (l.length-k)
      case measure=>omega
      case rel=>exact ⟨k+1,n+m,o_,n14_,rfl,o_,o_,o_,HB2,HS2⟩
   ·have hz:¬((k:Int)<(l.length:Int)):=o_
    have HS2:=h_ (show XG l 0=some n from by have:=HS.out;rw [List.drop_eq_nil_of_le o_] at this;exact this.symm);have HVF:=h_ (show n=v/\(decide (0<l.length))=b from by have:=HV.out;rw [HS2.out] at this;simpa using this);clear HS;by_cases hl0:0<l.length
    ·have hl1:(l.length:Int)>0:=o_
     have hl2:(0:Int)<(l.length:Int):=o_;go_wp2_with fail;obtain ⟨rfl,rfl⟩:=HVF.out;go_ret2;exact ⟨by rw [decide_eq_true hl0];rfl,HB1.out.trans (HB.out.mono HB1.out.size)⟩
    ·have hl1:¬((l.length:Int)>0):=o_
     have hl2:¬((0:Int)<(l.length:Int)):=o_;go_wp2_with fail;obtain ⟨rfl,rfl⟩:=HVF.out;go_ret2;exact ⟨by rw [decide_eq_false hl0];rfl,HB1.out.trans (HB.out.mono HB1.out.size)⟩
theorem m55_{p:Prop}(h:p:=by go_wp2_with fail;go_ret;exact ⟨rfl,HB.out.trans (hb1.mono HB.out.size)⟩):p:=h
theorem m56_{p:Prop}(h:p:=by go_enter func105,ntmps105;go_wp2_with fail;go_ret;exact ⟨rfl,HB.out⟩):p:=h
theorem m57_{p:Prop}(h:p:=by go_enter func105,ntmps105;go_wp2_with fail;refine H.out.mono ?_;rintro e w1 ⟨rfl,hb1⟩;exact m55_):p:=h
abbrev Zd7:List Str:=[[121,101,115],[116,114,117,101],[49],[110,111],[102,97,108,115,101],[48]]
def J3(x:Str):Bool:=(Ql x).2
def Xm(form:Int)(ws:List Str)(v:Str):Bool:=
 if form=1 then true
 else if form=2 then Zd7.contains v
 else if form=3 then J3 v
 else if form=11 then Za8 J3 (Zc v)
 else if form=4 then (YT v).2
 else if form=9 then (Zan v).isSome
 else if form=5 then Qb v
 else if form=6 then Za8 Qb (Zc v)
 else if form=7 then (Xw v).isSome
 else if form=8 then (ZaW v).2
 else if form=10 then ws.contains v
 else false
theorem Zf2(w:World)(l:List Str):Zj (w.alloc (.cells (Ze l).toArray 9)) (some ⟨w.heap.size,0,none⟩) l:=JW w l
theorem Zl6(kv:ZT)(v:Str)(w:World)(hf:kv.form=1) :
  Calls prog 105 #[.agg (Zv kv).toArray,.string ⟨v.toArray⟩] w fun e w'=>e=.returned (.bool true)/\Below w.heap.size w w':=by
 obtain ⟨sec,name,form,list,kinds,wa,wn,wc⟩:=kv;unfold Zv;simp only at *;subst hf;have hvz:(⟨v.toArray⟩:ByteArray).size=v.length:=n29_;have hB:=(Below.refl w.heap.size w).alloc l_ (.cells #[.string ⟨sec.toArray⟩,.string ⟨name.toArray⟩,.int .i64 1,.bool list,.int .i64 kinds,.slice wa wn wc] 66);have HB:=h_ hB;clear hB;exact m56_
theorem Znx(kv:ZT)(v:Str)(w:World)(hf:kv.form=3)(hl:v.length<=1000000000)(m:Bool)(hm:J3 v=m) :
  Calls prog 105 #[.agg (Zv kv).toArray,.string ⟨v.toArray⟩] w fun e w'=>e=.returned (.bool m)/\Below w.heap.size w w':=by
 obtain ⟨sec,name,form,list,kinds,wa,wn,wc⟩:=kv;unfold Zv;simp only at *;subst hf;have hvz:(⟨v.toArray⟩:ByteArray).size=v.length:=n29_;have hB:=(Below.refl w.heap.size w).alloc l_ (.cells #[.string ⟨sec.toArray⟩,.string ⟨name.toArray⟩,.int .i64 3,.bool list,.int .i64 kinds,.slice wa wn wc] 66);have HB:=h_ hB;have H:=h_ (Zet ⟨v.toArray⟩ (w.alloc (.cells #[.string ⟨sec.toArray⟩,.string ⟨name.toArray⟩,.int .i64 3,.bool list,.int .i64 kinds,.slice wa wn wc] 66)) n130_ m hm);clear hB hm;exact m57_
theorem Zmq(kv:ZT)(v:Str)(w:World)(hf:kv.form=4)(hl:v.length<=1000000000)(m:Bool)(hm:(YT v).2=m) :
  Calls prog 105 #[.agg (Zv kv).toArray,.string ⟨v.toArray⟩] w fun e w'=>e=.returned (.bool m)/\Below w.heap.size w w':=by
 obtain ⟨sec,name,form,list,kinds,wa,wn,wc⟩:=kv;unfold Zv;simp only at *;subst hf;have hvz:(⟨v.toArray⟩:ByteArray).size=v.length:=n29_;have hB:=(Below.refl w.heap.size w).alloc l_ (.cells #[.string ⟨sec.toArray⟩,.string ⟨name.toArray⟩,.int .i64 4,.bool list,.int .i64 kinds,.slice wa wn wc] 66);have HB:=h_ hB;obtain ⟨n,b,hv⟩:∃n b,YT v=(n,b):=⟨_,_,rfl⟩;obtain rfl:b=m:=by rw [hv] at hm;exact hm
 have H:=h_ (ZaO ⟨v.toArray⟩ (w.alloc (.cells #[.string ⟨sec.toArray⟩,.string ⟨name.toArray⟩,.int .i64 4,.bool list,.int .i64 kinds,.slice wa wn wc] 66)) n130_ n b hv);clear hB hm hv;exact m57_
theorem Zmd(kv:ZT)(v:Str)(w:World)(hf:kv.form=5)(hl:v.length<=1000000000)(hM:ZA w)(m:Bool)(hm:Qb v=m) :
  Calls prog 105 #[.agg (Zv kv).toArray,.string ⟨v.toArray⟩] w fun e w'=>e=.returned (.bool m)/\Below w.heap.size w w':=by
 obtain ⟨sec,name,form,list,kinds,wa,wn,wc⟩:=kv;unfold Zv;simp only at *;subst hf;have hvz:(⟨v.toArray⟩:ByteArray).size=v.length:=n29_;have hB:=(Below.refl w.heap.size w).alloc l_ (.cells #[.string ⟨sec.toArray⟩,.string ⟨name.toArray⟩,.int .i64 5,.bool list,.int .i64 kinds,.slice wa wn wc] 66);have HB:=h_ hB;have H:=h_ (Zkz ⟨v.toArray⟩ (w.alloc (.cells #[.string ⟨sec.toArray⟩,.string ⟨name.toArray⟩,.int .i64 5,.bool list,.int .i64 kinds,.slice wa wn wc] 66)) n130_ (hM.below hB) m hm);clear hB hm hM;exact m57_
theorem ZnQ(kv:ZT)(v:Str)(w:World)(hf:kv.form=9)(hl:v.length<=1000000000)(hM:ZA w)(m:Bool)(hm:(Zan v).isSome=m) :
  Calls prog 105 #[.agg (Zv kv).toArray,.string ⟨v.toArray⟩] w fun e w'=>e=.returned (.bool m)/\Below w.heap.size w w':=by
 obtain ⟨sec,name,form,list,kinds,wa,wn,wc⟩:=kv;unfold Zv;simp only at *;subst hf;have hvz:(⟨v.toArray⟩:ByteArray).size=v.length:=n29_;have hB:=(Below.refl w.heap.size w).alloc l_ (.cells #[.string ⟨sec.toArray⟩,.string ⟨name.toArray⟩,.int .i64 9,.bool list,.int .i64 kinds,.slice wa wn wc] 66);have HB:=h_ hB;have H:=h_ (ZiQ v (w.alloc (.cells #[.string ⟨sec.toArray⟩,.string ⟨name.toArray⟩,.int .i64 9,.bool list,.int .i64 kinds,.slice wa wn wc] 66)) o_ (hM.below hB));unfold Zgc at H;rw [hm] at H;clear hB hm hM;go_enter func105,ntmps105;go_wp2_with fail;refine H.out.mono ?_;rintro e w1 ⟨cs,rfl,-,-,hb1⟩;exact m55_
theorem Zm0(kv:ZT)(v:Str)(w:World)(hf:kv.form=8)(hl:v.length<=1000000000)(hM:ZA w)(m:Bool)(hm:(ZaW v).2=m) :
  Calls prog 105 #[.agg (Zv kv).toArray,.string ⟨v.toArray⟩] w fun e w'=>e=.returned (.bool m)/\Below w.heap.size w w':=by
 obtain ⟨sec,name,form,list,kinds,wa,wn,wc⟩:=kv;unfold Zv;simp only at *;subst hf;have hvz:(⟨v.toArray⟩:ByteArray).size=v.length:=n29_;have hB:=(Below.refl w.heap.size w).alloc l_ (.cells #[.string ⟨sec.toArray⟩,.string ⟨name.toArray⟩,.int .i64 8,.bool list,.int .i64 kinds,.slice wa wn wc] 66);have HB:=h_ hB;obtain ⟨ps,b,hv⟩:∃ps b,ZaW v=(ps,b):=⟨_,_,rfl⟩;obtain rfl:b=m:=by rw [hv] at hm;exact hm
 have H:=h_ (ZmA ⟨v.toArray⟩ (w.alloc (.cells #[.string ⟨sec.toArray⟩,.string ⟨name.toArray⟩,.int .i64 8,.bool list,.int .i64 kinds,.slice wa wn wc] 66)) n130_ (hM.below hB) ps b hv);clear hB hm hv hM;go_enter func105,ntmps105;go_wp2_with fail;refine H.out.mono ?_;rintro e w1 ⟨hb1,u,rfl,hown⟩;obtain ⟨oa,cap,rfl⟩:=ownsRow_form hown;exact m55_
theorem Zlr(kv:ZT)(v:Str)(w:World)(hf:kv.form=7)(hl:v.length<=1000000000)(m:Bool)(hm:(Xw v).isSome=m) :
  Calls prog 105 #[.agg (Zv kv).toArray,.string ⟨v.toArray⟩] w fun e w'=>e=.returned (.bool m)/\Below w.heap.size w w':=by
 obtain ⟨sec,name,form,list,kinds,wa,wn,wc⟩:=kv;unfold Zv;simp only at *;subst hf;have hvz:(⟨v.toArray⟩:ByteArray).size=v.length:=n29_;have hB:=(Below.refl w.heap.size w).alloc l_ (.cells #[.string ⟨sec.toArray⟩,.string ⟨name.toArray⟩,.int .i64 7,.bool list,.int .i64 kinds,.slice wa wn wc] 66);have HB:=h_ hB;have H:=h_ (Zjw ⟨v.toArray⟩ (w.alloc (.cells #[.string ⟨sec.toArray⟩,.string ⟨name.toArray⟩,.int .i64 7,.bool list,.int .i64 kinds,.slice wa wn wc] 66)) n130_);unfold Zfy at H;rw [show (⟨v.toArray⟩:ByteArray).data.toList=v from rfl] at H;clear hB;cases hx:Xw v with
 |none=>
  rw [hx] at H hm;obtain rfl:false=m:=hm;simp only at H;clear hx;go_enter func105,ntmps105;go_wp2_with fail;refine H.out.mono ?_;rintro e w1 ⟨hb1,rfl⟩;exact m55_
 |some p=>
  obtain ⟨d,l⟩:=p;rw [hx] at H hm;obtain rfl:true=m:=hm;simp only at H;clear hx;go_enter func105,ntmps105;go_wp2_with fail;refine H.out.mono ?_;rintro e w1 ⟨hb1,wa2,wc2,rfl,-⟩;exact m55_
theorem ZkT(kv:ZT)(v:Str)(w:World)(hf:kv.form=2)(m:Bool)(hm:Zd7.contains v=m) :
  Calls prog 105 #[.agg (Zv kv).toArray,.string ⟨v.toArray⟩] w fun e w'=>e=.returned (.bool m)/\Below w.heap.size w w':=by
 obtain ⟨sec,name,form,list,kinds,wa,wn,wc⟩:=kv;unfold Zv;simp only at *;subst hf;have hvz:(⟨v.toArray⟩:ByteArray).size=v.length:=n29_;have hB:=(Below.refl w.heap.size w).alloc l_ (.cells #[.string ⟨sec.toArray⟩,.string ⟨name.toArray⟩,.int .i64 2,.bool list,.int .i64 kinds,.slice wa wn wc] 66);have HB:=h_ hB;have H:=h_ (show Calls prog 146 #[.slice (some ⟨w.heap.size+1,0,none⟩) 6 6,.string ⟨v.toArray⟩] ((w.alloc (.cells #[.string ⟨sec.toArray⟩,.string ⟨name.toArray⟩,.int .i64 2,.bool list,.int .i64 kinds,.slice wa wn wc] 66)).alloc (.cells #[.string ⟨#[121,101,115]⟩,.string ⟨#[116,114,117,101]⟩,.string ⟨#[49]⟩,.string ⟨#[110,111]⟩,.string ⟨#[102,97,108,115,101]⟩,.string ⟨#[48]⟩] 9)) fun e w'=>e=.returned (.bool m)/\w'=((w.alloc (.cells #[.string ⟨sec.toArray⟩,.string ⟨name.toArray⟩,.int .i64 2,.bool list,.int .i64 kinds,.slice wa wn wc] 66)).alloc (.cells #[.string ⟨#[121,101,115]⟩,.string ⟨#[116,114,117,101]⟩,.string ⟨#[49]⟩,.string ⟨#[110,111]⟩,.string ⟨#[102,97,108,115,101]⟩,.string ⟨#[48]⟩] 9)) from by
  have:=Zgu (some ⟨(w.alloc (.cells #[.string ⟨sec.toArray⟩,.string ⟨name.toArray⟩,.int .i64 2,.bool list,.int .i64 kinds,.slice wa wn wc] 66)).heap.size,0,none⟩) 6 Zd7 v ((w.alloc (.cells #[.string ⟨sec.toArray⟩,.string ⟨name.toArray⟩,.int .i64 2,.bool list,.int .i64 kinds,.slice wa wn wc] 66)).alloc (.cells (Ze Zd7).toArray 9)) d_ (Zf2 (w.alloc (.cells #[.string ⟨sec.toArray⟩,.string ⟨name.toArray⟩,.int .i64 2,.bool list,.int .i64 kinds,.slice wa wn wc] 66)) Zd7)
  rw [hm,show (w.alloc (.cells #[.string ⟨sec.toArray⟩,.string ⟨name.toArray⟩,.int .i64 2,.bool list,.int .i64 kinds,.slice wa wn wc] 66)).heap.size=w.heap.size+1 by simp] at this;exact this)
 have HB2:=h_ ((Below.refl (w.alloc (.cells #[.string ⟨sec.toArray⟩,.string ⟨name.toArray⟩,.int .i64 2,.bool list,.int .i64 kinds,.slice wa wn wc] 66)).heap.size (w.alloc (.cells #[.string ⟨sec.toArray⟩,.string ⟨name.toArray⟩,.int .i64 2,.bool list,.int .i64 kinds,.slice wa wn wc] 66))).alloc l_ (.cells #[.string ⟨#[121,101,115]⟩,.string ⟨#[116,114,117,101]⟩,.string ⟨#[49]⟩,.string ⟨#[110,111]⟩,.string ⟨#[102,97,108,115,101]⟩,.string ⟨#[48]⟩] 9));clear hB hm;go_enter func105,ntmps105;go_wp2_with fail;refine H.out.mono ?_;rintro e w1 ⟨rfl,rfl⟩;go_wp2_with fail;go_ret;exact ⟨rfl,HB.out.trans (HB2.out.mono HB.out.size)⟩
theorem ZlY(kv:ZT)(v:Str)(w:World)(hf:kv.form=11)(hl:v.length<4294967281)(hM:ZA w)(m:Bool)(hm:Za8 J3 (Zc v)=m) :
  Calls prog 105 #[.agg (Zv kv).toArray,.string ⟨v.toArray⟩] w fun e w'=>e=.returned (.bool m)/\Below w.heap.size w w':=by
 obtain ⟨sec,name,form,list,kinds,wa,wn,wc⟩:=kv;unfold Zv;simp only at *;subst hf;have hvz:(⟨v.toArray⟩:ByteArray).size=v.length:=n29_;have hB:=(Below.refl w.heap.size w).alloc l_ (.cells #[.string ⟨sec.toArray⟩,.string ⟨name.toArray⟩,.int .i64 11,.bool list,.int .i64 kinds,.slice wa wn wc] 66);have HB:=h_ hB;have HW:=h_ (XH ⟨v.toArray⟩ (w.alloc (.cells #[.string ⟨sec.toArray⟩,.string ⟨name.toArray⟩,.int .i64 11,.bool list,.int .i64 kinds,.slice wa wn wc] 66)) n130_);have hln:=Z4 v [];have hmem:=QB v.length v [] s_;have HE:=h_ (fun (A:Nat) (W:World) (hA:A<W.heap.size) (h1:ZA W) (h2:ZaE W A 0 (Zc v))=>
  ZkA 147 Zf5 J3 A 0 (Zc v).length (Zc v) W hA (by unfold Zc;omega) h1 (fun W2 j hj hM2=>Zet _ W2 (by
   have:(Zc v)[j].length<=v.length:=hmem _ (List.getElem_mem hj)
   show (Zc v)[j].toArray.size<=_;simp;omega) _ rfl) h2 m hm)
 have HM:=h_ (hM.below hB);clear hln hmem hB hM hl hm hvz;go_enter func105,ntmps105;go_wp2_with fail;refine HW.out.mono ?_;rintro e w1 ⟨A,rfl,hA,hA2,hs,hb1⟩;have hh:=HE.out A w1 hA2 (HM.out.below hb1) hs;have HH:=h_ hh;have HB1:=h_ (HB.out.trans (hb1.mono HB.out.size));clear hA hA2 hs hb1 hh HE HW HM HB;simp only;generalize (Zc v).length=n at *;go_wp2_with fail;refine HH.out.mono ?_;rintro e w2 ⟨rfl,hb2⟩;have HB2:=h_ (HB1.out.trans (hb2.mono HB1.out.size));clear hb2;go_wp2_with fail;go_ret;exact ⟨rfl,HB2.out⟩
theorem Zmf(kv:ZT)(v:Str)(w:World)(h1:¬kv.form=1)(h2:¬kv.form=2)(h3:¬kv.form=3)(h11:¬kv.form=11)(h4:¬kv.form=4)(h9:¬kv.form=9)(h5:¬kv.form=5)(h6:¬kv.form=6)(h7:¬kv.form=7)(h8:¬kv.form=8)(h10:¬kv.form=10) :
  Calls prog 105 #[.agg (Zv kv).toArray,.string ⟨v.toArray⟩] w fun e w'=>e=.returned (.bool false)/\Below w.heap.size w w':=by
 obtain ⟨sec,name,form,list,kinds,wa,wn,wc⟩:=kv;unfold Zv;simp only at *;have HB:=h_ ((Below.refl w.heap.size w).alloc l_ (.cells #[.string ⟨sec.toArray⟩,.string ⟨name.toArray⟩,.int .i64 form,.bool list,.int .i64 kinds,.slice wa wn wc] 66));exact m56_
theorem Zm5(kv:ZT)(ws:List Str)(v:Str)(w:World)(hn:kv.wn=ws.length)(hl:ws.length<=4294967296)(hw:Zj w kv.wa ws)(hv:v.length<=1000000000)(hM:ZA w) :
  Calls prog 105 #[.agg (Zv kv).toArray,.string ⟨v.toArray⟩] w fun e w'=>e=.returned (.bool (Xm kv.form ws v))/\Below w.heap.size w w':=by
 unfold Xm;by_cases h1:kv.form=1
 ·rw [if_pos h1];exact Zl6 kv v w h1
 rw [if_neg h1];by_cases h2:kv.form=2
 ·rw [if_pos h2];exact ZkT kv v w h2 _ rfl
 rw [if_neg h2];by_cases h3:kv.form=3
 ·rw [if_pos h3];exact Znx kv v w h3 hv _ rfl
 rw [if_neg h3];by_cases h11:kv.form=11
 ·rw [if_pos h11];exact ZlY kv v w h11 o_ hM _ rfl
 rw [if_neg h11];by_cases h4:kv.form=4
 ·rw [if_pos h4];exact Zmq kv v w h4 hv _ rfl
 rw [if_neg h4];by_cases h9:kv.form=9
 ·rw [if_pos h9];exact ZnQ kv v w h9 hv hM _ rfl
 rw [if_neg h9];by_cases h5:kv.form=5
 ·rw [if_pos h5];exact Zmd kv v w h5 hv hM _ rfl
 rw [if_neg h5];by_cases h6:kv.form=6
 ·rw [if_pos h6];exact Zjm kv v w h6 o_ hM _ rfl
 rw [if_neg h6];by_cases h7:kv.form=7
 ·rw [if_pos h7];exact Zlr kv v w h7 hv _ rfl
 rw [if_neg h7];by_cases h8:kv.form=8
 ·rw [if_pos h8];exact Zm0 kv v w h8 hv hM _ rfl
 rw [if_neg h8];by_cases h10:kv.form=10
 ·rw [if_pos h10];exact Zmm kv ws v w h10 hn hl hw _ rfl
 rw [if_neg h10];exact Zmf kv v w h1 h2 h3 h11 h4 h9 h5 h6 h7 h8 h10
def Zbb(v:Str)(k:Yn):Int:=ZW k.form k.list v (Xm k.form k.words v)
def lnS(kind:Int)(x:Ln):Int:=ZjH (Zbb x.val) kind x.sec x.key
theorem ZnZ(k:Yn)(kv:ZT)(v:Str)(w:World)(hk:ZaC w kv k)(hw:k.words.length<=4294967296)(hl:v.length<=1000000000)(hM:ZA w) :
  Calls prog 60 #[.agg (Zv kv).toArray,.string ⟨v.toArray⟩] w fun e w'=>e=.returned (.int .i64 (Zbb v k))/\Below w.heap.size w w':=by
 refine ZnT kv v w (Xm k.form k.words v) (fun W hW=>?_) _ (by unfold Zbb;rw [hk.form,hk.list])
 have:=Zm5 kv k.words v W hk.wl hw (hk.row.below hW) hl (hM.below hW)
 rw [hk.form] at this;exact this
theorem ZlI:(Zx.all fun k=>decide (k.words.length<=100))=true:=k_
theorem Zd9:∀k∈Zx,k.words.length<=100:=fun k hk=>of_decide_eq_true (List.all_eq_true.1 ZlI k hk)
theorem Zb0(sec name:Str)(k:Yn)(h:findKey sec name=some k):k∈Zx:=by
 unfold findKey at h;exact List.mem_of_find?_eq_some h
theorem Zpx(kind:Int)(x:Ln)(w:World)(hM:ZA w)(hl:x.val.length<=1000000000) :
  Calls prog 28 #[.int .i64 kind,.agg (YV x).toArray] w fun e w'=>e=.returned (.int .i64 (lnS kind x))/\Below w.heap.size w w' :=
 Zpj (Zbb x.val) kind x.sec x.key x.val x.at_ w hM (fun k kv W hk hkv hM2=>ZnZ k kv x.val W hkv (Nat.le_trans (Zd9 k (Zb0 _ _ k hk)) d_) hl hM2) _ rfl
theorem Zli(x:Int)(m:Nat)(hm:m<9223372036854775808):∃n:Nat,n<=m/\bits BinOp.and IntKind.i64 x (m:Int)=(n:Int):=by
 have h1:(BitVec.ofInt 64 (m:Int)).toNat=m:=by
  rw [BitVec.ofInt_natCast,BitVec.toNat_ofNat];exact Nat.mod_eq_of_lt o_
 have h2:(BitVec.ofInt 64 x &&& BitVec.ofInt 64 (m:Int)).toNat<=m:=by
  rw [BitVec.toNat_and,h1];exact Nat.and_le_right
 refine ⟨_,h2,?_⟩;show IntKind.i64.wrap ((BitVec.ofInt 64 x &&& BitVec.ofInt 64 (m:Int)).toNat:Int)=_;generalize (BitVec.ofInt 64 x &&& BitVec.ofInt 64 (m:Int)).toNat=q at *;rw [IntKind.wrap_i64];omega
theorem Znm{w:World}{o:Option Addr}{vs:List ZT}(h:ZB Zv 6 w o vs)(k:Nat)(hk:k<vs.length)(b f:Nat)(ho:o=some ⟨b,f,none⟩)(x:ZT)(hx:x=vs[k]) :
  w.cell? ⟨b,f+k*6,none⟩=some (.string ⟨x.sec.toArray⟩)/\w.cell? ⟨b,f+k*6+1,none⟩=some (.string ⟨x.name.toArray⟩)/\w.cell? ⟨b,f+k*6+2,none⟩=some (.int .i64 x.form)/\w.cell? ⟨b,f+k*6+3,none⟩=some (.bool x.list)/\w.cell? ⟨b,f+k*6+4,none⟩=some (.int .i64 x.kinds)/\w.cell? ⟨b,f+k*6+5,none⟩=some (.slice x.wa x.wn x.wc):=by
 obtain ⟨b3,o3,e3,_,hcc⟩:=h k hk;rw [ho] at e3;injection e3 with e3
 injection e3 with e4 e5 e6
 subst e4;subst e5;rw [<-hx] at hcc;exact ⟨hcc 0 _ rfl,hcc 1 _ rfl,hcc 2 _ rfl,hcc 3 _ rfl,hcc 4 _ rfl,hcc 5 _ rfl⟩
end Go.Proofs.YtgoooebfhdbbkaaGreatDoor
