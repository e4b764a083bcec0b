import Derived.Test.YtgoooebfhdbbkaaGreatDoorUM9
import Derived.Test.YtgoooebfhdbbkaaGreatDoorUM17
import Derived.Test.YtgoooebfhdbbkaaGreatDoorUM18
import Derived.Test.YtgoooebfhdbbkaaGreatDoorUM28
import Derived.Test.YtgoooebfhdbbkaaGreatDoorUM29
namespace Go.Proofs.YtgoooebfhdbbkaaGreatDoor
open Go.Proofs.Tryz
open Go Go.RowKit
set_option linter.unusedVariables false
set_option linter.unusedSimpArgs false
set_option maxHeartbeats 16000000
set_option maxRecDepth 100000
theorem m90_{p:Prop}(h:p:=by go_wp2_with fail;go_ret;exact ⟨n36_,HB.out⟩):p:=h
theorem m91_{p:Prop}(h:p:=by clear HR hlen;go_enter func36,ntmps36;go_wp2;go_ret;exact ⟨n36_,Below.refl _ _⟩):p:=h
theorem m92_{p:Prop}(h:p:=by go_wp2_with fail;go_ret;exact ⟨by rw [<-HQ.out];rfl,HB.out⟩):p:=h
theorem ZfX(oa:Option Addr)(cap:Nat)(l:List Str)(x:Str)(w:World)(hl:l.length<=4294967296)(h:Zj w oa l)(r:Bool)(hr:l.contains x=r) :
  Calls prog 82 #[.slice oa l.length cap,.string ⟨x.toArray⟩] w fun e w'=>e=.returned (.bool r)/\Below w.heap.size w w':=by
 have H:=h_ h;have HR:=h_ hr;clear h hr;go_enter func82,ntmps82;go_wp2;go_loopg [9] l.length (fun f s9 wr=>∃k:Nat,k+f=l.length/\s9=.int .i64 k/\Hid ((l.drop k).contains x=r)/\Hid (Below w.heap.size w wr))
 case atStart=>exact ⟨0,o_,rfl,HR,Below.refl _ _⟩
 case round=>
  obtain ⟨k,hkf,rfl,HA,HB⟩:=hrel;by_cases hlt:k<l.length
  ·have hltz:(k:Int)<(l.length:Int):=o_
   obtain ⟨b,o,rfl,hc⟩:=(H.out.below HB.out) k hlt;obtain ⟨y,hy⟩:=e_ (l[k]);rw [<-hy] at hc;have hd:(y::l.drop (k+1)).contains x=r:=by rw [hy,<-List.drop_eq_getElem_cons hlt];exact HA.out
   have HD:=h_ hd;clear hd hy HA;cases hq:(y==x) with
   |true=>
    have HQ:=h_ (show true=r by
     have h2:=HD.out;obtain rfl:y=x:=by simpa using hq
     simpa using h2)
    clear HD;exact m92_
   |false=>
    have HQ:=h_ (show (l.drop (k+1)).contains x=r by
     have h2:=HD.out;have h3:¬x=y:=by intro e;subst e;simp at hq
     simpa [h3] using h2)
    clear HD;go_wp2_with fail;go_roundg (l.length-(k+1))
    case measure=>omega
    case rel=>exact ⟨k+1,o_,n14_,HQ,HB⟩
  ·have hltz:¬(k:Int)<(l.length:Int):=o_
   have HQ:=h_ (show false=r by
    have h2:=HA.out;rw [List.drop_of_length_le o_] at h2;simpa using h2)
   clear HA;exact m92_
def Xc(s:Str):Int:=if (Ql s).2=true then (Ql s).1 else -1
theorem ZeA(s:Str):decide (0<=Xc s)=(Ql s).2:=by
 unfold Xc Ql;split
 ·split
  ·simp
  ·simp
 ·simp
theorem Zhm(l:Str)(c:UInt8):ZaB (l++[c])=ZaB l*10+(c.toNat-48):=ZhW 0 l c
theorem ZiH(s:Str)(h:Qk s 5 isDigit=false):Xc s = -1:=by unfold Xc Ql;rw [h];rfl
theorem QV(s:ByteArray)(w:World)(r:Int)(hr:Xc s.data.toList=r) :
  Calls prog 36 #[.string s] w fun e w'=>e=.returned (.int .i64 r)/\Below w.heap.size w w':=by
 have hlen:s.data.toList.length=s.size:=s_;have HR:=h_ hr;clear hr;by_cases h1:s.size<1
 ·have hz:(s.size:Int)<1:=o_
  have HN:=h_ (show -1=r by
   rw [<-HR.out,ZiH _ (by unfold Qk;rw [List.eq_nil_of_length_eq_zero (by omega:s.data.toList.length=0)];rfl)])
  exact m91_
 ·have hz:¬(s.size:Int)<1:=o_
  by_cases h5:5<s.size
  ·have hz5:(s.size:Int)>5:=o_
   have HN:=h_ (show -1=r by
    rw [<-HR.out,ZiH _ (by unfold Qk;rw [hlen,decide_eq_false o_];simp)])
   exact m91_
  ·have hz5:¬(s.size:Int)>5:=o_
   have h5n:s.size<=5:=o_;obtain ⟨u,hu⟩:=e_ s.data.toList;rw [<-hu] at HR hlen;have HU:=h_ hu;clear hu;go_enter func36,ntmps36;go_wp2;go_loopg [3,4] (s.size+1) (fun f s3 s4 wr=>∃k n:Nat,k<=s.size/\s.size-k<f/\s4=.int .i64 k/\s3=.int .i64 n/\n<=99999/\Hid (ZaB (u.take k)=n)/\Hid ((u.take k).all isDigit=true)/\Hid (Below w.heap.size w wr))
   case atStart=>exact ⟨0,0,o_,o_,rfl,rfl,o_,h_ rfl,h_ rfl,Below.refl _ _⟩
   case round=>
    obtain ⟨k,n,hk,hf,rfl,rfl,hn,HV,HA,HB⟩:=hrel;by_cases hlt:k<s.size
    ·have hltz:(k:Int)<(s.size:Int):=o_
     have hcu:u.take (k+1)=u.take k++[s[k]]:=by
      have hkl:k<u.length:=o_;rw [List.take_add_one,List.getElem?_eq_getElem hkl];simp [HU.out];rfl
     have HDG:=h_ (fun V=>Zae s[k] V);have HV1:=h_ (show ZaB (u.take (k+1))=n*10+(s[k].toNat-48) by rw [hcu,Zhm,HV.out]);have HA1:=h_ (show (u.take (k+1)).all isDigit=isDigit s[k] by rw [hcu,List.all_append,HA.out];simp);clear hcu;cases hd:isDigit s[k] with
     |false=>
      rw [hd] at HDG;have HN:=h_ (show -1=r by
       rw [<-HR.out,ZiH];unfold Qk
       have:u.all isDigit=false:=by
        rw [<-List.take_append_drop (k+1) u,List.all_append,HA1.out,hd];rfl
       rw [this];simp)
      clear HV1 HA1 HV HA hd;go_wp2_with fail;refine (HDG.out _).mono ?_;rintro e w2 ⟨rfl,rfl⟩;exact m90_
     |true=>
      rw [hd] at HDG HA1;obtain ⟨d1,d2⟩:=(QN s[k]).1 hd;have hbd:n*10+(s[k].toNat-48)<=99999:=by
       have h:=Zcn (u.take (k+1)) HA1.out 5 n46_;rw [HV1.out] at h;omega
      clear HV HA hd;go_wp2_with fail;refine (HDG.out _).mono ?_;rintro e w2 ⟨rfl,rfl⟩;go_wp2_with fail;go_roundg (s.size-k)
      case measure=>omega
      case rel=>exact ⟨k+1,n*10+(s[k].toNat-48),o_,o_,n14_,n14_,hbd,HV1,HA1,HB⟩
    ·have hltz:¬(k:Int)<(s.size:Int):=o_
     obtain rfl:k=s.size:=o_;rw [List.take_of_length_le o_] at HV HA;have hlb:Qk u 5 isDigit=true:=by
      unfold Qk;rw [HA.out,decide_eq_true o_];cases u with
      |nil=>simp at hlen;omega
      |cons a t=>rfl
     by_cases hbig:n<=65535
     ·have hbz:¬(n:Int)>65535:=o_
      have HN:=h_ (show (n:Int)=r by
       rw [<-HR.out];unfold Xc Ql;rw [if_pos hlb,HV.out,if_pos hbig];rfl)
      clear hlb HV HA;exact m90_
     ·have hbz:(n:Int)>65535:=o_
      have HN:=h_ (show -1=r by
       rw [<-HR.out];unfold Xc Ql;rw [if_pos hlb,HV.out,if_neg hbig];rfl)
      clear hlb HV HA;exact m90_
theorem m146_{p:Prop}(h:p:=by go_enter func130,ntmps130;go_wp2_with fail;go_ret;exact ⟨rfl,rfl⟩):p:=h
theorem ZhS(u:Str)(w:World):Calls prog 130 #[.string ⟨u.toArray⟩] w fun e w'=>e=.returned (.int .i64 (ZbL u))/\w'=w:=by
 by_cases h0:u=[]
 ·subst h0
  exact m146_
 by_cases h1:u=[115]
 ·subst h1
  exact m146_
 by_cases h2:u=[115,101,99]
 ·subst h2
  exact m146_
 by_cases h3:u=[109]
 ·subst h3
  exact m146_
 by_cases h4:u=[109,105,110]
 ·subst h4
  exact m146_
 by_cases h5:u=[104]
 ·subst h5
  exact m146_
 by_cases h6:u=[104,114]
 ·subst h6
  exact m146_
 by_cases h7:u=[100]
 ·subst h7
  exact m146_
 by_cases h8:u=[100,97,121]
 ·subst h8
  exact m146_
 by_cases h9:u=[119]
 ·subst h9
  exact m146_
 by_cases h10:u=[119,101,101,107]
 ·subst h10
  exact m146_
 have b0:List.isEmpty u=false:=by cases u with|nil=>exact absurd rfl h0|cons a t=>rfl
 have b1:(u==[115])=false:=n56_;have b2:(u==[115,101,99])=false:=n57_;have b3:(u==[109])=false:=n39_;have b4:(u==[109,105,110])=false:=n40_;have b5:(u==[104])=false:=n89_;have b6:(u==[104,114])=false:=by rw [beq_eq_false_iff_ne];exact h6
 have b7:(u==[100])=false:=n90_;have b8:(u==[100,97,121])=false:=by rw [beq_eq_false_iff_ne];exact h8
 have b9:(u==[119])=false:=by rw [beq_eq_false_iff_ne];exact h9
 have b10:(u==[119,101,101,107])=false:=by rw [beq_eq_false_iff_ne];exact h10
 have HS:=h_ (show ZbL u=0 by unfold ZbL;simp only [if_neg h0,if_neg h1,if_neg h2,if_neg h3,if_neg h4,if_neg h5,if_neg h6,if_neg h7,if_neg h8,if_neg h9,if_neg h10]);clear h0 h1 h2 h3 h4 h5 h6 h7 h8 h9 h10;go_enter func130,ntmps130;go_wp2_with fail;go_ret;exact ⟨n77_,rfl⟩
theorem m160_{p:Prop}(h:p:=by go_wp2_with fail;go_ret;exact ⟨rfl,rfl⟩):p:=h
theorem m161_{p:Prop}(h:p:=by go_enter func227,ntmps227;exact m160_):p:=h
theorem m162_{p:Prop}(h:p:=by go_enter func203,ntmps203;exact m160_):p:=h
theorem ZjL(s:ByteArray)(a b:Nat)(l:Str)(h:(s.extract a b).data.toList=l):s.extract a b=⟨l.toArray⟩:=by
 apply Yb;rw [h]
theorem Znv(s:ByteArray)(a b:Nat):(s.extract a b).data.toList=(s.data.toList.drop a).take (b-a):=by
 rw [Lib.extract_data]
theorem ZoN{l:Str}{c d:UInt8}(h:∀x∈l,x≠c)(hd:(d==c)=false):∀x∈l++[d],x≠c:=by
 intro x hx;rcases List.mem_append.1 hx with hx|hx
 ·exact h x hx
 ·simp at hx;subst hx;simpa using hd
theorem Zfm(l:Str)(f k:Nat)(hf:f<=k)(hk:k<l.length):(l.drop f).take (k+1-f)=(l.drop f).take (k-f)++[l[k]]:=by
 have h:k-f<(l.drop f).length:=n2_;rw [show k+1-f=(k-f)+1 by omega,List.take_succ_eq_append_getElem h,List.getElem_drop];congr 3;omega
theorem ZmY(l:Str)(f k:Nat)(hf:f<=k)(hk:k<l.length):l.drop f=(l.drop f).take (k-f)++l[k]::l.drop (k+1):=by
 have h1:=(List.take_append_drop (k-f) (l.drop f)).symm;rw [List.drop_drop,show f+(k-f)=k by omega,List.drop_eq_getElem_cons hk] at h1;exact h1
theorem ZrK(a c:UInt8):((a.toNat:Int)==(c.toNat:Int))=(a==c):=by
 rw [Bool.eq_iff_iff,beq_iff_eq,beq_iff_eq,<-UInt8.toNat_inj];omega
theorem XW(s:ByteArray)(c:UInt8)(w:World)(hs:s.size<=1000000000)(rows:List Str)(hrows:Zl c s.data.toList=rows) :
  Calls prog 202 #[.string s,.int .u8 c.toNat] w fun e w'=>YJ w rows e w':=by
 have HRows:=h_ hrows;clear hrows;obtain ⟨i0,hi,hz0,hz1,hz2⟩:=info_parts Zka;have HBC:=h_ (fun a=>ZrK a c);obtain ⟨cn,hcn⟩:∃cn:Int,cn=(c.toNat:Int):=⟨_,rfl⟩;rw [<-hcn] at HBC⊢;clear hcn;go_enter func202,ntmps202;go_wp2_with fail;go_loopg [5,6,7] (s.size+1) (fun f v fr i wr=>∃(fm k:Nat) (done:List Str),fm<=k/\k<=s.size/\fr=.int .i64 fm/\i=.int .i64 k/\s.size-k<f/\done.length<=k/\Hid (wr.ownsRow w.heap.size 9 1 v done.length (Ze done))/\
  Hid (done++Zl c (s.data.toList.drop fm)=rows)/\Hid (∀x∈(s.data.toList.drop fm).take (k-fm),x≠c)/\Hid (Below w.heap.size w wr))
 case atStart=>exact ⟨0,0,[],o_,o_,rfl,rfl,o_,s_,World.ownsRow_nil _ _ _ _,by rw [List.drop_zero];exact HRows.out,(show ∀x∈(s.data.toList.drop 0).take (0-0),x≠c by simp),Below.refl _ _⟩
 case round=>
  obtain ⟨fm,k,done,hfk,hk,rfl,rfl,hfu,hdl,Hown,Hq,Hn,HB⟩:=hrel;obtain ⟨oa,cap,rfl⟩:=ownsRow_form Hown.out;have hsz:=HB.out.size;have hlen:s.data.toList.length=s.size:=s_;by_cases hlt:k<s.size
  ·have hlt':k<s.data.toList.length:=by rw [hlen];exact hlt
   have e10:((s[k].toNat:Int)==cn)=(s[k]==c):=HBC.out s[k];cases hc:(s[k]==c) with
   |true=>
    have HX:=h_ (ZjL s fm k _ (Znv s fm k));have HR:=h_ (show done++[(s.data.toList.drop fm).take (k-fm)]++Zl c (s.data.toList.drop (k+1))=rows by
     have h10:s.data.toList[k]=c:=eq_of_beq hc;have e:=ZmY s.data.toList fm k hfk hlt';rw [h10] at e;have e2:=(congrArg (Zl c) e).trans (Jp c _ _ Hn.out);rw [<-Hq.out,e2,List.append_assoc];rfl)
    rw [hc] at e10;clear hc hlen;have hown0:=Hown.out;go_wp2_with (at_builtin;refine wpList_append_own _ rfl _ _ 28 rfl w.heap.size 9 i0 (.string ⟨#[]⟩) 1 16 underlying28 hi hz0 hz1 hz2 rfl d_ _ _ _ rfl (hown0.alloc _) ⟨wr.heap.size,0,none⟩ 1 1 [.string (s.extract fm k)] rfl rfl n38_ n30_ n20_ o_ n2_ ?_);intro v' w2 hown' hgrow hnil;have HB2:=h_ ((HB.out.alloc hsz _).grown hgrow n2_ (fun g hg=>(hown0.lt g hg).1));have HO2:=h_ (show w2.ownsRow w.heap.size 9 1 v' (done++[(s.data.toList.drop fm).take (k-fm)]).length (Ze (done++[(s.data.toList.drop fm).take (k-fm)])) by
     rw [Zm,<-HX.out,List.length_append];exact hown')
    clear hgrow hnil hown' hown0;go_wp2_with fail;go_roundg (s.size-k)
    case measure=>omega
    case rel=>exact ⟨k+1,k+1,_,o_,o_,n14_,n14_,o_,n2_,HO2,HR,(show ∀x∈(s.data.toList.drop (k+1)).take (k+1-(k+1)),x≠c by simp),HB2⟩
   |false=>
    have HT:=h_ (show ∀x∈(s.data.toList.drop fm).take (k+1-fm),x≠c by
     rw [Zfm s.data.toList fm k hfk hlt'];exact ZoN Hn.out hc)
    rw [hc] at e10;clear hc hlen;go_wp2_with fail;go_roundg (s.size-k)
    case measure=>omega
    case rel=>exact ⟨fm,k+1,done,o_,o_,rfl,n14_,o_,o_,Hown,Hq,HT,HB⟩
  ·have:k=s.size:=o_
   subst this;have HX:=h_ (ZjL s fm s.size (s.data.toList.drop fm) (Lib.extract_to_end s fm));have HR:=h_ (show done++[s.data.toList.drop fm]=rows by
    rw [<-Hq.out,QL c _ (by have:=Hn.out;rw [List.take_of_length_le s_] at this;exact this)])
   clear hlen;have hown0:=Hown.out;go_wp2_with (at_builtin;refine wpList_append_own _ rfl _ _ 28 rfl w.heap.size 9 i0 (.string ⟨#[]⟩) 1 16 underlying28 hi hz0 hz1 hz2 rfl d_ _ _ _ rfl (hown0.alloc _) ⟨wr.heap.size,0,none⟩ 1 1 [.string (s.extract fm s.size)] rfl rfl n38_ n30_ n20_ o_ n2_ ?_);intro v' w2 hown' hgrow hnil;have HB2:=h_ ((HB.out.alloc hsz _).grown hgrow n2_ (fun g hg=>(hown0.lt g hg).1));have HO2:=h_ (show w2.ownsRow w.heap.size 9 1 v' rows.length (Ze rows) by
    rw [<-HR.out,Zm,<-HX.out,List.length_append];exact hown')
   clear hgrow hnil hown' hown0;go_wp2_with fail;go_ret;exact ⟨HB2.out,v',rfl,HO2.out⟩
theorem ZlO(s:Str)(w:World):Calls prog 203 #[.string ⟨s.toArray⟩] w fun e w'=>e=.returned (.string ⟨(nmS s).toArray⟩)/\w'=w:=by
 by_cases h0:s=[109,105,110,117,116,101,108,121]
 ·subst h0
  exact m162_
 by_cases h1:s=[104,111,117,114,108,121]
 ·subst h1
  exact m162_
 by_cases h2:s=[100,97,105,108,121]
 ·subst h2
  exact m162_
 by_cases h3:s=[119,101,101,107,108,121]
 ·subst h3
  exact m162_
 by_cases h4:s=[109,111,110,116,104,108,121]
 ·subst h4
  exact m162_
 by_cases h5:s=[121,101,97,114,108,121]
 ·subst h5
  exact m162_
 have b0:(s==[109,105,110,117,116,101,108,121])=false:=n120_;have b1:(s==[104,111,117,114,108,121])=false:=n56_;have b2:(s==[100,97,105,108,121])=false:=n57_;have b3:(s==[119,101,101,107,108,121])=false:=n39_;have b4:(s==[109,111,110,116,104,108,121])=false:=n40_;have b5:(s==[121,101,97,114,108,121])=false:=n89_;have HS:=h_ (show nmS s=s by unfold nmS;simp only [if_neg h0,if_neg h1,if_neg h2,if_neg h3,if_neg h4,if_neg h5]);clear h0 h1 h2 h3 h4 h5;go_enter func203,ntmps203;go_wp2_with fail;go_ret;exact ⟨n77_,rfl⟩
theorem Zb9(d:Nat)(h1:1<=d)(h7:d<=7)(w:World):Calls prog 227 #[.int .i64 d] w fun e w'=>e=.returned (.string ⟨(Ja d).toArray⟩)/\w'=w:=by
 match d,h1,h7 with
 |1,_,_=>
  exact m161_
 |2,_,_=>
  exact m161_
 |3,_,_=>
  exact m161_
 |4,_,_=>
  exact m161_
 |5,_,_=>
  exact m161_
 |6,_,_=>
  exact m161_
 |7,_,_=>
  exact m161_
 |n+8,_,h=>omega
theorem m163_{p:Prop}(h:p:=by go_wp2_with fail;go_ret;exact ⟨n36_,HB.out⟩):p:=h
theorem m164_{p:Prop}(h:p:=by clear HR hlen;go_enter func239,ntmps239;go_wp2;go_ret;exact ⟨n36_,Below.refl _ _⟩):p:=h
def JC(s:Str):Int:=if (ZQ s).2=true then (ZQ s).1 else -1
theorem Zf0(s:Str)(h:Qk s 4 isDigit=false):JC s = -1:=by unfold JC ZQ;rw [h];rfl
theorem Qj(s:ByteArray)(w:World)(r:Int)(hr:JC s.data.toList=r) :
  Calls prog 239 #[.string s] w fun e w'=>e=.returned (.int .i64 r)/\Below w.heap.size w w':=by
 have hlen:s.data.toList.length=s.size:=s_;have HR:=h_ hr;clear hr;by_cases h1:s.size<1
 ·have hz:(s.size:Int)<1:=o_
  have HN:=h_ (show -1=r by
   rw [<-HR.out,Zf0 _ (by unfold Qk;rw [List.eq_nil_of_length_eq_zero (by omega:s.data.toList.length=0)];rfl)])
  exact m164_
 ·have hz:¬(s.size:Int)<1:=o_
  by_cases h5:4<s.size
  ·have hz5:(s.size:Int)>4:=o_
   have HN:=h_ (show -1=r by
    rw [<-HR.out,Zf0 _ (by unfold Qk;rw [hlen,decide_eq_false o_];simp)])
   exact m164_
  ·have hz5:¬(s.size:Int)>4:=o_
   have h5n:s.size<=4:=o_;obtain ⟨u,hu⟩:=e_ s.data.toList;rw [<-hu] at HR hlen;have HU:=h_ hu;clear hu;go_enter func239,ntmps239;go_wp2;go_loopg [3,4] (s.size+1) (fun f s3 s4 wr=>∃k n:Nat,k<=s.size/\s.size-k<f/\s4=.int .i64 k/\s3=.int .i64 n/\n<=9999/\Hid (ZaB (u.take k)=n)/\Hid ((u.take k).all isDigit=true)/\Hid (Below w.heap.size w wr))
   case atStart=>exact ⟨0,0,o_,o_,rfl,rfl,o_,h_ rfl,h_ rfl,Below.refl _ _⟩
   case round=>
    obtain ⟨k,n,hk,hf,rfl,rfl,hn,HV,HA,HB⟩:=hrel;by_cases hlt:k<s.size
    ·have hltz:(k:Int)<(s.size:Int):=o_
     have hcu:u.take (k+1)=u.take k++[s[k]]:=by
      have hkl:k<u.length:=o_;rw [List.take_add_one,List.getElem?_eq_getElem hkl];simp [HU.out];rfl
     have HDG:=h_ (fun V=>Zae s[k] V);have HV1:=h_ (show ZaB (u.take (k+1))=n*10+(s[k].toNat-48) by rw [hcu,Zhm,HV.out]);have HA1:=h_ (show (u.take (k+1)).all isDigit=isDigit s[k] by rw [hcu,List.all_append,HA.out];simp);clear hcu;cases hd:isDigit s[k] with
     |false=>
      rw [hd] at HDG;have HN:=h_ (show -1=r by
       rw [<-HR.out,Zf0];unfold Qk
       have:u.all isDigit=false:=by
        rw [<-List.take_append_drop (k+1) u,List.all_append,HA1.out,hd];rfl
       rw [this];simp)
      clear HV1 HA1 HV HA hd;go_wp2_with fail;refine (HDG.out _).mono ?_;rintro e w2 ⟨rfl,rfl⟩;exact m163_
     |true=>
      rw [hd] at HDG HA1;obtain ⟨d1,d2⟩:=(QN s[k]).1 hd;have hbd:n*10+(s[k].toNat-48)<=9999:=by
       have h:=Zcn (u.take (k+1)) HA1.out 4 n46_;rw [HV1.out] at h;omega
      clear HV HA hd;go_wp2_with fail;refine (HDG.out _).mono ?_;rintro e w2 ⟨rfl,rfl⟩;go_wp2_with fail;go_roundg (s.size-k)
      case measure=>omega
      case rel=>exact ⟨k+1,n*10+(s[k].toNat-48),o_,o_,n14_,n14_,hbd,HV1,HA1,HB⟩
    ·have hltz:¬(k:Int)<(s.size:Int):=o_
     obtain rfl:k=s.size:=o_;rw [List.take_of_length_le o_] at HV HA;have hlb:Qk u 4 isDigit=true:=by
      unfold Qk;rw [HA.out,decide_eq_true o_];cases u with
      |nil=>simp at hlen;omega
      |cons a t=>rfl
     have HN:=h_ (show (n:Int)=r by
      rw [<-HR.out];unfold JC ZQ;rw [if_pos hlb,HV.out];rfl)
     clear hlb HV HA;exact m163_
def Qe:Str->Nat->Int
 |[],_=>-1
 |[_],_=>-1
 |a::b::t,i=>if a=46/\b=46 then (i:Int) else Qe (b::t) (i+1)
theorem ZbD:∀(l:Str) (i:Nat),Qe l i=if Go.Lib.index l [46,46] = -1 then -1 else Go.Lib.index l [46,46]+i
 |[],i=>rfl
 |[a],i=>by
  have hp:([46,46]:Str).isPrefixOf [a]=false:=by simp [List.isPrefixOf]
  simp [Qe,Go.Lib.index,hp]
 |a::b::t,i=>by
  have hg:=Go.Lib.index_ge (b::t) [46,46];have ih:=ZbD (b::t) (i+1);rw [Qe,Go.Lib.index];generalize Go.Lib.index (b::t) [46,46]=z at *;by_cases h:a=46/\b=46
  ·obtain ⟨rfl,rfl⟩:=h
   simp [List.isPrefixOf]
  ·have hp:([46,46]:Str).isPrefixOf (a::b::t)=false:=by
    rw [<-Bool.not_eq_true];intro e;simp [List.isPrefixOf] at e;exact h ⟨e.1.symm,e.2.symm⟩
   rw [if_neg h,hp,ih];by_cases h2:z = -1
   ·simp [h2]
   ·have h3:(z==-1)=false:=n80_
    simp only [h3,if_neg h2];rw [if_neg n2_];simp;omega
theorem Zbt:∀(l:Str) (i:Nat),Qe l i = -1\/∃n:Nat,Qe l i=n/\i<=n/\n+1<i+l.length
 |[],i=>.inl rfl
 |[a],i=>.inl rfl
 |a::b::t,i=>by
  rw [Qe];by_cases h:a=46/\b=46
  ·rw [if_pos h];exact .inr ⟨i,rfl,l_,s_⟩
  ·rw [if_neg h]
   rcases Zbt (b::t) (i+1) with h1|⟨n,h1,h2,h3⟩
   ·exact .inl h1
   ·exact .inr ⟨n,h1,o_,by simp at h3⊢;omega⟩
theorem Zp6(w:Str)(h:Qe w 0 = -1):Go.Lib.cut w [46,46]=(w,[],false):=by
 rw [ZbD] at h;have hg:=Go.Lib.index_ge w [46,46]
 have:Go.Lib.index w [46,46] = -1:=by
  by_cases h2:Go.Lib.index w [46,46] = -1
  ·exact h2
  ·rw [if_neg h2] at h;omega
 unfold Go.Lib.cut;rw [this];rfl
theorem Zon(w:Str)(i:Nat)(h:Qe w 0=i):Go.Lib.cut w [46,46]=(w.take i,w.drop (i+2),true):=by
 rw [ZbD] at h;have hg:=Go.Lib.index_ge w [46,46];have h2:Go.Lib.index w [46,46]=i:=by
  by_cases h2:Go.Lib.index w [46,46] = -1
  ·rw [if_pos h2] at h;omega
  ·rw [if_neg h2] at h;simpa using h
 unfold Go.Lib.cut;rw [h2,if_pos o_];simp
theorem Zqm(s:ByteArray)(k:Nat)(h:k+1<s.size):s.extract k (k+2)=⟨#[s[k],s[k+1]]⟩:=by
 apply Yb;rw [Lib.extract_data,drop_cons s k o_,drop_cons s (k+1) h,show k+2-k=2 by omega];rfl
theorem Zgz(s:ByteArray)(w:World)(h63:s.size<=1000000000)(r:Int)(hr:Qe s.data.toList 0=r) :
  Calls prog 240 #[.string s] w fun e w'=>e=.returned (.int .i64 r)/\Below w.heap.size w w':=by
 have HR:=h_ hr;clear hr;go_enter func240,ntmps240;go_wp2;go_loopg [3] (s.size+1) (fun f s3 wr=>∃k:Nat,k<=s.size/\s.size-k<f/\s3=.int .i64 k/\Hid (Qe (s.data.toList.drop k) k=r)/\Hid (Below w.heap.size w wr))
 case atStart=>exact ⟨0,o_,o_,rfl,HR,Below.refl _ _⟩
 case round=>
  obtain ⟨k,hk,hf,rfl,HA,HB⟩:=hrel;by_cases hlt:k+1<s.size
  ·have hltz:(k:Int)+1<(s.size:Int):=o_
   have hk2:(k:Int)+2<=(s.size:Int):=o_;have HX:=h_ (Zqm s k hlt);have hd:s.data.toList.drop k=s[k]::s[k+1]::s.data.toList.drop (k+2):=by rw [drop_cons s k o_,drop_cons s (k+1) hlt]
   have hA:=HA.out;rw [hd,Qe] at hA;have he:((s.extract k (k+2)).toList==[46,46])=decide (s[k]=46/\s[k+1]=46):=by
    rw [HX.out,ByteArray.toList_eq,Bool.eq_iff_iff];simp
   clear hd HA;by_cases h46:s[k]=46/\s[k+1]=46
   ·rw [if_pos h46] at hA
    rw [decide_eq_true h46] at he;have HN:=h_ hA;clear h46 hA;exact m163_
   ·rw [if_neg h46] at hA
    rw [decide_eq_false h46] at he;have HN:=h_ (show Qe (s.data.toList.drop (k+1)) (k+1)=r by rw [drop_cons s (k+1) hlt];exact hA);clear h46 hA;go_wp2_with fail;go_roundg (s.size-k)
    case measure=>omega
    case rel=>exact ⟨k+1,o_,o_,n14_,HN,HB⟩
  ·have hltz:¬(k:Int)+1<(s.size:Int):=o_
   have HN:=h_ (show -1=r by
    rw [<-HA.out];have h1:(s.data.toList.drop k).length<=1:=n2_;match hd:s.data.toList.drop k,h1 with
    |[],_=>rfl
    |[_],_=>rfl)
   clear HA;exact m163_
end Go.Proofs.YtgoooebfhdbbkaaGreatDoor
