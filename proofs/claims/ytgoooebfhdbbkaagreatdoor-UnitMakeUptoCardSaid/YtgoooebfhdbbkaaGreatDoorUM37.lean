import Derived.Test.YtgoooebfhdbbkaaGreatDoorUM9
import Derived.Test.YtgoooebfhdbbkaaGreatDoorUM11
import Derived.Test.YtgoooebfhdbbkaaGreatDoorUM24
import Derived.Test.YtgoooebfhdbbkaaGreatDoorUM25
import Derived.Test.YtgoooebfhdbbkaaGreatDoorUM28
import Derived.Test.YtgoooebfhdbbkaaGreatDoorUM30
import Derived.Test.YtgoooebfhdbbkaaGreatDoorUM31
import Derived.Test.YtgoooebfhdbbkaaGreatDoorUM32
import Derived.Test.YtgoooebfhdbbkaaGreatDoorUM36
namespace Go.Proofs.YtgoooebfhdbbkaaGreatDoor
open Go.Proofs.Tryz
open Go Go.RowKit
set_option linter.unusedVariables false
set_option linter.unusedSimpArgs false
set_option maxHeartbeats 16000000
set_option maxRecDepth 100000
theorem m99_{p:Prop}(h:p:=by
  go_wp2_with fail;go_roundg (gk-1)
  case measure=>omega
  case rel=>exact ⟨k+1,o_,n14_,o_,rfl,HN⟩):p:=h
theorem ZhK(oa:Option Addr)(cap:Nat)(l:List Str)(s:Str)(w:World)(hl:l.length<=4294967296)(h:Zj w oa l)(r:Int)(hr:Xl l s 0=r) :
  Calls prog 90 #[.slice oa l.length cap,.string ⟨s.toArray⟩] w fun e w'=>e=.returned (.int .i64 r)/\w'=w:=by
 have HS:=h_ h;have H0:=h_ (show Xl (l.drop 0) s 0=r from hr);clear h hr;go_enter func90,ntmps90;go_wp2_with fail;go_loopg [9] (l.length+1) (fun f i wr=>∃k:Nat,k<=l.length/\i=.int .i64 k/\l.length-k<f/\wr=w/\Hid (Xl (l.drop k) s k=r))
 case atStart=>exact ⟨0,o_,rfl,o_,rfl,H0⟩
 case round=>
  obtain ⟨k,hk,rfl,hfu,rfl,HP⟩:=hrel;clear H0;by_cases hlt:k<l.length
  ·have hz:(k:Int)<(l.length:Int):=o_
   obtain ⟨b2,o2,rfl,d0⟩:=HS.out k hlt;obtain ⟨x,hx⟩:=e_ (l[k]);have HD:=h_ (show l.drop k=x::l.drop (k+1) by rw [hx];exact List.drop_eq_getElem_cons hlt);rw [<-hx] at d0;clear hx;by_cases he:x=s
   ·subst he
    have HR:=h_ (show (k:Int)+1=r by rw [<-HP.out,HD.out,Xl,if_pos rfl]);go_wp2_with fail;go_ret;exact ⟨by rw [<-HR.out];go_num,rfl⟩
   ·have HN:=h_ (show Xl (l.drop (k+1)) s (k+1)=r by rw [<-HP.out,HD.out,Xl,if_neg he])
    have q:(x==s)=false:=by rw [beq_eq_false_iff_ne];exact he
    exact m99_
  ·have HR:=h_ (show (0:Int)=r by rw [<-HP.out,List.drop_eq_nil_of_le o_,Xl])
   have hz:¬((k:Int)<(l.length:Int)):=o_;go_wp2_with fail;go_ret;exact ⟨n4_,rfl⟩
theorem ZhF(U:Nat)(cs:Array Value)(F:Nat->Prop)(l:List Int)(v:Value)(x:Int)(w:World)(hl:l.length<=1000000000)(hb:w.heap[U]?=some (.cells cs 30 (0,0)))(hv:Yg w F (.ns l) v)(hFU:¬F U)(hF:∀k,F k->k<w.heap.size) :
  Calls prog 87 #[v,.int .i64 x] w fun e w'=>∃v',e=.returned v'/\w'.heap[U]?=some (.cells cs 30 (0,0))/\Fr (fun k=>k=U\/F k) w w'/\∃F',Yg w' F' (.ns (oneMore l x)) v'/\(∀k,F' k->(F k\/w.heap.size<=k)/\k<w'.heap.size)/\¬F' U:=by
 obtain ⟨i0,hi0,hz0,hz1,hz2⟩:=info_parts ZaF;obtain ⟨hown,hin⟩:=hv;obtain ⟨oa,cap,rfl⟩:=ownsRow_form hown;have HIN:=h_ hin;have hrow:=Qy.of_own hown;obtain ⟨oa3,cap3,w4,hrun,hb4,hf4,hown4,hF4,hU4,-⟩:=Qn (P:=prog) 26 26 3 i0 (.int .i64 0) 1 8 underlying26 hi0 hz0 hz1 hz2 n19_ d_ hb hown hin hFU o_ d_ [.int .i64 x] rfl n47_;have HRUN:=h_ hrun;have HB:=h_ hb;have HB4:=h_ hb4;have HF4:=h_ hf4;have HO:=h_ hown;have HO4:=h_ hown4;have HG4:=h_ hF4;have HU4:=h_ hU4;have HFU:=h_ hFU;have HF:=h_ hF;have HS:=h_ hrow;have H0:=h_ (show x∉l.take 0 by simp);clear hown hin hrow hb hFU hF hrun hb4 hf4 hown4 hF4 hU4;go_enter func87,ntmps87;go_wp2_with fail;go_loopg [9] (l.length+1) (fun f i wr=>∃k:Nat,k<=l.length/\i=.int .i64 k/\l.length-k<f/\wr=w/\Hid (x∉l.take k))
 case atStart=>exact ⟨0,o_,rfl,o_,rfl,H0⟩
 case round=>
  obtain ⟨k,hk,rfl,hfu,rfl,HP⟩:=hrel;clear H0;by_cases hlt:k<l.length
  ·have hz:(k:Int)<(l.length:Int):=o_
   obtain ⟨b2,o2,rfl,d0⟩:=HS.out k hlt;obtain ⟨y,hy⟩:=e_ (l[k]);have HY:=h_ hy;rw [<-hy] at d0;clear hy;by_cases he:y=x
   ·subst he
    have HM:=h_ (ZaD (show y∈l by rw [HY.out];exact List.getElem_mem hlt));clear HRUN;go_wp2_with fail;go_ret;exact ⟨_,rfl,HB.out,Fr.refl _ _,F,by rw [HM.out];exact ⟨HO.out,HIN.out⟩,fun k hk=>⟨.inl hk,HF.out k hk⟩,HFU.out⟩
   ·have HN:=h_ (show x∉l.take (k+1) by
     rw [List.take_succ_eq_append_getElem hlt,List.mem_append,<-HY.out];rintro (h|h)
     ·exact HP.out h
     ·simp at h;exact he h.symm)
    have q:(y==x)=false:=by rw [beq_eq_false_iff_ne];exact he
    exact m99_
  ·have hkl:k=l.length:=o_
   have HM:=h_ (Zby (show x∉l by have:=HP.out;rwa [hkl,List.take_of_length_le l_] at this));have hz:¬((k:Int)<(l.length:Int)):=o_;clear hkl;go_wp2_with (at_builtin;refine wpList_append_run rfl _ _ 26 rfl HRUN.out rfl rfl ?_);go_wp2_with fail;go_ret;exact ⟨_,rfl,HB4.out,HF4.out,fun g=>(Value.slice oa3 (l.length+1) cap3).ownBlock=some g,by rw [HM.out];exact ⟨by rw [List.length_append];unfold Xh;rw [List.map_append];exact HO4.out,fun g hg=>hg⟩,HG4.out,fun h=>HU4.out h⟩
theorem m147_{p:Prop}(h:p:=by
  have HX:=h_ (ZqV X j);rw [HX.out];refine (ZhS (X.data.toList.drop j) _).mono ?_;rintro e w3 ⟨rfl,rfl⟩;obtain ⟨un,hun⟩:=e_ (ZbL (X.data.toList.drop j));rw [<-hun];have hu0:=ZdH (X.data.toList.drop j);rw [<-hun] at hu0;by_cases hk1:j<1
  ·have hke:((j:Int)==0)=true:=n2_
   have HVF:=h_ (show 0=v/\false=b from by
    have h1:=HS1.out;rw [ZdK _ _ _ (by rw [ZhU _ n124_])] at h1
    have:=HV.out;rw [<-h1] at this;simpa using this)
   obtain rfl:j=0:=o_;clear hun hke;go_wp2_with fail;exact m148_
  ·have hke:((j:Int)==0)=false:=n2_
   by_cases hmz:un=0
   ·have HVF:=h_ (show 0=v/\false=b from by
     have h1:=HS1.out;rw [ZdK _ _ _ (by rw [Zkc _ n105_])] at h1
     have:=HV.out;rw [<-h1] at this;simpa using this)
    subst hmz;clear hun;go_wp2_with fail;exact m148_
   ·have hue:(un==0)=false:=n84_
    have hwo:JN X.data.toList=((m:Int)*un,true):=by
     rw [Zou _ n124_ (by rw [<-HN.out];omega) n105_,<-HN.out,HDC.out,<-hun]
    have HWO:=h_ hwo;have hup:0<un:=o_;clear hun hwo;by_cases hq:¬(m:Int)<=6311433600 / un
    ·have hqA:6311433600 / un<(m:Int):=o_
     have hov:=ZkJ m un hup o_ hq;have HVF:=h_ (show 0=v/\false=b from by
      have h1:=HS1.out;rw [Zdu _ _ _ _ HWO.out o_] at h1
      have:=HV.out;rw [<-h1] at this;simpa using this)
     clear hov;go_wp2_with fail;exact m148_
    ·have hqB:(m:Int)<=6311433600 / un:=o_
     have hun2:=ZhG m un hup o_ hqB;have hm0:0<=(m:Int)*un:=Int.mul_nonneg o_ o_;have hwm:wrap64 ((m:Int)*un)=(m:Int)*un:=n49_;have hws:wrap64 (6311433600-n)=6311433600-n:=n49_;by_cases hbig:¬(m:Int)*un<=6311433600-n
     ·have hbA:6311433600-n<(m:Int)*un:=o_
      have HVF:=h_ (show 0=v/\false=b from by
       have h1:=HS1.out;rw [Zdu _ _ _ _ HWO.out o_] at h1
       have:=HV.out;rw [<-h1] at this;simpa using this)
      go_wp2_with fail;exact m148_
     ·have hbB:(m:Int)*un<=6311433600-n:=o_
      have HS2:=h_ (show XG (l.drop (k+1)) (n+(m:Int)*un)=XG l 0 from by
       rw [<-Zmw _ _ _ _ HWO.out o_];exact HS1.out)
      have hwa:wrap64 (n+(m:Int)*un)=n+(m:Int)*un:=n49_;go_wp2_with fail;go_roundg (l.length-k)
      case measure=>omega
      case rel=>exact ⟨k+1,n+(m:Int)*un,o_,n14_,by first|rfl|go_num,o_,o_,o_,HB,HS2⟩):p:=h
theorem m148_{p:Prop}(h:p:=by obtain ⟨rfl,rfl⟩:=HVF.out;go_ret2;exact ⟨rfl,HB1.out.trans (HB.out.mono HB1.out.size)⟩):p:=h
theorem Zcj(s:ByteArray)(w:World)(hs:s.size<=1000000000)(v:Int)(b:Bool)(hv:YT s.data.toList=(v,b)) :
  Calls prog 86 #[.string s] w fun e w'=>e=.returned (.tuple #[.int .i64 v,.bool b])/\Below w.heap.size w w':=by
 obtain ⟨u,hu⟩:=e_ s.data.toList;obtain rfl:s=⟨u.toArray⟩:=by rw [hu]
 have hul:u.length<=1000000000:=by simpa [ByteArray.size] using hs
 clear hu hs;have hv':YT u=(v,b):=hv;clear hv;cases hi:(u==[105,110,102,105,110,105,116,121]) with
 |true=>
  obtain rfl:u=[105,110,102,105,110,105,116,121]:=eq_of_beq hi;obtain ⟨rfl,rfl⟩:1099511627776=v/\true=b:=by
   unfold YT at hv';rw [if_pos rfl] at hv';simpa using hv'
  clear hv' hul hi;go_enter func86,ntmps86;go_wp2_with fail;go_ret2;exact ⟨rfl,Below.refl _ _⟩
 |false=>
  have hne:u≠[105,110,102,105,110,105,116,121]:=by rw [beq_eq_false_iff_ne] at hi;exact hi
  unfold YT at hv';rw [if_neg hne] at hv';have HV:=h_ hv';have HW:=h_ (ZN ⟨u.toArray⟩ ⟨#[32]⟩ w (by show u.toArray.size<=_;simp;omega) d_ (Zc u) (Yd [32] rfl u []));have HM:=h_ (QB u.length u [] s_);have HLN:=h_ (Z4 u []);clear hv' hne;go_enter func86,ntmps86;go_wp2_with fail;refine HW.out.mono ?_;rintro e w1 ⟨hb1,vv,rfl,hown⟩;obtain ⟨A,cap,rfl⟩:=ownsRow_form hown;have HST:=h_ (Zj.of_own hown);have HB1:=h_ hb1;obtain ⟨l,hl⟩:=e_ (Zc u);have HL:=h_ (show ∀x∈l,x.length<=1000000000 from by rw [hl];intro x hx;have:=HM.out x hx;omega);have HLL:=h_ (show l.length<=1000000001 from by rw [hl];have:=HLN.out;unfold Zc;omega);simp only at *;rw [<-hl] at HST HV⊢;clear hown hb1 hl HW HM HLN;go_wp2_with fail;go_loopg [5,17] (l.length+1) (fun f t i wr=>∃(k:Nat) (n:Int),k<=l.length/\i=.int .i64 k/\t=.int .i64 n/\l.length-k<f/\0<=n/\n<=6311433600/\Hid (Below w1.heap.size w1 wr)/\Hid (XG (l.drop k) n=XG l 0))
  case atStart=>exact ⟨0,0,o_,rfl,rfl,o_,o_,o_,Below.refl _ _,rfl⟩
  case round=>
   obtain ⟨k,n,hk,rfl,rfl,hfu,hn0,hn1,HB,HS⟩:=hrel;have hll:=HLL.out;by_cases hlt:k<l.length
   ·have hz:(k:Int)<(l.length:Int):=o_
    obtain ⟨b4,o4,rfl,d0⟩:=(HST.out.below HB.out) k hlt;obtain ⟨x,hx⟩:=e_ (l[k]);rw [<-hx] at d0;obtain ⟨X,hX⟩:∃X:ByteArray,X=⟨x.toArray⟩:=⟨_,rfl⟩;have hXx:X.data.toList=x:=by rw [hX]
    have hXs:X.size=x.length:=by rw [hX];simp [ByteArray.size]
    rw [<-hX] at d0;have hd:l.drop k=X.data.toList::l.drop (k+1):=by rw [hXx,hx];exact List.drop_eq_getElem_cons hlt
    have hxl:X.size<=1000000000:=by rw [hXs,hx];exact HL.out _ (List.getElem_mem hlt)
    have HS1:=h_ (show XG (X.data.toList::l.drop (k+1)) n=XG l 0 from by rw [<-hd];exact HS.out);obtain ⟨N,hN⟩:=e_ ((X.data.toList.takeWhile isDigit).length);have hNs:N<=X.size:=by rw [hN];exact Nat.le_trans (ZaR _) s_
    have HDG:=h_ (fun j (h:j<X.size) (hj:j<=N)=>show isDigit X[j]=decide (j<N) from by have:=ZbA isDigit X.data.toList j n60_ (by rw [<-hN];exact hj);rw [<-hN] at this;exact this);have HN:=h_ hN;obtain ⟨g1,rfl⟩:∃g,g=gk:=⟨gk,rfl⟩;obtain ⟨w2,rfl⟩:∃w2,w2=wr:=⟨wr,rfl⟩;clear hX hXx hXs hx hd HS hN;go_wp2_with fail;go_loopg [8,9] (X.size+1) (fun f a c wx=>∃j m:Nat,j<=N/\j<=10/\a=.int .i64 j/\c=.int .i64 m/\X.size-j<f/\m<=9999999999/\Hid (ZaB (X.data.toList.take j)=m)/\wx=w2)
    case atStart=>exact ⟨0,0,o_,o_,rfl,rfl,o_,o_,rfl,rfl⟩
    case round=>
     obtain ⟨j,m,hj,hj10,rfl,rfl,hf2,hm,HDC,rfl⟩:=hrel;by_cases hjl:j<X.size
     ·have hz2:(j:Int)<(X.size:Int):=o_
      have hdig:=HDG.out j hjl hj;have HD:=h_ (fun W=>Zae X[j] W);rw [hdig] at HD;by_cases hjN:j<N
      ·rw [decide_eq_true hjN] at HD hdig
       have HAL:=h_ (show (X.data.toList.take (j+1)).all isDigit=true from by
        have h1:=QC isDigit X.data.toList;rw [<-HN.out] at h1;have h2:X.data.toList.take (j+1)=(X.data.toList.take N).take (j+1):=by rw [List.take_take,Nat.min_eq_left o_]
        rw [h2];rw [List.all_eq_true] at h1⊢;exact fun c hc=>h1 c (List.mem_of_mem_take hc))
       by_cases h10:j<10
       ·have hz10:¬(10:Int)<=(j:Int):=o_
        have hz11:¬(j:Int)>=10:=o_;have hd1:ZaB (X.data.toList.take (j+1))=m*10+(X[j].toNat-48):=by
         have:=Zpu X.data.toList j (by simpa using hjl)
         rw [HDC.out] at this;rw [this];simp;rfl
        have HD1:=h_ hd1;have hbd:m*10+(X[j].toNat-48)<=9999999999:=by
         have h:=Zcn _ HAL.out 10 n46_;rw [hd1] at h;omega
        obtain ⟨e1,e2⟩:=(QN X[j]).1 hdig;clear hd1 hdig HAL HDC;go_wp2_with (go_at_call 79;refine (HD.out _).mono ?_;rintro e w' ⟨rfl,rfl⟩);go_roundg (X.size-j)
        case measure=>omega
        case rel=>exact ⟨j+1,m*10+(X[j].toNat-48),o_,o_,n14_,n14_,o_,hbd,HD1,rfl⟩
       ·have hz10:(10:Int)<=(j:Int):=o_
        have hz11:(j:Int)>=10:=o_;have HVF:=h_ (show 0=v/\false=b from by
         have h1:=HS1.out;rw [ZdK _ _ _ (by rw [Zpy _ (by rw [<-HN.out];omega)])] at h1
         have:=HV.out;rw [<-h1] at this;simpa using this)
        clear hdig HAL HDC;go_wp2_with (go_at_call 79;refine (HD.out _).mono ?_;rintro e w' ⟨rfl,rfl⟩);exact m148_
      ·rw [decide_eq_false hjN] at HD
       obtain rfl:j=N:=o_;clear hdig hjN;go_wp2_with (go_at_call 79;refine (HD.out _).mono ?_;rintro e w' ⟨rfl,rfl⟩);exact m147_
     ·have hz2:¬(j:Int)<(X.size:Int):=o_
      obtain rfl:j=N:=o_;go_wp2_with fail;exact m147_
   ·have hz:¬((k:Int)<(l.length:Int)):=o_
    have HS2:=h_ (show XG l 0=some n from by have:=HS.out;rw [List.drop_eq_nil_of_le o_] at this;exact this.symm);have HVF:=h_ (show n=v/\(decide (0<l.length))=b from by have:=HV.out;rw [HS2.out] at this;simpa using this);clear HS;by_cases hl0:0<l.length
    ·have hl1:(l.length:Int)>0:=o_
     have hl2:(0:Int)<(l.length:Int):=o_;go_wp2_with fail;obtain ⟨rfl,rfl⟩:=HVF.out;go_ret2;exact ⟨by rw [decide_eq_true hl0];rfl,HB1.out.trans (HB.out.mono HB1.out.size)⟩
    ·have hl1:¬((l.length:Int)>0):=o_
     have hl2:¬((0:Int)<(l.length:Int)):=o_;go_wp2_with fail;obtain ⟨rfl,rfl⟩:=HVF.out;go_ret2;exact ⟨by rw [decide_eq_false hl0];rfl,HB1.out.trans (HB.out.mono HB1.out.size)⟩
theorem m154_{p:Prop}(h:p:=by clear g1 f4 hx4;exact m156_):p:=h
theorem m155_{p:Prop}(h:p:=by clear g1 f4 hx4 hbu hb3;exact m156_):p:=h
theorem m156_{p:Prop}(h:p:=by go_wp2_with fail;go_end0;exact ⟨rfl,n32_⟩):p:=h
theorem m157_{p:Prop}(h:p:=by have HP:=h_ (Zh.plain (j:=24) (F:=F) (c:=.s val) HBU.out HBB.out rfl);exact m154_):p:=h
def Zgg:List (Str×Nat):=[([68,101,115,99,114,105,112,116,105,111,110],2),([68,101,102,97,117,108,116,68,101,112,101,110,100,101,110,99,105,101,115],3),([83,116,97,114,116,76,105,109,105,116,73,110,116,101,114,118,97,108,83,101,99],5),([83,116,97,114,116,76,105,109,105,116,66,117,114,115,116],6),([84,121,112,101],7),([82,101,109,97,105,110,65,102,116,101,114,69,120,105,116],13),([82,101,115,116,97,114,116],14),([82,101,115,116,97,114,116,83,101,99],15),([84,105,109,101,111,117,116,83,116,97,114,116,83,101,99],16),([84,105,109,101,111,117,116,83,116,111,112,83,101,99],17),([66,97,99,107,108,111,103],22),([70,105,108,101,68,101,115,99,114,105,112,116,111,114,78,97,109,101],23),([83,101,114,118,105,99,101],24),([85,110,105,116],24),([80,101,114,115,105,115,116,101,110,116],29),([68,101,102,97,117,108,116,73,110,115,116,97,110,99,101],34)]
theorem Zh.plain{w w1:World}{U:Nat}{cs:Array Value}{j:Nat}{F:Nat->Prop}{c:UC}{v:Value}(hb:w1.heap[U]?=some (.cells cs 30 (0,0)))(hB:Below w.heap.size w w1)(hc:Yg w1 (fun _=>False) c v):Zh w (w1.setCell ⟨U,j,none⟩ v) U cs j F c:=
 Zh.of_store (F':=fun _=>False) hb rfl (Fr.of_below hB _) hc (fun k hk=>hk.elim) (fun e=>e)
theorem Zkp(U j:Nat)(cs:Array Value)(F:Nat->Prop)(w:World)(hb:w.heap[U]?=some (.cells cs 30 (0,0)))(hsz:cs.size=35)(sec key val:Str)(at_:Int)(hkey:(key,j)∈Zgg)(hval:val.length<=100000000)(c:UC) :
  Calls prog 41 #[.pointer (some ⟨U,0,none⟩),.agg #[.string ⟨sec.toArray⟩,.string ⟨key.toArray⟩,.string ⟨val.toArray⟩,.int .i64 at_]] w fun e w'=>e=.returned (.tuple #[])/\Zh w w' U cs j F (singleR key val c):=by
 have hUl:=Zg hb;have hB0:Below w.heap.size w (w.alloc (.cells #[.string ⟨sec.toArray⟩,.string ⟨key.toArray⟩,.string ⟨val.toArray⟩,.int .i64 at_] 41)):=b_.alloc l_ _;have hx0:=heap_alloc_new w (.cells #[.string ⟨sec.toArray⟩,.string ⟨key.toArray⟩,.string ⟨val.toArray⟩,.int .i64 at_] 41);obtain ⟨n,ok,hno⟩:∃n ok,YT val=(n,ok):=⟨_,_,rfl⟩;have HSP:=h_ (fun W=>Zcj ⟨val.toArray⟩ W n26_ n ok hno);have HNU:=h_ (fun W=>QV ⟨val.toArray⟩ W (Xc val) rfl);have HN:=h_ (show (YT val).1=n by rw [hno]);obtain ⟨c0,c1,c2,-⟩:=Ym hx0;have HB0:=h_ hB0;have HX0:=h_ hx0;have HB:=h_ hb;have HSZ:=h_ hsz;obtain ⟨tb,htb⟩:∃tb,Zch val=tb:=⟨_,rfl⟩;have HTB:=h_ htb;have htb2:(val==[121,101,115]||(val==[116,114,117,101]||val==[49]))=tb:=htb;have HTB2:=h_ htb2;have hg:∀j,j<35->∃x,cs[j]?=some x:=fun j hj=>⟨_,Array.getElem?_eq_getElem o_⟩
 have HG:=h_ hg;clear hB0 hx0 hb hsz hno htb htb2 hg c0;go_enter func41,ntmps41;go_upto_region 1 with fail
 obtain ⟨X,hX⟩:=e_ w.heap.size;have HX:=h_ hX;rw [<-hX] at HX0 c1 c2⊢;clear hX;generalize w.alloc (.cells #[.string ⟨sec.toArray⟩,.string ⟨key.toArray⟩,.string ⟨val.toArray⟩,.int .i64 at_] 41)=w1 at *;go_cut [4] from 7 to 19 (fun s4 w'=>s4=.bool tb/\w'=w1)
 case first=>
  have htb2:=HTB2.out;cases h1:val==[121,101,115]<;>cases h2:val==[116,114,117,101]<;>cases h3:val==[49]
  all_goals
   simp only [h1,h2,h3,Bool.or_true,Bool.or_false,Bool.true_or] at htb2;subst htb2;go_wp2_with fail;go_meet
   case rel=>exact ⟨rfl,rfl⟩
 case rest=>
  obtain ⟨rfl,rfl⟩:=hcut;go_wp2_with fail;refine (HSP.out _).mono ?_;rintro e w2 ⟨rfl,hb2⟩;have hx2:=Za HX0.out hb2;have hbu:=Za (Za HB.out HB0.out) hb2;have HBB:=h_ (HB0.out.trans (hb2.mono HB0.out.size));obtain ⟨c0,c1,c2,-⟩:=Ym hx2;have HX2:=h_ hx2;have HBU:=h_ hbu;clear c0 hx2 hbu hb2 HX0;simp only [Zgg,List.mem_cons,List.not_mem_nil,or_false,Prod.mk.injEq] at hkey;rcases hkey with ⟨rfl,rfl⟩|⟨rfl,rfl⟩|⟨rfl,rfl⟩|⟨rfl,rfl⟩|⟨rfl,rfl⟩|⟨rfl,rfl⟩|⟨rfl,rfl⟩|⟨rfl,rfl⟩|⟨rfl,rfl⟩|⟨rfl,rfl⟩|⟨rfl,rfl⟩|⟨rfl,rfl⟩|⟨rfl,rfl⟩|⟨rfl,rfl⟩|⟨rfl,rfl⟩|⟨rfl,rfl⟩
  ·obtain ⟨g1,f4,s4,_⟩:=rd HBU.out
   have f40:=f4 2;obtain ⟨x4,hx4⟩:=HG.out 2 d_;have q4:=(g1 2).trans hx4;have HS:=h_ (show singleR [68,101,115,99,114,105,112,116,105,111,110] val c=.s val by rfl);have HP:=h_ (Zh.plain (j:=2) (F:=F) (c:=.s val) HBU.out HBB.out rfl);exact m154_
  ·obtain ⟨g1,f4,s4,_⟩:=rd HBU.out
   have f40:=f4 3;obtain ⟨x4,hx4⟩:=HG.out 3 d_;have q4:=(g1 3).trans hx4;have HS:=h_ (show singleR [68,101,102,97,117,108,116,68,101,112,101,110,100,101,110,99,105,101,115] val c=.b tb by rw [<-HTB.out];rfl);have HP:=h_ (Zh.plain (j:=3) (F:=F) (c:=.b tb) HBU.out HBB.out rfl);exact m154_
  ·obtain ⟨g1,f4,s4,_⟩:=rd HBU.out
   have f40:=f4 5;obtain ⟨x4,hx4⟩:=HG.out 5 d_;have q4:=(g1 5).trans hx4;have HS:=h_ (show singleR [83,116,97,114,116,76,105,109,105,116,73,110,116,101,114,118,97,108,83,101,99] val c=.n n by rw [<-HN.out];rfl);have HP:=h_ (Zh.plain (j:=5) (F:=F) (c:=.n n) HBU.out HBB.out rfl);exact m154_
  ·obtain ⟨g1,f4,s4,_⟩:=rd HBU.out
   have f40:=f4 6;obtain ⟨x4,hx4⟩:=HG.out 6 d_;have q4:=(g1 6).trans hx4;clear g1 f4 hx4 f40 s4 q4;go_wp2_with fail;refine (HNU.out _).mono ?_;rintro e w3 ⟨rfl,hb3⟩;have hbu:=Za HBU.out hb3;obtain ⟨g1,f4,s4,_⟩:=rd hbu;have f40:=f4 6;obtain ⟨x4,hx4⟩:=HG.out 6 d_;have q4:=(g1 6).trans hx4;have HS:=h_ (show singleR [83,116,97,114,116,76,105,109,105,116,66,117,114,115,116] val c=.n (Xc val) from rfl);have HP:=h_ (Zh.plain (j:=6) (F:=F) (c:=.n (Xc val)) hbu (HBB.out.trans (hb3.mono HBB.out.size)) rfl);exact m155_
  ·obtain ⟨g1,f4,s4,_⟩:=rd HBU.out
   have f40:=f4 7;obtain ⟨x4,hx4⟩:=HG.out 7 d_;have q4:=(g1 7).trans hx4;clear g1 f4 hx4 f40 s4 q4;have hb3:Below w2.heap.size w2 (w2.alloc (.cells #[.string ⟨#[115,105,109,112,108,101]⟩,.string ⟨#[111,110,101,115,104,111,116]⟩,.string ⟨#[110,111,116,105,102,121]⟩] 9)):=b_.alloc l_ _;have hr3:=heap_alloc_new w2 (.cells #[.string ⟨#[115,105,109,112,108,101]⟩,.string ⟨#[111,110,101,115,104,111,116]⟩,.string ⟨#[110,111,116,105,102,121]⟩] 9);have HPL:=h_ (ZhK (some ⟨w2.heap.size,0,none⟩) 3 Zdp val (w2.alloc (.cells #[.string ⟨#[115,105,109,112,108,101]⟩,.string ⟨#[111,110,101,115,104,111,116]⟩,.string ⟨#[110,111,116,105,102,121]⟩] 9)) d_ (fun i hi=>⟨_,0,rfl,by
    rw [(rd hr3).1,Nat.zero_add]
    have:i<3:=hi
    match i,this with
    |0,_=>rfl
    |1,_=>rfl
    |2,_=>rfl⟩) _ rfl)
   have hbu:=Za HBU.out hb3;obtain ⟨g1,f4,s4,_⟩:=rd hbu;have f40:=f4 7;obtain ⟨x4,hx4⟩:=HG.out 7 d_;have q4:=(g1 7).trans hx4;obtain ⟨d0,d1,d2,-⟩:=Ym (Za HX2.out hb3);have HS:=h_ (show singleR [84,121,112,101] val c=.n (Xl Zdp val 0) from rfl);have HP:=h_ (Zh.plain (j:=7) (F:=F) (c:=.n (Xl Zdp val 0)) hbu (HBB.out.trans (hb3.mono HBB.out.size)) rfl);clear g1 f4 hx4 hbu hb3 hr3 d0;go_wp2_with fail;refine HPL.out.mono ?_;rintro e w4 ⟨rfl,rfl⟩;clear HPL;generalize w2.alloc (.cells #[.string ⟨#[115,105,109,112,108,101]⟩,.string ⟨#[111,110,101,115,104,111,116]⟩,.string ⟨#[110,111,116,105,102,121]⟩] 9)=w5 at *;exact m156_
  ·obtain ⟨g1,f4,s4,_⟩:=rd HBU.out
   have f40:=f4 13;obtain ⟨x4,hx4⟩:=HG.out 13 d_;have q4:=(g1 13).trans hx4;have HS:=h_ (show singleR [82,101,109,97,105,110,65,102,116,101,114,69,120,105,116] val c=.b tb by rw [<-HTB.out];rfl);have HP:=h_ (Zh.plain (j:=13) (F:=F) (c:=.b tb) HBU.out HBB.out rfl);exact m154_
  ·obtain ⟨g1,f4,s4,_⟩:=rd HBU.out
   have f40:=f4 14;obtain ⟨x4,hx4⟩:=HG.out 14 d_;have q4:=(g1 14).trans hx4;clear g1 f4 hx4 f40 s4 q4;have hb3:Below w2.heap.size w2 (w2.alloc (.cells #[.string ⟨#[110,111]⟩,.string ⟨#[111,110,45,115,117,99,99,101,115,115]⟩,.string ⟨#[111,110,45,102,97,105,108,117,114,101]⟩,.string ⟨#[111,110,45,97,98,110,111,114,109,97,108]⟩,.string ⟨#[97,108,119,97,121,115]⟩] 9)):=b_.alloc l_ _;have hr3:=heap_alloc_new w2 (.cells #[.string ⟨#[110,111]⟩,.string ⟨#[111,110,45,115,117,99,99,101,115,115]⟩,.string ⟨#[111,110,45,102,97,105,108,117,114,101]⟩,.string ⟨#[111,110,45,97,98,110,111,114,109,97,108]⟩,.string ⟨#[97,108,119,97,121,115]⟩] 9);have HPL:=h_ (ZhK (some ⟨w2.heap.size,0,none⟩) 5 Zci val (w2.alloc (.cells #[.string ⟨#[110,111]⟩,.string ⟨#[111,110,45,115,117,99,99,101,115,115]⟩,.string ⟨#[111,110,45,102,97,105,108,117,114,101]⟩,.string ⟨#[111,110,45,97,98,110,111,114,109,97,108]⟩,.string ⟨#[97,108,119,97,121,115]⟩] 9)) d_ (fun i hi=>⟨_,0,rfl,by
    rw [(rd hr3).1,Nat.zero_add]
    have:i<5:=hi
    match i,this with
    |0,_=>rfl
    |1,_=>rfl
    |2,_=>rfl
    |3,_=>rfl
    |4,_=>rfl⟩) _ rfl)
   have hbu:=Za HBU.out hb3;obtain ⟨g1,f4,s4,_⟩:=rd hbu;have f40:=f4 14;obtain ⟨x4,hx4⟩:=HG.out 14 d_;have q4:=(g1 14).trans hx4;obtain ⟨d0,d1,d2,-⟩:=Ym (Za HX2.out hb3);have HS:=h_ (show singleR [82,101,115,116,97,114,116] val c=.n (Xl Zci val 0) from rfl);have HP:=h_ (Zh.plain (j:=14) (F:=F) (c:=.n (Xl Zci val 0)) hbu (HBB.out.trans (hb3.mono HBB.out.size)) rfl);clear g1 f4 hx4 hbu hb3 hr3 d0;go_wp2_with fail;refine HPL.out.mono ?_;rintro e w4 ⟨rfl,rfl⟩;clear HPL;generalize w2.alloc (.cells #[.string ⟨#[110,111]⟩,.string ⟨#[111,110,45,115,117,99,99,101,115,115]⟩,.string ⟨#[111,110,45,102,97,105,108,117,114,101]⟩,.string ⟨#[111,110,45,97,98,110,111,114,109,97,108]⟩,.string ⟨#[97,108,119,97,121,115]⟩] 9)=w5 at *;exact m156_
  ·obtain ⟨g1,f4,s4,_⟩:=rd HBU.out
   have f40:=f4 15;obtain ⟨x4,hx4⟩:=HG.out 15 d_;have q4:=(g1 15).trans hx4;have HS:=h_ (show singleR [82,101,115,116,97,114,116,83,101,99] val c=.n n by rw [<-HN.out];rfl);have HP:=h_ (Zh.plain (j:=15) (F:=F) (c:=.n n) HBU.out HBB.out rfl);exact m154_
  ·obtain ⟨g1,f4,s4,_⟩:=rd HBU.out
   have f40:=f4 16;obtain ⟨x4,hx4⟩:=HG.out 16 d_;have q4:=(g1 16).trans hx4;have HS:=h_ (show singleR [84,105,109,101,111,117,116,83,116,97,114,116,83,101,99] val c=.n n by rw [<-HN.out];rfl);have HP:=h_ (Zh.plain (j:=16) (F:=F) (c:=.n n) HBU.out HBB.out rfl);exact m154_
  ·obtain ⟨g1,f4,s4,_⟩:=rd HBU.out
   have f40:=f4 17;obtain ⟨x4,hx4⟩:=HG.out 17 d_;have q4:=(g1 17).trans hx4;have HS:=h_ (show singleR [84,105,109,101,111,117,116,83,116,111,112,83,101,99] val c=.n n by rw [<-HN.out];rfl);have HP:=h_ (Zh.plain (j:=17) (F:=F) (c:=.n n) HBU.out HBB.out rfl);exact m154_
  ·obtain ⟨g1,f4,s4,_⟩:=rd HBU.out
   have f40:=f4 22;obtain ⟨x4,hx4⟩:=HG.out 22 d_;have q4:=(g1 22).trans hx4;clear g1 f4 hx4 f40 s4 q4;go_wp2_with fail;refine (HNU.out _).mono ?_;rintro e w3 ⟨rfl,hb3⟩;have hbu:=Za HBU.out hb3;obtain ⟨g1,f4,s4,_⟩:=rd hbu;have f40:=f4 22;obtain ⟨x4,hx4⟩:=HG.out 22 d_;have q4:=(g1 22).trans hx4;have HS:=h_ (show singleR [66,97,99,107,108,111,103] val c=.n (Xc val) from rfl);have HP:=h_ (Zh.plain (j:=22) (F:=F) (c:=.n (Xc val)) hbu (HBB.out.trans (hb3.mono HBB.out.size)) rfl);exact m155_
  ·obtain ⟨g1,f4,s4,_⟩:=rd HBU.out
   have f40:=f4 23;obtain ⟨x4,hx4⟩:=HG.out 23 d_;have q4:=(g1 23).trans hx4;have HS:=h_ (show singleR [70,105,108,101,68,101,115,99,114,105,112,116,111,114,78,97,109,101] val c=.s val by rfl);have HP:=h_ (Zh.plain (j:=23) (F:=F) (c:=.s val) HBU.out HBB.out rfl);exact m154_
  ·obtain ⟨g1,f4,s4,_⟩:=rd HBU.out
   have f40:=f4 24;obtain ⟨x4,hx4⟩:=HG.out 24 d_;have q4:=(g1 24).trans hx4;have HS:=h_ (show singleR [83,101,114,118,105,99,101] val c=.s val by rfl);exact m157_
  ·obtain ⟨g1,f4,s4,_⟩:=rd HBU.out
   have f40:=f4 24;obtain ⟨x4,hx4⟩:=HG.out 24 d_;have q4:=(g1 24).trans hx4;have HS:=h_ (show singleR [85,110,105,116] val c=.s val by rfl);exact m157_
  ·obtain ⟨g1,f4,s4,_⟩:=rd HBU.out
   have f40:=f4 29;obtain ⟨x4,hx4⟩:=HG.out 29 d_;have q4:=(g1 29).trans hx4;have HS:=h_ (show singleR [80,101,114,115,105,115,116,101,110,116] val c=.b tb by rw [<-HTB.out];rfl);have HP:=h_ (Zh.plain (j:=29) (F:=F) (c:=.b tb) HBU.out HBB.out rfl);exact m154_
  ·obtain ⟨g1,f4,s4,_⟩:=rd HBU.out
   have f40:=f4 34;obtain ⟨x4,hx4⟩:=HG.out 34 d_;have q4:=(g1 34).trans hx4;have HS:=h_ (show singleR [68,101,102,97,117,108,116,73,110,115,116,97,110,99,101] val c=.s val by rfl);have HP:=h_ (Zh.plain (j:=34) (F:=F) (c:=.s val) HBU.out HBB.out rfl);exact m154_
end Go.Proofs.YtgoooebfhdbbkaaGreatDoor
