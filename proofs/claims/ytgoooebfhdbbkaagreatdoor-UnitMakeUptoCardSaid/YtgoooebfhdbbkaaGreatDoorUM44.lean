import Derived.Test.YtgoooebfhdbbkaaGreatDoorUM16
import Derived.Test.YtgoooebfhdbbkaaGreatDoorUM18
import Derived.Test.YtgoooebfhdbbkaaGreatDoorUM19
import Derived.Test.YtgoooebfhdbbkaaGreatDoorUM40
import Derived.Test.YtgoooebfhdbbkaaGreatDoorUM43
namespace Go.Proofs.YtgoooebfhdbbkaaGreatDoor
open Go.Proofs.Tryz
open Go Go.RowKit
set_option linter.unusedVariables false
set_option linter.unusedSimpArgs false
set_option maxHeartbeats 16000000
set_option maxRecDepth 100000
def Zoy(w:World)(s:Str)(e:Ending)(w':World):Prop:=
 ∃v,e=.returned v/\w'.ownsRow w.heap.size 233 3 v ((QK s).getD []).length (Zy Yl ((QK s).getD []))/\Below w.heap.size w w'
theorem Qt(s:ByteArray)(w:World)(hs:s.size<=100000000):Calls prog 205 #[.string s] w fun e w'=>Zoy w s.data.toList e w':=by
 obtain ⟨i0,hi0,hz0,hz1,hz2⟩:=info_parts ZjD;obtain ⟨l,hl⟩:∃l,Zl 44 s.data.toList=l:=⟨_,rfl⟩;have hsl:s.data.toList.length=s.size:=s_;have HSP:=h_ (XW s 44 w o_ l hl);have HMEM:=h_ (fun x (hx:x∈l)=>show x.length<=100000000 from by rw [<-hl] at hx;have:=YP 44 _ x hx;omega);have hln:l.length<=100000001:=by rw [<-hl];have:=YG 44 s.data.toList;omega
 have HPS:=h_ (show QK s.data.toList=Yr l by unfold QK;rw [hl]);unfold Zoy;clear hl hsl;go_enter func205,ntmps205;go_wp2_with fail;refine HSP.out.mono ?_;rintro e w1 ⟨hb1,v,rfl,hown⟩;obtain ⟨oa,cap,rfl⟩:=ownsRow_form hown;have HR:=h_ (Zj.of_own hown);have HB1:=h_ hb1;clear hown hb1 HSP;go_wp2_with fail;go_loopg [3,11] (l.length+1) (fun f v i wr=>∃(k:Nat) (ps:List Yc),k<=l.length/\i=.int .i64 k/\l.length-k<f/\ps.length<=k/\Hid (Yr (l.take k)=some ps)/\Hid (wr.ownsRow w1.heap.size 233 3 v ps.length (Zy Yl ps))/\Hid (Below w1.heap.size w1 wr))
 case atStart=>exact ⟨0,[],o_,rfl,o_,s_,rfl,World.ownsRow_nil _ _ _ _,Below.refl _ _⟩
 case round=>
  obtain ⟨k,ps,hk,rfl,hfu,hpk,HPL,Hown,HB⟩:=hrel;obtain ⟨oa2,cap2,rfl⟩:=ownsRow_form Hown.out;by_cases hlt:k<l.length
  ·have hz:(k:Int)<(l.length:Int):=o_
   obtain ⟨b4,o4,rfl,d0⟩:=(HR.out.below HB.out) k hlt;obtain ⟨x,hx⟩:=e_ (l[k]);rw [<-hx] at d0;have hxl:x.length<=100000000:=by rw [hx];exact HMEM.out _ (List.getElem_mem hlt)
   have HSN:=h_ (show Yr (l.take (k+1))=(ZF x).map fun p=>ps++[p] from by
    rw [List.take_succ_eq_append_getElem hlt,Zca,HPL.out,<-hx])
   have hsplit:l=l.take (k+1)++l.drop (k+1):=(List.take_append_drop _ _).symm;have HNO:=h_ (fun (h:ZF x=none)=>show QK s.data.toList=none from by
    rw [HPS.out,hsplit];exact Zb5 _ _ (by rw [HSN.out,h];rfl))
   obtain ⟨X,hX⟩:∃X:ByteArray,X=⟨x.toArray⟩:=⟨_,rfl⟩;have hXx:X.data.toList=x:=by rw [hX]
   rw [<-hX] at d0;have HP:=h_ (ZjW X wr (by rw [hX];show x.toArray.size<=_;simp;omega));rw [hXx] at HP;unfold Zdj at HP;clear hx hxl hsplit hX hXx;cases hps:ZF x with
   |none=>
    have HNN:=h_ (HNO.out hps);rw [hps] at HP;clear HNO HSN hps;go_wp2_with fail;refine HP.out.mono ?_;rintro e w2 ⟨⟨pf,pt,pst⟩,rfl,-,hb2⟩;have HB2:=h_ (HB.out.trans (hb2.mono HB.out.size));clear hb2 HP;simp only [Option.isSome_none];go_wp2_with fail;go_ret;refine ⟨_,rfl,?_,?_⟩
    ·rw [HNN.out];exact World.ownsRow_nil _ _ _ _
    ·exact (HB1.out.trans (HB2.out.mono HB1.out.size)).alloc (by have:=HB1.out.size;have:=HB2.out.size;omega) _
   |some q=>
    have HSN2:=h_ (show Yr (l.take (k+1))=some (ps++[q]) from by rw [HSN.out,hps];rfl);rw [hps] at HP;clear HNO HSN hps;go_wp2_with fail;refine HP.out.mono ?_;rintro e w2 ⟨p,rfl,hpq,hb2⟩;obtain rfl:=hpq q rfl;obtain ⟨pf,pt,pst⟩:=p;have HB2:=h_ (HB.out.trans (hb2.mono HB.out.size));have HO2:=h_ (Zp Hown.out hb2);clear hb2 HP hpq;simp only [Option.isSome_some];let V1:=(w2.alloc (.cells #[.int .i64 pf,.int .i64 pt,.int .i64 pst] 233)).alloc (.cells #[.int .i64 pf,.int .i64 pt,.int .i64 pst] 233);have hB1:Below w2.heap.size w2 V1:=(b_.alloc l_ _).alloc s_ _;have hbl:=ZB.of_own (enc:=Yl) (k:=3) (l:=[⟨pf,pt,pst⟩]) (oa:=some ⟨w2.heap.size+1,0,none⟩) (cap:=1) (fun _=>rfl) (by
     have:=ZeO (w2.alloc (.cells #[.int .i64 pf,.int .i64 pt,.int .i64 pst] 233)) ⟨pf,pt,pst⟩
     rw [show (w2.alloc (.cells #[.int .i64 pf,.int .i64 pt,.int .i64 pst] 233)).heap.size=w2.heap.size+1 by simp] at this;exact this)
    obtain ⟨v',w4,hrun,hown4,hgrow⟩:=Xu (P:=prog) w1.heap.size 175 175 233 i0 (.agg #[.int .i64 0,.int .i64 0,.int .i64 0]) 3 24 underlying175 hi0 hz0 hz1 hz2 n19_ d_ _ _ _ (Zp HO2.out hB1) (some ⟨w2.heap.size+1,0,none⟩) 1 1 (Zy Yl [⟨pf,pt,pst⟩]) rfl (ZB.flat (enc:=Yl) (k:=3) (fun _=>rfl) o_ hbl) (XC ZhJ _) n20_ o_ (Nat.le_trans HB2.out.size hB1.size);have HRUN:=h_ hrun;obtain ⟨oa3,cap3,rfl⟩:=ownsRow_form hown4;have HB4:=h_ ((HB2.out.trans (hB1.mono HB2.out.size)).grown hgrow (by have:=HB2.out.size;have:=hB1.size;omega) (fun g hg=>(HO2.out.lt g hg).1));have HO4:=h_ (show w4.ownsRow w1.heap.size 233 3 (.slice oa3 (ps.length+1) cap3) (ps++[(⟨pf,pt,pst⟩:Yc)]).length (Zy Yl (ps++[(⟨pf,pt,pst⟩:Yc)])) from by
     rw [List.length_append,ZH];exact hown4)
    clear hrun hown4 hgrow hbl hB1;go_wp2_with (at_builtin;refine wpList_append_run rfl _ _ 175 rfl HRUN.out rfl rfl ?_);go_roundg (l.length-k)
    case measure=>omega
    case rel=>exact ⟨k+1,_,o_,n14_,o_,n2_,HSN2,HO4,HB4⟩
  ·have hz:¬(k:Int)<(l.length:Int):=o_
   have HE:=h_ (show QK s.data.toList=some ps from by rw [HPS.out,<-HPL.out,List.take_of_length_le o_]);go_wp2_with fail;go_ret;refine ⟨_,rfl,?_,?_⟩
   ·rw [HE.out]
    have h:=Hown.out;refine ⟨h.1,?_⟩;rcases h.2 with hn|⟨g,cp,cur,hv,hb,rest⟩
    ·exact .inl hn
    ·exact .inr ⟨g,cp,cur,hv,by have:=HB1.out.size;omega,rest⟩
   ·exact HB1.out.trans (HB.out.mono HB1.out.size)
theorem m187_{p:Prop}(h:p:=by have HR:=h_ (show false=r by rw [<-HRR.out];unfold Y7;rw [<-hM];rfl);clear hM;go_wp2_with fail;go_ret;exact ⟨n4_,HB.out⟩):p:=h
theorem m188_{p:Prop}(h:p:=by clear HM hn;go_wp2_with fail;go_ret;exact ⟨n4_,HB.out.trans (HB3.out.mono HB.out.size)⟩):p:=h
theorem Zps{w:World}{b:Nat}{x0 x1 x2 x3 x4 x5 x6:Value}{T:TypeId}(h:w.heap[b]?=some (.cells #[x0,x1,x2,x3,x4,x5,x6] T (0,0))) :
  w.cell? ⟨b,0,none⟩=some x0/\w.cell? ⟨b,1,none⟩=some x1/\w.cell? ⟨b,2,none⟩=some x2/\w.cell? ⟨b,3,none⟩=some x3/\w.cell? ⟨b,4,none⟩=some x4/\w.cell? ⟨b,5,none⟩=some x5/\w.cell? ⟨b,6,none⟩=some x6:=by
 obtain ⟨c,_,_,_⟩:=rd h;exact ⟨n41_,n41_,n41_,n41_,n41_,n41_,n41_⟩
theorem Zje(cs:Array Value)(days:List Int)(fs:List (List Yc))(w:World)(h:ZcR w cs days fs)(hd:days.length<=1000000)(hf:∀i,(fs.getD i []).length<=1000000000)(r:Bool)(hr:Y7 days fs=r) :
  Calls prog 206 #[.agg cs] w fun e w'=>e=.returned (.bool r)/\Below w.heap.size w w':=by
 obtain ⟨c0,c1,c2,c3,c4,c5,c6,rfl⟩:∃c0 c1 c2 c3 c4 c5 c6,cs=#[c0,c1,c2,c3,c4,c5,c6]:=by
  obtain ⟨l⟩:=cs
  have:=h.size
  match l,this with
  |[a0,a1,a2,a3,a4,a5,a6],_=>exact ⟨a0,a1,a2,a3,a4,a5,a6,rfl⟩
 obtain ⟨da,dc,hd0,hdr⟩:=h.days;obtain rfl:c0=.slice da days.length dc:=by simpa using hd0
 have HH:=h_ h;have HDR:=h_ hdr;have HF:=h_ hf;have HRR:=h_ hr;have HC:=h_ (show (w.alloc (.cells #[.slice da days.length dc,c1,c2,c3,c4,c5,c6] 177)).heap[w.heap.size]?=some (.cells #[.slice da days.length dc,c1,c2,c3,c4,c5,c6] 177 (0,0)) from heap_alloc_new w _);have HB:=h_ ((Below.refl w.heap.size w).alloc l_ (.cells #[.slice da days.length dc,c1,c2,c3,c4,c5,c6] 177));clear h hdr hf hr hd0;go_enter func206,ntmps206;go_wp2_with fail;obtain ⟨C,hCw⟩:=e_ w.heap.size;have HCw:=h_ hCw;have HDR1:=h_ (HDR.out.below HB.out);have HH1:=h_ (HH.out.below HB.out);rw [<-hCw] at HC⊢;clear HDR HH hCw;generalize w.alloc (.cells #[.slice da days.length dc,c1,c2,c3,c4,c5,c6] 177)=w1 at *;go_loopg [3,13] (days.length+1) (fun f last i wr=>∃(k:Nat) (z:Int),k<=days.length/\last=.int .i64 z/\i=.int .i64 k/\days.length-k<f/\wr=w1/\Hid (Jv z (days.drop k)=Jv 0 days))
 case atStart=>exact ⟨0,0,o_,rfl,rfl,o_,rfl,rfl⟩
 case round=>
  obtain ⟨k,z,hk,rfl,rfl,hfu,rfl,HMD⟩:=hrel;by_cases hlt:k<days.length
  ·have hz:(k:Int)<(days.length:Int):=o_
   obtain ⟨b,o,rfl,-,hcc⟩:=HDR1.out k hlt;have d0:=hcc 0 _ rfl;simp only [Nat.add_zero,Nat.mul_one] at d0;obtain ⟨d,hdd⟩:=e_ (days[k]);rw [<-hdd] at d0;have hdp:days.drop k=d::days.drop (k+1):=by rw [hdd];exact List.drop_eq_getElem_cons hlt
   have hM:=HMD.out;rw [hdp,Jv] at hM;clear hcc hdd hdp HMD;by_cases h1:d<=z
   ·rw [if_pos (.inl h1)] at hM
    exact m187_
   ·by_cases h2:7<d
    ·rw [if_pos (.inr h2)] at hM
     have h2b:d>7:=h2;exact m187_
    ·rw [if_neg o_] at hM
     have HM2:=h_ hM;clear hM;go_wp2_with fail;go_roundg (days.length-k)
     case measure=>omega
     case rel=>exact ⟨k+1,d,o_,rfl,n14_,o_,rfl,HM2⟩
  ·have hz:¬((k:Int)<(days.length:Int)):=o_
   have hM:Jv 0 days=true:=by rw [<-HMD.out,List.drop_eq_nil_of_le o_];rfl
   have HRF:=h_ (show YK fs 0 6=r by rw [<-HRR.out];unfold Y7;rw [hM];rfl);clear hM HMD HDR1 hfu hk hlt HRR;obtain ⟨w2,rfl⟩:∃w2,w2=wr:=⟨wr,rfl⟩;go_wp2_with fail;go_loopg [6] 7 (fun f i wr=>∃k:Nat,k<=6/\i=.int .i64 k/\6-k<f/\Hid (Below w2.heap.size w2 wr)/\Hid (YK fs k (6-k)=r))
   case atStart=>exact ⟨0,o_,rfl,o_,Below.refl _ _,HRF⟩
   case round=>
    obtain ⟨k,hk,rfl,hfu,HBW,HMF⟩:=hrel;clear HRF;by_cases hlt:k<6
    ·have hz6:(k:Int)<6:=o_
     have hC3:=Za HC.out HBW.out;obtain ⟨q0,q1,q2,q3,q4,q5,q6⟩:=Zps hC3;have HFD:=h_ (ZnB _ days fs wr (HH1.out.below HBW.out) k hlt);have hmf:YK fs k (6-k)=(Q9 (fs.getD k []) k&&YK fs (k+1) (6-(k+1))):=by rw [show 6-k=(6-(k+1))+1 by omega];rfl
     have HM:=h_ (show (Q9 (fs.getD k []) k&&YK fs (k+1) (6-(k+1)))=r from by rw [<-hmf];exact HMF.out);have hll:=HF.out k;obtain ⟨l,hl⟩:=e_ (fs.getD k []);rw [<-hl] at HFD HM hll;clear hC3 hmf hl HMF;go_wp2_with fail;refine HFD.out.mono ?_;rintro e w3 ⟨oa,cap,rfl,hrow,hb3⟩;have HB3:=h_ (HBW.out.trans (hb3.mono HBW.out.size));have HRW:=h_ hrow;clear hrow hb3 HFD q0 q1 q2 q3 q4 q5 q6 HBW;obtain ⟨n,hn⟩:=e_ l.length;rw [<-hn];rw [<-hn] at hll;by_cases h1:n<1
     ·have hz1:(n:Int)<1:=o_
      have HR:=h_ (show false=r by rw [<-HM.out];unfold Q9;rw [decide_eq_false o_];rfl);exact m188_
     ·have hz1:¬((n:Int)<1):=o_
      by_cases h2:4<n
      ·have hz2:(n:Int)>4:=o_
       have hz3:(4:Int)<(n:Int):=o_;have HR:=h_ (show false=r by rw [<-HM.out];unfold Q9;rw [decide_eq_false (show ¬l.length<=4 by omega)];simp);exact m188_
      ·have hz2:¬((n:Int)>4):=o_
       have hz3:¬((4:Int)<(n:Int)):=o_;have HM2:=h_ (show ((l.all fun p=>XB p k)&&YK fs (k+1) (6-(k+1)))=r by
        rw [<-HM.out];unfold Q9;rw [decide_eq_true (show 1<=l.length by omega),decide_eq_true (show l.length<=4 by omega)];simp)
       have HNL:=h_ hn;obtain ⟨g1,rfl⟩:∃g,g=gk:=⟨gk,rfl⟩;clear HM hn;go_wp2_with fail;go_loopg [43] (n+1) (fun f i wx=>∃j:Nat,j<=n/\i=.int .i64 j/\n-j<f/\Hid (Below w3.heap.size w3 wx)/\Hid ((l.drop j).all (fun p=>XB p k)=l.all fun p=>XB p k))
       case atStart=>exact ⟨0,o_,rfl,o_,Below.refl _ _,rfl⟩
       case round=>
        obtain ⟨j,hj,rfl,hfj,HBX,HA⟩:=hrel;by_cases hjn:j<n
        ·have hzj:(j:Int)<(n:Int):=o_
         have hjl:j<l.length:=by rw [<-HNL.out];exact hjn
         obtain ⟨b,o,rfl,-,hcc⟩:=(HRW.out.below HBX.out) j hjl;have d0:=hcc 0 _ rfl;have d1:=hcc 1 _ rfl;have d2:=hcc 2 _ rfl;simp only [Nat.add_zero] at d0;obtain ⟨y,hy⟩:=e_ (l[j]);rw [<-hy] at d0 d1 d2;have HA2:=h_ (show (XB y k&&(l.drop (j+1)).all (fun p=>XB p k))=l.all fun p=>XB p k by
          rw [<-HA.out,List.drop_eq_getElem_cons hjl,<-hy];rfl)
         have HMP:=h_ (fun V=>Zic y k hlt V (XB y k) rfl);have hbA:Below wr.heap.size wr (wr.alloc (.cells (Yl y).toArray 233)):=b_.alloc l_ _;have HBA:=h_ (HBX.out.trans (hbA.mono HBX.out.size));unfold Yl at HMP HBA;obtain ⟨pf,pt,ps⟩:=y;obtain ⟨m,hm⟩:=e_ (XB ⟨pf,pt,ps⟩ k);rw [<-hm] at HMP HA2;clear hcc hjl hy hbA hm HA;cases m with
         |false=>
          have HR:=h_ (show false=r by rw [<-HM2.out,<-HA2.out];rfl);go_wp2_with fail;refine (HMP.out _).mono ?_;rintro e w4 ⟨rfl,hb4⟩;have HB4:=h_ (HBA.out.trans (hb4.mono HBA.out.size));clear hb4 HMP;go_wp2_with fail;go_ret;exact ⟨n4_,HB.out.trans ((HB3.out.trans (HB4.out.mono HB3.out.size)).mono HB.out.size)⟩
         |true=>
          have HA3:=h_ (show (l.drop (j+1)).all (fun p=>XB p k)=l.all fun p=>XB p k by rw [<-HA2.out];rfl);clear HA2;go_wp2_with fail;refine (HMP.out _).mono ?_;rintro e w4 ⟨rfl,hb4⟩;have HB4:=h_ (HBA.out.trans (hb4.mono HBA.out.size));clear hb4 HMP;go_wp2_with fail;go_roundg (n-j)
          case measure=>omega
          case rel=>exact ⟨j+1,o_,n14_,o_,HB4,HA3⟩
        ·have hzj:¬(j:Int)<(n:Int):=o_
         have HM3:=h_ (show YK fs (k+1) (6-(k+1))=r by
          rw [<-HM2.out,<-HA.out,List.drop_eq_nil_of_le n109_];rfl)
         have HBZ:=h_ (HB3.out.trans (HBX.out.mono HB3.out.size));go_wp2_with fail;go_roundg (6-k)
         case measure=>omega
         case rel=>exact ⟨k+1,o_,n14_,o_,HBZ,HM3⟩
    ·have hz6:¬((k:Int)<6):=o_
     have HR:=h_ (show true=r by rw [<-HMF.out,show 6-k=0 by omega];rfl);go_wp2_with fail;go_ret;exact ⟨n4_,HB.out.trans (HBW.out.mono HB.out.size)⟩
open Go
theorem m189_{p:Prop}(h:p:=by
  cases h:Zl c t with
  |nil=>exact absurd h (Qr c t)
  |cons u r=>rfl):p:=h
abbrev StR:=Nat×List Int×List Str
def stepT(s:StR)(w:Str):Option StR:=
 if (Zl 45 w).length=3/\s.1<2 then some (2,s.2.1,Zl 45 w++s.2.2.drop 3)
 else if ((Zl 58 w).length=2\/(Zl 58 w).length=3)/\s.1<3 then some (3,s.2.1,s.2.2.take 3++Zl 58 w++s.2.2.drop (3+(Zl 58 w).length))
 else none
def Zb6(s:StR)(w:Str):Option StR:=
 match YF w with
 |none=>stepT s w
 |some d=>if s.1<1 then some (1,d,s.2.2) else stepT s w
def Yy:List Str->StR->Option StR
 |[],s=>some s
 |w::t,s=>match Zb6 s w with
  |none=>none
  |some r=>Yy t r
def Ya:List Str:=[[42],[42],[42],[48,48],[48,48],[48,48]]
def ZE(x:Str):List Yc:=(QK x).getD []
def Zfo:Option StR->Bool
 |none=>false
 |some r=>Y7 r.2.1 (r.2.2.map ZE)
def Zfq(s:Str):Bool:=
 if 400<s.length then false
 else if 3<(Zl 32 (nmS s)).length then false
 else Zfo (Yy (Zl 32 (nmS s)) (0,[],Ya))
def okC(c:UInt8):Bool:=isDigit c||(c==42||(c==46||(c==47||c==44)))
theorem Zfu(s:Str)(h:(ZQ s).2=true):∀c∈s,okC c=true:=by
 unfold ZQ at h;split at h
 ·rename_i hl
  obtain ⟨-,-,h2⟩:=Zbm hl;rw [List.all_eq_true] at h2;intro c hc;unfold okC;rw [h2 c hc];rfl
 ·cases h
theorem ZrC(w:Str)(h:(Lib.cut w [46,46]).2.2=true):w=(Lib.cut w [46,46]).1++[46,46]++(Lib.cut w [46,46]).2.1:=ZjY w h
theorem ZmH(a:Str)(st:Int)(h:XP a st≠none):∀c∈a,okC c=true:=by
 unfold XP at h;split at h
 ·rename_i e;subst e;decide
 ·split at h
  ·exact absurd rfl h
  ·rename_i h1
   have h1':(ZQ (Lib.cut a [46,46]).1).2=true:=by cases hq:(ZQ (Lib.cut a [46,46]).1).2 with|true=>rfl|false=>exact absurd hq h1
   split at h
   ·rename_i h2
    split at h
    ·rename_i h3
     intro c hc;rw [ZrC a h2] at hc;rcases List.mem_append.1 hc with hc|hc
     ·rcases List.mem_append.1 hc with hc|hc
      ·exact Zfu _ h1' c hc
      ·have:c=46:=n79_
       subst this;decide
     ·exact Zfu _ h3 c hc
    ·exact absurd rfl h
   ·rename_i h2
    have h2':(Lib.cut a [46,46]).2.2=false:=by cases hq:(Lib.cut a [46,46]).2.2 with|true=>exact absurd hq h2|false=>rfl
    intro c hc;rw [Zkt a h2'] at hc;exact Zfu _ h1' c hc
theorem Q6(c:UInt8):∀(s:Str) (p:UInt8->Bool),p c=true->(∀x∈Zl c s,∀b∈x,p b=true)->∀b∈s,p b=true
 |[],p,hp,h,b,hb=>by simp at hb
 |y::t,p,hp,h,b,hb=>by
  rw [Zl] at h;by_cases hy:y=c
  ·rw [if_pos hy] at h
   rcases List.mem_cons.1 hb with rfl|hb
   ·rw [hy];exact hp
   ·exact Q6 c t p hp (fun x hx=>h x (List.mem_cons_of_mem _ hx)) b hb
  ·rw [if_neg hy] at h
   cases hs:Zl c t with
   |nil=>exact absurd hs (Qr c t)
   |cons u r=>
    rw [hs] at h;unfold ZfH at h;rcases List.mem_cons.1 hb with rfl|hb
    ·exact h (b::u) s_ b s_
    ·refine Q6 c t p hp (fun x hx d hd=>?_) b hb
     rw [hs] at hx;rcases List.mem_cons.1 hx with rfl|hx
     ·exact h (y::x) s_ d (List.mem_cons_of_mem _ hd)
     ·exact h x (List.mem_cons_of_mem _ hx) d hd
theorem Zqb(x:Str)(h:ZF x≠none):∀c∈x,okC c=true:=by
 rw [ZfT] at h;refine Q6 47 x okC d_ ?_;generalize Zl 47 x=l at h;match l,h with
 |[],h=>exact absurd rfl h
 |[a],h=>
  intro y hy c hc
  have:y=a:=by simpa using hy
  subst this;exact ZmH _ _ h c hc
 |[a,b],h=>
  have h':(if (ZQ b).2=false\/(ZQ b).1=0 then none else XP a (ZQ b).1)≠none:=h;split at h'
  ·exact absurd rfl h'
  ·rename_i hb
   intro y hy c hc;rcases List.mem_cons.1 hy with rfl|hy
   ·exact ZmH _ _ h' c hc
   ·have:y=b:=by simpa using hy
    subst this;exact Zfu _ (by cases hq:(ZQ y).2 with|true=>rfl|false=>exact absurd (.inl hq) hb) c hc
 |a::b::c::t,h=>exact absurd rfl h
theorem ZeB:∀(l:List Str),Yr l≠none->∀x∈l,ZF x≠none
 |[],h,x,hx=>by simp at hx
 |y::t,h,x,hx=>by
  rw [Yr] at h;cases hp:ZF y with
  |none=>rw [hp] at h;exact absurd rfl h
  |some p=>
   rw [hp] at h;rcases List.mem_cons.1 hx with rfl|hx
   ·rw [hp];simp
   ·exact ZeB t (fun e=>by rw [e] at h;exact absurd rfl h) x hx
theorem ZqL(y:Str)(h:QK y≠none):∀c∈y,okC c=true:=
 Q6 44 y okC d_ (fun x hx=>Zqb x (ZeB _ h x hx))
theorem Ziy(y:Str)(c:UInt8)(hc:c∈y)(hk:okC c=false):ZE y=[]:=by
 unfold ZE;cases h:QK y with
 |none=>rfl
 |some p=>have:=ZqL y (by rw [h];simp) c hc;rw [hk] at this;cases this
theorem ZpP(ds:List Int)(fs:List (List Yc))(i:Nat)(hi:i<6)(h:fs.getD i []=[]):Y7 ds fs=false:=by
 unfold Y7
 have:YK fs 0 6=false:=by
  have hb:Q9 (fs.getD i []) i=false:=n81_;match i,hi,hb with
  |0,_,hb=>simp only [YK,hb,Bool.false_and,Bool.and_false]
  |1,_,hb=>simp only [YK,Nat.zero_add,hb,Bool.false_and,Bool.and_false]
  |2,_,hb=>simp only [YK,Nat.zero_add,Nat.reduceAdd,hb,Bool.false_and,Bool.and_false]
  |3,_,hb=>simp only [YK,Nat.zero_add,Nat.reduceAdd,hb,Bool.false_and,Bool.and_false]
  |4,_,hb=>simp only [YK,Nat.zero_add,Nat.reduceAdd,hb,Bool.false_and,Bool.and_false]
  |5,_,hb=>simp only [YK,Nat.zero_add,Nat.reduceAdd,hb,Bool.false_and,Bool.and_false]
 rw [this,Bool.and_false]
theorem Zcw(ds:List Int)(fl:List Str)(i:Nat)(hi:i<6)(x:Str)(hx:fl[i]?=some x)(h:ZE x=[]):Y7 ds (fl.map ZE)=false:=by
 refine ZpP ds _ i hi ?_;rw [List.getD_eq_getElem?_getD,List.getElem?_map,hx];exact h
theorem Zc4:∀(l:List Str) (fd:List (List Yc)),Yv l=some fd->fd=l.map ZE
 |[],fd,h=>by simp [Yv] at h;subst h;rfl
 |x::t,fd,h=>by
  rw [Yv] at h;cases hx:QK x with
  |none=>rw [hx] at h;cases h
  |some p=>
   rw [hx] at h;cases hr:Yv t with
   |none=>rw [hr] at h;cases h
   |some r=>
    rw [hr] at h;cases h
    rw [Zc4 t r hr,List.map_cons];unfold ZE;rw [hx];rfl
theorem ZbP:∀(l:List Str),Yv l=none->∃(i:Nat) (x:Str),l[i]?=some x/\ZE x=[]
 |[],h=>by simp [Yv] at h
 |x::t,h=>by
  rw [Yv] at h;cases hx:QK x with
  |none=>exact ⟨0,x,rfl,by unfold ZE;rw [hx];rfl⟩
  |some p=>
   rw [hx] at h;cases hr:Yv t with
   |none=>
    obtain ⟨i,y,h1,h2⟩:=ZbP t hr;exact ⟨i+1,y,by simpa using h1,h2⟩
   |some r=>rw [hr] at h;cases h
theorem Zf9(ds:List Int)(d t:List Str)(hd:d.length=3)(ht:t.length=3) :
  (QD (some ds) [] d t).isSome=Y7 ds ((d++t).map ZE):=by
 unfold QD;simp only [List.length_nil,Nat.lt_irrefl,if_false,hd,ht,ne_eq,not_true_eq_false];cases h1:Yv d with
 |none=>
  obtain ⟨i,x,hx,hp⟩:=ZbP d h1;have hi:i<3:=by
   rcases Nat.lt_or_ge i d.length with h|h
   ·omega
   ·rw [List.getElem?_eq_none h] at hx;cases hx
  rw [Zcw ds _ i o_ x (by rw [List.getElem?_append_left o_];exact hx) hp];rfl
 |some fd=>
  cases h2:Yv t with
  |none=>
   obtain ⟨i,x,hx,hp⟩:=ZbP t h2;have hi:i<3:=by
    rcases Nat.lt_or_ge i t.length with h|h
    ·omega
    ·rw [List.getElem?_eq_none h] at hx;cases hx
   rw [Zcw ds _ (3+i) o_ x (by rw [List.getElem?_append_right o_,hd,Nat.add_sub_cancel_left];exact hx) hp];rfl
  |some ft=>
   rw [List.map_append,<-Zc4 d fd h1,<-Zc4 t ft h2];simp only;cases Y7 ds (fd++ft)<;>rfl
theorem ZgG(c:UInt8)(s:Str):XK c s=true↔c∈s:=by
 unfold XK;rcases ZaZ c s with ⟨h1,h2⟩|⟨i,a,b,h1,h2,h3,h4⟩
 ·rw [h1]
  constructor
  ·intro h;simp at h
  ·intro h;exact absurd rfl (h2 c h)
 ·rw [h1,h2];simp
theorem Zh6(c:UInt8)(s:Str)(h:XK c s=false):Zl c s=[s]:=
 QL c s (fun x hx e=>by subst e;rw [(ZgG x s).2 hx] at h;cases h)
theorem ZfS(c:UInt8):∀(a b:Str),Zl c (a++c::b)=Zl c a++Zl c b
 |[],b=>by simp [Zl]
 |x::t,b=>by
  rw [List.cons_append,Zl,Zl,ZfS c t b];by_cases hx:x=c
  ·rw [if_pos hx,if_pos hx];rfl
  ·rw [if_neg hx,if_neg hx]
   exact m189_
theorem ZdL(c:UInt8):∀(s:Str),(Zl c s).length=s.count c+1
 |[]=>rfl
 |x::t=>by
  have ih:=ZdL c t;rw [Zl];by_cases hx:x=c
  ·rw [if_pos hx,hx,List.count_cons_self,List.length_cons,ih]
  ·rw [if_neg hx,List.count_cons_of_ne (by simpa using hx),<-ih]
   exact m189_
theorem Zah(st:Nat)(h:¬st<1)(ds:List Int)(fl:List Str)(w:Str):Zb6 (st,ds,fl) w=stepT (st,ds,fl) w:=by
 unfold Zb6;cases YF w with
 |none=>rfl
 |some d=>simp only;rw [if_neg h]
theorem ZjE(ds:List Int)(fl:List Str)(w:Str):stepT (3,ds,fl) w=none:=by
 unfold stepT;rw [if_neg s_,if_neg s_]
theorem ZaJ(ds:List Int)(fl:List Str)(w:Str)(t:List Str):Yy (w::t) (3,ds,fl)=none:=by
 rw [Yy,Zah 3 d_,ZjE]
theorem ZbC(st:Nat)(h3:st<3)(ds:List Int)(fl:List Str)(w:Str)(hd:¬((Zl 45 w).length=3/\st<2)) :
  stepT (st,ds,fl) w=if (Zl 58 w).length=2\/(Zl 58 w).length=3 then some (3,ds,fl.take 3++Zl 58 w++fl.drop (3+(Zl 58 w).length)) else none:=by
 unfold stepT;rw [if_neg hd];by_cases h:(Zl 58 w).length=2\/(Zl 58 w).length=3
 ·rw [if_pos ⟨h,h3⟩,if_pos h]
 ·rw [if_neg (fun e=>h e.1),if_neg h]
abbrev z3:List Str:=[[48,48],[48,48],[48,48]]
theorem ZhV(p:Str->Bool):Z7 p []=([],[],false):=rfl
theorem Zc6(ds:Option (List Int))(y:Str)(r:List Str)(d t:List Str):QD ds (y::r) d t=none:=by
 unfold QD;cases ds with
 |none=>rfl
 |some l=>simp
theorem ZlC(ds:Option (List Int))(rest:List Str)(d t:List Str)(h:d.length≠3):QD ds rest d t=none:=by
 unfold QD;cases ds with
 |none=>rfl
 |some l=>
  simp only;split
  ·rfl
  ·simp [h]
theorem Zki(ds:Option (List Int))(rest:List Str)(d t:List Str)(h:t.length≠3):QD ds rest d t=none:=by
 unfold QD;cases ds with
 |none=>rfl
 |some l=>
  simp only;split
  ·rfl
  ·split
   ·rfl
   ·simp [h]
theorem Zec(st:Nat)(h1:¬st<1)(h3:st<3)(ds:List Int)(d3:List Str)(hd3:d3.length=3)(m:List Str)(hm:st=2\/∀y t,m=y::t->XK 45 y=false) :
  Zfo (Yy m (st,ds,d3++z3))=(QD (some ds) (Z7 (XK 58) m).2.1 d3 (Zl 58 (ZbZ (Z7 (XK 58) m)))).isSome:=by
 cases m with
 |nil=>
  rw [ZhV]
  have:Zl 58 (ZbZ (([]:Str),([]:List Str),false))=z3:=d_
  rw [this,Zf9 ds d3 z3 hd3 rfl];rfl
 |cons z m' =>
  have hdn:¬((Zl 45 z).length=3/\st<2):=by
   rintro ⟨h4,h5⟩;rcases hm with rfl|hm
   ·omega
   ·rw [Zh6 45 z (hm z m' rfl)] at h4;simp at h4
  rw [Yy,Zah st h1,ZbC st h3 _ _ _ hdn,Jr];cases hz:XK 58 z with
  |false=>
   rw [Zh6 58 z hz];simp only [List.length_singleton,Bool.false_eq_true,if_false];rw [Zc6];rfl
  |true=>
   simp only [if_true];have hcnt:=ZdL 58 z;have hpos:1<=z.count 58:=List.count_pos_iff.2 ((ZgG 58 z).1 hz);cases m' with
   |cons y t=>
    rw [Zc6];split
    ·rename_i h;split at h
     ·rfl
     ·rfl
    ·rename_i r h
     split at h
     ·cases h;rw [ZaJ];rfl
     ·cases h
   |nil=>
    have hcc:ZbZ (z,([]:List Str),true)=if z.count 58=1 then z++[58,48,48] else z:=rfl
    rw [hcc];by_cases c1:z.count 58=1
    ·rw [if_pos c1,if_pos (.inl o_),show z++[58,48,48]=z++58::[48,48] from rfl,ZfS,show Zl 58 [48,48]=[[48,48]] from by decide,
      Zf9 ds d3 _ hd3 (by rw [List.length_append];simp;omega)]
     have e1:(d3++z3).take 3=d3:=by rw [<-hd3];simp
     have e2:(d3++z3).drop (3+(Zl 58 z).length)=[[48,48]]:=by
      rw [hcnt,c1,List.drop_append,hd3,List.drop_eq_nil_of_le o_];rfl
     simp only [Yy,Zfo];rw [e1,e2,List.append_assoc]
    ·rw [if_neg c1]
     by_cases c2:z.count 58=2
     ·rw [if_pos (.inr o_),Zf9 ds d3 _ hd3 o_]
      have e1:(d3++z3).take 3=d3:=by rw [<-hd3];simp
      have e2:(d3++z3).drop (3+(Zl 58 z).length)=[]:=List.drop_eq_nil_of_le (by rw [hcnt,c2,List.length_append,hd3];decide);simp only [Yy,Zfo];rw [e1,e2,List.append_nil]
     ·rw [if_neg o_,Zki _ _ _ _ o_]
      rfl
theorem Zn5(sep c:UInt8)(h:c≠sep)(s:Str)(hc:c∈s):∃x∈Zl sep s,c∈x:=by
 refine Classical.byContradiction fun hn=>?_
 have:=Q6 sep s (fun b=>b !=c) (by simpa using fun e=>h e.symm) (fun x hx b hb=>by
  simp only [bne_iff_ne,ne_eq];rintro rfl;exact hn ⟨x,hx,hb⟩) c hc
 simp at this
theorem ZjC(ds:List Int)(m:List Str) :
  Zfo (Yy m (1,ds,Ya))=(QD (some ds) (Z7 (XK 58) (Z7 (XK 45) m).2.1).2.1 (Zl 45 (Zge (Z7 (XK 45) m))) (Zl 58 (ZbZ (Z7 (XK 58) (Z7 (XK 45) m).2.1)))).isSome:=by
 have hdef:Zl 45 [42,45,42,45,42]=[[42],[42],[42]]:=d_;cases m with
 |nil=>
  have:=Zec 1 d_ d_ ds [[42],[42],[42]] rfl [] (.inr (fun y t e=>by cases e))
  rw [ZhV] at this⊢;exact this
 |cons y m' =>
  rw [Jr];cases hy:XK 45 y with
  |false=>
   simp only [Bool.false_eq_true,if_false];have hcd:Zge (([]:Str),y::m',false)=[42,45,42,45,42]:=rfl;rw [hcd,hdef];exact Zec 1 d_ d_ ds [[42],[42],[42]] rfl (y::m') (.inr (fun u t e=>by cases e;exact hy))
  |true=>
   simp only [if_true];have hcd:Zge (y,m',true)=y:=rfl;rw [hcd];by_cases h3:(Zl 45 y).length=3
   ·rw [Yy,Zah 1 d_]
    have:stepT (1,ds,Ya) y=some (2,ds,Zl 45 y++z3):=by
     unfold stepT;rw [if_pos ⟨h3,(by omega:(1:Nat)<2)⟩];rfl
    rw [this];exact Zec 2 d_ d_ ds (Zl 45 y) h3 m' (.inl rfl)
   ·rw [ZlC _ _ _ _ h3,Yy,Zah 1 d_,ZbC 1 d_ _ _ _ (fun e=>h3 e.1)]
    by_cases h58:(Zl 58 y).length=2\/(Zl 58 y).length=3
    ·rw [if_pos h58]
     cases m' with
     |cons u t=>simp only;rw [ZaJ];rfl
     |nil=>
      obtain ⟨x,hx,hcx⟩:=Zn5 58 45 d_ y ((ZgG 45 y).1 hy);obtain ⟨i,hi,rfl⟩:=List.getElem_of_mem hx;have hb:=Ziy _ 45 hcx d_;simp only [Yy,Zfo];refine Zcw ds _ (3+i) o_ ((Zl 58 y)[i]) ?_ hb;rw [List.getElem?_append_left (by simp [Ya];omega),List.getElem?_append_right (by simp [Ya]),
       show 3+i-(List.take 3 Ya).length=i by simp [Ya],List.getElem?_eq_getElem hi]
    ·rw [if_neg h58];rfl
theorem Zlg(c:UInt8)(h:Yp c=true):okC c=false:=by
 rw [<-Bool.not_eq_true];intro k;simp only [Yp,okC,isDigit,Bool.or_eq_true,Bool.and_eq_true,decide_eq_true_eq,UInt8.le_iff_toNat_le,beq_iff_eq,<-UInt8.toNat_inj] at h k;simp at h k;omega
theorem ZcY(sep c:UInt8)(t:Str)(h:c≠sep):∃u r,Zl sep (c::t)=(c::u)::r:=by
 rw [Zl,if_neg h];cases hs:Zl sep t with
 |nil=>exact absurd hs (Qr sep t)
 |cons u r=>exact ⟨u,r,rfl⟩
theorem Zjv:∀x∈(ZiU 7 1).map (·.1),Zab x=true:=n12_
theorem Zcc(x:Str)(t:List Str)(m r:List Bool)(h:Xa (x::t) m=some r):Zab x=true:=by
 rw [Xa] at h;cases hd:Yf x with
 |none=>rw [hd] at h;cases h
 |some p=>exact Zjv x (Zj7 x _ _ _ rfl p hd)
theorem Zlu(x:Str)(d:List Int)(h:YF x=some d):Zab x=true:=by
 unfold YF at h;cases hw:Xa (Zl 44 x) XR with
 |none=>rw [hw] at h;cases h
 |some m=>
  match x,hw with
  |[],hw=>exact absurd (Zcc [] [] XR m hw) d_
  |c::t,hw=>
   by_cases hc:c=44
   ·subst hc
    rw [Zl,if_pos rfl] at hw;exact absurd (Zcc [] _ XR m hw) d_
   ·obtain ⟨u,r,hs⟩:=ZcY 44 c t hc
    rw [hs] at hw;exact Zcc (c::u) r XR m hw
theorem ZnX(x:Str)(l:List Str)(hx:Zab x=true)(hw:YF x=none):Zfo (Yy (x::l) (0,[],Ya))=false:=by
 match x,hx with
 |c::t,hx=>
  have hl:Yp c=true:=hx;have hk:=Zlg c hl;have h45:c≠45:=by rintro rfl;revert hl;decide
  have h58:c≠58:=by rintro rfl;revert hl;decide
  obtain ⟨u,r,hs⟩:=ZcY 45 c t h45;obtain ⟨u2,r2,hs2⟩:=ZcY 58 c t h58;have hb:=Ziy (c::u) c s_ hk;have hb2:=Ziy (c::u2) c s_ hk;have hst:Zb6 (0,[],Ya) (c::t)=stepT (0,[],Ya) (c::t):=by unfold Zb6;rw [hw]
  rw [Yy,hst];by_cases h3:(Zl 45 (c::t)).length=3
  ·have:stepT (0,[],Ya) (c::t)=some (2,[],Zl 45 (c::t)++z3):=by
    unfold stepT;rw [if_pos ⟨h3,d_⟩];rfl
   rw [this,hs];rw [hs] at h3;cases l with
   |nil=>
    simp only [Yy,Zfo];exact Zcw [] _ 0 d_ (c::u) rfl hb
   |cons z l' =>
    simp only;rw [Yy,Zah 2 d_,ZbC 2 d_ _ _ _ (fun e=>absurd e.2 d_)];split
    ·rfl
    ·rename_i q hq
     split at hq
     ·cases hq
      cases l' with
      |cons v t'=>rw [ZaJ];rfl
      |nil=>
       simp only [Yy,Zfo];refine Zcw [] _ 0 d_ (c::u) ?_ hb;simp
     ·cases hq
  ·rw [ZbC 0 d_ _ _ _ (fun e=>h3 e.1)]
   split
   ·rfl
   ·rename_i q hq
    split at hq
    ·cases hq
     cases l with
     |cons v t'=>rw [ZaJ];rfl
     |nil=>
      simp only [Yy,Zfo];refine Zcw [] _ 3 d_ (c::u2) ?_ hb2;rw [hs2];simp [Ya]
    ·cases hq
theorem Zek(p:Str->Bool)(l:List Str):l.length<=(Z7 p l).2.1.length+1:=by
 cases l with
 |nil=>simp [Z7]
 |cons x t=>rw [Jr];split<;>simp
theorem ZpX(s:Str):Zfq s=(Zan s).isSome:=by
 unfold Zfq Zan;by_cases h4:400<s.length
 ·rw [if_pos h4,if_pos h4];rfl
 ·rw [if_neg h4,if_neg h4]
  have hne:=Qr 32 (nmS s);generalize Zl 32 (nmS s)=l at *;by_cases h3:3<l.length
  ·rw [if_pos h3]
   have e1:=Zek Zab l;have e2:=Zek (XK 45) (Z7 Zab l).2.1;have e3:=Zek (XK 58) (Z7 (XK 45) (Z7 Zab l).2.1).2.1;cases hr:(Z7 (XK 58) (Z7 (XK 45) (Z7 Zab l).2.1).2.1).2.1 with
   |nil=>rw [hr] at e3;simp at e3;omega
   |cons y r=>rw [Zc6];rfl
  ·rw [if_neg h3]
   cases l with
   |nil=>exact absurd rfl hne
   |cons x t=>
    rw [Jr];cases hx:Zab x with
    |true=>
     simp only [if_true];have hcd:ZfF (x,t,true)=YF x:=rfl;rw [hcd];cases hw:YF x with
     |none=>
      rw [ZnX x t hx hw];unfold QD;rfl
     |some ds=>
      have:Yy (x::t) (0,[],Ya)=Yy t (1,ds,Ya):=by
       rw [Yy];unfold Zb6;rw [hw];rfl
      rw [this];exact ZjC ds t
    |false=>
     simp only [Bool.false_eq_true,if_false];have hcd:ZfF (([]:Str),x::t,false)=some []:=rfl;rw [hcd];have hw:YF x=none:=by
      cases hw:YF x with
      |none=>rfl
      |some d=>rw [Zlu x d hw] at hx;cases hx
     have:Yy (x::t) (0,[],Ya)=Yy (x::t) (1,[],Ya):=by
      have hs:Zb6 (0,[],Ya) x=Zb6 (1,[],Ya) x:=by
       unfold Zb6;rw [hw];simp only;unfold stepT;simp
      rw [Yy,Yy,hs]
     rw [this];exact ZjC [] (x::t)
end Go.Proofs.YtgoooebfhdbbkaaGreatDoor
