import Derived.Lib.SlBy
import Derived.Deep.LoopGhost
import Derived.Lib.SplitLaws
import Derived.Lib.IndexBytes
import Derived.Test.YtmgmbeipbeknaaaGreatDoorRB2
import Derived.Test.YtmgmbeipbeknaaaGreatDoorRB3
import Derived.Test.YtmgmbeipbeknaaaGreatDoorRB5
import Derived.Test.YtmgmbeipbeknaaaGreatDoorRB15
import Derived.Test.YtmgmbeipbeknaaaGreatDoorRB17
import Derived.Test.YtmgmbeipbeknaaaGreatDoorRB18
import Derived.Test.YtmgmbeipbeknaaaGreatDoorRB19
namespace Go.Proofs.YtmgmbeipbeknaaaGreatDoor
open Go.Proofs.Tryz
open Go Go.RowKit
set_option linter.all false
set_option maxHeartbeats 16000000
set_option maxRecDepth 100000
theorem m47_{p:Prop}(h:p:=by have HR:=h_ (show false=r by rw [<-hM];simp;omega);clear hM HCT;go_wp2_with fail;go_ret;exact ⟨n67_,HB2.out.trans (HB3.out.mono HB2.out.size)⟩):p:=h
theorem m48_{p:Prop}(h:p:=by have HR:=h_ (show false=r by rw [<-HRR.out];unfold Zcv;rw [<-hM];rfl);clear hM;go_wp2_with fail;go_ret;exact ⟨n67_,HB.out⟩):p:=h
instance:Inhabited YO:=⟨⟨0,0,0⟩⟩
theorem ZmY(g:FuncId)(lb:Array Value)(eg:∀args w,(callFunc g args).run prog w=.ok (.enter g args) w)(p:YO->Bool)(oa:Option Addr)(cap:Nat)(l:List YO)(w:World)(hr:ZG QC 3 w oa l)(hbig:l.length<=1000000000)
  (hp:∀(W:World) j (h:j<l.length),Below w.heap.size w W->Calls prog g (#[.agg (QC l[j]).toArray]++lb) W fun e w'=>e=.returned (.bool (p l[j]))/\Below w.heap.size w w') :
  Calls prog 342 #[.slice oa l.length cap,.func (.func g) #[] lb] w fun e w'=>e=.returned (.int .i64 (Lib.idxBy (fun _ y=>p y) l default))/\Below w.heap.size w w':=by
 have HP:=h_ hp;have HR:=h_ hr;clear hp hr;go_enter func342,ntmps342;go_wp2;go_loopg [5,8] l.length (fun gg _ s8 wr=>∃kk:Nat,kk<=l.length/\l.length-kk<=gg/\s8=.int .i64 kk/\Hid (Below w.heap.size w wr)/\Hid (∀j,j<kk->p l[j]! =false))
 case atStart=>exact ⟨0,Nat.zero_le _,o_,rfl,Below.refl _ w,fun j hj=>absurd hj (Nat.not_lt_zero _)⟩
 case round=>
  obtain ⟨kk,hkk,hg,rfl,BW,A⟩:=hrel;by_cases hlt:kk<l.length
  ·have hltz:(kk:Int)<(l.length:Int):=o_
   obtain ⟨b,o,rfl,-,hcc⟩:=(HR.out.below BW.out) kk hlt;have d0:=hcc 0 _ rfl;have d1:=hcc 1 _ rfl;have d2:=hcc 2 _ rfl;simp only [Nat.add_zero] at d0;have hcall:=HP.out wr kk hlt BW.out;have B:=h_ (show l[kk]! =l[kk] from getElem!_pos l kk hlt);unfold QC at hcall;generalize l[kk]=y at d0 d1 d2 hcall B;clear hcc;cases hq:p y with
   |true=>
    rw [hq] at hcall;have HQ:=h_ hq;clear hq;have HCL:=h_ hcall;clear hcall;go_wp2_with (go_at_fn g;refine HCL.out.mono ?_;rintro e w' ⟨rfl,hb'⟩);go_ret;refine ⟨?_,hb'⟩
    have:=Lib.idxBy_hit (fun _ y=>p y) l l.length kk default hlt l_ (by show p l[kk]! =true;rw [B.out];exact HQ.out) A.out
    rw [List.take_length] at this;rw [this];rfl
   |false=>
    rw [hq] at hcall;have HQ:=h_ hq;clear hq;have HCL:=h_ hcall;clear hcall;go_wp2_with (go_at_fn g;refine HCL.out.mono ?_;rintro e w' ⟨rfl,hb'⟩);go_roundg (l.length-(kk+1))
    case measure=>omega
    case rel=>
     refine ⟨kk+1,o_,o_,n9_,hb',(show Hid _ from fun j hj=>?_)⟩;by_cases e:j=kk
     ·subst e
      rw [B.out];exact HQ.out
     ·exact A.out j o_
  ·have hltz:¬(kk:Int)<(l.length:Int):=o_
   have hkl:kk=l.length:=o_;subst hkl;go_wp2;go_ret;refine ⟨?_,BW.out⟩
   have:=Lib.idxBy_miss (fun _ y=>p y) l l.length default A.out
   rw [List.take_length] at this;rw [this];rfl
theorem Zil(g:FuncId)(lb:Array Value)(eg:∀args w,(callFunc g args).run prog w=.ok (.enter g args) w)(p:YO->Bool)(oa:Option Addr)(cap:Nat)(l:List YO)(w:World)(hr:ZG QC 3 w oa l)(hbig:l.length<=1000000000)
  (hp:∀(W:World) j (h:j<l.length),Below w.heap.size w W->Calls prog g (#[.agg (QC l[j]).toArray]++lb) W fun e w'=>e=.returned (.bool (p l[j]))/\Below w.heap.size w w') :
  Calls prog 325 #[.slice oa l.length cap,.func (.func g) #[] lb] w fun e w'=>e=.returned (.bool (l.any p))/\Below w.heap.size w w':=by
 have h0:l.any p=decide (0<=Lib.idxBy (fun _ y=>p y) l default):=(Lib.idxBy_nonneg_iff (fun _ y=>p y) l default).symm;rw [h0];have H:=h_ (ZmY g lb eg p oa cap l w hr hbig hp);clear hp h0;generalize Lib.idxBy (fun _ y=>p y) l default=r at *;go_enter func325,ntmps325;go_wp2_with fail;refine H.out.mono ?_;rintro e w1 ⟨rfl,hb1⟩;have HB:=h_ hb1;clear hb1;go_wp2_with fail;go_ret;exact ⟨rfl,HB.out⟩
theorem ZtB(p:YO)(f:Nat)(hf:f<6)(bf:Nat)(W:World)(hc:W.cell? ⟨bf,0,none⟩=some (.int .i64 f)) :
  Calls prog 326 #[.agg (QC p).toArray,.pointer (some ⟨bf,0,none⟩)] W fun e w'=>e=.returned (.bool (!Zck p f))/\Below W.heap.size W w':=by
 have hb:bf<W.heap.size:=World.block_lt_of_cell? W _ hc;have hne:bf≠W.heap.size:=o_;have HM:=h_ (fun V=>Zmg p f hf V _ rfl);have HB:=h_ ((Below.refl W.heap.size W).alloc l_ (.cells (QC p).toArray 300));unfold QC at *;generalize Zck p f=q at *;obtain ⟨pf,pt,ps⟩:=p;go_enter func326,ntmps326;go_wp2_with fail;refine (HM.out _).mono ?_;rintro e w1 ⟨rfl,hb1⟩;have HB1:=h_ (HB.out.trans (hb1.mono HB.out.size));clear hb1;go_wp2_with fail;go_ret;exact ⟨rfl,HB1.out⟩
theorem Zle:∀args w,(callFunc 326 args).run prog w=.ok (.enter 326 args) w:=enters_of func326 k_ rfl
def ZdC:Int->List Int->Bool
 |_,[]=>true
 |last,d::t=>if d<=last\/7<d then false else ZdC d t
def Zij(l:List YO)(f:Nat):Bool:=decide (1<=l.length)&&(decide (l.length<=4)&&l.all fun p=>Zck p f)
def Zbf(fs:List (List YO)):Nat->Nat->Bool
 |_,0=>true
 |i,n+1=>Zij (fs.getD i []) i&&Zbf fs (i+1) n
def Zcv(days:List Int)(fs:List (List YO)):Bool:=ZdC 0 days&&Zbf fs 0 6
structure Zhg(w:World)(cs:Array Value)(days:List Int)(fs:List (List YO)):Prop where
 size:cs.size=7
 days:∃da dc,cs[0]?=some (.slice da days.length dc)/\ZG (fun n:Int=>[.int .i64 n]) 1 w da days
 fields:∀i,i<6->∃oa cap,cs[i+1]?=some (.slice oa (fs.getD i []).length cap)/\ZG QC 3 w oa (fs.getD i [])
theorem Zhg.below{w w':World}{cs:Array Value}{days:List Int}{fs:List (List YO)}(h:Zhg w cs days fs)(hb:Below w.heap.size w w'):Zhg w' cs days fs:=
 ⟨h.size,by obtain ⟨a,b,c,d⟩:=h.days;exact ⟨a,b,c,d.below hb⟩,fun i hi=>by obtain ⟨a,b,c,d⟩:=h.fields i hi;exact ⟨a,b,c,d.below hb⟩⟩
theorem ZnL(cs:Array Value)(days:List Int)(fs:List (List YO))(w:World)(h:Zhg w cs days fs)(hd:days.length<=1000000)(hf:∀i,(fs.getD i []).length<=1000000000)(r:Bool)(hr:Zcv days fs=r) :
  Calls prog 299 #[.agg cs] w fun e w'=>e=.returned (.bool r)/\Below w.heap.size w w':=by
 obtain ⟨c0,c1,c2,c3,c4,c5,c6,rfl⟩:∃c0 c1 c2 c3 c4 c5 c6,cs=#[c0,c1,c2,c3,c4,c5,c6]:=by
  obtain ⟨l⟩:=cs
  have:=h.size
  match l,this with
  |[a0,a1,a2,a3,a4,a5,a6],_=>exact ⟨a0,a1,a2,a3,a4,a5,a6,rfl⟩
 obtain ⟨da,dc,hd0,hdr⟩:=h.days;obtain rfl:c0=.slice da days.length dc:=by simpa using hd0
 obtain ⟨o1,k1,e1,r1⟩:=h.fields 0 o_;obtain ⟨o2,k2,e2,r2⟩:=h.fields 1 o_;obtain ⟨o3,k3,e3,r3⟩:=h.fields 2 o_;obtain ⟨o4,k4,e4,r4⟩:=h.fields 3 o_;obtain ⟨o5,k5,e5,r5⟩:=h.fields 4 o_;obtain ⟨o6,k6,e6,r6⟩:=h.fields 5 o_;obtain rfl:c1=.slice o1 (fs.getD 0 []).length k1:=by simpa using e1
 obtain rfl:c2=.slice o2 (fs.getD 1 []).length k2:=by simpa using e2
 obtain rfl:c3=.slice o3 (fs.getD 2 []).length k3:=by simpa using e3
 obtain rfl:c4=.slice o4 (fs.getD 3 []).length k4:=by simpa using e4
 obtain rfl:c5=.slice o5 (fs.getD 4 []).length k5:=by simpa using e5
 obtain rfl:c6=.slice o6 (fs.getD 5 []).length k6:=by simpa using e6
 clear hd0 e1 e2 e3 e4 e5 e6 r1 r2 r3 r4 r5 r6;obtain ⟨n1,hn1⟩:=e_ ((fs.getD 0 []).length);obtain ⟨n2,hn2⟩:=e_ ((fs.getD 1 []).length);obtain ⟨n3,hn3⟩:=e_ ((fs.getD 2 []).length);obtain ⟨n4,hn4⟩:=e_ ((fs.getD 3 []).length);obtain ⟨n5,hn5⟩:=e_ ((fs.getD 4 []).length);obtain ⟨n6,hn6⟩:=e_ ((fs.getD 5 []).length);rw [<-hn1,<-hn2,<-hn3,<-hn4,<-hn5,<-hn6] at h⊢;have HH:=h_ h;have HDR:=h_ hdr;have HF:=h_ hf;have HRR:=h_ hr;let CV:Array Value:=#[.slice da days.length dc,.slice o1 n1 k1,.slice o2 n2 k2,.slice o3 n3 k3,.slice o4 n4 k4,.slice o5 n5 k5,.slice o6 n6 k6];have HC:=h_ (show (w.alloc (.cells CV 235)).heap[w.heap.size]?=some (.cells CV 235 (0,0)) from heap_alloc_new w _);have HB:=h_ ((Below.refl w.heap.size w).alloc l_ (.cells CV 235));clear h hdr hf hr hn1 hn2 hn3 hn4 hn5 hn6;go_enter func299,ntmps299;go_wp2_with fail;obtain ⟨C,hCw⟩:=e_ w.heap.size;have HCw:=h_ hCw;change Hid ((w.alloc (.cells #[.slice da days.length dc,.slice o1 n1 k1,.slice o2 n2 k2,.slice o3 n3 k3,.slice o4 n4 k4,.slice o5 n5 k5,.slice o6 n6 k6] 235)).heap[w.heap.size]?=_) at HC;change Hid (Below w.heap.size w (w.alloc (.cells #[.slice da days.length dc,.slice o1 n1 k1,.slice o2 n2 k2,.slice o3 n3 k3,.slice o4 n4 k4,.slice o5 n5 k5,.slice o6 n6 k6] 235))) at HB;have HDR1:=h_ (HDR.out.below HB.out);have HH1:=h_ (HH.out.below HB.out);rw [<-hCw] at HC⊢;clear HDR HH hCw;generalize w.alloc (.cells #[.slice da days.length dc,.slice o1 n1 k1,.slice o2 n2 k2,.slice o3 n3 k3,.slice o4 n4 k4,.slice o5 n5 k5,.slice o6 n6 k6] 235)=w1 at *;go_loopg [3,11] (days.length+1) (fun f last i wr=>∃(k:Nat) (z:Int),k<=days.length/\last=.int .i64 z/\i=.int .i64 k/\days.length-k<f/\wr=w1/\Hid (ZdC z (days.drop k)=ZdC 0 days))
 case atStart=>exact ⟨0,0,o_,rfl,rfl,o_,rfl,rfl⟩
 case round=>
  obtain ⟨k,z,hk,rfl,rfl,hfu,rfl,HMD⟩:=hrel;by_cases hlt:k<days.length
  ·have hz:(k:Int)<(days.length:Int):=o_
   obtain ⟨b,o,rfl,-,hcc⟩:=HDR1.out k hlt;have d0:=hcc 0 _ rfl;simp only [Nat.add_zero,Nat.mul_one] at d0;obtain ⟨d,hdd⟩:=e_ (days[k]);rw [<-hdd] at d0;have hdp:days.drop k=d::days.drop (k+1):=by rw [hdd];exact List.drop_eq_getElem_cons hlt
   have hM:=HMD.out;rw [hdp,ZdC] at hM;clear hcc hdd hdp HMD;by_cases h1:d<=z
   ·rw [if_pos (.inl h1)] at hM
    exact m48_
   ·by_cases h2:7<d
    ·rw [if_pos (.inr h2)] at hM
     exact m48_
    ·rw [if_neg o_] at hM
     have HM2:=h_ hM;clear hM;go_wp2_with fail;go_roundg (days.length-k)
     case measure=>omega
     case rel=>exact ⟨k+1,d,o_,rfl,n9_,o_,rfl,HM2⟩
  ·have hz:¬((k:Int)<(days.length:Int)):=o_
   have hM:ZdC 0 days=true:=by rw [<-HMD.out,List.drop_eq_nil_of_le o_];rfl
   have HRF:=h_ (show Zbf fs 0 6=r by rw [<-HRR.out];unfold Zcv;rw [hM];rfl);have HL:=h_ (ZjH C wr);clear hM HMD HDR1 hfu hk hlt;go_wp2_with fail;refine HL.out.mono ?_;rintro e w2 ⟨rfl,hb2⟩;have HC2:=h_ (Za HC.out hb2);have HH2:=h_ (HH1.out.below hb2);have HB2:=h_ (HB.out.trans (hb2.mono HB.out.size));clear hb2 HL HC HH1 HB;unfold Zjj at *;go_wp2_with fail;go_loopg [25] 7 (fun f i wr=>∃k:Nat,k<=6/\i=.int .i64 k/\6-k<f/\Hid (Below w2.heap.size w2 wr)/\Hid (Zbf fs k (6-k)=r))
   case atStart=>exact ⟨0,o_,rfl,o_,Below.refl _ _,HRF⟩
   case round=>
    obtain ⟨k,hk,rfl,hfu,HBW,HMF⟩:=hrel;clear HRF;by_cases hlt:k<6
    ·have hz:(k:Int)<6:=o_
     have hidx:=Zv2 C k hlt wr;unfold Zjj at hidx;obtain ⟨oa,cap,hfk,hrow⟩:=HH2.out.fields k hlt;have hC3:=heap_alloc (Za HC2.out HBW.out) (.cells #[.int .i64 k] 3);have hb3:Below wr.heap.size wr (wr.alloc (.cells #[.int .i64 k] 3)):=b_.alloc l_ _;have HB3:=h_ (HBW.out.trans (hb3.mono HBW.out.size));have hrow3:=hrow.below HB3.out;have hmf:Zbf fs k (6-k)=(Zij (fs.getD k []) k&&Zbf fs (k+1) (6-(k+1))):=by rw [show 6-k=(6-(k+1))+1 by omega];rfl
     have hM:=HMF.out;rw [hmf] at hM;have hfl:=HF.out k;obtain ⟨l,hl⟩:=e_ (fs.getD k []);rw [<-hl] at hfk hrow3 hM hfl;obtain ⟨cc,-,-,clt⟩:=rd hC3;have d0:=cc (k+1);rw [show CV[k+1]?=_ from hfk] at d0;have hcell:(wr.alloc (.cells #[.int .i64 k] 3)).cell? ⟨wr.heap.size,0,none⟩=some (.int .i64 k):=s_;have HCT:=h_ (Zil 326 #[.pointer (some ⟨wr.heap.size,0,none⟩)] Zle (fun p=>!Zck p k) oa cap l (wr.alloc (.cells #[.int .i64 k] 3)) hrow3 hfl (fun V j hj hV=>
      (ZtB l[j] k hlt wr.heap.size V ((hV.cell (p:=⟨wr.heap.size,0,none⟩) s_).trans hcell)).mono fun e w' ⟨a,q⟩=>⟨a,hV.trans (q.mono hV.size)⟩))
     have hclt:C≠wr.heap.size:=by have:=Zd (Za HC2.out HBW.out);omega
     clear hC3 hb3 hrow3 hmf hfk hrow cc clt HMF hl hcell;unfold Zij at hM;have hany:(l.all fun p=>Zck p k)=!(l.any fun p=>!Zck p k):=by rw [List.all_eq_not_any_not]
     rw [hany] at hM;generalize (l.any fun p=>!Zck p k)=q at *;generalize hn:l.length=n at *;clear hany hn;by_cases h1:n<1
     ·have hz1:(n:Int)<1:=o_
      exact m47_
     ·have hz1:¬((n:Int)<1):=o_
      by_cases h2:4<n
      ·have hz2:(n:Int)>4:=o_
       have hz3:(4:Int)<n:=o_;exact m47_
      ·have hz2:¬((n:Int)>4):=o_
       have hz3:¬((4:Int)<n):=o_;have HM2:=h_ (show (!q&&Zbf fs (k+1) (6-(k+1)))=r by
        rw [<-hM,decide_eq_true (show 1<=n by omega),decide_eq_true (show n<=4 by omega)];simp)
       clear hM;cases q with
       |true=>
        have HR:=h_ (show false=r by rw [<-HM2.out];rfl);go_wp2_with fail;refine HCT.out.mono ?_;rintro e w4 ⟨rfl,hb4⟩;have HB4:=h_ (HB3.out.trans (hb4.mono HB3.out.size));clear hb4 HCT;go_wp2_with fail;go_ret;exact ⟨n67_,HB2.out.trans (HB4.out.mono HB2.out.size)⟩
       |false=>
        have HM3:=h_ (show Zbf fs (k+1) (6-(k+1))=r by rw [<-HM2.out];rfl);go_wp2_with fail;refine HCT.out.mono ?_;rintro e w4 ⟨rfl,hb4⟩;have HB4:=h_ (HB3.out.trans (hb4.mono HB3.out.size));clear hb4 HCT;go_wp2_with fail;go_roundg (6-k)
        case measure=>omega
        case rel=>exact ⟨k+1,o_,n9_,o_,HB4,HM3⟩
    ·have hz:¬((k:Int)<6):=o_
     have HR:=h_ (show true=r by rw [<-HMF.out,show 6-k=0 by omega];rfl);go_wp2_with fail;go_ret;exact ⟨n67_,HB2.out.trans (HBW.out.mono HB2.out.size)⟩
theorem Zhs(c:UInt8):∀(k:Nat) (s:Str),s.count c=k->Lib.splitK [c] 0 k s=ZP c s
 |0,s,h=>by
  have:∀x∈s,x≠c:=by
   rintro x hx rfl;exact absurd h (by rw [List.count_eq_zero];exact fun h=>h hx)
  rw [Zeq c s this];rfl
 |k+1,s,h=>by
  rcases Zho c s with ⟨h1,h2⟩|⟨i,a,b,h1,h2,h3,h4⟩
  ·have:s.count c=0:=by rw [List.count_eq_zero];exact fun hx=>h2 c hx rfl
   omega
  ·have hix:Lib.index s [c]=(i:Int):=by rw [Lib.index_one];exact h1
   have hne:¬(Lib.index s [c]==-1)=true:=by rw [hix];simp
   have hcb:b.count c=k:=by
    rw [h2,List.count_append,List.count_cons] at h;have h0:a.count c=0:=by rw [List.count_eq_zero];exact fun hx=>h4 c hx rfl
    simp at h;omega
   unfold Lib.splitK;rw [if_neg hne,hix];have e1:s.take ((i:Int).toNat+0)=a:=by rw [h2];simp [<-h3]
   have e2:s.drop ((i:Int).toNat+[c].length)=b:=by rw [h2];simp [<-h3]
   rw [e1,e2,Zhs c k b hcb,h2,Zep c a b h4]
theorem ZnH(c:UInt8)(s:ByteArray):(Lib.splitB ⟨#[c]⟩ 0 (Lib.countB s ⟨#[c]⟩) s).map Value.string=Zh (ZP c s.data.toList)/\Lib.countB s ⟨#[c]⟩+1=(ZP c s.data.toList).length:=by
 have hcb:Lib.countB s ⟨#[c]⟩=s.data.toList.count c:=by
  rw [<-Lib.count_one c]
 have hd:=Lib.splitB_data ⟨#[c]⟩ 0 (Lib.countB s ⟨#[c]⟩) s;rw [show (⟨#[c]⟩:ByteArray).data.toList=[c] from rfl,Zhs c _ _ hcb.symm] at hd;refine ⟨?_,?_⟩
 ·rw [<-hd]
  unfold Zh;rw [List.map_map];rfl
 ·have:=Lib.splitB_all ⟨#[c]⟩ (by show 1<=1;omega) 0 _ s rfl
  rw [<-this,<-hd,List.length_map]
theorem Zcr(c:UInt8)(s:Str)(w:World)(hs:s.length<=1000000000)(hM:Zz w) :
  Calls prog 38 #[.string ⟨s.toArray⟩,.string ⟨#[c]⟩] w fun e w'=>e=.returned (.slice (some ⟨w.heap.size,0,none⟩) (ZP c s).length (ZP c s).length)/\w'=w.alloc (.cells (Zh (ZP c s)).toArray 9):=by
 obtain ⟨m,hm⟩:=hM;have h1:=Tryz.strings_Split ⟨s.toArray⟩ ⟨#[c]⟩ m w (by show s.toArray.size<_;simp;omega) hm (by show 1<=1;omega);obtain ⟨h2,h3⟩:=ZnH c ⟨s.toArray⟩;have e:(⟨s.toArray⟩:ByteArray).data.toList=s:=rfl;rw [e] at h2 h3;refine h1.mono ?_;rintro e w' ⟨rfl,rfl⟩;exact ⟨by rw [h3],by rw [h2]⟩
theorem Zaw(w:World)(l:List Str):Zp (w.alloc (.cells (Zh l).toArray 9)) (some ⟨w.heap.size,0,none⟩) l:=by
 intro i hi;refine ⟨w.heap.size,0,rfl,?_⟩;rw [(rd (heap_alloc_new w (.cells (Zh l).toArray 9))).1,c1_,Zh,List.getElem?_map,Nat.zero_add,List.getElem?_eq_getElem hi];rfl
def ZpO(t:Str×List Str×Bool):Str:=if t.2.2=true then t.1 else [42,45,42,45,42]
def Zkd(t:Str×List Str×Bool):Str:=if t.2.2=true then (if Go.Lib.countByte t.1 58=1 then t.1++[58,48,48] else t.1) else [48,48,58,48,48,58,48,48]
def Zmt(t:Str×List Str×Bool):Option (List Int):=if t.2.2=true then Jm t.1 else some []
def Zee(ds:Option (List Int))(rest:List Str)(d t:List Str):Option (List Int×List (List YO)):=
 match ds with
 |none=>none
 |some days=>
  if 0<rest.length then none
  else if d.length≠3 then none
  else if t.length≠3 then none
  else match Y6 d with
   |none=>none
   |some fd=>match Y6 t with
    |none=>none
    |some ft=>if Zcv days (fd++ft)=true then some (days,fd++ft) else none
def Za9(s:Str):Option (List Int×List (List YO)):=
 if 400<s.length then none
 else Zee (Zmt (YQ Zfh (ZP 32 (nmS s)))) (YQ (Zbc 58) (YQ (Zbc 45) (YQ Zfh (ZP 32 (nmS s))).2.1).2.1).2.1
  (ZP 45 (ZpO (YQ (Zbc 45) (YQ Zfh (ZP 32 (nmS s))).2.1))) (ZP 58 (Zkd (YQ (Zbc 58) (YQ (Zbc 45) (YQ Zfh (ZP 32 (nmS s))).2.1).2.1)))
theorem Ziy(p:Str->Bool)(x:Str)(t:List Str):YQ p (x::t)=if p x=true then (x,t,true) else ([],x::t,false):=rfl
theorem Zhc(p:Str->Bool)(l:List Str)(h:(YQ p l).2.2=false):(YQ p l).2.1=l:=by
 cases l with
 |nil=>rfl
 |cons x t=>
  rw [Ziy] at h⊢;cases hp:p x with
  |true=>rw [hp] at h;simp at h
  |false=>simp
theorem ZfC(p:Str->Bool)(l:List Str)(n:Nat)(h:∀x∈l,x.length<=n):(YQ p l).1.length<=n/\(∀x∈(YQ p l).2.1,x.length<=n)/\(YQ p l).2.1.length<=l.length:=by
 cases l with
 |nil=>exact ⟨by simp [YQ],by simp [YQ],by simp [YQ]⟩
 |cons x t=>
  rw [Ziy];cases hp:p x with
  |true=>exact ⟨h x s_,fun y hy=>h y (List.mem_cons_of_mem _ hy),s_⟩
  |false=>exact ⟨s_,h,l_⟩
theorem Zen(n:Nat):∀(l:List Str) (ps:List (List YO)),Y6 l=some ps->(∀x∈l,x.length<=n)->∀p∈ps,p.length<=n+1
 |[],ps,h,hm,p,hp=>by simp [Y6] at h;subst h;simp at hp
 |x::t,ps,h,hm,p,hp=>by
  rw [Y6] at h;cases hx:Ze8 x with
  |none=>rw [hx] at h;simp at h
  |some q=>
   rw [hx] at h;cases hr:Y6 t with
   |none=>rw [hr] at h;simp at h
   |some r=>
    rw [hr] at h;simp at h;subst h;rcases List.mem_cons.1 hp with rfl|hp
    ·have:=Zeg _ _ hx
     have h2:=JO 44 x;have h3:=hm x s_;omega
    ·exact Zen n t r hr (fun y hy=>hm y (List.mem_cons_of_mem _ hy)) p hp
theorem ZnV(n:Nat)(a b:List Str)(fa fb:List (List YO))(ha:Y6 a=some fa)(hb:Y6 b=some fb)(hm:∀x∈a,x.length<=n)(hk:∀x∈b,x.length<=n)(i:Nat):((fa++fb).getD i []).length<=n+1:=by
 rw [List.getD_eq_getElem?_getD];cases h:(fa++fb)[i]? with
 |none=>simp
 |some p=>
  rcases List.mem_append.1 (List.mem_of_getElem? h) with h1|h1
  ·exact Zen n a fa ha hm p h1
  ·exact Zen n b fb hb hk p h1
theorem Zq3(s:Str)(l:List Int)(h:Jm s=some l):l.length<=8:=by
 unfold Jm at h;cases hw:Jg (ZP 44 s) ZeI with
 |none=>rw [hw] at h;simp at h
 |some m=>rw [hw] at h;simp at h;subst h;exact Zix m 8
theorem Zq4(t:Str×List Str×Bool)(l:List Int)(h:Zmt t=some l):l.length<=8:=by
 unfold Zmt at h;split at h
 ·exact Zq3 _ _ h
 ·cases h;simp
end Go.Proofs.YtmgmbeipbeknaaaGreatDoor
