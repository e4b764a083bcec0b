import Derived.Test.YtgoooebfhdbbkaaGreatDoorUM46
namespace Go.Proofs.YtgoooebfhdbbkaaGreatDoor
open Go.Proofs.Tryz
open Go Go.RowKit
set_option linter.unusedVariables false
set_option linter.unusedSimpArgs false
set_option maxHeartbeats 16000000
set_option maxRecDepth 100000
theorem m215_{p:Prop}(h:p:=by
  have HBZ:=h_ (HB2.out.trans (HBW.out.mono HB2.out.size));clear HV HG HMEM;by_cases hv0:v=[]
  ·subst hv0
   cases kl with
   |true=>
    have HR:=h_ (show 0=r by rw [<-HV2.out];unfold ZW;simp);clear HV2;exact m222_
   |false=>
    have HR:=h_ (show 12=r by rw [<-HV2.out];unfold ZW;simp);clear HV2;exact m222_
  ·have b0:List.isEmpty v=false:=by cases v with|nil=>exact absurd rfl hv0|cons a t=>rfl
   have b1:(v==[])=false:=n18_;cases g with
   |true=>
    have HR:=h_ (show 0=r by rw [<-HV2.out];unfold ZW;simp [hv0]);clear HV2 hv0;exact m222_
   |false=>
    have HR:=h_ (show 12=r by rw [<-HV2.out];unfold ZW;simp [hv0]);clear HV2 hv0;exact m222_):p:=h
theorem m216_{p:Prop}(h:p:=by
  go_wp2_with fail;refine (HC.out _).mono ?_;rintro e w3 ⟨rfl,hb⟩;have HB3:=h_ (HBW.out.trans (hb.mono HBW.out.size));clear hb HC p0 p1 p2 p3 p4 p5;obtain ⟨p0,p1,p2,p3,p4,p5⟩:=Zu (Za HN2.out HB3.out);go_wp2_with fail;go_roundg (n-j)
  case measure=>omega
  case rel=>exact ⟨j+1,false,o_,n14_,rfl,o_,HG3,HB3⟩):p:=h
theorem m217_{p:Prop}(h:p:=by
  go_wp2_with fail;refine (HC.out _).mono ?_;rintro e w3 ⟨rfl,hb⟩;have HB3:=h_ (HBW.out.trans (hb.mono HBW.out.size));clear hb HC p0 p1 p2 p3 p4 p5;obtain ⟨p0,p1,p2,p3,p4,p5⟩:=Zu (Za HN2.out HB3.out);go_wp2_with fail;go_roundg (n-j)
  case measure=>omega
  case rel=>exact ⟨j+1,true,o_,n14_,rfl,o_,HG3,HB3⟩):p:=h
theorem m218_{p:Prop}(h:p:=by
  go_wp2_with fail;go_roundg (n-j)
  case measure=>omega
  case rel=>exact ⟨j+1,false,o_,n14_,rfl,o_,HG3,HBW⟩):p:=h
theorem m219_{p:Prop}(h:p:=by go_enter func126,ntmps126;go_wp2_with fail;go_ret;exact ⟨n4_,b_.alloc l_ _⟩):p:=h
theorem m220_{p:Prop}(h:p:=by
  have hjz:¬(j:Int)<(n:Int):=o_;have HV2:=h_ (show ZW 11 kl v g=r from by
   rw [<-HV.out,HG.out,List.take_of_length_le n109_])
  exact m215_):p:=h
theorem m221_{p:Prop}(h:p:=by
  have hjz:¬(j:Int)<(n:Int):=o_;have HV2:=h_ (show ZW 6 kl v g=r from by
   rw [<-HV.out,HG.out,List.take_of_length_le n109_])
  exact m215_):p:=h
theorem m222_{p:Prop}(h:p:=by go_wp2_with fail;go_ret;exact ⟨n4_,HBZ.out⟩):p:=h
theorem Zln(ws:List Str)(kv:ZT)(v:Str)(w:World)(hwn:kv.wn=ws.length)(hrow:Zj w kv.wa ws)(hw:ws.length<=4294967296)(hl:v.length<=1000000000)(hf:kv.form=6)(r:Int)(hr:ZW kv.form kv.list v (Xm kv.form ws v)=r) :
  Calls prog 126 #[.agg (Zv kv).toArray,.string ⟨v.toArray⟩] w fun e w'=>e=.returned (.int .i64 r)/\Below w.heap.size w w':=by
 have HBL:=h_ (fun W=>ZN ⟨v.toArray⟩ ⟨#[32]⟩ W n25_ d_ (Zc v) (Yd [32] rfl v []));unfold YJ at HBL;have HV0:=h_ hr;obtain ⟨ks,kn,kf,kl,kk,wa,wn,wc⟩:=kv;simp only at hf;subst hf;have HROW:=h_ hrow;simp only at HV0 HROW hwn;unfold Zv;simp only;have HN0:=h_ (show (w.alloc (.cells #[.string ⟨ks.toArray⟩,.string ⟨kn.toArray⟩,.int .i64 6,.bool kl,.int .i64 kk,.slice wa wn wc] 66)).heap[w.heap.size]?=some (.cells #[.string ⟨ks.toArray⟩,.string ⟨kn.toArray⟩,.int .i64 6,.bool kl,.int .i64 kk,.slice wa wn wc] 66 (0,0)) from heap_alloc_new w _);have HB0:=h_ ((Below.refl w.heap.size w).alloc l_ (.cells #[.string ⟨ks.toArray⟩,.string ⟨kn.toArray⟩,.int .i64 6,.bool kl,.int .i64 kk,.slice wa wn wc] 66));clear hrow hr;subst hwn;obtain ⟨wn,hwn⟩:=e_ ws.length;rw [<-hwn] at HN0 HB0⊢;have HWN:=h_ hwn;clear hwn;have HV1:=h_ (show ZW 6 kl v (Za8 Qb (Zc v))=r from HV0.out);clear HV0;have HMX:=h_ (QB v.length v [] s_);have HLN:=h_ (Z4 v []);go_enter func126,ntmps126;go_wp2_with fail;refine (HBL.out _).mono ?_;rintro e w2 ⟨hb2,va,rfl,hown⟩;obtain ⟨oa,cap,rfl⟩:=ownsRow_form hown;have HR2:=h_ (Zj.of_own hown);have HB2:=h_ (HB0.out.trans (hb2.mono HB0.out.size));have HN2:=h_ (Za HN0.out hb2);obtain ⟨N,hN⟩:=e_ w.heap.size;rw [<-hN] at HN2⊢;have HNW:=h_ hN;clear hb2 hown HBL HB0 HN0 hN;obtain ⟨l,hlb⟩:=e_ (Zc v);rw [<-hlb] at HR2⊢;obtain ⟨p0,p1,p2,p3,p4,p5⟩:=Zu HN2.out;have HMEM:=h_ (show ∀x∈l,x.length<=1000000000 from by rw [hlb];intro x hx;have:=HMX.out x hx;omega);have hll:l.length<=1000000001:=by rw [hlb];have:=HLN.out;unfold Zc;omega
 have HV:=h_ (show ZW 6 kl v (decide (0<l.length)&&l.all Qb)=r from by
  rw [<-HV1.out,<-hlb];congr 1;unfold Za8;cases l<;>simp)
 obtain ⟨n,hn⟩:=e_ l.length;rw [<-hn] at HV hll⊢;have HNL:=h_ hn;clear hlb hn HMX HLN HV1;by_cases hn0:0<n
 ·have hz0:(0:Int)<(n:Int):=o_
  have hz1:(n:Int)>0:=hz0;go_wp2_with fail;go_loopg [5,41] (n+1) (fun f b i wr=>∃(j:Nat) (g:Bool),j<=n/\i=.int .i64 j/\b=.bool g/\n-j<f/\Hid (g=(decide (0<n)&&(l.take j).all Qb))/\Hid (Below w2.heap.size w2 wr))
  case atStart=>exact ⟨0,true,o_,rfl,rfl,o_,(show true=(decide (0<n)&&(l.take 0).all Qb) by rw [decide_eq_true hn0];simp),Below.refl _ _⟩
  case round=>
   obtain ⟨j,g,hj,rfl,rfl,hfu,HG,HBW⟩:=hrel;clear p0 p1 p2 p3 p4 p5;obtain ⟨p0,p1,p2,p3,p4,p5⟩:=Zu (Za HN2.out HBW.out);by_cases hlt:j<n
   ·have hjz:(j:Int)<(n:Int):=o_
    have hjl:j<l.length:=by rw [<-HNL.out];exact hlt
    obtain ⟨b4,o4,rfl,d0⟩:=(HR2.out.below HBW.out) j hjl;obtain ⟨x,hx⟩:=e_ (l[j]);rw [<-hx] at d0;have hxl:x.length<=1000000000:=by rw [hx];exact HMEM.out _ (List.getElem_mem hjl)
    obtain ⟨q,hq⟩:∃q,Qb x=q:=⟨_,rfl⟩;have HG2:=h_ (show (g&&q)=(decide (0<n)&&(l.take (j+1)).all Qb) from by
     rw [Zi4 Qb l j hjl,<-hx,hq,HG.out];cases decide (0<n)<;>simp)
    have HC:=h_ (fun W=>Zgh ⟨x.toArray⟩ W q (by rw [<-hq];exact Ze5 x));clear hq hx hxl hjl HG;cases g with
    |false=>
     have HG3:=h_ (show false=(decide (0<n)&&(l.take (j+1)).all Qb) from by rw [<-HG2.out];rfl);exact m218_
    |true=>
     cases q with
     |true=>
      have HG3:=h_ (show true=(decide (0<n)&&(l.take (j+1)).all Qb) from by rw [<-HG2.out];rfl);exact m217_
     |false=>
      have HG3:=h_ (show false=(decide (0<n)&&(l.take (j+1)).all Qb) from by rw [<-HG2.out];rfl);exact m216_
   ·exact m221_
 ·have hz0:¬(0:Int)<(n:Int):=o_
  have hz1:¬(n:Int)>0:=hz0;go_wp2_with fail;go_loopg [5,41] (n+1) (fun f b i wr=>∃(j:Nat) (g:Bool),j<=n/\i=.int .i64 j/\b=.bool g/\n-j<f/\Hid (g=(decide (0<n)&&(l.take j).all Qb))/\Hid (Below w2.heap.size w2 wr))
  case atStart=>exact ⟨0,false,o_,rfl,rfl,o_,(show false=(decide (0<n)&&(l.take 0).all Qb) by rw [decide_eq_false hn0];simp),Below.refl _ _⟩
  case round=>
   obtain ⟨j,g,hj,rfl,rfl,hfu,HG,HBW⟩:=hrel;clear p0 p1 p2 p3 p4 p5;obtain ⟨p0,p1,p2,p3,p4,p5⟩:=Zu (Za HN2.out HBW.out);by_cases hlt:j<n
   ·exact absurd hlt o_
   ·exact m221_
theorem Zkr(ws:List Str)(kv:ZT)(v:Str)(w:World)(hwn:kv.wn=ws.length)(hrow:Zj w kv.wa ws)(hw:ws.length<=4294967296)(hl:v.length<=1000000000)(hf:kv.form=11)(r:Int)(hr:ZW kv.form kv.list v (Xm kv.form ws v)=r) :
  Calls prog 126 #[.agg (Zv kv).toArray,.string ⟨v.toArray⟩] w fun e w'=>e=.returned (.int .i64 r)/\Below w.heap.size w w':=by
 have HBL:=h_ (fun W=>ZN ⟨v.toArray⟩ ⟨#[32]⟩ W n25_ d_ (Zc v) (Yd [32] rfl v []));unfold YJ at HBL;have HV0:=h_ hr;obtain ⟨ks,kn,kf,kl,kk,wa,wn,wc⟩:=kv;simp only at hf;subst hf;have HROW:=h_ hrow;simp only at HV0 HROW hwn;unfold Zv;simp only;have HN0:=h_ (show (w.alloc (.cells #[.string ⟨ks.toArray⟩,.string ⟨kn.toArray⟩,.int .i64 11,.bool kl,.int .i64 kk,.slice wa wn wc] 66)).heap[w.heap.size]?=some (.cells #[.string ⟨ks.toArray⟩,.string ⟨kn.toArray⟩,.int .i64 11,.bool kl,.int .i64 kk,.slice wa wn wc] 66 (0,0)) from heap_alloc_new w _);have HB0:=h_ ((Below.refl w.heap.size w).alloc l_ (.cells #[.string ⟨ks.toArray⟩,.string ⟨kn.toArray⟩,.int .i64 11,.bool kl,.int .i64 kk,.slice wa wn wc] 66));clear hrow hr;subst hwn;obtain ⟨wn,hwn⟩:=e_ ws.length;rw [<-hwn] at HN0 HB0⊢;have HWN:=h_ hwn;clear hwn;have HV1:=h_ (show ZW 11 kl v (Za8 J3 (Zc v))=r from HV0.out);clear HV0;have HMX:=h_ (QB v.length v [] s_);have HLN:=h_ (Z4 v []);go_enter func126,ntmps126;go_wp2_with fail;refine (HBL.out _).mono ?_;rintro e w2 ⟨hb2,va,rfl,hown⟩;obtain ⟨oa,cap,rfl⟩:=ownsRow_form hown;have HR2:=h_ (Zj.of_own hown);have HB2:=h_ (HB0.out.trans (hb2.mono HB0.out.size));have HN2:=h_ (Za HN0.out hb2);obtain ⟨N,hN⟩:=e_ w.heap.size;rw [<-hN] at HN2⊢;have HNW:=h_ hN;clear hb2 hown HBL HB0 HN0 hN;obtain ⟨l,hlb⟩:=e_ (Zc v);rw [<-hlb] at HR2⊢;obtain ⟨p0,p1,p2,p3,p4,p5⟩:=Zu HN2.out;have HMEM:=h_ (show ∀x∈l,x.length<=1000000000 from by rw [hlb];intro x hx;have:=HMX.out x hx;omega);have hll:l.length<=1000000001:=by rw [hlb];have:=HLN.out;unfold Zc;omega
 have HV:=h_ (show ZW 11 kl v (decide (0<l.length)&&l.all J3)=r from by
  rw [<-HV1.out,<-hlb];congr 1;unfold Za8;cases l<;>simp)
 obtain ⟨n,hn⟩:=e_ l.length;rw [<-hn] at HV hll⊢;have HNL:=h_ hn;clear hlb hn HMX HLN HV1;by_cases hn0:0<n
 ·have hz0:(0:Int)<(n:Int):=o_
  have hz1:(n:Int)>0:=hz0;go_wp2_with fail;go_loopg [5,41] (n+1) (fun f b i wr=>∃(j:Nat) (g:Bool),j<=n/\i=.int .i64 j/\b=.bool g/\n-j<f/\Hid (g=(decide (0<n)&&(l.take j).all J3))/\Hid (Below w2.heap.size w2 wr))
  case atStart=>exact ⟨0,true,o_,rfl,rfl,o_,(show true=(decide (0<n)&&(l.take 0).all J3) by rw [decide_eq_true hn0];simp),Below.refl _ _⟩
  case round=>
   obtain ⟨j,g,hj,rfl,rfl,hfu,HG,HBW⟩:=hrel;clear p0 p1 p2 p3 p4 p5;obtain ⟨p0,p1,p2,p3,p4,p5⟩:=Zu (Za HN2.out HBW.out);by_cases hlt:j<n
   ·have hjz:(j:Int)<(n:Int):=o_
    have hjl:j<l.length:=by rw [<-HNL.out];exact hlt
    obtain ⟨b4,o4,rfl,d0⟩:=(HR2.out.below HBW.out) j hjl;obtain ⟨x,hx⟩:=e_ (l[j]);rw [<-hx] at d0;have hxl:x.length<=1000000000:=by rw [hx];exact HMEM.out _ (List.getElem_mem hjl)
    obtain ⟨q,hq⟩:∃q,J3 x=q:=⟨_,rfl⟩;have HG2:=h_ (show (g&&q)=(decide (0<n)&&(l.take (j+1)).all J3) from by
     rw [Zi4 J3 l j hjl,<-hx,hq,HG.out];cases decide (0<n)<;>simp)
    obtain ⟨m,hm⟩:∃m,Xc x=m:=⟨_,rfl⟩;have HC:=h_ (fun W=>QV ⟨x.toArray⟩ W m hm);have HGM:=h_ (show decide (0<=m)=q by rw [<-hm,ZeA,<-hq];rfl);clear hq hm hx hxl hjl HG;cases g with
    |false=>
     have HG3:=h_ (show false=(decide (0<n)&&(l.take (j+1)).all J3) from by rw [<-HG2.out];rfl);exact m218_
    |true=>
     cases q with
     |true=>
      have HG3:=h_ (show true=(decide (0<n)&&(l.take (j+1)).all J3) from by rw [<-HG2.out];rfl);have hg1:0<=m:=by have:=HGM.out;simpa using this
      have hg2:m>=0:=hg1;exact m217_
     |false=>
      have HG3:=h_ (show false=(decide (0<n)&&(l.take (j+1)).all J3) from by rw [<-HG2.out];rfl);have hg0:¬0<=m:=by have:=HGM.out;simpa using this
      have hgF:(0<=m)=False:=eq_false hg0;clear hg0;exact m216_
   ·exact m220_
 ·have hz0:¬(0:Int)<(n:Int):=o_
  have hz1:¬(n:Int)>0:=hz0;go_wp2_with fail;go_loopg [5,41] (n+1) (fun f b i wr=>∃(j:Nat) (g:Bool),j<=n/\i=.int .i64 j/\b=.bool g/\n-j<f/\Hid (g=(decide (0<n)&&(l.take j).all J3))/\Hid (Below w2.heap.size w2 wr))
  case atStart=>exact ⟨0,false,o_,rfl,rfl,o_,(show false=(decide (0<n)&&(l.take 0).all J3) by rw [decide_eq_false hn0];simp),Below.refl _ _⟩
  case round=>
   obtain ⟨j,g,hj,rfl,rfl,hfu,HG,HBW⟩:=hrel;clear p0 p1 p2 p3 p4 p5;obtain ⟨p0,p1,p2,p3,p4,p5⟩:=Zu (Za HN2.out HBW.out);by_cases hlt:j<n
   ·exact absurd hlt o_
   ·exact m220_
theorem Zil(ws:List Str)(kv:ZT)(v:Str)(w:World)(hf:kv.form<1\/11<kv.form)(r:Int)(hr:ZW kv.form kv.list v (Xm kv.form ws v)=r) :
  Calls prog 126 #[.agg (Zv kv).toArray,.string ⟨v.toArray⟩] w fun e w'=>e=.returned (.int .i64 r)/\Below w.heap.size w w':=by
 have HR:=h_ (show 3=r by rw [<-hr];unfold ZW;rw [if_pos hf]);obtain ⟨ks,kn,kf,kl,kk,wa,wn,wc⟩:=kv;simp only at hf;clear hr;unfold Zv;simp only;rcases hf with hf|hf
 ·have hf2:¬11<kf:=o_
  exact m219_
 ·have hf2:¬kf<1:=o_
  have hf3:kf>11:=hf;exact m219_
theorem Zie(ws:List Str)(kv:ZT)(v:Str)(w:World)(hwn:kv.wn=ws.length)(hrow:Zj w kv.wa ws)(hw:ws.length<=4294967296)(hl:v.length<=1000000000)(r:Int)(hr:ZW kv.form kv.list v (Xm kv.form ws v)=r) :
  Calls prog 126 #[.agg (Zv kv).toArray,.string ⟨v.toArray⟩] w fun e w'=>e=.returned (.int .i64 r)/\Below w.heap.size w w':=by
 by_cases h1:kv.form=1
 ·exact ZkZ ws kv v w hwn hrow hw hl h1 r hr
 by_cases h2:kv.form=2
 ·exact ZlT ws kv v w hwn hrow hw hl h2 r hr
 by_cases h3:kv.form=3
 ·exact Zk8 ws kv v w hwn hrow hw hl h3 r hr
 by_cases h4:kv.form=4
 ·exact Zmt ws kv v w hwn hrow hw hl h4 r hr
 by_cases h5:kv.form=5
 ·exact Zk6 ws kv v w hwn hrow hw hl h5 r hr
 by_cases h6:kv.form=6
 ·exact Zln ws kv v w hwn hrow hw hl h6 r hr
 by_cases h7:kv.form=7
 ·exact Zk7 ws kv v w hwn hrow hw hl h7 r hr
 by_cases h8:kv.form=8
 ·exact Zlm ws kv v w hwn hrow hw hl h8 r hr
 by_cases h9:kv.form=9
 ·exact Zl8 ws kv v w hwn hrow hw hl h9 r hr
 by_cases h10:kv.form=10
 ·exact Zke ws kv v w hwn hrow hw hl h10 r hr
 by_cases h11:kv.form=11
 ·exact Zkr ws kv v w hwn hrow hw hl h11 r hr
 exact Zil ws kv v w o_ r hr
theorem ZiA(k:Yn)(kv:ZT)(v:Str)(w:World)(hk:ZaC w kv k)(hw:k.words.length<=4294967296)(hl:v.length<=1000000000)(r:Int)(hr:Zbb v k=r) :
  Calls prog 126 #[.agg (Zv kv).toArray,.string ⟨v.toArray⟩] w fun e w'=>e=.returned (.int .i64 r)/\Below w.heap.size w w' :=
 Zie k.words kv v w hk.wl hk.row hw hl r (by rw [<-hr];unfold Zbb;rw [hk.form,hk.list])
end Go.Proofs.YtgoooebfhdbbkaaGreatDoor
