import Derived.Test.YtgoooebfhdbbkaaGreatDoorUM21
import Derived.Test.YtgoooebfhdbbkaaGreatDoorUM35
import Derived.Test.YtgoooebfhdbbkaaGreatDoorUM36
import Derived.Test.YtgoooebfhdbbkaaGreatDoorUM37
import Derived.Test.YtgoooebfhdbbkaaGreatDoorUM41
import Derived.Test.YtgoooebfhdbbkaaGreatDoorUM45
namespace Go.Proofs.YtgoooebfhdbbkaaGreatDoor
open Go.Proofs.Tryz
open Go Go.RowKit
set_option linter.unusedVariables false
set_option linter.unusedSimpArgs false
set_option maxHeartbeats 16000000
set_option maxRecDepth 100000
theorem m193_{p:Prop}(h:p:=by have HB3:=h_ (HB2.out.trans (hb.mono HB2.out.size));have HN3:=h_ (Za HN2.out hb);exact m204_):p:=h
theorem m194_{p:Prop}(h:p:=by rw [<-hlb] at HR2⊢;obtain ⟨p0,p1,p2,p3,p4,p5⟩:=Zu HN2.out;clear hlb;have HB2x:Below w.heap.size w w2:=HB2.out;have HB2X:=h_ HB2x;clear HB2x;go_wp2_with fail;have hbA:Below w2.heap.size w2 (w2.alloc (.cells (Ze Zd7).toArray 9)):=b_.alloc l_ _;have HBA:=h_ (HB2.out.trans (hbA.mono HB2.out.size));have HNA:=h_ (Za HN2.out hbA);clear hbA;refine (HC.out w2 HB2X.out).mono ?_;rintro e w3 ⟨rfl,hb⟩;have HB3:=h_ (HBA.out.trans (hb.mono HBA.out.size));have HN3:=h_ (Za HNA.out hb);exact m204_):p:=h
theorem m195_{p:Prop}(h:p:=by have HR:=h_ (show 0=r by rw [<-HV.out];unfold ZW;simp);clear HV;go_enter func126,ntmps126;go_wp2_with fail;refine (HBL.out _).mono ?_;rintro e w2 ⟨hb2,va,rfl,hown⟩;obtain ⟨oa,cap,rfl⟩:=ownsRow_form hown;have HR2:=h_ (Zj.of_own hown);have HB2:=h_ (HB0.out.trans (hb2.mono HB0.out.size));have HN2:=h_ (Za HN0.out hb2);obtain ⟨N,hN⟩:=e_ w.heap.size;rw [<-hN] at HN2⊢;have HNW:=h_ hN;clear hb2 hown HBL HB0 HN0 hN;obtain ⟨l,hlb⟩:=e_ (Zc ([]:Str));exact m203_):p:=h
theorem m196_{p:Prop}(h:p:=by
  clear hok;clear HV0;by_cases hv0:v=[]
  ·subst hv0
   cases kl with
   |true=>
    have HR:=h_ (show 0=r by rw [<-HV.out];unfold ZW;simp);exact m207_
   |false=>
    have HR:=h_ (show 12=r by rw [<-HV.out];unfold ZW;simp);exact m207_
  ·have b0:List.isEmpty v=false:=by cases v with|nil=>exact absurd rfl hv0|cons a t=>rfl
   have b1:(v==[])=false:=n18_;cases ok with
   |true=>
    have HR:=h_ (show 0=r by rw [<-HV.out];unfold ZW;simp [hv0]);exact m208_
   |false=>
    have HR:=h_ (show 12=r by rw [<-HV.out];unfold ZW;simp [hv0]);exact m208_):p:=h
theorem m197_{p:Prop}(h:p:=by
  clear hok;clear HV0;by_cases hv0:v=[]
  ·exact m212_
  ·have b0:List.isEmpty v=false:=by cases v with|nil=>exact absurd rfl hv0|cons a t=>rfl
   have b1:(v==[])=false:=n18_;cases ok with
   |true=>
    have HR:=h_ (show 0=r by rw [<-HV.out];unfold ZW;simp [hv0]);clear HV hv0;exact m206_
   |false=>
    have HR:=h_ (show 12=r by rw [<-HV.out];unfold ZW;simp [hv0]);clear HV hv0;exact m206_):p:=h
theorem m198_{p:Prop}(h:p:=by rw [<-hlb] at HR2⊢;obtain ⟨p0,p1,p2,p3,p4,p5⟩:=Zu HN2.out;clear hlb;have HB2x:Below w.heap.size w w2:=HB2.out;have HB2X:=h_ HB2x;clear HB2x;go_wp2_with fail;refine (HC.out _ (by exact HB2X.out)).mono ?_;rintro e w3 ⟨rfl,hb⟩;exact m193_):p:=h
theorem m199_{p:Prop}(h:p:=by clear HV;go_enter func126,ntmps126;go_wp2_with fail;refine (HBL.out _).mono ?_;rintro e w2 ⟨hb2,va,rfl,hown⟩;obtain ⟨oa,cap,rfl⟩:=ownsRow_form hown;have HR2:=h_ (Zj.of_own hown);have HB2:=h_ (HB0.out.trans (hb2.mono HB0.out.size));have HN2:=h_ (Za HN0.out hb2);obtain ⟨N,hN⟩:=e_ w.heap.size;rw [<-hN] at HN2⊢;have HNW:=h_ hN;clear hb2 hown HBL HB0 HN0 hN;obtain ⟨l,hlb⟩:=e_ (Zc ([]:Str));exact m211_):p:=h
theorem m200_{p:Prop}(h:p:=by clear HV hv0;go_enter func126,ntmps126;go_wp2_with fail;refine (HBL.out _).mono ?_;rintro e w2 ⟨hb2,va,rfl,hown⟩;obtain ⟨oa,cap,rfl⟩:=ownsRow_form hown;have HR2:=h_ (Zj.of_own hown);have HB2:=h_ (HB0.out.trans (hb2.mono HB0.out.size));have HN2:=h_ (Za HN0.out hb2);obtain ⟨N,hN⟩:=e_ w.heap.size;rw [<-hN] at HN2⊢;have HNW:=h_ hN;clear hb2 hown HBL HB0 HN0 hN;obtain ⟨l,hlb⟩:=e_ (Zc v);exact m211_):p:=h
theorem m201_{p:Prop}(h:p:=by clear HV;go_enter func126,ntmps126;go_wp2_with fail;refine (HBL.out _).mono ?_;rintro e w2 ⟨hb2,va,rfl,hown⟩;obtain ⟨oa,cap,rfl⟩:=ownsRow_form hown;have HR2:=h_ (Zj.of_own hown);have HB2:=h_ (HB0.out.trans (hb2.mono HB0.out.size));have HN2:=h_ (Za HN0.out hb2);obtain ⟨N,hN⟩:=e_ w.heap.size;rw [<-hN] at HN2⊢;have HNW:=h_ hN;clear hb2 hown HBL HB0 HN0 hN;obtain ⟨l,hlb⟩:=e_ (Zc ([]:Str));exact m194_):p:=h
theorem m202_{p:Prop}(h:p:=by clear HV hv0;go_enter func126,ntmps126;go_wp2_with fail;refine (HBL.out _).mono ?_;rintro e w2 ⟨hb2,va,rfl,hown⟩;obtain ⟨oa,cap,rfl⟩:=ownsRow_form hown;have HR2:=h_ (Zj.of_own hown);have HB2:=h_ (HB0.out.trans (hb2.mono HB0.out.size));have HN2:=h_ (Za HN0.out hb2);obtain ⟨N,hN⟩:=e_ w.heap.size;rw [<-hN] at HN2⊢;have HNW:=h_ hN;clear hb2 hown HBL HB0 HN0 hN;obtain ⟨l,hlb⟩:=e_ (Zc v);exact m194_):p:=h
theorem m203_{p:Prop}(h:p:=by rw [<-hlb] at HR2⊢;obtain ⟨p0,p1,p2,p3,p4,p5⟩:=Zu HN2.out;clear hlb;go_wp2_with fail;go_ret;exact ⟨n4_,HB2.out⟩):p:=h
theorem m204_{p:Prop}(h:p:=by clear hb p0 p1 p2 p3 p4 p5;obtain ⟨p0,p1,p2,p3,p4,p5⟩:=Zu HN3.out;go_wp2_with fail;go_ret;exact ⟨n4_,HB3.out⟩):p:=h
theorem m205_{p:Prop}(h:p:=by clear HV;go_enter func126,ntmps126;go_wp2_with fail;refine (HBL.out _).mono ?_;rintro e w2 ⟨hb2,va,rfl,hown⟩;obtain ⟨oa,cap,rfl⟩:=ownsRow_form hown;have HR2:=h_ (Zj.of_own hown);have HB2:=h_ (HB0.out.trans (hb2.mono HB0.out.size));have HN2:=h_ (Za HN0.out hb2);obtain ⟨N,hN⟩:=e_ w.heap.size;rw [<-hN] at HN2⊢;have HNW:=h_ hN;clear hb2 hown HBL HB0 HN0 hN;obtain ⟨l,hlb⟩:=e_ (Zc ([]:Str));exact m214_):p:=h
theorem m206_{p:Prop}(h:p:=by go_enter func126,ntmps126;go_wp2_with fail;refine (HBL.out _).mono ?_;rintro e w2 ⟨hb2,va,rfl,hown⟩;obtain ⟨oa,cap,rfl⟩:=ownsRow_form hown;have HR2:=h_ (Zj.of_own hown);have HB2:=h_ (HB0.out.trans (hb2.mono HB0.out.size));have HN2:=h_ (Za HN0.out hb2);obtain ⟨N,hN⟩:=e_ w.heap.size;rw [<-hN] at HN2⊢;have HNW:=h_ hN;clear hb2 hown HBL HB0 HN0 hN;obtain ⟨l,hlb⟩:=e_ (Zc v);exact m214_):p:=h
theorem m207_{p:Prop}(h:p:=by clear HV;go_enter func126,ntmps126;go_wp2_with fail;refine (HBL.out _).mono ?_;rintro e w2 ⟨hb2,va,rfl,hown⟩;obtain ⟨oa,cap,rfl⟩:=ownsRow_form hown;have HR2:=h_ (Zj.of_own hown);have HB2:=h_ (HB0.out.trans (hb2.mono HB0.out.size));have HN2:=h_ (Za HN0.out hb2);obtain ⟨N,hN⟩:=e_ w.heap.size;rw [<-hN] at HN2⊢;have HNW:=h_ hN;clear hb2 hown HBL HB0 HN0 hN;obtain ⟨l,hlb⟩:=e_ (Zc ([]:Str));exact m213_):p:=h
theorem m208_{p:Prop}(h:p:=by clear HV hv0;go_enter func126,ntmps126;go_wp2_with fail;refine (HBL.out _).mono ?_;rintro e w2 ⟨hb2,va,rfl,hown⟩;obtain ⟨oa,cap,rfl⟩:=ownsRow_form hown;have HR2:=h_ (Zj.of_own hown);have HB2:=h_ (HB0.out.trans (hb2.mono HB0.out.size));have HN2:=h_ (Za HN0.out hb2);obtain ⟨N,hN⟩:=e_ w.heap.size;rw [<-hN] at HN2⊢;have HNW:=h_ hN;clear hb2 hown HBL HB0 HN0 hN;obtain ⟨l,hlb⟩:=e_ (Zc v);exact m213_):p:=h
theorem m209_{p:Prop}(h:p:=by clear HV;go_enter func126,ntmps126;go_wp2_with fail;refine (HBL.out _).mono ?_;rintro e w2 ⟨hb2,va,rfl,hown⟩;obtain ⟨oa,cap,rfl⟩:=ownsRow_form hown;have HR2:=h_ (Zj.of_own hown);have HB2:=h_ (HB0.out.trans (hb2.mono HB0.out.size));have HN2:=h_ (Za HN0.out hb2);obtain ⟨N,hN⟩:=e_ w.heap.size;rw [<-hN] at HN2⊢;have HNW:=h_ hN;clear hb2 hown HBL HB0 HN0 hN;obtain ⟨l,hlb⟩:=e_ (Zc ([]:Str));exact m198_):p:=h
theorem m210_{p:Prop}(h:p:=by clear HV hv0;go_enter func126,ntmps126;go_wp2_with fail;refine (HBL.out _).mono ?_;rintro e w2 ⟨hb2,va,rfl,hown⟩;obtain ⟨oa,cap,rfl⟩:=ownsRow_form hown;have HR2:=h_ (Zj.of_own hown);have HB2:=h_ (HB0.out.trans (hb2.mono HB0.out.size));have HN2:=h_ (Za HN0.out hb2);obtain ⟨N,hN⟩:=e_ w.heap.size;rw [<-hN] at HN2⊢;have HNW:=h_ hN;clear hb2 hown HBL HB0 HN0 hN;obtain ⟨l,hlb⟩:=e_ (Zc v);exact m198_):p:=h
theorem m211_{p:Prop}(h:p:=by rw [<-hlb] at HR2⊢;obtain ⟨p0,p1,p2,p3,p4,p5⟩:=Zu HN2.out;clear hlb;go_wp2_with fail;refine (HC.out _).mono ?_;rintro e w3 ⟨⟨x,rfl,hx⟩,hb⟩;exact m193_):p:=h
theorem m212_{p:Prop}(h:p:=by
  subst hv0;cases kl with
  |true=>
   have HR:=h_ (show 0=r by rw [<-HV.out];unfold ZW;simp);exact m205_
  |false=>
   have HR:=h_ (show 12=r by rw [<-HV.out];unfold ZW;simp);exact m205_):p:=h
theorem m213_{p:Prop}(h:p:=by rw [<-hlb] at HR2⊢;obtain ⟨p0,p1,p2,p3,p4,p5⟩:=Zu HN2.out;clear hlb;go_wp2_with fail;refine (HC.out _).mono ?_;rintro e w3 ⟨⟨x,rfl⟩,hb⟩;exact m193_):p:=h
theorem m214_{p:Prop}(h:p:=by rw [<-hlb] at HR2⊢;obtain ⟨p0,p1,p2,p3,p4,p5⟩:=Zu HN2.out;clear hlb;go_wp2_with fail;refine (HC.out _).mono ?_;rintro e w3 ⟨rfl,hb⟩;exact m193_):p:=h
theorem Zu{w:World}{b:Nat}{x0 x1 x2 x3 x4 x5:Value}{T:TypeId}(h:w.heap[b]?=some (.cells #[x0,x1,x2,x3,x4,x5] T (0,0))) :
  w.cell? ⟨b,0,none⟩=some x0/\w.cell? ⟨b,1,none⟩=some x1/\w.cell? ⟨b,2,none⟩=some x2/\w.cell? ⟨b,3,none⟩=some x3/\w.cell? ⟨b,4,none⟩=some x4/\w.cell? ⟨b,5,none⟩=some x5:=by
 obtain ⟨c,_,_,_⟩:=rd h;exact ⟨n41_,n41_,n41_,n41_,n41_,n41_⟩
theorem Ze5(s:Str):Zpw s=Qb s:=Zmn s
theorem Zi4(p:Str->Bool)(l:List Str)(k:Nat)(h:k<l.length):(l.take (k+1)).all p=((l.take k).all p&&p l[k]):=by
 rw [List.take_succ_eq_append_getElem h,List.all_append];simp
theorem ZkZ(ws:List Str)(kv:ZT)(v:Str)(w:World)(hwn:kv.wn=ws.length)(hrow:Zj w kv.wa ws)(hw:ws.length<=4294967296)(hl:v.length<=1000000000)(hf:kv.form=1)(r:Int)(hr:ZW kv.form kv.list v (Xm kv.form ws v)=r) :
  Calls prog 126 #[.agg (Zv kv).toArray,.string ⟨v.toArray⟩] w fun e w'=>e=.returned (.int .i64 r)/\Below w.heap.size w w':=by
 have HBL:=h_ (fun W=>ZN ⟨v.toArray⟩ ⟨#[32]⟩ W n25_ d_ (Zc v) (Yd [32] rfl v []));unfold YJ at HBL;have HV0:=h_ hr;obtain ⟨ks,kn,kf,kl,kk,wa,wn,wc⟩:=kv;simp only at hf;subst hf;have HROW:=h_ hrow;simp only at HV0 HROW hwn;unfold Zv;simp only;have HN0:=h_ (show (w.alloc (.cells #[.string ⟨ks.toArray⟩,.string ⟨kn.toArray⟩,.int .i64 1,.bool kl,.int .i64 kk,.slice wa wn wc] 66)).heap[w.heap.size]?=some (.cells #[.string ⟨ks.toArray⟩,.string ⟨kn.toArray⟩,.int .i64 1,.bool kl,.int .i64 kk,.slice wa wn wc] 66 (0,0)) from heap_alloc_new w _);have HB0:=h_ ((Below.refl w.heap.size w).alloc l_ (.cells #[.string ⟨ks.toArray⟩,.string ⟨kn.toArray⟩,.int .i64 1,.bool kl,.int .i64 kk,.slice wa wn wc] 66));clear hrow hr;subst hwn;obtain ⟨wn,hwn⟩:=e_ ws.length;rw [<-hwn] at HN0 HB0⊢;have HWN:=h_ hwn;clear hwn;have HV:=h_ (show ZW 1 kl v true=r from HV0.out);clear HV0;by_cases hv0:v=[]
 ·subst hv0
  cases kl with
  |true=>
   exact m195_
  |false=>
   exact m195_
 ·have b0:List.isEmpty v=false:=by cases v with|nil=>exact absurd rfl hv0|cons a t=>rfl
  have b1:(v==[])=false:=n18_;have HR:=h_ (show 0=r by rw [<-HV.out];unfold ZW;simp [hv0]);clear HV hv0;go_enter func126,ntmps126;go_wp2_with fail;refine (HBL.out _).mono ?_;rintro e w2 ⟨hb2,va,rfl,hown⟩;obtain ⟨oa,cap,rfl⟩:=ownsRow_form hown;have HR2:=h_ (Zj.of_own hown);have HB2:=h_ (HB0.out.trans (hb2.mono HB0.out.size));have HN2:=h_ (Za HN0.out hb2);obtain ⟨N,hN⟩:=e_ w.heap.size;rw [<-hN] at HN2⊢;have HNW:=h_ hN;clear hb2 hown HBL HB0 HN0 hN;obtain ⟨l,hlb⟩:=e_ (Zc v);exact m203_
theorem ZlT(ws:List Str)(kv:ZT)(v:Str)(w:World)(hwn:kv.wn=ws.length)(hrow:Zj w kv.wa ws)(hw:ws.length<=4294967296)(hl:v.length<=1000000000)(hf:kv.form=2)(r:Int)(hr:ZW kv.form kv.list v (Xm kv.form ws v)=r) :
  Calls prog 126 #[.agg (Zv kv).toArray,.string ⟨v.toArray⟩] w fun e w'=>e=.returned (.int .i64 r)/\Below w.heap.size w w':=by
 have HBL:=h_ (fun W=>ZN ⟨v.toArray⟩ ⟨#[32]⟩ W n25_ d_ (Zc v) (Yd [32] rfl v []));unfold YJ at HBL;have HV0:=h_ hr;obtain ⟨ks,kn,kf,kl,kk,wa,wn,wc⟩:=kv;simp only at hf;subst hf;have HROW:=h_ hrow;simp only at HV0 HROW hwn;unfold Zv;simp only;have HN0:=h_ (show (w.alloc (.cells #[.string ⟨ks.toArray⟩,.string ⟨kn.toArray⟩,.int .i64 2,.bool kl,.int .i64 kk,.slice wa wn wc] 66)).heap[w.heap.size]?=some (.cells #[.string ⟨ks.toArray⟩,.string ⟨kn.toArray⟩,.int .i64 2,.bool kl,.int .i64 kk,.slice wa wn wc] 66 (0,0)) from heap_alloc_new w _);have HB0:=h_ ((Below.refl w.heap.size w).alloc l_ (.cells #[.string ⟨ks.toArray⟩,.string ⟨kn.toArray⟩,.int .i64 2,.bool kl,.int .i64 kk,.slice wa wn wc] 66));clear hrow hr;subst hwn;obtain ⟨wn,hwn⟩:=e_ ws.length;rw [<-hwn] at HN0 HB0⊢;have HWN:=h_ hwn;clear hwn;obtain ⟨ok,hok⟩:∃ok,Zd7.contains v=ok:=⟨_,rfl⟩;have HV:=h_ (show ZW 2 kl v ok=r by rw [<-HV0.out,<-hok];rfl);have HC:=h_ (fun V (h:Below w.heap.size w V)=>ZfX (some ⟨V.heap.size,0,none⟩) 6 Zd7 v (V.alloc (.cells (Ze Zd7).toArray 9)) d_ (Zf2 V Zd7) ok hok);clear hok;clear HV0;by_cases hv0:v=[]
 ·subst hv0
  cases kl with
  |true=>
   have HR:=h_ (show 0=r by rw [<-HV.out];unfold ZW;simp);exact m201_
  |false=>
   have HR:=h_ (show 12=r by rw [<-HV.out];unfold ZW;simp);exact m201_
 ·have b0:List.isEmpty v=false:=by cases v with|nil=>exact absurd rfl hv0|cons a t=>rfl
  have b1:(v==[])=false:=n18_;cases ok with
  |true=>
   have HR:=h_ (show 0=r by rw [<-HV.out];unfold ZW;simp [hv0]);exact m202_
  |false=>
   have HR:=h_ (show 12=r by rw [<-HV.out];unfold ZW;simp [hv0]);exact m202_
theorem Zk8(ws:List Str)(kv:ZT)(v:Str)(w:World)(hwn:kv.wn=ws.length)(hrow:Zj w kv.wa ws)(hw:ws.length<=4294967296)(hl:v.length<=1000000000)(hf:kv.form=3)(r:Int)(hr:ZW kv.form kv.list v (Xm kv.form ws v)=r) :
  Calls prog 126 #[.agg (Zv kv).toArray,.string ⟨v.toArray⟩] w fun e w'=>e=.returned (.int .i64 r)/\Below w.heap.size w w':=by
 have HBL:=h_ (fun W=>ZN ⟨v.toArray⟩ ⟨#[32]⟩ W n25_ d_ (Zc v) (Yd [32] rfl v []));unfold YJ at HBL;have HV0:=h_ hr;obtain ⟨ks,kn,kf,kl,kk,wa,wn,wc⟩:=kv;simp only at hf;subst hf;have HROW:=h_ hrow;simp only at HV0 HROW hwn;unfold Zv;simp only;have HN0:=h_ (show (w.alloc (.cells #[.string ⟨ks.toArray⟩,.string ⟨kn.toArray⟩,.int .i64 3,.bool kl,.int .i64 kk,.slice wa wn wc] 66)).heap[w.heap.size]?=some (.cells #[.string ⟨ks.toArray⟩,.string ⟨kn.toArray⟩,.int .i64 3,.bool kl,.int .i64 kk,.slice wa wn wc] 66 (0,0)) from heap_alloc_new w _);have HB0:=h_ ((Below.refl w.heap.size w).alloc l_ (.cells #[.string ⟨ks.toArray⟩,.string ⟨kn.toArray⟩,.int .i64 3,.bool kl,.int .i64 kk,.slice wa wn wc] 66));clear hrow hr;subst hwn;obtain ⟨wn,hwn⟩:=e_ ws.length;rw [<-hwn] at HN0 HB0⊢;have HWN:=h_ hwn;clear hwn;obtain ⟨ok,hok⟩:∃ok,J3 v=ok:=⟨_,rfl⟩;have HV:=h_ (show ZW 3 kl v ok=r by rw [<-HV0.out,<-hok];rfl);obtain ⟨m,hm⟩:∃m,Xc v=m:=⟨_,rfl⟩;have HC:=h_ (fun V=>QV ⟨v.toArray⟩ V m hm);have HG:=h_ (show decide (0<=m)=ok by rw [<-hm,ZeA,<-hok];rfl);clear hm;clear hok;clear HV0;by_cases hv0:v=[]
 ·exact m212_
 ·have b0:List.isEmpty v=false:=by cases v with|nil=>exact absurd rfl hv0|cons a t=>rfl
  have b1:(v==[])=false:=n18_;cases ok with
  |true=>
   have HR:=h_ (show 0=r by rw [<-HV.out];unfold ZW;simp [hv0]);clear HV hv0;have hg1:0<=m:=by have:=HG.out;simpa using this
   have hg2:m>=0:=hg1;exact m206_
  |false=>
   have HR:=h_ (show 12=r by rw [<-HV.out];unfold ZW;simp [hv0]);clear HV hv0;have hg0:¬0<=m:=by have:=HG.out;simpa using this
   have hgF:(0<=m)=False:=eq_false hg0;clear hg0;exact m206_
theorem Zmt(ws:List Str)(kv:ZT)(v:Str)(w:World)(hwn:kv.wn=ws.length)(hrow:Zj w kv.wa ws)(hw:ws.length<=4294967296)(hl:v.length<=1000000000)(hf:kv.form=4)(r:Int)(hr:ZW kv.form kv.list v (Xm kv.form ws v)=r) :
  Calls prog 126 #[.agg (Zv kv).toArray,.string ⟨v.toArray⟩] w fun e w'=>e=.returned (.int .i64 r)/\Below w.heap.size w w':=by
 have HBL:=h_ (fun W=>ZN ⟨v.toArray⟩ ⟨#[32]⟩ W n25_ d_ (Zc v) (Yd [32] rfl v []));unfold YJ at HBL;have HV0:=h_ hr;obtain ⟨ks,kn,kf,kl,kk,wa,wn,wc⟩:=kv;simp only at hf;subst hf;have HROW:=h_ hrow;simp only at HV0 HROW hwn;unfold Zv;simp only;have HN0:=h_ (show (w.alloc (.cells #[.string ⟨ks.toArray⟩,.string ⟨kn.toArray⟩,.int .i64 4,.bool kl,.int .i64 kk,.slice wa wn wc] 66)).heap[w.heap.size]?=some (.cells #[.string ⟨ks.toArray⟩,.string ⟨kn.toArray⟩,.int .i64 4,.bool kl,.int .i64 kk,.slice wa wn wc] 66 (0,0)) from heap_alloc_new w _);have HB0:=h_ ((Below.refl w.heap.size w).alloc l_ (.cells #[.string ⟨ks.toArray⟩,.string ⟨kn.toArray⟩,.int .i64 4,.bool kl,.int .i64 kk,.slice wa wn wc] 66));clear hrow hr;subst hwn;obtain ⟨wn,hwn⟩:=e_ ws.length;rw [<-hwn] at HN0 HB0⊢;have HWN:=h_ hwn;clear hwn;obtain ⟨ok,hok⟩:∃ok,(YT v).2=ok:=⟨_,rfl⟩;have HV:=h_ (show ZW 4 kl v ok=r by rw [<-HV0.out,<-hok];rfl);have HC:=h_ (fun V=>Zcj ⟨v.toArray⟩ V n25_ (YT v).1 ok (by rw [<-hok]));generalize (YT v).1=sn at HC;exact m197_
theorem Zk6(ws:List Str)(kv:ZT)(v:Str)(w:World)(hwn:kv.wn=ws.length)(hrow:Zj w kv.wa ws)(hw:ws.length<=4294967296)(hl:v.length<=1000000000)(hf:kv.form=5)(r:Int)(hr:ZW kv.form kv.list v (Xm kv.form ws v)=r) :
  Calls prog 126 #[.agg (Zv kv).toArray,.string ⟨v.toArray⟩] w fun e w'=>e=.returned (.int .i64 r)/\Below w.heap.size w w':=by
 have HBL:=h_ (fun W=>ZN ⟨v.toArray⟩ ⟨#[32]⟩ W n25_ d_ (Zc v) (Yd [32] rfl v []));unfold YJ at HBL;have HV0:=h_ hr;obtain ⟨ks,kn,kf,kl,kk,wa,wn,wc⟩:=kv;simp only at hf;subst hf;have HROW:=h_ hrow;simp only at HV0 HROW hwn;unfold Zv;simp only;have HN0:=h_ (show (w.alloc (.cells #[.string ⟨ks.toArray⟩,.string ⟨kn.toArray⟩,.int .i64 5,.bool kl,.int .i64 kk,.slice wa wn wc] 66)).heap[w.heap.size]?=some (.cells #[.string ⟨ks.toArray⟩,.string ⟨kn.toArray⟩,.int .i64 5,.bool kl,.int .i64 kk,.slice wa wn wc] 66 (0,0)) from heap_alloc_new w _);have HB0:=h_ ((Below.refl w.heap.size w).alloc l_ (.cells #[.string ⟨ks.toArray⟩,.string ⟨kn.toArray⟩,.int .i64 5,.bool kl,.int .i64 kk,.slice wa wn wc] 66));clear hrow hr;subst hwn;obtain ⟨wn,hwn⟩:=e_ ws.length;rw [<-hwn] at HN0 HB0⊢;have HWN:=h_ hwn;clear hwn;obtain ⟨ok,hok⟩:∃ok,Qb v=ok:=⟨_,rfl⟩;have HV:=h_ (show ZW 5 kl v ok=r by rw [<-HV0.out,<-hok];rfl);have HC:=h_ (fun V=>Zgh ⟨v.toArray⟩ V ok (by rw [<-hok];exact Ze5 v));exact m197_
theorem Zk7(ws:List Str)(kv:ZT)(v:Str)(w:World)(hwn:kv.wn=ws.length)(hrow:Zj w kv.wa ws)(hw:ws.length<=4294967296)(hl:v.length<=1000000000)(hf:kv.form=7)(r:Int)(hr:ZW kv.form kv.list v (Xm kv.form ws v)=r) :
  Calls prog 126 #[.agg (Zv kv).toArray,.string ⟨v.toArray⟩] w fun e w'=>e=.returned (.int .i64 r)/\Below w.heap.size w w':=by
 have HBL:=h_ (fun W=>ZN ⟨v.toArray⟩ ⟨#[32]⟩ W n25_ d_ (Zc v) (Yd [32] rfl v []));unfold YJ at HBL;have HV0:=h_ hr;obtain ⟨ks,kn,kf,kl,kk,wa,wn,wc⟩:=kv;simp only at hf;subst hf;have HROW:=h_ hrow;simp only at HV0 HROW hwn;unfold Zv;simp only;have HN0:=h_ (show (w.alloc (.cells #[.string ⟨ks.toArray⟩,.string ⟨kn.toArray⟩,.int .i64 7,.bool kl,.int .i64 kk,.slice wa wn wc] 66)).heap[w.heap.size]?=some (.cells #[.string ⟨ks.toArray⟩,.string ⟨kn.toArray⟩,.int .i64 7,.bool kl,.int .i64 kk,.slice wa wn wc] 66 (0,0)) from heap_alloc_new w _);have HB0:=h_ ((Below.refl w.heap.size w).alloc l_ (.cells #[.string ⟨ks.toArray⟩,.string ⟨kn.toArray⟩,.int .i64 7,.bool kl,.int .i64 kk,.slice wa wn wc] 66));clear hrow hr;subst hwn;obtain ⟨wn,hwn⟩:=e_ ws.length;rw [<-hwn] at HN0 HB0⊢;have HWN:=h_ hwn;clear hwn;obtain ⟨ok,hok⟩:∃ok,(Xw v).isSome=ok:=⟨_,rfl⟩;have HV:=h_ (show ZW 7 kl v ok=r by rw [<-HV0.out,<-hok];rfl);have HC:=h_ (fun V=>ZkL v V hl ok hok);clear hok;clear HV0;by_cases hv0:v=[]
 ·subst hv0
  cases kl with
  |true=>
   have HR:=h_ (show 0=r by rw [<-HV.out];unfold ZW;simp);exact m199_
  |false=>
   have HR:=h_ (show 12=r by rw [<-HV.out];unfold ZW;simp);exact m199_
 ·have b0:List.isEmpty v=false:=by cases v with|nil=>exact absurd rfl hv0|cons a t=>rfl
  have b1:(v==[])=false:=n18_;cases ok with
  |true=>
   have HR:=h_ (show 0=r by rw [<-HV.out];unfold ZW;simp [hv0]);exact m200_
  |false=>
   have HR:=h_ (show 12=r by rw [<-HV.out];unfold ZW;simp [hv0]);exact m200_
theorem Zlm(ws:List Str)(kv:ZT)(v:Str)(w:World)(hwn:kv.wn=ws.length)(hrow:Zj w kv.wa ws)(hw:ws.length<=4294967296)(hl:v.length<=1000000000)(hf:kv.form=8)(r:Int)(hr:ZW kv.form kv.list v (Xm kv.form ws v)=r) :
  Calls prog 126 #[.agg (Zv kv).toArray,.string ⟨v.toArray⟩] w fun e w'=>e=.returned (.int .i64 r)/\Below w.heap.size w w':=by
 have HBL:=h_ (fun W=>ZN ⟨v.toArray⟩ ⟨#[32]⟩ W n25_ d_ (Zc v) (Yd [32] rfl v []));unfold YJ at HBL;have HV0:=h_ hr;obtain ⟨ks,kn,kf,kl,kk,wa,wn,wc⟩:=kv;simp only at hf;subst hf;have HROW:=h_ hrow;simp only at HV0 HROW hwn;unfold Zv;simp only;have HN0:=h_ (show (w.alloc (.cells #[.string ⟨ks.toArray⟩,.string ⟨kn.toArray⟩,.int .i64 8,.bool kl,.int .i64 kk,.slice wa wn wc] 66)).heap[w.heap.size]?=some (.cells #[.string ⟨ks.toArray⟩,.string ⟨kn.toArray⟩,.int .i64 8,.bool kl,.int .i64 kk,.slice wa wn wc] 66 (0,0)) from heap_alloc_new w _);have HB0:=h_ ((Below.refl w.heap.size w).alloc l_ (.cells #[.string ⟨ks.toArray⟩,.string ⟨kn.toArray⟩,.int .i64 8,.bool kl,.int .i64 kk,.slice wa wn wc] 66));clear hrow hr;subst hwn;obtain ⟨wn,hwn⟩:=e_ ws.length;rw [<-hwn] at HN0 HB0⊢;have HWN:=h_ hwn;clear hwn;obtain ⟨ok,hok⟩:∃ok,(ZaW v).2=ok:=⟨_,rfl⟩;have HV:=h_ (show ZW 8 kl v ok=r by rw [<-HV0.out,<-hok];rfl);have HC:=h_ (fun V=>ZkV ⟨v.toArray⟩ V n25_ ok hok);exact m196_
theorem Zl8(ws:List Str)(kv:ZT)(v:Str)(w:World)(hwn:kv.wn=ws.length)(hrow:Zj w kv.wa ws)(hw:ws.length<=4294967296)(hl:v.length<=1000000000)(hf:kv.form=9)(r:Int)(hr:ZW kv.form kv.list v (Xm kv.form ws v)=r) :
  Calls prog 126 #[.agg (Zv kv).toArray,.string ⟨v.toArray⟩] w fun e w'=>e=.returned (.int .i64 r)/\Below w.heap.size w w':=by
 have HBL:=h_ (fun W=>ZN ⟨v.toArray⟩ ⟨#[32]⟩ W n25_ d_ (Zc v) (Yd [32] rfl v []));unfold YJ at HBL;have HV0:=h_ hr;obtain ⟨ks,kn,kf,kl,kk,wa,wn,wc⟩:=kv;simp only at hf;subst hf;have HROW:=h_ hrow;simp only at HV0 HROW hwn;unfold Zv;simp only;have HN0:=h_ (show (w.alloc (.cells #[.string ⟨ks.toArray⟩,.string ⟨kn.toArray⟩,.int .i64 9,.bool kl,.int .i64 kk,.slice wa wn wc] 66)).heap[w.heap.size]?=some (.cells #[.string ⟨ks.toArray⟩,.string ⟨kn.toArray⟩,.int .i64 9,.bool kl,.int .i64 kk,.slice wa wn wc] 66 (0,0)) from heap_alloc_new w _);have HB0:=h_ ((Below.refl w.heap.size w).alloc l_ (.cells #[.string ⟨ks.toArray⟩,.string ⟨kn.toArray⟩,.int .i64 9,.bool kl,.int .i64 kk,.slice wa wn wc] 66));clear hrow hr;subst hwn;obtain ⟨wn,hwn⟩:=e_ ws.length;rw [<-hwn] at HN0 HB0⊢;have HWN:=h_ hwn;clear hwn;obtain ⟨ok,hok⟩:∃ok,(Zan v).isSome=ok:=⟨_,rfl⟩;have HV:=h_ (show ZW 9 kl v ok=r by rw [<-HV0.out,<-hok];rfl);have HC:=h_ (fun V=>Zg1 v V o_);rw [ZpX,hok] at HC;unfold ZiP at HC;exact m196_
theorem Zke(ws:List Str)(kv:ZT)(v:Str)(w:World)(hwn:kv.wn=ws.length)(hrow:Zj w kv.wa ws)(hw:ws.length<=4294967296)(hl:v.length<=1000000000)(hf:kv.form=10)(r:Int)(hr:ZW kv.form kv.list v (Xm kv.form ws v)=r) :
  Calls prog 126 #[.agg (Zv kv).toArray,.string ⟨v.toArray⟩] w fun e w'=>e=.returned (.int .i64 r)/\Below w.heap.size w w':=by
 have HBL:=h_ (fun W=>ZN ⟨v.toArray⟩ ⟨#[32]⟩ W n25_ d_ (Zc v) (Yd [32] rfl v []));unfold YJ at HBL;have HV0:=h_ hr;obtain ⟨ks,kn,kf,kl,kk,wa,wn,wc⟩:=kv;simp only at hf;subst hf;have HROW:=h_ hrow;simp only at HV0 HROW hwn;unfold Zv;simp only;have HN0:=h_ (show (w.alloc (.cells #[.string ⟨ks.toArray⟩,.string ⟨kn.toArray⟩,.int .i64 10,.bool kl,.int .i64 kk,.slice wa wn wc] 66)).heap[w.heap.size]?=some (.cells #[.string ⟨ks.toArray⟩,.string ⟨kn.toArray⟩,.int .i64 10,.bool kl,.int .i64 kk,.slice wa wn wc] 66 (0,0)) from heap_alloc_new w _);have HB0:=h_ ((Below.refl w.heap.size w).alloc l_ (.cells #[.string ⟨ks.toArray⟩,.string ⟨kn.toArray⟩,.int .i64 10,.bool kl,.int .i64 kk,.slice wa wn wc] 66));clear hrow hr;subst hwn;obtain ⟨wn,hwn⟩:=e_ ws.length;rw [<-hwn] at HN0 HB0⊢;have HWN:=h_ hwn;clear hwn;obtain ⟨ok,hok⟩:∃ok,ws.contains v=ok:=⟨_,rfl⟩;have HV:=h_ (show ZW 10 kl v ok=r by rw [<-HV0.out,<-hok];rfl);have HC:=h_ (fun V (h:Below w.heap.size w V)=>show Calls prog 82 #[.slice wa wn wc,.string ⟨v.toArray⟩] V fun e w'=>e=.returned (.bool ok)/\Below V.heap.size V w' from by rw [HWN.out];exact ZfX wa wc ws v V hw (HROW.out.below h) ok hok);clear hok;clear HV0;by_cases hv0:v=[]
 ·subst hv0
  cases kl with
  |true=>
   have HR:=h_ (show 0=r by rw [<-HV.out];unfold ZW;simp);exact m209_
  |false=>
   have HR:=h_ (show 12=r by rw [<-HV.out];unfold ZW;simp);exact m209_
 ·have b0:List.isEmpty v=false:=by cases v with|nil=>exact absurd rfl hv0|cons a t=>rfl
  have b1:(v==[])=false:=n18_;cases ok with
  |true=>
   have HR:=h_ (show 0=r by rw [<-HV.out];unfold ZW;simp [hv0]);exact m210_
  |false=>
   have HR:=h_ (show 12=r by rw [<-HV.out];unfold ZW;simp [hv0]);exact m210_
end Go.Proofs.YtgoooebfhdbbkaaGreatDoor
