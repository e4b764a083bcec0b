import Derived.Test.YtmgmbeipbeknaaaGreatDoorRB25
import Derived.Test.YtmgmbeipbeknaaaGreatDoorRB26
import Derived.Test.YtmgmbeipbeknaaaGreatDoorRB27
import Derived.Test.YtmgmbeipbeknaaaGreatDoorRB29
import Derived.Test.YtmgmbeipbeknaaaGreatDoorRB33
namespace Go.Proofs.YtmgmbeipbeknaaaGreatDoor
open Go.Proofs.Tryz
open Go Go.RowKit
set_option linter.all false
set_option maxHeartbeats 16000000
set_option maxRecDepth 100000
def QF(nm:Str)(kind:Int)(u:UV)(x:Ln)(w:World)(U:Nat)(F:Nat->Nat->Prop)(e:Ending)(w':World):Prop:=
 Fr (fun k=>k=U\/∃j,F j k) w w'/\match Xi nm kind u x with
 |.error c=>e=.returned (.int .i64 c)
 |.ok r=>e=.returned (.int .i64 0)/\∃cs' F',Y7 w' U cs' F' r
theorem Zdl{w:World}{b:Nat}{x0 x1 x2 x3:Value}{T:TypeId}(h:w.heap[b]?=some (.cells #[x0,x1,x2,x3] T (0,0))) :
  w.cell? ⟨b,0,none⟩=some x0/\w.cell? ⟨b,1,none⟩=some x1/\w.cell? ⟨b,2,none⟩=some x2/\w.cell? ⟨b,3,none⟩=some x3:=
 ⟨n26_,n26_,n26_,n26_⟩
theorem ZmK(u:UV):Xv u=(decide (64<((u 4).len:Int))||decide (16<Lib.maxOf (Jw u))):=by
 unfold Xv;rw [Zqv (Jw u) 16 (by simp [Jw,QY])];congr 1
 ·apply decide_eq_decide.2;omega
 ·unfold Jw
  rw [List.any_map];congr 1;funext i;show decide (16<(u i).len)=decide ((16:Int)<((u i).len:Int));apply decide_eq_decide.2;omega
theorem QF.err{nm:Str}{kind:Int}{u:UV}{x:Ln}{w w':World}{U:Nat}{F:Nat->Nat->Prop}{c:Int}(hf:Fr (fun k=>k=U\/∃j,F j k) w w')(h:Xi nm kind u x=.error c):QF nm kind u x w U F (.returned (.int .i64 c)) w':=by
 unfold QF;rw [h];exact ⟨hf,rfl⟩
theorem QF.ok{nm:Str}{kind:Int}{u r:UV}{x:Ln}{w w':World}{U:Nat}{F F':Nat->Nat->Prop}{cs':Array Value}(hf:Fr (fun k=>k=U\/∃j,F j k) w w')(h:Xi nm kind u x=.ok r)(hU:Y7 w' U cs' F' r):QF nm kind u x w U F (.returned (.int .i64 0)) w':=by
 unfold QF;rw [h];exact ⟨hf,rfl,cs',F',hU⟩
theorem ZuF{nm:Str}{kind:Int}{u:UV}{x:Ln}{c:Int}(h:Qq x.val nm=.error c):Xi nm kind u x=.error c:=by unfold Xi;rw [h]
theorem ZtM{nm:Str}{kind:Int}{u:UV}{x:Ln}{v:Str}(h:Qq x.val nm=.ok v)(h2:lnS kind { x with val:=v }≠0):Xi nm kind u x=.error (lnS kind { x with val:=v }):=by unfold Xi;rw [h];simp only;rw [if_pos h2]
theorem ZtK{nm:Str}{kind:Int}{u:UV}{x:Ln}{v:Str}{k:ZE}(h:Qq x.val nm=.ok v)(h2:lnS kind { x with val:=v }=0)(h3:findKey x.sec x.key=some k):Xi nm kind u x=if Qh k v=false then .error 12 else if Xv (u.upd (Zb k.name) (Zl nm k v (u (Zb k.name))))=true then .error 2 else .ok (u.upd (Zb k.name) (Zl nm k v (u (Zb k.name)))):=by
 unfold Xi;rw [h];simp only;rw [if_neg (fun h=>h h2),h3]
theorem Zs1{s u:Str}{c:Int}(h:Qq s u=.error c):c≠0:=by
 unfold Qq at h;split at h
 ·injection h with h;omega
 ·split at h
  ·injection h with h;omega
  ·cases h
theorem Zs2{s u v:Str}(h:Qq s u=.ok v)(hs:s.length<=1048576):v.length<=500000000:=by
 unfold Qq at h;split at h
 ·cases h
 ·rename_i hk
  have h60:=(ZaC hk).2;split at h
  ·cases h
  ·rename_i r hr
   injection h with h
   subst h;have h1:=Zfo u _ s r l_ hr;have h2:=Nat.mul_le_mul hs (show u.length+1<=61 by omega);omega
theorem ZrA(U:Nat)(cs:Array Value)(F:Nat->Nat->Prop)(u:UV)(w:World)(hU:Y7 w U cs F u)(hT:ZH u)(hlen:∀j,(u j).len<=100000)(hM:Zz w)(nm:Str)(kind:Int)(h0:u 0=.s nm)(h1:u 1=.n kind)(hnm:nm.length<4294967281)(x:Ln)(hx:x.val.length<=1000000000)(hxv:∀v,Qq x.val nm=.ok v->v.length<=500000000) :
  Calls prog 29 #[.pointer (some ⟨U,0,none⟩),.agg (ZU x).toArray] w fun e w'=>QF nm kind u x w U F e w':=by
 obtain ⟨sec,key,val,at_⟩:=x;unfold ZU;simp only at hx hxv⊢;have hUl:=Zd hU.box;have hne:U≠w.heap.size:=o_;have hg:∀j,j<35->cs[j]?=some (cs[j]!):=fun j hj=>by
  have:j<cs.size:=by rw [hU.size];exact hj
  rw [getElem!_pos cs j this];exact Array.getElem?_eq_getElem this
 have e0:cs[0]?=some (.string ⟨nm.toArray⟩):=by
  have:=hU.fld 0 _ (hg 0 d_);rw [h0] at this
  rw [hg 0 d_];exact congrArg some this
 have e1:cs[1]?=some (.int .i64 kind):=by
  have:=hU.fld 1 _ (hg 1 d_);rw [h1] at this
  rw [hg 1 d_];exact congrArg some this
 have HU:=h_ hU;have E0:=h_ e0;have E1:=h_ e1;have HM:=h_ hM;have hB:=(Below.refl w.heap.size w).alloc l_ (.cells #[.string ⟨sec.toArray⟩,.string ⟨key.toArray⟩,.string ⟨val.toArray⟩,.int .i64 at_] 53);have hbx:=heap_alloc_new w (.cells #[.string ⟨sec.toArray⟩,.string ⟨key.toArray⟩,.string ⟨val.toArray⟩,.int .i64 at_] 53);have HB:=h_ hB;have HBX:=h_ hbx;obtain ⟨r,hr⟩:∃r,Qq val nm=r:=⟨_,rfl⟩;have HSP:=h_ (fun W (h:Below w.heap.size w W)=>Zsc ⟨val.toArray⟩ nm W (by show val.toArray.size<=_;simpa using hx) hnm (hM.below h) r hr);have HS0:=h_ (And.intro (Za hU.box hB) hbx);have HFRB:=h_ (fun W (h:Below w.heap.size w W)=>(show Fr (fun k=>k=U\/∃j,F j k) w W from Fr.of_below h _));have HRR:=h_ hr;clear hU hg e0 e1 hM hB hbx hr;cases r with
 |error c=>
  have hc:((c:Int)!=0)=true:=by rw [bne_iff_ne];exact Zs1 HRR.out
  unfold ZrW at HSP;simp only at HSP;go_enter func29,ntmps29;go_wp2_with fail;refine Zk (S:=fun V=>V.heap[U]?=some (.cells cs 28 (0,0))/\V.heap[w.heap.size]?=some (.cells #[.string ⟨sec.toArray⟩,.string ⟨key.toArray⟩,.string ⟨val.toArray⟩,.int .i64 at_] 53 (0,0))) 11 k_ k_ (show _/\_ from HS0.out) (fun hHeld=>?_);refine u_ ?_;(iterate 6 refine dN_ 0 (gT_ rfl) (fun W hW=>by have q0:=((rd hW.1).1 0).trans E0.out;have q1:=((rd hW.1).1 1).trans E1.out;obtain ⟨x0,x1,x2,x3⟩:=Zdl hW.2;clear hW;go_simp;rfl) (u_ ?_));refine Zu (i:=6) (gT_ rfl) k_ k_ (fun K hK=>?_);clear hHeld;rw [if_pos n18_];go_simp;have hbd:Below w.heap.size w (w.alloc (.cells #[.string ⟨sec.toArray⟩,.string ⟨key.toArray⟩,.string ⟨val.toArray⟩,.int .i64 at_] 53)).drew:=HB.out.trans (Ze ⟨1,rfl⟩);refine (HSP.out _ hbd).mono ?_;rintro e w3 ⟨rfl,hb3⟩;have HB3:=h_ (hbd.trans (hb3.mono hbd.size));have HS3:=h_ (And.intro (Za HS0.out.1 ((Ze (B:=(w.alloc (.cells #[.string ⟨sec.toArray⟩,.string ⟨key.toArray⟩,.string ⟨val.toArray⟩,.int .i64 at_] 53)).heap.size) ⟨1,rfl⟩:Below _ (w.alloc (.cells #[.string ⟨sec.toArray⟩,.string ⟨key.toArray⟩,.string ⟨val.toArray⟩,.int .i64 at_] 53)) (w.alloc (.cells #[.string ⟨sec.toArray⟩,.string ⟨key.toArray⟩,.string ⟨val.toArray⟩,.int .i64 at_] 53)).drew).trans hb3)) (Za HS0.out.2 ((Ze (B:=(w.alloc (.cells #[.string ⟨sec.toArray⟩,.string ⟨key.toArray⟩,.string ⟨val.toArray⟩,.int .i64 at_] 53)).heap.size) ⟨1,rfl⟩:Below _ (w.alloc (.cells #[.string ⟨sec.toArray⟩,.string ⟨key.toArray⟩,.string ⟨val.toArray⟩,.int .i64 at_] 53)) (w.alloc (.cells #[.string ⟨sec.toArray⟩,.string ⟨key.toArray⟩,.string ⟨val.toArray⟩,.int .i64 at_] 53)).drew).trans hb3)));clear hb3 hbd;refine hK.out _ _ (show _/\_ from HS3.out) (fun hHeld=>?_);clear hK K;refine u_ ?_;(iterate 4 refine dN_ 0 (gT_ rfl) (fun W hW=>by have q0:=((rd hW.1).1 0).trans E0.out;have q1:=((rd hW.1).1 1).trans E1.out;obtain ⟨x0,x1,x2,x3⟩:=Zdl hW.2;clear hW;go_simp;rfl) (u_ ?_));refine ZF k_ ?_;clear hHeld;go_wp2_with fail;go_ret;exact QF.err (HFRB.out _ HB3.out) (ZuF HRR.out)
 |ok v=>
  have hvl:v.length<=500000000:=hxv v HRR.out;unfold ZrW at HSP;simp only at HSP⊢;obtain ⟨c,hc⟩:=e_ (lnS kind ⟨sec,key,v,at_⟩);have HLN:=h_ (fun W (h:Below w.heap.size w W)=>Ztn kind ⟨sec,key,v,at_⟩ W (HM.out.below h) (by show v.length<=_;omega));rw [<-hc] at HLN;change Hid (∀W,Below w.heap.size w W->Calls prog 70 #[.int .i64 kind,.agg #[.string ⟨sec.toArray⟩,.string ⟨key.toArray⟩,.string ⟨v.toArray⟩,.int .i64 at_]] W fun e w'=>e=.returned (.int .i64 c)/\Below W.heap.size W w') at HLN;have HCC:=h_ hc;clear hc;go_enter func29,ntmps29;go_wp2_with fail;refine Zk (S:=fun V=>V.heap[U]?=some (.cells cs 28 (0,0))/\V.heap[w.heap.size]?=some (.cells #[.string ⟨sec.toArray⟩,.string ⟨key.toArray⟩,.string ⟨val.toArray⟩,.int .i64 at_] 53 (0,0))) 11 k_ k_ (show _/\_ from HS0.out) (fun hHeld=>?_);refine u_ ?_;(iterate 6 refine dN_ 0 (gT_ rfl) (fun W hW=>by have q0:=((rd hW.1).1 0).trans E0.out;have q1:=((rd hW.1).1 1).trans E1.out;obtain ⟨x0,x1,x2,x3⟩:=Zdl hW.2;clear hW;go_simp;rfl) (u_ ?_));refine Zu (i:=6) (gT_ rfl) k_ k_ (fun K hK=>?_);clear hHeld;rw [if_pos n18_];go_simp;have hbd:Below w.heap.size w (w.alloc (.cells #[.string ⟨sec.toArray⟩,.string ⟨key.toArray⟩,.string ⟨val.toArray⟩,.int .i64 at_] 53)).drew:=HB.out.trans (Ze ⟨1,rfl⟩);refine (HSP.out _ hbd).mono ?_;rintro e w3 ⟨rfl,hb3⟩;have HB3:=h_ (hbd.trans (hb3.mono hbd.size));have HS3:=h_ (And.intro (Za HS0.out.1 ((Ze (B:=(w.alloc (.cells #[.string ⟨sec.toArray⟩,.string ⟨key.toArray⟩,.string ⟨val.toArray⟩,.int .i64 at_] 53)).heap.size) ⟨1,rfl⟩:Below _ (w.alloc (.cells #[.string ⟨sec.toArray⟩,.string ⟨key.toArray⟩,.string ⟨val.toArray⟩,.int .i64 at_] 53)) (w.alloc (.cells #[.string ⟨sec.toArray⟩,.string ⟨key.toArray⟩,.string ⟨val.toArray⟩,.int .i64 at_] 53)).drew).trans hb3)) (Za HS0.out.2 ((Ze (B:=(w.alloc (.cells #[.string ⟨sec.toArray⟩,.string ⟨key.toArray⟩,.string ⟨val.toArray⟩,.int .i64 at_] 53)).heap.size) ⟨1,rfl⟩:Below _ (w.alloc (.cells #[.string ⟨sec.toArray⟩,.string ⟨key.toArray⟩,.string ⟨val.toArray⟩,.int .i64 at_] 53)) (w.alloc (.cells #[.string ⟨sec.toArray⟩,.string ⟨key.toArray⟩,.string ⟨val.toArray⟩,.int .i64 at_] 53)).drew).trans hb3)));clear hb3 hbd;refine hK.out _ _ (show _/\_ from HS3.out) (fun hHeld=>?_);clear hK K;refine u_ ?_;(iterate 4 refine dN_ 0 (gT_ rfl) (fun W hW=>by have q0:=((rd hW.1).1 0).trans E0.out;have q1:=((rd hW.1).1 1).trans E1.out;obtain ⟨x0,x1,x2,x3⟩:=Zdl hW.2;clear hW;go_simp;rfl) (u_ ?_));refine ZF k_ ?_;clear hHeld;obtain ⟨y0,y1,y2,y3⟩:=Zdl HS3.out.2;obtain ⟨_,f3,s3,_⟩:=rd HS3.out.2;have f32:=f3 2;clear f3;go_wp2_with fail;have h4LB:(w3.setCell ⟨w.heap.size,2,none⟩ (.string ⟨v.toArray⟩)).heap[w.heap.size]?=some (.cells #[.string ⟨sec.toArray⟩,.string ⟨key.toArray⟩,.string ⟨v.toArray⟩,.int .i64 at_] 53 (0,0)):=heap_setCell HS3.out.2 2 (.string ⟨v.toArray⟩);have h4U:=ZC HS3.out.1 (a:=⟨w.heap.size,2,none⟩) hne (.string ⟨v.toArray⟩);have HB4:=h_ (show Below w.heap.size w (w3.setCell ⟨w.heap.size,2,none⟩ (.string ⟨v.toArray⟩)) from HB3.out.setCell l_ _);have HS4:=h_ (And.intro h4U h4LB);clear h4LB h4U y0 y1 y2 y3 s3 f32;generalize w3.setCell ⟨w.heap.size,2,none⟩ (.string ⟨v.toArray⟩)=w4 at *;refine Zk (S:=fun V=>V.heap[U]?=some (.cells cs 28 (0,0))/\V.heap[w.heap.size]?=some (.cells #[.string ⟨sec.toArray⟩,.string ⟨key.toArray⟩,.string ⟨v.toArray⟩,.int .i64 at_] 53 (0,0))) 5 k_ k_ (show _/\_ from HS4.out) (fun hHeld=>?_);refine u_ ?_;(iterate 5 refine dN_ 0 (gT_ rfl) (fun W hW=>by have q0:=((rd hW.1).1 0).trans E0.out;have q1:=((rd hW.1).1 1).trans E1.out;obtain ⟨x0,x1,x2,x3⟩:=Zdl hW.2;clear hW;go_simp;rfl) (u_ ?_));refine ZF k_ ?_;clear hHeld;have HB4d:=h_ (HB4.out.trans (show Below w.heap.size w4 w4.drew from Ze ⟨1,rfl⟩));go_wp2_with fail;refine (HLN.out _ HB4d.out).mono ?_;rintro e w5 ⟨rfl,hb5⟩;have HB5:=h_ (HB4d.out.trans (hb5.mono HB4d.out.size));have HL5:=h_ (Za (show w4.drew.heap[w.heap.size]?=_ from HS4.out.2) hb5);clear hb5;by_cases hc0:c=0
  ·subst hc0
   obtain ⟨k,hfk,hka,hks,hkn,hkv0⟩:=Zvz kind ⟨sec,key,v,at_⟩ HCC.out.symm;simp only at hfk hks hkn;have HFD:=h_ (Zm2 sec key w5);unfold Zpv at HFD;rw [hfk] at HFD;simp only [Option.isSome_some,Option.getD_some] at HFD;have HLU:=h_ (fun (uu:UV)=>@ZtK nm kind uu ⟨sec,key,val,at_⟩ v k HRR.out HCC.out.symm hfk);have HKA:=h_ hka;obtain ⟨z0,z1,z2,z3⟩:=Zdl HL5.out;clear hfk hka hks hkn hkv0;go_wp2_with fail;refine HFD.out.mono ?_;rintro e w6 ⟨⟨ksec,kname,kform,klist,kkinds,kwa,kwn,kwc⟩,rfl,hkv,hb6⟩;unfold Zm;simp only;have hB7:Below w6.heap.size w6 (w6.alloc (.cells #[.string ⟨ksec.toArray⟩,.string ⟨kname.toArray⟩,.int .i64 kform,.bool klist,.int .i64 kkinds,.slice kwa kwn kwc] 82)):=b_.alloc l_ _;have hb67:=Below.more hb6 hB7;have HB7:=h_ (HB5.out.trans (hb67.mono HB5.out.size));have hU7:=HU.out.fr (M:=fun k=>w.heap.size<=k) (show Fr (fun k=>w.heap.size<=k) w (w6.alloc (.cells #[.string ⟨ksec.toArray⟩,.string ⟨kname.toArray⟩,.int .i64 kform,.bool klist,.int .i64 kkinds,.slice kwa kwn kwc] 82)) from Fr.of_below HB7.out _) o_ (fun j k hk h=>by have:=(HU.out.lt j k hk).2;omega);have HPUT:=h_ (Zur U cs F u _ hU7 hT hlen (HM.out.below HB7.out) nm h0 k HKA.out ⟨ksec,kname,kform,klist,kkinds,kwa,kwn,kwc⟩ (hkv.below hB7) v hvl);unfold Zm at HPUT;simp only at HPUT;have HU7:=h_ hU7;clear hkv hb6 hB7 hb67 hU7 z0 z1 z2 z3;go_wp2_with fail;refine HPUT.out.mono ?_;rintro e w8 ⟨rfl,hp⟩;obtain ⟨cs',F',hU8,-,-,-⟩:=HU7.out.put (ZpW k HKA.out).1 hp;have HFR8:=h_ (show Fr (fun k=>k=U\/∃j,F j k) w w8 from (Fr.of_below HB7.out _).trans (hp.frame.mono (fun i _ h=>h.imp id (fun q=>⟨_,q⟩))));have HLU8:=h_ (HLU.out u);have hT8:ZH (u.upd (Zb k.name) (Zl nm k v (u (Zb k.name)))):=hT.upd _ _ (Zej nm k HKA.out v _);obtain ⟨r',hr'⟩:∃r',r'=u.upd (Zb k.name) (Zl nm k v (u (Zb k.name))):=⟨_,rfl⟩;rw [<-hr'] at hU8 hT8 HLU8;clear hp HPUT HU7 HFD HLU hr';cases hz:Qh k v with
   |false=>
    have HLE:=h_ (show Xi nm kind u ⟨sec,key,val,at_⟩=.error 12 by rw [HLU8.out,if_pos hz]);clear hz HLU8 hU8 hT8;go_wp2_with fail;go_ret;exact QF.err HFR8.out HLE.out
   |true=>
    have HLE:=h_ (show Xi nm kind u ⟨sec,key,val,at_⟩=if Xv r'=true then .error 2 else .ok r' by rw [HLU8.out,if_neg (by rw [hz];decide)]);have hlg:=ZmK r';have h4c:cs'[4]?=some (cs'[4]'(by rw [hU8.size];decide)):=Array.getElem?_eq_getElem (by rw [hU8.size];decide);obtain ⟨o4,cc4,e4⟩:=(hU8.fld 4 _ h4c).len (by rw [hT8 4];decide);rw [e4] at h4c;have d4:=((rd hU8.box).1 4).trans h4c;have HU8:=h_ hU8;have HLN8:=h_ (hU8.lens hT8);have HSZ:=h_ (show (prog.info? 28).map (·.size)=some cs'.size by rw [hU8.size];rfl);have HLD:=h_ (show ∀j v,cs'[j]?=some v->w8.cell? ⟨U,0+j,none⟩=some v from fun j v hv=>by rw [Nat.zero_add,(rd hU8.box).1];exact hv);have HLIST:=h_ (ZnX cs' r' w8 HLN8.out);clear hz HLU8 hU8 hT8 h4c e4;generalize (r' 4).len=n4 at *;by_cases h64:64<n4
    ·have HLL:=h_ (show Xv r'=true by rw [hlg];simp;left;omega)
     have hq:decide ((64:Int)<(n4:Int))=true:=n6_;have hq2:(64:Int)<(n4:Int):=o_;clear hlg;go_wp2_with fail;go_ret;exact QF.err HFR8.out (by rw [HLE.out,if_pos HLL.out])
    ·have hq2:¬(64:Int)<(n4:Int):=o_
     have hlg2:Xv r'=decide (16<Lib.maxOf (Jw r')):=by rw [hlg];simp [hq2]
     have HLG:=h_ hlg2;clear hlg hlg2;go_wp2_with (refine Zmf (by first|rfl|(simp [Region.wanted,yielded];omega)) 28 _ U 0 cs' _ rfl rfl HLD.out rfl rfl HSZ.out ?_);refine HLIST.out.mono ?_;rintro e w9 ⟨A,rfl,hA,hb9⟩;have HMX:=h_ (Tryz.slices_Max_int A 0 17 17 (Jw r') w9 d_ (by simp [Jw,QY]) d_ hA);rw [show (Jw r').take 17=Jw r' from c9_ (by simp [Jw,QY])] at HMX;have HFR9:=h_ (HFR8.out.trans (Fr.of_below hb9 _));have HU9:=h_ (HU8.out.below hb9);generalize Lib.maxOf (Jw r')=mx at *;clear hA hb9 HLIST;go_wp2_with fail;refine HMX.out.mono ?_;rintro e w10 ⟨rfl,rfl⟩;by_cases h16:(16:Int)<mx
     ·go_wp2_with fail
      go_ret;exact QF.err HFR9.out (by rw [HLE.out,if_pos (by rw [HLG.out];simpa using h16)])
     ·go_wp2_with fail
      go_ret;exact QF.ok HFR9.out (by rw [HLE.out,if_neg (by rw [HLG.out];simpa using h16)]) HU9.out
  ·have hc1:((c:Int)!=0)=true:=by rw [bne_iff_ne];exact hc0
   go_wp2_with fail;go_ret;exact QF.err (HFRB.out _ HB5.out) (by have h:=ZtM (u:=u) (kind:=kind) (x:=⟨sec,key,val,at_⟩) HRR.out (show lnS kind ⟨sec,key,v,at_⟩≠0 by rw [<-HCC.out];exact hc0);rw [HCC.out];exact h)
theorem m88_{p:Prop}(h:p:=by go_enter func30,ntmps30;go_wp2_with fail;go_ret;exact ⟨n14_,HB.out⟩):p:=h
theorem m89_{p:Prop}(h:p:=by have HR:=h_ (show c=0 by rw [<-HC.out,if_neg hnot,if_neg o_]);clear hnot;exact m88_):p:=h
theorem ZoS(cs:Array Value)(u:UV)(w:World)(hL:Zn9 cs u)(kind t:Int)(h1:cs[1]?=some (.int .i64 kind))(h7:cs[7]?=some (.int .i64 t))(ht:(u 7).num=t)(hlen:∀j,(u j).len<=100000)(c:Int)(hc:QO kind u=c) :
  Calls prog 30 #[.agg cs] w fun e w'=>e=.returned (.int .i64 c)/\Below w.heap.size w w':=by
 have hB:=(Below.refl w.heap.size w).alloc l_ (.cells cs 28);have hb:=(rd (heap_alloc_new w (.cells cs 28))).1;have HB:=h_ hB;have k1:=(hb 1).trans h1;have k7:=(hb 7).trans h7;obtain ⟨o9,p9,q9⟩:=hL 9 d_;have k9:=(hb 9).trans q9;obtain ⟨o21,p21,q21⟩:=hL 21 d_;have k21:=(hb 21).trans q21;obtain ⟨o25,p25,q25⟩:=hL 25 d_;have k25:=(hb 25).trans q25;obtain ⟨o26,p26,q26⟩:=hL 26 d_;have k26:=(hb 26).trans q26;obtain ⟨o27,p27,q27⟩:=hL 27 d_;have k27:=(hb 27).trans q27;obtain ⟨o28,p28,q28⟩:=hL 28 d_;have k28:=(hb 28).trans q28;have l9:=hlen 9;have l25:=hlen 25;have l26:=hlen 26;have l27:=hlen 27;have l28:=hlen 28;unfold QO at hc;rw [ht] at hc;generalize (u 9).len=n9 at *;generalize (u 21).len=n21 at *;generalize (u 25).len=n25 at *;generalize (u 26).len=n26 at *;generalize (u 27).len=n27 at *;generalize (u 28).len=n28 at *;have HC:=h_ hc;clear hL hB hb h1 h7 ht hlen q9 q21 q25 q26 q27 q28 hc;by_cases hk1:kind=1
 ·subst hk1
  by_cases hn:n9=0
  ·subst hn
   have HR:=h_ (show c=6 by rw [<-HC.out,if_pos (.inl ⟨rfl,rfl⟩)]);exact m88_
  ·have hn1:((n9:Int)==0)=false:=n15_
   have hnot:¬(((1:Int)=1/\n9=0)\/((1:Int)=2/\n21=0)\/((1:Int)=3/\n25+n26+n27+n28=0)):=o_;by_cases ht2:t=2
   ·subst ht2
    exact m89_
   ·have ht3:(t !=2)=true:=by rw [bne_iff_ne];exact ht2
    by_cases hn2:1<n9
    ·have hn3:(1:Int)<(n9:Int):=o_
     have HR:=h_ (show c=7 by rw [<-HC.out,if_neg hnot,if_pos ⟨rfl,ht2,hn2⟩]);clear hnot;exact m88_
    ·have hn3:¬(1:Int)<(n9:Int):=o_
     exact m89_
 by_cases hk2:kind=2
 ·subst hk2
  by_cases hn:n21=0
  ·subst hn
   have HR:=h_ (show c=6 by rw [<-HC.out,if_pos (.inr (.inl ⟨rfl,rfl⟩))]);exact m88_
  ·have hn1:((n21:Int)==0)=false:=n15_
   have HR:=h_ (show c=0 by rw [<-HC.out,if_neg o_,if_neg o_]);exact m88_
 by_cases hk3:kind=3
 ·subst hk3
  by_cases hn:n25+n26+n27+n28=0
  ·obtain ⟨rfl,rfl,rfl,rfl⟩:n25=0/\n26=0/\n27=0/\n28=0:=o_
   have HR:=h_ (show c=6 by rw [<-HC.out,if_pos (.inr (.inr ⟨rfl,rfl⟩))]);exact m88_
  ·have hn1:((n25:Int)+(n26:Int)+(n27:Int)+(n28:Int)==0)=false:=n15_
   have HR:=h_ (show c=0 by rw [<-HC.out,if_neg o_,if_neg o_]);clear hn;exact m88_
 ·have HR:=h_ (show c=0 by rw [<-HC.out,if_neg o_,if_neg o_])
  have e1:(kind==1)=false:=by rw [c11_];exact hk1
  have e2:(kind==2)=false:=by rw [c11_];exact hk2
  have e3:(kind==3)=false:=by rw [c11_];exact hk3
  clear hk1 hk2 hk3;exact m88_
theorem m90_{p:Prop}(h:p:=by exact (HB8.trans (hf9.below _ HB8.size (fun k hk e=>by omega))).trans (hend.2.2.below _ (Nat.le_trans HB8.size hf9.size) (fun k hk e=>by omega))):p:=h
structure Qj(w:World)(cs:Array Value)(u:UV):Prop where
 size:cs.size=35
 fld:∀j v,cs[j]?=some v->Y5 w (fun _=>True) (u j) v
theorem Qj.below{w w':World}{cs:Array Value}{u:UV}(h:Qj w cs u)(hb:Below w.heap.size w w'):Qj w' cs u:=
 ⟨h.size,fun j v hv=>(h.fld j v hv).fr (M:=fun _=>False) (Fr.of_below hb _) (fun _ _ e=>e)⟩
theorem Y7.rd{w:World}{U:Nat}{cs:Array Value}{F:Nat->Nat->Prop}{u:UV}(h:Y7 w U cs F u):Qj w cs u:=⟨h.size,fun j v hv=>(h.fld j v hv).mono (fun _ _=>trivial)⟩
theorem Qj.zero(w:World):Qj w Zf ZK:=by
 rw [<-Zqt];refine ⟨by simp [Yz],fun j v hv=>?_⟩;have hj:j<35:=by have:=(c6_.1 hv).1;simpa [Yz] using this
 have:v=ZnK (ZK j):=by
  simp only [Yz,c1_,List.getElem?_map,List.getElem?_range hj,Option.map_some] at hv;injection hv with hv;exact hv.symm
 rw [this];exact (Zj5 w _ (ZbS j)).mono (fun _ h=>h.elim)
theorem Y5.one{w:World}{F:Nat->Prop}:∀{c:UC} {v:Value},Y5 w F c v->v.oneCell'=true
 |.s _,_,h=>by rw [show _=_ from h];rfl
 |.n _,_,h=>by rw [show _=_ from h];rfl
 |.b _,_,h=>by rw [show _=_ from h];rfl
 |.ss _,_,h=>n49_
 |.ns _,_,h=>n49_
 |.rs _,_,h=>n49_
 |.ps _,_,h=>n49_
 |.cs _,_,h=>by obtain ⟨_,_,h,_⟩:=h;obtain ⟨_,_,rfl⟩:=ownsRow_form h;rfl
theorem Qj.one{w:World}{cs:Array Value}{u:UV}(h:Qj w cs u):(cs.all fun x=>x.oneCell')=true:=by
 rw [Array.all_eq_true];intro i hi;exact (h.fld i _ (Array.getElem?_eq_getElem hi)).one
theorem Zrt{P:Program}{w:World}{fn:Func}{tmps:Array Value}(a b:Nat)(t t2:TypeId)(ba bb:Nat)(v v2:Value)(hf:fn.results=#[.cell a t,.cell b t2])(ha:tmps.getD a undef=.pointer (some ⟨ba,0,none⟩))(hb:tmps.getD b undef=.pointer (some ⟨bb,0,none⟩))
  (hl:(loadVar t ⟨ba,0,none⟩).run P w=.ok v w) (hl2:(loadVar t2 ⟨bb,0,none⟩).run P w=.ok v2 w):Sem.run P (results fn tmps) w=.ok (.tuple #[v,v2]) w:=by
 unfold results;have hA:(asAddr (.pointer (some ⟨ba,0,none⟩))).run P w=.ok ⟨ba,0,none⟩ w:=rfl;have hB:(asAddr (.pointer (some ⟨bb,0,none⟩))).run P w=.ok ⟨bb,0,none⟩ w:=rfl;rw [hf];simp only [List.mapM_toArray,List.mapM_cons,List.mapM_nil,ha,hb,Sem.run_bind,hA,hB,hl,hl2,Sem.run_pure,Result.andThen_ok,map_eq_pure_bind];rfl
theorem Za2{P:Program}{w:World}{fn:Func}{R:Ending->World->Prop}{x:Act}(a b:Nat)(t t2:TypeId)(ba bb:Nat)(v v2:Value)(hf:fn.results=#[.cell a t,.cell b t2])(hd:x.defers=[])(ha:x.tmps.getD a undef=.pointer (some ⟨ba,0,none⟩))(hb:x.tmps.getD b undef=.pointer (some ⟨bb,0,none⟩))
  (hl:(loadVar t ⟨ba,0,none⟩).run P w=.ok v w) (hl2:(loadVar t2 ⟨bb,0,none⟩).run P w=.ok v2 w) (h:R (.returned (.tuple #[v,v2])) w):bodyPost P fn R .ret x w:=
 ⟨hd,.tuple #[v,v2],Zrt a b t t2 ba bb v v2 hf ha hb hl hl2,h⟩
theorem Zm9{a:Act}{w:World}{o:Oper}(ho:o.op=Op.build 28 #[]):(execOp a.eval o).run prog w=.ok (.value (.agg Zf)) w:=by
 unfold execOp;simp only [ho]
 have:=Xl w
 simp only [List.map_toArray,List.map_nil,Sem.run_bind,this];rfl
theorem ZhP{nm:Str}{kind:Int}{u r:UV}{x:Ln}(h:Xi nm kind u x=.ok r):∃k∈Zc,∃v,r=u.upd (Zb k.name) (Zl nm k v (u (Zb k.name)))/\Xv r=false:=by
 unfold Xi at h;split at h
 ·cases h
 ·rename_i v hv
  split at h
  ·cases h
  ·split at h
   ·cases h
   ·rename_i k hk
    split at h
    ·cases h
    ·split at h
     ·cases h
     ·rename_i hl
      injection h with h
      subst h;exact ⟨k,Zit _ _ k hk,v,rfl,by simpa using hl⟩
theorem ZsJ:(List.range 35).all (fun j=>QY.contains j||j==4||decide ((ZK j).tag<3))=true:=n1_
theorem Zua(j:Nat)(h:j∉QY)(h4:¬j=4):(ZK j).tag<3:=by
 by_cases hj:j<35
 ·have:=c7_.1 ZsJ j (List.mem_range.2 hj)
  simp only [Bool.or_eq_true,beq_iff_eq,decide_eq_true_eq,List.contains_iff_mem] at this;rcases this with (h1|h1)|h1
  ·exact absurd h1 h
  ·exact absurd h1 h4
  ·exact h1
 ·unfold ZK
  rw [if_neg o_,if_neg o_,if_neg o_,if_neg o_,if_neg o_,if_neg o_,if_neg o_];decide
theorem ZuR{u:UV}(hT:ZH u)(hl:Xv u=false)(j:Nat):(u j).len<=100000:=by
 have h:=(Zp9 u).1 hl j;unfold Znm at h;split at h
 ·have:=of_decide_eq_false h;omega
 ·rename_i h4
  by_cases hc:QY.contains j=true
  ·rw [hc] at h
   simp only [Bool.true_and] at h
   have:=of_decide_eq_false h;omega
  ·have h0:(u j).tag<3:=by
    rw [hT j];exact Zua j (fun h=>hc (List.contains_iff_mem.2 h)) h4
   generalize u j=c at h0⊢;cases c<;>simp [UC.tag,UC.len] at h0⊢
theorem X9{w:World}{b:Nat}{x y:Value}{T:TypeId}(h:w.heap[b]?=some (.cells #[x,y] T (0,0))):w.cell? ⟨b,0,none⟩=some x/\w.cell? ⟨b,1,none⟩=some y/\w.frozen? ⟨b,0,none⟩=false/\w.frozen? ⟨b,1,none⟩=false/\w.shape? b=some (T,2):=
 ⟨n26_,n26_,(rd h).2.1 0,(rd h).2.1 1,(rd h).2.2.1⟩
theorem ZcU{w9:World}{U0 FB:Nat}{cs9:Array Value}(h9:w9.heap[U0]?=some (.cells cs9 28 (0,0)))(hF9:w9.heap[FB]?=some (.cells #[.int .i64 0,.int .i64 0] 37 (0,0)))(hne:U0≠FB)(c a:Int)(h35:cs9.size=35:=by rfl) :
  (loadVar 28 ⟨U0,0,none⟩).run prog ((w9.setCell ⟨FB,0,none⟩ (.int .i64 c)).setCell ⟨FB,1,none⟩ (.int .i64 a))=.ok (.agg cs9) ((w9.setCell ⟨FB,0,none⟩ (.int .i64 c)).setCell ⟨FB,1,none⟩ (.int .i64 a))/\
  (loadVar 37 ⟨FB,0,none⟩).run prog ((w9.setCell ⟨FB,0,none⟩ (.int .i64 c)).setCell ⟨FB,1,none⟩ (.int .i64 a))=.ok (.agg #[.int .i64 c,.int .i64 a]) ((w9.setCell ⟨FB,0,none⟩ (.int .i64 c)).setCell ⟨FB,1,none⟩ (.int .i64 a))/\
  Fr (fun k=>k=FB) w9 ((w9.setCell ⟨FB,0,none⟩ (.int .i64 c)).setCell ⟨FB,1,none⟩ (.int .i64 a)):=by
 have e1:=ZC (ZC h9 (a:=⟨FB,0,none⟩) hne (.int .i64 c)) (a:=⟨FB,1,none⟩) hne (.int .i64 a);have e2:=heap_setCell (heap_setCell hF9 0 (.int .i64 c)) 1 (.int .i64 a);refine ⟨Y2 28 _ rfl rfl (by rw [h35];rfl) e1,Y2 37 _ rfl rfl rfl e2,?_⟩;exact Fr.setCell (M:=fun k=>k=FB) (Fr.setCell (M:=fun k=>k=FB) (Fr.refl _ _) (p:=⟨FB,0,none⟩) (fun _=>rfl) _) (p:=⟨FB,1,none⟩) (fun _=>rfl) _
theorem Zdz(u:UV)(j:Nat)(hj:j<35):(Yz u)[j]?=some (ZnK (u j)):=by
 simp only [Yz,c1_,List.getElem?_map,List.getElem?_range hj,Option.map_some]
theorem ZlC(w:World)(u:UV)(h:∀j,(u j).len=0):Qj w (Yz u) u:=by
 refine ⟨by simp [Yz],fun j v hv=>?_⟩;have hj:j<35:=by have:=(c6_.1 hv).1;simpa [Yz] using this
 rw [Zdz u j hj] at hv;injection hv with hv
 rw [<-hv];exact (Zj5 w _ (h j)).mono (fun _ h=>h.elim)
theorem ZqR(nm:Str):Zw nm 1=.n (Zt nm:Nat):=by
 unfold Zw;split
 ·rename_i h;rw [h];rfl
 ·simp only
  split
  ·rfl
  ·split<;>rfl
theorem Zqf(nm:Str)(h:Zt nm≠0):Zw nm 0=.s nm:=by
 unfold Zw;rw [if_neg h];split
 ·rfl
 ·split<;>rfl
def Zj9(w:World)(r:UV×(Int×Int))(e:Ending)(w':World):Prop:=
 Below w.heap.size w w'/\∃cs,e=.returned (.tuple #[.agg cs,.agg #[.int .i64 r.2.1,.int .i64 r.2.2]])/\Qj w' cs r.1
theorem Zf0(nm:Str)(l:List Ln)(oa:Option Addr)(cap:Nat)(w:World)(hM:Zz w)(hr:ZG ZU 4 w oa l)(hl:l.length<=4294967296)(hx:∀x∈l,x.val.length<=1000000000/\∀v,Qq x.val nm=.ok v->v.length<=500000000)(hnm:nm.length<=500000000) :
  Calls prog 15 #[.string ⟨nm.toArray⟩,.slice oa l.length cap] w fun e w'=>Zj9 w (Yn nm l) e w':=by
 have HM:=h_ hM;have HR:=h_ hr;have HX:=h_ hx;obtain ⟨kind,hkind⟩:∃kind,Zt nm=kind:=⟨_,rfl⟩;have hkl:kind<=4:=by rw [<-hkind];exact J3 nm
 have HK:=h_ hkind;have hk1:Zw nm 1=.n (kind:Nat):=by rw [<-hkind];exact ZqR nm
 have HK1:=h_ hk1;have HN:=h_ (fun W (h:Below w.heap.size w W)=>Zky nm W o_ (hM.below h));have Z0:=h_ ZhD;have Z1:=h_ (Qj.one (ZlC w (Zw nm) (Zc1 nm)));obtain ⟨bb,hbb⟩:∃bb,Zd7 nm=bb:=⟨_,rfl⟩;have HBB:=h_ hbb;have HBR:=h_ (fun W (h:Below w.heap.size w W)=>Zmd ⟨nm.toArray⟩ W (by show nm.toArray.size<_;simp;omega) (hM.below h) bb hbb);clear hM hr hx hkind hk1 hbb;go_enter func15,ntmps15;go_wp2_with (refine YW rfl _ Zf rfl (ZJ _) ?_;intro w1 h1 hb1);have hBf:Below w1.heap.size w1 (w1.alloc (.cells #[.int .i64 0,.int .i64 0] 37)):=b_.alloc l_ _;have hbf:=Below.more hb1 hBf;have HF1:=h_ (heap_alloc_new w1 (.cells #[.int .i64 0,.int .i64 0] 37));have HU1:=h_ (Za h1 hBf);refine (HN.out _ hbf).mono ?_;rintro e w2 ⟨rfl,hb2⟩;have HB2:=h_ (Below.more hbf hb2);have HU2:=h_ (Za HU1.out hb2);have HF2:=h_ (Za HF1.out hb2);have hl0:w.heap.size<w1.heap.size:=Zd h1;have hl1:w1.heap.size<w2.heap.size:=Zd HF2.out;obtain ⟨FB,hFB⟩:=e_ w1.heap.size;rw [<-hFB] at HF2 hl0 hl1⊢;clear hb1 h1 hBf hbf hb2 HU1 HF1 hFB;have HSV:=h_ (show (Yz (Zw nm)).size=35 by simp [Yz]);have HSI:=h_ (show (prog.info? 28).map (·.size)=some (Yz (Zw nm)).size by rw [HSV.out];rfl);have HSS:=h_ (show Zf.size=(Yz (Zw nm)).size by rw [HSV.out];rfl);have HKC:=h_ (show (Yz (Zw nm))[1]?=some (.int .i64 (kind:Nat)) by rw [Zdz _ 1 d_,HK1.out];rfl);have HZ:=h_ (show ∀w3 w4:World,Below w2.heap.size w2 w3->Fr (fun x=>x=w2.heap.size) w3 w4->w4.heap[w.heap.size]?=some (.cells Zf 28 (0,0))/\w4.heap[FB]?=some (.cells #[.int .i64 0,.int .i64 0] 37 (0,0))/\Below w.heap.size w w4 from by
  intro w3 w4 hb3 hf4;have e1:=Za HU2.out hb3;have e2:=Za HF2.out hb3;refine ⟨hf4.heap e1 o_,hf4.heap e2 o_,HB2.out.trans ?_⟩;exact (hb3.mono o_).trans (hf4.below _ (by have:=hb3.size;omega) (fun k hk e=>by omega)))
 have hneF:FB≠w.heap.size:=o_;have hneF2:¬FB=w.heap.size:=o_;by_cases hk0:kind=0
 ·subst hk0
  have HRES:=h_ (show Yn nm l=(ZK,(5,0)) by unfold Yn;rw [if_pos (.inl HK.out)]);go_wp2_with (first
   |(refine YW rfl _ Zf rfl (ZJ _) ?_;intro w3 h3 hb3)
   |(refine Yr rfl 28 _ _ w2.heap.size (Yz (Zw nm)) Zf 28 rfl rfl rfl h3 HSS.out HSI.out Z1.out ?_;intro w4 h4 hf4;have hc1:=((rd h4).1 1).trans HKC.out;have hu:=(HZ.out w3 w4 hb3 hf4).1;have hF:=(HZ.out w3 w4 hb3 hf4).2.1;have hB4:=(HZ.out w3 w4 hb3 hf4).2.2)
   |(refine Qg rfl _ #[] #[] _ rfl s_ (Xl _) ?_)
   |(refine Yr rfl 28 _ _ w.heap.size Zf Zf 28 rfl rfl rfl hu rfl rfl Z0.out ?_;intro w9 h9 hf9;have hF9:=hf9.heap hF hneF2;obtain ⟨g0,g1,g2,g3,g4⟩:=X9 hF9))
  have hend:=ZcU h9 hF9 hneF.symm 5 0;refine Za2 4 5 28 37 w.heap.size FB _ _ rfl rfl rfl rfl hend.1 hend.2.1 ⟨?_,Zf,by rw [HRES.out],by rw [HRES.out];exact Qj.zero _⟩;exact (hB4.trans (hf9.below _ hB4.size (fun k hk e=>by omega))).trans (hend.2.2.below _ (Nat.le_trans hB4.size hf9.size) (fun k hk e=>by omega))
 ·have hk2:(((kind:Nat):Int)==0)=false:=n15_
  cases bb with
  |true=>
   have HRES:=h_ (show Yn nm l=(ZK,(5,0)) by unfold Yn;rw [if_pos (.inr HBB.out)]);go_wp2_with (first
    |(refine YW rfl _ Zf rfl (ZJ _) ?_;intro w3 h3 hb3)
    |(refine Yr rfl 28 _ _ w2.heap.size (Yz (Zw nm)) Zf 28 rfl rfl rfl h3 HSS.out HSI.out Z1.out ?_;intro w4 h4 hf4;have hc1:=((rd h4).1 1).trans HKC.out;have hu:=(HZ.out w3 w4 hb3 hf4).1;have hF:=(HZ.out w3 w4 hb3 hf4).2.1;have hB4:=(HZ.out w3 w4 hb3 hf4).2.2))
   refine (HBR.out _ hB4).mono ?_;rintro e w5 ⟨rfl,hb5⟩;have hu5:=Za hu hb5;have hF5:=Za hF hb5;have hB5:=hB4.trans (hb5.mono hB4.size);go_wp2_with (first
    |(refine Qg rfl _ #[] #[] _ rfl s_ (Xl _) ?_)
    |(refine Yr rfl 28 _ _ w.heap.size Zf Zf 28 rfl rfl rfl hu5 rfl rfl Z0.out ?_;intro w9 h9 hf9;have hF9:=hf9.heap hF5 hneF2;obtain ⟨g0,g1,g2,g3,g4⟩:=X9 hF9))
   have hend:=ZcU h9 hF9 hneF.symm 5 0;refine Za2 4 5 28 37 w.heap.size FB _ _ rfl rfl rfl rfl hend.1 hend.2.1 ⟨?_,Zf,by rw [HRES.out],by rw [HRES.out];exact Qj.zero _⟩;exact (hB5.trans (hf9.below _ hB5.size (fun k hk e=>by omega))).trans (hend.2.2.below _ (Nat.le_trans hB5.size hf9.size) (fun k hk e=>by omega))
  |false=>
   go_wp2_with (first
    |(refine YW rfl _ Zf rfl (ZJ _) ?_;intro w3 h3 hb3)
    |(refine Yr rfl 28 _ _ w2.heap.size (Yz (Zw nm)) Zf 28 rfl rfl rfl h3 HSS.out HSI.out Z1.out ?_;intro w4 h4 hf4;have hc1:=((rd h4).1 1).trans HKC.out;have hu:=(HZ.out w3 w4 hb3 hf4).1;have hF:=(HZ.out w3 w4 hb3 hf4).2.1;have hB4:=(HZ.out w3 w4 hb3 hf4).2.2))
   refine (HBR.out _ hB4).mono ?_;rintro e w5 ⟨rfl,hb5⟩;have HU5:=h_ (Za hu hb5);have HF5:=h_ (Za hF hb5);have HB5:=h_ (hB4.trans (hb5.mono hB4.size));have HO5:=h_ (Zq8 (Zw nm) (Zc1 nm) (Za h4 hb5));obtain ⟨UB,hUB⟩:=e_ w2.heap.size;rw [<-hUB] at HO5 hl1⊢;clear hu hF hB4 hb5 h4 hf4 h3 hb3 hc1 HZ hUB;have HRES:=h_ (show Yn nm l=(match Z9 nm (kind:Nat) (Zw nm) l with
    |.error e=>(ZK,e)
    |.ok u=>if QO (kind:Nat) u≠0 then (ZK,(QO (kind:Nat) u,0)) else (u,(0,0))) by
     unfold Yn;rw [if_neg (by rw [HK.out,HBB.out];simp;exact hk0),HK.out]<;>rfl)
   go_wp2_with fail;go_loopg [24] (l.length+1) (fun f i wr=>∃(k:Nat) (cs:Array Value) (F:Nat->Nat->Prop) (u:UV),k<=l.length/\i=.int .i64 k/\l.length-k<f/\Hid (Y7 wr UB cs F u)/\Hid (ZH u)/\Hid (∀j,(u j).len<=100000)/\Hid (u 0=.s nm)/\Hid (u 1=.n (kind:Nat))/\
    Hid (Z9 nm (kind:Nat) u (l.drop k)=Z9 nm (kind:Nat) (Zw nm) l)/\Hid (wr.heap[w.heap.size]?=some (.cells Zf 28 (0,0)))/\Hid (wr.heap[FB]?=some (.cells #[.int .i64 0,.int .i64 0] 37 (0,0)))/\Hid (Below w.heap.size w wr))
   case atStart=>exact ⟨0,_,_,_,o_,rfl,o_,HO5,ZH.new nm,fun j=>by rw [Zc1];omega,Zqf nm (by rw [HK.out];exact hk0),HK1.out,by rw [List.drop_zero];rfl,HU5,HF5,HB5⟩
   case round=>
    obtain ⟨k,cs,F,u,hk,rfl,hfu,HO,HT,HLN,H0,H1,HQ,HUr,HFr,HBr⟩:=hrel;clear HO5 HU5 HF5 HB5;by_cases hlt:k<l.length
    ·have hz:(k:Int)<(l.length:Int):=o_
     obtain ⟨x,hx⟩:=e_ (l[k]);obtain ⟨b4,o4,rfl,-,hcc⟩:=(HR.out.below HBr.out) k hlt;rw [<-hx] at hcc;have d0:=hcc 0 _ rfl;have d1:=hcc 1 _ rfl;have d2:=hcc 2 _ rfl;have d3:=hcc 3 _ rfl;simp only [Nat.add_zero] at d0;have hxm:x.val.length<=1000000000/\∀v,Qq x.val nm=.ok v->v.length<=500000000:=by rw [hx];exact HX.out _ (List.getElem_mem hlt)
     have hdr:l.drop k=x::l.drop (k+1):=n76_;have HQ2:=h_ (show Z9 nm (kind:Nat) (Zw nm) l=match Xi nm (kind:Nat) u x with|.error e=>.error (e,x.at_)|.ok r=>Z9 nm (kind:Nat) r (l.drop (k+1)) by rw [<-HQ.out,hdr,Z9]<;>rfl);obtain ⟨xsec,xkey,xval,xat⟩:=x;have hBx:Below wr.heap.size wr (wr.alloc (.cells #[.string ⟨xsec.toArray⟩,.string ⟨xkey.toArray⟩,.string ⟨xval.toArray⟩,.int .i64 xat] 53)):=b_.alloc l_ _;have HBx:=h_ (HBr.out.trans (hBx.mono HBr.out.size));have hOx:=HO.out.below hBx;have HOx:=h_ hOx;have hLn:=ZrA UB cs F u _ hOx HT.out HLN.out (HM.out.below HBx.out) nm (kind:Nat) H0.out H1.out o_ ⟨xsec,xkey,xval,xat⟩ hxm.1 hxm.2;unfold ZU at hLn;have HLNE:=h_ hLn;have HXB:=h_ (heap_alloc_new wr (.cells #[.string ⟨xsec.toArray⟩,.string ⟨xkey.toArray⟩,.string ⟨xval.toArray⟩,.int .i64 xat] 53));have HUx:=h_ (Za HUr.out hBx);have HFx:=h_ (Za HFr.out hBx);have hwsz:=HBr.out.size;have hUBw:=Zd HO.out.box;have HFw:=h_ (show ∀j b,F j b->b<wr.heap.size from fun j b h=>(HO.out.lt j b h).2);clear hx hdr hcc hxm hBx hOx hLn HUr HFr HO;go_wp2_with fail;refine HLNE.out.mono ?_;intro e w8 hlo;have hUBl:=Zd HOx.out.box;have hnot:∀b,b<UB->¬(b=UB\/∃j,F j b):=by
      rintro b hb (h|⟨j,h⟩)
      ·omega
      ·have:=(HOx.out.lt j b h).1;omega
     have HU8:=h_ (hlo.1.heap HUx.out (hnot _ o_));have HF8:=h_ (hlo.1.heap HFx.out (hnot _ o_));have HX8:=h_ (hlo.1.heap HXB.out (by
      rintro (h|⟨j,h⟩)
      ·omega
      ·have:=HFw.out j _ h;omega))
     have HB8:=h_ (HBx.out.trans (hlo.1.below _ HBx.out.size (fun b hb=>hnot b o_)));obtain ⟨-,hlo⟩:=hlo;cases hres:Xi nm (kind:Nat) u ⟨xsec,xkey,xval,xat⟩ with
     |error c=>
      rw [hres] at hlo HQ2;simp only at hlo;subst hlo;have hc0:((c:Int)!=0)=true:=by rw [bne_iff_ne];exact ZjY nm (kind:Nat) u _ c hres
      have HRE:=h_ (show Yn nm l=(ZK,(c,xat)) by rw [HRES.out,HQ2.out]);have HHS:=h_ (And.intro HU8.out (And.intro HF8.out HX8.out));clear hres hnot;go_wp2_with fail;refine Zk (S:=fun V=>V.heap[w.heap.size]?=some (.cells Zf 28 (0,0))/\V.heap[FB]?=some (.cells #[.int .i64 0,.int .i64 0] 37 (0,0))/\V.heap[wr.heap.size]?=some (.cells #[.string ⟨xsec.toArray⟩,.string ⟨xkey.toArray⟩,.string ⟨xval.toArray⟩,.int .i64 xat] 53 (0,0))) 6 k_ k_ (show _/\_/\_ from HHS.out) (fun hHeld=>?_);refine u_ ?_;refine dT_ (i:=0) (v:=.agg Zf) (gT_ rfl) (fun W hW=>Zm9 rfl) (u_ ?_);(iterate 4 refine dN_ 0 (gT_ rfl) (fun W hW=>by obtain ⟨x0,x1,x2,x3⟩:=Zdl hW.2.2;clear hW;go_simp;rfl) (u_ ?_));refine Zu (i:=5) (gT_ rfl) k_ k_ (fun K hK=>?_);clear hHeld;rw [if_pos n18_];refine Zc0 28 (.tmp 4) (.tmp 32) w.heap.size Zf Zf 28 rfl rfl rfl (show w8.drew.heap[w.heap.size]?=_ from HHS.out.1) rfl rfl Z0.out ?_;intro w9 h9 hf9;have HU9:=h_ h9;have HF9:=h_ (hf9.heap (show w8.drew.heap[FB]?=_ from HHS.out.2.1) hneF2);have HX9:=h_ (hf9.heap (show w8.drew.heap[wr.heap.size]?=_ from HHS.out.2.2) o_);have HB9:=h_ ((HB8.out.trans (show Below w.heap.size w8 w8.drew from Ze ⟨1,rfl⟩)).trans (hf9.below _ HB8.out.size (fun k hk e=>by omega)));refine hK.out _ _ (show _/\_/\_ from ⟨HU9.out,HF9.out,HX9.out⟩) (fun hHeld=>?_);clear hK K h9 hf9;refine u_ ?_;refine ZF k_ ?_;clear hHeld;obtain ⟨g0,g1,g2,g3,g4⟩:=X9 HF9.out;go_wp2_with fail;have hend:=ZcU HU9.out HF9.out hneF.symm c xat;refine Za2 4 5 28 37 w.heap.size FB _ _ rfl rfl rfl rfl hend.1 hend.2.1 ⟨?_,Zf,by rw [HRE.out],by rw [HRE.out];exact Qj.zero _⟩;exact HB9.out.trans (hend.2.2.below _ HB9.out.size (fun k hk e=>by omega))
     |ok r=>
      rw [hres] at hlo HQ2;obtain ⟨rfl,cs',F',hO8⟩:=hlo;obtain ⟨kk,hkk,v,hr,hlong⟩:=ZhP hres;have HT8:=h_ (show ZH r from by rw [hr];exact HT.out.upd _ _ (Zej nm kk hkk v _));have HL8:=h_ (ZuR HT8.out hlong);have H08:=h_ (show r 0=.s nm by rw [hr,UV.upd_ne _ _ (fun e=>(ZpW kk hkk).2.1 e.symm)];exact H0.out);have H18:=h_ (show r 1=.n (kind:Nat) by rw [hr,UV.upd_ne _ _ (fun e=>(ZpW kk hkk).2.2 e.symm)];exact H1.out);have HO8:=h_ hO8;have HQ3:=h_ (show Z9 nm (kind:Nat) r (l.drop (k+1))=Z9 nm (kind:Nat) (Zw nm) l from HQ2.out.symm);clear hres hr hlong hO8 hnot hkk;go_wp2_with fail;go_roundg (gk-1)
      case measure=>omega
      case rel=>exact ⟨k+1,cs',F',r,o_,n9_,o_,HO8,HT8,HL8,H08,H18,HQ3,HU8,HF8,HB8⟩
    ·have hk3:k=l.length:=o_
     subst hk3;have HQ2:=h_ (show Z9 nm (kind:Nat) (Zw nm) l=.ok u by rw [<-HQ.out,List.drop_of_length_le l_];rfl);have hc7:cs[7]?=some (cs[7]' n66_):=Array.getElem?_eq_getElem n66_;have hc1:cs[1]?=some (cs[1]' n66_):=Array.getElem?_eq_getElem n66_;have hf7:=HO.out.fld 7 _ hc7;have hf1:=HO.out.fld 1 _ hc1;rw [H1.out] at hf1;rw [show cs[1]' n66_=Value.int .i64 (kind:Nat) from hf1] at hc1;obtain ⟨t7,ht7⟩:=Ztu (HT.out 7);rw [ht7] at hf7;rw [show cs[7]' n66_=Value.int .i64 t7 from hf7] at hc7;obtain ⟨c,hcc⟩:∃c,QO (kind:Nat) u=c:=⟨_,rfl⟩;have HWH:=h_ (ZoS cs u wr (HO.out.lens HT.out) (kind:Nat) t7 hc1 hc7 (by rw [ht7];rfl) HLN.out c hcc);have HSC:=h_ (show (prog.info? 28).map (·.size)=some cs.size by rw [HO.out.size];rfl);have HRE:=h_ (show Yn nm l=if c≠0 then (ZK,(c,0)) else (u,(0,0)) by rw [HRES.out,HQ2.out];simp only;rw [hcc]);have hbox:=HO.out.box;have hUBl:=Zd hbox;clear hc7 hc1 hf7 hf1 ht7 hcc HQ HQ2 HRES;go_wp2_with (refine QS rfl 28 _ UB cs 28 _ rfl rfl hbox rfl rfl HSC.out ?_);refine HWH.out.mono ?_;rintro e w8 ⟨rfl,hb8⟩;have hU8:=Za HUr.out hb8;have hF8:=Za HFr.out hb8;have HB8:=HBr.out.trans (hb8.mono HBr.out.size);have HO8:=h_ (HO.out.below hb8);clear hb8;by_cases hc0:c=0
     ·subst hc0
      have hbox8:=HO8.out.box;have HON:=h_ (HO8.out.rd.one);have HSZ0:=h_ (show Zf.size=cs.size by rw [HO8.out.size];rfl);go_wp2_with (first
       |(refine QS rfl 28 _ UB cs 28 _ rfl rfl hbox8 rfl rfl HSC.out ?_)
       |(refine Yr rfl 28 _ _ w.heap.size cs Zf 28 rfl rfl rfl hU8 HSZ0.out HSC.out HON.out ?_;intro w9 h9 hf9;have hF9:=hf9.heap hF8 hneF2;obtain ⟨g0,g1,g2,g3,g4⟩:=X9 hF9))
      have hend:=ZcU h9 hF9 hneF.symm 0 0 HO8.out.size;have hOe:=(HO8.out.fr hf9 o_ (fun j b h e=>by have:=(HO8.out.lt j b h).1;omega)).fr hend.2.2 o_ (fun j b h e=>by have:=(HO8.out.lt j b h).1;omega);refine Za2 4 5 28 37 w.heap.size FB _ _ rfl rfl rfl rfl hend.1 hend.2.1 ⟨?_,cs,by rw [HRE.out];rfl,by rw [HRE.out,if_neg (fun h=>h rfl)];exact hOe.rd⟩;exact m90_
     ·have hc1:((c:Int)!=0)=true:=by rw [bne_iff_ne];exact hc0
      go_wp2_with (first
       |(refine Qg rfl _ #[] #[] _ rfl s_ (Xl _) ?_)
       |(refine Yr rfl 28 _ _ w.heap.size Zf Zf 28 rfl rfl rfl hU8 rfl rfl Z0.out ?_;intro w9 h9 hf9;have hF9:=hf9.heap hF8 hneF2;obtain ⟨g0,g1,g2,g3,g4⟩:=X9 hF9))
      have hend:=ZcU h9 hF9 hneF.symm c 0;refine Za2 4 5 28 37 w.heap.size FB _ _ rfl rfl rfl rfl hend.1 hend.2.1 ⟨?_,Zf,by rw [HRE.out,if_pos hc0],by rw [HRE.out,if_pos hc0];exact Qj.zero _⟩;exact m90_
theorem ZqK(nm:Str)(l:List Ln)(oa:Option Addr)(cap:Nat)(w:World)(hM:Zz w)(hr:ZG ZU 4 w oa l)(hl:l.length<=4294967296)(hx:∀x∈l,x.val.length<=1048576)(hnm:nm.length<=500000000) :
  Calls prog 15 #[.string ⟨nm.toArray⟩,.slice oa l.length cap] w fun e w'=>Zj9 w (Yn nm l) e w' :=
 Zf0 nm l oa cap w hM hr hl (fun x h=>⟨by have:=hx x h;omega,fun v hv=>Zs2 hv (hx x h)⟩) hnm
structure Kept(lo hi:Nat)(a a':Act):Prop where
 size:a'.tmps.size=a.tmps.size
 defers:a'.defers=a.defers
 slot:∀i,i<lo\/hi<i->a'.tmps[i]?=a.tmps[i]?
theorem Kept.refl(lo hi:Nat)(a:Act):Kept lo hi a a:=⟨rfl,rfl,fun _ _=>rfl⟩
theorem Kept.trans{lo hi:Nat}{a b c:Act}(h:Kept lo hi a b)(k:Kept lo hi b c):Kept lo hi a c:=⟨k.size.trans h.size,k.defers.trans h.defers,fun i hi=>(k.slot i hi).trans (h.slot i hi)⟩
theorem Kept.put{lo hi d:Nat}{a b:Act}(h:Kept lo hi a b)(v:Value)(h1:lo<=d)(h2:d<=hi):Kept lo hi a (b.put (some d) v):=by
 refine ⟨by simp [Act.put,h.size],by simp [Act.put,h.defers],fun i hi=>?_⟩;rw [<-h.slot i hi];simp only [Act.put];rw [c13_ o_]
theorem Kept.form{a0 a:Act}(h:Kept 9 125 a0 a)(hs:a0.tmps.size=256):∃us:List Value,us.length=117/\a=⟨(a0.tmps.toList.take 9++us++a0.tmps.toList.drop 126).toArray,a0.defers⟩:=by
 have h1:a.tmps.toList.length=256:=by rw [Array.length_toList,h.size,hs]
 have h0:a0.tmps.toList.length=256:=by rw [Array.length_toList,hs]
 refine ⟨(a.tmps.toList.drop 9).take 117,by rw [List.length_take,List.length_drop,h1];rfl,?_⟩;obtain ⟨t,d⟩:=a;have hd:d=a0.defers:=h.defers;subst hd;congr 1;apply Array.ext_getElem?;intro i;simp only [c1_];by_cases hi:i<9
 ·rw [List.getElem?_append_left (by rw [c5_,List.length_take];omega),List.getElem?_append_left n53_,List.getElem?_take_of_lt hi]
  have:=h.slot i (.inl hi)
  simpa using this
 ·by_cases hi2:i<=125
  ·rw [List.getElem?_append_left (by rw [c5_,List.length_take,List.length_take,List.length_drop];simp only at h1;omega),List.getElem?_append_right n53_,List.length_take,h0,List.getElem?_take_of_lt o_,List.getElem?_drop]
   simp only [Array.getElem?_toList];congr 1;omega
  ·rw [List.getElem?_append_right (by rw [c5_,List.length_take,List.length_take,List.length_drop];simp only at h1;omega),c5_,List.length_take,List.length_take,List.length_drop,h0,List.getElem?_drop]
   have:=h.slot i (.inr o_)
   simp only at this h1;rw [this,h1,Array.getElem?_toList];congr 1;omega
theorem Zmv{a:Act}{d:Nat}(v:Value)(h:d<a.tmps.size):(a.put (some d) v).tmps[d]?=some v:=by
 simp only [Act.put];rw [c15_ h]
theorem Zk4{a:Act}{d i:Nat}(v:Value)(h:i≠d):(a.put (some d) v).tmps[i]?=a.tmps[i]?:=by
 simp only [Act.put];rw [c13_ o_]
section
variable {P:Program} {ops:Array Oper} {Q:Exit->Act->World->Prop} {w:World}
theorem ZmJ{o:Oper}{y:Nat->Option Bool}(h:o.guard=none):Region.wanted o y=true:=by unfold Region.wanted;rw [h]
theorem ZoU{o:Oper}{a:Act}{g k:Nat}{c:Bool}(h:o.guard=some (g,c))(hg:(ops[g]?).bind (·.dst)=some k)(hk:a.tmps[k]?=some (.bool c)):Region.wanted o (yielded ops a.tmps)=true:=by
 unfold Region.wanted yielded;rw [h];simp [hg,hk]
theorem Zro{o:Oper}{a:Act}{g k:Nat}{c:Bool}(h:o.guard=some (g,c))(hg:(ops[g]?).bind (·.dst)=some k)(hk:a.tmps[k]?=some (.bool !c)):¬Region.wanted o (yielded ops a.tmps)=true:=by
 unfold Region.wanted yielded;rw [h];simp [hg,hk]
theorem Yo{o:Oper}{a:Act}{K:Act->World->Prop}{f:FuncId}{args:Array Value}{v:Value}{R:Ending->World->Prop}(hx:(execOp a.eval o).run P w=.ok (.enter f args) w)(hc:Calls P f args w R)(hR:∀e w',R e w'->e=.returned v/\K (a.put o.dst v) w'):Oper.wp P o a w K Q:=by
 unfold Oper.wp;rw [hx,Oper.upon_enter];exact hc.mono (fun e w' h=>by obtain ⟨rfl,k⟩:=hR e w' h;exact k)
end
end Go.Proofs.YtmgmbeipbeknaaaGreatDoor
