import Derived.Test.YtmgmbeipbeknaaaGreatDoorRF26
import Derived.Test.YtmgmbeipbeknaaaGreatDoorRF27
import Derived.Test.YtmgmbeipbeknaaaGreatDoorRF29
import Derived.Test.YtmgmbeipbeknaaaGreatDoorRF30
import Derived.Test.YtmgmbeipbeknaaaGreatDoorRF35
namespace Go.Proofs.YtmgmbeipbeknaaaGreatDoor
set_option linter.unusedVariables false
set_option linter.unusedSimpArgs false
set_option maxHeartbeats 16000000
theorem Ze1(sec name:Str)(k:ZC)(h:findKey sec name=some k):k.sec=sec/\k.name=name:=by
 unfold findKey at h
 have:=List.find?_some h
 simp only [Bool.and_eq_true,beq_iff_eq] at this;exact this
theorem Zry(kind:Int)(x:Ln)(h:lnS kind x=0):∃k,findKey x.sec x.key=some k/\k∈Ze/\k.sec=x.sec/\k.name=x.key/\Zgj x.val k=0:=by
 unfold lnS ZiV at h;split at h
 ·exact absurd h d_
 ·split at h
  ·exact absurd h d_
  ·rename_i k hk
   refine ⟨k,hk,Ze8 _ _ k hk,(Ze1 _ _ k hk).1,(Ze1 _ _ k hk).2,?_⟩;split at h
   ·assumption
   ·exact absurd h d_
open Go.Proofs.Tryz
open Go Go.RowKit
set_option maxRecDepth 100000
def XM(nm:Str)(kind:Int)(u:UV)(x:Ln)(w:World)(U:Nat)(F:Nat->Nat->Prop)(e:Ending)(w':World):Prop:=
 Fr (fun k=>k=U\/∃j,F j k) w w'/\match YL nm kind u x with
 |.error c=>e=.returned (.int .i64 c)
 |.ok r=>e=.returned (.int .i64 0)/\∃cs' F',YD w' U cs' F' r
theorem Zbi{w:World}{b:Nat}{x0 x1 x2 x3:Value}{T:TypeId}(h:w.heap[b]?=some (.cells #[x0,x1,x2,x3] T (0,0))) :
  w.cell? ⟨b,0,none⟩=some x0/\w.cell? ⟨b,1,none⟩=some x1/\w.cell? ⟨b,2,none⟩=some x2/\w.cell? ⟨b,3,none⟩=some x3:=
 ⟨n17_,n17_,n17_,n17_⟩
theorem Zi1(u:UV):Qi u=(decide (64<((u 4).len:Int))||decide (16<Lib.maxOf (Qr u))):=by
 unfold Qi;rw [ZmY (Qr u) 16 (by simp [Qr,Qt])];congr 1
 ·apply decide_eq_decide.2;omega
 ·unfold Qr
  rw [List.any_map];congr 1;funext i;show decide (16<(u i).len)=decide ((16:Int)<((u i).len:Int));apply decide_eq_decide.2;omega
theorem XM.err{nm:Str}{kind:Int}{u:UV}{x:Ln}{w w':World}{U:Nat}{F:Nat->Nat->Prop}{c:Int}(hf:Fr (fun k=>k=U\/∃j,F j k) w w')(h:YL nm kind u x=.error c):XM nm kind u x w U F (.returned (.int .i64 c)) w':=by
 unfold XM;rw [h];exact ⟨hf,rfl⟩
theorem XM.ok{nm:Str}{kind:Int}{u r:UV}{x:Ln}{w w':World}{U:Nat}{F F':Nat->Nat->Prop}{cs':Array Value}(hf:Fr (fun k=>k=U\/∃j,F j k) w w')(h:YL nm kind u x=.ok r)(hU:YD w' U cs' F' r):XM nm kind u x w U F (.returned (.int .i64 0)) w':=by
 unfold XM;rw [h];exact ⟨hf,rfl,cs',F',hU⟩
theorem Zqo{nm:Str}{kind:Int}{u:UV}{x:Ln}{c:Int}(h:Xm x.val nm=.error c):YL nm kind u x=.error c:=by unfold YL;rw [h]
theorem ZqI{nm:Str}{kind:Int}{u:UV}{x:Ln}{v:Str}(h:Xm x.val nm=.ok v)(h2:lnS kind { x with val:=v }≠0):YL nm kind u x=.error (lnS kind { x with val:=v }):=by unfold YL;rw [h];simp only;rw [if_pos h2]
theorem Zql{nm:Str}{kind:Int}{u:UV}{x:Ln}{v:Str}{k:ZC}(h:Xm x.val nm=.ok v)(h2:lnS kind { x with val:=v }=0)(h3:findKey x.sec x.key=some k):YL nm kind u x=if Qm k v=false then .error 12 else if Qi (u.upd (Zc k.name) (Zi nm k v (u (Zc k.name))))=true then .error 2 else .ok (u.upd (Zc k.name) (Zi nm k v (u (Zc k.name)))):=by
 unfold YL;rw [h];simp only;rw [if_neg (fun h=>h h2),h3]
theorem ZoZ{s u:Str}{c:Int}(h:Xm s u=.error c):c≠0:=by
 unfold Xm at h;split at h
 ·injection h with h;omega
 ·split at h
  ·injection h with h;omega
  ·cases h
theorem ZoG{s u v:Str}(h:Xm s u=.ok v)(hs:s.length<=1048576):v.length<=500000000:=by
 unfold Xm at h;split at h
 ·cases h
 ·rename_i hk
  have h60:=(Jl hk).2;split at h
  ·cases h
  ·rename_i r hr
   injection h with h
   subst h;have h1:=Zc5 u _ s r l_ hr;have h2:=Nat.mul_le_mul hs (show u.length+1<=61 by omega);omega
theorem ZnQ(U:Nat)(cs:Array Value)(F:Nat->Nat->Prop)(u:UV)(w:World)(hU:YD w U cs F u)(hT:Zz u)(hlen:∀j,(u j).len<=100000)(hM:Zt w)(nm:Str)(kind:Int)(h0:u 0=.s nm)(h1:u 1=.n kind)(hnm:nm.length<4294967281)(x:Ln)(hx:x.val.length<=1000000000)(hxv:∀v,Xm x.val nm=.ok v->v.length<=500000000) :
  Calls prog 29 #[.pointer (some ⟨U,0,none⟩),.agg (ZU x).toArray] w fun e w'=>XM nm kind u x w U F e w':=by
 obtain ⟨sec,key,val,at_⟩:=x;unfold ZU;simp only at hx hxv⊢;have hUl:=Zb hU.box;have hne:U≠w.heap.size:=o_;have hg:∀j,j<35->cs[j]?=some (cs[j]!):=fun j hj=>by
  have:j<cs.size:=by rw [hU.size];exact hj
  rw [getElem!_pos cs j this];exact Array.getElem?_eq_getElem this
 have e0:cs[0]?=some (.string ⟨nm.toArray⟩):=by
  have:=hU.fld 0 _ (hg 0 d_);rw [h0] at this
  rw [hg 0 d_];exact congrArg some this
 have e1:cs[1]?=some (.int .i64 kind):=by
  have:=hU.fld 1 _ (hg 1 d_);rw [h1] at this
  rw [hg 1 d_];exact congrArg some this
 have HU:=h_ hU;have E0:=h_ e0;have E1:=h_ e1;have HM:=h_ hM;have hB:=(Below.refl w.heap.size w).alloc l_ (.cells #[.string ⟨sec.toArray⟩,.string ⟨key.toArray⟩,.string ⟨val.toArray⟩,.int .i64 at_] 53);have hbx:=heap_alloc_new w (.cells #[.string ⟨sec.toArray⟩,.string ⟨key.toArray⟩,.string ⟨val.toArray⟩,.int .i64 at_] 53);have HB:=h_ hB;have HBX:=h_ hbx;obtain ⟨r,hr⟩:∃r,Xm val nm=r:=⟨_,rfl⟩;have HSP:=h_ (fun W (h:Below w.heap.size w W)=>Zpg ⟨val.toArray⟩ nm W (by show val.toArray.size<=_;simpa using hx) hnm (hM.below h) r hr);have HS0:=h_ (And.intro (Za hU.box hB) hbx);have HFRB:=h_ (fun W (h:Below w.heap.size w W)=>(show Fr (fun k=>k=U\/∃j,F j k) w W from Fr.of_below h _));have HRR:=h_ hr;clear hU hg e0 e1 hM hB hbx hr;cases r with
 |error c=>
  have hc:((c:Int)!=0)=true:=by rw [bne_iff_ne];exact ZoZ HRR.out
  unfold Zof at HSP;simp only at HSP;go_enter func29,ntmps29;go_wp2_with fail;refine Zh (S:=fun V=>V.heap[U]?=some (.cells cs 28 (0,0))/\V.heap[w.heap.size]?=some (.cells #[.string ⟨sec.toArray⟩,.string ⟨key.toArray⟩,.string ⟨val.toArray⟩,.int .i64 at_] 53 (0,0))) 11 k_ k_ (show _/\_ from HS0.out) (fun hHeld=>?_);refine u_ ?_;(iterate 6 refine dN_ 0 (gT_ rfl) (fun W hW=>by have q0:=((rd hW.1).1 0).trans E0.out;have q1:=((rd hW.1).1 1).trans E1.out;obtain ⟨x0,x1,x2,x3⟩:=Zbi hW.2;clear hW;go_simp;rfl) (u_ ?_));refine Zn (i:=6) (gT_ rfl) k_ k_ (fun K hK=>?_);clear hHeld;rw [if_pos n13_];go_simp;have hbd:Below w.heap.size w (w.alloc (.cells #[.string ⟨sec.toArray⟩,.string ⟨key.toArray⟩,.string ⟨val.toArray⟩,.int .i64 at_] 53)).drew:=HB.out.trans (Zd ⟨1,rfl⟩);refine (HSP.out _ hbd).mono ?_;rintro e w3 ⟨rfl,hb3⟩;have HB3:=h_ (hbd.trans (hb3.mono hbd.size));have HS3:=h_ (And.intro (Za HS0.out.1 ((Zd (B:=(w.alloc (.cells #[.string ⟨sec.toArray⟩,.string ⟨key.toArray⟩,.string ⟨val.toArray⟩,.int .i64 at_] 53)).heap.size) ⟨1,rfl⟩:Below _ (w.alloc (.cells #[.string ⟨sec.toArray⟩,.string ⟨key.toArray⟩,.string ⟨val.toArray⟩,.int .i64 at_] 53)) (w.alloc (.cells #[.string ⟨sec.toArray⟩,.string ⟨key.toArray⟩,.string ⟨val.toArray⟩,.int .i64 at_] 53)).drew).trans hb3)) (Za HS0.out.2 ((Zd (B:=(w.alloc (.cells #[.string ⟨sec.toArray⟩,.string ⟨key.toArray⟩,.string ⟨val.toArray⟩,.int .i64 at_] 53)).heap.size) ⟨1,rfl⟩:Below _ (w.alloc (.cells #[.string ⟨sec.toArray⟩,.string ⟨key.toArray⟩,.string ⟨val.toArray⟩,.int .i64 at_] 53)) (w.alloc (.cells #[.string ⟨sec.toArray⟩,.string ⟨key.toArray⟩,.string ⟨val.toArray⟩,.int .i64 at_] 53)).drew).trans hb3)));clear hb3 hbd;refine hK.out _ _ (show _/\_ from HS3.out) (fun hHeld=>?_);clear hK K;refine u_ ?_;(iterate 4 refine dN_ 0 (gT_ rfl) (fun W hW=>by have q0:=((rd hW.1).1 0).trans E0.out;have q1:=((rd hW.1).1 1).trans E1.out;obtain ⟨x0,x1,x2,x3⟩:=Zbi hW.2;clear hW;go_simp;rfl) (u_ ?_));refine Zv k_ ?_;clear hHeld;go_wp2_with fail;go_ret;exact XM.err (HFRB.out _ HB3.out) (Zqo HRR.out)
 |ok v=>
  have hvl:v.length<=500000000:=hxv v HRR.out;unfold Zof at HSP;simp only at HSP⊢;obtain ⟨c,hc⟩:=e_ (lnS kind ⟨sec,key,v,at_⟩);have HLN:=h_ (fun W (h:Below w.heap.size w W)=>ZpO kind ⟨sec,key,v,at_⟩ W (HM.out.below h) (by show v.length<=_;omega));rw [<-hc] at HLN;change Hid (∀W,Below w.heap.size w W->Calls prog 70 #[.int .i64 kind,.agg #[.string ⟨sec.toArray⟩,.string ⟨key.toArray⟩,.string ⟨v.toArray⟩,.int .i64 at_]] W fun e w'=>e=.returned (.int .i64 c)/\Below W.heap.size W w') at HLN;have HCC:=h_ hc;clear hc;go_enter func29,ntmps29;go_wp2_with fail;refine Zh (S:=fun V=>V.heap[U]?=some (.cells cs 28 (0,0))/\V.heap[w.heap.size]?=some (.cells #[.string ⟨sec.toArray⟩,.string ⟨key.toArray⟩,.string ⟨val.toArray⟩,.int .i64 at_] 53 (0,0))) 11 k_ k_ (show _/\_ from HS0.out) (fun hHeld=>?_);refine u_ ?_;(iterate 6 refine dN_ 0 (gT_ rfl) (fun W hW=>by have q0:=((rd hW.1).1 0).trans E0.out;have q1:=((rd hW.1).1 1).trans E1.out;obtain ⟨x0,x1,x2,x3⟩:=Zbi hW.2;clear hW;go_simp;rfl) (u_ ?_));refine Zn (i:=6) (gT_ rfl) k_ k_ (fun K hK=>?_);clear hHeld;rw [if_pos n13_];go_simp;have hbd:Below w.heap.size w (w.alloc (.cells #[.string ⟨sec.toArray⟩,.string ⟨key.toArray⟩,.string ⟨val.toArray⟩,.int .i64 at_] 53)).drew:=HB.out.trans (Zd ⟨1,rfl⟩);refine (HSP.out _ hbd).mono ?_;rintro e w3 ⟨rfl,hb3⟩;have HB3:=h_ (hbd.trans (hb3.mono hbd.size));have HS3:=h_ (And.intro (Za HS0.out.1 ((Zd (B:=(w.alloc (.cells #[.string ⟨sec.toArray⟩,.string ⟨key.toArray⟩,.string ⟨val.toArray⟩,.int .i64 at_] 53)).heap.size) ⟨1,rfl⟩:Below _ (w.alloc (.cells #[.string ⟨sec.toArray⟩,.string ⟨key.toArray⟩,.string ⟨val.toArray⟩,.int .i64 at_] 53)) (w.alloc (.cells #[.string ⟨sec.toArray⟩,.string ⟨key.toArray⟩,.string ⟨val.toArray⟩,.int .i64 at_] 53)).drew).trans hb3)) (Za HS0.out.2 ((Zd (B:=(w.alloc (.cells #[.string ⟨sec.toArray⟩,.string ⟨key.toArray⟩,.string ⟨val.toArray⟩,.int .i64 at_] 53)).heap.size) ⟨1,rfl⟩:Below _ (w.alloc (.cells #[.string ⟨sec.toArray⟩,.string ⟨key.toArray⟩,.string ⟨val.toArray⟩,.int .i64 at_] 53)) (w.alloc (.cells #[.string ⟨sec.toArray⟩,.string ⟨key.toArray⟩,.string ⟨val.toArray⟩,.int .i64 at_] 53)).drew).trans hb3)));clear hb3 hbd;refine hK.out _ _ (show _/\_ from HS3.out) (fun hHeld=>?_);clear hK K;refine u_ ?_;(iterate 4 refine dN_ 0 (gT_ rfl) (fun W hW=>by have q0:=((rd hW.1).1 0).trans E0.out;have q1:=((rd hW.1).1 1).trans E1.out;obtain ⟨x0,x1,x2,x3⟩:=Zbi hW.2;clear hW;go_simp;rfl) (u_ ?_));refine Zv k_ ?_;clear hHeld;obtain ⟨y0,y1,y2,y3⟩:=Zbi HS3.out.2;obtain ⟨_,f3,s3,_⟩:=rd HS3.out.2;have f32:=f3 2;clear f3;go_wp2_with fail;have h4LB:(w3.setCell ⟨w.heap.size,2,none⟩ (.string ⟨v.toArray⟩)).heap[w.heap.size]?=some (.cells #[.string ⟨sec.toArray⟩,.string ⟨key.toArray⟩,.string ⟨v.toArray⟩,.int .i64 at_] 53 (0,0)):=heap_setCell HS3.out.2 2 (.string ⟨v.toArray⟩);have h4U:=Zw HS3.out.1 (a:=⟨w.heap.size,2,none⟩) hne (.string ⟨v.toArray⟩);have HB4:=h_ (show Below w.heap.size w (w3.setCell ⟨w.heap.size,2,none⟩ (.string ⟨v.toArray⟩)) from HB3.out.setCell l_ _);have HS4:=h_ (And.intro h4U h4LB);clear h4LB h4U y0 y1 y2 y3 s3 f32;generalize w3.setCell ⟨w.heap.size,2,none⟩ (.string ⟨v.toArray⟩)=w4 at *;refine Zh (S:=fun V=>V.heap[U]?=some (.cells cs 28 (0,0))/\V.heap[w.heap.size]?=some (.cells #[.string ⟨sec.toArray⟩,.string ⟨key.toArray⟩,.string ⟨v.toArray⟩,.int .i64 at_] 53 (0,0))) 5 k_ k_ (show _/\_ from HS4.out) (fun hHeld=>?_);refine u_ ?_;(iterate 5 refine dN_ 0 (gT_ rfl) (fun W hW=>by have q0:=((rd hW.1).1 0).trans E0.out;have q1:=((rd hW.1).1 1).trans E1.out;obtain ⟨x0,x1,x2,x3⟩:=Zbi hW.2;clear hW;go_simp;rfl) (u_ ?_));refine Zv k_ ?_;clear hHeld;have HB4d:=h_ (HB4.out.trans (show Below w.heap.size w4 w4.drew from Zd ⟨1,rfl⟩));go_wp2_with fail;refine (HLN.out _ HB4d.out).mono ?_;rintro e w5 ⟨rfl,hb5⟩;have HB5:=h_ (HB4d.out.trans (hb5.mono HB4d.out.size));have HL5:=h_ (Za (show w4.drew.heap[w.heap.size]?=_ from HS4.out.2) hb5);clear hb5;by_cases hc0:c=0
  ·subst hc0
   obtain ⟨k,hfk,hka,hks,hkn,hkv0⟩:=Zry kind ⟨sec,key,v,at_⟩ HCC.out.symm;simp only at hfk hks hkn;have HFD:=h_ (Zjd sec key w5);unfold Zmp at HFD;rw [hfk] at HFD;simp only [Option.isSome_some,Option.getD_some] at HFD;have HLU:=h_ (fun (uu:UV)=>@Zql nm kind uu ⟨sec,key,val,at_⟩ v k HRR.out HCC.out.symm hfk);have HKA:=h_ hka;obtain ⟨z0,z1,z2,z3⟩:=Zbi HL5.out;clear hfk hka hks hkn hkv0;go_wp2_with fail;refine HFD.out.mono ?_;rintro e w6 ⟨⟨ksec,kname,kform,klist,kkinds,kwa,kwn,kwc⟩,rfl,hkv,hb6⟩;unfold Zp;simp only;have hB7:Below w6.heap.size w6 (w6.alloc (.cells #[.string ⟨ksec.toArray⟩,.string ⟨kname.toArray⟩,.int .i64 kform,.bool klist,.int .i64 kkinds,.slice kwa kwn kwc] 82)):=b_.alloc l_ _;have hb67:=Below.more hb6 hB7;have HB7:=h_ (HB5.out.trans (hb67.mono HB5.out.size));have hU7:=HU.out.fr (M:=fun k=>w.heap.size<=k) (show Fr (fun k=>w.heap.size<=k) w (w6.alloc (.cells #[.string ⟨ksec.toArray⟩,.string ⟨kname.toArray⟩,.int .i64 kform,.bool klist,.int .i64 kkinds,.slice kwa kwn kwc] 82)) from Fr.of_below HB7.out _) o_ (fun j k hk h=>by have:=(HU.out.lt j k hk).2;omega);have HPUT:=h_ (Zqy U cs F u _ hU7 hT hlen (HM.out.below HB7.out) nm h0 k HKA.out ⟨ksec,kname,kform,klist,kkinds,kwa,kwn,kwc⟩ (hkv.below hB7) v hvl);unfold Zp at HPUT;simp only at HPUT;have HU7:=h_ hU7;clear hkv hb6 hB7 hb67 hU7 z0 z1 z2 z3;go_wp2_with fail;refine HPUT.out.mono ?_;rintro e w8 ⟨rfl,hp⟩;obtain ⟨cs',F',hU8,-,-,-⟩:=HU7.out.put (ZmF k HKA.out).1 hp;have HFR8:=h_ (show Fr (fun k=>k=U\/∃j,F j k) w w8 from (Fr.of_below HB7.out _).trans (hp.frame.mono (fun i _ h=>h.imp id (fun q=>⟨_,q⟩))));have HLU8:=h_ (HLU.out u);have hT8:Zz (u.upd (Zc k.name) (Zi nm k v (u (Zc k.name)))):=hT.upd _ _ (Zcw nm k HKA.out v _);obtain ⟨r',hr'⟩:∃r',r'=u.upd (Zc k.name) (Zi nm k v (u (Zc k.name))):=⟨_,rfl⟩;rw [<-hr'] at hU8 hT8 HLU8;clear hp HPUT HU7 HFD HLU hr';cases hz:Qm k v with
   |false=>
    have HLE:=h_ (show YL nm kind u ⟨sec,key,val,at_⟩=.error 12 by rw [HLU8.out,if_pos hz]);clear hz HLU8 hU8 hT8;go_wp2_with fail;go_ret;exact XM.err HFR8.out HLE.out
   |true=>
    have HLE:=h_ (show YL nm kind u ⟨sec,key,val,at_⟩=if Qi r'=true then .error 2 else .ok r' by rw [HLU8.out,if_neg (by rw [hz];decide)]);have hlg:=Zi1 r';have h4c:cs'[4]?=some (cs'[4]'(by rw [hU8.size];decide)):=Array.getElem?_eq_getElem (by rw [hU8.size];decide);obtain ⟨o4,cc4,e4⟩:=(hU8.fld 4 _ h4c).len (by rw [hT8 4];decide);rw [e4] at h4c;have d4:=((rd hU8.box).1 4).trans h4c;have HU8:=h_ hU8;have HLN8:=h_ (hU8.lens hT8);have HSZ:=h_ (show (prog.info? 28).map (·.size)=some cs'.size by rw [hU8.size];rfl);have HLD:=h_ (show ∀j v,cs'[j]?=some v->w8.cell? ⟨U,0+j,none⟩=some v from fun j v hv=>by rw [Nat.zero_add,(rd hU8.box).1];exact hv);have HLIST:=h_ (Zlv cs' r' w8 HLN8.out);clear hz HLU8 hU8 hT8 h4c e4;generalize (r' 4).len=n4 at *;by_cases h64:64<n4
    ·have HLL:=h_ (show Qi r'=true by rw [hlg];simp;left;omega)
     have hq:decide ((64:Int)<(n4:Int))=true:=n6_;have hq2:(64:Int)<(n4:Int):=o_;clear hlg;go_wp2_with fail;go_ret;exact XM.err HFR8.out (by rw [HLE.out,if_pos HLL.out])
    ·have hq2:¬(64:Int)<(n4:Int):=o_
     have hlg2:Qi r'=decide (16<Lib.maxOf (Qr r')):=by rw [hlg];simp [hq2]
     have HLG:=h_ hlg2;clear hlg hlg2;go_wp2_with (refine Ziv (by first|rfl|(simp [Region.wanted,yielded];omega)) 28 _ U 0 cs' _ rfl rfl HLD.out rfl rfl HSZ.out ?_);refine HLIST.out.mono ?_;rintro e w9 ⟨A,rfl,hA,hb9⟩;have HMX:=h_ (Tryz.slices_Max_int A 0 17 17 (Qr r') w9 d_ (by simp [Qr,Qt]) d_ hA);rw [show (Qr r').take 17=Qr r' from List.take_of_length_le (by simp [Qr,Qt])] at HMX;have HFR9:=h_ (HFR8.out.trans (Fr.of_below hb9 _));have HU9:=h_ (HU8.out.below hb9);generalize Lib.maxOf (Qr r')=mx at *;clear hA hb9 HLIST;go_wp2_with fail;refine HMX.out.mono ?_;rintro e w10 ⟨rfl,rfl⟩;by_cases h16:(16:Int)<mx
     ·go_wp2_with fail
      go_ret;exact XM.err HFR9.out (by rw [HLE.out,if_pos (by rw [HLG.out];simpa using h16)])
     ·go_wp2_with fail
      go_ret;exact XM.ok HFR9.out (by rw [HLE.out,if_neg (by rw [HLG.out];simpa using h16)]) HU9.out
  ·have hc1:((c:Int)!=0)=true:=by rw [bne_iff_ne];exact hc0
   go_wp2_with fail;go_ret;exact XM.err (HFRB.out _ HB5.out) (by have h:=ZqI (u:=u) (kind:=kind) (x:=⟨sec,key,val,at_⟩) HRR.out (show lnS kind ⟨sec,key,v,at_⟩≠0 by rw [<-HCC.out];exact hc0);rw [HCC.out];exact h)
theorem m87_{p:Prop}(h:p:=by go_enter func30,ntmps30;go_wp2_with fail;go_ret;exact ⟨n9_,HB.out⟩):p:=h
theorem m88_{p:Prop}(h:p:=by have HR:=h_ (show c=0 by rw [<-HC.out,if_neg hnot,if_neg o_]);clear hnot;exact m87_):p:=h
theorem Zk2(cs:Array Value)(u:UV)(w:World)(hL:Zlo cs u)(kind t:Int)(h1:cs[1]?=some (.int .i64 kind))(h7:cs[7]?=some (.int .i64 t))(ht:(u 7).num=t)(hlen:∀j,(u j).len<=100000)(c:Int)(hc:Q7 kind u=c) :
  Calls prog 30 #[.agg cs] w fun e w'=>e=.returned (.int .i64 c)/\Below w.heap.size w w':=by
 have hB:=(Below.refl w.heap.size w).alloc l_ (.cells cs 28);have hb:=(rd (heap_alloc_new w (.cells cs 28))).1;have HB:=h_ hB;have k1:=(hb 1).trans h1;have k7:=(hb 7).trans h7;obtain ⟨o9,p9,q9⟩:=hL 9 d_;have k9:=(hb 9).trans q9;obtain ⟨o21,p21,q21⟩:=hL 21 d_;have k21:=(hb 21).trans q21;obtain ⟨o25,p25,q25⟩:=hL 25 d_;have k25:=(hb 25).trans q25;obtain ⟨o26,p26,q26⟩:=hL 26 d_;have k26:=(hb 26).trans q26;obtain ⟨o27,p27,q27⟩:=hL 27 d_;have k27:=(hb 27).trans q27;obtain ⟨o28,p28,q28⟩:=hL 28 d_;have k28:=(hb 28).trans q28;have l9:=hlen 9;have l25:=hlen 25;have l26:=hlen 26;have l27:=hlen 27;have l28:=hlen 28;unfold Q7 at hc;rw [ht] at hc;generalize (u 9).len=n9 at *;generalize (u 21).len=n21 at *;generalize (u 25).len=n25 at *;generalize (u 26).len=n26 at *;generalize (u 27).len=n27 at *;generalize (u 28).len=n28 at *;have HC:=h_ hc;clear hL hB hb h1 h7 ht hlen q9 q21 q25 q26 q27 q28 hc;by_cases hk1:kind=1
 ·subst hk1
  by_cases hn:n9=0
  ·subst hn
   have HR:=h_ (show c=6 by rw [<-HC.out,if_pos (.inl ⟨rfl,rfl⟩)]);exact m87_
  ·have hn1:((n9:Int)==0)=false:=n11_
   have hnot:¬(((1:Int)=1/\n9=0)\/((1:Int)=2/\n21=0)\/((1:Int)=3/\n25+n26+n27+n28=0)):=o_;by_cases ht2:t=2
   ·subst ht2
    exact m88_
   ·have ht3:(t !=2)=true:=by rw [bne_iff_ne];exact ht2
    by_cases hn2:1<n9
    ·have hn3:(1:Int)<(n9:Int):=o_
     have HR:=h_ (show c=7 by rw [<-HC.out,if_neg hnot,if_pos ⟨rfl,ht2,hn2⟩]);clear hnot;exact m87_
    ·have hn3:¬(1:Int)<(n9:Int):=o_
     exact m88_
 by_cases hk2:kind=2
 ·subst hk2
  by_cases hn:n21=0
  ·subst hn
   have HR:=h_ (show c=6 by rw [<-HC.out,if_pos (.inr (.inl ⟨rfl,rfl⟩))]);exact m87_
  ·have hn1:((n21:Int)==0)=false:=n11_
   have HR:=h_ (show c=0 by rw [<-HC.out,if_neg o_,if_neg o_]);exact m87_
 by_cases hk3:kind=3
 ·subst hk3
  by_cases hn:n25+n26+n27+n28=0
  ·obtain ⟨rfl,rfl,rfl,rfl⟩:n25=0/\n26=0/\n27=0/\n28=0:=o_
   have HR:=h_ (show c=6 by rw [<-HC.out,if_pos (.inr (.inr ⟨rfl,rfl⟩))]);exact m87_
  ·have hn1:((n25:Int)+(n26:Int)+(n27:Int)+(n28:Int)==0)=false:=n11_
   have HR:=h_ (show c=0 by rw [<-HC.out,if_neg o_,if_neg o_]);clear hn;exact m87_
 ·have HR:=h_ (show c=0 by rw [<-HC.out,if_neg o_,if_neg o_])
  have e1:(kind==1)=false:=by rw [beq_eq_false_iff_ne];exact hk1
  have e2:(kind==2)=false:=by rw [beq_eq_false_iff_ne];exact hk2
  have e3:(kind==3)=false:=by rw [beq_eq_false_iff_ne];exact hk3
  clear hk1 hk2 hk3;exact m87_
end Go.Proofs.YtmgmbeipbeknaaaGreatDoor
