import Derived.Test.YtmgmbeipbeknaaaGreatDoorRB26
import Derived.Test.YtmgmbeipbeknaaaGreatDoorRB41
import Derived.Test.YtmgmbeipbeknaaaGreatDoorRB42
import Derived.Test.YtmgmbeipbeknaaaGreatDoorRB43
import Derived.Test.YtmgmbeipbeknaaaGreatDoorRB48
import Derived.Test.YtmgmbeipbeknaaaGreatDoorRB49
import Derived.Test.YtmgmbeipbeknaaaGreatDoorRB50
namespace Go.Proofs.YtmgmbeipbeknaaaGreatDoor
open Go.Proofs.Tryz
open Go Go.RowKit
set_option linter.all false
set_option maxHeartbeats 16000000
set_option maxRecDepth 100000
theorem Zcw:ZH ZaU:=ZH.upd (ZH.upd (ZH.upd (ZH.new Zib) 4 (.rs [(2,ZpG)]) rfl) 9 (.cs [(true,[Zuf,Zpi])]) rfl) 16 (.n 60) rfl
theorem ZqL(W:World)(cs:Array Value)(h:ZV W cs (Zw Zib))(b1 b2 b3:Nat)(h1:W.heap[b1]?=some (.cells (JK ((2:Int),ZpG)).toArray 47 (0,0)))(h2:W.heap[b2]?=some (.cells (Zh [Zuf,Zpi]).toArray 9 (0,0)))
  (h3:W.heap[b3]?=some (.cells (Zi6 ⟨true,some ⟨b2,0,none⟩,2,2⟩).toArray 49 (0,0))) :
  ZV W (((cs.setIfInBounds 4 (.slice (some ⟨b1,0,none⟩) 1 1)).setIfInBounds 9 (.slice (some ⟨b3,0,none⟩) 1 1)).setIfInBounds 16 (.int .i64 60)) ZaU:=by
 refine ⟨by simp [h.size],fun j v hv=>?_⟩;have hsz:=h.size;unfold ZaU;by_cases e16:j=16
 ·subst e16
  rw [c15_ (by simp [hsz])] at hv;injection hv with hv
  subst hv;rw [UV.upd_at];rfl
 rw [c13_ (Ne.symm e16)] at hv;rw [UV.upd_ne _ _ e16];by_cases e9:j=9
 ·subst e9
  rw [c15_ (by simp [hsz])] at hv;injection hv with hv
  subst hv;rw [UV.upd_at];refine ⟨_,1,[⟨true,some ⟨b2,0,none⟩,2,2⟩],rfl,⟨rfl,fun i hi=>?_,fun i g1 g2=>?_⟩,d_⟩
  ·obtain rfl:i=0:=n78_
   refine ⟨b3,0,rfl,Zd h3,fun j v hj=>?_⟩;rw [(rd h3).1];simpa using hj
  ·obtain rfl:i=0:=by simpa using g1
   refine ⟨rfl,rfl,fun i hi=>⟨b2,0,rfl,?_⟩,by show 2<=maxLen;decide⟩;rw [(rd h2).1];rcases (show i=0\/i=1 by have:i<2:=hi;omega) with rfl|rfl<;>rfl
 rw [c13_ (Ne.symm e9)] at hv;rw [UV.upd_ne _ _ e9];by_cases e4:j=4
 ·subst e4
  rw [c15_ (by simp [hsz])] at hv;injection hv with hv
  subst hv;rw [UV.upd_at];refine ⟨_,1,rfl,fun i hi=>?_,d_⟩;obtain rfl:i=0:=n78_;refine ⟨b1,0,rfl,Zd h1,fun j v hj=>?_⟩;rw [(rd h1).1];simpa using hj
 rw [c13_ (Ne.symm e4)] at hv;rw [UV.upd_ne _ _ e4];exact h.fld j v hv
theorem ZnJ(w:World)(hM:Zz w)(hP:Pow w):Calls prog 7 #[] w fun e w'=>e=.returned (.bool true)/\Below w.heap.size w w':=by
 have HM:=h_ (fun W (h:Below w.heap.size w W)=>hM.below h);have HP:=h_ (fun W (h:Below w.heap.size w W)=>hP.below h);have HN:=h_ (fun W (h:Below w.heap.size w W)=>Zky Zib W d_ (hM.below h));obtain ⟨cs,hcs⟩:=e_ (Yz (Zw Zib));have HSC:=h_ (show (prog.info? 28).map (·.size)=some cs.size by rw [hcs];kernel_rfl);have HSZ:=h_ (show Zf.size=cs.size by rw [hcs];simp [Yz];rfl);have HON:=h_ (show (cs.all fun x=>x.oneCell')=true by rw [hcs];decide +kernel);have HSE:=h_ (fun W=>show ZV W cs (Zw Zib) by rw [hcs];exact ZgY W Zib);have HC4:=h_ (show cs[4]?=some (.slice none 0 0) by rw [hcs];exact Zdz _ 4 d_);have HC9:=h_ (show cs[9]?=some (.slice none 0 0) by rw [hcs];exact Zdz _ 9 d_);have HC16:=h_ (show cs[16]?=some (.int .i64 90) by rw [hcs];exact Zdz _ 16 d_);rw [<-hcs] at HN;have HCS:=h_ hcs;clear hM hP hcs;go_enter func7,ntmps7;go_wp2_with fail;refine (HN.out _ b_).mono ?_;rintro e w2 ⟨rfl,hb2⟩;have HB:=h_ hb2;clear hb2;go_upto_region 2 with (first
  |(refine YW rfl _ Zf rfl (ZJ _) ?_;intro w3 h3 hb3)
  |(refine Yr rfl 28 _ _ w2.heap.size cs Zf 28 rfl rfl rfl h3 HSZ.out HSC.out HON.out ?_;intro w4 h4 hf4))
 have HX:=h_ h4;have HB4:=h_ (HB.out.trans ((hb3.trans (hf4.below w2.heap.size hb3.size (fun k hk e=>by omega))).mono HB.out.size));have HL:=h_ HB.out.size;clear h3 hb3 h4 hf4 HB;obtain ⟨O1,hO1⟩:=e_ (Obj.cells #[.int .i64 2,.string ⟨#[98,46,116,97,114,103,101,116]⟩] 47 (0,0));have q4:=((rd (heap_alloc HX.out O1)).1 4).trans HC4.out;have p4:=(rd (heap_alloc HX.out O1)).2.1 4;rw [hO1] at q4 p4;go_upto_region 3 with fail
 rw [<-hO1];have HX5:=h_ (heap_setCell (heap_alloc HX.out O1) 4 (.slice (some ⟨w4.heap.size,0,none⟩) 1 1));have HR1:=h_ (ZC (heap_alloc_new w4 O1) (a:=⟨w2.heap.size,4,none⟩) (Nat.ne_of_gt (Zd HX.out)) (.slice (some ⟨w4.heap.size,0,none⟩) 1 1));have HB5:=h_ ((HB4.out.alloc HB4.out.size O1).setCell (p:=⟨w2.heap.size,4,none⟩) HL.out (.slice (some ⟨w4.heap.size,0,none⟩) 1 1));have HN1:=h_ (show w4.heap.size≠w2.heap.size from Nat.ne_of_gt (Zd HX.out));generalize (w4.alloc O1).setCell ⟨w2.heap.size,4,none⟩ (.slice (some ⟨w4.heap.size,0,none⟩) 1 1)=w5 at HX5 HR1 HB5⊢;rw [show O1=Obj.cells (JK ((2:Int),ZpG)).toArray 47 (0,0) from hO1] at HR1;generalize w4.heap.size=b1 at HX5 HR1 HN1⊢;clear q4 p4 HX HB4 hO1 O1;obtain ⟨cs1,hcs1⟩:=e_ (cs.setIfInBounds 4 (.slice (some ⟨b1,0,none⟩) 1 1));rw [<-hcs1] at HX5;have HC9':=h_ (show cs1[9]?=some (.slice none 0 0) by rw [hcs1,c13_ d_];exact HC9.out);have HC16':=h_ (show cs1[16]?=some (.int .i64 90) by rw [hcs1,c13_ d_];exact HC16.out);have HCS1:=h_ hcs1;clear hcs1 HC4 HC9 HC16;obtain ⟨O2,hO2⟩:=e_ (Obj.cells #[.string ⟨#[114,117,110]⟩,.string ⟨#[53,37]⟩] 9 (0,0));obtain ⟨O3,hO3⟩:=e_ (Obj.cells #[.bool true,.slice (some ⟨w5.heap.size,0,none⟩) 2 2] 49 (0,0));have hX:=heap_alloc (heap_alloc HX5.out O2) O3;have q9:=((rd hX).1 9).trans HC9'.out;have p9:=(rd hX).2.1 9;rw [hO2,hO3] at q9 p9;go_upto_region 4 with fail
 rw [<-hO2,<-hO3];have hr3:=heap_alloc_new (w5.alloc O2) O3;rw [show (w5.alloc O2).heap.size=w5.heap.size+1 by simp] at hr3;have hn2:w5.heap.size≠w2.heap.size:=Nat.ne_of_gt (Zd HX5.out);have HX6:=h_ (heap_setCell hX 9 (.slice (some ⟨w5.heap.size+1,0,none⟩) 1 1));have HR1':=h_ (ZC (heap_alloc (heap_alloc HR1.out O2) O3) (a:=⟨w2.heap.size,9,none⟩) HN1.out (.slice (some ⟨w5.heap.size+1,0,none⟩) 1 1));have HR2:=h_ (ZC (heap_alloc (heap_alloc_new w5 O2) O3) (a:=⟨w2.heap.size,9,none⟩) hn2 (.slice (some ⟨w5.heap.size+1,0,none⟩) 1 1));have HR3:=h_ (ZC hr3 (a:=⟨w2.heap.size,9,none⟩) (by have:=Zd HX5.out;show w5.heap.size+1≠w2.heap.size;omega) (.slice (some ⟨w5.heap.size+1,0,none⟩) 1 1));have HN2:=h_ hn2;have HN3:=h_ (show w5.heap.size+1≠w2.heap.size by have:=Zd HX5.out;omega);have HB6:=h_ (((HB5.out.alloc HB5.out.size O2).alloc (HB5.out.alloc HB5.out.size O2).size O3).setCell (p:=⟨w2.heap.size,9,none⟩) HL.out (.slice (some ⟨w5.heap.size+1,0,none⟩) 1 1));generalize ((w5.alloc O2).alloc O3).setCell ⟨w2.heap.size,9,none⟩ (.slice (some ⟨w5.heap.size+1,0,none⟩) 1 1)=w6 at HX6 HR1' HR2 HR3 HB6⊢;rw [show O2=Obj.cells (Zh [Zuf,Zpi]).toArray 9 (0,0) from hO2] at HR2;rw [show O3=Obj.cells (Zi6 ⟨true,some ⟨w5.heap.size,0,none⟩,2,2⟩).toArray 49 (0,0) from hO3] at HR3;generalize w5.heap.size=b2 at HR2 HR3 HN2 HN3 HX6⊢;clear q9 p9 hX hr3 hn2 HX5 HR1 HB5 hO2 hO3 O2 O3;have q16:=((rd HX6.out).1 16).trans (show (cs1.setIfInBounds 9 (.slice (some ⟨b2+1,0,none⟩) 1 1))[16]?=some (.int .i64 90) by rw [c13_ d_];exact HC16'.out);have p16:=(rd HX6.out).2.1 16;go_upto_region 5 with fail
 have HX7:=h_ (heap_setCell HX6.out 16 (.int .i64 60));have HS1:=h_ (ZC HR1'.out (a:=⟨w2.heap.size,16,none⟩) HN1.out (.int .i64 60));have HS2:=h_ (ZC HR2.out (a:=⟨w2.heap.size,16,none⟩) HN2.out (.int .i64 60));have HS3:=h_ (ZC HR3.out (a:=⟨w2.heap.size,16,none⟩) HN3.out (.int .i64 60));have HB7:=h_ (HB6.out.setCell (p:=⟨w2.heap.size,16,none⟩) HL.out (.int .i64 60));generalize w6.setCell ⟨w2.heap.size,16,none⟩ (.int .i64 60)=w7 at HX7 HS1 HS2 HS3 HB7⊢;clear q16 p16 HX6 HR1' HR2 HR3 HB6 HN1 HN2 HN3 HC9' HC16' HSC HSZ HON HN;obtain ⟨C,hC⟩:=e_ ((cs1.setIfInBounds 9 (.slice (some ⟨b2+1,0,none⟩) 1 1)).setIfInBounds 16 (.int .i64 60));rw [<-hC] at HX7;rw [HCS1.out] at hC;have hsee:ZV w7 C ZaU:=by rw [hC];exact ZqL w7 cs (HSE.out w7) b1 b2 (b2+1) HS1.out HS2.out HS3.out
 have HSC:=h_ (show (prog.info? 28).map (·.size)=some C.size by rw [hsee.size];rfl);have HMY:=h_ (fun W (h:Below w7.heap.size w7 W) (g:Below w.heap.size w W)=>ZeV ZaU C W (hsee.below h) Zcw Zce (HM.out W g) (HP.out W g) true ZoV);have HMZ:=h_ (fun W (g:Below w.heap.size w W)=>ZeV ZK Zf W (Qj.zero W).see ZH.zero ZlR (HM.out W g) (HP.out W g) false ZqG);have HTX:=h_ (fun W (h:Below w7.heap.size w7 W) (g:Below w.heap.size w W)=>ZqF ZaU C W (hsee.below h) Zcw Zce (HM.out W g) (HP.out W g) _ Zma);have HLN:=h_ (fun W (h:Below w7.heap.size w7 W) (g:Below w.heap.size w W)=>Zeo ZaU C W (hsee.below h) Zcw Zce (HM.out W g) (HP.out W g));clear hsee hC HS1 HS2 HS3 HCS1 HCS HSE HM HP;have HV:=h_ (Below.refl w7.heap.size w7);go_wp2_with (first|(refine Yb rfl 28 (.tmp 1) w2.heap.size C 28 _ rfl rfl HX7.out rfl rfl HSC.out ?_));refine (HMY.out _ HV.out HB7.out).mono ?_;rintro e w8 ⟨rfl,hb8⟩;replace HX7:=h_ (Za HX7.out hb8);replace HV:=h_ (HV.out.trans (hb8.mono HV.out.size));replace HB7:=h_ (HB7.out.trans (hb8.mono HB7.out.size));clear hb8 HMY;go_wp2_with (first|(refine Yb rfl 28 (.tmp 1) w2.heap.size C 28 _ rfl rfl HX7.out rfl rfl HSC.out ?_));refine (HTX.out _ HV.out HB7.out).mono ?_;rintro e w9 ⟨rfl,hb9⟩;replace HX7:=h_ (Za HX7.out hb9);replace HV:=h_ (HV.out.trans (hb9.mono HV.out.size));replace HB7:=h_ (HB7.out.trans (hb9.mono HB7.out.size));clear hb9 HTX;go_wp2_with (first|(refine Zp0 rfl 28 #[] #[] _ rfl s_ (Xl _) ?_));refine (HMZ.out _ HB7.out).mono ?_;rintro e w10 ⟨rfl,hb10⟩;replace HX7:=h_ (Za HX7.out hb10);replace HV:=h_ (HV.out.trans (hb10.mono HV.out.size));replace HB7:=h_ (HB7.out.trans (hb10.mono HB7.out.size));clear hb10 HMZ;go_wp2_with (first|(refine Yb rfl 28 (.tmp 1) w2.heap.size C 28 _ rfl rfl HX7.out rfl rfl HSC.out ?_));refine (HLN.out _ HV.out HB7.out).mono ?_;rintro e w11 ⟨la,lc,rfl,-,hb11,-⟩;rw [ZkG];replace HB7:=h_ (HB7.out.trans (hb11.mono HB7.out.size));clear hb11 HLN;go_wp2_with fail;go_ret;exact ⟨rfl,HB7.out⟩
theorem m180_{p:Prop}(h:p:=by
  have HO3:=h_ (show o2=(Zc.take (n+1)).flatMap (Zb7 u (Zw nm) (kd:Nat)) by rw [HSN.out,HE.out,HO2.out,List.take_length]);clear HO2 HSN HE;go_wp2_with fail;go_roundg (42-n)
  case measure=>omega
  case rel=>exact ⟨n+1,o2,n9_,o_,o_,HO3,HOWi,HBWi⟩):p:=h
theorem m181_{p:Prop}(h:p:=by
  have HSK:=SKIP.out hi0;clear hi0 SKIP HTK HO2;go_wp2_with fail;go_roundg (rs.length-m)
  case measure=>omega
  case rel=>exact ⟨m+1,o2,n9_,o_,o_,o_,HSK,HOWx,HBWx⟩):p:=h
def ZaS(r:Int×Str):Bool:=decide (1<=r.1)&&decide (r.1<=9)
def ZeT(r:Int×Str):Ln:=⟨Z7,Yg r.1,Yk r.2,0⟩
def Zu5(l:List Ln)(w:World)(e:Ending)(w':World):Prop:=∃la lc,e=.returned (.slice la l.length lc)/\ZG ZU 4 w' la l/\Below w.heap.size w w'
theorem Ztt{W:World}{B:Nat}{v:Value}{l:List Ln}(h:W.ownsRow B Zaj 4 v l.length (Zx ZU l))(hB:B<=W.heap.size)(hl:l.length<=200000000){b:Nat}(x:Ln)(hx:W.heap[b]?=some (.cells (ZU x).toArray Zaj (0,0))) :
  ∃v' W',(Builtin.append_ #[33,33] 33 #[v,.slice (some ⟨b,0,none⟩) 1 1]).run prog W=.ok v' W'/\W'.ownsRow B Zaj 4 v' (l.length+1) (Zx ZU (l++[x]))/\W.grownBy W' v.ownBlock:=by
 obtain ⟨i0,hi0,hz0,hz1,hz2⟩:=info_parts ZvA;obtain ⟨v',W',hr,ho,hg⟩:=Xh (P:=prog) (w:=W) B 33 33 Zaj i0 (.agg #[.string ⟨#[]⟩,.string ⟨#[]⟩,.string ⟨#[]⟩,.int .i64 0]) 4 56 underlying33 hi0 hz0 hz1 hz2 n18_ d_ v l.length (Zx ZU l) h (some ⟨b,0,none⟩) 1 1 (ZU x) rfl (fun j u hu=>⟨b,0,rfl,by rw [(rd hx).1,Nat.zero_add];simpa using hu⟩) (ZdP x) n23_ o_ hB;refine ⟨v',W',hr,?_,hg⟩;rw [ZT,show Zx ZU [x]=ZU x by simp [Zx]];exact ho
theorem ZiG(s:Str)(w:World)(h:s.length<=1000000000):Calls prog 52 #[.string ⟨s.toArray⟩] w fun e w'=>e=.returned (.string ⟨(Yk s).toArray⟩)/\Below w.heap.size w w':=by
 have:=Zmk ⟨s.toArray⟩ w (by show s.toArray.size<=_;simpa using h)
 simpa using this
theorem Znr{D:Nat->Bool}{i j:Nat}(h:ZcH D i true j=false):D j=false:=by
 by_cases e:j=i
 ·subst e;rw [Zav] at h;cases h
 ·rw [QW _ _ e] at h;exact h
theorem Zm4{W:World}{B e k n:Nat}{v:Value}{xs:List Value}(h:W.ownsRow B e k v n xs):W.drew.ownsRow B e k v n xs:=Zo h (Ze ⟨1,rfl⟩)
theorem Zgj{W W':World}{B e k n:Nat}{v:Value}{xs:List Value}(h:W.ownsRow B e k v n xs)(hB:B<=W.heap.size)(hg:W.grownBy W' v.ownBlock):Below B W W':=(Below.refl B W).grown hg hB (fun k hk=>(h.lt k hk).1)
theorem Zda{W W':World}{B k n:Nat}{e:TypeId}{v:Value}{xs:List Value}(h:W.ownsRow B e k v n xs)(hb:Below W.heap.size W W'):W'.ownsRow B e k v n xs:=Zo h hb
theorem ZuW(u:UV)(sm:Yt u):(Zjo u).length<=2000000:=Nat.le_trans (List.length_filter_le _ _) (Nat.le_trans (Zlp (u 4)) (sm.len 4))
theorem Ztb(u:UV)(k:ZE)(sm:Yt u):(YE u k).length<=2000000:=by
 have h:=sm.len (Zb k.name);unfold YE;(repeat' split);all_goals (try rw [List.length_map])
 ·exact Nat.zero_le _
 ·exact Nat.le_trans (Zpc _) h
 ·exact Nat.le_trans (ZlK _) h
 ·exact Nat.le_trans (ZlW _) h
 ·exact Nat.le_trans (Zir _) h
theorem ZhA(u f:UV)(k:ZE)(sm:Yt u):(Yp u f k).length<=2000001:=by
 unfold Yp;rw [c5_]
 have:=Ztb u k sm
 have:=ZpS u f k
 omega
theorem ZmS(u f:UV)(k:ZE)(hk:k∈Zc)(sm:Yt u):∀s∈Yp u f k,s.length<=450000000:=by
 intro s hs;have hnum:∀n,-9223372036854775808<=n->n<=9223372036854775807->(Q7 k n).length<=450000000:=fun n h0 h1=>by
  by_cases hn:0<=n
  ·rw [Zkf hn];exact Ze9 k hk n h0 h1
  ·have e:Q7 k n=if k.form=4 then Yj n else if k.form=10 then (if n<1\/k.words.length<n then [] else k.words.getD (n-1).toNat []) else YP n:=rfl
   rw [e];split
   ·have:Yj n=[]:=by unfold Yj;rw [if_neg o_,if_pos (.inl o_)]
    rw [this];exact Nat.zero_le _
   ·split
    ·rw [if_pos (.inl o_)];exact Nat.zero_le _
    ·unfold YP;rw [if_pos o_];decide
 rcases List.mem_append.1 hs with hs|hs
 ·unfold YE at hs
  split at hs
  ·cases hs
  split at hs
  ·rename_i h8
   obtain ⟨p,hp,rfl⟩:=List.mem_map.1 hs;have hs19:=((c7_.1 ZlS k hk));simp only [Bool.and_eq_true,beq_iff_eq,Bool.or_eq_true,Bool.not_eq_true',c11_,ne_eq] at hs19;have h19:=(hs19.2.resolve_left (fun h=>h h8)).2.2;rw [h19] at hp;exact Zh6 p (sm.prs p hp)
  split at hs
  ·obtain ⟨c,hc,rfl⟩:=List.mem_map.1 hs
   exact (sm.cmds _ c hc).1
  split at hs
  ·obtain ⟨n,hn,rfl⟩:=List.mem_map.1 hs
   exact hnum n (sm.nums _ n hn).1 (sm.nums _ n hn).2
  ·have:=sm.strs _ s hs;omega
 ·unfold QZ at hs
  split at hs
  ·cases hs
  split at hs
  ·cases hs
  ·rw [List.mem_singleton.1 hs]
   unfold Zbx;split
   ·have:=sm.str (Zb k.name);omega
   ·split
    ·have:=ZjI (u (Zb k.name)).bool;omega
    ·exact hnum _ (sm.num _).1 (sm.num _).2
theorem ZuD(u f:UV)(kind:Int)(k:ZE)(sm:Yt u):(Zb7 u f kind k).length<=2000001:=by
 unfold Zb7;split
 ·exact Nat.zero_le _
 ·split
  ·rw [List.length_map];have:=ZuW u sm;omega
  ·rw [List.length_map];exact ZhA u f k sm
theorem ZmL(u f:UV)(kind:Int)(sm:Yt u):∀n,((Zc.take n).flatMap (Zb7 u f kind)).length<=n*2000001
 |0=>s_
 |n+1=>by
  have ih:=ZmL u f kind sm n;by_cases h:n<Zc.length
  ·rw [c4_ h,List.flatMap_append,c5_]
   have:=ZuD u f kind Zc[n] sm
   simp only [List.flatMap_cons,List.flatMap_nil,List.append_nil];omega
  ·rw [c9_ o_] at ih⊢
   exact Nat.le_trans ih (Nat.mul_le_mul_right _ (Nat.le_succ n))
theorem Zrb:(Zc.all fun k=>(List.range 5).all fun m=>(bits BinOp.and IntKind.i64 (k.kinds / 2 ^ m) 1==0)==!(Qi k.kinds (m:Int)))=true:=n1_
theorem ZrR{k:ZE}(hk:k∈Zc){m:Nat}(hm:m<=4):(bits BinOp.and IntKind.i64 (k.kinds / 2 ^ m) 1==0)=!(Qi k.kinds (m:Int)):=
 eq_of_beq (c7_.1 (c7_.1 Zrb k hk) m (List.mem_range.2 o_))
def RwF(B KB:Nat)(ov:Value)(out:List Ln)(sec nm tx dx:Str):Nat->Value->World->Prop
 |0,v,_=>v=ov
 |1,v,_=>v=.pointer (some ⟨KB,0,none⟩)
 |2,v,_=>v=.string ⟨sec.toArray⟩
 |3,v,_=>v=.pointer (some ⟨KB,1,none⟩)
 |4,v,_=>v=.string ⟨nm.toArray⟩
 |5,v,_=>v=.string ⟨tx.toArray⟩
 |6,v,_=>v=.string ⟨dx.toArray⟩
 |7,v,_=>v=.agg (ZU ⟨sec,nm,dx,0⟩).toArray
 |8,v,W=>∃b,v=.slice (some ⟨b,0,none⟩) 1 1/\W.heap[b]?=some (.cells (ZU ⟨sec,nm,dx,0⟩).toArray Zaj (0,0))
 |9,v,W=>W.ownsRow B Zaj 4 v (out.length+1) (Zx ZU (out++[⟨sec,nm,dx,0⟩]))
 |10,v,W=>W.ownsRow B Zaj 4 v (out.length+1) (Zx ZU (out++[⟨sec,nm,dx,0⟩]))
 |_,_,_=>True
theorem RwF.mono{B KB:Nat}{ov:Value}{out:List Ln}{sec nm tx dx:Str}(j:Nat)(v:Value)(W W':World)(hb:Below W.heap.size W W')(h:RwF B KB ov out sec nm tx dx j v W):RwF B KB ov out sec nm tx dx j v W':=by
 match j,h with
 |0,h=>exact h
 |1,h=>exact h
 |2,h=>exact h
 |3,h=>exact h
 |4,h=>exact h
 |5,h=>exact h
 |6,h=>exact h
 |7,h=>exact h
 |8,⟨b,e,h⟩=>exact ⟨b,e,Za h hb⟩
 |9,h=>exact Zo h hb
 |10,h=>exact Zo h hb
 |_+11,_=>exact trivial
theorem Zqs(u:UV)(us:Array Value)(w:World)(hu:ZV w us u)(tu:ZH u)(sm:Yt u):Calls prog 21 #[.agg us] w fun e w'=>Zu5 (Zbh u) w e w':=by
 obtain ⟨v0,hv0,sv0⟩:=YB hu (show 0<35 by decide);obtain ⟨nm,en⟩:=ZoB (tu 0);rw [en] at sv0;obtain rfl:v0=.string ⟨nm.toArray⟩:=sv0;have hnm:(u 0).str=nm:=by rw [en];rfl
 obtain ⟨v4,hv4,sv4⟩:=YB hu (show 4<35 by decide);obtain ⟨rs,er⟩:=Zu4 ((tu 4).trans rfl);rw [er] at sv4;obtain ⟨ra,rc,rfl,hrr,-⟩:=sv4;have hrl:rs.length<=2000000:=by have:=sm.len 4;rw [er] at this;exact this
 have HRS:=h_ (show Zjo u=rs.filter fun r=>decide (1<=r.1)&&decide (r.1<=9) by unfold Zjo;rw [er];rfl);have HRD:=h_ (show ∀r∈rs,r.2.length<=100000000 from fun r hr=>sm.rels r (by rw [er];exact hr));have hbA:Below w.heap.size w (w.alloc (.cells us 28)):=b_.alloc l_ _;have HXA:=h_ (heap_alloc_new w (.cells us 28));have HB:=h_ hbA;have HCA:=h_ (show (prog.info? 28).map (·.size)=some us.size by rw [hu.size];rfl);have HU:=h_ (fun W (h:Below w.heap.size w W)=>hu.below h);have HRR:=h_ (fun W (h:Below w.heap.size w W)=>hrr.below h);have HTU:=h_ tu;have HSM:=h_ sm;have HV0:=h_ hv0;have HV4:=h_ hv4;obtain ⟨kd,hkd⟩:=e_ (Zt nm);have hkd4:kd<=4:=by rw [hkd];exact J3 nm
 obtain ⟨fs,hfs⟩:=e_ (Yz (Zw nm));have HF:=h_ (fun W=>show ZV W fs (Zw nm) by rw [hfs];exact ZgY W nm);have HFK:=h_ (show fs[1]?=some (.int .i64 (kd:Nat)) by
  obtain ⟨v1,hv1,sv1⟩:=YB (ZgY w nm) (show 1<35 by decide);rw [hfs,hv1];congr 1;by_cases h0:Zt nm=0
  ·have e1:Zw nm 1=.n 0:=by unfold Zw;rw [if_pos h0];rfl
   rw [e1] at sv1;have sv1:v1=.int .i64 0:=sv1;rw [sv1,hkd,h0];rfl
  ·rw [Zk1 h0] at sv1
   have sv1:v1=.int .i64 ((Zt nm:Nat):Int):=sv1;rw [sv1,hkd])
 have hfz:fs.size=35:=(HF.out w).size;have HSZ:=h_ (show Zf.size=fs.size by rw [hfz];rfl);have HSC:=h_ (show (prog.info? 28).map (·.size)=some fs.size by rw [hfz];rfl);have HON:=h_ (show (fs.all fun x=>x.oneCell')=true by rw [hfs];exact Qj.one (ZlC w (Zw nm) (Zc1 nm)));have HNW:=h_ (fun W=>show Calls prog 50 #[.string ⟨nm.toArray⟩] W (fun e w'=>e=.returned (.agg fs)/\Below W.heap.size W w') from by rw [hfs];exact Ztf nm W);have HTN:=h_ (ZH.new nm);have HROW:=h_ (show Zbh u=Zc.flatMap (Zb7 u (Zw nm) (kd:Nat)) by unfold Zbh;rw [hnm,hkd]);have HFEW:=h_ (ZmL u (Zw nm) (kd:Nat) sm);clear hbA hu hrr tu sm hv0 hv4 hkd hfs hfz hnm en er;go_enter func21,ntmps21;go_upto_region 1 with fail
 generalize w.alloc (.cells us 28)=w1 at HXA HB⊢;have q0:=((rd HXA.out).1 0).trans HV0.out;go_wp2_with fail;clear q0;refine (HNW.out w1).mono ?_;rintro e w2 ⟨rfl,hb2⟩;replace HXA:=h_ (Za HXA.out hb2);replace HB:=h_ (HB.out.trans (hb2.mono HB.out.size));have L1:=h_ (Zd HXA.out);have LW:=h_ HB.out.size;clear hb2;go_upto_region 2 with (first
  |(refine YW rfl _ Zf rfl (ZJ _) ?_;intro wa ha hba)
  |(refine Yr rfl 28 (.tmp 3) (.tmp 14) w2.heap.size fs Zf 28 rfl rfl rfl ha HSZ.out HSC.out HON.out ?_;intro wb hc hf))
 have hbb:Below w2.heap.size w2 wb:=hba.trans (hf.below _ hba.size (fun k hk e=>by omega));replace HXA:=h_ (Za HXA.out hbb);replace HB:=h_ (HB.out.trans (hbb.mono HB.out.size));have HXF:=h_ hc;obtain ⟨FB,hFB⟩:=e_ w2.heap.size;rw [<-hFB] at HXF⊢;clear ha hba hc hf hbb L1 LW hFB HSZ HON;go_wp2_with fail;refine (Zrf wb).mono ?_;rintro e w3 ⟨ov,cv,vs,rfl,hrv,hkv,hb3⟩;replace HXA:=h_ (Za HXA.out hb3);replace HXF:=h_ (Za HXF.out hb3);replace HB:=h_ (HB.out.trans (hb3.mono HB.out.size));have hlv:vs.length=42:=by rw [hkv.1];exact Xz
 have HVR:=h_ (fun W (h:Below w3.heap.size w3 W)=>hrv.below h);have HKV:=h_ (fun n (h1:n<vs.length) (h2:n<Zc.length)=>hkv.2 n h1 h2);have HLV:=h_ hlv;clear hrv hkv hb3 hlv;go_wp2_with fail;go_loopg [4,17] 43 (fun f v i wr=>∃(n:Nat) (out:List Ln),i=.int .i64 n/\n<=42/\42-n<f/\Hid (out=(Zc.take n).flatMap (Zb7 u (Zw nm) (kd:Nat)))/\Hid (wr.ownsRow w3.heap.size Zaj 4 v out.length (Zx ZU out))/\Hid (Below w3.heap.size w3 wr))
 case atStart=>exact ⟨0,[],rfl,o_,o_,rfl,World.ownsRow_nil _ _ _ _,h_ b_⟩
 case round=>
  obtain ⟨n,out,rfl,hn,hf,HOUT,HOW,HBW⟩:=hrel;obtain ⟨g1,rfl⟩:∃g,g=gk:=⟨gk,rfl⟩;obtain ⟨ob,cb,rfl⟩:=ownsRow_form HOW.out;by_cases hlt:n<42
  ·have hv:n<vs.length:=by rw [HLV.out];exact hlt
   have hak:n<Zc.length:=by rw [Xz];exact hlt
   have i5:(n:Int)<42:=o_;obtain ⟨kv,hkv⟩:=e_ (vs[n]);obtain ⟨k,hk⟩:=e_ (Zc[n]);have hkr:=HKV.out n hv hak;obtain ⟨bv,fv,rfl,-,hc⟩:=HVR.out wr HBW.out n hv;rw [<-hkv] at hc hkr;rw [<-hk] at hkr;have d0:=hc 0 _ rfl;have d1:=hc 1 _ rfl;have d2:=hc 2 _ rfl;have d3:=hc 3 _ rfl;have d4:=hc 4 _ rfl;have d5:=hc 5 _ rfl;rw [Nat.add_zero] at d0;have HKM:=h_ (show k∈Zc by rw [hk];exact List.getElem_mem hak);have HSN:=h_ (show (Zc.take (n+1)).flatMap (Zb7 u (Zw nm) (kd:Nat))=out++Zb7 u (Zw nm) (kd:Nat) k by
    rw [c4_ hak,List.flatMap_append,<-hk,HOUT.out];simp)
   have HOL:=h_ (show out.length<=90000000 by have:=HFEW.out n;rw [<-HOUT.out] at this;omega);obtain ⟨ks,kn,kf,kl,kk,kwa,kwn,kwc⟩:=kv;obtain ⟨e1,e2,e3,e4,e5⟩:ks=k.sec/\kn=k.name/\kf=k.form/\kl=k.list/\kk=k.kinds:=⟨hkr.sec,hkr.name,hkr.form,hkr.list,hkr.kinds⟩;subst e1;subst e2;subst e3;subst e4;subst e5;simp only at d0 d1 d2 d3 d4 d5;have HXK:=h_ (heap_alloc_new wr (.cells #[.string ⟨k.sec.toArray⟩,.string ⟨k.name.toArray⟩,.int .i64 k.form,.bool k.list,.int .i64 k.kinds,.slice kwa kwn kwc] 82));have HBK:=h_ ((Below.refl wr.heap.size wr).alloc l_ (.cells #[.string ⟨k.sec.toArray⟩,.string ⟨k.name.toArray⟩,.int .i64 k.form,.bool k.list,.int .i64 k.kinds,.slice kwa kwn kwc] 82));clear hkv hk hkr hc hv hak HOUT;go_upto_region 6 with fail
   obtain ⟨KB,hKB⟩:=e_ wr.heap.size;rw [<-hKB] at HXK⊢;have HKL:=h_ (show w3.heap.size<=KB by rw [hKB];exact HBW.out.size);generalize wr.alloc (.cells #[.string ⟨k.sec.toArray⟩,.string ⟨k.name.toArray⟩,.int .i64 k.form,.bool k.list,.int .i64 k.kinds,.slice kwa kwn kwc] 82)=wk at HXK HBK⊢;have HBW2:=h_ (HBW.out.trans (HBK.out.mono HBW.out.size));have HOW2:=h_ (Zda HOW.out HBK.out);clear HOW HBW HBK hKB d0 d1 d2 d3 d4 d5;have c4:=(rd HXK.out).1 4;have c1:=(rd HXK.out).1 1;simp only [c1_,c2_,c3_] at c4 c1;have f1:=((rd (Za HXF.out HBW2.out)).1 1).trans HFK.out;have hbit:=ZrR HKM.out hkd4;cases hin:Qi k.kinds (kd:Int) with
   |false=>
    rw [hin] at hbit;have HE:=h_ (show Zb7 u (Zw nm) (kd:Nat) k=[] by unfold Zb7;rw [if_pos hin]);have HO3:=h_ (show (Zc.take (n+1)).flatMap (Zb7 u (Zw nm) (kd:Nat))=out by rw [HSN.out,HE.out,List.append_nil]);clear hin HE HSN;go_wp2_with fail;go_roundg (42-n)
    case measure=>omega
    case rel=>exact ⟨n+1,out,n9_,o_,o_,HO3.out.symm,HOW2,HBW2⟩
   |true=>
    rw [hin] at hbit;have HIN:=h_ hin;clear hin;cases hq:(k.name==[82,101,113,117,105,114,101,115]) with
    |true=>
     have HE:=h_ (show Zb7 u (Zw nm) (kd:Nat) k=(rs.filter ZaS).map ZeT by
      unfold Zb7;rw [if_neg (by rw [HIN.out];decide),if_pos (eq_of_beq hq),HRS.out];rfl)
     have q4:=((rd (Za HXA.out HBW2.out)).1 4).trans HV4.out;go_wp2_with fail;go_loopg [4,35] (rs.length+1) (fun f v i wi=>∃(m:Nat) (o2:List Ln),i=.int .i64 m/\m<=rs.length/\rs.length-m<f/\o2.length<=out.length+m/\Hid (o2=out++((rs.take m).filter ZaS).map ZeT)/\Hid (wi.ownsRow w3.heap.size Zaj 4 v o2.length (Zx ZU o2))/\Hid (Below w3.heap.size w3 wi))
     case atStart=>exact ⟨0,out,rfl,o_,o_,o_,h_ s_,HOW2,HBW2⟩
     case round=>
      obtain ⟨m,o2,rfl,hm,hfm,hol2,HO2,HOWi,HBWi⟩:=hrel;obtain ⟨g2,rfl⟩:∃g,g=gk:=⟨gk,rfl⟩;obtain ⟨wi,rfl⟩:∃g,g=wr:=⟨wr,rfl⟩;obtain ⟨oi,ci,rfl⟩:=ownsRow_form HOWi.out;by_cases hlm:m<rs.length
      ·have i6:(m:Int)<(rs.length:Int):=o_
       obtain ⟨r,hr⟩:=e_ (rs[m]);obtain ⟨br,fr,rfl,-,hc⟩:=HRR.out wi (HB.out.trans (HBWi.out.mono HB.out.size)) m hlm;rw [<-hr] at hc;have d0:=hc 0 _ rfl;have d1:=hc 1 _ rfl;rw [Nat.add_zero] at d0;have HRL:=h_ (HRD.out r (by rw [hr];exact List.getElem_mem hlm));have HTK:=h_ (show ((rs.take (m+1)).filter ZaS).map ZeT=((rs.take m).filter ZaS).map ZeT++(if ZaS r then [ZeT r] else []) by
        rw [c4_ hlm,<-hr,List.filter_append,List.map_append];congr 1;by_cases e:ZaS r=true
        ·rw [if_pos e];simp [e]
        ·rw [if_neg e];simp [e])
       obtain ⟨rk,rn⟩:=r;simp only at d0 d1 HRL;have HXR:=h_ (heap_alloc_new wi (.cells #[.int .i64 rk,.string ⟨rn.toArray⟩] 47));have HBR:=h_ ((Below.refl wi.heap.size wi).alloc l_ (.cells #[.int .i64 rk,.string ⟨rn.toArray⟩] 47));clear hr hc;have skip:ZaS (rk,rn)=false->Hid (o2=out++((rs.take (m+1)).filter ZaS).map ZeT):=fun e=>by
        refine h_ ?_;rw [HTK.out,e,HO2.out];simp
       have SKIP:=h_ skip;clear skip;go_upto_region 11 with fail
       generalize wi.alloc (.cells #[.int .i64 rk,.string ⟨rn.toArray⟩] 47)=wx at HXR HBR⊢;have r0:=(rd HXR.out).1 0;have r1:=(rd HXR.out).1 1;simp only [c1_,c2_,c3_] at r0 r1;have HOWx:=h_ (Zda HOWi.out HBR.out);have HBWx:=h_ (HBWi.out.trans (HBR.out.mono HBWi.out.size));clear d0 d1 HOWi HBWi;by_cases h1:1<=rk
       ·by_cases h9:rk<=9
        ·obtain ⟨q,hq⟩:∃q:Nat,rk-1=(q:Int):=⟨(rk-1).toNat,o_⟩
         have k1:IntKind.i64.wrap (rk-1)=(q:Int):=by rw [hq];exact IntWalk.i64_in _ o_
         have k2:(q:Int)<9:=o_;have hrn:Yg rk=YR.getD q []:=by unfold Yg;rw [if_pos ⟨h1,h9⟩,hq];rfl
         have hidx:(Zh YR).toArray[q]?=some (.string ⟨(Yg rk).toArray⟩):=by
          rw [hrn];rcases (show q=0\/q=1\/q=2\/q=3\/q=4\/q=5\/q=6\/q=7\/q=8 by omega) with rfl|rfl|rfl|rfl|rfl|rfl|rfl|rfl|rfl<;>rfl
         have HYES:=h_ (show o2++[ZeT (rk,rn)]=out++((rs.take (m+1)).filter ZaS).map ZeT by
          rw [HTK.out,if_pos (show ZaS (rk,rn)=true by unfold ZaS;rw [decide_eq_true h1,decide_eq_true h9];rfl),HO2.out,List.append_assoc])
         unfold ZeT at HYES;simp only at HYES;generalize Yg rk=rname at hidx HYES;have HIX:=h_ hidx;clear hq hrn hidx SKIP HTK HO2;go_upto_region 12 with fail
         have HXN:=h_ (heap_alloc_new wx (.cells (Zh YR).toArray 9));have HBN:=h_ ((Below.refl wx.heap.size wx).alloc l_ (.cells (Zh YR).toArray 9));have n1:=((rd HXN.out).1 q).trans HIX.out;have hxr2:=Za HXR.out HBN.out;have p0:=(rd hxr2).1 0;have p1:=(rd hxr2).1 1;simp only [c1_,c2_,c3_] at p0 p1;have HOWy:=h_ (Zda HOWx.out HBN.out);have HBWy:=h_ (HBWx.out.trans (HBN.out.mono HBWx.out.size));clear hxr2 HXR HXN HBN HIX HOWx HBWx;unfold YR Zh at n1 p0 p1 HOWy HBWy;simp only [List.map_cons,List.map_nil] at n1 p0 p1 HOWy HBWy;go_upto_region 13 with fail
         generalize wx.alloc (.cells #[.string ⟨#[82,101,113,117,105,114,101,115]⟩,.string ⟨#[87,97,110,116,115]⟩,.string ⟨#[82,101,113,117,105,115,105,116,101]⟩,.string ⟨#[66,105,110,100,115,84,111]⟩,.string ⟨#[80,97,114,116,79,102]⟩,.string ⟨#[67,111,110,102,108,105,99,116,115]⟩,.string ⟨#[66,101,102,111,114,101]⟩,.string ⟨#[65,102,116,101,114]⟩,.string ⟨#[79,110,70,97,105,108,117,114,101]⟩] 9)=wy at p0 p1 n1 HOWy HBWy⊢;clear n1 p0;have HDB:=h_ (ZiG rn wy (by have:=HRL.out;omega));go_wp2_with fail;refine HDB.out.mono ?_;rintro e w5 ⟨rfl,hb5⟩;have hb6:=hb5.alloc hb5.size (.cells (ZU ⟨Z7,rname,Yk rn,0⟩).toArray Zaj);obtain ⟨v7,w7,hr7,ho7,hg7⟩:=Ztt (Zda HOWy.out hb6) (Nat.le_trans HBWy.out.size hb6.size) (by have:=HOL.out;omega) ⟨Z7,rname,Yk rn,0⟩ (heap_alloc_new w5 _);have HO7:=h_ ho7;have HB7:=h_ (HBWy.out.trans ((hb6.mono HBWy.out.size).trans (Zgj (Zda HOWy.out hb6) (Nat.le_trans HBWy.out.size hb6.size) hg7)));clear hb5 hb6 ho7 hg7 HDB p1 HOWy HBWy;unfold ZU at hr7;simp only at hr7;go_wp2_with (at_builtin;refine wpList_append_run rfl _ _ 33 rfl hr7 rfl rfl ?_);go_roundg (rs.length-m)
         case measure=>omega
         case rel=>exact ⟨m+1,o2++[⟨Z7,rname,Yk rn,0⟩],n9_,o_,o_,by rw [c5_];show o2.length+1<=_;omega,HYES,(by rw [c5_];exact HO7),HB7⟩
        ·have hi0:ZaS (rk,rn)=false:=by unfold ZaS;rw [decide_eq_false h9];simp
         exact m181_
       ·have hi0:ZaS (rk,rn)=false:=by unfold ZaS;rw [decide_eq_false h1];rfl
        exact m181_
      ·obtain rfl:m=rs.length:=o_
       exact m180_
    |false=>
     have HE:=h_ (show Zb7 u (Zw nm) (kd:Nat) k=(Yp u (Zw nm) k).map fun s=>⟨k.sec,k.name,Yk s,0⟩ by
      unfold Zb7;rw [if_neg (by rw [HIN.out];decide),if_neg (fun e=>by rw [e] at hq;exact absurd hq d_)])
     have HVL:=h_ (Zlx us fs u (Zw nm) ⟨k.sec,k.name,k.form,k.list,k.kinds,kwa,kwn,kwc⟩ k wk (HU.out wk (HB.out.trans (HBW2.out.mono HB.out.size))) (HF.out wk) HTU.out HTN.out HSM.out rfl HKM.out);have HTF:=h_ (ZhA u (Zw nm) k HSM.out);have HTT:=h_ (ZmS u (Zw nm) k HKM.out HSM.out);generalize Yp u (Zw nm) k=ts at HE HVL HTF HTT;have HXA2:=h_ (Za HXA.out HBW2.out);have HXF2:=h_ (Za HXF.out HBW2.out);have c0:=(rd HXK.out).1 0;have c2:=(rd HXK.out).1 2;have c3:=(rd HXK.out).1 3;have c5:=(rd HXK.out).1 5;simp only [c1_,c2_,c3_] at c0 c2 c3 c5;go_wp2_with (first
      |(refine Yb rfl 28 (.tmp 1) w.heap.size us 28 _ rfl rfl HXA2.out rfl rfl HCA.out ?_)
      |(refine Yb rfl 28 (.tmp 3) FB fs 28 _ rfl rfl HXF2.out rfl rfl HSC.out ?_))
     refine HVL.out.mono ?_;rintro e w4 ⟨ta,tc,rfl,hrow,hb4⟩;have HXK4:=h_ (Za HXK.out hb4);have HOW4:=h_ (Zda HOW2.out hb4);have HBW4:=h_ (HBW2.out.trans (hb4.mono HBW2.out.size));have HTS:=h_ hrow;clear hrow hb4 HVL c0 c1 c2 c3 c4 c5 HXK HOW2 HBW2 f1 hbit HXA2 HXF2;go_wp2_with fail;go_loopg [4,67] (ts.length+1) (fun f v i wi=>∃(m:Nat) (o2:List Ln),i=.int .i64 m/\m<=ts.length/\ts.length-m<f/\o2.length<=out.length+m/\Hid (o2=out++(ts.take m).map fun s=>⟨k.sec,k.name,Yk s,0⟩)/\Hid (wi.ownsRow w3.heap.size Zaj 4 v o2.length (Zx ZU o2))/\Hid (Below w3.heap.size w3 wi)/\Hid (wi.heap[KB]?=some (.cells #[.string ⟨k.sec.toArray⟩,.string ⟨k.name.toArray⟩,.int .i64 k.form,.bool k.list,.int .i64 k.kinds,.slice kwa kwn kwc] 82 (0,0)))/\Hid (wi.ownsRow wk.heap.size 9 1 (.slice ta ts.length tc) ts.length (Zh ts)))
     case atStart=>exact ⟨0,out,rfl,o_,o_,o_,h_ s_,HOW4,HBW4,HXK4,HTS⟩
     case round=>
      obtain ⟨m,o2,rfl,hm,hfm,hol2,HO2,HOWi,HBWi,HXKi,HTSi⟩:=hrel;obtain ⟨g2,rfl⟩:∃g,g=gk:=⟨gk,rfl⟩;obtain ⟨wi,rfl⟩:∃g,g=wr:=⟨wr,rfl⟩;obtain ⟨oi,ci,rfl⟩:=ownsRow_form HOWi.out;by_cases hlm:m<ts.length
      ·have i6:(m:Int)<(ts.length:Int):=o_
       obtain ⟨tx,htx⟩:=e_ (ts[m]);obtain ⟨bt,ft,rfl,hc⟩:=Zp.of_own HTSi.out m hlm;rw [<-htx] at hc;have HTL:=h_ (HTT.out tx (by rw [htx];exact List.getElem_mem hlm));have HTK:=h_ (show (ts.take (m+1)).map (fun s=>(⟨k.sec,k.name,Yk s,0⟩:Ln))=(ts.take m).map (fun s=>(⟨k.sec,k.name,Yk s,0⟩:Ln))++[⟨k.sec,k.name,Yk tx,0⟩] by
        rw [c4_ hlm,<-htx,List.map_append];rfl)
       clear htx;have HDB:=h_ (fun W=>ZiG tx W (by have:=HTL.out;omega));go_upto_region 18 with fail
       clear hc;have HO4:=h_ (show o2++[(⟨k.sec,k.name,Yk tx,0⟩:Ln)]=out++(ts.take (m+1)).map fun s=>⟨k.sec,k.name,Yk s,0⟩ by rw [HTK.out,HO2.out,List.append_assoc]);clear HO2 HTK HTL;refine Zca (N:=84) (fun D W=>Below w3.heap.size w3 W/\W.heap[KB]?=some (.cells #[.string ⟨k.sec.toArray⟩,.string ⟨k.name.toArray⟩,.int .i64 k.form,.bool k.list,.int .i64 k.kinds,.slice kwa kwn kwc] 82 (0,0))/\W.ownsRow wk.heap.size 9 1 (.slice (some ⟨bt,ft,none⟩) ts.length tc) ts.length (Zh ts)/\(D 9=false->W.ownsRow w3.heap.size Zaj 4 (.slice oi o2.length ci) o2.length (Zx ZU o2))) (RwF w3.heap.size KB (.slice oi o2.length ci) o2 k.sec k.name tx (Yk tx)) (fun j=>j) [[],[],[],[],[],[],[],[],[9],[],[]] k_ k_ rfl k_ ⟨HBWi.out.trans (Ze ⟨1,rfl⟩),HXKi.out,Zm4 HTSi.out,fun _=>Zm4 HOWi.out⟩ (fun D i W W2 hw h=>⟨h.1.trans (hw.mono h.1.size),Za h.2.1 hw,Zda h.2.2.1 hw,fun e=>Zda (h.2.2.2 (Znr e)) hw⟩) RwF.mono ?_ ?_
       ·intro i oo ho D V a W hD hdep hI
        have hi:i<11:=(c6_.1 ho).1;have h0:=hI.inv;have hB:=True.intro;rcases (show i=0\/i=1\/i=2\/i=3\/i=4\/i=5\/i=6\/i=7\/i=8\/i=9\/i=10 by omega) with rfl|rfl|rfl|rfl|rfl|rfl|rfl|rfl|rfl|rfl|rfl
        ·obtain rfl:=Option.some.inj ho
         have s:a.tmps[4]?=some (.slice oi o2.length ci):=(hI.ahead 4 10 (h0.not hD k_) k_).trans rfl;exact ZA (.slice oi o2.length ci) n7_ ⟨_,rfl,rfl,.inl b_⟩
        ·obtain rfl:=Option.some.inj ho
         have s:a.tmps[6]?=some (.pointer (some ⟨KB,0,none⟩)):=(hI.at 6 k_).trans rfl;exact ZA (.pointer (some ⟨KB,0,none⟩)) n7_ ⟨_,rfl,rfl,.inl b_⟩
        ·obtain rfl:=Option.some.inj ho
         have d1:=hdep ⟨1,.data⟩ s_ rfl;have s1:=hI.slot 1 _ 72 rfl rfl d1;have f1:V 1=.pointer (some ⟨KB,0,none⟩):=h0.fact 1 d1 n22_;rw [f1] at s1;have q0:=(rd h0.bel.2.1).1 0;simp only [c1_,c2_,c3_] at q0;exact ZA (.string ⟨k.sec.toArray⟩) n57_ ⟨_,rfl,rfl,.inl b_⟩
        ·obtain rfl:=Option.some.inj ho
         have s:a.tmps[6]?=some (.pointer (some ⟨KB,0,none⟩)):=(hI.at 6 k_).trans rfl;exact ZA (.pointer (some ⟨KB,1,none⟩)) n7_ ⟨_,rfl,rfl,.inl b_⟩
        ·obtain rfl:=Option.some.inj ho
         have d3:=hdep ⟨3,.data⟩ s_ rfl;have s3:=hI.slot 3 _ 74 rfl rfl d3;have f3:V 3=.pointer (some ⟨KB,1,none⟩):=h0.fact 3 d3 n22_;rw [f3] at s3;have q0:=(rd h0.bel.2.1).1 1;simp only [c1_,c2_,c3_] at q0;exact ZA (.string ⟨k.name.toArray⟩) n36_ ⟨_,rfl,rfl,.inl b_⟩
        ·obtain rfl:=Option.some.inj ho
         have s:a.tmps[11]?=some (.string ⟨tx.toArray⟩):=(hI.at 11 k_).trans rfl;exact ZA (.string ⟨tx.toArray⟩) n7_ ⟨_,rfl,rfl,.inl b_⟩
        ·obtain rfl:=Option.some.inj ho
         have d5:=hdep ⟨5,.data⟩ s_ rfl;have s5:=hI.slot 5 _ 76 rfl rfl d5;have f5:V 5=.string ⟨tx.toArray⟩:=h0.fact 5 d5 n22_;rw [f5] at s5;refine Zcp 52 #[.string ⟨tx.toArray⟩] (by obtain ⟨y0,z0⟩:=Zi s5;clear h0 hB hI hdep;go_simp) (HDB.out W) ?_;rintro e w' ⟨rfl,hb⟩;exact ⟨_,rfl,_,rfl,rfl,.inl hb⟩
        ·obtain rfl:=Option.some.inj ho
         have d2:=hdep ⟨2,.data⟩ s_ rfl;have s2:=hI.slot 2 _ 73 rfl rfl d2;have d4:=hdep ⟨4,.data⟩ s_ rfl;have s4:=hI.slot 4 _ 75 rfl rfl d4;have d6:=hdep ⟨6,.data⟩ s_ rfl;have s6:=hI.slot 6 _ 77 rfl rfl d6;have f2:V 2=.string ⟨k.sec.toArray⟩:=h0.fact 2 d2 n22_;have f4:V 4=.string ⟨k.name.toArray⟩:=h0.fact 4 d4 n22_;have f6:V 6=.string ⟨(Yk tx).toArray⟩:=h0.fact 6 d6 n22_;rw [f2] at s2;rw [f4] at s4;rw [f6] at s6;clear f2 f4 f6;exact ZA (.agg (ZU ⟨k.sec,k.name,Yk tx,0⟩).toArray) (by unfold ZU;obtain ⟨y0,z0⟩:=Zi s2;obtain ⟨y1,z1⟩:=Zi s4;obtain ⟨y2,z2⟩:=Zi s6;clear h0 hB hI hdep;go_simp) ⟨_,rfl,rfl,.inl b_⟩
        ·obtain rfl:=Option.some.inj ho
         have d7:=hdep ⟨7,.data⟩ s_ rfl;have s7:=hI.slot 7 _ 78 rfl rfl d7;have f7:V 7=.agg (ZU ⟨k.sec,k.name,Yk tx,0⟩).toArray:=h0.fact 7 d7 n22_;rw [f7] at s7;exact ZA (w':=W.alloc (.cells (ZU ⟨k.sec,k.name,Yk tx,0⟩).toArray Zaj)) (.slice (some ⟨W.heap.size,0,none⟩) 1 1) (by unfold ZU at s7⊢;obtain ⟨y0,z0⟩:=Zi s7;clear h0 hB hI hdep;go_simp) ⟨_,rfl,⟨_,rfl,heap_alloc_new _ _⟩,.inl (b_.alloc l_ _)⟩
        ·obtain rfl:=Option.some.inj ho
         have d0:=hdep ⟨0,.data⟩ s_ rfl;have s0:=hI.slot 0 _ 71 rfl rfl d0;have d8:=hdep ⟨8,.data⟩ s_ rfl;have s8:=hI.slot 8 _ 79 rfl rfl d8;have f0:V 0=.slice oi o2.length ci:=h0.fact 0 d0 n22_;obtain ⟨b2,f8,hb2⟩:∃b2,V 8=.slice (some ⟨b2,0,none⟩) 1 1/\W.heap[b2]?=some (.cells (ZU ⟨k.sec,k.name,Yk tx,0⟩).toArray Zaj (0,0)):=h0.fact 8 d8 n22_;rw [f0] at s0;rw [f8] at s8;have hown:=h0.bel.2.2.2 hD;obtain ⟨v',w',hrun,hnew,hgrow⟩:=Ztt hown h0.bel.1.size (by have:=HOL.out;have:=HTF.out;omega) ⟨k.sec,k.name,Yk tx,0⟩ hb2;have hfr:Fr (fun k=>(Value.slice oi o2.length ci).ownBlock=some k) W w':=(Fr.refl _ _).grown hgrow (fun k hk _=>hk);have hty:∀(g:Nat) (cs:Array Value) (T:TypeId) (z:Nat×Nat),W.heap[g]?=some (.cells cs T z)->(Value.slice oi o2.length ci).ownBlock=some g->T=Zaj:=fun g cs T z h e=>by
          obtain ⟨cur,hcur⟩:=Zqr hown g e;rw [hcur] at h;injection h with h
          injection h with _ h _
          exact h.symm
         refine ZlJ _ _ 33 rfl hrun (Zi s0).1 (Zi s8).1 ⟨_,rfl,hnew,.inr ⟨⟨h0.bel.1.trans (Zgj hown h0.bel.1.size hgrow),hfr.heap h0.bel.2.1 (fun e=>absurd (hty _ _ _ _ h0.bel.2.1 e) d_),Z4 h0.bel.2.2.1 hfr (fun g _ ⟨cs,fz,h⟩ e=>absurd (hty _ _ _ _ h e) d_),fun h=>by rw [Zav] at h;cases h⟩,fun j hj hDj hk hf=>?_⟩⟩;match j,hf with
         |0,hf=>exact hf
         |1,hf=>exact hf
         |2,hf=>exact hf
         |3,hf=>exact hf
         |4,hf=>exact hf
         |5,hf=>exact hf
         |6,hf=>exact hf
         |7,hf=>exact hf
         |8,hf=>have:=hk 9 s_;rw [Zav] at this;cases this
         |9,hf=>exact absurd rfl hj
         |10,hf=>rw [h0.not (j:=10) hD k_] at hDj;cases hDj
         |_+11,hf=>exact trivial
        ·obtain rfl:=Option.some.inj ho
         have d9:=hdep ⟨9,.data⟩ s_ rfl;have s9:=hI.slot 9 _ 80 rfl rfl d9;have f9:W.ownsRow w3.heap.size Zaj 4 (V 9) (o2.length+1) (Zx ZU (o2++[⟨k.sec,k.name,Yk tx,0⟩])):=h0.fact 9 d9 n22_;exact ZA (V 9) (by obtain ⟨y0,z0⟩:=Zi s9;clear h0 hB hI hdep f9;go_simp) ⟨_,rfl,f9,.inl b_⟩
       ·intro D V a W hall hI
        have h0:=hI.inv;have e10:W.ownsRow w3.heap.size Zaj 4 (V 10) (o2.length+1) (Zx ZU (o2++[⟨k.sec,k.name,Yk tx,0⟩])):=h0.fact 10 (hall 10 d_) s_;have s4:=Yc (hI.slot 10 _ 4 rfl rfl (hall 10 d_));have hform:=hI.form [4,71,72,73,74,75,76,77,78,79,80] k_;simp only [List.foldl_cons,List.foldl_nil,s4,sA_,sB_,sC_] at hform;rw [hform];have HR:=h_ e10;have HBE:=h_ h0.bel.1;have HKE:=h_ h0.bel.2.1;have HTE:=h_ h0.bel.2.2.1;clear hform s4 hI h0 e10 hall;generalize V 10=v10 at *;have htf:=HTF.out;have hwm:IntKind.i64.wrap ((m:Int)+1)=(m:Int)+1:=IntWalk.i64_in _ o_;go_wp2_with fail;go_roundg (ts.length-m)
        case measure=>omega
        case rel=>exact ⟨m+1,o2++[⟨k.sec,k.name,Yk tx,0⟩],n9_,o_,o_,by rw [c5_];show o2.length+1<=_;omega,HO4,(by rw [c5_];exact HR),HBE,HKE,HTE⟩
      ·obtain rfl:m=ts.length:=o_
       exact m180_
  ·obtain rfl:n=42:=o_
   have HALL:=h_ (show out=Zbh u by rw [HROW.out,HOUT.out,c9_ (by rw [Xz];exact Nat.le_refl _)]);have HBE:=h_ (HB.out.trans (HBW.out.mono HB.out.size));clear HOUT HBW;go_wp2_with fail;go_ret;unfold Zu5;rw [<-HALL.out];exact ⟨ob,cb,rfl,ZG.of_own Zra HOW.out,HBE.out⟩
theorem Zo5(u:UV)(sm:Yt u):∀x∈ZbR u,JY x:=by
 intro x hx;obtain ⟨h1,h2,s,e,hs⟩:=Zm8 u sm x hx;exact ⟨o_,o_,by rw [e];have:=ZgV s;omega⟩
theorem ZpY(u:UV)(sm:Yt u)(h:(ZbR u).all YT=true):(Xj (ZbR u)).length<=1000000000:=by
 have:=ZlL (ZbR u) none (fun x hx=>⟨by
  obtain ⟨k,hk,hx⟩:=List.mem_flatMap.1 hx;obtain ⟨p,hp,rfl⟩:=List.mem_map.1 hx;exact ZgB k hk,by
  have:=c7_.1 h x hx
  unfold YT at this;simp only [Bool.and_eq_true,decide_eq_true_eq] at this;exact this.2⟩)
 have:=sm.few
 unfold Xj;omega
theorem Zq7(u:UV)(us:Array Value)(w:World)(hu:ZV w us u)(tu:ZH u)(sm:Yt u)(hr:Zbh u=ZbR u)(hno:Zcc (Zbh u)=false) :
  Calls prog 9 #[.agg us] w fun e w'=>e=.returned (.bool false)/\Below w.heap.size w w':=by
 have hbA:Below w.heap.size w (w.alloc (.cells us 28)):=b_.alloc l_ _;have HXA:=h_ (heap_alloc_new w (.cells us 28));have HB:=h_ hbA;have HCA:=h_ (show (prog.info? 28).map (·.size)=some us.size by rw [hu.size];rfl);have HRW:=h_ (fun W (h:Below w.heap.size w W)=>Zqs u us W (hu.below h) tu sm);have HML:=h_ (fun W la lc (h:ZG ZU 4 W la (Zbh u))=>Zjd la lc (Zbh u) W (ZnT h) (by rw [hr];have:=sm.few;omega) (by rw [hr];exact Zo5 u sm) (by rw [hr];exact ZpY u sm) false hno);clear hbA hu tu sm hno;generalize Zbh u=L at HRW HML;clear hr;go_enter func9,ntmps9;go_wp2_with (first|(refine Yb rfl 28 (.tmp 1) w.heap.size us 28 _ rfl rfl HXA.out rfl rfl HCA.out ?_));refine (HRW.out _ HB.out).mono ?_;rintro e w2 ⟨la,lc,rfl,hrow,hb2⟩;have HB2:=h_ (HB.out.trans (hb2.mono HB.out.size));have HR:=h_ hrow;clear hrow hb2 HRW HXA HB;go_wp2_with fail;refine (HML.out w2 la lc HR.out).mono ?_;rintro e w3 ⟨rfl,hb3⟩;have HB3:=h_ (HB2.out.trans (hb3.mono HB2.out.size));clear hb3;go_wp2_with fail;go_ret;exact ⟨rfl,HB3.out⟩
theorem Zhn(nm:Str)(l:List Ln)(oa:Option Addr)(ca:Nat)(w:World)(hM:Zz w)(hP:Pow w)(ha:ZG ZU 4 w oa l)(za:l.length<=1048576)
  (xa:∀x∈l,x.val.length<=1048576) (hnm:nm.length<=1048576) :
  Calls prog 4 #[.string ⟨nm.toArray⟩,.slice oa l.length ca] w fun e w'=>e=.returned (.bool true)/\Below w.heap.size w w':=by
 have HSH:=h_ (fun W (h:Below w.heap.size w W)=>ZnJ W (hM.below h) (hP.below h));have HM:=h_ (fun W (h:Below w.heap.size w W)=>hM.below h);have HP:=h_ (fun W (h:Below w.heap.size w W)=>hP.below h);have HRA:=h_ (fun W (h:Below w.heap.size w W)=>ha.below h);obtain ⟨u1,c1,a1,h1⟩:∃u c a,Yn nm l=(u,(c,a)):=⟨_,_,_,rfl⟩;have HMA:=h_ (fun W (h:Below w.heap.size w W)=>ZqK nm l oa ca W (HM.out W h) (HRA.out W h) o_ xa o_);rw [h1] at HMA;have HT1:=h_ (show ZH u1 by have:=Zbn nm l;rw [h1] at this;exact this);have HS1:=h_ (show c1=0->Yt u1 from fun e=>by have:=Znz (name:=nm) (l:=l) (by rw [h1];exact e) xa;rw [h1] at this;exact this);have HAG:=h_ (show c1=0->(Yn nm (Qe u1)).2=(0,0)/\ZaG (Yn nm (Qe u1)).1 u1=true from fun e=>by have:=ZhG (name:=nm) (l:=l) (by rw [h1];exact e);rw [h1] at this;exact this);have HRE:=h_ (show c1=0->Zbh u1=ZbR u1/\ZfM u1=Zcc (Zbh u1) from fun e=>by
  have p:=ZjJ (name:=nm) (l:=l) (by rw [h1];exact e);have q:=Zsw (name:=nm) (l:=l) (by rw [h1];exact e);rw [h1] at p q;exact ⟨p,q⟩)
 clear hM hP ha xa h1;go_enter func4,ntmps4;go_wp2_with fail;refine (HSH.out _ b_).mono ?_;rintro e w0 ⟨rfl,hb0⟩;have HB:=h_ hb0;clear hb0 HSH;go_wp2_with fail;refine (HMA.out w0 HB.out).mono ?_;rintro e w1 ⟨hb1,cs1,rfl,hrd1⟩;replace HB:=h_ (HB.out.trans (hb1.mono HB.out.size));have LW1:=h_ HB.out.size;have HON1:=h_ hrd1.one;have HSC1:=h_ (show (prog.info? 28).map (·.size)=some cs1.size by rw [hrd1.size];rfl);have HSZ1:=h_ (show Zf.size=cs1.size by rw [hrd1.size];rfl);have HU1:=h_ hrd1;have HV1:=h_ (Below.refl w1.heap.size w1);clear hb1 hrd1;go_upto_region 4 with (first
  |(refine YW rfl _ Zf rfl (ZJ _) ?_;intro wa1 ha1 hba1)
  |(refine Yr rfl 28 (.tmp 5) (.tmp 15) w1.heap.size cs1 Zf 28 rfl rfl rfl (Za ha1 (b_.alloc l_ _)) HSZ1.out HSC1.out HON1.out ?_;intro wb1 hc1 hf1;have tv1:=ZiF ha1 hba1 hc1 hf1;refine Yr rfl 37 (.tmp 6) (.tmp 16) wa1.heap.size #[.int .i64 c1,.int .i64 a1] #[.int .i64 0,.int .i64 0] 37 rfl rfl rfl tv1.1 rfl rfl (ZfK c1 a1) ?_;intro v1 hd1 hg1;have tw1:=ZfB hc1 tv1 hg1))
 replace HB:=h_ (HB.out.trans (tw1.2.1.mono HB.out.size));replace HV1:=h_ (HV1.out.trans (tw1.2.1.mono HV1.out.size));have HX1:=h_ tw1.1;have HF1:=h_ hd1;have LO1:=h_ tw1.2.2;clear ha1 hba1 hc1 hf1 tv1 hg1 tw1 hd1;clear HMA HRA;obtain ⟨g0,g1,-,-⟩:=X9 HF1.out;by_cases h0:c1=0
 case neg=>
  have n0:(c1 !=0)=true:=bne_iff_ne.2 h0;clear h0 HS1 HAG HRE;go_wp2_with fail;go_ret;exact ⟨rfl,HB.out⟩
 subst h0;have HSM:=h_ (HS1.out rfl);have HA2:=h_ (HAG.out rfl);have HR2:=h_ (HRE.out rfl);obtain ⟨ma,hma⟩:∃ma,ZfM u1=ma:=⟨_,rfl⟩;have HSE:=h_ (fun W (h:Below v1.heap.size v1 W)=>(HU1.out.below (HV1.out.trans (h.mono HV1.out.size))).see);have HMY:=h_ (ZeV u1 cs1 v1 (HSE.out v1 b_) HT1.out HSM.out (HM.out _ HB.out) (HP.out _ HB.out) ma hma);have HMA:=h_ hma;clear hma HS1 HAG HRE;go_wp2_with (first|(refine Yb rfl 28 (.tmp 5) w1.heap.size cs1 28 _ rfl rfl HX1.out rfl rfl HSC1.out ?_));refine HMY.out.mono ?_;rintro e w3 ⟨rfl,hb3⟩;have HVW:=h_ hb3;replace HB:=h_ (HB.out.trans (hb3.mono HB.out.size));replace HV1:=h_ (HV1.out.trans (hb3.mono HV1.out.size));replace HX1:=h_ (Za HX1.out hb3);replace HF1:=h_ (Za HF1.out hb3);clear hb3 HMY g0 g1 HF1;cases ma with
 |false=>
  have HNO:=h_ (Zq7 u1 cs1 w3 (HSE.out w3 HVW.out) HT1.out HSM.out HR2.out.1 (by rw [<-HR2.out.2];exact HMA.out));go_wp2_with (first|(refine Yb rfl 28 (.tmp 5) w1.heap.size cs1 28 _ rfl rfl HX1.out rfl rfl HSC1.out ?_));refine HNO.out.mono ?_;rintro e w4 ⟨rfl,hb4⟩;have HB4:=h_ (HB.out.trans (hb4.mono HB.out.size));clear hb4;go_wp2_with fail;go_ret;exact ⟨rfl,HB4.out⟩
 |true=>
  have hraw:=(ZsM HMA.out).2;have HLN:=h_ (Zeo u1 cs1 w3 (HSE.out w3 HVW.out) HT1.out HSM.out (HM.out _ HB.out) (HP.out _ HB.out));unfold Zht at HLN;rw [hraw] at HLN;have HFT:=h_ (Zm3 u1 HSM.out nm);have HFE:=h_ (Zdg u1 HSM.out);generalize Qe u1=M at HLN HA2 HFT HFE;clear hraw HMA HR2;go_wp2_with (first|(refine Yb rfl 28 (.tmp 5) w1.heap.size cs1 28 _ rfl rfl HX1.out rfl rfl HSC1.out ?_));refine HLN.out.mono ?_;rintro e w4 ⟨la,lc,rfl,hrow,hb4,-⟩;have HRW:=h_ hrow;replace HB:=h_ (HB.out.trans (hb4.mono HB.out.size));replace HV1:=h_ (HV1.out.trans (hb4.mono HV1.out.size));replace HX1:=h_ (Za HX1.out hb4);replace HVW:=h_ (HVW.out.trans (hb4.mono HVW.out.size));clear hb4 hrow HLN;obtain ⟨u2,c2,a2,h2⟩:∃u c a,Yn nm M=(u,(c,a)):=⟨_,_,_,rfl⟩;have hfe:=HFE.out;have HMC:=h_ (Zf0 nm M la lc w4 (HM.out _ HB.out) HRW.out o_ HFT.out o_);have HT2:=h_ (show ZH u2 by have:=Zbn nm M;rw [h2] at this;exact this);have ha2:=HA2.out;rw [h2] at HMC ha2;obtain ⟨e2,hsm⟩:=ha2;injection e2 with e3 e4
  subst e3;subst e4;have HSA:=h_ hsm;clear h2 hsm HA2 HFT HFE;go_wp2_with fail;refine HMC.out.mono ?_;rintro e w2 ⟨hb2,cs2,rfl,hrd2⟩;replace HB:=h_ (HB.out.trans (hb2.mono HB.out.size));replace HV1:=h_ (HV1.out.trans (hb2.mono HV1.out.size));replace HX1:=h_ (Za HX1.out hb2);replace HVW:=h_ (HVW.out.trans (hb2.mono HVW.out.size));have L2HX1:=h_ (Zd HX1.out);have LW2:=h_ HB.out.size;have HON2:=h_ hrd2.one;have HSC2:=h_ (show (prog.info? 28).map (·.size)=some cs2.size by rw [hrd2.size];rfl);have HSZ2:=h_ (show Zf.size=cs2.size by rw [hrd2.size];rfl);have HU2:=h_ hrd2;have HV2:=h_ (Below.refl w2.heap.size w2);clear hb2 hrd2;go_upto_region 9 with (first
   |(refine YW rfl _ Zf rfl (ZJ _) ?_;intro wa2 ha2 hba2)
   |(refine Yr rfl 28 (.tmp 7) (.tmp 31) w2.heap.size cs2 Zf 28 rfl rfl rfl (Za ha2 (b_.alloc l_ _)) HSZ2.out HSC2.out HON2.out ?_;intro wb2 hc2 hf2;have tv2:=ZiF ha2 hba2 hc2 hf2;refine Yr rfl 37 (.tmp 8) (.tmp 32) wa2.heap.size #[.int .i64 0,.int .i64 0] #[.int .i64 0,.int .i64 0] 37 rfl rfl rfl tv2.1 rfl rfl (ZfK 0 0) ?_;intro v2 hd2 hg2;have tw2:=ZfB hc2 tv2 hg2))
  replace HB:=h_ (HB.out.trans (tw2.2.1.mono HB.out.size));replace HV1:=h_ (HV1.out.trans (tw2.2.1.mono HV1.out.size));replace HX1:=h_ (Za HX1.out tw2.2.1);replace HVW:=h_ (HVW.out.trans (tw2.2.1.mono HVW.out.size));replace HV2:=h_ (HV2.out.trans (tw2.2.1.mono HV2.out.size));have HX2:=h_ tw2.1;have HF2:=h_ hd2;have LO2:=h_ tw2.2.2;clear ha2 hba2 hc2 hf2 tv2 hg2 tw2 hd2;clear HMC HRW;obtain ⟨g0,g1,-,-⟩:=X9 HF2.out;have r1:=ZdW 0 0 0 0 true d_;have HSS:=h_ (Zfn cs2 cs1 u2 u1 v2 (HU2.out.below HV2.out).see (HSE.out _ HVW.out) HT2.out HT1.out true HSA.out);go_wp2_with (first
   |(refine Yb rfl 28 (.tmp 5) w1.heap.size cs1 28 _ rfl rfl HX1.out rfl rfl HSC1.out ?_)
   |(refine Yb rfl 28 (.tmp 7) w2.heap.size cs2 28 _ rfl rfl HX2.out rfl rfl HSC2.out ?_))
  refine HSS.out.mono ?_;rintro e w9 ⟨rfl,hb9⟩;have HB9:=h_ (HB.out.trans (hb9.mono HB.out.size));clear hb9;go_wp2_with fail;go_ret;exact ⟨rfl,HB9.out⟩
end Go.Proofs.YtmgmbeipbeknaaaGreatDoor
