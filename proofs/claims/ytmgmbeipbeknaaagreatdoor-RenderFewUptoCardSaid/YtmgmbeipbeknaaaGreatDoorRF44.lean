import Derived.Test.YtmgmbeipbeknaaaGreatDoorRF26
import Derived.Test.YtmgmbeipbeknaaaGreatDoorRF31
import Derived.Test.YtmgmbeipbeknaaaGreatDoorRF40
import Derived.Test.YtmgmbeipbeknaaaGreatDoorRF43
namespace Go.Proofs.YtmgmbeipbeknaaaGreatDoor
open Go.Proofs.Tryz
open Go Go.RowKit
set_option linter.unusedVariables false
set_option linter.unusedSimpArgs false
set_option maxHeartbeats 16000000
set_option maxRecDepth 100000
theorem m114_{p:Prop}(h:p:=by have hsec:=hK.sec;have hname:=hK.name;have HKV:=h_ hK;obtain ⟨ks,kn,kf,kl,kk,wa,wn,wc⟩:=kv;have hlist:=hK.list;simp only at hsec hname hlist;subst hsec;subst hname;have hlt:R<w.heap.size:=n8_;have hB:=(Below.refl w.heap.size w).alloc l_ (.cells #[.string ⟨k.sec.toArray⟩,.string ⟨k.name.toArray⟩,.int .i64 kf,.bool kl,.int .i64 kk,.slice wa wn wc] 82);have HB:=h_ hB;have HW1:=h_ (hW.below hB);have HK1:=h_ (heap_alloc_new w (.cells #[.string ⟨k.sec.toArray⟩,.string ⟨k.name.toArray⟩,.int .i64 kf,.bool kl,.int .i64 kk,.slice wa wn wc] 82));have HKV1:=h_ (hK.below hB);have HNR:=h_ (show w.heap.size≠R by omega);have HLI:=h_ hlist;clear hlist;unfold Zp Xd;simp only;clear hB hW hK;have HSR:=h_ hsr;clear hsr;generalize ((ZI k.name:Nat):Int)=rv at HSR er;have c1:=HW1.out.rdU hkd;clear hkd;exact m117_):p:=h
theorem m115_{p:Prop}(h:p:=by go_enter func45,ntmps45;go_wp2_with (first|(go_at_call 92;refine (HSR.out _).mono ?_;rintro e w' ⟨rfl,rfl⟩));go_end0;exact ⟨rfl,HW1.out,Fr.of_below HB.out _⟩):p:=h
theorem m116_{p:Prop}(h:p:=by rw [if_pos hxy,if_pos (by rw [hxy])];rfl):p:=h
theorem m117_{p:Prop}(h:p:=by obtain rfl:kl=false:=HLI.out.trans hkl;have HC:=h_ hc;clear hc;go_enter func45,ntmps45;go_wp2_with (first|(refine X6 rfl 82 (.tmp 3) w.heap.size #[.string ⟨k.sec.toArray⟩,.string ⟨k.name.toArray⟩,.int .i64 kf,.bool false,.int .i64 kk,.slice wa wn wc] 82 _ rfl rfl HK1.out rfl rfl n13_ ?_)|(go_at_call 92;refine (HSR.out _).mono ?_;rintro e w' ⟨rfl,rfl⟩));refine (HC.out _ HW1.out HKV1.out).mono ?_;exact m118_):p:=h
theorem m118_{p:Prop}(h:p:=by rintro e w5 ⟨rfl,hw5,hf5⟩;go_wp2_with fail;go_end0;exact ⟨rfl,hw5,FrB.trans (show FrB R B 53 w _ from Fr.of_below HB.out _) hf5⟩):p:=h
theorem Znb(R B:Nat)(us fs:Array Value)(l:List Ln)(sec:Str)(oa:Option Addr)(cap:Nat)(rs:List (Int×Str))(w0 w:World)(hW:YB w0 w R B us fs l)(hM:Zt w0)(hl:l.length+rs.length<=100000000)
  (hj:us[4]?=some (.slice oa rs.length cap)) (hrow:Zx Qx 2 w0 oa rs) (hv:∀r∈rs,r.2.length<=1000000000) :
  Calls prog 91 #[.pointer (some ⟨R,0,none⟩),.string ⟨sec.toArray⟩] w fun e w'=>Xd w0 w R B us fs (l++Z5 sec (rs.map fun r=>(YA r.1,r.2))) e w':=by
 have hj1:=hW.rdU hj;have HW:=h_ hW;have HM:=h_ hM;have HL:=h_ hl;have HROW:=h_ hrow;have HV:=h_ hv;clear hW hM hl hrow hv hj;unfold Xd;go_enter func91,ntmps91;go_wp2_with fail;go_loopg [12] (rs.length+1) (fun f i wr=>∃m:Nat,m<=rs.length/\i=.int .i64 m/\rs.length-m<f/\Hid (YB w0 wr R B us fs (l++Z5 sec ((rs.take m).map fun r=>(YA r.1,r.2))))/\Hid (FrB R B 53 w wr))
 case atStart=>exact ⟨0,o_,rfl,o_,by rw [List.take_zero,List.map_nil,show Z5 sec []=[] from rfl,List.append_nil];exact HW,FrB.refl _ _ _ _⟩
 case round=>
  obtain ⟨m,hm,rfl,hf,HWR,HFR⟩:=hrel;by_cases hlt:m<rs.length
  ·obtain ⟨x,hx⟩:=e_ (rs[m])
   have HSN:=h_ (show l++Z5 sec ((rs.take (m+1)).map fun r=>(YA r.1,r.2))=(l++Z5 sec ((rs.take m).map fun r=>(YA r.1,r.2)))++[JZ sec (YA x.1) x.2] by
    rw [List.take_succ_eq_append_getElem hlt,List.map_append,<-hx];simp [Z5])
   have HVX:=h_ (HV.out x (by rw [hx];exact List.getElem_mem hlt));have HLM:=h_ (show (l++Z5 sec ((rs.take m).map fun r=>(YA r.1,r.2))).length<=100000000 by
    have:=HL.out;rw [List.length_append,Z5,List.length_map,List.length_map,List.length_take];omega)
   have hm2:(m:Int)<(rs.length:Int):=o_;have hmb:m<=100000000:=n88_;obtain ⟨b,o,e1,_,hc⟩:=(Zx.below HROW.out HWR.out.base) m hlt;rw [<-hx] at hc;have d5:=hc 0 (.int .i64 x.1) rfl;have d6:=hc 1 (.string ⟨x.2.toArray⟩) rfl;rw [Nat.add_zero] at d5;subst e1;clear hx hc;generalize l++Z5 sec ((rs.take m).map fun r=>(YA r.1,r.2))=lm at HWR HSN HLM;obtain ⟨rk,rn⟩:=x;simp only at d5 d6 HSN HVX;go_wp2_with fail;have HBE:=h_ ((Below.refl wr.heap.size wr).alloc l_ (.cells #[.int .i64 rk,.string ⟨rn.toArray⟩] 47));have HE:=h_ (heap_alloc_new wr (.cells #[.int .i64 rk,.string ⟨rn.toArray⟩] 47));generalize wr.alloc (.cells #[.int .i64 rk,.string ⟨rn.toArray⟩] 47)=we at HBE HE⊢;refine Zh (S:=fun V=>Below we.heap.size we V) 7 k_ k_ (Zd ⟨1,rfl⟩) (fun hHeld=>?_);refine u_ ?_;refine dT_ (i:=0) (v:=.pointer (some ⟨R,0,none⟩)) (gT_ rfl) (fun W hW=>by clear hW;go_simp) (u_ ?_);refine dT_ (i:=1) (v:=.string ⟨sec.toArray⟩) (gT_ rfl) (fun W hW=>by clear hW;go_simp) (u_ ?_);refine dT_ (i:=2) (v:=.pointer (some ⟨wr.heap.size,0,none⟩)) (gT_ rfl) (fun W hW=>by clear hW;go_simp) (u_ ?_);refine dT_ (i:=3) (v:=.int .i64 rk) (gT_ rfl) (fun W hW=>by have q5:=(rd (Za HE.out hW)).1 0;have q6:=(rd (Za HE.out hW)).1 1;simp at q5 q6;clear hW;go_simp) (u_ ?_);refine dT_ (i:=5) (v:=.pointer (some ⟨wr.heap.size,1,none⟩)) (gT_ rfl) (fun W hW=>by clear hW;go_simp) (u_ ?_);refine dT_ (i:=6) (v:=.string ⟨rn.toArray⟩) (gT_ rfl) (fun W hW=>by have q5:=(rd (Za HE.out hW)).1 0;have q6:=(rd (Za HE.out hW)).1 1;simp at q5 q6;clear hW;go_simp) (u_ ?_);refine Zn (i:=4) (gT_ rfl) k_ k_ (fun K hK=>?_);clear hHeld;rw [if_pos n13_];go_simp;have HB3:=h_ (show Below we.heap.size we we.drew from Zd ⟨1,rfl⟩);refine (ZiM rk we.drew).mono ?_;rintro e w4 ⟨rfl,hb4⟩;have HB4:=h_ (show Below we.heap.size we w4 from HB3.out.trans hb4);clear hb4;refine hK.out _ _ HB4.out (fun hHeld=>?_);clear hK K;refine u_ ?_;refine Zv k_ ?_;clear hHeld;go_wp2_with fail;refine (QW R B us fs lm sec (YA rk) rn w0 w4 (HWR.out.below (HBE.out.trans (HB4.out.mono HBE.out.size))) HM.out HLM.out HVX.out).mono ?_;rintro e w5 ⟨rfl,hw5,hf5⟩;have HW5:=h_ hw5;have HF5:=h_ (show FrB R B 53 w w5 from FrB.trans (FrB.trans HFR.out (show FrB R B 53 wr w4 from Fr.of_below (HBE.out.trans (HB4.out.mono HBE.out.size)) _)) hf5);clear hw5 hf5;go_wp2_with fail;go_roundg (rs.length-m)
   case measure=>omega
   case rel=>exact ⟨m+1,o_,n14_,o_,n63_,HF5⟩
  ·obtain rfl:m=rs.length:=o_
   rw [List.take_of_length_le l_] at HWR;have hm2:¬((rs.length:Int)<(rs.length:Int)):=o_;go_wp2_with fail;go_end0;exact ⟨rfl,HWR.out,HFR.out⟩
structure Yx(u:UV):Prop where
 str:∀j,(u j).str.length<=100000000
 num:∀j,-9223372036854775808<=(u j).num/\(u j).num<=9223372036854775807
 strs:∀j,∀s∈(u j).strs,s.length<=100000000
 nums:∀j,∀n∈(u j).nums,-9223372036854775808<=n/\n<=9223372036854775807
 rels:∀r∈(u 4).rels,r.2.length<=100000000
 cmds:∀j,∀c∈(u j).cmds,(J9 c).length<=450000000/\∀y∈c.2,y.length<137438953472
 prs:∀p∈(u 19).prs,p.1.length+p.2.length<=100000000
 len:∀j,(u j).len<=2000000
 few:(Zew u).length<=2000000
theorem Zhu:(Ze.all fun k=>k.list||(if k.form==1||k.form==5 then (Zy (Zc k.name)).tag==0 else if k.form==2 then (Zy (Zc k.name)).tag==2 else (Zy (Zc k.name)).tag==1))=true:=n4_
theorem ZiW(k:ZC)(hk:k∈Ze):Zc k.name<35:=by
 have h0:(Ze.all fun k=>decide (Zc k.name<35))=true:=n4_;exact of_decide_eq_true (List.all_eq_true.1 h0 k hk)
theorem ZqJ{c:UC}(h:c.tag=0):∃x,c=.s x:=n5_
theorem Zre{c:UC}(h:c.tag=1):∃x,c=.n x:=n5_
theorem ZrJ{c:UC}(h:c.tag=2):∃x,c=.b x:=n5_
theorem ZeL(k:ZC)(hk:k∈Ze)(n:Int)(h0 : -9223372036854775808<=n)(h1:n<=9223372036854775807):(QD k n).length<=450000000:=by
 have hw0:(Ze.all fun k=>k.words.all fun x=>decide (x.length<=100))=true:=n4_;have hw:=List.all_eq_true.1 hw0 k hk;have hi:=Go.Lib.itoa_length_le;unfold QD;split
 ·unfold Zce
  split
  ·decide
  ·split
   ·decide
   ·split
    ·decide
    ·rename_i g1 g2
     have hp:∀x∈Yl (n / 86400) [100]++Yl (n % 86400 / 3600) [104]++Yl (n % 3600 / 60) [109,105,110]++Yl (n % 60) [115],x.length<=31:=by
      intro x hx;simp only [List.mem_append] at hx;rcases hx with ((hx|hx)|hx)|hx
      ·exact Qf o_ o_ d_ x hx
      ·exact Qf o_ o_ d_ x hx
      ·exact Qf o_ o_ d_ x hx
      ·exact Qf o_ o_ d_ x hx
     have hj:=ZeY 31 _ hp;have q1:=Qe (n / 86400) [100];have q2:=Qe (n % 86400 / 3600) [104];have q3:=Qe (n % 3600 / 60) [109,105,110];have q4:=Qe (n % 60) [115];simp only [List.length_append] at hj
     have:(Yl (n / 86400) [100]).length+(Yl (n % 86400 / 3600) [104]).length+(Yl (n % 3600 / 60) [109,105,110]).length+(Yl (n % 60) [115]).length<=4:=o_
     have:=Nat.mul_le_mul_right (31+1) this
     omega
 ·split
  ·split
   ·decide
   ·rw [List.getD_eq_getElem?_getD]
    cases hg:k.words[(n-1).toNat]? with
    |none=>decide
    |some x=>
     have:=List.all_eq_true.1 hw x (List.mem_of_getElem? hg)
     have:=of_decide_eq_true this
     simp only [Option.getD_some];omega
  ·have:=hi n h0 h1
   omega
theorem Zkg(R B:Nat)(us fs:Array Value)(u f:UV)(l:List Ln)(k:ZC)(kv:ZM)(w0 w:World)(hW:YB w0 w R B us fs l)(hM:Zt w0)(hP:Pow w0)(hK:YJ w kv k)(hk:k∈Ze)(hkl:k.list=false)(hl:l.length<=100000000)
  (hu:ZT w0 us u) (hf:ZT w0 fs f) (tu:Zz u) (tf:Zz f) (sm:Yx u) :
  Calls prog 96 #[.pointer (some ⟨R,0,none⟩),.agg (Zp kv).toArray] w fun e w'=>Xd w0 w R B us fs (l++Z5 k.sec ((Zah u f k).map fun s=>(k.name,s))) e w':=by
 have hj:=ZiW k hk;obtain ⟨vx,hx,sx⟩:=ZbE hu hj;obtain ⟨vy,hy,sy⟩:=ZbE hf hj;have htag:=List.all_eq_true.1 Zhu k hk;have hslot:=List.all_eq_true.1 Zgk k hk;have hnm:=Zdf k hk hkl;rw [hkl,Bool.false_or] at htag hslot;have hwf:=ZbO k hk;have ptr:∀tab v o,fnd tab k.name=v->ZgG R o tab k.name=.pointer (v.map fun j=>⟨R,o+j,none⟩):=fun tab v o h=>by rw [Zjm,h]
 have tg:=(tu (Zc k.name));have tgf:=(tf (Zc k.name));by_cases h1:k.form=1\/k.form=5
 ·have hb:(k.form==1||k.form==5)=true:=n59_
  rw [hb,if_pos rfl] at htag hslot;simp only [Bool.and_eq_true,beq_iff_eq] at htag hslot;obtain ⟨s1,s2,s3⟩:=hslot;rw [htag] at tg tgf;obtain ⟨x,ex⟩:=ZqJ tg;obtain ⟨y,ey⟩:=ZqJ tgf;rw [ex] at sx;rw [ey] at sy;subst sx;subst sy;have e:(Zah u f k).map (fun s=>(k.name,s))=if x=y then [] else [(k.name,x)]:=by
   unfold Zah;rw [ex,ey];by_cases hxy:x=y
   ·exact m116_
   ·rw [if_neg hxy,if_neg (fun h=>hxy (UC.s.inj h)),if_pos h1];rfl
  rw [e];have hsx:=sm.str (Zc k.name);rw [ex] at hsx;exact Zhw R B (Zc k.name) us fs l k kv x y w0 w hW hM hP hK o_ hl hx hy (Nat.le_trans hsx d_)
   (fun o W=>by have:=ZaX R o W _ hnm;rw [ptr _ _ o s1] at this;exact this) (fun o W=>by have:=ZaN R o W _ hnm;rw [ptr _ _ o s2] at this;exact this) (fun o W=>by have:=JE R o W _ hnm;rw [ptr _ _ o s3] at this;exact this)
 ·have hb:(k.form==1||k.form==5)=false:=n59_
  rw [hb,if_neg d_] at htag hslot;by_cases h2:k.form=2
  ·have hb2:(k.form==2)=true:=n41_
   rw [hb2,if_pos rfl] at htag hslot;simp only [Bool.and_eq_true,beq_iff_eq] at htag hslot;obtain ⟨s1,s2,s3⟩:=hslot;rw [htag] at tg tgf;obtain ⟨x,ex⟩:=ZrJ tg;obtain ⟨y,ey⟩:=ZrJ tgf;rw [ex] at sx;rw [ey] at sy;subst sx;subst sy;have e:(Zah u f k).map (fun s=>(k.name,s))=if x=y then [] else [(k.name,ZfA x)]:=by
    unfold Zah;rw [ex,ey];by_cases hxy:x=y
    ·exact m116_
    ·rw [if_neg hxy,if_neg (fun h=>hxy (UC.b.inj h)),if_neg h1,if_pos h2];rfl
   rw [e];exact Zhs R B (Zc k.name) us fs l k kv x y w0 w hW hM hP hK o_ hl hx hy (by cases x<;>decide)
    (fun o W=>by have:=ZaX R o W _ hnm;rw [ptr _ _ o s1] at this;exact this) (fun o W=>by have:=ZaN R o W _ hnm;rw [ptr _ _ o s2] at this;exact this) (fun o W=>by have:=JE R o W _ hnm;rw [ptr _ _ o s3] at this;exact this)
  ·have hb2:(k.form==2)=false:=n41_
   rw [hb2,if_neg d_] at htag hslot;simp only [Bool.and_eq_true,beq_iff_eq] at htag hslot;obtain ⟨s1,s2,s3⟩:=hslot;rw [htag] at tg tgf;obtain ⟨x,ex⟩:=Zre tg;obtain ⟨y,ey⟩:=Zre tgf;rw [ex] at sx;rw [ey] at sy;subst sx;subst sy;have e:(Zah u f k).map (fun s=>(k.name,s))=if x=y then [] else [(k.name,QD k x)]:=by
    unfold Zah;rw [ex,ey];by_cases hxy:x=y
    ·exact m116_
    ·rw [if_neg hxy,if_neg (fun h=>hxy (UC.n.inj h)),if_neg h1,if_neg h2];rfl
   rw [e];have hnx:=sm.num (Zc k.name);rw [ex] at hnx;exact Zh1 R B (Zc k.name) us fs l k kv x y w0 w hW hM hP hK o_ hl hx hy (Nat.le_trans (ZeL k hk x hnx.1 hnx.2) d_) hnx
    (fun o W=>by have:=ZaX R o W _ hnm;rw [ptr _ _ o s1] at this;exact this) (fun o W=>by have:=ZaN R o W _ hnm;rw [ptr _ _ o s2] at this;exact this) (fun o W=>by have:=JE R o W _ hnm;rw [ptr _ _ o s3] at this;exact this)
theorem ZlD:(Ze.all fun k=>!k.list||(ZI k.name !=0||(k.form==8||(if k.form==7 then (Zy (Zc k.name)).tag==6 else if k.form==4||k.form==11 then (Zy (Zc k.name)).tag==4&&k.words==[] else (Zy (Zc k.name)).tag==3))))=true:=n4_
theorem ZkK:(Ze.all fun k=>(k.form==8)==(k.name==ZJ))=true:=n4_
theorem ZrI{c:UC}(h:c.tag=3):∃x,c=.ss x:=n5_
theorem ZrP{c:UC}(h:c.tag=4):∃x,c=.ns x:=n5_
theorem Zr4{c:UC}(h:c.tag=5):∃x,c=.rs x:=n5_
theorem ZrW{c:UC}(h:c.tag=6):∃x,c=.cs x:=n5_
theorem ZrB{c:UC}(h:c.tag=7):∃x,c=.ps x:=n5_
theorem Zn2(R B:Nat)(us fs:Array Value)(u:UV)(l:List Ln)(k:ZC)(kv:ZM)(w0 w:World)(hW:YB w0 w R B us fs l)(hM:Zt w0)(hP:Pow w0)(hK:YJ w kv k)(hk:k∈Ze)(hkl:k.list=true)(hr:ZI k.name=0)(he:k.name≠ZJ)(hl:l.length<=90000000)
  (hu:ZT w0 us u) (tu:Zz u) (sm:Yx u) :
  Calls prog 95 #[.pointer (some ⟨R,0,none⟩),.agg (Zp kv).toArray] w fun e w'=>Xd w0 w R B us fs (l++Z5 k.sec ((Zal u k).map fun s=>(k.name,s))) e w':=by
 have hj:=ZiW k hk;obtain ⟨vx,hx,sx⟩:=ZbE hu hj;have htag:=List.all_eq_true.1 ZlD k hk;have hslot:=List.all_eq_true.1 Zi3 k hk;have hnm:=ZfF k hk hkl hr he;have h8:(k.form==8)=false:=by
  have h:=eq_of_beq (List.all_eq_true.1 ZkK k hk);rw [h];exact beq_false_of_ne he
 have hr0:(ZI k.name !=0)=false:=by simp [hr]
 rw [hkl,hr0,h8] at htag hslot;simp only [Bool.not_true,Bool.false_or] at htag hslot;have hwf:=ZbO k hk;have ptr:∀tab v,fnd tab k.name=v->ZgG R 0 tab k.name=.pointer (v.map fun j=>⟨R,j,none⟩):=fun tab v h=>by rw [Zjm,h];simp
 have tg:=(tu (Zc k.name));have hln:=sm.len (Zc k.name);by_cases h7:k.form=7
 ·have hb:(k.form==7)=true:=by simpa using h7
  rw [hb,if_pos rfl] at htag hslot;simp only [Bool.and_eq_true,beq_iff_eq] at htag hslot;obtain ⟨s1,s2,s3⟩:=hslot;rw [htag] at tg;obtain ⟨xs,ex⟩:=ZrW tg;rw [ex] at sx hln;obtain ⟨oa,cap,cr,rfl,hrow,_⟩:=sx;have e:(Zal u k).map (fun s=>(k.name,s))=xs.map fun x=>(k.name,J9 x):=by
   unfold Zal;rw [if_pos h7,ex,List.map_map];rfl
  rw [e];have hc:=sm.cmds (Zc k.name);rw [ex] at hc;have hlen:xs.length<=2000000:=hln;exact Zl9 R B (Zc k.name) us fs l k kv oa cap cr xs w0 w hW hM hP hK o_ o_ hx hrow (fun x h=>Nat.le_trans (hc x h).1 d_) (fun x h=>(hc x h).2)
   (fun W=>by have:=Q6 R 0 W _ hnm;rw [ptr _ _ s1] at this;exact this) (fun W=>by have:=Zab R 0 W _ hnm;rw [ptr _ _ s2] at this;exact this) (fun W=>by have:=J6 R 0 W _ hnm;rw [ptr _ _ s3] at this;exact this)
 ·have hb:(k.form==7)=false:=by simpa using h7
  rw [hb,if_neg d_] at htag hslot;by_cases h4:k.form=4\/k.form=11
  ·have hb2:(k.form==4||k.form==11)=true:=by simpa using h4
   rw [hb2,if_pos rfl] at htag hslot;simp only [Bool.and_eq_true,beq_iff_eq] at htag hslot;obtain ⟨s1,s2,s3⟩:=hslot;obtain ⟨htag,hw0⟩:=htag;rw [htag] at tg;obtain ⟨xs,ex⟩:=ZrP tg;rw [ex] at sx hln;obtain ⟨oa,cap,rfl,hrow,_⟩:=sx;have e:(Zal u k).map (fun s=>(k.name,s))=xs.map fun x=>(k.name,QD k x):=by
    unfold Zal;rw [if_neg h7,if_pos h4,ex,List.map_map];rfl
   rw [e];have hc:=sm.nums (Zc k.name);rw [ex] at hc;have hlen:xs.length<=2000000:=hln;exact ZlB R B (Zc k.name) us fs l k kv oa cap xs w0 w hW hM hP hK o_ o_ hx hrow (fun x h=>Nat.le_trans (ZeL k hk x (hc x h).1 (hc x h).2) d_) hw0 hc
    (fun W=>by have:=Q6 R 0 W _ hnm;rw [ptr _ _ s1] at this;exact this) (fun W=>by have:=Zab R 0 W _ hnm;rw [ptr _ _ s2] at this;exact this) (fun W=>by have:=J6 R 0 W _ hnm;rw [ptr _ _ s3] at this;exact this)
  ·have hb2:(k.form==4||k.form==11)=false:=by simpa using h4
   rw [hb2,if_neg d_] at htag hslot;simp only [Bool.and_eq_true,beq_iff_eq] at htag hslot;obtain ⟨s1,s2,s3⟩:=hslot;rw [htag] at tg;obtain ⟨xs,ex⟩:=ZrI tg;rw [ex] at sx hln;obtain ⟨oa,cap,rfl,hrow,_⟩:=sx;have e:(Zal u k).map (fun s=>(k.name,s))=xs.map fun x=>(k.name,x):=by
    unfold Zal;rw [if_neg h7,if_neg h4,ex];rfl
   rw [e];have hc:=sm.strs (Zc k.name);rw [ex] at hc;have hlen:xs.length<=2000000:=hln;exact Zln R B (Zc k.name) us fs l k kv oa cap xs w0 w hW hM hP hK o_ o_ hx hrow (fun x h=>Nat.le_trans (hc x h) d_)
    (fun W=>by have:=Q6 R 0 W _ hnm;rw [ptr _ _ s1] at this;exact this) (fun W=>by have:=Zab R 0 W _ hnm;rw [ptr _ _ s2] at this;exact this) (fun W=>by have:=J6 R 0 W _ hnm;rw [ptr _ _ s3] at this;exact this)
theorem ZjE(R B:Nat)(us fs:Array Value)(l:List Ln)(k:ZC)(kv:ZM)(w0 w:World)(hW:YB w0 w R B us fs l)(hK:YJ w kv k)(e1:(k.name==[82,101,113,117,105,114,101,115])=true)(m:List Ln)(hc:∀W,YB w0 W R B us fs l->Calls prog 91 #[.pointer (some ⟨R,0,none⟩),.string ⟨k.sec.toArray⟩] W fun e w'=>Xd w0 W R B us fs m e w') :
  Calls prog 45 #[.pointer (some ⟨R,0,none⟩),.agg (Zp kv).toArray] w fun e w'=>Xd w0 w R B us fs (m) e w':=by
 have hsec:=hK.sec;have hname:=hK.name;have HKV:=h_ hK;obtain ⟨ks,kn,kf,kl,kk,wa,wn,wc⟩:=kv;have hlist:=hK.list;simp only at hsec hname hlist;subst hsec;subst hname;have hlt:R<w.heap.size:=n8_;have hB:=(Below.refl w.heap.size w).alloc l_ (.cells #[.string ⟨k.sec.toArray⟩,.string ⟨k.name.toArray⟩,.int .i64 kf,.bool kl,.int .i64 kk,.slice wa wn wc] 82);have HB:=h_ hB;have HW1:=h_ (hW.below hB);have HK1:=h_ (heap_alloc_new w (.cells #[.string ⟨k.sec.toArray⟩,.string ⟨k.name.toArray⟩,.int .i64 kf,.bool kl,.int .i64 kk,.slice wa wn wc] 82));have HKV1:=h_ (hK.below hB);have HNR:=h_ (show w.heap.size≠R by omega);have HLI:=h_ hlist;clear hlist;unfold Zp Xd;simp only;clear hB hW hK;have HC:=h_ hc;clear hc;go_enter func45,ntmps45;go_wp2_with fail;refine (HC.out _ HW1.out).mono ?_;exact m118_
theorem Zit(R B:Nat)(us fs:Array Value)(l:List Ln)(k:ZC)(kv:ZM)(w0 w:World)(hW:YB w0 w R B us fs l)(hK:YJ w kv k)(e1:(k.name==[82,101,113,117,105,114,101,115])=false)(hsr:∀W,Calls prog 92 #[.string ⟨k.name.toArray⟩] W fun e w'=>e=.returned (.int .i64 (ZI k.name:Nat))/\w'=W)(er:(((ZI k.name:Nat):Int)!=0)=true) :
  Calls prog 45 #[.pointer (some ⟨R,0,none⟩),.agg (Zp kv).toArray] w fun e w'=>Xd w0 w R B us fs (l) e w':=by
 have hsec:=hK.sec;have hname:=hK.name;have HKV:=h_ hK;obtain ⟨ks,kn,kf,kl,kk,wa,wn,wc⟩:=kv;have hlist:=hK.list;simp only at hsec hname hlist;subst hsec;subst hname;have hlt:R<w.heap.size:=n8_;have hB:=(Below.refl w.heap.size w).alloc l_ (.cells #[.string ⟨k.sec.toArray⟩,.string ⟨k.name.toArray⟩,.int .i64 kf,.bool kl,.int .i64 kk,.slice wa wn wc] 82);have HB:=h_ hB;have HW1:=h_ (hW.below hB);have HK1:=h_ (heap_alloc_new w (.cells #[.string ⟨k.sec.toArray⟩,.string ⟨k.name.toArray⟩,.int .i64 kf,.bool kl,.int .i64 kk,.slice wa wn wc] 82));have HKV1:=h_ (hK.below hB);have HNR:=h_ (show w.heap.size≠R by omega);have HLI:=h_ hlist;clear hlist;unfold Zp Xd;simp only;clear hB hW hK;have HSR:=h_ hsr;clear hsr;generalize ((ZI k.name:Nat):Int)=rv at HSR er;exact m115_
theorem ZjR(R B:Nat)(us fs:Array Value)(l:List Ln)(k:ZC)(kv:ZM)(w0 w:World)(hW:YB w0 w R B us fs l)(hK:YJ w kv k)(e1:(k.name==[82,101,113,117,105,114,101,115])=false)(hsr:∀W,Calls prog 92 #[.string ⟨k.name.toArray⟩] W fun e w'=>e=.returned (.int .i64 (ZI k.name:Nat))/\w'=W)(er:(((ZI k.name:Nat):Int)!=0)=false)(e2:(k.name==[69,110,118,105,114,111,110,109,101,110,116])=false)(kd:Int)(hkd:us[1]?=some (.int .i64 kd))(e3:(k.name==[83,101,114,118,105,99,101])=true)(k3:(kd==3)=true) :
  Calls prog 45 #[.pointer (some ⟨R,0,none⟩),.agg (Zp kv).toArray] w fun e w'=>Xd w0 w R B us fs (l) e w':=by
 have hsec:=hK.sec;have hname:=hK.name;have HKV:=h_ hK;obtain ⟨ks,kn,kf,kl,kk,wa,wn,wc⟩:=kv;have hlist:=hK.list;simp only at hsec hname hlist;subst hsec;subst hname;have hlt:R<w.heap.size:=n8_;have hB:=(Below.refl w.heap.size w).alloc l_ (.cells #[.string ⟨k.sec.toArray⟩,.string ⟨k.name.toArray⟩,.int .i64 kf,.bool kl,.int .i64 kk,.slice wa wn wc] 82);have HB:=h_ hB;have HW1:=h_ (hW.below hB);have HK1:=h_ (heap_alloc_new w (.cells #[.string ⟨k.sec.toArray⟩,.string ⟨k.name.toArray⟩,.int .i64 kf,.bool kl,.int .i64 kk,.slice wa wn wc] 82));have HKV1:=h_ (hK.below hB);have HNR:=h_ (show w.heap.size≠R by omega);have HLI:=h_ hlist;clear hlist;unfold Zp Xd;simp only;clear hB hW hK;have HSR:=h_ hsr;clear hsr;generalize ((ZI k.name:Nat):Int)=rv at HSR er;have c1:=HW1.out.rdU hkd;clear hkd;exact m115_
theorem ZjD(R B:Nat)(us fs:Array Value)(l:List Ln)(k:ZC)(kv:ZM)(w0 w:World)(hW:YB w0 w R B us fs l)(hK:YJ w kv k)(e1:(k.name==[82,101,113,117,105,114,101,115])=false)(hsr:∀W,Calls prog 92 #[.string ⟨k.name.toArray⟩] W fun e w'=>e=.returned (.int .i64 (ZI k.name:Nat))/\w'=W)(er:(((ZI k.name:Nat):Int)!=0)=false)(e2:(k.name==[69,110,118,105,114,111,110,109,101,110,116])=false)(kd:Int)(hkd:us[1]?=some (.int .i64 kd))(e3:(k.name==[83,101,114,118,105,99,101])=false)(e4:(k.name==[85,110,105,116])=true)(k3:(kd==3)=false) :
  Calls prog 45 #[.pointer (some ⟨R,0,none⟩),.agg (Zp kv).toArray] w fun e w'=>Xd w0 w R B us fs (l) e w':=by
 have hsec:=hK.sec;have hname:=hK.name;have HKV:=h_ hK;obtain ⟨ks,kn,kf,kl,kk,wa,wn,wc⟩:=kv;have hlist:=hK.list;simp only at hsec hname hlist;subst hsec;subst hname;have hlt:R<w.heap.size:=n8_;have hB:=(Below.refl w.heap.size w).alloc l_ (.cells #[.string ⟨k.sec.toArray⟩,.string ⟨k.name.toArray⟩,.int .i64 kf,.bool kl,.int .i64 kk,.slice wa wn wc] 82);have HB:=h_ hB;have HW1:=h_ (hW.below hB);have HK1:=h_ (heap_alloc_new w (.cells #[.string ⟨k.sec.toArray⟩,.string ⟨k.name.toArray⟩,.int .i64 kf,.bool kl,.int .i64 kk,.slice wa wn wc] 82));have HKV1:=h_ (hK.below hB);have HNR:=h_ (show w.heap.size≠R by omega);have HLI:=h_ hlist;clear hlist;unfold Zp Xd;simp only;clear hB hW hK;have HSR:=h_ hsr;clear hsr;generalize ((ZI k.name:Nat):Int)=rv at HSR er;have c1:=HW1.out.rdU hkd;clear hkd;have k4:(kd !=3)=true:=by rw [bne,k3];rfl
 exact m115_
theorem ZlP(R B:Nat)(us fs:Array Value)(l:List Ln)(k:ZC)(kv:ZM)(w0 w:World)(hW:YB w0 w R B us fs l)(hK:YJ w kv k)(e1:(k.name==[82,101,113,117,105,114,101,115])=false)(hsr:∀W,Calls prog 92 #[.string ⟨k.name.toArray⟩] W fun e w'=>e=.returned (.int .i64 (ZI k.name:Nat))/\w'=W)(er:(((ZI k.name:Nat):Int)!=0)=false)(e2:(k.name==[69,110,118,105,114,111,110,109,101,110,116])=false)(kd:Int)(hkd:us[1]?=some (.int .i64 kd))(e3:(k.name==[83,101,114,118,105,99,101])=false)(e4:(k.name==[85,110,105,116])=false)(hkl:k.list=true)(m:List Ln)(hc:∀W,YB w0 W R B us fs l->YJ W kv k->Calls prog 95 #[.pointer (some ⟨R,0,none⟩),.agg (Zp kv).toArray] W fun e w'=>Xd w0 W R B us fs m e w') :
  Calls prog 45 #[.pointer (some ⟨R,0,none⟩),.agg (Zp kv).toArray] w fun e w'=>Xd w0 w R B us fs (m) e w':=by
 have hsec:=hK.sec;have hname:=hK.name;have HKV:=h_ hK;obtain ⟨ks,kn,kf,kl,kk,wa,wn,wc⟩:=kv;have hlist:=hK.list;simp only at hsec hname hlist;subst hsec;subst hname;have hlt:R<w.heap.size:=n8_;have hB:=(Below.refl w.heap.size w).alloc l_ (.cells #[.string ⟨k.sec.toArray⟩,.string ⟨k.name.toArray⟩,.int .i64 kf,.bool kl,.int .i64 kk,.slice wa wn wc] 82);have HB:=h_ hB;have HW1:=h_ (hW.below hB);have HK1:=h_ (heap_alloc_new w (.cells #[.string ⟨k.sec.toArray⟩,.string ⟨k.name.toArray⟩,.int .i64 kf,.bool kl,.int .i64 kk,.slice wa wn wc] 82));have HKV1:=h_ (hK.below hB);have HNR:=h_ (show w.heap.size≠R by omega);have HLI:=h_ hlist;clear hlist;unfold Zp Xd;simp only;clear hB hW hK;have HSR:=h_ hsr;clear hsr;generalize ((ZI k.name:Nat):Int)=rv at HSR er;have c1:=HW1.out.rdU hkd;clear hkd;obtain rfl:kl=true:=HLI.out.trans hkl;have HC:=h_ hc;clear hc;go_enter func45,ntmps45;go_wp2_with (first|(refine X6 rfl 82 (.tmp 3) w.heap.size #[.string ⟨k.sec.toArray⟩,.string ⟨k.name.toArray⟩,.int .i64 kf,.bool true,.int .i64 kk,.slice wa wn wc] 82 _ rfl rfl HK1.out rfl rfl n13_ ?_)|(go_at_call 92;refine (HSR.out _).mono ?_;rintro e w' ⟨rfl,rfl⟩));refine (HC.out _ HW1.out HKV1.out).mono ?_;exact m118_
theorem ZkE(R B:Nat)(us fs:Array Value)(l:List Ln)(k:ZC)(kv:ZM)(w0 w:World)(hW:YB w0 w R B us fs l)(hK:YJ w kv k)(e1:(k.name==[82,101,113,117,105,114,101,115])=false)(hsr:∀W,Calls prog 92 #[.string ⟨k.name.toArray⟩] W fun e w'=>e=.returned (.int .i64 (ZI k.name:Nat))/\w'=W)(er:(((ZI k.name:Nat):Int)!=0)=false)(e2:(k.name==[69,110,118,105,114,111,110,109,101,110,116])=false)(kd:Int)(hkd:us[1]?=some (.int .i64 kd))(e3:(k.name==[83,101,114,118,105,99,101])=false)(e4:(k.name==[85,110,105,116])=false)(hkl:k.list=false)(m:List Ln)(hc:∀W,YB w0 W R B us fs l->YJ W kv k->Calls prog 96 #[.pointer (some ⟨R,0,none⟩),.agg (Zp kv).toArray] W fun e w'=>Xd w0 W R B us fs m e w') :
  Calls prog 45 #[.pointer (some ⟨R,0,none⟩),.agg (Zp kv).toArray] w fun e w'=>Xd w0 w R B us fs (m) e w':=by
 exact m114_
theorem ZkM(R B:Nat)(us fs:Array Value)(l:List Ln)(k:ZC)(kv:ZM)(w0 w:World)(hW:YB w0 w R B us fs l)(hK:YJ w kv k)(e1:(k.name==[82,101,113,117,105,114,101,115])=false)(hsr:∀W,Calls prog 92 #[.string ⟨k.name.toArray⟩] W fun e w'=>e=.returned (.int .i64 (ZI k.name:Nat))/\w'=W)(er:(((ZI k.name:Nat):Int)!=0)=false)(e2:(k.name==[69,110,118,105,114,111,110,109,101,110,116])=false)(kd:Int)(hkd:us[1]?=some (.int .i64 kd))(e3:(k.name==[83,101,114,118,105,99,101])=true)(e4:(k.name==[85,110,105,116])=false)(k3:(kd==3)=false)(hkl:k.list=false)(m:List Ln)(hc:∀W,YB w0 W R B us fs l->YJ W kv k->Calls prog 96 #[.pointer (some ⟨R,0,none⟩),.agg (Zp kv).toArray] W fun e w'=>Xd w0 W R B us fs m e w') :
  Calls prog 45 #[.pointer (some ⟨R,0,none⟩),.agg (Zp kv).toArray] w fun e w'=>Xd w0 w R B us fs (m) e w':=by
 exact m114_
theorem Zmg(R B:Nat)(us fs:Array Value)(l:List Ln)(k:ZC)(kv:ZM)(w0 w:World)(hW:YB w0 w R B us fs l)(hK:YJ w kv k)(e1:(k.name==[82,101,113,117,105,114,101,115])=false)(hsr:∀W,Calls prog 92 #[.string ⟨k.name.toArray⟩] W fun e w'=>e=.returned (.int .i64 (ZI k.name:Nat))/\w'=W)(er:(((ZI k.name:Nat):Int)!=0)=false)(e2:(k.name==[69,110,118,105,114,111,110,109,101,110,116])=false)(kd:Int)(hkd:us[1]?=some (.int .i64 kd))(e3:(k.name==[83,101,114,118,105,99,101])=false)(e4:(k.name==[85,110,105,116])=true)(k3:(kd==3)=true)(hkl:k.list=false)(m:List Ln)(hc:∀W,YB w0 W R B us fs l->YJ W kv k->Calls prog 96 #[.pointer (some ⟨R,0,none⟩),.agg (Zp kv).toArray] W fun e w'=>Xd w0 W R B us fs m e w') :
  Calls prog 45 #[.pointer (some ⟨R,0,none⟩),.agg (Zp kv).toArray] w fun e w'=>Xd w0 w R B us fs (m) e w':=by
 have hsec:=hK.sec;have hname:=hK.name;have HKV:=h_ hK;obtain ⟨ks,kn,kf,kl,kk,wa,wn,wc⟩:=kv;have hlist:=hK.list;simp only at hsec hname hlist;subst hsec;subst hname;have hlt:R<w.heap.size:=n8_;have hB:=(Below.refl w.heap.size w).alloc l_ (.cells #[.string ⟨k.sec.toArray⟩,.string ⟨k.name.toArray⟩,.int .i64 kf,.bool kl,.int .i64 kk,.slice wa wn wc] 82);have HB:=h_ hB;have HW1:=h_ (hW.below hB);have HK1:=h_ (heap_alloc_new w (.cells #[.string ⟨k.sec.toArray⟩,.string ⟨k.name.toArray⟩,.int .i64 kf,.bool kl,.int .i64 kk,.slice wa wn wc] 82));have HKV1:=h_ (hK.below hB);have HNR:=h_ (show w.heap.size≠R by omega);have HLI:=h_ hlist;clear hlist;unfold Zp Xd;simp only;clear hB hW hK;have HSR:=h_ hsr;clear hsr;generalize ((ZI k.name:Nat):Int)=rv at HSR er;have c1:=HW1.out.rdU hkd;clear hkd;have k4:(kd !=3)=false:=by rw [bne,k3];rfl
 exact m117_
theorem ZqX(a b:Str):(⟨a.toArray⟩:ByteArray)++(⟨#[61]⟩:ByteArray)=⟨(a++[61]).toArray⟩/\(⟨(a++[61]).toArray⟩:ByteArray)++(⟨b.toArray⟩:ByteArray)=⟨(a++61::b).toArray⟩:=by
 constructor
 ·apply Xo
  rw [Joins.data_append]
 ·apply Xo
  rw [Joins.data_append];simp
theorem Zkt(p:Str×Str)(h:p.1.length+p.2.length<=100000000):(pairT p).length<=450000000:=by
 have hw:=ZbQ (p.1++61::p.2);rw [List.length_append,List.length_cons] at hw;unfold pairT join;split
 ·exact Nat.zero_le _
 ·split
  ·exact Nat.zero_le _
  ·show (YG _).length<=_
   omega
theorem Zjl(R B:Nat)(us fs:Array Value)(l:List Ln)(k:ZC)(kv:ZM)(w0 w:World)(hW:YB w0 w R B us fs l)(hK:YJ w kv k)(e1:(k.name==[82,101,113,117,105,114,101,115])=false)(hsr:∀W,Calls prog 92 #[.string ⟨k.name.toArray⟩] W fun e w'=>e=.returned (.int .i64 (ZI k.name:Nat))/\w'=W)(er:(((ZI k.name:Nat):Int)!=0)=false)(e2:(k.name==[69,110,118,105,114,111,110,109,101,110,116])=true)(hM:Zt w0)(oa:Option Addr)(cap:Nat)(ps:List (Str×Str))(h19:us[19]?=some (.slice oa ps.length cap))(hrow:Zx Xy 2 w0 oa ps)(hl:l.length+ps.length<=100000000)(hv:∀p∈ps,p.1.length+p.2.length<=100000000) :
  Calls prog 45 #[.pointer (some ⟨R,0,none⟩),.agg (Zp kv).toArray] w fun e w'=>Xd w0 w R B us fs (l++Z5 k.sec (ps.map fun p=>(k.name,pairT p))) e w':=by
 have hsec:=hK.sec;have hname:=hK.name;have HKV:=h_ hK;obtain ⟨ks,kn,kf,kl,kk,wa,wn,wc⟩:=kv;have hlist:=hK.list;simp only at hsec hname hlist;subst hsec;subst hname;have hlt:R<w.heap.size:=n8_;have hB:=(Below.refl w.heap.size w).alloc l_ (.cells #[.string ⟨k.sec.toArray⟩,.string ⟨k.name.toArray⟩,.int .i64 kf,.bool kl,.int .i64 kk,.slice wa wn wc] 82);have HB:=h_ hB;have HW1:=h_ (hW.below hB);have HK1:=h_ (heap_alloc_new w (.cells #[.string ⟨k.sec.toArray⟩,.string ⟨k.name.toArray⟩,.int .i64 kf,.bool kl,.int .i64 kk,.slice wa wn wc] 82));have HKV1:=h_ (hK.below hB);have HNR:=h_ (show w.heap.size≠R by omega);have HLI:=h_ hlist;clear hlist;unfold Zp Xd;simp only;clear hB hW hK;have HSR:=h_ hsr;clear hsr;generalize ((ZI k.name:Nat):Int)=rv at HSR er;have c1:=HW1.out.rdU h19;have HM:=h_ hM;have HROW:=h_ hrow;have HL:=h_ hl;have HV:=h_ hv;clear h19 hM hrow hl hv;go_enter func45,ntmps45;go_wp2_with (first|(go_at_call 92;refine (HSR.out _).mono ?_;rintro e w' ⟨rfl,rfl⟩));go_loopg [32] (ps.length+1) (fun f i wr=>∃m:Nat,m<=ps.length/\i=.int .i64 m/\ps.length-m<f/\Hid (YB w0 wr R B us fs (l++Z5 k.sec ((ps.take m).map fun p=>(k.name,pairT p))))/\Hid (FrB R B 53 w wr)/\Hid (wr.heap[w.heap.size]?=some (.cells #[.string ⟨k.sec.toArray⟩,.string ⟨k.name.toArray⟩,.int .i64 kf,.bool kl,.int .i64 kk,.slice wa wn wc] 82 (0,0))))
 case atStart=>exact ⟨0,o_,rfl,o_,by rw [List.take_zero,List.map_nil,show Z5 k.sec []=[] from rfl,List.append_nil];exact HW1,Fr.of_below HB.out _,HK1⟩
 case round=>
  obtain ⟨m,hm,rfl,hf,HWR,HFR,HKR⟩:=hrel;have HRW:=h_ (fun (W:World) (h:Below wr.heap.size wr W)=>show W.cell? ⟨w.heap.size,0,none⟩=some (.string ⟨k.sec.toArray⟩)/\W.cell? ⟨w.heap.size,1,none⟩=some (.string ⟨k.name.toArray⟩) from ⟨(rd (Za HKR.out h)).1 0,(rd (Za HKR.out h)).1 1⟩);by_cases hlt2:m<ps.length
  ·obtain ⟨x,hx⟩:=e_ (ps[m])
   have HSN:=h_ (show l++Z5 k.sec ((ps.take (m+1)).map fun p=>(k.name,pairT p))=(l++Z5 k.sec ((ps.take m).map fun p=>(k.name,pairT p)))++[JZ k.sec k.name (pairT x)] by
    rw [List.take_succ_eq_append_getElem hlt2,List.map_append,<-hx];simp [Z5])
   have HVX:=h_ (HV.out x n25_);have HLM:=h_ (show (l++Z5 k.sec ((ps.take m).map fun p=>(k.name,pairT p))).length<=100000000 by
    have:=HL.out;rw [List.length_append,Z5,List.length_map,List.length_map,List.length_take];omega)
   have hm2:(m:Int)<(ps.length:Int):=o_;have hmb:m<=100000000:=n88_;obtain ⟨b,o,e9,_,hc⟩:=(Zx.below HROW.out HWR.out.base) m hlt2;rw [<-hx] at hc;have d5:=hc 0 (.string ⟨x.1.toArray⟩) rfl;have d6:=hc 1 (.string ⟨x.2.toArray⟩) rfl;rw [Nat.add_zero] at d5;subst e9;clear hx hc;generalize l++Z5 k.sec ((ps.take m).map fun p=>(k.name,pairT p))=lm at HWR HSN HLM;obtain ⟨pn,pv⟩:=x;simp only at d5 d6 HSN HVX;have hvx:pn.length+pv.length<=100000000:=HVX.out;have HC2:=h_ (ZqX pn pv);have z1:(⟨pn.toArray⟩:ByteArray).size=pn.length:=n15_;have z2:(⟨pv.toArray⟩:ByteArray).size=pv.length:=n15_;go_wp2_with fail;have HBE:=h_ ((Below.refl wr.heap.size wr).alloc l_ (.cells #[.string ⟨pn.toArray⟩,.string ⟨pv.toArray⟩] 64));have HE:=h_ (heap_alloc_new wr (.cells #[.string ⟨pn.toArray⟩,.string ⟨pv.toArray⟩] 64));generalize wr.alloc (.cells #[.string ⟨pn.toArray⟩,.string ⟨pv.toArray⟩] 64)=we at HBE HE⊢;refine Zh (S:=fun V=>Below we.heap.size we V) 13 k_ k_ (Zd ⟨1,rfl⟩) (fun hHeld=>?_);refine u_ ?_;refine dT_ (i:=0) (v:=.pointer (some ⟨R,0,none⟩)) (gT_ rfl) (fun W hW=>by clear hW;go_simp) (u_ ?_);refine dT_ (i:=1) (v:=.pointer (some ⟨w.heap.size,0,none⟩)) (gT_ rfl) (fun W hW=>by clear hW;go_simp) (u_ ?_);refine dT_ (i:=2) (v:=.string ⟨k.sec.toArray⟩) (gT_ rfl) (fun W hW=>by obtain ⟨q3,q4⟩:=HRW.out W (HBE.out.trans (hW.mono HBE.out.size));clear hW;go_simp) (u_ ?_);refine dT_ (i:=3) (v:=.pointer (some ⟨w.heap.size,1,none⟩)) (gT_ rfl) (fun W hW=>by clear hW;go_simp) (u_ ?_);refine dT_ (i:=4) (v:=.string ⟨k.name.toArray⟩) (gT_ rfl) (fun W hW=>by obtain ⟨q3,q4⟩:=HRW.out W (HBE.out.trans (hW.mono HBE.out.size));clear hW;go_simp) (u_ ?_);refine dT_ (i:=5) (v:=.pointer (some ⟨wr.heap.size,0,none⟩)) (gT_ rfl) (fun W hW=>by clear hW;go_simp) (u_ ?_);refine dT_ (i:=6) (v:=.string ⟨pn.toArray⟩) (gT_ rfl) (fun W hW=>by have q5:=(rd (Za HE.out hW)).1 0;have q6:=(rd (Za HE.out hW)).1 1;simp at q5 q6;clear hW;go_simp) (u_ ?_);refine dT_ (i:=7) (v:=.string ⟨(pn++[61]).toArray⟩) (gT_ rfl) (fun W hW=>by clear hW;rw [<-HC2.out.1];go_simp;omega) (u_ ?_);refine dT_ (i:=8) (v:=.pointer (some ⟨wr.heap.size,1,none⟩)) (gT_ rfl) (fun W hW=>by clear hW;go_simp) (u_ ?_);refine dT_ (i:=9) (v:=.string ⟨pv.toArray⟩) (gT_ rfl) (fun W hW=>by have q5:=(rd (Za HE.out hW)).1 0;have q6:=(rd (Za HE.out hW)).1 1;simp at q5 q6;clear hW;go_simp) (u_ ?_);refine dT_ (i:=10) (v:=.string ⟨(pn++61::pv).toArray⟩) (gT_ rfl) (fun W hW=>by clear hW;rw [<-HC2.out.2];go_simp;omega) (u_ ?_);refine Zn (i:=11) (gT_ rfl) k_ k_ (fun K hK=>?_);clear hHeld;rw [if_pos n13_];go_simp;have HB5:=h_ (show Below we.heap.size we (we.drew.alloc (.cells #[.string ⟨(pn++61::pv).toArray⟩] 9)) from (show Below we.heap.size we we.drew from Zd ⟨1,rfl⟩).alloc l_ _);have HBL:=h_ (show Zu (we.drew.alloc (.cells #[.string ⟨(pn++61::pv).toArray⟩] 9)) (some ⟨we.drew.heap.size,0,none⟩) [pn++61::pv] from Zct we.drew [pn++61::pv]);refine hK.out _ _ HB5.out (fun hHeld=>?_);clear hK K;refine u_ ?_;refine Zn (i:=12) (gT_ rfl) k_ k_ (fun K hK=>?_);clear hHeld;rw [if_pos n13_];go_simp;refine (Zkp (some ⟨we.drew.heap.size,0,none⟩) 1 [pn++61::pv] (we.drew.alloc (.cells #[.string ⟨(pn++61::pv).toArray⟩] 9)) HBL.out (by show 1<=maxLen;unfold maxLen;decide) (by intro y hy;simp at hy;subst hy;rw [List.length_append,List.length_cons];omega)).mono ?_;rintro e w7 ⟨rfl,hb7⟩;have HB7:=h_ (show Below we.heap.size we w7 from HB5.out.trans (hb7.mono HB5.out.size));clear hb7;refine hK.out _ _ HB7.out (fun hHeld=>?_);clear hK K;refine u_ ?_;refine Zv k_ ?_;clear hHeld;go_wp2_with fail;refine (QW R B us fs lm k.sec k.name (pairT (pn,pv)) w0 w7 (HWR.out.below (HBE.out.trans (HB7.out.mono HBE.out.size))) HM.out HLM.out (Nat.le_trans (Zkt (pn,pv) HVX.out) d_)).mono ?_;rintro e w5 ⟨rfl,hw5,hf5⟩;have HW5:=h_ hw5;have HK5:=h_ (FrB.heap hf5 (Za HKR.out (HBE.out.trans (HB7.out.mono HBE.out.size))) HNR.out d_);have HF5:=h_ (show FrB R B 53 w w5 from FrB.trans (FrB.trans HFR.out (show FrB R B 53 wr w7 from Fr.of_below (HBE.out.trans (HB7.out.mono HBE.out.size)) _)) hf5);clear hw5 hf5;go_wp2_with fail;go_roundg (ps.length-m)
   case measure=>omega
   case rel=>exact ⟨m+1,o_,n14_,o_,n63_,HF5,HK5⟩
  ·obtain rfl:m=ps.length:=o_
   rw [List.take_of_length_le l_] at HWR;have hm2:¬((ps.length:Int)<(ps.length:Int)):=o_;go_wp2_with fail;go_end0;exact ⟨rfl,HWR.out,HFR.out⟩
theorem ZpC(u f:UV)(k:ZC)(sm:Yx u):(YS u f k).length<=2000000:=by
 have h1:∀c:UC,c.cmds.length<=c.len/\c.nums.length<=c.len/\c.strs.length<=c.len/\c.prs.length<=c.len/\c.rels.length<=c.len:=by intro c;cases c<;>simp [UC.cmds,UC.nums,UC.strs,UC.prs,UC.rels,UC.len]
 unfold YS;split
 ·rw [List.length_map];exact Nat.le_trans (h1 _).2.2.2.2 (sm.len 4)
 ·split
  ·exact Nat.zero_le _
  ·split
   ·rw [List.length_map];exact Nat.le_trans (h1 _).2.2.2.1 (sm.len 19)
   ·split
    ·exact Nat.zero_le _
    ·rw [List.length_map]
     split
     ·unfold Zal
      split
      ·rw [List.length_map];exact Nat.le_trans (h1 _).1 (sm.len _)
      ·split
       ·rw [List.length_map];exact Nat.le_trans (h1 _).2.1 (sm.len _)
       ·exact Nat.le_trans (h1 _).2.2.1 (sm.len _)
     ·unfold Zah
      (repeat' split);all_goals simp
theorem ZnW:(Ze.all fun k=>!k.list||(k.name !=ZW&&k.name !=Xt))=true:=n4_
theorem ZoP(R B:Nat)(us fs:Array Value)(u f:UV)(l:List Ln)(k:ZC)(kv:ZM)(w0 w:World)(hW:YB w0 w R B us fs l)(hM:Zt w0)(hP:Pow w0)(hK:YJ w kv k)(hk:k∈Ze)(hl:l.length<=90000000)
  (hu:ZT w0 us u) (hf:ZT w0 fs f) (tu:Zz u) (tf:Zz f) (sm:Yx u) :
  Calls prog 45 #[.pointer (some ⟨R,0,none⟩),.agg (Zp kv).toArray] w fun e w'=>Xd w0 w R B us fs (l++Z5 k.sec (YS u f k)) e w':=by
 have hsr:=fun W=>Zi7 W k hk
 unfold YS;by_cases h1:k.name=ZY
 ·rw [if_pos h1]
  obtain ⟨v,hv,sv⟩:=ZbE hu (show 4<35 by decide);obtain ⟨rs,er⟩:=Zr4 (tu 4);rw [er] at sv⊢;obtain ⟨oa,cap,rfl,hrow,_⟩:=sv;have hln:=sm.len 4;have hrl:=sm.rels;rw [er] at hln hrl;have hlen:rs.length<=2000000:=hln;exact ZjE R B us fs l k kv w0 w hW hK (by rw [h1];decide) _ (fun W hW2=>Znb R B us fs l k.sec oa cap rs w0 W hW2 hM o_ hv hrow (fun r h=>Nat.le_trans (hrl r h) d_))
 rw [if_neg h1];have e1:(k.name==[82,101,113,117,105,114,101,115])=false:=beq_false_of_ne h1;by_cases h2:ZI k.name≠0
 ·rw [if_pos h2]
  have e0:l++Z5 k.sec []=l:=List.append_nil l;rw [e0];exact Zit R B us fs l k kv w0 w hW hK e1 hsr (by rw [bne_iff_ne];omega)
 rw [if_neg h2];have er:(((ZI k.name:Nat):Int)!=0)=false:=by
  have:ZI k.name=0:=n41_
  rw [this];rfl
 by_cases h3:k.name=ZJ
 ·rw [if_pos h3]
  obtain ⟨v,hv,sv⟩:=ZbE hu (show 19<35 by decide);obtain ⟨ps,ep⟩:=ZrB (tu 19);rw [ep] at sv⊢;obtain ⟨oa,cap,rfl,hrow,_⟩:=sv;have hln:=sm.len 19;have hpl:=sm.prs;rw [ep] at hln hpl;have hlen:ps.length<=2000000:=hln;exact Zjl R B us fs l k kv w0 w hW hK e1 hsr er (by rw [h3];decide) hM oa cap ps hv hrow o_ hpl
 rw [if_neg h3];have e2:(k.name==[69,110,118,105,114,111,110,109,101,110,116])=false:=beq_false_of_ne h3;obtain ⟨v,hv,sv⟩:=ZbE hu (show 1<35 by decide);obtain ⟨kd,ek⟩:=Zre (tu 1);rw [ek] at sv⊢;obtain rfl:v=.int .i64 kd:=sv;have ekd:(UC.n kd).num=kd:=rfl;rw [ekd];by_cases h4:k.name=ZW/\kd=3
 ·rw [if_pos (.inl h4)]
  have e0:l++Z5 k.sec []=l:=List.append_nil l;rw [e0];exact ZjR R B us fs l k kv w0 w hW hK e1 hsr er e2 kd hv (by rw [h4.1];decide) (by rw [h4.2];rfl)
 by_cases h5:k.name=Xt/\kd≠3
 ·rw [if_pos (.inr h5)]
  have e0:l++Z5 k.sec []=l:=List.append_nil l;rw [e0];exact ZjD R B us fs l k kv w0 w hW hK e1 hsr er e2 kd hv (by rw [h5.1];decide) (by rw [h5.1];decide) (beq_false_of_ne h5.2)
 rw [if_neg (fun h=>h.elim h4 h5)];have hr0:ZI k.name=0:=n41_;cases hkl:k.list with
 |true=>
  rw [if_pos rfl];have hn:=List.all_eq_true.1 ZnW k hk;rw [hkl] at hn;simp only [Bool.not_true,Bool.false_or,Bool.and_eq_true,bne_iff_ne] at hn;exact ZlP R B us fs l k kv w0 w hW hK e1 hsr er e2 kd hv (beq_false_of_ne hn.1) (beq_false_of_ne hn.2) hkl _ (fun W hW2 hK2=>Zn2 R B us fs u l k kv w0 W hW2 hM hP hK2 hk hkl hr0 h3 hl hu tu sm)
 |false=>
  rw [if_neg d_];have hc:=fun W hW2 hK2=>Zkg R B us fs u f l k kv w0 W hW2 hM hP hK2 hk hkl o_ hu hf tu tf sm
  by_cases hs:k.name=ZW
  ·exact ZkM R B us fs l k kv w0 w hW hK e1 hsr er e2 kd hv (by rw [hs];decide) (by rw [hs];decide) (beq_false_of_ne fun h=>h4 ⟨hs,h⟩) hkl _ hc
  ·by_cases hun:k.name=Xt
   ·have hk3:kd=3:=by
     cases hd:decide (kd=3) with
     |true=>exact of_decide_eq_true hd
     |false=>exact absurd ⟨hun,of_decide_eq_false hd⟩ h5
    exact Zmg R B us fs l k kv w0 w hW hK e1 hsr er e2 kd hv (by rw [hun];decide) (by rw [hun];decide) (by rw [hk3];rfl) hkl _ hc
   ·exact ZkE R B us fs l k kv w0 w hW hK e1 hsr er e2 kd hv (beq_false_of_ne hs) (beq_false_of_ne hun) hkl _ hc
theorem Zhn{u:UV}(h:ZeB u=true):(Z9 (u 0).str (Y1 u)).2=(0,0)/\XY (Z9 (u 0).str (Y1 u)).1 u=true/\Zht (Y1 u)=true:=by
 unfold ZeB at h;simp only [Bool.and_eq_true] at h;exact ⟨eq_of_beq h.1,h.2.1,h.2.2⟩
theorem Zpj{u:UV}(h:ZeB u=true):Zmn u=Q5 (Y1 u)/\XP u=Y1 u:=by
 unfold Zmn XP;rw [h,if_pos rfl];unfold Zh2;rw [if_pos (Zhn h).2.2];exact ⟨rfl,rfl⟩
theorem ZpJ(key:Str):Zc key<35:=by
 have h0:∀p∈ZcG,p.2<35:=d_;unfold Zc;cases h:ZcG.find? (fun p=>p.1==key) with
 |none=>decide
 |some p=>exact h0 p (List.mem_of_find?_eq_some h)
theorem ZeZ(u:Nat):∀c∈Go.Lib.decDigits u,isDigit c=true:=by
 induction u using Nat.strongRecOn with
 |_ u ih=>
  intro c hc;rw [Go.Lib.decDigits] at hc;have hd:∀n,n<10->isDigit (UInt8.ofNat (48+n))=true:=d_;by_cases h:u<10
  ·rw [dif_pos h] at hc
   have e:c=UInt8.ofNat (48+u):=n74_;rw [e];exact hd u h
  ·rw [dif_neg h] at hc
   rcases List.mem_append.1 hc with h1|h1
   ·exact ih (u / 10) o_ c h1
   ·have e:c=UInt8.ofNat (48+u % 10):=n59_
    rw [e];exact hd _ o_
theorem Zn7(n:Int):∀c∈Go.Lib.itoa n,c≠32:=by
 intro c hc e;subst e;unfold Go.Lib.itoa at hc;split at hc
 ·rcases List.mem_cons.1 hc with h|h
  ·exact absurd h d_
  ·exact absurd (ZeZ _ _ h) d_
 ·exact absurd (ZeZ _ _ hc) d_
theorem Zcn(s:Str)(h:∀c∈s,c≠32):(Zg s).length<=1:=by
 by_cases e:s=[]
 ·subst e;exact Nat.zero_le _
 ·rw [ZeV s h e];exact Nat.le_refl _
theorem Zan:∀(v cur:Str),(∀c∈cur,c≠32)->∀x∈Q8 v cur,∀c∈x,c≠32
 |[],cur,hc,x,hx=>by
  unfold Q8 at hx;split at hx
  ·simp at hx
  ·simp at hx;subst hx;exact hc
 |d::t,cur,hc,x,hx=>by
  unfold Q8 at hx;split at hx
  ·split at hx
   ·exact Zan t [] s_ x hx
   ·rcases List.mem_cons.1 hx with rfl|hx
    ·exact hc
    ·exact Zan t [] s_ x hx
  ·rename_i hd
   refine Zan t (cur++[d]) (fun c h=>?_) x hx;rcases List.mem_append.1 h with h|h
   ·exact hc c h
   ·have:c=d:=n27_
    subst this;exact hd
theorem Zbt{name:Str}{kind:Int}{u r:UV}{x:Ln}(h:YL name kind u x=.ok r) :
  ∃k v,Xm x.val name=.ok v/\findKey x.sec x.key=some k/\k∈Ze/\k.sec=x.sec/\k.name=x.key/\r=u.upd (Zc k.name) (Zi name k v (u (Zc k.name)))/\Qm k v=true/\lnS kind { x with val:=v }=0/\Qi r=false:=by
 unfold YL at h;cases hs:Xm x.val name with
 |error e=>rw [hs] at h;cases h
 |ok v=>
  rw [hs] at h;simp only at h;by_cases h0:lnS kind { x with val:=v }≠0
  ·rw [if_pos h0] at h;cases h
  ·rw [if_neg h0] at h
   cases hk:findKey x.sec x.key with
   |none=>rw [hk] at h;cases h
   |some k=>
    rw [hk] at h;simp only at h;by_cases h1:Qm k v=false
    ·rw [if_pos h1] at h;cases h
    ·rw [if_neg h1] at h
     by_cases h2:Qi (u.upd (Zc k.name) (Zi name k v (u (Zc k.name))))=true
     ·rw [if_pos h2] at h;cases h
     ·rw [if_neg h2] at h
      injection h with h
      obtain ⟨e1,e2⟩:=Zif _ _ k hk;exact ⟨k,v,rfl,rfl,List.mem_of_find?_eq_some hk,e1,e2,h.symm,n59_,by simpa using h0,by rw [<-h];simpa using h2⟩
theorem Xv{name:Str}{kind:Int}{u r:UV}{x:Ln}{t:List Ln}(h:ZV name kind u (x::t)=.ok r):∃q,YL name kind u x=.ok q/\ZV name kind q t=.ok r:=by
 rw [ZV] at h;cases hl:YL name kind u x with
 |error e=>rw [hl] at h;cases h
 |ok q=>rw [hl] at h;exact ⟨q,rfl,h⟩
theorem Zc0{name:Str}{kind:Int}{u r:UV}{a b:List Ln}(h:ZV name kind u (a++b)=.ok r):∃q,ZV name kind u a=.ok q/\ZV name kind q b=.ok r:=by
 rw [Zb1] at h;cases hl:ZV name kind u a with
 |error e=>rw [hl] at h;cases h
 |ok q=>rw [hl] at h;exact ⟨q,rfl,h⟩
theorem JN{name:Str}{kind:Int}{j:Nat}{r:UV}:∀{L:List Ln} {u:UV},ZV name kind u L=.ok r->(∀x∈L,Zc x.key≠j)->r j=u j
 |[],u,h,_=>by injection h with h;rw [h]
 |x::t,u,h,hx=>by
  obtain ⟨q,h1,h2⟩:=Xv h;obtain ⟨k,v,_,_,_,_,e,rfl,_⟩:=Zbt h1;rw [JN h2 (fun y hy=>hx y (by simp [hy])),UV.upd_ne];intro ej;exact hx x s_ (by rw [<-e,<-ej])
theorem Ze2{name:Str}{kind:Int}{j:Nat}{r:UV}:∀{L:List Ln} {u:UV},ZV name kind u L=.ok r->
  (∀x∈L,∀k v,Xm x.val name=.ok v->findKey x.sec x.key=some k->Zc k.name=j/\∀c,(Zi name k v c).len<=c.len+1)->(r j).len<=(u j).len+L.length
 |[],u,h,_=>by injection h with h;rw [h];exact Nat.le_refl _
 |x::t,u,h,hx=>by
  obtain ⟨q,h1,h2⟩:=Xv h;obtain ⟨k,v,hv,hk,_,_,e,rfl,_⟩:=Zbt h1;have h3:=Ze2 h2 (fun y hy=>hx y (by simp [hy]));obtain ⟨e2,h4⟩:=hx x s_ k v hv hk;rw [e2,UV.upd_at] at h3
  have:=h4 (u j)
  rw [List.length_cons];omega
theorem Zet{name:Str}{kind:Int}{r:UV}:∀{L M:List Ln} {u:UV},YH L M->ZV name kind u L=.ok r->ZV name kind u M=.ok r
 |[],_,u,.nil,h=>h
 |x::t,_,u,.cons (b:=y) hxy ht,h=>by
  obtain ⟨q,h1,h2⟩:=Xv h;have e:YL name kind u y=YL name kind u x:=by
   obtain ⟨xs,xk,xv,xa⟩:=x;obtain ⟨ys,yk,yv,ya⟩:=y;obtain ⟨rfl,rfl,rfl⟩:=hxy;rfl
  rw [ZV,e,h1];exact Zet ht h2
theorem YH.erase{L M:List Ln}(h:YH L M):∀i,YH (L.eraseIdx i) (M.eraseIdx i):=by
 induction h with
 |nil=>intro i;exact .nil
 |cons hab ht ih=>
  intro i;cases i with
  |zero=>exact ht
  |succ i=>exact .cons hab (ih i)
theorem YH.symm{L M:List Ln}(h:YH L M):YH M L:=by
 induction h with
 |nil=>exact .nil
 |cons hab ht ih=>exact .cons ⟨hab.1.symm,hab.2.1.symm,hab.2.2.symm⟩ ih
theorem YH.len{L M:List Ln}(h:YH L M):L.length=M.length:=by
 induction h with
 |nil=>rfl
 |cons hab ht ih=>rw [List.length_cons,List.length_cons,ih]
theorem ZcQ{name:Str}{l:List Ln}(h:(Z9 name l).2.1=0) :
  ZB name≠0/\Zcb name=false/\ZV name (ZB name:Nat) (ZL name) l=.ok (Z9 name l).1/\Q7 (ZB name:Nat) (Z9 name l).1=0/\(Z9 name l).2=(0,0):=by
 unfold Z9 at h⊢;by_cases hn:ZB name=0\/Zcb name=true
 ·rw [if_pos hn] at h;exact absurd h d_
 ·rw [if_neg hn] at h⊢
  have h1:ZB name≠0:=fun e=>hn (.inl e)
  have h2:Zcb name=false:=by cases hb:Zcb name with|false=>rfl|true=>exact absurd (.inr hb) hn
  cases hl:ZV name (ZB name:Nat) (ZL name) l with
  |error e=>rw [hl] at h;exact absurd h (ZfW _ _ _ _ _ hl)
  |ok u=>
   rw [hl] at h;simp only at h⊢;by_cases hw:Q7 (ZB name:Nat) u≠0
   ·rw [if_pos hw] at h;exact absurd h hw
   ·rw [if_neg hw]
    exact ⟨h1,h2,rfl,by simpa using hw,rfl⟩
theorem Zqf{name:Str}(h:ZB name≠0):ZL name 0=.s name:=by
 unfold ZL;rw [if_neg h];split
 ·rfl
 ·split<;>rfl
theorem Zka{name:Str}{kind:Int}{u r:UV}{L:List Ln}(h:ZV name kind u L=.ok r):r 0=u 0:=JN h fun x _=>by have:=ZpU x.key;omega
theorem Zad(name:Str)(j:Nat):(ZL name j).len=0:=by
 have hz:∀j,(Zy j).len=0:=by
  intro j;unfold Zy;(repeat' split);all_goals rfl
 have hu:∀(u:UV) (i:Nat) (c:UC),(∀j,(u j).len=0)->c.len=0->∀j,(u.upd i c j).len=0:=by
  intro u i c h hc j;unfold UV.upd;split
  ·exact hc
  ·exact h j
 unfold ZL;split
 ·exact hz j
 ·have hb:=hu _ 6 (.n 5) (hu _ 5 (.n 10) (hu _ 3 (.b true) (hu _ 1 (.n (ZB name:Nat)) (hu Zy 0 (.s name) hz rfl) rfl) rfl) rfl) rfl
  simp only;split
  ·exact hu _ 17 _ (hu _ 16 _ (hu _ 14 _ (hu _ 7 _ hb rfl) rfl) rfl) rfl j
  ·split
   ·exact hu _ 22 _ hb rfl j
   ·exact hb j
theorem ZdH{α:Type}(l:List α)(v:Str)(x:α):(YF l v x).length<=l.length+1:=by
 unfold YF;split
 ·simp
 ·simp
theorem Zhi{α:Type}[DecidableEq α](l m:List α):(YK l m).length<=l.length+m.length:=by
 have h:∀(m l:List α),(m.foldl (fun l x=>if x∈l then l else l++[x]) l).length<=l.length+m.length:=by
  intro m;induction m with
  |nil=>intro l;exact Nat.le_refl _
  |cons a t ih=>
   intro l;rw [List.foldl_cons,List.length_cons];refine Nat.le_trans (ih _) ?_;split
   ·omega
   ·simp;omega
 unfold YK;split
 ·simp
 ·exact h m l
theorem Zas{α:Type}[DecidableEq α]{l m:List α}{y:α}(hy:y∈YK l m):y∈l\/y∈m:=by
 have h:∀(m l:List α),y∈m.foldl (fun l x=>if x∈l then l else l++[x]) l->y∈l\/y∈m:=by
  intro m;induction m with
  |nil=>intro l h;exact .inl h
  |cons a t ih=>
   intro l h;rw [List.foldl_cons] at h;rcases ih _ h with h1|h1
   ·split at h1
    ·exact .inl h1
    ·rcases List.mem_append.1 h1 with h2|h2
     ·exact .inl h2
     ·have e0:y=a:=n41_
      exact .inr (by simp [e0])
   ·exact .inr (by simp [h1])
 unfold YK at hy;split at hy
 ·cases hy
 ·exact h m l hy
theorem Zel(name:Str)(rel:Int):∀(ws:List Str) (l:List (Int×Str)),(ZK name rel l ws).length<=l.length+ws.length
 |[],l=>Nat.le_refl _
 |s::t,l=>by
  rw [ZK,List.length_cons];refine Nat.le_trans (Zel name rel t _) ?_;split
  ·simp;omega
  ·omega
theorem Zbc(name:Str)(rel:Int){y:Int×Str}:∀(ws:List Str) (l:List (Int×Str)),y∈ZK name rel l ws->y∈l\/y.2∈ws
 |[],l,h=>.inl h
 |s::t,l,h=>by
  rw [ZK] at h;rcases Zbc name rel t _ h with h1|h1
  ·split at h1
   ·rcases List.mem_append.1 h1 with h2|h2
    ·exact .inl h2
    ·have e:y=(rel,s):=n41_
     exact .inr (by simp [e])
   ·exact .inl h1
  ·exact .inr (by simp [h1])
theorem ZgO:∀(m l:List (Str×Str)),(Yv l m).length<=l.length+m.length
 |[],l=>Nat.le_refl _
 |p::t,l=>by
  rw [Yv,List.length_cons];refine Nat.le_trans (ZgO t _) ?_
  have:=List.length_filter_le (fun x:Str×Str=>x.1 !=p.1) l
  simp only [List.length_append,List.length_cons,List.length_nil];omega
theorem Zjr(c:UC):c.cmds.length<=c.len:=by cases c<;>simp [UC.cmds,UC.len]
theorem Zfo(c:UC):c.nums.length<=c.len:=by cases c<;>simp [UC.nums,UC.len]
theorem Zdc(c:UC):c.strs.length<=c.len:=by cases c<;>simp [UC.strs,UC.len]
theorem ZmM(c:UC):c.prs.length<=c.len:=by cases c<;>simp [UC.prs,UC.len]
theorem ZeP(c:UC):c.rels.length<=c.len:=by cases c<;>simp [UC.rels,UC.len]
def NoB(u:UV):Prop:=(∀j∈([20,30,31,32,33]:List Nat),∀s∈(u j).strs,∀c∈s,c≠32)/\∀r∈(u 4).rels,∀c∈r.2,c≠32
theorem Zrf:(Ze.all fun k=>k.form==6||!([4,20,30,31,32,33]:List Nat).contains (Zc k.name))=true:=n4_
theorem Zqv:(Ze.all fun k=>!(k.form==6)||((ZI k.name==0)==(Zc k.name !=4)))=true:=n4_
theorem NoB.new(name:Str):NoB (ZL name):=by
 have h:=Zad name;have hs:∀j,(ZL name j).strs=[]:=fun j=>by
  have:=Zdc (ZL name j)
  rw [h j] at this;exact List.eq_nil_of_length_eq_zero o_
 have hr:(ZL name 4).rels=[]:=by
  have:=ZeP (ZL name 4)
  rw [h 4] at this;exact List.eq_nil_of_length_eq_zero o_
 exact ⟨fun j _ s hm=>(by rw [hs j] at hm;cases hm),fun q hm=>(by rw [hr] at hm;cases hm)⟩
theorem NoB.line{name:Str}{kind:Int}{u r:UV}{x:Ln}(hu:NoB u)(hl:YL name kind u x=.ok r):NoB r:=by
 obtain ⟨k,v,_,_,hk,_,_,rfl,_⟩:=Zbt hl;have t6:=List.all_eq_true.1 Zrf k hk;have t6r:=List.all_eq_true.1 Zqv k hk;have hb:∀y∈Zg v,∀c∈y,c≠32:=Zan v [] s_;by_cases hf:k.form=6
 ·have hfv:∀c,Zi name k v c=if ZI k.name=0 then .ss (YK c.strs (Zg v)) else .rs (ZK name (ZI k.name:Nat) (if v=[] then c.rels.filter (fun r=>r.1 !=(ZI k.name:Nat)) else c.rels) (Zg v)):=by
   intro c;unfold Zi;rw [hf];simp
  rw [hfv];by_cases hr:ZI k.name=0
  ·have h4:Zc k.name≠4:=by simpa [hf,hr] using t6r
   rw [if_pos hr];refine ⟨fun j hj s hs=>?_,fun q hq=>?_⟩
   ·by_cases e:j=Zc k.name
    ·subst e
     rw [UV.upd_at] at hs;rcases Zas hs with h1|h1
     ·exact hu.1 _ hj s h1
     ·exact hb s h1
    ·rw [UV.upd_ne _ _ e] at hs;exact hu.1 j hj s hs
   ·rw [UV.upd_ne _ _ (fun e=>h4 e.symm)] at hq;exact hu.2 q hq
  ·have h4:Zc k.name=4:=by
    rw [hf,beq_false_of_ne hr] at t6r;simpa using t6r
   rw [if_neg hr,h4];refine ⟨fun j hj s hs=>?_,fun q hq=>?_⟩
   ·rw [UV.upd_ne _ _ (fun e=>by subst e;revert hj;decide)] at hs;exact hu.1 j hj s hs
   ·rw [UV.upd_at] at hq
    rcases Zbc _ _ _ _ hq with h1|h1
    ·refine hu.2 q ?_
     split at h1
     ·exact (List.mem_filter.1 h1).1
     ·exact h1
    ·exact hb q.2 h1
 ·have h6:(k.form==6)=false:=beq_false_of_ne hf
  rw [h6,Bool.false_or] at t6;have hn:Zc k.name∉([4,20,30,31,32,33]:List Nat):=by simpa using t6
  refine ⟨fun j hj s hs=>?_,fun q hq=>?_⟩
  ·rw [UV.upd_ne _ _ (fun e=>hn (by rw [<-e];exact List.mem_cons_of_mem _ hj))] at hs;exact hu.1 j hj s hs
  ·rw [UV.upd_ne _ _ (fun e=>hn (by rw [<-e];exact List.mem_cons_self ..))] at hq;exact hu.2 q hq
theorem NoB.lines{name:Str}{kind:Int}{r:UV}:∀{L:List Ln} {u:UV},NoB u->ZV name kind u L=.ok r->NoB r
 |[],u,hu,h=>by injection h with h;rw [<-h];exact hu
 |x::t,u,hu,h=>by
  obtain ⟨q,h1,h2⟩:=Xv h;exact NoB.lines (hu.line h1) h2
theorem ZfR{α β:Type}(g:α->List β):∀(K:List α) (i:Nat),i<(K.flatMap g).length->∃P k S t,K=P++k::S/\t<(g k).length/\(K.flatMap g).eraseIdx i=P.flatMap g++((g k).eraseIdx t++S.flatMap g)
 |[],i,h=>n61_
 |k::S,i,h=>by
  rw [List.flatMap_cons,List.length_append] at h;rw [List.flatMap_cons];by_cases hi:i<(g k).length
  ·exact ⟨[],k,S,i,rfl,hi,by rw [List.eraseIdx_append_of_lt_length hi];rfl⟩
  ·obtain ⟨P,q,S',t,e,ht,e2⟩:=ZfR g S (i-(g k).length) o_
   exact ⟨k::P,q,S',t,by rw [e];rfl,ht,by rw [List.eraseIdx_append_of_length_le o_,e2,List.flatMap_cons,List.append_assoc]⟩
theorem ZlO:Ze.Nodup:=n4_
theorem ZkN:(Ze.all fun k=>Ze.all fun q=>!(Zc k.name==Zc q.name)||(k==q||((ZI k.name !=0&&k.name !=ZY)||((ZI q.name !=0&&q.name !=ZY)||((k.name==ZW&&q.name==Xt)||(k.name==Xt&&q.name==ZW))))))=true:=n4_
theorem Znn:∀i:Fin 9,Zc (Y9.getD i.val [])=4:=n4_
theorem Zh3(r:Int):Zc (YA r)=4:=by
 unfold YA;split
 ·have:=Znn ⟨(r-1).toNat,o_⟩
  exact this
 ·decide +kernel
theorem J2:Zc ZY=4/\Zc ZJ=19/\ZI ZY≠0:=n4_
theorem Zjn{u f:UV}{k:ZC}{p:Str×Str}(h:p∈YS u f k):Zc p.1=Zc k.name:=by
 unfold YS at h;split at h
 ·rename_i e
  obtain ⟨r,_,rfl⟩:=List.mem_map.1 h;rw [e,J2.1];exact Zh3 _
 ·split at h
  ·cases h
  ·split at h
   ·obtain ⟨r,_,rfl⟩:=List.mem_map.1 h;rfl
   ·split at h
    ·cases h
    ·obtain ⟨r,_,rfl⟩:=List.mem_map.1 h;rfl
theorem ZgQ{u f:UV}{k:ZC}(h:ZI k.name≠0/\k.name≠ZY):YS u f k=[]:=by
 unfold YS;rw [if_neg h.2,if_pos h.1]
theorem ZjW{u f:UV}{k q:ZC}(h1:k.name=ZW)(h2:q.name=Xt):YS u f k=[]\/YS u f q=[]:=by
 have a:ZW≠ZY/\¬ZI ZW≠0/\ZW≠ZJ/\ZW≠Xt:=n4_;have b:Xt≠ZY/\¬ZI Xt≠0/\Xt≠ZJ:=n4_;by_cases hk:(u 1).num=3
 ·left
  unfold YS;rw [h1,if_neg a.1,if_neg a.2.1,if_neg a.2.2.1,if_pos (.inl ⟨rfl,hk⟩)]
 ·right
  unfold YS;rw [h2,if_neg b.1,if_neg b.2.1,if_neg b.2.2,if_pos (.inr ⟨rfl,hk⟩)]
theorem Zlg{u f:UV}{k q:ZC}(hk:k∈Ze)(hq:q∈Ze)(hne:k≠q)(h0:YS u f k≠[]){p:Str×Str}(hp:p∈YS u f q):Zc p.1≠Zc k.name:=by
 intro e;rw [Zjn hp] at e;have hq0:YS u f q≠[]:=fun e=>by rw [e] at hp;cases hp
 have h:=List.all_eq_true.1 (List.all_eq_true.1 ZkN k hk) q hq;simp only [e,beq_self_eq_true,Bool.not_true,Bool.false_or,Bool.or_eq_true,Bool.and_eq_true,bne_iff_ne,beq_iff_eq] at h;rcases h with h|h|h|h|h
 ·exact hne h
 ·exact h0 (ZgQ h)
 ·exact hq0 (ZgQ h)
 ·rcases ZjW (u:=u) (f:=f) h.1 h.2 with e|e
  ·exact h0 e
  ·exact hq0 e
 ·rcases ZjW (u:=u) (f:=f) h.2 h.1 with e|e
  ·exact hq0 e
  ·exact h0 e
theorem ZlU:(Ze.all fun k=>!k.list||(ZI k.name !=0||(k.name==ZJ||(k.form==7||(k.form==4||(k.form==11||(k.form==9||(k.form==6&&([20,30,31,32,33]:List Nat).contains (Zc k.name)))))))))=true:=n4_
theorem ZoU:(Ze.all fun k=>!(k.name==ZJ)||k.form==8)=true:=n4_
theorem Zn0:(Ze.all fun k=>ZI k.name==0||(k.form==6&&Zc k.name==4))=true:=n4_
theorem ZjX{s:Str}{r:Int}{k:ZC}(h:findKey s (YA r)=some k):ZI k.name≠0:=by
 obtain ⟨_,e⟩:=Zif _ _ k h;rw [e];have h9:∀i:Fin 9,ZI (Y9.getD i.val [])≠0:=n4_;have h0:(Ze.all fun k=>k.name !=[])=true:=n4_;unfold YA at e⊢;by_cases hr:1<=r/\r<=9
 ·rw [if_pos hr]
  exact h9 ⟨(r-1).toNat,o_⟩
 ·rw [if_neg hr] at e
  have:=List.all_eq_true.1 h0 k (List.mem_of_find?_eq_some h)
  rw [e] at this;cases this
theorem Zp5(p:Str×Str):(Jd (pairT p)).1.length<=1:=by
 unfold pairT;by_cases h0:(p.1++61::p.2).contains 0=true
 ·have e:join [p.1++61::p.2]=[]:=by
   have h1:([p.1++61::p.2].any fun w=>w.contains 0)=true:=by simp only [List.any_cons,h0,Bool.true_or]
   unfold join;rw [if_neg (by exact Nat.not_lt.2 (Nat.succ_le_succ (Nat.zero_le _))),if_pos h1]
  rw [e];decide
 ·have hs:=ZeQ [p.1++61::p.2] (by simpa using h0) (Nat.succ_le_succ (Nat.zero_le _))
  unfold Jd;rw [hs];simp only;cases he:X9 [p.1++61::p.2] with
  |none=>exact Nat.zero_le _
  |some ps=>simp only;rw [ZjC _ _ he];exact Nat.le_refl _
theorem ZgY{name s v:Str}(hn:ZB name≠0)(h:Xm (Xr s) name=.ok v):v=s:=by
 unfold Xm at h;rw [if_neg hn,ZfC] at h;injection h with h
 exact h.symm
theorem Zo9{name:Str}(hn:ZB name≠0){u f:UV}(hb:NoB u){q:ZC}(hq:q∈Ze)(hl:q.list=true\/q.name=ZY\/q.name=ZJ){p:Str×Str}(hp:p∈YS u f q)(k:ZC)(v:Str)(hv:Xm (Xr p.2) name=.ok v)(hk:findKey q.sec p.1=some k) :
  Zc k.name=Zc q.name/\∀c,(Zi name k v c).len<=c.len+1:=by
 obtain ⟨_,ek⟩:=Zif _ _ k hk;have es:Zc k.name=Zc q.name:=by rw [ek];exact Zjn hp
 refine ⟨es,fun c=>?_⟩;have ev:=ZgY hn hv;subst ev;unfold YS at hp;by_cases h1:q.name=ZY
 ·rw [if_pos h1] at hp
  obtain ⟨r,hr,rfl⟩:=List.mem_map.1 hp;have hrk:=ZjX hk;have hf:=List.all_eq_true.1 Zn0 k (List.mem_of_find?_eq_some hk);have hf6:k.form=6:=by
   simp only [Bool.or_eq_true,beq_iff_eq,Bool.and_eq_true] at hf;rcases hf with h|h
   ·exact absurd h hrk
   ·exact h.1
  unfold Zi;rw [hf6];simp only [hrk,if_false,show ¬((6:Int)=1\/(6:Int)=5) by decide,show ¬(6:Int)=2 by decide,show ¬(6:Int)=3 by decide,show ¬(6:Int)=10 by decide,show ¬(6:Int)=7 by decide,show ¬(6:Int)=8 by decide,show ¬(6:Int)=9 by decide,show ¬(6:Int)=11 by decide,show ¬(6:Int)=4 by decide];show (ZK _ _ _ _).length<=_;have a:=Zel name (ZI k.name:Nat) (Zg r.2) (if r.2=[] then c.rels.filter (fun r=>r.1 !=(ZI k.name:Nat)) else c.rels);have b:=Zcn r.2 (hb.2 r hr);have d:=ZeP c;have e:(if r.2=[] then c.rels.filter (fun r:Int×Str=>r.1 !=(ZI k.name:Nat)) else c.rels).length<=c.rels.length:=by
   split
   ·exact List.length_filter_le _ _
   ·exact Nat.le_refl _
  omega
 ·rw [if_neg h1] at hp
  by_cases h2:ZI q.name≠0
  ·rw [if_pos h2] at hp;cases hp
  ·rw [if_neg h2] at hp
   have hsame:p.1=q.name->k=q:=fun e=>by
    rw [e,Zn4 q hq] at hk;injection hk with hk
    exact hk.symm
   by_cases h3:q.name=ZJ
   ·rw [if_pos h3] at hp
    obtain ⟨r,hr,rfl⟩:=List.mem_map.1 hp;obtain rfl:=hsame rfl;have hf:=List.all_eq_true.1 ZoU k hq;have hf8:k.form=8:=by simpa [h3] using hf
    unfold Zi;rw [hf8];simp only [if_true,if_false,show ¬((8:Int)=1\/(8:Int)=5) by decide,show ¬(8:Int)=2 by decide,show ¬(8:Int)=3 by decide,show ¬(8:Int)=10 by decide,show ¬(8:Int)=7 by decide];show (Yv _ _).length<=_;have a:=ZgO (Jd (pairT r)).1 (if pairT r=[] then [] else c.prs);have b:=Zp5 r;have d:=ZmM c;have e:(if pairT r=[] then [] else c.prs).length<=c.prs.length:=by
     split
     ·exact Nat.zero_le _
     ·exact Nat.le_refl _
    omega
   ·rw [if_neg h3] at hp
    have hq':q.list=true:=by
     rcases hl with h|h|h
     ·exact h
     ·exact absurd h h1
     ·exact absurd h h3
    split at hp
    ·cases hp
    ·obtain ⟨s,hs,rfl⟩:=List.mem_map.1 hp
     obtain rfl:=hsame rfl;have hf:=List.all_eq_true.1 ZlU k hq;simp only [hq',Bool.not_true,Bool.false_or,Bool.or_eq_true,bne_iff_ne,beq_iff_eq,Bool.and_eq_true] at hf;unfold Zal at hs;rcases hf with hf|hf|hf|hf|hf|hf|⟨hf,hm⟩
     ·exact absurd hf h2
     ·exact absurd hf h3
     ·unfold Zi
      rw [hf];simp only [if_true,if_false,show ¬((7:Int)=1\/(7:Int)=5) by decide,show ¬(7:Int)=2 by decide,show ¬(7:Int)=3 by decide,show ¬(7:Int)=10 by decide];exact Nat.le_trans (ZdH _ _ _) (Nat.succ_le_succ (Zjr c))
     ·unfold Zi
      rw [hf,hq'];simp only [if_true,if_false,show ¬((4:Int)=1\/(4:Int)=5) by decide,show ¬(4:Int)=2 by decide,show ¬(4:Int)=3 by decide,show ¬(4:Int)=10 by decide,show ¬(4:Int)=7 by decide,show ¬(4:Int)=8 by decide,show ¬(4:Int)=9 by decide,show ¬(4:Int)=11 by decide];exact Nat.le_trans (ZdH _ _ _) (Nat.succ_le_succ (Zfo c))
     ·rw [hf] at hs
      simp only [show ¬(11:Int)=7 by decide,if_false,or_true,if_true] at hs;obtain ⟨n,hn2,rfl⟩:=List.mem_map.1 hs;have eN:QD k n=Go.Lib.itoa n:=by
       unfold QD;rw [hf];simp
      rw [eN];unfold Zi;rw [hf];simp only [if_true,if_false,show ¬((11:Int)=1\/(11:Int)=5) by decide,show ¬(11:Int)=2 by decide,show ¬(11:Int)=3 by decide,show ¬(11:Int)=10 by decide,show ¬(11:Int)=7 by decide,show ¬(11:Int)=8 by decide,show ¬(11:Int)=9 by decide];show (YK _ _).length<=_;have a:=Zhi c.nums ((Zg (Go.Lib.itoa n)).map fun w=>(Xu w).1);rw [List.length_map] at a;have b:=Zcn (Go.Lib.itoa n) (Zn7 n);have d:=Zfo c;omega
     ·unfold Zi
      rw [hf];simp only [if_true,if_false,show ¬((9:Int)=1\/(9:Int)=5) by decide,show ¬(9:Int)=2 by decide,show ¬(9:Int)=3 by decide,show ¬(9:Int)=10 by decide,show ¬(9:Int)=7 by decide,show ¬(9:Int)=8 by decide];exact Nat.le_trans (ZdH _ _ _) (Nat.succ_le_succ (Zdc c))
     ·rw [hf] at hs
      simp only [show ¬(6:Int)=7 by decide,show ¬((6:Int)=4\/(6:Int)=11) by decide,if_false] at hs;unfold Zi;rw [hf];have h20:ZI k.name=0:=n41_;simp only [h20,if_true,if_false,show ¬((6:Int)=1\/(6:Int)=5) by decide,show ¬(6:Int)=2 by decide,show ¬(6:Int)=3 by decide,show ¬(6:Int)=10 by decide,show ¬(6:Int)=7 by decide,show ¬(6:Int)=8 by decide,show ¬(6:Int)=9 by decide,show ¬(6:Int)=11 by decide,show ¬(6:Int)=4 by decide];show (YK _ _).length<=_;have a:=Zhi c.strs (Zg s);have b:=Zcn s (hb.1 _ (by simpa using hm) s hs);have d:=Zdc c;omega
theorem Zlu(u f:UV)(q:ZC)(h0:YS u f q≠[]):((q.list=true\/q.name=ZY\/q.name=ZJ)/\(YS u f q).length<=(u (Zc q.name)).len)\/((YS u f q).length<=1/\u (Zc q.name)≠f (Zc q.name)):=by
 unfold YS at h0⊢;by_cases h1:q.name=ZY
 ·rw [if_pos h1,List.length_map]
  exact .inl ⟨.inr (.inl h1),by rw [h1,J2.1];exact ZeP _⟩
 ·rw [if_neg h1] at h0⊢
  by_cases h2:ZI q.name≠0
  ·rw [if_pos h2] at h0;exact absurd rfl h0
  ·rw [if_neg h2] at h0⊢
   by_cases h3:q.name=ZJ
   ·rw [if_pos h3,List.length_map]
    exact .inl ⟨.inr (.inr h3),by rw [h3,J2.2.1];exact ZmM _⟩
   ·rw [if_neg h3] at h0⊢
    by_cases h4:(q.name=ZW/\(u 1).num=3)\/(q.name=Xt/\(u 1).num≠3)
    ·rw [if_pos h4] at h0;exact absurd rfl h0
    ·rw [if_neg h4] at h0⊢
     rw [List.length_map];cases hl:q.list with
     |true=>
      refine .inl ⟨.inl rfl,?_⟩;rw [if_pos rfl];unfold Zal;split
      ·rw [List.length_map];exact Zjr _
      ·split
       ·rw [List.length_map];exact Zfo _
       ·exact Zdc _
     |false=>
      rw [hl] at h0;rw [if_neg d_] at h0⊢;refine .inr ⟨?_,fun e=>h0 ?_⟩
      ·unfold Zah
       (repeat' split);all_goals simp
      ·unfold Zah
       rw [if_pos e];rfl
theorem Zqr(name:Str)(l:List Ln)(h:(Z9 name l).2.1=0)(hm:ZeB (Z9 name l).1=true) :
  (Y1 (Z9 name l).1=[]->XY (Z9 name l).1 (ZL name)=true)/\∀i,i<(Y1 (Z9 name l).1).length->XY (Z9 name ((Y1 (Z9 name l).1).eraseIdx i)).1 (Z9 name l).1=false:=by
 obtain ⟨hk,_,hl,_,_⟩:=ZcQ h;generalize (Z9 name l).1=u at *;have h0:u 0=.s name:=by rw [Zka hl,Zqf hk]
 obtain ⟨m1,m2,_⟩:=Zhn hm;have e0:(u 0).str=name:=by rw [h0];rfl
 rw [e0] at m1 m2;refine ⟨fun e=>?_,fun i hi=>?_⟩
 ·rw [e] at m1 m2
  obtain ⟨_,_,g,_,_⟩:=ZcQ (name:=name) (l:=[]) (by rw [m1]);injection g with g
  rw [<-g] at m2;rw [ZlH];exact m2
 ·cases hs:XY (Z9 name ((Y1 u).eraseIdx i)).1 u with
  |false=>rfl
  |true=>
   exfalso;have hc:(Z9 name ((Y1 u).eraseIdx i)).2.1=0:=by
    rcases ZnN name ((Y1 u).eraseIdx i) with e|e
    ·have:=ZbI hs 0 d_
     rw [e,h0] at this;have e2:name=[]:=(UC.s.inj this).symm;rw [e2] at hk;exact absurd n4_ hk
    ·rw [e]
   obtain ⟨_,_,g,_,_⟩:=ZcQ hc;generalize (Z9 name ((Y1 u).eraseIdx i)).1=x at *;have hsm:=Za6 (Zew u) none 0;have hi':i<(Zew u).length:=by rw [hsm.len];exact hi
   have g:=Zet (hsm.symm.erase i) g;obtain ⟨P,k,S,t,ek,ht,ee⟩:=ZfR (fun k=>(YS u (ZL (u 0).str) k).map (lnT k)) Ze i hi';unfold Zew at g;rw [ee] at g;rw [e0] at g ht;obtain ⟨qa,ga,g⟩:=Zc0 g;obtain ⟨qb,gb,gc⟩:=Zc0 g;have hkm:k∈Ze:=by rw [ek];simp
   have hne:YS u (ZL name) k≠[]:=fun e=>by rw [List.length_map,e] at ht;cases ht
   have hnd:k∉P/\k∉S:=by
    have:=ZlO
    rw [ek,List.nodup_append] at this;obtain ⟨_,h2,h3⟩:=this;rw [List.nodup_cons] at h2;exact ⟨fun hp=>h3 k hp k s_ rfl,h2.1⟩
   have apart:∀(Q:List ZC),k∉Q->(∀q∈Q,q∈Ze)->∀y∈Q.flatMap (fun q=>(YS u (ZL name) q).map (lnT q)),Zc y.key≠Zc k.name:=by
    intro Q hQ hA y hy;obtain ⟨q,hq,hy⟩:=List.mem_flatMap.1 hy;obtain ⟨p,hp,rfl⟩:=List.mem_map.1 hy;exact Zlg hkm (hA q hq) (fun e=>hQ (by rw [e];exact hq)) hne hp
   have ka:=JN ga (apart P hnd.1 (fun q hq=>by rw [ek];simp [hq]));have kc:=JN gc (apart S hnd.2 (fun q hq=>by rw [ek];simp [hq]));have ex:=ZbI hs (Zc k.name) (ZpJ _);rw [List.length_map] at ht;rcases Zlu u (ZL name) k hne with ⟨hlist,hlen⟩|⟨h1,h2⟩
   ·have hb:=Ze2 (j:=Zc k.name) gb (fun y hy k2 v hv hf=>by
     obtain ⟨p,hp,rfl⟩:=List.mem_map.1 (List.mem_of_mem_eraseIdx hy);exact Zo9 hk (NoB.lines (NoB.new name) hl) hkm hlist hp k2 v hv hf)
    rw [ka,Zad,<-kc,ex,List.length_eraseIdx,List.length_map,if_pos ht] at hb;omega
   ·have e1:((YS u (ZL name) k).map (lnT k)).eraseIdx t=[]:=List.eq_nil_of_length_eq_zero (by rw [List.length_eraseIdx,List.length_map,if_pos ht];omega)
    rw [e1] at gb;injection gb with gb
    rw [kc,<-gb,ka] at ex;exact h2 ex.symm
theorem m123_{p:Prop}(h:p:=by
  rcases List.mem_cons.1 hx with rfl|hx
  ·exact hP _ _ _ _ _ hy
  ·exact ih _ _ hr x hx):p:=h
theorem Zja(r:Int):(YA r).length<=1000:=by
 unfold YA;split
 ·rw [List.getD_eq_getElem?_getD]
  cases hg:Y9[(r-1).toNat]? with
  |none=>decide
  |some x=>
   have h0:(Y9.all fun x=>decide (x.length<=1000))=true:=n4_;exact of_decide_eq_true (List.all_eq_true.1 h0 x (List.mem_of_getElem? hg))
 ·decide
theorem Zb8(k:ZC)(hk:k∈Ze):k.name.length<=1000/\k.sec.length<=1000:=by
 have h0:(Ze.all fun k=>decide (k.name.length<=1000)&&decide (k.sec.length<=1000))=true:=n4_
 have:=List.all_eq_true.1 h0 k hk
 simpa using this
theorem ZnH(b:Bool):(ZfA b).length<=1000:=by cases b<;>decide
theorem Zot(u f:UV)(k:ZC)(hk:k∈Ze)(sm:Yx u):∀p∈YS u f k,p.1.length<=1000/\p.2.length<=450000000:=by
 intro p hp;have hkn:=(Zb8 k hk).1;unfold YS at hp;split at hp
 ·obtain ⟨r,hr,rfl⟩:=List.mem_map.1 hp
  exact ⟨Zja _,by have:=sm.rels r hr;show r.2.length<=_;omega⟩
 ·split at hp
  ·cases hp
  ·split at hp
   ·obtain ⟨q,hq,rfl⟩:=List.mem_map.1 hp
    exact ⟨hkn,Zkt q (sm.prs q hq)⟩
   ·split at hp
    ·cases hp
    ·obtain ⟨s,hs,rfl⟩:=List.mem_map.1 hp
     refine ⟨hkn,?_⟩;show s.length<=_;split at hs
     ·unfold Zal at hs
      split at hs
      ·obtain ⟨c,hc,rfl⟩:=List.mem_map.1 hs
       exact (sm.cmds _ c hc).1
      ·split at hs
       ·obtain ⟨n,hn,rfl⟩:=List.mem_map.1 hs
        exact ZeL k hk n (sm.nums _ n hn).1 (sm.nums _ n hn).2
       ·have:=sm.strs _ s hs
        omega
     ·unfold Zah at hs
      split at hs
      ·cases hs
      ·split at hs
       ·obtain rfl:=List.mem_singleton.1 hs
        have:=sm.str (Zc k.name)
        omega
       ·split at hs
        ·obtain rfl:=List.mem_singleton.1 hs
         have:=ZnH (u (Zc k.name)).bool
         omega
        ·obtain rfl:=List.mem_singleton.1 hs
         exact ZeL k hk _ (sm.num _).1 (sm.num _).2
theorem Zog(u:UV)(sm:Yx u):∀x∈Zew u,x.sec.length<=1000/\x.key.length<=1000/\∃s,x.val=Xr s/\s.length<=450000000:=by
 intro x hx;obtain ⟨k,hk,hx⟩:=List.mem_flatMap.1 hx;obtain ⟨p,hp,rfl⟩:=List.mem_map.1 hx;have h:=Zot u _ k hk sm p hp;exact ⟨(Zb8 k hk).2,h.1,p.2,rfl,h.2⟩
theorem Zmz{P:Ln->Prop}(hP:∀s k v n m,P ⟨s,k,v,n⟩->P ⟨s,k,v,m⟩):∀(l:List Ln) (o:Option Str) (n:Nat),(∀x∈l,P x)->∀x∈XI o l n,P x:=by
 intro l;induction l with
 |nil=>intro o n _ x hx;cases o<;>cases hx
 |cons y r ih=>
  intro o n h x hx;have hy:=h y (List.mem_cons_self ..);have hr:=fun x hx=>h x (List.mem_cons_of_mem _ hx)
  cases o with
  |none=>
   unfold XI at hx;exact m123_
  |some s=>
   unfold XI at hx;split at hx
   ·exact m123_
   ·exact m123_
theorem Zki(u:UV)(sm:Yx u):∀x∈Y1 u,x.sec.length<=1000/\x.key.length<=1000/\∃s,x.val=Xr s/\s.length<=450000000:=
 Zmz (P:=fun x=>x.sec.length<=1000/\x.key.length<=1000/\∃s,x.val=Xr s/\s.length<=450000000) (fun _ _ _ _ _ h=>h) _ _ _ (Zog u sm)
theorem ZjF(u:UV)(sm:Yx u)(nm:Str):∀x∈Y1 u,x.val.length<=1000000000/\∀v,Xm x.val nm=.ok v->v.length<=500000000:=by
 intro x hx;obtain ⟨_,_,s,e,hs⟩:=Zki u sm x hx;rw [e];refine ⟨by have:=Zhv s;omega,fun v hv=>?_⟩;have hn:ZB nm≠0:=by
  intro h;unfold Xm at hv;rw [if_pos h] at hv;cases hv
 rw [ZgY hn hv];omega
theorem ZfY(u:UV)(sm:Yx u):∀x∈Y1 u,ZaG x:=by
 intro x hx;obtain ⟨h1,h2,s,e,hs⟩:=Zki u sm x hx;exact ⟨o_,o_,by rw [e];have:=Zhv s;omega⟩
theorem ZkH:∀(l:List Ln) (o:Option Str) (n:Nat),(XI o l n).length=l.length:=by
 intro l;induction l with
 |nil=>intro o n;cases o<;>rfl
 |cons y r ih=>
  intro o n;cases o with
  |none=>simp [XI,ih]
  |some s=>unfold XI;split<;>simp [ih]
theorem Zbf(u:UV)(sm:Yx u):(Y1 u).length<=2000000:=by
 unfold Y1;rw [ZkH];exact sm.few
theorem Zpy:∀(l:List Ln) (o:Option Str),(∀x∈l,x.sec.length<=20/\x.key.length+1+x.val.length<=400)->(YQ o l).length<=l.length*430:=by
 intro l;induction l with
 |nil=>intro o _;cases o<;>exact Nat.zero_le _
 |cons y r ih=>
  intro o h;have hy:=h y (List.mem_cons_self ..);have hr:=fun o=>ih o (fun x hx=>h x (List.mem_cons_of_mem _ hx))
  have h0:=hr (some y.sec);cases o with
  |none=>
   simp only [YQ,Zeo,Zep,List.length_append,List.length_cons,List.length_nil];omega
  |some s=>
   simp only [YQ,Zeo,Zep,List.length_append,List.length_cons,List.length_nil];split
   ·simp only [List.length_nil];omega
   ·simp only [List.length_append,List.length_cons,List.length_nil];omega
theorem ZiP(k:ZC)(hk:k∈Ze):k.sec.length<=20:=by
 have h0:(Ze.all fun k=>decide (k.sec.length<=20))=true:=n4_;exact of_decide_eq_true (List.all_eq_true.1 h0 k hk)
theorem ZpL(u:UV):∀x∈Y1 u,x.sec.length<=20:=by
 refine Zmz (P:=fun x=>x.sec.length<=20) (fun _ _ _ _ _ h=>h) _ _ _ ?_;intro x hx;obtain ⟨k,hk,hx⟩:=List.mem_flatMap.1 hx;obtain ⟨p,hp,rfl⟩:=List.mem_map.1 hx;exact ZiP k hk
theorem Zg7(u:UV)(sm:Yx u)(h:(Y1 u).all Jc=true):(Q5 (Y1 u)).length<=1000000000:=by
 have:=Zpy (Y1 u) none (fun x hx=>⟨ZpL u x hx,by
  have:=List.all_eq_true.1 h x hx
  unfold Jc at this;simp only [Bool.and_eq_true,decide_eq_true_eq] at this;exact this.2⟩)
 have:=Zbf u sm
 unfold Q5;omega
theorem ZoL{w:World}{oa:Option Addr}{l:List Ln}(h:Zx ZU 4 w oa l):Zao w oa l:=by
 intro i hi;obtain ⟨b,o,e,_,hc⟩:=h i hi;exact ⟨b,o,e,hc 0 _ rfl,hc 1 _ rfl,hc 2 _ rfl,hc 3 _ rfl⟩
end Go.Proofs.YtmgmbeipbeknaaaGreatDoor
