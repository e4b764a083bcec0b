import Derived.Test.YtmgmbeipbeknaaaGreatDoorRT28
import Derived.Test.YtmgmbeipbeknaaaGreatDoorRT39
import Derived.Test.YtmgmbeipbeknaaaGreatDoorRT41
import Derived.Test.YtmgmbeipbeknaaaGreatDoorRT42
import Derived.Test.YtmgmbeipbeknaaaGreatDoorRT45
import Derived.Test.YtmgmbeipbeknaaaGreatDoorRT46
import Derived.Test.YtmgmbeipbeknaaaGreatDoorRT47
namespace Go.Proofs.YtmgmbeipbeknaaaGreatDoor
open Go.Proofs.Tryz
open Go Go.RowKit
set_option linter.unusedVariables false
set_option linter.unusedSimpArgs false
set_option maxHeartbeats 16000000
set_option maxRecDepth 100000
theorem m117_{p:Prop}(h:p:=by have hsec:=hK.sec;have hname:=hK.name;have HKV:=h_ hK;obtain ⟨ks,kn,kf,kl,kk,wa,wn,wc⟩:=kv;have hlist:=hK.list;simp only at hsec hname hlist;subst hsec;subst hname;have hlt:R<w.heap.size:=n8_;have hB:=(Below.refl w.heap.size w).alloc l_ (.cells #[.string ⟨k.sec.toArray⟩,.string ⟨k.name.toArray⟩,.int .i64 kf,.bool kl,.int .i64 kk,.slice wa wn wc] 82);have HB:=h_ hB;have HW1:=h_ (hW.below hB);have HK1:=h_ (heap_alloc_new w (.cells #[.string ⟨k.sec.toArray⟩,.string ⟨k.name.toArray⟩,.int .i64 kf,.bool kl,.int .i64 kk,.slice wa wn wc] 82));have HKV1:=h_ (hK.below hB);have HNR:=h_ (show w.heap.size≠R by omega);have HLI:=h_ hlist;clear hlist;unfold Zq Xb;simp only;clear hB hW hK;have HSR:=h_ hsr;clear hsr;generalize ((Yp k.name:Nat):Int)=rv at HSR er;have c1:=HW1.out.rdU hkd;clear hkd;exact m120_):p:=h
theorem m118_{p:Prop}(h:p:=by go_enter func45,ntmps45;go_wp2_with (first|(go_at_call 92;refine (HSR.out _).mono ?_;rintro e w' ⟨rfl,rfl⟩));go_end0;exact ⟨rfl,HW1.out,Fr.of_below HB.out _⟩):p:=h
theorem m119_{p:Prop}(h:p:=by rw [if_pos hxy,if_pos (by rw [hxy])];rfl):p:=h
theorem m120_{p:Prop}(h:p:=by obtain rfl:kl=false:=HLI.out.trans hkl;have HC:=h_ hc;clear hc;go_enter func45,ntmps45;go_wp2_with (first|(refine Qc rfl 82 (.tmp 3) w.heap.size #[.string ⟨k.sec.toArray⟩,.string ⟨k.name.toArray⟩,.int .i64 kf,.bool false,.int .i64 kk,.slice wa wn wc] 82 _ rfl rfl HK1.out rfl rfl n13_ ?_)|(go_at_call 92;refine (HSR.out _).mono ?_;rintro e w' ⟨rfl,rfl⟩));refine (HC.out _ HW1.out HKV1.out).mono ?_;exact m121_):p:=h
theorem m121_{p:Prop}(h:p:=by rintro e w5 ⟨rfl,hw5,hf5⟩;go_wp2_with fail;go_end0;exact ⟨rfl,hw5,FrB.trans (show FrB R B 53 w _ from Fr.of_below HB.out _) hf5⟩):p:=h
theorem ZnM(R B:Nat)(us fs:Array Value)(l:List Ln)(sec:Str)(oa:Option Addr)(cap:Nat)(rs:List (Int×Str))(w0 w:World)(hW:YC w0 w R B us fs l)(hM:Zi w0)(hl:l.length+rs.length<=100000000)
  (hj:us[4]?=some (.slice oa rs.length cap)) (hrow:Zw QE 2 w0 oa rs) (hv:∀r∈rs,r.2.length<=1000000000) :
  Calls prog 91 #[.pointer (some ⟨R,0,none⟩),.string ⟨sec.toArray⟩] w fun e w'=>Xb w0 w R B us fs (l++ZX sec (rs.map fun r=>(Xh r.1,r.2))) e w':=by
 have hj1:=hW.rdU hj;have HW:=h_ hW;have HM:=h_ hM;have HL:=h_ hl;have HROW:=h_ hrow;have HV:=h_ hv;clear hW hM hl hrow hv hj;unfold Xb;go_enter func91,ntmps91;go_wp2_with fail;go_loopg [12] (rs.length+1) (fun f i wr=>∃m:Nat,m<=rs.length/\i=.int .i64 m/\rs.length-m<f/\Hid (YC w0 wr R B us fs (l++ZX sec ((rs.take m).map fun r=>(Xh r.1,r.2))))/\Hid (FrB R B 53 w wr))
 case atStart=>exact ⟨0,o_,rfl,o_,by rw [List.take_zero,List.map_nil,show ZX sec []=[] from rfl,List.append_nil];exact HW,FrB.refl _ _ _ _⟩
 case round=>
  obtain ⟨m,hm,rfl,hf,HWR,HFR⟩:=hrel;by_cases hlt:m<rs.length
  ·obtain ⟨x,hx⟩:=e_ (rs[m])
   have HSN:=h_ (show l++ZX sec ((rs.take (m+1)).map fun r=>(Xh r.1,r.2))=(l++ZX sec ((rs.take m).map fun r=>(Xh r.1,r.2)))++[Zah sec (Xh x.1) x.2] by
    rw [List.take_succ_eq_append_getElem hlt,List.map_append,<-hx];simp [ZX])
   have HVX:=h_ (HV.out x (by rw [hx];exact List.getElem_mem hlt));have HLM:=h_ (show (l++ZX sec ((rs.take m).map fun r=>(Xh r.1,r.2))).length<=100000000 by
    have:=HL.out;rw [List.length_append,ZX,List.length_map,List.length_map,List.length_take];omega)
   have hm2:(m:Int)<(rs.length:Int):=o_;have hmb:m<=100000000:=n85_;obtain ⟨b,o,e1,_,hc⟩:=(Zw.below HROW.out HWR.out.base) m hlt;rw [<-hx] at hc;have d5:=hc 0 (.int .i64 x.1) rfl;have d6:=hc 1 (.string ⟨x.2.toArray⟩) rfl;rw [Nat.add_zero] at d5;subst e1;clear hx hc;generalize l++ZX sec ((rs.take m).map fun r=>(Xh r.1,r.2))=lm at HWR HSN HLM;obtain ⟨rk,rn⟩:=x;simp only at d5 d6 HSN HVX;go_wp2_with fail;have HBE:=h_ ((Below.refl wr.heap.size wr).alloc l_ (.cells #[.int .i64 rk,.string ⟨rn.toArray⟩] 47));have HE:=h_ (heap_alloc_new wr (.cells #[.int .i64 rk,.string ⟨rn.toArray⟩] 47));generalize wr.alloc (.cells #[.int .i64 rk,.string ⟨rn.toArray⟩] 47)=we at HBE HE⊢;refine Ze (S:=fun V=>Below we.heap.size we V) 7 k_ k_ (Zc ⟨1,rfl⟩) (fun hHeld=>?_);refine u_ ?_;refine dT_ (i:=0) (v:=.pointer (some ⟨R,0,none⟩)) (gT_ rfl) (fun W hW=>by clear hW;go_simp) (u_ ?_);refine dT_ (i:=1) (v:=.string ⟨sec.toArray⟩) (gT_ rfl) (fun W hW=>by clear hW;go_simp) (u_ ?_);refine dT_ (i:=2) (v:=.pointer (some ⟨wr.heap.size,0,none⟩)) (gT_ rfl) (fun W hW=>by clear hW;go_simp) (u_ ?_);refine dT_ (i:=3) (v:=.int .i64 rk) (gT_ rfl) (fun W hW=>by have q5:=(rd (Za HE.out hW)).1 0;have q6:=(rd (Za HE.out hW)).1 1;simp at q5 q6;clear hW;go_simp) (u_ ?_);refine dT_ (i:=5) (v:=.pointer (some ⟨wr.heap.size,1,none⟩)) (gT_ rfl) (fun W hW=>by clear hW;go_simp) (u_ ?_);refine dT_ (i:=6) (v:=.string ⟨rn.toArray⟩) (gT_ rfl) (fun W hW=>by have q5:=(rd (Za HE.out hW)).1 0;have q6:=(rd (Za HE.out hW)).1 1;simp at q5 q6;clear hW;go_simp) (u_ ?_);refine Zm (i:=4) (gT_ rfl) k_ k_ (fun K hK=>?_);clear hHeld;rw [if_pos n13_];go_simp;have HB3:=h_ (show Below we.heap.size we we.drew from Zc ⟨1,rfl⟩);refine (ZjY rk we.drew).mono ?_;rintro e w4 ⟨rfl,hb4⟩;have HB4:=h_ (show Below we.heap.size we w4 from HB3.out.trans hb4);clear hb4;refine hK.out _ _ HB4.out (fun hHeld=>?_);clear hK K;refine u_ ?_;refine Zv k_ ?_;clear hHeld;go_wp2_with fail;refine (Jf R B us fs lm sec (Xh rk) rn w0 w4 (HWR.out.below (HBE.out.trans (HB4.out.mono HBE.out.size))) HM.out HLM.out HVX.out).mono ?_;rintro e w5 ⟨rfl,hw5,hf5⟩;have HW5:=h_ hw5;have HF5:=h_ (show FrB R B 53 w w5 from FrB.trans (FrB.trans HFR.out (show FrB R B 53 wr w4 from Fr.of_below (HBE.out.trans (HB4.out.mono HBE.out.size)) _)) hf5);clear hw5 hf5;go_wp2_with fail;go_roundg (rs.length-m)
   case measure=>omega
   case rel=>exact ⟨m+1,o_,n15_,o_,n59_,HF5⟩
  ·obtain rfl:m=rs.length:=o_
   rw [List.take_of_length_le l_] at HWR;have hm2:¬((rs.length:Int)<(rs.length:Int)):=o_;go_wp2_with fail;go_end0;exact ⟨rfl,HWR.out,HFR.out⟩
structure Yw(u:UV):Prop where
 str:∀j,(u j).str.length<=100000000
 num:∀j,-9223372036854775808<=(u j).num/\(u j).num<=9223372036854775807
 strs:∀j,∀s∈(u j).strs,s.length<=100000000
 nums:∀j,∀n∈(u j).nums,-9223372036854775808<=n/\n<=9223372036854775807
 rels:∀r∈(u 4).rels,r.2.length<=100000000
 cmds:∀j,∀c∈(u j).cmds,(Zaw c).length<=450000000/\∀y∈c.2,y.length<137438953472
 prs:∀p∈(u 19).prs,p.1.length+p.2.length<=100000000
 len:∀j,(u j).len<=2000000
 few:(ZeQ u).length<=2000000
theorem Zh7:(Zf.all fun k=>k.list||(if k.form==1||k.form==5 then (ZF (Zh k.name)).tag==0 else if k.form==2 then (ZF (Zh k.name)).tag==2 else (ZF (Zh k.name)).tag==1))=true:=n4_
theorem Zkj(k:ZQ)(hk:k∈Zf):Zh k.name<35:=by
 have h0:(Zf.all fun k=>decide (Zh k.name<35))=true:=n4_;exact of_decide_eq_true (List.all_eq_true.1 h0 k hk)
theorem ZpA{c:UC}(h:c.tag=0):∃x,c=.s x:=n6_
theorem ZrY{c:UC}(h:c.tag=1):∃x,c=.n x:=n6_
theorem ZsU{c:UC}(h:c.tag=2):∃x,c=.b x:=n6_
theorem ZeY(k:ZQ)(hk:k∈Zf)(n:Int)(h0 : -9223372036854775808<=n)(h1:n<=9223372036854775807):(Ji k n).length<=450000000:=by
 have hw0:(Zf.all fun k=>k.words.all fun x=>decide (x.length<=100))=true:=n4_;have hw:=List.all_eq_true.1 hw0 k hk;have hi:=Go.Lib.itoa_length_le;unfold Ji;split
 ·unfold Zcv
  split
  ·decide
  ·split
   ·decide
   ·split
    ·decide
    ·rename_i g1 g2
     have hp:∀x∈Yf (n / 86400) [100]++Yf (n % 86400 / 3600) [104]++Yf (n % 3600 / 60) [109,105,110]++Yf (n % 60) [115],x.length<=31:=by
      intro x hx;simp only [List.mem_append] at hx;rcases hx with ((hx|hx)|hx)|hx
      ·exact Qg o_ o_ d_ x hx
      ·exact Qg o_ o_ d_ x hx
      ·exact Qg o_ o_ d_ x hx
      ·exact Qg o_ o_ d_ x hx
     have hj:=Zdp 31 _ hp;have q1:=Ql (n / 86400) [100];have q2:=Ql (n % 86400 / 3600) [104];have q3:=Ql (n % 3600 / 60) [109,105,110];have q4:=Ql (n % 60) [115];simp only [List.length_append] at hj
     have:(Yf (n / 86400) [100]).length+(Yf (n % 86400 / 3600) [104]).length+(Yf (n % 3600 / 60) [109,105,110]).length+(Yf (n % 60) [115]).length<=4:=o_
     have:=Nat.mul_le_mul_right (31+1) this
     omega
 ·split
  ·split
   ·decide
   ·rw [List.getD_eq_getElem?_getD]
    cases hg:k.words[(n-1).toNat]? with
    |none=>decide
    |some x=>
     have:=List.all_eq_true.1 hw x (List.mem_of_getElem? hg)
     have:=of_decide_eq_true this
     simp only [Option.getD_some];omega
  ·have:=hi n h0 h1
   omega
theorem Zjy(R B:Nat)(us fs:Array Value)(u f:UV)(l:List Ln)(k:ZQ)(kv:ZJ)(w0 w:World)(hW:YC w0 w R B us fs l)(hM:Zi w0)(hP:Pow w0)(hK:YH w kv k)(hk:k∈Zf)(hkl:k.list=false)(hl:l.length<=100000000)
  (hu:ZI w0 us u) (hf:ZI w0 fs f) (tu:Zx u) (tf:Zx f) (sm:Yw u) :
  Calls prog 96 #[.pointer (some ⟨R,0,none⟩),.agg (Zq kv).toArray] w fun e w'=>Xb w0 w R B us fs (l++ZX k.sec ((Zbk u f k).map fun s=>(k.name,s))) e w':=by
 have hj:=Zkj k hk;obtain ⟨vx,hx,sx⟩:=Zaq hu hj;obtain ⟨vy,hy,sy⟩:=Zaq hf hj;have htag:=List.all_eq_true.1 Zh7 k hk;have hslot:=List.all_eq_true.1 ZgL k hk;have hnm:=Zc4 k hk hkl;rw [hkl,Bool.false_or] at htag hslot;have hwf:=Zb9 k hk;have ptr:∀tab v o,fnd tab k.name=v->ZgB R o tab k.name=.pointer (v.map fun j=>⟨R,o+j,none⟩):=fun tab v o h=>by rw [Zi2,h]
 have tg:=(tu (Zh k.name));have tgf:=(tf (Zh k.name));by_cases h1:k.form=1\/k.form=5
 ·have hb:(k.form==1||k.form==5)=true:=by simpa using h1
  rw [hb,if_pos rfl] at htag hslot;simp only [Bool.and_eq_true,beq_iff_eq] at htag hslot;obtain ⟨s1,s2,s3⟩:=hslot;rw [htag] at tg tgf;obtain ⟨x,ex⟩:=ZpA tg;obtain ⟨y,ey⟩:=ZpA tgf;rw [ex] at sx;rw [ey] at sy;subst sx;subst sy;have e:(Zbk u f k).map (fun s=>(k.name,s))=if x=y then [] else [(k.name,x)]:=by
   unfold Zbk;rw [ex,ey];by_cases hxy:x=y
   ·exact m119_
   ·rw [if_neg hxy,if_neg (fun h=>hxy (UC.s.inj h)),if_pos h1];rfl
  rw [e];have hsx:=sm.str (Zh k.name);rw [ex] at hsx;exact ZhJ R B (Zh k.name) us fs l k kv x y w0 w hW hM hP hK o_ hl hx hy (Nat.le_trans hsx d_)
   (fun o W=>by have:=Za8 R o W _ hnm;rw [ptr _ _ o s1] at this;exact this) (fun o W=>by have:=Za4 R o W _ hnm;rw [ptr _ _ o s2] at this;exact this) (fun o W=>by have:=JO R o W _ hnm;rw [ptr _ _ o s3] at this;exact this)
 ·have hb:(k.form==1||k.form==5)=false:=by simpa using h1
  rw [hb,if_neg d_] at htag hslot;by_cases h2:k.form=2
  ·have hb2:(k.form==2)=true:=n91_
   rw [hb2,if_pos rfl] at htag hslot;simp only [Bool.and_eq_true,beq_iff_eq] at htag hslot;obtain ⟨s1,s2,s3⟩:=hslot;rw [htag] at tg tgf;obtain ⟨x,ex⟩:=ZsU tg;obtain ⟨y,ey⟩:=ZsU tgf;rw [ex] at sx;rw [ey] at sy;subst sx;subst sy;have e:(Zbk u f k).map (fun s=>(k.name,s))=if x=y then [] else [(k.name,Zfo x)]:=by
    unfold Zbk;rw [ex,ey];by_cases hxy:x=y
    ·exact m119_
    ·rw [if_neg hxy,if_neg (fun h=>hxy (UC.b.inj h)),if_neg h1,if_pos h2];rfl
   rw [e];exact Zin R B (Zh k.name) us fs l k kv x y w0 w hW hM hP hK o_ hl hx hy (by cases x<;>decide)
    (fun o W=>by have:=Za8 R o W _ hnm;rw [ptr _ _ o s1] at this;exact this) (fun o W=>by have:=Za4 R o W _ hnm;rw [ptr _ _ o s2] at this;exact this) (fun o W=>by have:=JO R o W _ hnm;rw [ptr _ _ o s3] at this;exact this)
  ·have hb2:(k.form==2)=false:=n91_
   rw [hb2,if_neg d_] at htag hslot;simp only [Bool.and_eq_true,beq_iff_eq] at htag hslot;obtain ⟨s1,s2,s3⟩:=hslot;rw [htag] at tg tgf;obtain ⟨x,ex⟩:=ZrY tg;obtain ⟨y,ey⟩:=ZrY tgf;rw [ex] at sx;rw [ey] at sy;subst sx;subst sy;have e:(Zbk u f k).map (fun s=>(k.name,s))=if x=y then [] else [(k.name,Ji k x)]:=by
    unfold Zbk;rw [ex,ey];by_cases hxy:x=y
    ·exact m119_
    ·rw [if_neg hxy,if_neg (fun h=>hxy (UC.n.inj h)),if_neg h1,if_neg h2];rfl
   rw [e];have hnx:=sm.num (Zh k.name);rw [ex] at hnx;exact Zh9 R B (Zh k.name) us fs l k kv x y w0 w hW hM hP hK o_ hl hx hy (Nat.le_trans (ZeY k hk x hnx.1 hnx.2) d_) hnx
    (fun o W=>by have:=Za8 R o W _ hnm;rw [ptr _ _ o s1] at this;exact this) (fun o W=>by have:=Za4 R o W _ hnm;rw [ptr _ _ o s2] at this;exact this) (fun o W=>by have:=JO R o W _ hnm;rw [ptr _ _ o s3] at this;exact this)
theorem ZmT:(Zf.all fun k=>!k.list||(Yp k.name !=0||(k.form==8||(if k.form==7 then (ZF (Zh k.name)).tag==6 else if k.form==4||k.form==11 then (ZF (Zh k.name)).tag==4&&k.words==[] else (ZF (Zh k.name)).tag==3))))=true:=n4_
theorem Zmq:(Zf.all fun k=>(k.form==8)==(k.name==Yh))=true:=n4_
theorem ZsG{c:UC}(h:c.tag=3):∃x,c=.ss x:=n6_
theorem Zsp{c:UC}(h:c.tag=4):∃x,c=.ns x:=n6_
theorem ZsQ{c:UC}(h:c.tag=5):∃x,c=.rs x:=n6_
theorem ZsB{c:UC}(h:c.tag=6):∃x,c=.cs x:=n6_
theorem ZsH{c:UC}(h:c.tag=7):∃x,c=.ps x:=n6_
theorem ZoM(R B:Nat)(us fs:Array Value)(u:UV)(l:List Ln)(k:ZQ)(kv:ZJ)(w0 w:World)(hW:YC w0 w R B us fs l)(hM:Zi w0)(hP:Pow w0)(hK:YH w kv k)(hk:k∈Zf)(hkl:k.list=true)(hr:Yp k.name=0)(he:k.name≠Yh)(hl:l.length<=90000000)
  (hu:ZI w0 us u) (tu:Zx u) (sm:Yw u) :
  Calls prog 95 #[.pointer (some ⟨R,0,none⟩),.agg (Zq kv).toArray] w fun e w'=>Xb w0 w R B us fs (l++ZX k.sec ((Zbl u k).map fun s=>(k.name,s))) e w':=by
 have hj:=Zkj k hk;obtain ⟨vx,hx,sx⟩:=Zaq hu hj;have htag:=List.all_eq_true.1 ZmT k hk;have hslot:=List.all_eq_true.1 Zkf k hk;have hnm:=ZfJ k hk hkl hr he;have h8:(k.form==8)=false:=by
  have h:=eq_of_beq (List.all_eq_true.1 Zmq k hk);rw [h];exact beq_false_of_ne he
 have hr0:(Yp k.name !=0)=false:=by simp [hr]
 rw [hkl,hr0,h8] at htag hslot;simp only [Bool.not_true,Bool.false_or] at htag hslot;have hwf:=Zb9 k hk;have ptr:∀tab v,fnd tab k.name=v->ZgB R 0 tab k.name=.pointer (v.map fun j=>⟨R,j,none⟩):=fun tab v h=>by rw [Zi2,h];simp
 have tg:=(tu (Zh k.name));have hln:=sm.len (Zh k.name);by_cases h7:k.form=7
 ·have hb:(k.form==7)=true:=by simpa using h7
  rw [hb,if_pos rfl] at htag hslot;simp only [Bool.and_eq_true,beq_iff_eq] at htag hslot;obtain ⟨s1,s2,s3⟩:=hslot;rw [htag] at tg;obtain ⟨xs,ex⟩:=ZsB tg;rw [ex] at sx hln;obtain ⟨oa,cap,cr,rfl,hrow,_⟩:=sx;have e:(Zbl u k).map (fun s=>(k.name,s))=xs.map fun x=>(k.name,Zaw x):=by
   unfold Zbl;rw [if_pos h7,ex,List.map_map];rfl
  rw [e];have hc:=sm.cmds (Zh k.name);rw [ex] at hc;have hlen:xs.length<=2000000:=hln;exact ZlR R B (Zh k.name) us fs l k kv oa cap cr xs w0 w hW hM hP hK o_ o_ hx hrow (fun x h=>Nat.le_trans (hc x h).1 d_) (fun x h=>(hc x h).2)
   (fun W=>by have:=Jh R 0 W _ hnm;rw [ptr _ _ s1] at this;exact this) (fun W=>by have:=Zau R 0 W _ hnm;rw [ptr _ _ s2] at this;exact this) (fun W=>by have:=Zak R 0 W _ hnm;rw [ptr _ _ s3] at this;exact this)
 ·have hb:(k.form==7)=false:=by simpa using h7
  rw [hb,if_neg d_] at htag hslot;by_cases h4:k.form=4\/k.form=11
  ·have hb2:(k.form==4||k.form==11)=true:=by simpa using h4
   rw [hb2,if_pos rfl] at htag hslot;simp only [Bool.and_eq_true,beq_iff_eq] at htag hslot;obtain ⟨s1,s2,s3⟩:=hslot;obtain ⟨htag,hw0⟩:=htag;rw [htag] at tg;obtain ⟨xs,ex⟩:=Zsp tg;rw [ex] at sx hln;obtain ⟨oa,cap,rfl,hrow,_⟩:=sx;have e:(Zbl u k).map (fun s=>(k.name,s))=xs.map fun x=>(k.name,Ji k x):=by
    unfold Zbl;rw [if_neg h7,if_pos h4,ex,List.map_map];rfl
   rw [e];have hc:=sm.nums (Zh k.name);rw [ex] at hc;have hlen:xs.length<=2000000:=hln;exact ZlU R B (Zh k.name) us fs l k kv oa cap xs w0 w hW hM hP hK o_ o_ hx hrow (fun x h=>Nat.le_trans (ZeY k hk x (hc x h).1 (hc x h).2) d_) hw0 hc
    (fun W=>by have:=Jh R 0 W _ hnm;rw [ptr _ _ s1] at this;exact this) (fun W=>by have:=Zau R 0 W _ hnm;rw [ptr _ _ s2] at this;exact this) (fun W=>by have:=Zak R 0 W _ hnm;rw [ptr _ _ s3] at this;exact this)
  ·have hb2:(k.form==4||k.form==11)=false:=by simpa using h4
   rw [hb2,if_neg d_] at htag hslot;simp only [Bool.and_eq_true,beq_iff_eq] at htag hslot;obtain ⟨s1,s2,s3⟩:=hslot;rw [htag] at tg;obtain ⟨xs,ex⟩:=ZsG tg;rw [ex] at sx hln;obtain ⟨oa,cap,rfl,hrow,_⟩:=sx;have e:(Zbl u k).map (fun s=>(k.name,s))=xs.map fun x=>(k.name,x):=by
    unfold Zbl;rw [if_neg h7,if_neg h4,ex];rfl
   rw [e];have hc:=sm.strs (Zh k.name);rw [ex] at hc;have hlen:xs.length<=2000000:=hln;exact ZmK R B (Zh k.name) us fs l k kv oa cap xs w0 w hW hM hP hK o_ o_ hx hrow (fun x h=>Nat.le_trans (hc x h) d_)
    (fun W=>by have:=Jh R 0 W _ hnm;rw [ptr _ _ s1] at this;exact this) (fun W=>by have:=Zau R 0 W _ hnm;rw [ptr _ _ s2] at this;exact this) (fun W=>by have:=Zak R 0 W _ hnm;rw [ptr _ _ s3] at this;exact this)
theorem ZkA(R B:Nat)(us fs:Array Value)(l:List Ln)(k:ZQ)(kv:ZJ)(w0 w:World)(hW:YC w0 w R B us fs l)(hK:YH w kv k)(e1:(k.name==[82,101,113,117,105,114,101,115])=true)(m:List Ln)(hc:∀W,YC w0 W R B us fs l->Calls prog 91 #[.pointer (some ⟨R,0,none⟩),.string ⟨k.sec.toArray⟩] W fun e w'=>Xb w0 W R B us fs m e w') :
  Calls prog 45 #[.pointer (some ⟨R,0,none⟩),.agg (Zq kv).toArray] w fun e w'=>Xb w0 w R B us fs (m) e w':=by
 have hsec:=hK.sec;have hname:=hK.name;have HKV:=h_ hK;obtain ⟨ks,kn,kf,kl,kk,wa,wn,wc⟩:=kv;have hlist:=hK.list;simp only at hsec hname hlist;subst hsec;subst hname;have hlt:R<w.heap.size:=n8_;have hB:=(Below.refl w.heap.size w).alloc l_ (.cells #[.string ⟨k.sec.toArray⟩,.string ⟨k.name.toArray⟩,.int .i64 kf,.bool kl,.int .i64 kk,.slice wa wn wc] 82);have HB:=h_ hB;have HW1:=h_ (hW.below hB);have HK1:=h_ (heap_alloc_new w (.cells #[.string ⟨k.sec.toArray⟩,.string ⟨k.name.toArray⟩,.int .i64 kf,.bool kl,.int .i64 kk,.slice wa wn wc] 82));have HKV1:=h_ (hK.below hB);have HNR:=h_ (show w.heap.size≠R by omega);have HLI:=h_ hlist;clear hlist;unfold Zq Xb;simp only;clear hB hW hK;have HC:=h_ hc;clear hc;go_enter func45,ntmps45;go_wp2_with fail;refine (HC.out _ HW1.out).mono ?_;exact m121_
theorem ZjN(R B:Nat)(us fs:Array Value)(l:List Ln)(k:ZQ)(kv:ZJ)(w0 w:World)(hW:YC w0 w R B us fs l)(hK:YH w kv k)(e1:(k.name==[82,101,113,117,105,114,101,115])=false)(hsr:∀W,Calls prog 92 #[.string ⟨k.name.toArray⟩] W fun e w'=>e=.returned (.int .i64 (Yp k.name:Nat))/\w'=W)(er:(((Yp k.name:Nat):Int)!=0)=true) :
  Calls prog 45 #[.pointer (some ⟨R,0,none⟩),.agg (Zq kv).toArray] w fun e w'=>Xb w0 w R B us fs (l) e w':=by
 have hsec:=hK.sec;have hname:=hK.name;have HKV:=h_ hK;obtain ⟨ks,kn,kf,kl,kk,wa,wn,wc⟩:=kv;have hlist:=hK.list;simp only at hsec hname hlist;subst hsec;subst hname;have hlt:R<w.heap.size:=n8_;have hB:=(Below.refl w.heap.size w).alloc l_ (.cells #[.string ⟨k.sec.toArray⟩,.string ⟨k.name.toArray⟩,.int .i64 kf,.bool kl,.int .i64 kk,.slice wa wn wc] 82);have HB:=h_ hB;have HW1:=h_ (hW.below hB);have HK1:=h_ (heap_alloc_new w (.cells #[.string ⟨k.sec.toArray⟩,.string ⟨k.name.toArray⟩,.int .i64 kf,.bool kl,.int .i64 kk,.slice wa wn wc] 82));have HKV1:=h_ (hK.below hB);have HNR:=h_ (show w.heap.size≠R by omega);have HLI:=h_ hlist;clear hlist;unfold Zq Xb;simp only;clear hB hW hK;have HSR:=h_ hsr;clear hsr;generalize ((Yp k.name:Nat):Int)=rv at HSR er;exact m118_
theorem Zjz(R B:Nat)(us fs:Array Value)(l:List Ln)(k:ZQ)(kv:ZJ)(w0 w:World)(hW:YC w0 w R B us fs l)(hK:YH w kv k)(e1:(k.name==[82,101,113,117,105,114,101,115])=false)(hsr:∀W,Calls prog 92 #[.string ⟨k.name.toArray⟩] W fun e w'=>e=.returned (.int .i64 (Yp k.name:Nat))/\w'=W)(er:(((Yp k.name:Nat):Int)!=0)=false)(e2:(k.name==[69,110,118,105,114,111,110,109,101,110,116])=false)(kd:Int)(hkd:us[1]?=some (.int .i64 kd))(e3:(k.name==[83,101,114,118,105,99,101])=true)(k3:(kd==3)=true) :
  Calls prog 45 #[.pointer (some ⟨R,0,none⟩),.agg (Zq kv).toArray] w fun e w'=>Xb w0 w R B us fs (l) e w':=by
 have hsec:=hK.sec;have hname:=hK.name;have HKV:=h_ hK;obtain ⟨ks,kn,kf,kl,kk,wa,wn,wc⟩:=kv;have hlist:=hK.list;simp only at hsec hname hlist;subst hsec;subst hname;have hlt:R<w.heap.size:=n8_;have hB:=(Below.refl w.heap.size w).alloc l_ (.cells #[.string ⟨k.sec.toArray⟩,.string ⟨k.name.toArray⟩,.int .i64 kf,.bool kl,.int .i64 kk,.slice wa wn wc] 82);have HB:=h_ hB;have HW1:=h_ (hW.below hB);have HK1:=h_ (heap_alloc_new w (.cells #[.string ⟨k.sec.toArray⟩,.string ⟨k.name.toArray⟩,.int .i64 kf,.bool kl,.int .i64 kk,.slice wa wn wc] 82));have HKV1:=h_ (hK.below hB);have HNR:=h_ (show w.heap.size≠R by omega);have HLI:=h_ hlist;clear hlist;unfold Zq Xb;simp only;clear hB hW hK;have HSR:=h_ hsr;clear hsr;generalize ((Yp k.name:Nat):Int)=rv at HSR er;have c1:=HW1.out.rdU hkd;clear hkd;exact m118_
theorem ZkC(R B:Nat)(us fs:Array Value)(l:List Ln)(k:ZQ)(kv:ZJ)(w0 w:World)(hW:YC w0 w R B us fs l)(hK:YH w kv k)(e1:(k.name==[82,101,113,117,105,114,101,115])=false)(hsr:∀W,Calls prog 92 #[.string ⟨k.name.toArray⟩] W fun e w'=>e=.returned (.int .i64 (Yp k.name:Nat))/\w'=W)(er:(((Yp k.name:Nat):Int)!=0)=false)(e2:(k.name==[69,110,118,105,114,111,110,109,101,110,116])=false)(kd:Int)(hkd:us[1]?=some (.int .i64 kd))(e3:(k.name==[83,101,114,118,105,99,101])=false)(e4:(k.name==[85,110,105,116])=true)(k3:(kd==3)=false) :
  Calls prog 45 #[.pointer (some ⟨R,0,none⟩),.agg (Zq kv).toArray] w fun e w'=>Xb w0 w R B us fs (l) e w':=by
 have hsec:=hK.sec;have hname:=hK.name;have HKV:=h_ hK;obtain ⟨ks,kn,kf,kl,kk,wa,wn,wc⟩:=kv;have hlist:=hK.list;simp only at hsec hname hlist;subst hsec;subst hname;have hlt:R<w.heap.size:=n8_;have hB:=(Below.refl w.heap.size w).alloc l_ (.cells #[.string ⟨k.sec.toArray⟩,.string ⟨k.name.toArray⟩,.int .i64 kf,.bool kl,.int .i64 kk,.slice wa wn wc] 82);have HB:=h_ hB;have HW1:=h_ (hW.below hB);have HK1:=h_ (heap_alloc_new w (.cells #[.string ⟨k.sec.toArray⟩,.string ⟨k.name.toArray⟩,.int .i64 kf,.bool kl,.int .i64 kk,.slice wa wn wc] 82));have HKV1:=h_ (hK.below hB);have HNR:=h_ (show w.heap.size≠R by omega);have HLI:=h_ hlist;clear hlist;unfold Zq Xb;simp only;clear hB hW hK;have HSR:=h_ hsr;clear hsr;generalize ((Yp k.name:Nat):Int)=rv at HSR er;have c1:=HW1.out.rdU hkd;clear hkd;have k4:(kd !=3)=true:=by rw [bne,k3];rfl
 exact m118_
theorem ZmB(R B:Nat)(us fs:Array Value)(l:List Ln)(k:ZQ)(kv:ZJ)(w0 w:World)(hW:YC w0 w R B us fs l)(hK:YH w kv k)(e1:(k.name==[82,101,113,117,105,114,101,115])=false)(hsr:∀W,Calls prog 92 #[.string ⟨k.name.toArray⟩] W fun e w'=>e=.returned (.int .i64 (Yp k.name:Nat))/\w'=W)(er:(((Yp k.name:Nat):Int)!=0)=false)(e2:(k.name==[69,110,118,105,114,111,110,109,101,110,116])=false)(kd:Int)(hkd:us[1]?=some (.int .i64 kd))(e3:(k.name==[83,101,114,118,105,99,101])=false)(e4:(k.name==[85,110,105,116])=false)(hkl:k.list=true)(m:List Ln)(hc:∀W,YC w0 W R B us fs l->YH W kv k->Calls prog 95 #[.pointer (some ⟨R,0,none⟩),.agg (Zq kv).toArray] W fun e w'=>Xb w0 W R B us fs m e w') :
  Calls prog 45 #[.pointer (some ⟨R,0,none⟩),.agg (Zq kv).toArray] w fun e w'=>Xb w0 w R B us fs (m) e w':=by
 have hsec:=hK.sec;have hname:=hK.name;have HKV:=h_ hK;obtain ⟨ks,kn,kf,kl,kk,wa,wn,wc⟩:=kv;have hlist:=hK.list;simp only at hsec hname hlist;subst hsec;subst hname;have hlt:R<w.heap.size:=n8_;have hB:=(Below.refl w.heap.size w).alloc l_ (.cells #[.string ⟨k.sec.toArray⟩,.string ⟨k.name.toArray⟩,.int .i64 kf,.bool kl,.int .i64 kk,.slice wa wn wc] 82);have HB:=h_ hB;have HW1:=h_ (hW.below hB);have HK1:=h_ (heap_alloc_new w (.cells #[.string ⟨k.sec.toArray⟩,.string ⟨k.name.toArray⟩,.int .i64 kf,.bool kl,.int .i64 kk,.slice wa wn wc] 82));have HKV1:=h_ (hK.below hB);have HNR:=h_ (show w.heap.size≠R by omega);have HLI:=h_ hlist;clear hlist;unfold Zq Xb;simp only;clear hB hW hK;have HSR:=h_ hsr;clear hsr;generalize ((Yp k.name:Nat):Int)=rv at HSR er;have c1:=HW1.out.rdU hkd;clear hkd;obtain rfl:kl=true:=HLI.out.trans hkl;have HC:=h_ hc;clear hc;go_enter func45,ntmps45;go_wp2_with (first|(refine Qc rfl 82 (.tmp 3) w.heap.size #[.string ⟨k.sec.toArray⟩,.string ⟨k.name.toArray⟩,.int .i64 kf,.bool true,.int .i64 kk,.slice wa wn wc] 82 _ rfl rfl HK1.out rfl rfl n13_ ?_)|(go_at_call 92;refine (HSR.out _).mono ?_;rintro e w' ⟨rfl,rfl⟩));refine (HC.out _ HW1.out HKV1.out).mono ?_;exact m121_
theorem Zlf(R B:Nat)(us fs:Array Value)(l:List Ln)(k:ZQ)(kv:ZJ)(w0 w:World)(hW:YC w0 w R B us fs l)(hK:YH w kv k)(e1:(k.name==[82,101,113,117,105,114,101,115])=false)(hsr:∀W,Calls prog 92 #[.string ⟨k.name.toArray⟩] W fun e w'=>e=.returned (.int .i64 (Yp k.name:Nat))/\w'=W)(er:(((Yp k.name:Nat):Int)!=0)=false)(e2:(k.name==[69,110,118,105,114,111,110,109,101,110,116])=false)(kd:Int)(hkd:us[1]?=some (.int .i64 kd))(e3:(k.name==[83,101,114,118,105,99,101])=false)(e4:(k.name==[85,110,105,116])=false)(hkl:k.list=false)(m:List Ln)(hc:∀W,YC w0 W R B us fs l->YH W kv k->Calls prog 96 #[.pointer (some ⟨R,0,none⟩),.agg (Zq kv).toArray] W fun e w'=>Xb w0 W R B us fs m e w') :
  Calls prog 45 #[.pointer (some ⟨R,0,none⟩),.agg (Zq kv).toArray] w fun e w'=>Xb w0 w R B us fs (m) e w':=by
 exact m117_
theorem Zlh(R B:Nat)(us fs:Array Value)(l:List Ln)(k:ZQ)(kv:ZJ)(w0 w:World)(hW:YC w0 w R B us fs l)(hK:YH w kv k)(e1:(k.name==[82,101,113,117,105,114,101,115])=false)(hsr:∀W,Calls prog 92 #[.string ⟨k.name.toArray⟩] W fun e w'=>e=.returned (.int .i64 (Yp k.name:Nat))/\w'=W)(er:(((Yp k.name:Nat):Int)!=0)=false)(e2:(k.name==[69,110,118,105,114,111,110,109,101,110,116])=false)(kd:Int)(hkd:us[1]?=some (.int .i64 kd))(e3:(k.name==[83,101,114,118,105,99,101])=true)(e4:(k.name==[85,110,105,116])=false)(k3:(kd==3)=false)(hkl:k.list=false)(m:List Ln)(hc:∀W,YC w0 W R B us fs l->YH W kv k->Calls prog 96 #[.pointer (some ⟨R,0,none⟩),.agg (Zq kv).toArray] W fun e w'=>Xb w0 W R B us fs m e w') :
  Calls prog 45 #[.pointer (some ⟨R,0,none⟩),.agg (Zq kv).toArray] w fun e w'=>Xb w0 w R B us fs (m) e w':=by
 exact m117_
theorem Zk5(R B:Nat)(us fs:Array Value)(l:List Ln)(k:ZQ)(kv:ZJ)(w0 w:World)(hW:YC w0 w R B us fs l)(hK:YH w kv k)(e1:(k.name==[82,101,113,117,105,114,101,115])=false)(hsr:∀W,Calls prog 92 #[.string ⟨k.name.toArray⟩] W fun e w'=>e=.returned (.int .i64 (Yp k.name:Nat))/\w'=W)(er:(((Yp k.name:Nat):Int)!=0)=false)(e2:(k.name==[69,110,118,105,114,111,110,109,101,110,116])=false)(kd:Int)(hkd:us[1]?=some (.int .i64 kd))(e3:(k.name==[83,101,114,118,105,99,101])=false)(e4:(k.name==[85,110,105,116])=true)(k3:(kd==3)=true)(hkl:k.list=false)(m:List Ln)(hc:∀W,YC w0 W R B us fs l->YH W kv k->Calls prog 96 #[.pointer (some ⟨R,0,none⟩),.agg (Zq kv).toArray] W fun e w'=>Xb w0 W R B us fs m e w') :
  Calls prog 45 #[.pointer (some ⟨R,0,none⟩),.agg (Zq kv).toArray] w fun e w'=>Xb w0 w R B us fs (m) e w':=by
 have hsec:=hK.sec;have hname:=hK.name;have HKV:=h_ hK;obtain ⟨ks,kn,kf,kl,kk,wa,wn,wc⟩:=kv;have hlist:=hK.list;simp only at hsec hname hlist;subst hsec;subst hname;have hlt:R<w.heap.size:=n8_;have hB:=(Below.refl w.heap.size w).alloc l_ (.cells #[.string ⟨k.sec.toArray⟩,.string ⟨k.name.toArray⟩,.int .i64 kf,.bool kl,.int .i64 kk,.slice wa wn wc] 82);have HB:=h_ hB;have HW1:=h_ (hW.below hB);have HK1:=h_ (heap_alloc_new w (.cells #[.string ⟨k.sec.toArray⟩,.string ⟨k.name.toArray⟩,.int .i64 kf,.bool kl,.int .i64 kk,.slice wa wn wc] 82));have HKV1:=h_ (hK.below hB);have HNR:=h_ (show w.heap.size≠R by omega);have HLI:=h_ hlist;clear hlist;unfold Zq Xb;simp only;clear hB hW hK;have HSR:=h_ hsr;clear hsr;generalize ((Yp k.name:Nat):Int)=rv at HSR er;have c1:=HW1.out.rdU hkd;clear hkd;have k4:(kd !=3)=false:=by rw [bne,k3];rfl
 exact m120_
theorem ZqX(a b:Str):(⟨a.toArray⟩:ByteArray)++(⟨#[61]⟩:ByteArray)=⟨(a++[61]).toArray⟩/\(⟨(a++[61]).toArray⟩:ByteArray)++(⟨b.toArray⟩:ByteArray)=⟨(a++61::b).toArray⟩:=by
 constructor
 ·apply YZ
  rw [Joins.data_append]
 ·apply YZ
  rw [Joins.data_append];simp
theorem Zj2(p:Str×Str)(h:p.1.length+p.2.length<=100000000):(pairT p).length<=450000000:=by
 have hw:=ZdY (p.1++61::p.2);rw [List.length_append,List.length_cons] at hw;unfold pairT join;split
 ·exact Nat.zero_le _
 ·split
  ·exact Nat.zero_le _
  ·show (Y6 _).length<=_
   omega
theorem ZkK(R B:Nat)(us fs:Array Value)(l:List Ln)(k:ZQ)(kv:ZJ)(w0 w:World)(hW:YC w0 w R B us fs l)(hK:YH w kv k)(e1:(k.name==[82,101,113,117,105,114,101,115])=false)(hsr:∀W,Calls prog 92 #[.string ⟨k.name.toArray⟩] W fun e w'=>e=.returned (.int .i64 (Yp k.name:Nat))/\w'=W)(er:(((Yp k.name:Nat):Int)!=0)=false)(e2:(k.name==[69,110,118,105,114,111,110,109,101,110,116])=true)(hM:Zi w0)(oa:Option Addr)(cap:Nat)(ps:List (Str×Str))(h19:us[19]?=some (.slice oa ps.length cap))(hrow:Zw Xx 2 w0 oa ps)(hl:l.length+ps.length<=100000000)(hv:∀p∈ps,p.1.length+p.2.length<=100000000) :
  Calls prog 45 #[.pointer (some ⟨R,0,none⟩),.agg (Zq kv).toArray] w fun e w'=>Xb w0 w R B us fs (l++ZX k.sec (ps.map fun p=>(k.name,pairT p))) e w':=by
 have hsec:=hK.sec;have hname:=hK.name;have HKV:=h_ hK;obtain ⟨ks,kn,kf,kl,kk,wa,wn,wc⟩:=kv;have hlist:=hK.list;simp only at hsec hname hlist;subst hsec;subst hname;have hlt:R<w.heap.size:=n8_;have hB:=(Below.refl w.heap.size w).alloc l_ (.cells #[.string ⟨k.sec.toArray⟩,.string ⟨k.name.toArray⟩,.int .i64 kf,.bool kl,.int .i64 kk,.slice wa wn wc] 82);have HB:=h_ hB;have HW1:=h_ (hW.below hB);have HK1:=h_ (heap_alloc_new w (.cells #[.string ⟨k.sec.toArray⟩,.string ⟨k.name.toArray⟩,.int .i64 kf,.bool kl,.int .i64 kk,.slice wa wn wc] 82));have HKV1:=h_ (hK.below hB);have HNR:=h_ (show w.heap.size≠R by omega);have HLI:=h_ hlist;clear hlist;unfold Zq Xb;simp only;clear hB hW hK;have HSR:=h_ hsr;clear hsr;generalize ((Yp k.name:Nat):Int)=rv at HSR er;have c1:=HW1.out.rdU h19;have HM:=h_ hM;have HROW:=h_ hrow;have HL:=h_ hl;have HV:=h_ hv;clear h19 hM hrow hl hv;go_enter func45,ntmps45;go_wp2_with (first|(go_at_call 92;refine (HSR.out _).mono ?_;rintro e w' ⟨rfl,rfl⟩));go_loopg [32] (ps.length+1) (fun f i wr=>∃m:Nat,m<=ps.length/\i=.int .i64 m/\ps.length-m<f/\Hid (YC w0 wr R B us fs (l++ZX k.sec ((ps.take m).map fun p=>(k.name,pairT p))))/\Hid (FrB R B 53 w wr)/\Hid (wr.heap[w.heap.size]?=some (.cells #[.string ⟨k.sec.toArray⟩,.string ⟨k.name.toArray⟩,.int .i64 kf,.bool kl,.int .i64 kk,.slice wa wn wc] 82 (0,0))))
 case atStart=>exact ⟨0,o_,rfl,o_,by rw [List.take_zero,List.map_nil,show ZX k.sec []=[] from rfl,List.append_nil];exact HW1,Fr.of_below HB.out _,HK1⟩
 case round=>
  obtain ⟨m,hm,rfl,hf,HWR,HFR,HKR⟩:=hrel;have HRW:=h_ (fun (W:World) (h:Below wr.heap.size wr W)=>show W.cell? ⟨w.heap.size,0,none⟩=some (.string ⟨k.sec.toArray⟩)/\W.cell? ⟨w.heap.size,1,none⟩=some (.string ⟨k.name.toArray⟩) from ⟨(rd (Za HKR.out h)).1 0,(rd (Za HKR.out h)).1 1⟩);by_cases hlt2:m<ps.length
  ·obtain ⟨x,hx⟩:=e_ (ps[m])
   have HSN:=h_ (show l++ZX k.sec ((ps.take (m+1)).map fun p=>(k.name,pairT p))=(l++ZX k.sec ((ps.take m).map fun p=>(k.name,pairT p)))++[Zah k.sec k.name (pairT x)] by
    rw [List.take_succ_eq_append_getElem hlt2,List.map_append,<-hx];simp [ZX])
   have HVX:=h_ (HV.out x n25_);have HLM:=h_ (show (l++ZX k.sec ((ps.take m).map fun p=>(k.name,pairT p))).length<=100000000 by
    have:=HL.out;rw [List.length_append,ZX,List.length_map,List.length_map,List.length_take];omega)
   have hm2:(m:Int)<(ps.length:Int):=o_;have hmb:m<=100000000:=n85_;obtain ⟨b,o,e9,_,hc⟩:=(Zw.below HROW.out HWR.out.base) m hlt2;rw [<-hx] at hc;have d5:=hc 0 (.string ⟨x.1.toArray⟩) rfl;have d6:=hc 1 (.string ⟨x.2.toArray⟩) rfl;rw [Nat.add_zero] at d5;subst e9;clear hx hc;generalize l++ZX k.sec ((ps.take m).map fun p=>(k.name,pairT p))=lm at HWR HSN HLM;obtain ⟨pn,pv⟩:=x;simp only at d5 d6 HSN HVX;have hvx:pn.length+pv.length<=100000000:=HVX.out;have HC2:=h_ (ZqX pn pv);have z1:(⟨pn.toArray⟩:ByteArray).size=pn.length:=n16_;have z2:(⟨pv.toArray⟩:ByteArray).size=pv.length:=n16_;go_wp2_with fail;have HBE:=h_ ((Below.refl wr.heap.size wr).alloc l_ (.cells #[.string ⟨pn.toArray⟩,.string ⟨pv.toArray⟩] 64));have HE:=h_ (heap_alloc_new wr (.cells #[.string ⟨pn.toArray⟩,.string ⟨pv.toArray⟩] 64));generalize wr.alloc (.cells #[.string ⟨pn.toArray⟩,.string ⟨pv.toArray⟩] 64)=we at HBE HE⊢;refine Ze (S:=fun V=>Below we.heap.size we V) 13 k_ k_ (Zc ⟨1,rfl⟩) (fun hHeld=>?_);refine u_ ?_;refine dT_ (i:=0) (v:=.pointer (some ⟨R,0,none⟩)) (gT_ rfl) (fun W hW=>by clear hW;go_simp) (u_ ?_);refine dT_ (i:=1) (v:=.pointer (some ⟨w.heap.size,0,none⟩)) (gT_ rfl) (fun W hW=>by clear hW;go_simp) (u_ ?_);refine dT_ (i:=2) (v:=.string ⟨k.sec.toArray⟩) (gT_ rfl) (fun W hW=>by obtain ⟨q3,q4⟩:=HRW.out W (HBE.out.trans (hW.mono HBE.out.size));clear hW;go_simp) (u_ ?_);refine dT_ (i:=3) (v:=.pointer (some ⟨w.heap.size,1,none⟩)) (gT_ rfl) (fun W hW=>by clear hW;go_simp) (u_ ?_);refine dT_ (i:=4) (v:=.string ⟨k.name.toArray⟩) (gT_ rfl) (fun W hW=>by obtain ⟨q3,q4⟩:=HRW.out W (HBE.out.trans (hW.mono HBE.out.size));clear hW;go_simp) (u_ ?_);refine dT_ (i:=5) (v:=.pointer (some ⟨wr.heap.size,0,none⟩)) (gT_ rfl) (fun W hW=>by clear hW;go_simp) (u_ ?_);refine dT_ (i:=6) (v:=.string ⟨pn.toArray⟩) (gT_ rfl) (fun W hW=>by have q5:=(rd (Za HE.out hW)).1 0;have q6:=(rd (Za HE.out hW)).1 1;simp at q5 q6;clear hW;go_simp) (u_ ?_);refine dT_ (i:=7) (v:=.string ⟨(pn++[61]).toArray⟩) (gT_ rfl) (fun W hW=>by clear hW;rw [<-HC2.out.1];go_simp;omega) (u_ ?_);refine dT_ (i:=8) (v:=.pointer (some ⟨wr.heap.size,1,none⟩)) (gT_ rfl) (fun W hW=>by clear hW;go_simp) (u_ ?_);refine dT_ (i:=9) (v:=.string ⟨pv.toArray⟩) (gT_ rfl) (fun W hW=>by have q5:=(rd (Za HE.out hW)).1 0;have q6:=(rd (Za HE.out hW)).1 1;simp at q5 q6;clear hW;go_simp) (u_ ?_);refine dT_ (i:=10) (v:=.string ⟨(pn++61::pv).toArray⟩) (gT_ rfl) (fun W hW=>by clear hW;rw [<-HC2.out.2];go_simp;omega) (u_ ?_);refine Zm (i:=11) (gT_ rfl) k_ k_ (fun K hK=>?_);clear hHeld;rw [if_pos n13_];go_simp;have HB5:=h_ (show Below we.heap.size we (we.drew.alloc (.cells #[.string ⟨(pn++61::pv).toArray⟩] 9)) from (show Below we.heap.size we we.drew from Zc ⟨1,rfl⟩).alloc l_ _);have HBL:=h_ (show Zn (we.drew.alloc (.cells #[.string ⟨(pn++61::pv).toArray⟩] 9)) (some ⟨we.drew.heap.size,0,none⟩) [pn++61::pv] from ZcL we.drew [pn++61::pv]);refine hK.out _ _ HB5.out (fun hHeld=>?_);clear hK K;refine u_ ?_;refine Zm (i:=12) (gT_ rfl) k_ k_ (fun K hK=>?_);clear hHeld;rw [if_pos n13_];go_simp;refine (Zjb (some ⟨we.drew.heap.size,0,none⟩) 1 [pn++61::pv] (we.drew.alloc (.cells #[.string ⟨(pn++61::pv).toArray⟩] 9)) HBL.out (by show 1<=maxLen;unfold maxLen;decide) (by intro y hy;simp at hy;subst hy;rw [List.length_append,List.length_cons];omega)).mono ?_;rintro e w7 ⟨rfl,hb7⟩;have HB7:=h_ (show Below we.heap.size we w7 from HB5.out.trans (hb7.mono HB5.out.size));clear hb7;refine hK.out _ _ HB7.out (fun hHeld=>?_);clear hK K;refine u_ ?_;refine Zv k_ ?_;clear hHeld;go_wp2_with fail;refine (Jf R B us fs lm k.sec k.name (pairT (pn,pv)) w0 w7 (HWR.out.below (HBE.out.trans (HB7.out.mono HBE.out.size))) HM.out HLM.out (Nat.le_trans (Zj2 (pn,pv) HVX.out) d_)).mono ?_;rintro e w5 ⟨rfl,hw5,hf5⟩;have HW5:=h_ hw5;have HK5:=h_ (FrB.heap hf5 (Za HKR.out (HBE.out.trans (HB7.out.mono HBE.out.size))) HNR.out d_);have HF5:=h_ (show FrB R B 53 w w5 from FrB.trans (FrB.trans HFR.out (show FrB R B 53 wr w7 from Fr.of_below (HBE.out.trans (HB7.out.mono HBE.out.size)) _)) hf5);clear hw5 hf5;go_wp2_with fail;go_roundg (ps.length-m)
   case measure=>omega
   case rel=>exact ⟨m+1,o_,n15_,o_,n59_,HF5,HK5⟩
  ·obtain rfl:m=ps.length:=o_
   rw [List.take_of_length_le l_] at HWR;have hm2:¬((ps.length:Int)<(ps.length:Int)):=o_;go_wp2_with fail;go_end0;exact ⟨rfl,HWR.out,HFR.out⟩
theorem Zpr(u f:UV)(k:ZQ)(sm:Yw u):(J2 u f k).length<=2000000:=by
 have h1:∀c:UC,c.cmds.length<=c.len/\c.nums.length<=c.len/\c.strs.length<=c.len/\c.prs.length<=c.len/\c.rels.length<=c.len:=by intro c;cases c<;>simp [UC.cmds,UC.nums,UC.strs,UC.prs,UC.rels,UC.len]
 unfold J2;split
 ·rw [List.length_map];exact Nat.le_trans (h1 _).2.2.2.2 (sm.len 4)
 ·split
  ·exact Nat.zero_le _
  ·split
   ·rw [List.length_map];exact Nat.le_trans (h1 _).2.2.2.1 (sm.len 19)
   ·split
    ·exact Nat.zero_le _
    ·rw [List.length_map]
     split
     ·unfold Zbl
      split
      ·rw [List.length_map];exact Nat.le_trans (h1 _).1 (sm.len _)
      ·split
       ·rw [List.length_map];exact Nat.le_trans (h1 _).2.1 (sm.len _)
       ·exact Nat.le_trans (h1 _).2.2.1 (sm.len _)
     ·unfold Zbk
      (repeat' split);all_goals simp
theorem ZoO:(Zf.all fun k=>!k.list||(k.name !=Yr&&k.name !=Zaj))=true:=n4_
theorem ZqP(R B:Nat)(us fs:Array Value)(u f:UV)(l:List Ln)(k:ZQ)(kv:ZJ)(w0 w:World)(hW:YC w0 w R B us fs l)(hM:Zi w0)(hP:Pow w0)(hK:YH w kv k)(hk:k∈Zf)(hl:l.length<=90000000)
  (hu:ZI w0 us u) (hf:ZI w0 fs f) (tu:Zx u) (tf:Zx f) (sm:Yw u) :
  Calls prog 45 #[.pointer (some ⟨R,0,none⟩),.agg (Zq kv).toArray] w fun e w'=>Xb w0 w R B us fs (l++ZX k.sec (J2 u f k)) e w':=by
 have hsr:=fun W=>Zjh W k hk
 unfold J2;by_cases h1:k.name=XT
 ·rw [if_pos h1]
  obtain ⟨v,hv,sv⟩:=Zaq hu (show 4<35 by decide);obtain ⟨rs,er⟩:=ZsQ (tu 4);rw [er] at sv⊢;obtain ⟨oa,cap,rfl,hrow,_⟩:=sv;have hln:=sm.len 4;have hrl:=sm.rels;rw [er] at hln hrl;have hlen:rs.length<=2000000:=hln;exact ZkA R B us fs l k kv w0 w hW hK (by rw [h1];decide) _ (fun W hW2=>ZnM R B us fs l k.sec oa cap rs w0 W hW2 hM o_ hv hrow (fun r h=>Nat.le_trans (hrl r h) d_))
 rw [if_neg h1];have e1:(k.name==[82,101,113,117,105,114,101,115])=false:=beq_false_of_ne h1;by_cases h2:Yp k.name≠0
 ·rw [if_pos h2]
  have e0:l++ZX k.sec []=l:=List.append_nil l;rw [e0];exact ZjN R B us fs l k kv w0 w hW hK e1 hsr (by rw [bne_iff_ne];omega)
 rw [if_neg h2];have er:(((Yp k.name:Nat):Int)!=0)=false:=by
  have:Yp k.name=0:=n91_
  rw [this];rfl
 by_cases h3:k.name=Yh
 ·rw [if_pos h3]
  obtain ⟨v,hv,sv⟩:=Zaq hu (show 19<35 by decide);obtain ⟨ps,ep⟩:=ZsH (tu 19);rw [ep] at sv⊢;obtain ⟨oa,cap,rfl,hrow,_⟩:=sv;have hln:=sm.len 19;have hpl:=sm.prs;rw [ep] at hln hpl;have hlen:ps.length<=2000000:=hln;exact ZkK R B us fs l k kv w0 w hW hK e1 hsr er (by rw [h3];decide) hM oa cap ps hv hrow o_ hpl
 rw [if_neg h3];have e2:(k.name==[69,110,118,105,114,111,110,109,101,110,116])=false:=beq_false_of_ne h3;obtain ⟨v,hv,sv⟩:=Zaq hu (show 1<35 by decide);obtain ⟨kd,ek⟩:=ZrY (tu 1);rw [ek] at sv⊢;obtain rfl:v=.int .i64 kd:=sv;have ekd:(UC.n kd).num=kd:=rfl;rw [ekd];by_cases h4:k.name=Yr/\kd=3
 ·rw [if_pos (.inl h4)]
  have e0:l++ZX k.sec []=l:=List.append_nil l;rw [e0];exact Zjz R B us fs l k kv w0 w hW hK e1 hsr er e2 kd hv (by rw [h4.1];decide) (by rw [h4.2];rfl)
 by_cases h5:k.name=Zaj/\kd≠3
 ·rw [if_pos (.inr h5)]
  have e0:l++ZX k.sec []=l:=List.append_nil l;rw [e0];exact ZkC R B us fs l k kv w0 w hW hK e1 hsr er e2 kd hv (by rw [h5.1];decide) (by rw [h5.1];decide) (beq_false_of_ne h5.2)
 rw [if_neg (fun h=>h.elim h4 h5)];have hr0:Yp k.name=0:=n91_;cases hkl:k.list with
 |true=>
  rw [if_pos rfl];have hn:=List.all_eq_true.1 ZoO k hk;rw [hkl] at hn;simp only [Bool.not_true,Bool.false_or,Bool.and_eq_true,bne_iff_ne] at hn;exact ZmB R B us fs l k kv w0 w hW hK e1 hsr er e2 kd hv (beq_false_of_ne hn.1) (beq_false_of_ne hn.2) hkl _ (fun W hW2 hK2=>ZoM R B us fs u l k kv w0 W hW2 hM hP hK2 hk hkl hr0 h3 hl hu tu sm)
 |false=>
  rw [if_neg d_];have hc:=fun W hW2 hK2=>Zjy R B us fs u f l k kv w0 W hW2 hM hP hK2 hk hkl o_ hu hf tu tf sm
  by_cases hs:k.name=Yr
  ·exact Zlh R B us fs l k kv w0 w hW hK e1 hsr er e2 kd hv (by rw [hs];decide) (by rw [hs];decide) (beq_false_of_ne fun h=>h4 ⟨hs,h⟩) hkl _ hc
  ·by_cases hun:k.name=Zaj
   ·have hk3:kd=3:=by
     cases hd:decide (kd=3) with
     |true=>exact of_decide_eq_true hd
     |false=>exact absurd ⟨hun,of_decide_eq_false hd⟩ h5
    exact Zk5 R B us fs l k kv w0 w hW hK e1 hsr er e2 kd hv (by rw [hun];decide) (by rw [hun];decide) (by rw [hk3];rfl) hkl _ hc
   ·exact Zlf R B us fs l k kv w0 w hW hK e1 hsr er e2 kd hv (beq_false_of_ne hs) (beq_false_of_ne hun) hkl _ hc
theorem ZG{α:Type}{l:List α}{n:Nat}(h:l.length=n+1):∃x t,l=x::t/\t.length=n:=by
 cases l with
 |nil=>cases h
 |cons x t=>exact ⟨x,t,rfl,n42_⟩
theorem ZrQ(cs:Array Value)(h:cs.size=35):∃x0 x1 x2 x3 x4 x5 x6 x7 x8 x9 x10 x11 x12 x13 x14 x15 x16 x17 x18 x19 x20 x21 x22 x23 x24 x25 x26 x27 x28 x29 x30 x31 x32 x33 x34,cs=#[x0,x1,x2,x3,x4,x5,x6,x7,x8,x9,x10,x11,x12,x13,x14,x15,x16,x17,x18,x19,x20,x21,x22,x23,x24,x25,x26,x27,x28,x29,x30,x31,x32,x33,x34]:=by
 obtain ⟨l⟩:=cs;have h:l.length=35:=h;obtain ⟨x0,t0,rfl,h0⟩:=ZG h;obtain ⟨x1,t1,rfl,h1⟩:=ZG h0;obtain ⟨x2,t2,rfl,h2⟩:=ZG h1;obtain ⟨x3,t3,rfl,h3⟩:=ZG h2;obtain ⟨x4,t4,rfl,h4⟩:=ZG h3;obtain ⟨x5,t5,rfl,h5⟩:=ZG h4;obtain ⟨x6,t6,rfl,h6⟩:=ZG h5;obtain ⟨x7,t7,rfl,h7⟩:=ZG h6;obtain ⟨x8,t8,rfl,h8⟩:=ZG h7;obtain ⟨x9,t9,rfl,h9⟩:=ZG h8;obtain ⟨x10,t10,rfl,h10⟩:=ZG h9;obtain ⟨x11,t11,rfl,h11⟩:=ZG h10;obtain ⟨x12,t12,rfl,h12⟩:=ZG h11;obtain ⟨x13,t13,rfl,h13⟩:=ZG h12;obtain ⟨x14,t14,rfl,h14⟩:=ZG h13;obtain ⟨x15,t15,rfl,h15⟩:=ZG h14;obtain ⟨x16,t16,rfl,h16⟩:=ZG h15;obtain ⟨x17,t17,rfl,h17⟩:=ZG h16;obtain ⟨x18,t18,rfl,h18⟩:=ZG h17;obtain ⟨x19,t19,rfl,h19⟩:=ZG h18;obtain ⟨x20,t20,rfl,h20⟩:=ZG h19;obtain ⟨x21,t21,rfl,h21⟩:=ZG h20;obtain ⟨x22,t22,rfl,h22⟩:=ZG h21;obtain ⟨x23,t23,rfl,h23⟩:=ZG h22;obtain ⟨x24,t24,rfl,h24⟩:=ZG h23;obtain ⟨x25,t25,rfl,h25⟩:=ZG h24;obtain ⟨x26,t26,rfl,h26⟩:=ZG h25;obtain ⟨x27,t27,rfl,h27⟩:=ZG h26;obtain ⟨x28,t28,rfl,h28⟩:=ZG h27;obtain ⟨x29,t29,rfl,h29⟩:=ZG h28;obtain ⟨x30,t30,rfl,h30⟩:=ZG h29;obtain ⟨x31,t31,rfl,h31⟩:=ZG h30;obtain ⟨x32,t32,rfl,h32⟩:=ZG h31;obtain ⟨x33,t33,rfl,h33⟩:=ZG h32;obtain ⟨x34,t34,rfl,h34⟩:=ZG h33;obtain rfl:t34=[]:=List.eq_nil_of_length_eq_zero h34;exact ⟨x0,x1,x2,x3,x4,x5,x6,x7,x8,x9,x10,x11,x12,x13,x14,x15,x16,x17,x18,x19,x20,x21,x22,x23,x24,x25,x26,x27,x28,x29,x30,x31,x32,x33,x34,rfl⟩
theorem ZhM(us fs:Array Value)(h1:us.size=35)(h2:fs.size=35)(w:World):(Instr.build 78 #[(0,.agg us),(1,.agg fs)]).run prog w=.ok (.agg (us++fs++#[.int .i64 0,.slice none 0 0])) w:=by
 obtain ⟨x0,x1,x2,x3,x4,x5,x6,x7,x8,x9,x10,x11,x12,x13,x14,x15,x16,x17,x18,x19,x20,x21,x22,x23,x24,x25,x26,x27,x28,x29,x30,x31,x32,x33,x34,rfl⟩:=ZrQ us h1;obtain ⟨y0,y1,y2,y3,y4,y5,y6,y7,y8,y9,y10,y11,y12,y13,y14,y15,y16,y17,y18,y19,y20,y21,y22,y23,y24,y25,y26,y27,y28,y29,y30,y31,y32,y33,y34,rfl⟩:=ZrQ fs h2;exact run_build w _ _ _ k_
theorem Zj6{a:Act}{w:World}{o:Oper}{x y:Operand}{us fs:Array Value}(ho:o.op=Op.build 78 #[(0,x),(1,y)])(hx:a.eval x=.agg us)(hy:a.eval y=.agg fs)(h1:us.size=35)(h2:fs.size=35) :
  (execOp a.eval o).run prog w=.ok (.value (.agg (us++fs++#[.int .i64 0,.slice none 0 0]))) w:=by
 have:=ZhM us fs h1 h2 w
 unfold execOp;simp only [ho];simp [hx,hy,Sem.run_bind,this]
theorem ZmW(w:World)(s:Str):ZI w (Z7 (ZT s)) (ZT s):=by
 refine ⟨by simp [Z7],fun j v hv=>?_⟩;have hj:j<35:=by have:=(Array.getElem?_eq_some_iff.1 hv).1;simpa [Z7] using this
 have hc:v=ZlA (ZT s j):=by
  have:(Z7 (ZT s))[j]?=some (ZlA (ZT s j)):=by simp [Z7,hj]
  rw [this] at hv;injection hv with hv
  exact hv.symm
 subst hc;have hl:=ZdD s j;cases hu:ZT s j with
 |s x=>rfl
 |n x=>rfl
 |b x=>rfl
 |ss l=>rw [hu] at hl;obtain rfl:l=[]:=List.eq_nil_of_length_eq_zero hl;exact ⟨none,0,rfl,Zn.nil _ _,Nat.zero_le _⟩
 |ns l=>rw [hu] at hl;obtain rfl:l=[]:=List.eq_nil_of_length_eq_zero hl;exact ⟨none,0,rfl,fun i h=>absurd h s_,Nat.zero_le _⟩
 |rs l=>rw [hu] at hl;obtain rfl:l=[]:=List.eq_nil_of_length_eq_zero hl;exact ⟨none,0,rfl,Zw.nil _ _ _ _,Nat.zero_le _⟩
 |ps l=>rw [hu] at hl;obtain rfl:l=[]:=List.eq_nil_of_length_eq_zero hl;exact ⟨none,0,rfl,Zw.nil _ _ _ _,Nat.zero_le _⟩
 |cs l=>rw [hu] at hl;obtain rfl:l=[]:=List.eq_nil_of_length_eq_zero hl;exact ⟨none,0,[],rfl,⟨rfl,Zw.nil _ _ _ _,fun i h=>absurd h s_⟩,Nat.zero_le _⟩
theorem YH.frl{w w':World}{R B:Nat}{cs:Array Value}{v:ZJ}{k:ZQ}(h:YH w v k)(hf:FrB R B 53 w w')(hR:w.heap[R]?=some (.cells cs 78 (0,0))):YH w' v k:=
 {h with ww:=h.ww.imp id fun ⟨B',q⟩=>⟨B',Zno q hf d_ (fun e=>ZW q hR d_ e.symm)⟩ }
def Zse(u:UV)(w:World)(e:Ending)(w':World):Prop:=∃la lc,e=.returned (.slice la (XH u).length lc)/\Zw Yl 4 w' la (XH u)/\Below w.heap.size w w'/\(XH u).length<=lc
theorem Zrz{w:World}{B e k:Nat}{o:Option Addr}{n c:Nat}{xs:List Value}(h:w.ownsRow B e k (.slice o n c) n xs):n<=c:=by
 rcases h.2 with ⟨e,h0⟩|⟨g,cap,cur,e,_,_,h1,_⟩
 ·omega
 ·injection e with _ _ e;omega
theorem Zkk(u f:UV)(n:Nat)(h:n<Zf.length):(Zf.take (n+1)).flatMap (fun k=>ZX k.sec (J2 u f k))=(Zf.take n).flatMap (fun k=>ZX k.sec (J2 u f k))++ZX Zf[n].sec (J2 u f Zf[n]):=by
 rw [List.take_succ_eq_append_getElem h,List.flatMap_append];simp
theorem Zrb(u:UV):(Zf.flatMap fun k=>ZX k.sec (J2 u (ZT (u 0).str) k))=ZeQ u:=rfl
theorem ZrI(u f:UV)(sm:Yw u)(n:Nat):((Zf.take n).flatMap (fun k=>ZX k.sec (J2 u f k))).length<=n*2000000:=by
 induction n with
 |zero=>simp
 |succ n ih=>
  by_cases h:n<Zf.length
  ·rw [Zkk u f n h,List.length_append,ZX,List.length_map]
   have:=Zpr u f Zf[n] sm
   omega
  ·rw [List.take_of_length_le (Nat.le_of_not_lt h)] at ih
   rw [List.take_of_length_le (Nat.le_succ_of_le (Nat.le_of_not_lt h))];exact Nat.le_trans ih (Nat.mul_le_mul_right _ (Nat.le_succ n))
theorem ZmV(u:UV)(cs:Array Value)(w:World)(hu:ZI w cs u)(tu:Zx u)(tf:Zx (ZT (u 0).str))(sm:Yw u)(hM:Zi w)(hP:Pow w) :
  Calls prog 19 #[.agg cs] w fun e w'=>Zse u w e w':=by
 have hsz:=hu.size;obtain ⟨v0,hv0,sv0⟩:=Zaq hu (show 0<35 by decide);obtain ⟨nm,en⟩:=ZpA (tu 0);rw [en] at sv0;obtain rfl:v0=.string ⟨nm.toArray⟩:=sv0;have hnm:(u 0).str=nm:=by rw [en];rfl
 have hnl:nm.length<=100000000:=by rw [<-hnm];exact sm.str 0
 have hB1:=(Below.refl w.heap.size w).alloc l_ (.cells cs 28);have HU1:=h_ (heap_alloc_new w (.cells cs 28));have HB1:=h_ hB1;have HSZ:=h_ hsz;have HV0:=h_ hv0;have HNM:=h_ hnm;have HNL:=h_ hnl;have HU:=h_ hu;have HM:=h_ hM;have HP:=h_ hP;rw [hnm] at tf;have HTF:=h_ tf;clear tf;clear hB1 hsz hv0 hnm hnl hu hM hP;obtain ⟨C,hC⟩:=e_ (cs++Z7 (ZT nm)++#[.int .i64 0,.slice none 0 0]);have HC:=h_ hC;clear hC;go_enter func19,ntmps19;go_wp2_with fail;generalize w.alloc (.cells cs 28)=w1 at HU1 HB1⊢;refine Ze (S:=fun V=>Below w1.heap.size w1 V) 5 k_ k_ (Zc ⟨1,rfl⟩) (fun hHeld=>?_);refine u_ ?_;refine dT_ (i:=0) (v:=.agg cs) (gT_ rfl) (fun W hW=>Zav 28 (.tmp 1) w.heap.size cs 28 _ rfl rfl (Za HU1.out hW) rfl rfl n77_) (u_ ?_);refine dT_ (i:=1) (v:=.pointer (some ⟨w.heap.size,0,none⟩)) (gT_ rfl) (fun W hW=>by clear hW;go_simp) (u_ ?_);refine dT_ (i:=2) (v:=.string ⟨nm.toArray⟩) (gT_ rfl) (fun W hW=>by have q0:=((rd (Za HU1.out hW)).1 0).trans HV0.out;clear hW;go_simp) (u_ ?_);refine Zm (i:=3) (gT_ rfl) k_ k_ (fun K hK=>?_);clear hHeld;rw [if_pos n13_];go_simp;refine (Zib nm w1.drew (by have:=HNL.out;omega) (HM.out.below (HB1.out.trans ((Zc ⟨1,rfl⟩:Below w1.heap.size w1 w1.drew).mono HB1.out.size)))).mono ?_;rintro e w4 ⟨rfl,hb4⟩;have HB4:=h_ (show Below w1.heap.size w1 w4 from (Zc ⟨1,rfl⟩:Below w1.heap.size w1 w1.drew).trans hb4);clear hb4;refine hK.out _ _ HB4.out (fun hHeld=>?_);clear hK K;refine u_ ?_;refine dT_ (i:=4) (v:=.agg C) (gT_ rfl) (fun W hW=>by rw [HC.out];exact Zj6 rfl rfl rfl HSZ.out (by simp [Z7])) (u_ ?_);refine Zv k_ ?_;clear hHeld;have HB04:=h_ (show Below w.heap.size w w4 from HB1.out.trans (HB4.out.mono HB1.out.size));have HW5:=h_ (heap_alloc_new w4 (.cells C 78));have HB5:=h_ ((Below.refl w4.heap.size w4).alloc l_ (.cells C 78));go_wp2_with fail;generalize w4.alloc (.cells C 78)=w5 at HW5 HB5⊢;refine (ZbH w5).mono ?_;rintro e w6 ⟨oa,cap,vs,rfl,hrow,hkv,hb6⟩;obtain ⟨R,hR⟩:=e_ w4.heap.size;have hfs:(Z7 (ZT nm)).size=35:=by simp [Z7]
 have hR6:w6.heap[R]?=some (.cells C 78 (0,0)):=by rw [hR];exact Za HW5.out hb6
 have HR6:=h_ hR6;have hRl:=Zb hR6;have hB6:Below R w4 w6:=by rw [hR];exact HB5.out.trans (hb6.mono HB5.out.size)
 obtain ⟨fs,hfsq⟩:=e_ (Z7 (ZT nm));rw [<-hfsq] at HC hfs;have HWR0:=h_ (show YC w4 w6 R w6.heap.size cs fs ((Zf.take 0).flatMap fun k=>ZX k.sec (J2 u (ZT nm) k)) from ⟨⟨hR,hB6⟩,HSZ.out,hfs,hRl,l_,none,0,by rw [HC.out] at hR6;exact hR6,World.ownsRow_nil _ _ _ _⟩);have HSU:=h_ (show ZI w4 cs u from HU.out.below HB04.out);have HSF:=h_ (show ZI w4 fs (ZT nm) by rw [hfsq];exact ZmW w4 nm);have HM4:=h_ (HM.out.below HB04.out);have HP4:=h_ (HP.out.below HB04.out);have hlen:=hkv.1;have h42:vs.length=42:=by rw [hlen,Je]
 have hbo:∃b o,oa=some ⟨b,o,none⟩/\b<w6.heap.size/\b≠R:=by
  obtain ⟨b,o,e,hlt,hc⟩:=hrow 41 o_;refine ⟨b,o,e,hlt,fun hbR=>?_⟩;have h5:=hc 5 (.slice vs[41].wa vs[41].wn vs[41].wc) rfl;rw [hbR,(rd hR6).1] at h5;have h6:=(Array.getElem?_eq_some_iff.1 h5).1;have h7:C.size=72:=by rw [HC.out];simp [HSZ.out,hfs]
  omega
 obtain ⟨b,o,rfl,hbl,hbR⟩:=hbo;have HRK:=h_ (fun (W:World) (hF:FrB R w6.heap.size 53 w6 W) n (hn:n<vs.length) j v (hj:(Zq vs[n])[j]?=some v)=>show W.cell? ⟨b,o+n*6+j,none⟩=some v by
  obtain ⟨b2,o2,e2,_,hc⟩:=hrow n hn;injection e2 with e2
  injection e2 with e3 e4
  subst e3;subst e4;rw [<-hc j v hj];exact World.cell?_of_block (hF.block b hbl (fun h=>h.elim hbR (fun g=>by omega))))
 have HKV:=h_ (fun (W:World) (hF:FrB R w6.heap.size 53 w6 W) n (h1:n<vs.length) (h2:n<Zf.length)=>(hkv.2 n h1 h2).frl hF HR6.out);have H42:=h_ h42;have HRR:=h_ hR;rw [<-hR];clear hrow hkv hlen h42 hbl hbR hR6 hRl hB6 hfs hfsq hb6 HW5 HB5 hR;go_wp2_with fail;go_loopg [5,14] 43 (fun f _ i wr=>∃n:Nat,n<=42/\i=.int .i64 n/\42-n<f/\Hid (YC w4 wr R w6.heap.size cs fs ((Zf.take n).flatMap fun k=>ZX k.sec (J2 u (ZT nm) k)))/\Hid (FrB R w6.heap.size 53 w6 wr))
 case atStart=>exact ⟨0,o_,rfl,o_,HWR0,FrB.refl _ _ _ _⟩
 case round=>
  obtain ⟨n,hn,rfl,hf,HWR,HFR⟩:=hrel;by_cases hlt:n<42
  ·have hv:n<vs.length:=by rw [H42.out];exact hlt
   have ha:n<Zf.length:=by rw [Je];exact hlt
   obtain ⟨vk,hvk⟩:=e_ (vs[n]);obtain ⟨k,hk⟩:=e_ (Zf[n]);have hrk:=HRK.out wr HFR.out n hv;rw [<-hvk] at hrk;have d0:=hrk 0 _ rfl;have d1:=hrk 1 _ rfl;have d2:=hrk 2 _ rfl;have d3:=hrk 3 _ rfl;have d4:=hrk 4 _ rfl;have d5:=hrk 5 _ rfl;rw [Nat.add_zero] at d0;have HKK:=h_ (show YH wr vk k by rw [hvk,hk];exact HKV.out wr HFR.out n hv ha);have HKM:=h_ (show k∈Zf by rw [hk];exact List.getElem_mem ha);have HSN:=h_ (show (Zf.take (n+1)).flatMap (fun k=>ZX k.sec (J2 u (ZT nm) k))=(Zf.take n).flatMap (fun k=>ZX k.sec (J2 u (ZT nm) k))++ZX k.sec (J2 u (ZT nm) k) by rw [Zkk u (ZT nm) n ha,hk]);have HLM:=h_ (show ((Zf.take n).flatMap (fun k=>ZX k.sec (J2 u (ZT nm) k))).length<=90000000 by have:=ZrI u (ZT nm) sm n;omega);generalize (Zf.take n).flatMap (fun k=>ZX k.sec (J2 u (ZT nm) k))=lm at HWR HSN HLM;clear hrk hvk hk hv ha;have i5:(n:Int)<(42:Int):=o_;go_wp2_with fail;have hB7:=(Below.refl wr.heap.size wr).alloc l_ (.cells #[.string ⟨vk.sec.toArray⟩,.string ⟨vk.name.toArray⟩,.int .i64 vk.form,.bool vk.list,.int .i64 vk.kinds,.slice vk.wa vk.wn vk.wc] 82);have HB7:=h_ hB7;refine (ZqP R w6.heap.size cs fs u (ZT nm) lm k vk w4 _ (HWR.out.below HB7.out) HM4.out HP4.out (HKK.out.below HB7.out) HKM.out HLM.out HSU.out HSF.out tu HTF.out sm).mono ?_;rintro e w7 ⟨rfl,hw7,hf7⟩;have HW7:=h_ hw7;have HF7:=h_ (show FrB R w6.heap.size 53 w6 w7 from FrB.trans (FrB.trans HFR.out (show FrB R w6.heap.size 53 wr _ from Fr.of_below HB7.out _)) hf7);clear hw7 hf7 hB7;go_wp2_with fail;go_roundg (42-n)
   case measure=>omega
   case rel=>exact ⟨n+1,o_,n15_,o_,by rw [HSN.out];exact HW7,HF7⟩
  ·obtain rfl:n=42:=o_
   rw [show Zf.take 42=Zf from List.take_of_length_le (by rw [Je];exact Nat.le_refl _)] at HWR;have hraw:(Zf.flatMap fun k=>ZX k.sec (J2 u (ZT nm) k))=ZeQ u:=by rw [<-Zrb u,HNM.out]
   rw [hraw] at HWR;obtain ⟨⟨hR2,hbe⟩,_,_,_,_,la,lc,hhp,hown⟩:=HWR.out;have c71:=((rd hhp).1 71).trans (ZeW HSZ.out (by obtain ⟨_,_,h3,_⟩:=HWR.out;exact h3) _ _).2;have HBE:=h_ hbe;have HOW:=h_ hown;have HR2:=h_ hR2;clear hR2 hbe hhp hown hraw;go_wp2_with fail;go_ret;have hlen:(XH u).length=(ZeQ u).length:=Zdg _ _ _;refine ⟨la,lc,by rw [hlen];rfl,?_,HB04.out.trans (HBE.out.mono (by rw [HR2.out];exact HB04.out.size)),by rw [hlen];exact Zrz HOW.out⟩;have ho:=HOW.out;rw [<-hlen] at ho;exact Zw.of_own (enc:=Yl) (k:=4) (fun _=>rfl) ho
theorem m128_{p:Prop}(h:p:=by
  rcases List.mem_cons.1 hx with rfl|hx
  ·exact hP _ _ _ _ _ hy
  ·exact ih _ _ hr x hx):p:=h
theorem ZjU(r:Int):(Xh r).length<=1000:=by
 unfold Xh;split
 ·rw [List.getD_eq_getElem?_getD]
  cases hg:XE[(r-1).toNat]? with
  |none=>decide
  |some x=>
   have h0:(XE.all fun x=>decide (x.length<=1000))=true:=n4_;exact of_decide_eq_true (List.all_eq_true.1 h0 x (List.mem_of_getElem? hg))
 ·decide
theorem Zct(k:ZQ)(hk:k∈Zf):k.name.length<=1000/\k.sec.length<=1000:=by
 have h0:(Zf.all fun k=>decide (k.name.length<=1000)&&decide (k.sec.length<=1000))=true:=n4_
 have:=List.all_eq_true.1 h0 k hk
 simpa using this
theorem ZoI(b:Bool):(Zfo b).length<=1000:=by cases b<;>decide
theorem Zpz(u f:UV)(k:ZQ)(hk:k∈Zf)(sm:Yw u):∀p∈J2 u f k,p.1.length<=1000/\p.2.length<=450000000:=by
 intro p hp;have hkn:=(Zct k hk).1;unfold J2 at hp;split at hp
 ·obtain ⟨r,hr,rfl⟩:=List.mem_map.1 hp
  exact ⟨ZjU _,by have:=sm.rels r hr;show r.2.length<=_;omega⟩
 ·split at hp
  ·cases hp
  ·split at hp
   ·obtain ⟨q,hq,rfl⟩:=List.mem_map.1 hp
    exact ⟨hkn,Zj2 q (sm.prs q hq)⟩
   ·split at hp
    ·cases hp
    ·obtain ⟨s,hs,rfl⟩:=List.mem_map.1 hp
     refine ⟨hkn,?_⟩;show s.length<=_;split at hs
     ·unfold Zbl at hs
      split at hs
      ·obtain ⟨c,hc,rfl⟩:=List.mem_map.1 hs
       exact (sm.cmds _ c hc).1
      ·split at hs
       ·obtain ⟨n,hn,rfl⟩:=List.mem_map.1 hs
        exact ZeY k hk n (sm.nums _ n hn).1 (sm.nums _ n hn).2
       ·have:=sm.strs _ s hs
        omega
     ·unfold Zbk at hs
      split at hs
      ·cases hs
      ·split at hs
       ·obtain rfl:=List.mem_singleton.1 hs
        have:=sm.str (Zh k.name)
        omega
       ·split at hs
        ·obtain rfl:=List.mem_singleton.1 hs
         have:=ZoI (u (Zh k.name)).bool
         omega
        ·obtain rfl:=List.mem_singleton.1 hs
         exact ZeY k hk _ (sm.num _).1 (sm.num _).2
theorem ZpK(u:UV)(sm:Yw u):∀x∈ZeQ u,x.sec.length<=1000/\x.key.length<=1000/\∃s,x.val=Xy s/\s.length<=450000000:=by
 intro x hx;obtain ⟨k,hk,hx⟩:=List.mem_flatMap.1 hx;obtain ⟨p,hp,rfl⟩:=List.mem_map.1 hx;have h:=Zpz u _ k hk sm p hp;exact ⟨(Zct k hk).2,h.1,p.2,rfl,h.2⟩
theorem Znn{P:Ln->Prop}(hP:∀s k v n m,P ⟨s,k,v,n⟩->P ⟨s,k,v,m⟩):∀(l:List Ln) (o:Option Str) (n:Nat),(∀x∈l,P x)->∀x∈YJ o l n,P x:=by
 intro l;induction l with
 |nil=>intro o n _ x hx;cases o<;>cases hx
 |cons y r ih=>
  intro o n h x hx;have hy:=h y (List.mem_cons_self ..);have hr:=fun x hx=>h x (List.mem_cons_of_mem _ hx)
  cases o with
  |none=>
   unfold YJ at hx;exact m128_
  |some s=>
   unfold YJ at hx;split at hx
   ·exact m128_
   ·exact m128_
theorem ZkL(u:UV)(sm:Yw u):∀x∈XH u,x.sec.length<=1000/\x.key.length<=1000/\∃s,x.val=Xy s/\s.length<=450000000:=
 Znn (P:=fun x=>x.sec.length<=1000/\x.key.length<=1000/\∃s,x.val=Xy s/\s.length<=450000000) (fun _ _ _ _ _ h=>h) _ _ _ (ZpK u sm)
theorem ZiX(u:UV)(sm:Yw u)(nm:Str):∀x∈XH u,x.val.length<=1000000000/\∀v,QF x.val nm=.ok v->v.length<=500000000:=by
 intro x hx;obtain ⟨_,_,s,e,hs⟩:=ZkL u sm x hx;rw [e];refine ⟨by have:=Zh1 s;omega,fun v hv=>?_⟩;have hn:ZH nm≠0:=by
  intro h;unfold QF at hv;rw [if_pos h] at hv;cases hv
 rw [Zor hn hv];omega
theorem Zfb(u:UV)(sm:Yw u):∀x∈XH u,Za7 x:=by
 intro x hx;obtain ⟨h1,h2,s,e,hs⟩:=ZkL u sm x hx;exact ⟨o_,o_,by rw [e];have:=Zh1 s;omega⟩
theorem ZlD:∀(l:List Ln) (o:Option Str) (n:Nat),(YJ o l n).length=l.length:=by
 intro l;induction l with
 |nil=>intro o n;cases o<;>rfl
 |cons y r ih=>
  intro o n;cases o with
  |none=>simp [YJ,ih]
  |some s=>unfold YJ;split<;>simp [ih]
theorem ZbM(u:UV)(sm:Yw u):(XH u).length<=2000000:=by
 unfold XH;rw [ZlD];exact sm.few
theorem Zp7:∀(l:List Ln) (o:Option Str),(∀x∈l,x.sec.length<=20/\x.key.length+1+x.val.length<=400)->(Yt o l).length<=l.length*430:=by
 intro l;induction l with
 |nil=>intro o _;cases o<;>exact Nat.zero_le _
 |cons y r ih=>
  intro o h;have hy:=h y (List.mem_cons_self ..);have hr:=fun o=>ih o (fun x hx=>h x (List.mem_cons_of_mem _ hx))
  have h0:=hr (some y.sec);cases o with
  |none=>
   simp only [Yt,Zcu,ZbU,List.length_append,List.length_cons,List.length_nil];omega
  |some s=>
   simp only [Yt,Zcu,ZbU,List.length_append,List.length_cons,List.length_nil];split
   ·simp only [List.length_nil];omega
   ·simp only [List.length_append,List.length_cons,List.length_nil];omega
theorem Zjj(k:ZQ)(hk:k∈Zf):k.sec.length<=20:=by
 have h0:(Zf.all fun k=>decide (k.sec.length<=20))=true:=n4_;exact of_decide_eq_true (List.all_eq_true.1 h0 k hk)
theorem Zqd(u:UV):∀x∈XH u,x.sec.length<=20:=by
 refine Znn (P:=fun x=>x.sec.length<=20) (fun _ _ _ _ _ h=>h) _ _ _ ?_;intro x hx;obtain ⟨k,hk,hx⟩:=List.mem_flatMap.1 hx;obtain ⟨p,hp,rfl⟩:=List.mem_map.1 hx;exact Zjj k hk
theorem ZhB(u:UV)(sm:Yw u)(h:(XH u).all Qt=true):(Qa (XH u)).length<=1000000000:=by
 have:=Zp7 (XH u) none (fun x hx=>⟨Zqd u x hx,by
  have:=List.all_eq_true.1 h x hx
  unfold Qt at this;simp only [Bool.and_eq_true,decide_eq_true_eq] at this;exact this.2⟩)
 have:=ZbM u sm
 unfold Qa;omega
theorem ZhU{w:World}{oa:Option Addr}{l:List Ln}(h:Zw Yl 4 w oa l):QB w oa l:=by
 intro i hi;obtain ⟨b,o,e,_,hc⟩:=h i hi;exact ⟨b,o,e,hc 0 _ rfl,hc 1 _ rfl,hc 2 _ rfl,hc 3 _ rfl⟩
theorem m135_{p:Prop}(h:p:=by go_wp2_with fail;go_ret;exact ⟨rfl,HB.out⟩):p:=h
theorem ZbR(u:UV)(cs:Array Value)(w:World)(hu:ZI w cs u)(tu:Zx u)(sm:Yw u)(hM:Zi w)(hP:Pow w)(r:Bool)(hr:Zci u=r) :
  Calls prog 8 #[.agg cs] w fun e w'=>e=.returned (.bool r)/\Below w.heap.size w w':=by
 have hsz:=hu.size;obtain ⟨v0,hv0,sv0⟩:=Zaq hu (show 0<35 by decide);obtain ⟨nm,en⟩:=ZpA (tu 0);rw [en] at sv0;obtain rfl:v0=.string ⟨nm.toArray⟩:=sv0;have hnm:(u 0).str=nm:=by rw [en];rfl
 have hnl:nm.length<=100000000:=by rw [<-hnm];exact sm.str 0
 have hB1:=(Below.refl w.heap.size w).alloc l_ (.cells cs 28);have HBX:=h_ (heap_alloc_new w (.cells cs 28));have HB:=h_ hB1;have HSZ:=h_ hsz;have HV0:=h_ hv0;have HU:=h_ (fun W (h:Below w.heap.size w W)=>hu.below h);have HM:=h_ (fun W (h:Below w.heap.size w W)=>hM.below h);have HP:=h_ (fun W (h:Below w.heap.size w W)=>hP.below h);have HTF:=h_ (Zx.new (u 0).str);have HSM:=h_ sm;have HTU:=h_ tu;obtain ⟨mu,mc,ma,hmk⟩:∃mu mc ma,Qu nm (XH u)=(mu,(mc,ma)):=⟨_,_,_,rfl⟩;have HTM:=h_ (show Zx mu by have:=Zd7 nm (XH u);rw [hmk] at this;exact this);have HMK:=h_ (fun W la lc (hm:Zi W) (hr:Zw Yl 4 W la (XH u))=>show Calls prog 15 #[.string ⟨nm.toArray⟩,.slice la (XH u).length lc] W (fun e w'=>ZhK W (mu,(mc,ma)) e w') from by
  rw [<-hmk];exact Zg7 nm (XH u) la lc W hm hr (by have:=ZbM u sm;omega) (ZiX u sm nm) o_)
 have HR:=h_ (show ((mc,ma)==(0,0)&&(Xw mu u&&ZdE (XH u)))=r by rw [<-hr];unfold Zci;rw [hnm,hmk]);have HLS:=h_ (Zfb u sm);have HLF:=h_ (ZbM u sm);have HLT:=h_ (ZhB u sm);obtain ⟨L,hL⟩:=e_ (XH u);rw [<-hL] at HR HMK HLS HLF HLT;have HL:=h_ hL;clear hB1 hsz hv0 hnm hnl hu hM hP hmk hr hL sm tu en;go_enter func8,ntmps8;go_wp2_with (first|(refine Qc rfl 28 (.tmp 1) w.heap.size cs 28 _ rfl rfl HBX.out rfl rfl n77_ ?_));generalize w.alloc (.cells cs 28)=w1 at HBX HB⊢;refine (ZmV u cs _ (HU.out _ HB.out) HTU.out HTF.out HSM.out (HM.out _ HB.out) (HP.out _ HB.out)).mono ?_;rintro e w2 ⟨la,lc,rfl,hrow,hb2,-⟩;rw [<-HL.out];rw [<-HL.out] at hrow;replace HBX:=h_ (Za HBX.out hb2);replace HB:=h_ (HB.out.trans (hb2.mono HB.out.size));have HRW:=h_ hrow;clear hb2 hrow;obtain ⟨q0,-⟩:=And.intro (((rd HBX.out).1 0).trans HV0.out) trivial;go_wp2_with fail;clear q0;refine (HMK.out _ la lc (HM.out _ HB.out) HRW.out).mono ?_;rintro e w1 ⟨hb1,cs1,rfl,hrd1⟩;replace HB:=h_ (HB.out.trans (hb1.mono HB.out.size));replace HBX:=h_ (Za HBX.out hb1);replace HRW:=h_ (HRW.out.below hb1);have L1HBX:=h_ (Zb HBX.out);have LW1:=h_ HB.out.size;have HON1:=h_ hrd1.one;have HSC1:=h_ (show (prog.info? 28).map (·.size)=some cs1.size by rw [hrd1.size];rfl);have HSZ1:=h_ (show Zd.size=cs1.size by rw [hrd1.size];rfl);have HU1:=h_ hrd1;have HV1:=h_ (Below.refl w1.heap.size w1);clear hb1 hrd1;go_upto_region 3 with (first
  |(refine YN rfl _ Zd rfl (ZE _) ?_;intro wa1 ha1 hba1)
  |(refine Yi rfl 28 (.tmp 4) (.tmp 13) w1.heap.size cs1 Zd 28 rfl rfl rfl (Za ha1 (b_.alloc l_ _)) HSZ1.out HSC1.out HON1.out ?_;intro wb1 hc1 hf1;have tv1:=Zjk ha1 hba1 hc1 hf1;refine Yi rfl 37 (.tmp 5) (.tmp 14) wa1.heap.size #[.int .i64 mc,.int .i64 ma] #[.int .i64 0,.int .i64 0] 37 rfl rfl rfl tv1.1 rfl rfl (ZhF mc ma) ?_;intro v1 hd1 hg1;have tw1:=Zhn hc1 tv1 hg1))
 replace HB:=h_ (HB.out.trans (tw1.2.1.mono HB.out.size));replace HBX:=h_ (Za HBX.out tw1.2.1);replace HRW:=h_ (HRW.out.below tw1.2.1);replace HV1:=h_ (HV1.out.trans (tw1.2.1.mono HV1.out.size));have HX1:=h_ tw1.1;have HF1:=h_ hd1;have LO1:=h_ tw1.2.2;clear ha1 hba1 hc1 hf1 tv1 hg1 tw1 hd1;obtain ⟨g0,g1,-,-⟩:=Xd HF1.out;obtain ⟨q,hq⟩:∃q,(mc==0&&ma==0)=q:=⟨_,rfl⟩;have hqq:((mc,ma)==((0:Int),(0:Int)))=q:=by rw [<-hq];rfl
 have r1:=ZgP mc ma 0 0 q hq;rw [hqq] at HR;clear hq hqq;obtain ⟨p,hp⟩:∃p,Xw mu u=p:=⟨_,rfl⟩;rw [hp] at HR;obtain ⟨m,hm⟩:∃m,ZdE L=m:=⟨_,rfl⟩;rw [hm] at HR;have HSS:=h_ (ZaR cs1 cs mu u v1 (HU1.out.see.below HV1.out) (HU.out _ HB.out) HTM.out HTU.out p hp);have HLM:=h_ (fun W (h:Below v1.heap.size v1 W)=>ZdF la lc L W (ZhU (HRW.out.below h)) n78_ HLS.out HLT.out m hm);clear hp hm HLF HLS HLT HMK;cases q with
 |false=>
  obtain rfl:r=false:=HR.out.symm;exact m135_
 |true=>
  go_wp2_with (first
   |(refine Xl rfl 28 (.tmp 4) w1.heap.size cs1 28 _ rfl rfl HX1.out rfl rfl HSC1.out ?_)
   |(refine Xl rfl 28 (.tmp 1) w.heap.size cs 28 _ rfl rfl HBX.out rfl rfl n77_ ?_))
  refine HSS.out.mono ?_;rintro e w5 ⟨rfl,hb5⟩;replace HLM:=h_ (HLM.out _ hb5);replace HB:=h_ (HB.out.trans (hb5.mono HB.out.size));clear hb5 HX1 HBX HF1 g0 g1 r1 HSS;cases p with
  |false=>
   obtain rfl:r=false:=HR.out.symm;exact m135_
  |true=>
   obtain rfl:r=m:=HR.out.symm;go_wp2_with fail;refine HLM.out.mono ?_;rintro e w6 ⟨rfl,hb6⟩;replace HB:=h_ (HB.out.trans (hb6.mono HB.out.size));clear hb6;exact m135_
def Zkv(u:UV)(w:World)(e:Ending)(w':World):Prop:=∃la lc,e=.returned (.slice la (Z4 u).length lc)/\Zw Yl 4 w' la (Z4 u)/\Below w.heap.size w w'/\(Z4 u).length<=lc
theorem ZcK(u:UV)(cs:Array Value)(w:World)(hu:ZI w cs u)(tu:Zx u)(sm:Yw u)(hM:Zi w)(hP:Pow w) :
  Calls prog 13 #[.agg cs] w fun e w'=>Zkv u w e w':=by
 have hB1:=(Below.refl w.heap.size w).alloc l_ (.cells cs 28);have HBX:=h_ (heap_alloc_new w (.cells cs 28));have HB:=h_ hB1;have HSZ:=h_ hu.size;have HU:=h_ (fun W (h:Below w.heap.size w W)=>hu.below h);have HM:=h_ (fun W (h:Below w.heap.size w W)=>hM.below h);have HP:=h_ (fun W (h:Below w.heap.size w W)=>hP.below h);obtain ⟨r,hr⟩:∃r,Zci u=r:=⟨_,rfl⟩;have HMY:=h_ (fun W (h:Below w.heap.size w W)=>ZbR u cs W (hu.below h) tu sm (hM.below h) (hP.below h) r hr);have HRW:=h_ (fun W (h:Below w.heap.size w W)=>ZmV u cs W (hu.below h) tu (Zx.new (u 0).str) sm (hM.below h) (hP.below h));have HL:=h_ (show Z4 u=if r=true then XH u else [] by unfold Z4;rw [hr]);clear hB1 hu tu sm hM hP hr;unfold Zkv;go_enter func13,ntmps13;go_wp2_with (first|(refine Qc rfl 28 (.tmp 1) w.heap.size cs 28 _ rfl rfl HBX.out rfl rfl n77_ ?_));generalize w.alloc (.cells cs 28)=w1 at HBX HB⊢;refine (HMY.out _ HB.out).mono ?_;rintro e w2 ⟨rfl,hb2⟩;replace HBX:=h_ (Za HBX.out hb2);replace HB:=h_ (HB.out.trans (hb2.mono HB.out.size));clear hb2;cases r with
 |false=>
  go_wp2_with fail;go_ret;refine ⟨none,0,?_,?_,HB.out,?_⟩
  ·rw [HL.out];rfl
  ·rw [HL.out];exact Zw.nil _ _ _ _
  ·rw [HL.out];exact Nat.zero_le _
 |true=>
  go_wp2_with (first|(refine Qc rfl 28 (.tmp 1) w.heap.size cs 28 _ rfl rfl HBX.out rfl rfl n77_ ?_));refine (HRW.out _ HB.out).mono ?_;rintro e w3 ⟨la,lc,rfl,hrow,hb3,hcap⟩;have HRR:=h_ hrow;have HCC:=h_ hcap;replace HB:=h_ (HB.out.trans (hb3.mono HB.out.size));clear hb3 hrow hcap;go_wp2_with fail;go_ret;refine ⟨la,lc,?_,?_,HB.out,?_⟩
  ·rw [HL.out];rfl
  ·rw [HL.out];exact HRR.out
  ·rw [HL.out];exact HCC.out
theorem Zd5(u:UV)(cs:Array Value)(w:World)(hu:ZI w cs u)(tu:Zx u)(sm:Yw u)(hM:Zi w)(hP:Pow w)(s:Str)(hs:X8 u=s) :
  Calls prog 10 #[.agg cs] w fun e w'=>e=.returned (.string ⟨s.toArray⟩)/\Below w.heap.size w w':=by
 have hB1:=(Below.refl w.heap.size w).alloc l_ (.cells cs 28);have HBX:=h_ (heap_alloc_new w (.cells cs 28));have HB:=h_ hB1;have HSZ:=h_ hu.size;have HRL:=h_ (fun W (h:Below w.heap.size w W)=>ZcK u cs W (hu.below h) tu sm (hM.below h) (hP.below h));have hin:∀x∈Z4 u,x∈XH u:=by intro x hx;unfold Z4 at hx;split at hx;exact hx;cases hx
 have hlen:(Z4 u).length<=2000000:=by unfold Z4;split;exact ZbM u sm;exact Nat.zero_le _
 have HPR:=h_ (fun W la lc (hr:Zw Yl 4 W la (Z4 u))=>ZqG la lc (Z4 u) W (ZhU hr) o_ (fun x hx=>Zfb u sm x (hin x hx)) (fun h=>by
  unfold Z4 at h⊢;split
  ·rename_i hm;rw [if_pos hm] at h;exact ZhB u sm h
  ·exact Nat.zero_le _) s hs)
 clear hB1 hu tu sm hM hP hs hin hlen;go_enter func10,ntmps10;go_wp2_with (first|(refine Qc rfl 28 (.tmp 1) w.heap.size cs 28 _ rfl rfl HBX.out rfl rfl n77_ ?_));generalize w.alloc (.cells cs 28)=w1 at HBX HB⊢;refine (HRL.out _ HB.out).mono ?_;rintro e w2 ⟨la,lc,rfl,hrow,hb2,-⟩;replace HPR:=h_ (HPR.out _ la lc hrow);replace HB:=h_ (HB.out.trans (hb2.mono HB.out.size));clear hb2 hrow;go_wp2_with fail;refine HPR.out.mono ?_;rintro e w3 ⟨rfl,hb3⟩;replace HB:=h_ (HB.out.trans (hb3.mono HB.out.size));clear hb3;exact m135_
end Go.Proofs.YtmgmbeipbeknaaaGreatDoor
