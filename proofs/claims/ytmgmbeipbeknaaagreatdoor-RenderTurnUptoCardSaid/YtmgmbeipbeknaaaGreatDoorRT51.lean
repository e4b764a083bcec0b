import Derived.Deep.Cut
import Derived.Test.YtmgmbeipbeknaaaGreatDoorRT28
import Derived.Test.YtmgmbeipbeknaaaGreatDoorRT38
import Derived.Test.YtmgmbeipbeknaaaGreatDoorRT42
import Derived.Test.YtmgmbeipbeknaaaGreatDoorRT45
import Derived.Test.YtmgmbeipbeknaaaGreatDoorRT46
import Derived.Test.YtmgmbeipbeknaaaGreatDoorRT48
import Derived.Test.YtmgmbeipbeknaaaGreatDoorRT49
import Derived.Test.YtmgmbeipbeknaaaGreatDoorRT50
namespace Go.Proofs.YtmgmbeipbeknaaaGreatDoor
open Go.Proofs.Tryz
open Go Go.RowKit
set_option linter.unusedVariables false
set_option linter.unusedSimpArgs false
set_option maxHeartbeats 16000000
set_option maxRecDepth 100000
theorem m137_{p:Prop}(h:p:=by
  clear hf4;go_wp2_with fail;go_roundg (gk-1)
  case measure=>omega
  case rel=>exact ⟨r,m+1,sec,ov,out,hL4,HS4,o_,o_,o_,o_,HR,HF4⟩):p:=h
def Zbv(c n:Int):Value:=.agg #[.int .i64 c,.int .i64 n]
def Zr3(w:World)(res:Except (Nat×Nat) (List Ln))(e:Ending)(w':World):Prop:=
 Below w.heap.size w w'/\match res with
 |.error (c,n)=>e=.returned (.tuple #[.slice none 0 0,Zbv c n])
 |.ok l=>∃v,e=.returned (.tuple #[v,Zbv 0 0])/\w'.ownsRow w.heap.size 53 4 v l.length (QD l)
theorem ZlJ(s:ByteArray)(w:World)(hs:s.size<1000000)(hm:Zi w) :
  Calls prog 38 #[.string s,.string ⟨#[10]⟩] w fun e w'=>e=.returned (.slice (some ⟨w.heap.size,0,none⟩) (YW s.data.toList).length (YW s.data.toList).length)/\w'=w.alloc (.cells (Zj (YW s.data.toList)).toArray 9):=by
 obtain ⟨m,hm⟩:=hm;refine (Tryz.strings_Split s ⟨#[10]⟩ m w o_ hm d_).mono ?_;rintro e w' ⟨rfl,rfl⟩;rw [ZkW,Zg5,Zmc];exact ⟨rfl,rfl⟩
theorem ZjV(w:World)(rows:List Str)(hm:Zi w)(hr:rows.length<=1000000)(w2:World)(hw2:w2=((w.alloc (.cells #[.int .i64 0,.int .i64 0] 37)).alloc (.cells (Zj rows).toArray 9)).alloc
   (.cells #[.slice (some ⟨w.heap.size+1,0,none⟩) rows.length rows.length,.int .i64 0,.string ⟨#[]⟩,.slice none 0 0] 72)) :
  LRd (w.heap.size+1+1) rows 0 [] (.slice none 0 0) w2/\Said (w.heap.size+1+1) [] (.slice none 0 0) w2/\w2.heap[w.heap.size]?=some (.cells #[.int .i64 0,.int .i64 0] 37 (0,0))/\Below w.heap.size w w2/\Zi w2:=by
 have hb:Below w.heap.size w w2:=by
  rw [hw2];exact ((b_.alloc l_ _).alloc s_ _).alloc n5_ _
 have h1:w2.heap[w.heap.size]?=some (.cells #[.int .i64 0,.int .i64 0] 37 (0,0)):=by
  rw [hw2];exact heap_alloc (heap_alloc (heap_alloc_new w _) _) _
 have h2:w2.heap[w.heap.size+1]?=some (.cells (Zj rows).toArray 9 (0,0)):=by
  rw [hw2]
  have:=heap_alloc_new (w.alloc (.cells #[.int .i64 0,.int .i64 0] 37)) (.cells (Zj rows).toArray 9)
  simp only [World.size_alloc] at this;exact heap_alloc this _
 have h3:w2.heap[w.heap.size+1+1]?=some (.cells #[.slice (some ⟨w.heap.size+1,0,none⟩) rows.length rows.length,.int .i64 0,.string ⟨#[]⟩,.slice none 0 0] 72 (0,0)):=by
  rw [hw2]
  have:=heap_alloc_new ((w.alloc (.cells #[.int .i64 0,.int .i64 0] 37)).alloc (.cells (Zj rows).toArray 9)) (.cells #[.slice (some ⟨w.heap.size+1,0,none⟩) rows.length rows.length,.int .i64 0,.string ⟨#[]⟩,.slice none 0 0] 72)
  simp only [World.size_alloc] at this;exact this
 refine ⟨⟨_,h3,⟨some ⟨w.heap.size+1,0,none⟩,rows.length,rfl,l_,hr,?_,?_⟩,none,0,0,rfl⟩,World.ownsRow_nil _ _ _ _,h1,hb,hm.below hb⟩
 ·intro i hi
  refine ⟨w.heap.size+1,0,rfl,?_⟩;rw [(rd h2).1,Nat.zero_add];simp [Zj,hi]
 ·intro a e;injection e with e;subst e;show w.heap.size+1<_;omega
theorem ZdW:∀(r:List Str) (s:Str) (n:Nat),(Yu s r n).2.2+(Yu s r n).2.1.length=n+r.length
 |[],s,n=>by unfold Yu;split<;>simp
 |x::r,s,n=>by
  unfold Yu;split
  ·split
   ·have:=ZdW r s (n+1);simp;omega
   ·have:=ZdW r (s.dropLast++[32]++x) (n+1);simp at this⊢;omega
  ·simp
theorem Zrv(a:Int)(R:Nat)(rows:List Str)(n:Nat)(sec:Str)(ov:Value)(out:List Ln)(at_:Nat)(s:Str)(w:World)(ha:a=(at_:Int))(hL:LRd R rows n sec ov w)(hS:Said R out ov w)(hm:Zi w)(hs:s.length<=1000000)(hout:out.length<=1000000)(hat:at_<=1000000)
  (says:Says) (hsays:J5 sec s=says) :
  Calls prog 42 #[.pointer (some ⟨R,0,none⟩),.string ⟨s.toArray⟩,.int .i64 a] w fun e w'=>ZrM R rows n sec ov out at_ says w e w':=by
 subst ha;exact ZoE R rows n sec ov out at_ s w hL hS hm hs hout hat says hsays
theorem Zii{w:World}{base base':Nat}{e:TypeId}{size:Nat}{v:Value}{n:Nat}{xs:List Value}(h:w.ownsRow base e size v n xs)(hB:base'<=base):w.ownsRow base' e size v n xs:=by
 refine ⟨h.1,?_⟩;rcases h.2 with hn|⟨g,cap,cur,rfl,hb,rest⟩
 ·exact .inl hn
 ·exact .inr ⟨g,cap,cur,rfl,o_,rest⟩
theorem Zpi{w wr w':World}{F:Nat}{out:List Ln}{ov:Value}(hF:w.heap.size=F)(hb:Below F w wr)(hS:Said (F+1+1) out ov wr)(hf:Fr (·=F) wr w'):Zr3 w (.ok out) (.returned (.tuple #[ov,Zbv 0 0])) w':=by
 subst hF;refine ⟨hb.trans (hf.below w.heap.size hb.size (by intro k hk;omega)),ov,rfl,?_⟩;have h:=hS.fr hf (fun k hk=>by omega);exact Zii h o_
theorem Zmw{w wr w':World}{F:Nat}{c n:Nat}{e:Ending}(hF:w.heap.size=F)(hb:Below F w wr)(hf:Fr (·=F) wr w')(he:e=.returned (.tuple #[.slice none 0 0,Zbv c n])):Zr3 w (.error (c,n)) e w':=by
 subst hF;exact ⟨hb.trans (hf.below w.heap.size hb.size (by intro k hk;omega)),he⟩
theorem Znz(s:ByteArray)(w:World)(hm:Zi w)(hs:s.size<=20000)(res:Except (Nat×Nat) (List Ln))(hres:Zlp (YW s.data.toList)=res) :
  Calls prog 18 #[.string s] w fun e w'=>Zr3 w res e w':=by
 have Hres:=h_ hres;clear hres;have hs':¬(20000:Int)<(s.size:Int):=o_;have hsz:s.data.toList.length=s.size:=s_;have hrl:=ZhA s.data.toList;have hrb:=Zfr s.data.toList;rw [hsz] at hrl hrb;clear hsz;have hm1:Zi (w.alloc (.cells #[.int .i64 0,.int .i64 0] 37)):=hm.below (b_.alloc l_ _);go_enter func18,ntmps18;go_wp2_with (go_at_call 38;refine (ZlJ s _ o_ hm1).mono ?_;rintro e w' ⟨rfl,rfl⟩);generalize hrows:YW s.data.toList=rows at *;have HRows:=h_ hrows;clear hrows;obtain ⟨w2,hw2⟩:∃w2,w2=((w.alloc (.cells #[.int .i64 0,.int .i64 0] 37)).alloc (.cells (Zj rows).toArray 9)).alloc
   (.cells #[.slice (some ⟨w.heap.size+1,0,none⟩) rows.length rows.length,.int .i64 0,.string ⟨#[]⟩,.slice none 0 0] 72):=⟨_,rfl⟩
 obtain ⟨hL,hS,hF,hB,hm2⟩:=ZjV w rows hm o_ w2 hw2;rw [<-hw2];clear hw2 hm hm1;have HB:=h_ hB;clear hB;have HF:=h_ hF;clear hF;have HM:=h_ hm2;clear hm2;have HS:=h_ hS;clear hS;generalize hFn:w.heap.size=F at *;have HFn:=h_ hFn;clear hFn;go_loopg [5,6] (rows.length+1) (fun f _ _ wr=>∃(rs:List Str) (m:Nat) (sec:Str) (ov:Value) (out:List Ln),LRd (F+1+1) rs m sec ov wr/\Hid (Said (F+1+1) out ov wr)/\rs.length<f/\Qy rs<=900000/\m+rs.length<=900000/\out.length<=m/\Hid (Qn (YS rs m) sec out=res)/\Hid (Fr (fun b=>F+1+1<=b) w2 wr))
 case atStart=>exact ⟨rows,0,[],.slice none 0 0,[],hL,HS.out,o_,o_,o_,s_,by rw [<-ZhE];exact Hres.out,Fr.refl _ _⟩
 case round=>
  obtain ⟨rs,m,sec,ov,out,hL,HSa,hfu,hbu,hmn,hol,Hq,Hf⟩:=hrel;have hF1:wr.heap[F]?=some (.cells #[.int .i64 0,.int .i64 0] 37 (0,0)):=Hf.out.heap HF.out o_;have hMr:Zi wr:=HM.out.fr Hf.out o_;have hBr:Below F w wr:=HB.out.trans (Hf.out.below F (by have:=Zb HF.out;omega) (by intro k hk;omega));have HF1:=h_ hF1;have HMr:=h_ hMr;clear hMr;have HBr:=h_ hBr;clear hBr;have hFlt:=Zb hF1;obtain ⟨fc,ff,fs,-⟩:=rd hF1;have fc0:wr.cell? ⟨F,0,none⟩=some (.int .i64 0):=by rw [fc];rfl
  have fc1:wr.cell? ⟨F,1,none⟩=some (.int .i64 0):=by rw [fc];rfl
  have ff0:=ff 0;have ff1:=ff 1;have fs':wr.shape? F=some (37,2):=fs;clear fc ff fs hF1;obtain ⟨oa,cap,c0,c1,c2,c3,f2,f3,hhead⟩:=hL.rd;rcases rs with _|⟨x,r⟩
  ·clear hhead
   simp only [List.length_nil] at c0;have HR:=h_ (show res=.ok out from Hq.out.symm);obtain ⟨va,vl,vc,hov⟩:∃oa ln c,ov=.slice oa ln c:=by obtain ⟨_,_,_,h⟩:=hL;exact h
   subst hov;go_wp2_with fail;refine bodyPost_ret (v:=.tuple #[.slice va vl vc,Zbv 0 0]) (by simp [results,results18,go_sem,Zbv,fc0,fc1]) rfl ?_;rw [HR.out];exact Zpi HFn.out HBr.out HSa.out (Fr.setCell (M:=(·=F)) (p:=⟨F,1,none⟩) (Fr.setCell (M:=(·=F)) (p:=⟨F,0,none⟩) (Fr.refl _ _) (fun _=>rfl) _) (fun _=>rfl) _)
  ·obtain ⟨b,o,rfl,hx⟩:=hhead x r rfl
   clear hhead;simp only [List.length_cons] at hmn hfu c0;simp only [Qy] at hbu;have hxs:(⟨x.toArray⟩:ByteArray).size<=9223372036854775807:=by show x.length<=_;omega
   cases hrem:YF x with
   |true=>
    have HR:=h_ (show Qn (YS r (m+1)) sec out=res by rw [<-Hq.out,ZbZ (by rw [hrem];rfl)]);have HRem:=h_ hrem;clear hrem;go_wp2_with (go_at_call 39;refine (JH _ _ hxs _ HRem.out).mono ?_);rintro e w3 ⟨rfl,hb3⟩;have hL3:=hL.below hb3;have HS3:=h_ (Said.below HSa.out hb3);have HF3:=h_ (Hf.out.trans (Fr.of_below hb3 _));clear hb3 c0 c1 c2 c3 f2 f3;go_wp2_with (go_at_call 41;refine (ZaL (F+1+1) x r m sec ov _ hL3 o_).mono ?_);rintro e w4 ⟨rfl,hL4,hf4⟩;have HS4:=h_ (HS3.out.fr hf4 (fun k hk=>by omega));have HF4:=h_ (HF3.out.trans (hf4.mono (fun i _ (h:i=F+1+1)=>by omega)));exact m137_
   |false=>
    cases hvo:JZ x with
    |true=>
     have HR:=h_ (show Qn (YS r (m+1)) sec out=res by rw [<-Hq.out,ZbZ (by rw [hvo,Bool.or_true])]);have HRem:=h_ hrem;clear hrem;have HVo:=h_ (show trimS x=[] by unfold JZ at hvo;simpa using hvo);clear hvo;go_wp2_with (go_at_call 39;refine (JH _ _ hxs _ HRem.out).mono ?_);rintro e w3 ⟨rfl,hb3⟩;have hL3:=hL.below hb3;have HS3:=h_ (Said.below HSa.out hb3);have HF3:=h_ (Hf.out.trans (Fr.of_below hb3 (fun b=>F+1+1<=b)));clear hb3 c0 c1 c2 c3 f2 f3 hL;obtain ⟨oa3,cap3,c0,c1,c2,c3,f2,f3,hhead⟩:=hL3.rd;obtain ⟨b3,o3,rfl,hx3⟩:=hhead x r rfl;clear hhead;simp only [List.length_cons] at c0;go_wp2_with (go_at_call 40;refine (Z5 _ _ hxs _ HVo.out).mono ?_);rintro e w5 ⟨rfl,hb5⟩;have hL5:=hL3.below hb5;have HS5:=h_ (Said.below HS3.out hb5);have HF5:=h_ (HF3.out.trans (Fr.of_below hb5 _));clear hb5 c0 c1 c2 c3 f2 f3;go_wp2_with (go_at_call 41;refine (ZaL (F+1+1) x r m sec ov _ hL5 o_).mono ?_);rintro e w4 ⟨rfl,hL4,hf4⟩;have HS4:=h_ (HS5.out.fr hf4 (fun k hk=>by omega));have HF4:=h_ (HF5.out.trans (hf4.mono (fun i _ (h:i=F+1+1)=>by omega)));exact m137_
    |false=>
     have hj1:=Zaz r x (m+1);have hj2:=ZcA r x (m+1);have hj3:=ZdW r x (m+1);have hwl:=Zei (x:=x) (r:=r) (n:=m) (by rw [hrem,hvo];rfl);have hq:=Hq.out;rw [hwl] at hq;clear hwl Hq;obtain ⟨J,hJ⟩:∃J,Yu x r (m+1)=J:=⟨_,rfl⟩;rw [hJ] at hj1 hj2 hj3 hq;obtain ⟨t,rs',m'⟩:=J;simp only at hj1 hj2 hj3 hq;have HJ:=h_ hJ;clear hJ;have HRem:=h_ hrem;clear hrem;obtain ⟨tx,htx⟩:∃tx,trimS x=tx:=⟨_,rfl⟩;obtain ⟨y,hy⟩:∃y:ByteArray,y=⟨tx.toArray⟩:=⟨_,rfl⟩;have hy0:y.size≠0:=by
      rw [hy];intro e;have e':tx=[]:=List.eq_nil_of_length_eq_zero e;unfold JZ at hvo;rw [htx,e'] at hvo;cases hvo
     obtain ⟨n1,n2,n3,n4⟩:=X5 hy0;have HY:=h_ hy.symm;clear hy hvo;have HTx:=h_ htx;clear htx;go_wp2_with (go_at_call 39;refine (JH _ _ hxs _ HRem.out).mono ?_);rintro e w3 ⟨rfl,hb3⟩;have hL3:=hL.below hb3;have HS3:=h_ (Said.below HSa.out hb3);have HF3:=h_ (Hf.out.trans (Fr.of_below hb3 (fun b=>F+1+1<=b)));clear hb3 c0 c1 c2 c3 f2 f3 hL;obtain ⟨oa3,cap3,c0,c1,c2,c3,f2,f3,hhead⟩:=hL3.rd;obtain ⟨b3,o3,rfl,hx3⟩:=hhead x r rfl;clear hhead;simp only [List.length_cons] at c0;go_wp2_with (go_at_call 40;refine (Z5 _ _ hxs _ HTx.out).mono ?_);rintro e w5 ⟨rfl,hb5⟩;have hL5:=hL3.below hb5;have HS5:=h_ (Said.below HS3.out hb5);have HF5:=h_ (HF3.out.trans (Fr.of_below hb5 _));rw [HY.out];clear hb5 c0 c1 c2 c3 f2 f3;obtain ⟨oa5,cap5,c0,c1,c2,c3,f2,f3,-⟩:=hL5.rd;go_wp2_with (go_at_call 43;refine (ZjZ (F+1+1) x r m sec ov _ hL5 o_ (by simp only [Qy];omega) _ HJ.out).mono ?_);rintro e w6 ⟨rfl,hL6,hf6⟩;have HS6:=h_ (HS5.out.fr hf6 (fun k hk=>by omega));have HF6:=h_ (HF5.out.trans (hf6.mono (fun i _ (h:i=F+1+1)=>by omega)));simp only at hL6;clear hf6 c0 c1 c2 c3 f2 f3 fc0 fc1 ff0 ff1 fs' n1 n2 n3 n4;have hM6:Zi w6:=HM.out.fr HF6.out o_;go_wp2_with fail;refine (Zrv _ (F+1+1) rs' m' sec ov out (m+1) t w6 rfl hL6 HS6.out hM6 o_ o_ o_ _ rfl).mono ?_;intro e w7 hout;simp only [Qn] at hq;cases hs7:J5 sec t with
     |err c=>
      rw [hs7] at hout hq;obtain ⟨rfl,hb7⟩:=hout;have hc:=Zo8 hs7;have hc0:((c:Int)!=0)=true:=by rw [bne_iff_ne];omega
      simp only at hq;have HR:=h_ hq.symm;have HF7:=h_ (HF6.out.trans (Fr.of_below hb7 _));have hF7:w7.heap[F]?=some (.cells #[.int .i64 0,.int .i64 0] 37 (0,0)):=HF7.out.heap HF.out o_;have hBr7:Below F w w7:=HB.out.trans (HF7.out.below F (by have:=Zb HF.out;omega) (by intro k hk;omega));have HBr7:=h_ hBr7;have hFlt7:=Zb hF7;obtain ⟨fc,ff,fs,-⟩:=rd hF7;have fc0:w7.cell? ⟨F,0,none⟩=some (.int .i64 0):=by rw [fc];rfl
      have fc1:w7.cell? ⟨F,1,none⟩=some (.int .i64 0):=by rw [fc];rfl
      have ff0:=ff 0;have ff1:=ff 1;have fs':w7.shape? F=some (37,2):=fs;clear fc ff fs hF7 hq hs7 hc hb7 hBr7;go_wp2_with fail;refine bodyPost_ret (v:=.tuple #[.slice none 0 0,Zbv c ((m:Int)+1)]) (by simp [results,results18,go_sem,Zbv,fc0,fc1]) rfl ?_;rw [HR.out];exact Zmw HFn.out HBr7.out (Fr.setCell (M:=(·=F)) (p:=⟨F,1,none⟩) (Fr.setCell (M:=(·=F)) (p:=⟨F,0,none⟩) (Fr.refl _ _) (fun _=>rfl) _) (fun _=>rfl) _) rfl
     |nothing=>
      rw [hs7] at hout hq;obtain ⟨rfl,hb7⟩:=hout;have HR:=h_ hq;have hL7:=hL6.below hb7;have HS7:=h_ (Said.below HS6.out hb7);have HF7:=h_ (HF6.out.trans (Fr.of_below hb7 _));clear hb7 hq hs7;go_wp2_with fail;go_roundg (gk-1)
      case measure=>omega
      case rel=>exact ⟨rs',m',sec,ov,out,hL7,HS7,o_,o_,o_,o_,HR,HF7⟩
     |sect name=>
      rw [hs7] at hout hq;obtain ⟨rfl,hL7,hS7,hf7⟩:=hout;have HR:=h_ hq;have HS7:=h_ hS7;have HF7:=h_ (HF6.out.trans (hf7.mono (fun i _ (h:i=F+1+1)=>by omega)));clear hf7 hq hs7 hS7;go_wp2_with fail;go_roundg (gk-1)
      case measure=>omega
      case rel=>exact ⟨rs',m',name,ov,out,hL7,HS7,o_,o_,o_,o_,HR,HF7⟩
     |pair k v=>
      rw [hs7] at hout hq;obtain ⟨rfl,ov',hL7,hS7,hf7⟩:=hout;have HR:=h_ hq;have HS7:=h_ hS7;have HF7:=h_ (HF6.out.trans hf7);clear hf7 hq hs7 hS7;go_wp2_with fail;go_roundg (gk-1)
      case measure=>omega
      case rel=>exact ⟨rs',m',sec,ov',_,hL7,HS7,o_,o_,o_,n5_,HR,HF7⟩
structure ZeR(u:UV):Prop where
 small:∀j,Zt (u j)
 sum:((List.range 35).map fun j=>(u j).len).sum<=1048576
theorem ZeR.of{u:UV}{B:List Nat}(hl:B.length=35)(hs:B.sum<=1048576)(ht:∀j,(u j).tight (B.getD j 0)):ZeR u:=by
 refine ⟨fun j=>ZjE (ht j) (by have:=ZqD B j;omega),?_⟩;have h2:=ZeT (f:=fun j=>(u j).len) (g:=fun j=>B.getD j 0) (List.range 35) (fun j _=>ZgZ (ht j));have h3:=ZmO B;rw [hl] at h3;rw [h3] at h2;omega
theorem ZeR.smallU{u:UV}(h:ZeR u):Yw u:=Yw.of h.small (by have:=Zpa u;have:=h.sum;omega)
theorem ZeR.named{u:UV}(h:ZeR u){nm:Str}(hn:nm.length<=100000000):ZeR (u.upd 0 (.s nm)):=by
 refine ⟨Zt.upd h.small 0 (Zt.s hn),Nat.le_trans (ZeT (g:=fun j=>(u j).len) _ (fun j _=>?_)) h.sum⟩;unfold UV.upd;split
 ·exact Nat.zero_le _
 ·exact Nat.le_refl _
theorem Zql{w:World}{oa:Option Addr}{l:List Ln}(h:QB w oa l):Zw Yl 4 w oa l:=by
 intro i hi;obtain ⟨b,o,e,h0,h1,h2,h3⟩:=h i hi;refine ⟨b,o,e,World.block_lt_of_cell? w _ h0,fun j v hj=>?_⟩;rcases j with _|_|_|_|j
 ·have hj':some (Value.string ⟨l[i].sec.toArray⟩)=some v:=hj
  rw [<-hj'];exact h0
 ·have hj':some (Value.string ⟨l[i].key.toArray⟩)=some v:=hj
  rw [<-hj'];exact h1
 ·have hj':some (Value.string ⟨l[i].val.toArray⟩)=some v:=hj
  rw [<-hj'];exact h2
 ·have hj':some (Value.int .i64 l[i].at_)=some v:=hj
  rw [<-hj'];exact h3
 ·exact absurd hj (by simp [Yl])
theorem Zgt(u:UV)(h:Zci u=true)(w:World)(hm:Zi w) :
  Calls prog 18 #[.string ⟨(X8 u).toArray⟩] w fun e w'=>Below w.heap.size w w'/\∃oa cap,e=.returned (.tuple #[.slice oa (Z4 u).length cap,.agg #[.int .i64 0,.int .i64 0]])/\Zw Yl 4 w' oa (Z4 u):=by
 have hp:=ZbV h;have hl:(X8 u).length<=20000:=by
  have h1:=(Jv h).2.2;unfold ZdE at h1;simp only [Bool.and_eq_true,decide_eq_true_eq] at h1;rw [(JV h).1];exact h1.2
 unfold ZhX at hp;rw [if_pos hl] at hp;refine (Znz ⟨(X8 u).toArray⟩ w hm (by show (X8 u).toArray.size<=_;simpa using hl) (.ok (Z4 u)) (by simpa using hp)).mono ?_;rintro e w' ⟨hb,v,rfl,hv⟩;obtain ⟨oa,cap,rfl⟩:=ownsRow_form hv;exact ⟨hb,oa,cap,rfl,Zql (QB.of_own hv)⟩
theorem ZfK(u:UV)(sm:Yw u):(Z4 u).length<=2000000:=by unfold Z4;split;exact ZbM u sm;exact Nat.zero_le _
theorem Za6:Zx JC:=Zx.upd (Zx.upd (Zx.upd (Zx.new Zfs) 4 (.rs [(2,Znh)]) rfl) 9 (.cs [(true,[Zrf,Znd])]) rfl) 16 (.n 60) rfl
theorem ZoR(W:World)(cs:Array Value)(h:ZI W cs (ZT Zfs))(b1 b2 b3:Nat)(h1:W.heap[b1]?=some (.cells (QE ((2:Int),Znh)).toArray 47 (0,0)))(h2:W.heap[b2]?=some (.cells (Zj [Zrf,Znd]).toArray 9 (0,0)))
  (h3:W.heap[b3]?=some (.cells (ZgO ⟨true,some ⟨b2,0,none⟩,2,2⟩).toArray 49 (0,0))) :
  ZI W (((cs.setIfInBounds 4 (.slice (some ⟨b1,0,none⟩) 1 1)).setIfInBounds 9 (.slice (some ⟨b3,0,none⟩) 1 1)).setIfInBounds 16 (.int .i64 60)) JC:=by
 refine ⟨by simp [h.size],fun j v hv=>?_⟩;have hsz:=h.size;unfold JC;by_cases e16:j=16
 ·subst e16
  rw [Array.getElem?_setIfInBounds_self_of_lt (by simp [hsz])] at hv;injection hv with hv
  subst hv;rw [UV.upd_at];rfl
 rw [Array.getElem?_setIfInBounds_ne (Ne.symm e16)] at hv;rw [UV.upd_ne _ _ e16];by_cases e9:j=9
 ·subst e9
  rw [Array.getElem?_setIfInBounds_self_of_lt (by simp [hsz])] at hv;injection hv with hv
  subst hv;rw [UV.upd_at];refine ⟨_,1,[⟨true,some ⟨b2,0,none⟩,2,2⟩],rfl,⟨rfl,fun i hi=>?_,fun i g1 g2=>?_⟩,d_⟩
  ·obtain rfl:i=0:=n54_
   refine ⟨b3,0,rfl,Zb h3,fun j v hj=>?_⟩;rw [(rd h3).1];simpa using hj
  ·obtain rfl:i=0:=by simpa using g1
   refine ⟨rfl,rfl,fun i hi=>⟨b2,0,rfl,?_⟩,by show 2<=maxLen;decide⟩;rw [(rd h2).1];rcases (show i=0\/i=1 by have:i<2:=hi;omega) with rfl|rfl<;>rfl
 rw [Array.getElem?_setIfInBounds_ne (Ne.symm e9)] at hv;rw [UV.upd_ne _ _ e9];by_cases e4:j=4
 ·subst e4
  rw [Array.getElem?_setIfInBounds_self_of_lt (by simp [hsz])] at hv;injection hv with hv
  subst hv;rw [UV.upd_at];refine ⟨_,1,rfl,fun i hi=>?_,d_⟩;obtain rfl:i=0:=n54_;refine ⟨b1,0,rfl,Zb h1,fun j v hj=>?_⟩;rw [(rd h1).1];simpa using hj
 rw [Array.getElem?_setIfInBounds_ne (Ne.symm e4)] at hv;rw [UV.upd_ne _ _ e4];exact h.fld j v hv
theorem Zk7(w:World)(hM:Zi w)(hP:Pow w):Calls prog 7 #[] w fun e w'=>e=.returned (.bool true)/\Below w.heap.size w w':=by
 have HM:=h_ (fun W (h:Below w.heap.size w W)=>hM.below h);have HP:=h_ (fun W (h:Below w.heap.size w W)=>hP.below h);have HN:=h_ (fun W (h:Below w.heap.size w W)=>Zib Zfs W d_ (hM.below h));obtain ⟨cs,hcs⟩:=e_ (Z7 (ZT Zfs));have HSC:=h_ (show (prog.info? 28).map (·.size)=some cs.size by rw [hcs];kernel_rfl);have HSZ:=h_ (show Zd.size=cs.size by rw [hcs];simp [Z7];rfl);have HON:=h_ (show (cs.all fun x=>x.oneCell')=true by rw [hcs];decide +kernel);have HSE:=h_ (fun W=>show ZI W cs (ZT Zfs) by rw [hcs];exact ZmW W Zfs);have HC4:=h_ (show cs[4]?=some (.slice none 0 0) by rw [hcs];exact ZbJ _ 4 d_);have HC9:=h_ (show cs[9]?=some (.slice none 0 0) by rw [hcs];exact ZbJ _ 9 d_);have HC16:=h_ (show cs[16]?=some (.int .i64 90) by rw [hcs];exact ZbJ _ 16 d_);rw [<-hcs] at HN;have HCS:=h_ hcs;clear hM hP hcs;go_enter func7,ntmps7;go_wp2_with fail;refine (HN.out _ b_).mono ?_;rintro e w2 ⟨rfl,hb2⟩;have HB:=h_ hb2;clear hb2;go_upto_region 2 with (first
  |(refine YN rfl _ Zd rfl (ZE _) ?_;intro w3 h3 hb3)
  |(refine Yi rfl 28 _ _ w2.heap.size cs Zd 28 rfl rfl rfl h3 HSZ.out HSC.out HON.out ?_;intro w4 h4 hf4))
 have HX:=h_ h4;have HB4:=h_ (HB.out.trans ((hb3.trans (hf4.below w2.heap.size hb3.size (fun k hk e=>by omega))).mono HB.out.size));have HL:=h_ HB.out.size;clear h3 hb3 h4 hf4 HB;obtain ⟨O1,hO1⟩:=e_ (Obj.cells #[.int .i64 2,.string ⟨#[98,46,116,97,114,103,101,116]⟩] 47 (0,0));have q4:=((rd (heap_alloc HX.out O1)).1 4).trans HC4.out;have p4:=(rd (heap_alloc HX.out O1)).2.1 4;rw [hO1] at q4 p4;go_upto_region 3 with fail
 rw [<-hO1];have HX5:=h_ (heap_setCell (heap_alloc HX.out O1) 4 (.slice (some ⟨w4.heap.size,0,none⟩) 1 1));have HR1:=h_ (Zu (heap_alloc_new w4 O1) (a:=⟨w2.heap.size,4,none⟩) (Nat.ne_of_gt (Zb HX.out)) (.slice (some ⟨w4.heap.size,0,none⟩) 1 1));have HB5:=h_ ((HB4.out.alloc HB4.out.size O1).setCell (p:=⟨w2.heap.size,4,none⟩) HL.out (.slice (some ⟨w4.heap.size,0,none⟩) 1 1));have HN1:=h_ (show w4.heap.size≠w2.heap.size from Nat.ne_of_gt (Zb HX.out));generalize (w4.alloc O1).setCell ⟨w2.heap.size,4,none⟩ (.slice (some ⟨w4.heap.size,0,none⟩) 1 1)=w5 at HX5 HR1 HB5⊢;rw [show O1=Obj.cells (QE ((2:Int),Znh)).toArray 47 (0,0) from hO1] at HR1;generalize w4.heap.size=b1 at HX5 HR1 HN1⊢;clear q4 p4 HX HB4 hO1 O1;obtain ⟨cs1,hcs1⟩:=e_ (cs.setIfInBounds 4 (.slice (some ⟨b1,0,none⟩) 1 1));rw [<-hcs1] at HX5;have HC9':=h_ (show cs1[9]?=some (.slice none 0 0) by rw [hcs1,Array.getElem?_setIfInBounds_ne d_];exact HC9.out);have HC16':=h_ (show cs1[16]?=some (.int .i64 90) by rw [hcs1,Array.getElem?_setIfInBounds_ne d_];exact HC16.out);have HCS1:=h_ hcs1;clear hcs1 HC4 HC9 HC16;obtain ⟨O2,hO2⟩:=e_ (Obj.cells #[.string ⟨#[114,117,110]⟩,.string ⟨#[53,37]⟩] 9 (0,0));obtain ⟨O3,hO3⟩:=e_ (Obj.cells #[.bool true,.slice (some ⟨w5.heap.size,0,none⟩) 2 2] 49 (0,0));have hX:=heap_alloc (heap_alloc HX5.out O2) O3;have q9:=((rd hX).1 9).trans HC9'.out;have p9:=(rd hX).2.1 9;rw [hO2,hO3] at q9 p9;go_upto_region 4 with fail
 rw [<-hO2,<-hO3];have hr3:=heap_alloc_new (w5.alloc O2) O3;rw [show (w5.alloc O2).heap.size=w5.heap.size+1 by simp] at hr3;have hn2:w5.heap.size≠w2.heap.size:=Nat.ne_of_gt (Zb HX5.out);have HX6:=h_ (heap_setCell hX 9 (.slice (some ⟨w5.heap.size+1,0,none⟩) 1 1));have HR1':=h_ (Zu (heap_alloc (heap_alloc HR1.out O2) O3) (a:=⟨w2.heap.size,9,none⟩) HN1.out (.slice (some ⟨w5.heap.size+1,0,none⟩) 1 1));have HR2:=h_ (Zu (heap_alloc (heap_alloc_new w5 O2) O3) (a:=⟨w2.heap.size,9,none⟩) hn2 (.slice (some ⟨w5.heap.size+1,0,none⟩) 1 1));have HR3:=h_ (Zu hr3 (a:=⟨w2.heap.size,9,none⟩) (by have:=Zb HX5.out;show w5.heap.size+1≠w2.heap.size;omega) (.slice (some ⟨w5.heap.size+1,0,none⟩) 1 1));have HN2:=h_ hn2;have HN3:=h_ (show w5.heap.size+1≠w2.heap.size by have:=Zb HX5.out;omega);have HB6:=h_ (((HB5.out.alloc HB5.out.size O2).alloc (HB5.out.alloc HB5.out.size O2).size O3).setCell (p:=⟨w2.heap.size,9,none⟩) HL.out (.slice (some ⟨w5.heap.size+1,0,none⟩) 1 1));generalize ((w5.alloc O2).alloc O3).setCell ⟨w2.heap.size,9,none⟩ (.slice (some ⟨w5.heap.size+1,0,none⟩) 1 1)=w6 at HX6 HR1' HR2 HR3 HB6⊢;rw [show O2=Obj.cells (Zj [Zrf,Znd]).toArray 9 (0,0) from hO2] at HR2;rw [show O3=Obj.cells (ZgO ⟨true,some ⟨w5.heap.size,0,none⟩,2,2⟩).toArray 49 (0,0) from hO3] at HR3;generalize w5.heap.size=b2 at HR2 HR3 HN2 HN3 HX6⊢;clear q9 p9 hX hr3 hn2 HX5 HR1 HB5 hO2 hO3 O2 O3;have q16:=((rd HX6.out).1 16).trans (show (cs1.setIfInBounds 9 (.slice (some ⟨b2+1,0,none⟩) 1 1))[16]?=some (.int .i64 90) by rw [Array.getElem?_setIfInBounds_ne d_];exact HC16'.out);have p16:=(rd HX6.out).2.1 16;go_upto_region 5 with fail
 have HX7:=h_ (heap_setCell HX6.out 16 (.int .i64 60));have HS1:=h_ (Zu HR1'.out (a:=⟨w2.heap.size,16,none⟩) HN1.out (.int .i64 60));have HS2:=h_ (Zu HR2.out (a:=⟨w2.heap.size,16,none⟩) HN2.out (.int .i64 60));have HS3:=h_ (Zu HR3.out (a:=⟨w2.heap.size,16,none⟩) HN3.out (.int .i64 60));have HB7:=h_ (HB6.out.setCell (p:=⟨w2.heap.size,16,none⟩) HL.out (.int .i64 60));generalize w6.setCell ⟨w2.heap.size,16,none⟩ (.int .i64 60)=w7 at HX7 HS1 HS2 HS3 HB7⊢;clear q16 p16 HX6 HR1' HR2 HR3 HB6 HN1 HN2 HN3 HC9' HC16' HSC HSZ HON HN;obtain ⟨C,hC⟩:=e_ ((cs1.setIfInBounds 9 (.slice (some ⟨b2+1,0,none⟩) 1 1)).setIfInBounds 16 (.int .i64 60));rw [<-hC] at HX7;rw [HCS1.out] at hC;have hsee:ZI w7 C JC:=by rw [hC];exact ZoR w7 cs (HSE.out w7) b1 b2 (b2+1) HS1.out HS2.out HS3.out
 have HSC:=h_ (show (prog.info? 28).map (·.size)=some C.size by rw [hsee.size];rfl);have HMY:=h_ (fun W (h:Below w7.heap.size w7 W) (g:Below w.heap.size w W)=>ZbR JC C W (hsee.below h) Za6 ZaW (HM.out W g) (HP.out W g) true Zlt);have HMZ:=h_ (fun W (g:Below w.heap.size w W)=>ZbR ZF Zd W (Xv.zero W).see Zx.zero Zjo (HM.out W g) (HP.out W g) false ZnY);have HTX:=h_ (fun W (h:Below w7.heap.size w7 W) (g:Below w.heap.size w W)=>Zd5 JC C W (hsee.below h) Za6 ZaW (HM.out W g) (HP.out W g) _ Zk1);have HLN:=h_ (fun W (h:Below w7.heap.size w7 W) (g:Below w.heap.size w W)=>ZcK JC C W (hsee.below h) Za6 ZaW (HM.out W g) (HP.out W g));clear hsee hC HS1 HS2 HS3 HCS1 HCS HSE HM HP;have HV:=h_ (Below.refl w7.heap.size w7);go_wp2_with (first|(refine Xl rfl 28 (.tmp 1) w2.heap.size C 28 _ rfl rfl HX7.out rfl rfl HSC.out ?_));refine (HMY.out _ HV.out HB7.out).mono ?_;rintro e w8 ⟨rfl,hb8⟩;replace HX7:=h_ (Za HX7.out hb8);replace HV:=h_ (HV.out.trans (hb8.mono HV.out.size));replace HB7:=h_ (HB7.out.trans (hb8.mono HB7.out.size));clear hb8 HMY;go_wp2_with (first|(refine Xl rfl 28 (.tmp 1) w2.heap.size C 28 _ rfl rfl HX7.out rfl rfl HSC.out ?_));refine (HTX.out _ HV.out HB7.out).mono ?_;rintro e w9 ⟨rfl,hb9⟩;replace HX7:=h_ (Za HX7.out hb9);replace HV:=h_ (HV.out.trans (hb9.mono HV.out.size));replace HB7:=h_ (HB7.out.trans (hb9.mono HB7.out.size));clear hb9 HTX;go_wp2_with (first|(refine ZnS rfl 28 #[] #[] _ rfl s_ (YU _) ?_));refine (HMZ.out _ HB7.out).mono ?_;rintro e w10 ⟨rfl,hb10⟩;replace HX7:=h_ (Za HX7.out hb10);replace HV:=h_ (HV.out.trans (hb10.mono HV.out.size));replace HB7:=h_ (HB7.out.trans (hb10.mono HB7.out.size));clear hb10 HMZ;go_wp2_with (first|(refine Xl rfl 28 (.tmp 1) w2.heap.size C 28 _ rfl rfl HX7.out rfl rfl HSC.out ?_));refine (HLN.out _ HV.out HB7.out).mono ?_;rintro e w11 ⟨la,lc,rfl,-,hb11,-⟩;rw [ZhR];replace HB7:=h_ (HB7.out.trans (hb11.mono HB7.out.size));clear hb11 HLN;go_wp2_with fail;go_ret;exact ⟨rfl,HB7.out⟩
theorem m138_{p:Prop}(h:p:=by intro a W hS hsz hdf _ hall;have s4:a.tmps[4]?=some (.bool true):=hall 14 _ 4 rfl rfl;have hge:a.tmps.getD 4 undef=.bool true:=(Zl s4).2;have HFF:=h_ (HB'.out.trans (hS.mono HB'.out.size));simp only [Exit.then];go_wp2_with fail;refine bodyPost_ret (results_tmp rfl _ _ _) hdf ⟨by rw [hge],HFF.out⟩):p:=h
theorem m139_{p:Prop}(h:p:=by exact Ye 28 (.tmp 3) (w.heap.size+1) cv 28 _ rfl (Zl hF.2).1 (Za HXB'.out hS) rfl rfl HCV.out ⟨rfl,hS⟩):p:=h
theorem m140_{p:Prop}(h:p:=by
  refine ZB (ZL rfl fun a W hS hF hs=>?_) ?_
  ·have s73:a.tmps[73]?=some (.bool true):=hs 13 _ 73 ⟨⟨13,.data⟩,s_,rfl,rfl⟩ rfl rfl;exact Yn (.bool true) (by obtain ⟨y0,z0⟩:=Zl s73;clear hs hS hF;go_simp) ⟨rfl,hS⟩
  exact trivial):p:=h
theorem m141_{p:Prop}(h:p:=by have s60:a.tmps[60]?=some (.agg cv):=hs 0 _ 60 ⟨⟨0,.data⟩,s_,rfl,rfl⟩ rfl rfl;exact Z8 (by obtain ⟨y0,z0⟩:=Zl s60;clear hs hS hF;go_simp) (HMV.out W (HB'.out.trans (hS.mono HB'.out.size))) n11_):p:=h
theorem m142_{p:Prop}(h:p:=by exact Ye 28 (.tmp 2) w.heap.size ca 28 _ rfl (Zl hF.1).1 (Za HXA'.out hS) rfl rfl HCA.out ⟨rfl,hS⟩):p:=h
theorem ZK{P:Program}{ops:Array Oper}{Q:Exit->Act->World->Prop}{F:Act->Prop}{S:World->Prop}{val:Nat->Value}{i g k:Nat}{og o:Oper}{acc:Bool}(hg:o.guard=some (g,false))(hog:ops[g]?=some og)(hk:og.dst=some k)(hwt:waits o g)(hv:val g=.bool acc)(hn:acc=true->val i=undef)
  (h:acc=false->∀(a:Act) (w:World),S w->F a->(∀j oj d,waits o j->ops[j]?=some oj->oj.dst=some d->a.tmps[d]?=some (val j))->Oper.wp P o a w (fun a' w'=>a'=a.put o.dst (val i)/\S w') Q):Zbi P ops Q F S val i o:=by
 intro a w hS hF hd;have hd2:∀j oj d,waits o j->ops[j]?=some oj->oj.dst=some d->a.tmps[d]?=some (val j):=fun j oj d ⟨e,he,hb,hj⟩ ho hdst=>by subst hj;exact hd e he hb oj d ho hdst
 have hflag:=hd2 g og k hwt hog hk;rw [hv] at hflag;have hgb:(ops[g]?).bind (·.dst)=some k:=by rw [hog];exact hk
 cases acc with
 |false=>
  rw [if_pos (Zf7 hg hgb hflag)];exact h rfl a w hS hF hd2
 |true=>
  rw [if_neg (Zhp hg hgb hflag)];exact hn rfl
theorem ZI.namedR{w:World}{cs:Array Value}{u:UV}(h:ZI w cs u)(x:Str):ZI w (cs.setIfInBounds 0 (.string ⟨x.toArray⟩)) (u.upd 0 (.s x)):=by
 refine ⟨by simp [h.size],fun j v hv=>?_⟩;by_cases hj:j=0
 ·subst hj
  rw [Array.getElem?_setIfInBounds_self_of_lt (by rw [h.size];decide)] at hv;injection hv with hv
  rw [UV.upd_at,<-hv];rfl
 ·rw [Array.getElem?_setIfInBounds_ne o_] at hv
  rw [UV.upd_ne _ _ hj];exact h.fld j v hv
theorem Zff(ca cb:Array Value)(a b:UV)(w:World)(hM:Zi w)(hP:Pow w)(sa:ZI w ca a)(sb:ZI w cb b)(ta:Zx a)(tb:Zx b)(ga:ZeR a)(gb:ZeR b) :
  Calls prog 6 #[.agg ca,.agg cb] w fun e w'=>e=.returned (.bool true)/\Below w.heap.size w w':=by
 have hB1:Below w.heap.size w (w.alloc (.cells ca 28)):=b_.alloc l_ _;have hz:(w.alloc (.cells ca 28)).heap.size=w.heap.size+1:=s_;have hgb:=heap_alloc_new (w.alloc (.cells ca 28)) (.cells cb 28);rw [hz] at hgb;have HXB:=h_ hgb;have HXA:=h_ (heap_alloc (heap_alloc_new w (.cells ca 28)) (.cells cb 28));have HB:=h_ (hB1.alloc hB1.size (.cells cb 28));have HCA:=h_ (show (prog.info? 28).map (·.size)=some ca.size by rw [sa.size];rfl);have HCB:=h_ (show (prog.info? 28).map (·.size)=some cb.size by rw [sb.size];rfl);have HM:=h_ (fun W (h:Below w.heap.size w W)=>hM.below h);have HP:=h_ (fun W (h:Below w.heap.size w W)=>hP.below h);have HSA:=h_ (fun W (h:Below w.heap.size w W)=>sa.below h);have HSB:=h_ (fun W (h:Below w.heap.size w W)=>sb.below h);have HTA:=h_ ta;have HTB:=h_ tb;have HGA:=h_ ga;have HGB:=h_ gb;have HSH:=h_ (fun W (h:Below w.heap.size w W)=>Zk7 W (hM.below h) (hP.below h));obtain ⟨ma,hma⟩:∃ma,Zci a=ma:=⟨_,rfl⟩;have HMY:=h_ (fun W (h:Below w.heap.size w W)=>ZbR a ca W (sa.below h) ta ga.smallU (hM.below h) (hP.below h) ma hma);have HTX:=h_ (fun W (h:Below w.heap.size w W)=>Zd5 a ca W (sa.below h) ta ga.smallU (hM.below h) (hP.below h) (X8 a) rfl);have HLN:=h_ (fun W (h:Below w.heap.size w W)=>ZcK a ca W (sa.below h) ta ga.smallU (hM.below h) (hP.below h));have HMA:=h_ hma;obtain ⟨v0,hv0,sv0⟩:=Zaq sa (show 0<35 by decide);obtain ⟨nm,en⟩:=ZpA (ta 0);rw [en] at sv0;obtain rfl:v0=.string ⟨nm.toArray⟩:=sv0;have HV0:=h_ hv0;have HEN:=h_ en;have HNL:=h_ (show nm.length<=100000000 by have:=(ga.small 0).str;rw [en] at this;exact this);clear hB1 hz hgb hM hP sa sb ta tb ga gb hma hv0 en;go_enter func6,ntmps6;go_wp2_with fail;generalize (w.alloc (.cells ca 28)).alloc (.cells cb 28)=w1 at HXA HXB HB⊢;refine (HSH.out _ HB.out).mono ?_;rintro e w2 ⟨rfl,hb2⟩;replace HB:=h_ (HB.out.trans (hb2.mono HB.out.size));replace HXA:=h_ (Za HXA.out hb2);replace HXB:=h_ (Za HXB.out hb2);clear hb2 HSH;go_wp2_with (first|(refine Xl rfl 28 (.tmp 2) w.heap.size ca 28 _ rfl rfl HXA.out rfl rfl HCA.out ?_));refine (HMY.out _ HB.out).mono ?_;rintro e w3 ⟨rfl,hb3⟩;replace HB:=h_ (HB.out.trans (hb3.mono HB.out.size));replace HXA:=h_ (Za HXA.out hb3);replace HXB:=h_ (Za HXB.out hb3);clear hb3 HMY;cases ma with
 |false=>
  obtain ⟨t0,l0⟩:=ZrB HMA.out;rw [t0] at HTX;go_wp2_with (first|(refine Xl rfl 28 (.tmp 2) w.heap.size ca 28 _ rfl rfl HXA.out rfl rfl HCA.out ?_));refine (HTX.out _ HB.out).mono ?_;rintro e w4 ⟨rfl,hb4⟩;replace HB:=h_ (HB.out.trans (hb4.mono HB.out.size));replace HXA:=h_ (Za HXA.out hb4);replace HXB:=h_ (Za HXB.out hb4);clear hb4 HTX t0;have HL0:=h_ l0;clear l0;go_wp2_with (first|(refine Xl rfl 28 (.tmp 2) w.heap.size ca 28 _ rfl rfl HXA.out rfl rfl HCA.out ?_));refine (HLN.out _ HB.out).mono ?_;rintro e w5 ⟨la,lc,rfl,-,hb5,-⟩;rw [HL0.out];replace HB:=h_ (HB.out.trans (hb5.mono HB.out.size));replace HXA:=h_ (Za HXA.out hb5);replace HXB:=h_ (Za HXB.out hb5);clear hb5;go_wp2_with fail;go_ret;exact ⟨rfl,HB.out⟩
 |true=>
  go_wp2_with (first|(refine Xl rfl 28 (.tmp 2) w.heap.size ca 28 _ rfl rfl HXA.out rfl rfl HCA.out ?_));refine (HTX.out _ HB.out).mono ?_;rintro e w4 ⟨rfl,hb4⟩;replace HB:=h_ (HB.out.trans (hb4.mono HB.out.size));replace HXA:=h_ (Za HXA.out hb4);replace HXB:=h_ (Za HXB.out hb4);clear hb4;go_wp2_with fail;refine (Zgt a HMA.out _ (HM.out _ HB.out)).mono ?_;rintro e w5 ⟨hb5,oa,cap,rfl,hrow⟩;replace HB:=h_ (HB.out.trans (hb5.mono HB.out.size));replace HXA:=h_ (Za HXA.out hb5);replace HXB:=h_ (Za HXB.out hb5);have HRW:=h_ hrow;clear hb5 hrow;go_upto_region 6 with fail
  have HFL:=h_ (heap_alloc_new w5 (.cells #[.int .i64 0,.int .i64 0] 37));have hb6:Below w5.heap.size w5 (w5.alloc (.cells #[.int .i64 0,.int .i64 0] 37)):=b_.alloc l_ _;generalize w5.alloc (.cells #[.int .i64 0,.int .i64 0] 37)=w6 at HFL hb6⊢;replace HB:=h_ (HB.out.trans (hb6.mono HB.out.size));replace HXA:=h_ (Za HXA.out hb6);replace HXB:=h_ (Za HXB.out hb6);replace HRW:=h_ (HRW.out.below hb6);clear hb6;have hraw:=(JV HMA.out).2;obtain ⟨p1,p2,p3⟩:=Jv HMA.out;rw [HEN.out] at p1 p2;obtain ⟨xu,xf,hmk⟩:∃xu xf,Qu nm (Z4 a)=(xu,xf):=⟨_,_,rfl⟩;rw [<-hraw] at p1 p2;have hxf:xf=(0,0):=by have h:(Qu nm (Z4 a)).2=(0,0):=p1;rw [hmk] at h;exact h
  have HXS:=h_ (show Xw xu a=true by have h:Xw (Qu nm (Z4 a)).1 a=true:=p2;rw [hmk] at h;exact h);have HXT:=h_ (show Zx xu by have:=Zd7 nm (Z4 a);rw [hmk] at this;exact this);subst hxf;have HMK:=h_ (fun W o c (hm:Zi W) (hr:Zw Yl 4 W o (Z4 a))=>show Calls prog 15 #[.string ⟨nm.toArray⟩,.slice o (Z4 a).length c] W (fun e w'=>ZhK W (xu,((0:Int),(0:Int))) e w') from by
   rw [<-hmk];exact Zg7 nm (Z4 a) o c W hm hr (by have:=ZfK a HGA.out.smallU;omega) (by rw [hraw];exact ZiX a HGA.out.smallU nm) (by have:=HNL.out;omega))
  clear p1 p2 p3 hmk hraw;have q0:=((rd HXA.out).1 0).trans HV0.out;go_wp2_with fail;clear q0;refine (HMK.out _ oa cap (HM.out _ HB.out) HRW.out).mono ?_;rintro e w8 ⟨hb8,cs8,rfl,hrd8⟩;replace HB:=h_ (HB.out.trans (hb8.mono HB.out.size));replace HXA:=h_ (Za HXA.out hb8);replace HXB:=h_ (Za HXB.out hb8);replace HRW:=h_ (HRW.out.below hb8);replace HFL:=h_ (Za HFL.out hb8);have L8HXA:=h_ (Zb HXA.out);have L8HXB:=h_ (Zb HXB.out);have L8HFL:=h_ (Zb HFL.out);have LW8:=h_ HB.out.size;have HON8:=h_ hrd8.one;have HSC8:=h_ (show (prog.info? 28).map (·.size)=some cs8.size by rw [hrd8.size];rfl);have HSZ8:=h_ (show Zd.size=cs8.size by rw [hrd8.size];rfl);have HU8:=h_ hrd8;have HV8:=h_ (Below.refl w8.heap.size w8);clear hb8 hrd8;go_upto_region 7 with (first
   |(refine YN rfl _ Zd rfl (ZE _) ?_;intro wa8 ha8 hba8)
   |(refine Yi rfl 28 (.tmp 7) (.tmp 34) w8.heap.size cs8 Zd 28 rfl rfl rfl (Za ha8 (b_.alloc l_ _)) HSZ8.out HSC8.out HON8.out ?_;intro wb8 hc8 hf8;have tv8:=Zjk ha8 hba8 hc8 hf8;refine Yi rfl 37 (.tmp 8) (.tmp 35) wa8.heap.size #[.int .i64 0,.int .i64 0] #[.int .i64 0,.int .i64 0] 37 rfl rfl rfl tv8.1 rfl rfl (ZhF 0 0) ?_;intro v8 hd8 hg8;have tw8:=Zhn hc8 tv8 hg8))
  replace HB:=h_ (HB.out.trans (tw8.2.1.mono HB.out.size));replace HXA:=h_ (Za HXA.out tw8.2.1);replace HXB:=h_ (Za HXB.out tw8.2.1);replace HRW:=h_ (HRW.out.below tw8.2.1);replace HFL:=h_ (Za HFL.out tw8.2.1);replace HV8:=h_ (HV8.out.trans (tw8.2.1.mono HV8.out.size));have HX8:=h_ tw8.1;have HF8:=h_ hd8;have LO8:=h_ tw8.2.2;clear ha8 hba8 hc8 hf8 tv8 hg8 tw8 hd8;clear HMK;obtain ⟨g0,g1,-,-⟩:=Xd HF8.out;obtain ⟨k0,k1,-,-⟩:=Xd HFL.out;have r1:=Zgn 0 0 0 0 true d_;have HSM:=h_ (ZaR cs8 ca xu a v8 (HU8.out.see.below HV8.out) (HSA.out _ HB.out) HXT.out HTA.out true HXS.out);go_wp2_with (first
   |(refine Xl rfl 28 (.tmp 2) w.heap.size ca 28 _ rfl rfl HXA.out rfl rfl HCA.out ?_)
   |(refine Xl rfl 28 (.tmp 7) w8.heap.size cs8 28 _ rfl rfl HX8.out rfl rfl HSC8.out ?_))
  refine HSM.out.mono ?_;rintro e w9 ⟨rfl,hb9⟩;replace HB:=h_ (HB.out.trans (hb9.mono HB.out.size));replace HXA:=h_ (Za HXA.out hb9);replace HXB:=h_ (Za HXB.out hb9);replace HRW:=h_ (HRW.out.below hb9);clear hb9 g0 g1 k0 k1 r1 HF8 HX8 HFL HV8 HSM;go_wp2_with (first|(refine Xl rfl 28 (.tmp 2) w.heap.size ca 28 _ rfl rfl HXA.out rfl rfl HCA.out ?_));refine (HLN.out _ HB.out).mono ?_;rintro e w10 ⟨la,lc,rfl,hrow,hb10,-⟩;have HSL:=h_ (Zkn oa la cap lc (Z4 a) w10 (ZhU (HRW.out.below hb10)) (ZhU hrow) (by have:=ZfK a HGA.out.smallU;omega));replace HB:=h_ (HB.out.trans (hb10.mono HB.out.size));replace HXA:=h_ (Za HXA.out hb10);replace HXB:=h_ (Za HXB.out hb10);clear hb10 HRW hrow;go_wp2_with fail;refine HSL.out.mono ?_;rintro e w11 ⟨rfl,hb11⟩;replace HB:=h_ (HB.out.trans (hb11.mono HB.out.size));replace HXA:=h_ (Za HXA.out hb11);replace HXB:=h_ (Za HXB.out hb11);clear hb11 HSL;obtain ⟨t0,p1,-⟩:=Zaq (HSB.out _ HB.out) (show 0<35 by decide);have z1:=((rd HXA.out).1 0).trans HV0.out;have z2:=((rd HXB.out).1 0).trans p1;have z3:=(rd HXB.out).2.1 0;clear p1;go_upto_region 10 with fail
  have HXA':=h_ (Zu HXA.out (a:=⟨w.heap.size+1,0,none⟩) (Nat.ne_of_lt (Nat.lt_succ_self _)) (.string ⟨nm.toArray⟩));have HXB':=h_ (heap_setCell HXB.out 0 (.string ⟨nm.toArray⟩));have HB':=h_ (HB.out.setCell (p:=⟨w.heap.size+1,0,none⟩) (Nat.le_succ _) (.string ⟨nm.toArray⟩));generalize w11.setCell ⟨w.heap.size+1,0,none⟩ (.string ⟨nm.toArray⟩)=wz at HXA' HXB' HB'⊢;clear z1 z2 z3 HXA HXB HB HLN HXS HXT;have HSV:=h_ (fun W (h:Below w.heap.size w W)=>(HSB.out W h).namedR nm);obtain ⟨cv,hcv⟩:=e_ (cb.setIfInBounds 0 (.string ⟨nm.toArray⟩));obtain ⟨v,hv⟩:∃v:UV,v=b.upd 0 (.s nm):=⟨_,rfl⟩;have HTV:=h_ (show Zx v by rw [hv];exact HTB.out.upd 0 (.s nm) rfl);have HGV:=h_ (show ZeR v by rw [hv];exact HGB.out.named HNL.out);have HVA:=h_ (show v 0=a 0 by rw [hv,UV.upd_at];exact HEN.out.symm);have HCV:=h_ (show (prog.info? 28).map (·.size)=some cv.size by rw [hcv,Array.size_setIfInBounds];exact HCB.out);rw [<-hcv,<-hv] at HSV;rw [<-hcv] at HXB';clear hcv hv HTB HGB HSB HCB HEN HNL HV0;obtain ⟨mv,hmv⟩:∃mv,Zci v=mv:=⟨_,rfl⟩;have HMV:=h_ (fun W (h:Below w.heap.size w W)=>ZbR v cv W (HSV.out W h) HTV.out HGV.out.smallU (HM.out W h) (HP.out W h) mv hmv);have HTY:=h_ (fun W (h:Below w.heap.size w W)=>Zd5 v cv W (HSV.out W h) HTV.out HGV.out.smallU (HM.out W h) (HP.out W h) (X8 v) rfl);obtain ⟨sv,hsv⟩:∃sv,Xw a v=sv:=⟨_,rfl⟩;have HSS:=h_ (fun W (h:Below w.heap.size w W)=>ZaR ca cv a v W (HSA.out W h) (HSV.out W h) HTA.out HTV.out sv hsv);have HEQ:=h_ (show mv=true->(X8 a==X8 v)=sv from fun h=>by rw [<-hsv];exact ZnF HMA.out (hmv.trans h) HVA.out);clear hmv hsv HM HP HSA HSV HTA HTV HGA HGV HVA HMA;generalize X8 a=xa at HTX HEQ;generalize X8 v=xv at HTY HEQ;have HV:=h_ (Below.refl wz.heap.size wz);cases mv with
  |false=>
   let vals:List Value:=[.agg cv,.bool false,.bool true,.bool true,undef,undef,undef,undef,undef,undef,undef,undef,undef,.bool true,.bool true];refine JK (N:=74) (fun a=>a.tmps[2]?=some (.pointer (some ⟨w.heap.size,0,none⟩))/\a.tmps[3]?=some (.pointer (some ⟨w.heap.size+1,0,none⟩))) (fun W=>Below wz.heap.size wz W) (fun i=>vals.getD i undef) [60,61,62,63,64,65,66,67,68,69,70,71,72,73,4] k_ k_ rfl (Zc ⟨1,rfl⟩) (fun a' h=>⟨(h 2 (Zb4 k_)).trans rfl,(h 3 (Zb4 k_)).trans rfl⟩) ?_ ?_
   ·refine Zic ?_
    simp only [List.append_eq,List.cons_append,List.nil_append];refine ZB (ZL rfl fun a W hS hF hs=>?_) ?_
    ·exact m139_
    refine ZB (ZL rfl fun a W hS hF hs=>?_) ?_
    ·exact m141_
    refine ZB (ZL rfl fun a W hS hF hs=>?_) ?_
    ·have s61:a.tmps[61]?=some (.bool false):=hs 1 _ 61 ⟨⟨1,.data⟩,s_,rfl,rfl⟩ rfl rfl;exact Yn (.bool true) (by obtain ⟨y0,z0⟩:=Zl s61;clear hs hS hF;go_simp) ⟨rfl,hS⟩
    refine ZB (ZL rfl fun a W hS hF hs=>?_) ?_
    ·have s62:a.tmps[62]?=some (.bool true):=hs 2 _ 62 ⟨⟨2,.data⟩,s_,rfl,rfl⟩ rfl rfl;exact Yn (.bool true) (by obtain ⟨y0,z0⟩:=Zl s62;clear hs hS hF;go_simp) ⟨rfl,hS⟩
    refine ZB (ZK (acc:=true) rfl (show _=some _ from rfl) (show _=some 63 from rfl) ⟨⟨3,.guard⟩,s_,rfl,rfl⟩ rfl (fun _=>rfl) (fun h=>by cases h)) ?_;refine ZB (ZK (acc:=true) rfl (show _=some _ from rfl) (show _=some 63 from rfl) ⟨⟨3,.guard⟩,s_,rfl,rfl⟩ rfl (fun _=>rfl) (fun h=>by cases h)) ?_;refine ZB (ZK (acc:=true) rfl (show _=some _ from rfl) (show _=some 63 from rfl) ⟨⟨3,.guard⟩,s_,rfl,rfl⟩ rfl (fun _=>rfl) (fun h=>by cases h)) ?_;refine ZB (ZK (acc:=true) rfl (show _=some _ from rfl) (show _=some 63 from rfl) ⟨⟨3,.guard⟩,s_,rfl,rfl⟩ rfl (fun _=>rfl) (fun h=>by cases h)) ?_;refine ZB (ZK (acc:=true) rfl (show _=some _ from rfl) (show _=some 63 from rfl) ⟨⟨3,.guard⟩,s_,rfl,rfl⟩ rfl (fun _=>rfl) (fun h=>by cases h)) ?_;refine ZB (ZK (acc:=true) rfl (show _=some _ from rfl) (show _=some 63 from rfl) ⟨⟨3,.guard⟩,s_,rfl,rfl⟩ rfl (fun _=>rfl) (fun h=>by cases h)) ?_;refine ZB (ZK (acc:=true) rfl (show _=some _ from rfl) (show _=some 63 from rfl) ⟨⟨3,.guard⟩,s_,rfl,rfl⟩ rfl (fun _=>rfl) (fun h=>by cases h)) ?_;refine ZB (ZK (acc:=true) rfl (show _=some _ from rfl) (show _=some 63 from rfl) ⟨⟨3,.guard⟩,s_,rfl,rfl⟩ rfl (fun _=>rfl) (fun h=>by cases h)) ?_;refine ZB (ZK (acc:=true) rfl (show _=some _ from rfl) (show _=some 63 from rfl) ⟨⟨3,.guard⟩,s_,rfl,rfl⟩ rfl (fun _=>rfl) (fun h=>by cases h)) ?_;refine ZB (ZL rfl fun a W hS hF hs=>?_) ?_
    ·have s63:a.tmps[63]?=some (.bool true):=hs 3 _ 63 ⟨⟨3,.data⟩,s_,rfl,rfl⟩ rfl rfl;exact Yn (.bool true) (by obtain ⟨y0,z0⟩:=Zl s63;clear hs hS hF;go_simp) ⟨rfl,hS⟩
    exact m140_
   ·exact m138_
  |true=>
   let vals:List Value:=[.agg cv,.bool true,.bool false,.bool false,.agg ca,.string ⟨xa.toArray⟩,.agg cv,.string ⟨xv.toArray⟩,.bool sv,.agg ca,.agg cv,.bool sv,.bool true,.bool true,.bool true];refine JK (N:=74) (fun a=>a.tmps[2]?=some (.pointer (some ⟨w.heap.size,0,none⟩))/\a.tmps[3]?=some (.pointer (some ⟨w.heap.size+1,0,none⟩))) (fun W=>Below wz.heap.size wz W) (fun i=>vals.getD i undef) [60,61,62,63,64,65,66,67,68,69,70,71,72,73,4] k_ k_ rfl (Zc ⟨1,rfl⟩) (fun a' h=>⟨(h 2 (Zb4 k_)).trans rfl,(h 3 (Zb4 k_)).trans rfl⟩) ?_ ?_
   ·refine Zic ?_
    simp only [List.append_eq,List.cons_append,List.nil_append];refine ZB (ZL rfl fun a W hS hF hs=>?_) ?_
    ·exact m139_
    refine ZB (ZL rfl fun a W hS hF hs=>?_) ?_
    ·exact m141_
    refine ZB (ZL rfl fun a W hS hF hs=>?_) ?_
    ·have s61:a.tmps[61]?=some (.bool true):=hs 1 _ 61 ⟨⟨1,.data⟩,s_,rfl,rfl⟩ rfl rfl;exact Yn (.bool false) (by obtain ⟨y0,z0⟩:=Zl s61;clear hs hS hF;go_simp) ⟨rfl,hS⟩
    refine ZB (ZL rfl fun a W hS hF hs=>?_) ?_
    ·have s62:a.tmps[62]?=some (.bool false):=hs 2 _ 62 ⟨⟨2,.data⟩,s_,rfl,rfl⟩ rfl rfl;exact Yn (.bool false) (by obtain ⟨y0,z0⟩:=Zl s62;clear hs hS hF;go_simp) ⟨rfl,hS⟩
    refine ZB (ZK (acc:=false) rfl (show _=some _ from rfl) (show _=some 63 from rfl) ⟨⟨3,.guard⟩,s_,rfl,rfl⟩ rfl (fun h=>by cases h) fun _ a W hS hF hs=>?_) ?_
    ·exact m142_
    refine ZB (ZK (acc:=false) rfl (show _=some _ from rfl) (show _=some 63 from rfl) ⟨⟨3,.guard⟩,s_,rfl,rfl⟩ rfl (fun h=>by cases h) fun _ a W hS hF hs=>?_) ?_
    ·have s64:a.tmps[64]?=some (.agg ca):=hs 4 _ 64 ⟨⟨4,.data⟩,s_,rfl,rfl⟩ rfl rfl;exact Z8 (by obtain ⟨y0,z0⟩:=Zl s64;clear hs hS hF;go_simp) (HTX.out W (HB'.out.trans (hS.mono HB'.out.size))) n11_
    refine ZB (ZK (acc:=false) rfl (show _=some _ from rfl) (show _=some 63 from rfl) ⟨⟨3,.guard⟩,s_,rfl,rfl⟩ rfl (fun h=>by cases h) fun _ a W hS hF hs=>?_) ?_
    ·exact m139_
    refine ZB (ZK (acc:=false) rfl (show _=some _ from rfl) (show _=some 63 from rfl) ⟨⟨3,.guard⟩,s_,rfl,rfl⟩ rfl (fun h=>by cases h) fun _ a W hS hF hs=>?_) ?_
    ·have s66:a.tmps[66]?=some (.agg cv):=hs 6 _ 66 ⟨⟨6,.data⟩,s_,rfl,rfl⟩ rfl rfl;exact Z8 (by obtain ⟨y0,z0⟩:=Zl s66;clear hs hS hF;go_simp) (HTY.out W (HB'.out.trans (hS.mono HB'.out.size))) n11_
    refine ZB (ZK (acc:=false) rfl (show _=some _ from rfl) (show _=some 63 from rfl) ⟨⟨3,.guard⟩,s_,rfl,rfl⟩ rfl (fun h=>by cases h) fun _ a W hS hF hs=>?_) ?_
    ·have hq:=HEQ.out rfl;have s65:a.tmps[65]?=some (.string ⟨xa.toArray⟩):=hs 5 _ 65 ⟨⟨5,.data⟩,s_,rfl,rfl⟩ rfl rfl;have s67:a.tmps[67]?=some (.string ⟨xv.toArray⟩):=hs 7 _ 67 ⟨⟨7,.data⟩,s_,rfl,rfl⟩ rfl rfl;exact Yn (.bool sv) (by obtain ⟨y0,z0⟩:=Zl s65;obtain ⟨y1,z1⟩:=Zl s67;clear hs hS hF;go_simp) ⟨rfl,hS⟩
    refine ZB (ZK (acc:=false) rfl (show _=some _ from rfl) (show _=some 63 from rfl) ⟨⟨3,.guard⟩,s_,rfl,rfl⟩ rfl (fun h=>by cases h) fun _ a W hS hF hs=>?_) ?_
    ·exact m142_
    refine ZB (ZK (acc:=false) rfl (show _=some _ from rfl) (show _=some 63 from rfl) ⟨⟨3,.guard⟩,s_,rfl,rfl⟩ rfl (fun h=>by cases h) fun _ a W hS hF hs=>?_) ?_
    ·exact m139_
    refine ZB (ZK (acc:=false) rfl (show _=some _ from rfl) (show _=some 63 from rfl) ⟨⟨3,.guard⟩,s_,rfl,rfl⟩ rfl (fun h=>by cases h) fun _ a W hS hF hs=>?_) ?_
    ·have s69:a.tmps[69]?=some (.agg ca):=hs 9 _ 69 ⟨⟨9,.data⟩,s_,rfl,rfl⟩ rfl rfl;have s70:a.tmps[70]?=some (.agg cv):=hs 10 _ 70 ⟨⟨10,.data⟩,s_,rfl,rfl⟩ rfl rfl;exact Z8 (by obtain ⟨y0,z0⟩:=Zl s69;obtain ⟨y1,z1⟩:=Zl s70;clear hs hS hF;go_simp) (HSS.out W (HB'.out.trans (hS.mono HB'.out.size))) n11_
    refine ZB (ZK (acc:=false) rfl (show _=some _ from rfl) (show _=some 63 from rfl) ⟨⟨3,.guard⟩,s_,rfl,rfl⟩ rfl (fun h=>by cases h) fun _ a W hS hF hs=>?_) ?_
    ·have s68:a.tmps[68]?=some (.bool sv):=hs 8 _ 68 ⟨⟨8,.data⟩,s_,rfl,rfl⟩ rfl rfl;have s71:a.tmps[71]?=some (.bool sv):=hs 11 _ 71 ⟨⟨11,.data⟩,s_,rfl,rfl⟩ rfl rfl;exact Yn (.bool true) (by obtain ⟨y0,z0⟩:=Zl s68;obtain ⟨y1,z1⟩:=Zl s71;clear hs hS hF;go_simp) ⟨rfl,hS⟩
    refine ZB (ZL rfl fun a W hS hF hs=>?_) ?_
    ·have s63:a.tmps[63]?=some (.bool false):=hs 3 _ 63 ⟨⟨3,.data⟩,s_,rfl,rfl⟩ rfl rfl;have s72:a.tmps[72]?=some (.bool true):=hs 12 _ 72 ⟨⟨12,.data⟩,s_,rfl,rfl⟩ rfl rfl;exact Yn (.bool true) (by obtain ⟨y0,z0⟩:=Zl s63;obtain ⟨y1,z1⟩:=Zl s72;clear hs hS hF;go_simp) ⟨rfl,hS⟩
    exact m140_
   ·exact m138_
end Go.Proofs.YtmgmbeipbeknaaaGreatDoor
