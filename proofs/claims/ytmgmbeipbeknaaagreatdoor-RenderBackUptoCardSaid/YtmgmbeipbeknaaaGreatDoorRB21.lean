import Derived.Deep.CutRange
import Derived.Test.YtmgmbeipbeknaaaGreatDoorRB20
namespace Go.Proofs.YtmgmbeipbeknaaaGreatDoor
open Go.Proofs.Tryz
open Go Go.RowKit
set_option linter.all false
set_option maxHeartbeats 16000000
set_option maxRecDepth 100000
theorem m51_{p:Prop}(h:p:=by
  obtain ⟨c,f,-,hltR⟩:=rd HW6.out.res;have c0:=c 0;have c1:=c 1;have c2:=c 2;have c3:=c 3;have c4:=c 4;have c5:=c 5;have c6:=c 6;have f0:=f 0;have f1:=f 1;have f2:=f 2;have f3:=f 3;have f4:=f 4;have f5:=f 5;have f6:=f 6;simp only [c1_,c2_,c3_] at c0 c1 c2 c3 c4 c5 c6;clear c f;go_wp2_with fail;have HV7:=Je HW6.out.res Zv Zv Zv Zv Zv Zv Zv;obtain ⟨c,-,-,-⟩:=rd HV7;have d0:=c 0;have d1:=c 1;have d2:=c 2;have d3:=c 3;have d4:=c 4;have d5:=c 5;have d6:=c 6;simp only [c1_,c2_,c3_,ZiE,Zv] at d0 d1 d2 d3 d4 d5 d6;refine bodyPost_ret (v:=.tuple #[.agg #[Zv,Zv,Zv,Zv,Zv,Zv,Zv],.bool false]) ?_ rfl (Zev HN.out rfl ?_)
  ·exact m54_
  ·exact QD HW6.out.below (Nat.le_of_lt hltR) Zv Zv Zv Zv Zv Zv Zv):p:=h
theorem m52_{p:Prop}(h:p:=by obtain ⟨a,b,rfl⟩:=ownsRow_form h2;simp only [c1_,c2_,c3_,Option.some.injEq] at h1;exact ⟨_,_,_,h1⟩):p:=h
theorem m53_{p:Prop}(h:p:=by
  go_wp2_with fail;go_meet
  case rel=>exact ⟨_,rfl,rfl,HP4,HZ4⟩):p:=h
theorem m54_{p:Prop}(h:p:=by simp [results,results256,go_sem,d0,d1,d2,d3,d4,d5,d6,Zv]):p:=h
def Zv:Value:=.slice none 0 0
structure PW(w W:World)(R C:Nat)(dv:Value)(ds:Option (List Int)):Prop where
 below:Below R w W
 res:W.heap[R]?=some (.cells #[.slice none 0 0,.slice none 0 0,.slice none 0 0,.slice none 0 0,.slice none 0 0,.slice none 0 0,.slice none 0 0] 235 (0,0))
 cal:W.heap[C]?=some (.cells #[dv,.slice none 0 0,.slice none 0 0,.slice none 0 0,.slice none 0 0,.slice none 0 0,.slice none 0 0] 235 (0,0))
 days:∀l,ds=some l->∃da dc,dv=.slice da l.length dc/\W.ownsRow (C+1) 3 1 dv l.length (l.map fun n=>.int .i64 n)
 dvs:∃a b c,dv=.slice a b c
theorem PW.go{w W V:World}{R C:Nat}{dv:Value}{ds:Option (List Int)}(h:PW w W R C dv ds)(hb:Below W.heap.size W V)(hR:R<=W.heap.size):PW w V R C dv ds:=
 ⟨h.below.trans (hb.mono hR),Za h.res hb,Za h.cal hb,fun l hl=>by obtain ⟨a,b,c,d⟩:=h.days l hl;exact ⟨a,b,c,Zo d hb⟩,h.dvs⟩
theorem Zp.set{w:World}{oa:Option Addr}{l:List Str}(h:Zp w oa l)(C j:Nat)(v:Value)(hne:∀b o,oa=some ⟨b,o,none⟩->b≠C):Zp (w.setCell ⟨C,j,none⟩ v) oa l:=by
 intro i hi;obtain ⟨b,o,e,hc⟩:=h i hi;refine ⟨b,o,e,?_⟩;unfold World.cell? at hc⊢;rw [Below.heap_setCell _ _ _ b (by show b≠C;exact hne b o e)];exact hc
def ZhJ(w:World)(s:Str)(e:Ending)(w':World):Prop:=
 ∃cs,e=.returned (.tuple #[.agg cs,.bool (Za9 s).isSome])/\cs.size=7/\(∀ds fs,Za9 s=some (ds,fs)->Zhg w' cs ds fs)/\Below w.heap.size w w'
theorem ZnP(a b:ByteArray)(h:a.size+b.size<4611686018427387904):Op.stringOp .add a b=pure (.string (a++b)):=by
 have:¬((a.size+b.size:Nat):Int)>IntKind.i64.max:=n58_
 simp only [Op.stringOp,if_neg this]
def Zpe(n:Int):List Value:=[.int .i64 n]
theorem Zou(l:List Int):Zx Zpe l=l.map fun n=>.int .i64 n:=by
 induction l with
 |nil=>rfl
 |cons x r ih=>unfold Zx at *;rw [List.flatMap_cons,ih];rfl
structure Zcx(W:World)(N:Nat)(cs:Array Value)(days:List Int)(fs:List (List YO)):Prop where
 size:cs.size=7
 days:∃v,cs[0]?=some v/\W.ownsRow N 3 1 v days.length (Zx Zpe days)
 fields:∀i,i<6->∃v,cs[i+1]?=some v/\W.ownsRow N 300 3 v (fs.getD i []).length (Zx QC (fs.getD i []))
theorem Zcx.rd{W:World}{N:Nat}{cs:Array Value}{days:List Int}{fs:List (List YO)}(h:Zcx W N cs days fs):Zhg W cs days fs:=
 {size:=h.size
  days:=by
   obtain ⟨v,h1,h2⟩:=h.days;obtain ⟨oa,cap,rfl⟩:=ownsRow_form h2;exact ⟨oa,cap,h1,ZG.of_own (enc:=Zpe) (fun _=>rfl) h2⟩
  fields:=fun i hi=>by
   obtain ⟨v,h1,h2⟩:=h.fields i hi;obtain ⟨oa,cap,rfl⟩:=ownsRow_form h2;exact ⟨oa,cap,h1,ZG.of_own (enc:=QC) (fun _=>rfl) h2⟩ }
theorem Zcx.below{W V:World}{N:Nat}{cs:Array Value}{days:List Int}{fs:List (List YO)}(h:Zcx W N cs days fs)(hb:Below W.heap.size W V):Zcx V N cs days fs:=
 ⟨h.size,by obtain ⟨v,h1,h2⟩:=h.days;exact ⟨v,h1,Zo h2 hb⟩,fun i hi=>by obtain ⟨v,h1,h2⟩:=h.fields i hi;exact ⟨v,h1,Zo h2 hb⟩⟩
theorem Zcx.fr{W V:World}{N R:Nat}{cs:Array Value}{days:List Int}{fs:List (List YO)}(h:Zcx W N cs days fs)(hf:Fr (fun k=>k=R) W V)(hR:R<N):Zcx V N cs days fs:=
 ⟨h.size,by obtain ⟨v,h1,h2⟩:=h.days;exact ⟨v,h1,Z4 h2 hf (fun g hg _ e=>by have:=(h2.lt g hg).1;omega)⟩,
  fun i hi=>by obtain ⟨v,h1,h2⟩:=h.fields i hi;exact ⟨v,h1,Z4 h2 hf (fun g hg _ e=>by have:=(h2.lt g hg).1;omega)⟩⟩
def ZiE(W:World)(R:Nat)(a b c d e f g:Value):World:=((((((W.setCell ⟨R,0,none⟩ a).setCell ⟨R,1,none⟩ b).setCell ⟨R,2,none⟩ c).setCell ⟨R,3,none⟩ d).setCell ⟨R,4,none⟩ e).setCell ⟨R,5,none⟩ f).setCell ⟨R,6,none⟩ g
theorem Je{W:World}{R:Nat}{T:TypeId}{z0 z1 z2 z3 z4 z5 z6:Value}(h:W.heap[R]?=some (.cells #[z0,z1,z2,z3,z4,z5,z6] T (0,0)))(a b c d e f g:Value):(ZiE W R a b c d e f g).heap[R]?=some (.cells #[a,b,c,d,e,f,g] T (0,0)):=by
 have h0:(W.setCell ⟨R,0,none⟩ a).heap[R]?=some (.cells #[a,z1,z2,z3,z4,z5,z6] T (0,0)):=by
  have:=heap_setCell h 0 a
  simpa using this
 have h1:((W.setCell ⟨R,0,none⟩ a).setCell ⟨R,1,none⟩ b).heap[R]?=some (.cells #[a,b,z2,z3,z4,z5,z6] T (0,0)):=by
  have:=heap_setCell h0 1 b
  simpa using this
 have h2:(((W.setCell ⟨R,0,none⟩ a).setCell ⟨R,1,none⟩ b).setCell ⟨R,2,none⟩ c).heap[R]?=some (.cells #[a,b,c,z3,z4,z5,z6] T (0,0)):=by
  have:=heap_setCell h1 2 c
  simpa using this
 have h3:((((W.setCell ⟨R,0,none⟩ a).setCell ⟨R,1,none⟩ b).setCell ⟨R,2,none⟩ c).setCell ⟨R,3,none⟩ d).heap[R]?=some (.cells #[a,b,c,d,z4,z5,z6] T (0,0)):=by
  have:=heap_setCell h2 3 d
  simpa using this
 have h4:(((((W.setCell ⟨R,0,none⟩ a).setCell ⟨R,1,none⟩ b).setCell ⟨R,2,none⟩ c).setCell ⟨R,3,none⟩ d).setCell ⟨R,4,none⟩ e).heap[R]?=some (.cells #[a,b,c,d,e,z5,z6] T (0,0)):=by
  have:=heap_setCell h3 4 e
  simpa using this
 have h5:((((((W.setCell ⟨R,0,none⟩ a).setCell ⟨R,1,none⟩ b).setCell ⟨R,2,none⟩ c).setCell ⟨R,3,none⟩ d).setCell ⟨R,4,none⟩ e).setCell ⟨R,5,none⟩ f).heap[R]?=some (.cells #[a,b,c,d,e,f,z6] T (0,0)):=by
  have:=heap_setCell h4 5 f
  simpa using this
 have h6:(((((((W.setCell ⟨R,0,none⟩ a).setCell ⟨R,1,none⟩ b).setCell ⟨R,2,none⟩ c).setCell ⟨R,3,none⟩ d).setCell ⟨R,4,none⟩ e).setCell ⟨R,5,none⟩ f).setCell ⟨R,6,none⟩ g).heap[R]?=some (.cells #[a,b,c,d,e,f,g] T (0,0)):=by
  have:=heap_setCell h5 6 g
  simpa using this
 exact h6
theorem Zpb(W:World)(R:Nat)(a b c d e f g:Value):Fr (fun k=>k=R) W (ZiE W R a b c d e f g):=
 (((((((Fr.refl (fun k=>k=R) W).setCell (p:=⟨R,0,none⟩) (fun _=>rfl) _).setCell (p:=⟨R,1,none⟩) (fun _=>rfl) _).setCell (p:=⟨R,2,none⟩) (fun _=>rfl) _).setCell (p:=⟨R,3,none⟩) (fun _=>rfl) _).setCell (p:=⟨R,4,none⟩) (fun _=>rfl) _).setCell (p:=⟨R,5,none⟩) (fun _=>rfl) _).setCell (p:=⟨R,6,none⟩) (fun _=>rfl) _
theorem QD{w W:World}{R:Nat}(h:Below R w W)(hR:R<=W.heap.size)(a b c d e f g:Value):Below R w (ZiE W R a b c d e f g):=
 h.trans ((Zpb W R a b c d e f g).below R hR (fun k hk e=>by omega))
theorem ZtQ{w V:World}{s:Str}{cs:Array Value}{ds:List Int}{fs:List (List YO)}(h:Za9 s=some (ds,fs))(hc:cs.size=7)(hr:Zhg V cs ds fs)(hb:Below w.heap.size w V):ZhJ w s (.returned (.tuple #[.agg cs,.bool true])) V:=
 ⟨_,by rw [h];rfl,hc,(fun ds' fs' h2=>by rw [h] at h2;cases h2;exact hr),hb⟩
structure NoW(w W:World)(R:Nat):Prop where
 below:Below R w W
 res:W.heap[R]?=some (.cells #[.slice none 0 0,.slice none 0 0,.slice none 0 0,.slice none 0 0,.slice none 0 0,.slice none 0 0,.slice none 0 0] 235 (0,0))
theorem Zp.fr{C:Nat}{w V:World}{oa:Option Addr}{l:List Str}(h:Zp w oa l)(hf:Fr (fun k=>k=C) w V)(hne:∀b o,oa=some ⟨b,o,none⟩->b≠C/\b<w.heap.size):Zp V oa l:=by
 intro i hi;obtain ⟨b,o,e,hc⟩:=h i hi;refine ⟨b,o,e,?_⟩;unfold World.cell? at hc⊢;rw [hf.block b (hne b o e).2 (hne b o e).1];exact hc
theorem Zev{w V:World}{s:Str}{cs:Array Value}(h:Za9 s=none)(hc:cs.size=7)(hb:Below w.heap.size w V):ZhJ w s (.returned (.tuple #[.agg cs,.bool false])) V:=
 ⟨_,by rw [h];rfl,hc,(fun ds fs h2=>by rw [h] at h2;cases h2),hb⟩
theorem Zk3(s:Str)(w:World)(hs:s.length<=9000000000000000000)(hM:Zz w):Calls prog 256 #[.string ⟨s.toArray⟩] w fun e w'=>ZhJ w s e w':=by
 unfold ZhJ;have hsz:(⟨s.toArray⟩:ByteArray).size=s.length:=n17_;by_cases hlong:400<s.length
 ·have hz:((⟨s.toArray⟩:ByteArray).size:Int)>400:=n116_
  have hz2:(400:Int)<((⟨s.toArray⟩:ByteArray).size:Int):=hz;have HR:=h_ (show Za9 s=none by unfold Za9;rw [if_pos hlong]);clear hsz hlong hs;generalize (⟨s.toArray⟩:ByteArray)=S at *;go_enter func256,ntmps256;go_wp2_with fail;have H0:=heap_alloc_new w (.cells #[.slice none 0 0,.slice none 0 0,.slice none 0 0,.slice none 0 0,.slice none 0 0,.slice none 0 0,.slice none 0 0] 235);obtain ⟨c,-,-,-⟩:=rd H0;have c0:=c 0;have c1:=c 1;have c2:=c 2;have c3:=c 3;have c4:=c 4;have c5:=c 5;have c6:=c 6;simp only [c1_,c2_,c3_] at c0 c1 c2 c3 c4 c5 c6;refine bodyPost_ret (v:=.tuple #[.agg #[.slice none 0 0,.slice none 0 0,.slice none 0 0,.slice none 0 0,.slice none 0 0,.slice none 0 0,.slice none 0 0],.bool false]) ?_ rfl ⟨_,n14_,rfl,(fun ds fs h=>by rw [HR.out] at h;cases h),?_⟩
  ·simp [results,results256,go_sem]
  ·exact b_.alloc l_ _
 ·have hz:¬((⟨s.toArray⟩:ByteArray).size:Int)>400:=n116_
  have hz2:¬(400:Int)<((⟨s.toArray⟩:ByteArray).size:Int):=hz;have hsl:s.length<=400:=o_;have HCS:=h_ (show Za9 s=Zee (Zmt (YQ Zfh (ZP 32 (nmS s)))) (YQ (Zbc 58) (YQ (Zbc 45) (YQ Zfh (ZP 32 (nmS s))).2.1).2.1).2.1
   (ZP 45 (ZpO (YQ (Zbc 45) (YQ Zfh (ZP 32 (nmS s))).2.1))) (ZP 58 (Zkd (YQ (Zbc 58) (YQ (Zbc 45) (YQ Zfh (ZP 32 (nmS s))).2.1).2.1))) by unfold Za9;rw [if_neg hlong])
  have HNM:=h_ (fun V=>ZrL s V);have hnl:=ZuV s hsl;obtain ⟨l0,hl0⟩:=e_ (ZP 32 (nmS s));have hm0:∀x∈l0,x.length<=400:=by rw [hl0];intro x hx;have:=Q8 32 _ x hx;omega
  have hn0:l0.length<=401:=by rw [hl0];have:=JO 32 (nmS s);omega
  have HSP:=h_ (fun V h=>Zcr 32 (nmS s) V o_ h);rw [<-hl0] at HCS HSP;obtain ⟨x1,l1,q1,h1⟩:∃x1 l1 q1,YQ Zfh l0=(x1,l1,q1):=⟨_,_,_,rfl⟩;obtain ⟨mx1,mm1,mn1⟩:=ZfC Zfh l0 400 hm0;have hno1:=Zhc Zfh l0;rw [h1] at HCS mx1 mm1 mn1 hno1;simp only at HCS mx1 mm1 mn1 hno1;obtain ⟨x2,l2,q2,h2⟩:∃x2 l2 q2,YQ (Zbc 45) l1=(x2,l2,q2):=⟨_,_,_,rfl⟩;obtain ⟨mx2,mm2,mn2⟩:=ZfC (Zbc 45) l1 400 mm1;have hno2:=Zhc (Zbc 45) l1;rw [h2] at HCS mx2 mm2 mn2 hno2;simp only at HCS mx2 mm2 mn2 hno2;obtain ⟨x3,l3,q3,h3⟩:∃x3 l3 q3,YQ (Zbc 58) l2=(x3,l3,q3):=⟨_,_,_,rfl⟩;obtain ⟨mx3,mm3,mn3⟩:=ZfC (Zbc 58) l2 400 mm2;have hno3:=Zhc (Zbc 58) l2;rw [h3] at HCS mx3 mm3 mn3 hno3;simp only at HCS mx3 mm3 mn3 hno3;have HT1:=h_ (fun V oa (hr:Zp V oa l0)=>show Calls prog 292 #[.slice oa l0.length l0.length,.func (.func 293) #[] #[]] V fun e w'=>∃oa',e=.returned (.tuple #[.string ⟨x1.toArray⟩,.slice oa' l1.length l1.length,.bool q1])/\Zp V oa' l1/\(∀b o,oa'=some ⟨b,o,none⟩->∃o2,oa=some ⟨b,o2,none⟩)/\∃n,w'=V.drewN n by
   have:=Zis 293 Zi4 Zfh oa l0 V hr o_ (fun x _=>Zn3 x V)
   unfold ZeW at this;rw [h1] at this;exact this)
  have HT2:=h_ (fun V oa (hr:Zp V oa l1)=>show Calls prog 292 #[.slice oa l1.length l1.length,.func (.func 295) #[] #[]] V fun e w'=>∃oa',e=.returned (.tuple #[.string ⟨x2.toArray⟩,.slice oa' l2.length l2.length,.bool q2])/\Zp V oa' l2/\(∀b o,oa'=some ⟨b,o,none⟩->∃o2,oa=some ⟨b,o2,none⟩)/\∃n,w'=V.drewN n by
   have:=Zis 295 Zjb (Zbc 45) oa l1 V hr o_ (fun x _=>Zns x V)
   unfold ZeW at this;rw [h2] at this;exact this)
  have HT3:=h_ (fun V oa (hr:Zp V oa l2)=>show Calls prog 292 #[.slice oa l2.length l2.length,.func (.func 297) #[] #[]] V fun e w'=>∃oa',e=.returned (.tuple #[.string ⟨x3.toArray⟩,.slice oa' l3.length l3.length,.bool q3])/\Zp V oa' l3/\(∀b o,oa'=some ⟨b,o,none⟩->∃o2,oa=some ⟨b,o2,none⟩)/\∃n,w'=V.drewN n by
   have:=Zis 297 Zi2 (Zbc 58) oa l2 V hr o_ (fun x _=>ZoH x V)
   unfold ZeW at this;rw [h3] at this;exact this)
  have HWK:=h_ (fun V (h:Zz V)=>ZrY x1 V o_ h);have HMX:=h_ (fun V (h:Below w.heap.size w V)=>hM.below h);have HNO1:=h_ hno1;have HNO2:=h_ hno2;have HNO3:=h_ hno3;let w0:=(w.alloc (.cells #[.slice none 0 0,.slice none 0 0,.slice none 0 0,.slice none 0 0,.slice none 0 0,.slice none 0 0,.slice none 0 0] 235)).alloc (.cells #[.slice none 0 0,.slice none 0 0,.slice none 0 0,.slice none 0 0,.slice none 0 0,.slice none 0 0,.slice none 0 0] 235);have hz0:w0.heap.size=w.heap.size+2:=by simp [w0]
  have HPW:=h_ (show PW w w0 w.heap.size (w.heap.size+1) (.slice none 0 0) (some []) from
   {below:=(b_.alloc l_ _).alloc s_ _
    res:=heap_alloc (heap_alloc_new w _) _
    cal:=by
     rw [<-show (w.alloc (.cells #[.slice none 0 0,.slice none 0 0,.slice none 0 0,.slice none 0 0,.slice none 0 0,.slice none 0 0,.slice none 0 0] 235)).heap.size=w.heap.size+1 by simp];exact heap_alloc_new _ _
    days:=fun l hl=>⟨none,0,by cases hl;rfl,by cases hl;exact World.ownsRow_nil _ _ _ _⟩
    dvs:=⟨_,_,_,rfl⟩ })
  clear hsz hlong hs hl0 hm0 h1 h2 h3 hno1 hno2 hno3 hnl hM mm1 mm2 mm3;generalize hSS:(⟨s.toArray⟩:ByteArray)=S at *;have HSS:=h_ hSS;clear hSS;go_enter func256,ntmps256;go_wp2_with fail;refine (HNM.out w0).mono ?_;rintro e w1 ⟨rfl,rfl⟩;go_wp2_with fail;refine (HSP.out w0 (HMX.out _ HPW.out.below)).mono ?_;rintro e w1 ⟨rfl,rfl⟩;have HR0:=h_ (Zaw w0 l0);have hb1:Below w0.heap.size w0 (w0.alloc (.cells (Zh l0).toArray 9)):=b_.alloc l_ _;have HP1:=h_ (HPW.out.go hb1 o_);have HZ1:=h_ (show w.heap.size+3<=(w0.alloc (.cells (Zh l0).toArray 9)).heap.size by simp;omega);rw [hz0] at HR0⊢;clear hb1 HSP HNM HPW hz0;generalize w0.alloc (.cells (Zh l0).toArray 9)=w1 at *;go_wp2_with fail;refine (HT1.out w1 _ HR0.out).mono ?_;rintro e w2 ⟨oa1,rfl,hr1,hn1,n2,rfl⟩;have hb2:Below w1.heap.size w1 (w1.drewN n2):=Ze ⟨_,rfl⟩;have HP2:=h_ (HP1.out.go hb2 (by have:=HZ1.out;omega));have HR1:=h_ (hr1.below hb2);have HR02:=h_ (HR0.out.below hb2);have HN1:=h_ (show ∀b o,oa1=some ⟨b,o,none⟩->w.heap.size+2<=b from fun b o h=>by obtain ⟨o2,e2⟩:=hn1 b o h;injection e2 with e2;injection e2 with e3;omega);have HZ2:=h_ (show w.heap.size+3<=(w1.drewN n2).heap.size from HZ1.out);clear hb2 hr1 hn1 HP1 HR0 HZ1 HT1;generalize w1.drewN n2=w2 at *;go_upto_if 33 with fail
  obtain ⟨ds,hds⟩:=e_ (Zmt (x1,l1,q1));have HDS:=h_ hds;rw [<-hds] at HCS;clear hds;go_cut [5,6] from 20 (fun s5 s6 w'=>∃oa dv,s5=.slice oa l1.length l1.length/\s6=.bool ds.isSome/\Hid (Zp w' oa l1)/\Hid (∀b o,oa=some ⟨b,o,none⟩->w.heap.size+2<=b)/\Hid (PW w w' w.heap.size (w.heap.size+1) dv ds)/\Hid (w.heap.size+3<=w'.heap.size))
  case first=>
   cases q1 with
   |false=>
    obtain rfl:l1=l0:=HNO1.out rfl;have hde:ds=some []:=HDS.out;subst hde;go_wp2_with fail;go_meet
    case rel=>exact ⟨_,_,rfl,rfl,HR02,fun b o h=>by cases h;omega,HP2,HZ2⟩
   |true=>
    have hde:ds=Jm x1:=HDS.out;subst hde;go_wp2_with fail;refine (HWK.out w2 (HMX.out _ HP2.out.below)).mono ?_;rintro e w3 ⟨v,rfl,hown,hb3⟩;obtain ⟨da,dc,rfl⟩:=ownsRow_form hown;have hP3:=HP2.out.go hb3 (by have:=HZ2.out;omega);have hR3:=HR1.out.below hb3;obtain ⟨cc,cf,-,-⟩:=rd hP3.cal;have c0:=cc 0;have f0:=cf 0;simp only [c1_,c2_] at c0;have HPW:=h_ (show PW w (w3.setCell ⟨w.heap.size+1,0,none⟩ (.slice da ((Jm x1).getD []).length dc)) w.heap.size (w.heap.size+1) (.slice da ((Jm x1).getD []).length dc) (Jm x1) from
     {below:=hP3.below.setCell (p:=⟨w.heap.size+1,0,none⟩) s_ _
      res:=ZC hP3.res (a:=⟨w.heap.size+1,0,none⟩) s_ _
      cal:=heap_setCell hP3.cal 0 _
      days:=fun l hl=>by
       rw [hl] at hown⊢;refine ⟨da,dc,rfl,?_⟩;exact Z4 (own_base' hown (show w.heap.size+1+1<=w2.heap.size by have:=HZ2.out;omega)) (M:=fun k=>k=w.heap.size+1) (Fr.setCell (M:=fun k=>k=w.heap.size+1) (p:=⟨w.heap.size+1,0,none⟩) (Fr.refl _ _) (fun _=>rfl) _) (fun k hk hr=>by
        rintro rfl;obtain ⟨cs,fz,h5⟩:=hr;rw [hP3.cal] at h5;simp at h5)
      dvs:=⟨_,_,_,rfl⟩ })
    have HRS:=h_ (hR3.set (w.heap.size+1) 0 (.slice da ((Jm x1).getD []).length dc) (fun b o h=>by have:=HN1.out b o h;omega));have HZ3:=h_ (show w.heap.size+3<=(w3.setCell ⟨w.heap.size+1,0,none⟩ (.slice da ((Jm x1).getD []).length dc)).heap.size by have:=HZ2.out;have:=hb3.size;simp;omega);clear hown hb3 hP3 hR3 cc cf;generalize ((Jm x1).getD []).length=n at *;generalize (Jm x1).isSome=b at *;go_wp2_with fail;go_meet
    case rel=>exact ⟨_,_,rfl,rfl,HRS,HN1,HPW,HZ3⟩
  case rest=>
   obtain ⟨oa,dv,rfl,rfl,HRa,HNa,HPa,HZa⟩:=hcut;have HDL:=h_ (show ∀l,ds=some l->l.length<=8 from fun l h=>Zq4 _ l (HDS.out.symm.trans h));clear HR1 HR02 HN1 HP2 HZ2 HDS HWK HNO1;go_wp2_with fail;refine (HT2.out wc _ HRa.out).mono ?_;rintro e w4 ⟨oa1,rfl,hr1,hn1,n4,rfl⟩;have hb4:Below wc.heap.size wc (wc.drewN n4):=Ze ⟨_,rfl⟩;have HP4:=h_ (HPa.out.go hb4 (by have:=HZa.out;omega));have HR4:=h_ (hr1.below hb4);have HR40:=h_ (HRa.out.below hb4);have HN4:=h_ (show ∀b o,oa1=some ⟨b,o,none⟩->w.heap.size+2<=b from fun b o h=>by obtain ⟨o2,e2⟩:=hn1 b o h;exact HNa.out b o2 e2);have HZ4:=h_ (show w.heap.size+3<=(wc.drewN n4).heap.size from HZa.out);clear hb4 hr1 hn1 HPa HRa HZa HT2;generalize wc.drewN n4=w4 at *;go_upto_if 47 with fail
   obtain ⟨d,hd⟩:=e_ (ZpO (x2,l2,q2));rw [<-hd] at HCS;have HD:=h_ hd;clear hd;go_cut [5,10] from 20 (fun s5 s10 w'=>∃oa,s5=.slice oa l2.length l2.length/\s10=.string ⟨d.toArray⟩/\Hid (Zp w' oa l2)/\Hid (∀b o,oa=some ⟨b,o,none⟩->w.heap.size+2<=b)/\Hid (PW w w' w.heap.size (w.heap.size+1) dv ds)/\Hid (w.heap.size+3<=w'.heap.size))
   case first=>
    cases q2 with
    |false=>
     obtain rfl:l2=l1:=HNO2.out rfl;have hde:d=[42,45,42,45,42]:=HD.out;subst hde;go_wp2_with fail;go_meet
     case rel=>exact ⟨_,rfl,rfl,HR40,HNa,HP4,HZ4⟩
    |true=>
     have hde:d=x2:=HD.out;subst hde;go_wp2_with fail;go_meet
     case rel=>exact ⟨_,rfl,rfl,HR4,HN4,HP4,HZ4⟩
   case rest=>
    have hdl:d.length<=400:=by
     have:=HD.out
     rw [this];unfold ZpO;cases q2
     ·simp
     ·exact mx2
    clear HR4 HR40 HN4 HP4 HZ4 HD HNO2 oa HNa;obtain ⟨oa,rfl,rfl,HRa,HNa,HPa,HZa⟩:=hcut;go_wp2_with fail;refine (HT3.out wc _ HRa.out).mono ?_;rintro e w4 ⟨oa1,rfl,hr1,hn1,n4,rfl⟩;have hb4:Below wc.heap.size wc (wc.drewN n4):=Ze ⟨_,rfl⟩;have HP4:=h_ (HPa.out.go hb4 (by have:=HZa.out;omega));have HZ4:=h_ (show w.heap.size+3<=(wc.drewN n4).heap.size from HZa.out);clear hb4 hr1 hn1 HPa HRa HZa HT3;generalize wc.drewN n4=w4 at *;go_upto_if 56 with fail
    obtain ⟨t,ht⟩:=e_ (Zkd (x3,l3,q3));rw [<-ht] at HCS;have HD:=h_ ht;clear ht;go_cut [5,11] from 20 (fun s5 s11 w'=>∃oa,s5=.slice oa l3.length l3.length/\s11=.string ⟨t.toArray⟩/\Hid (PW w w' w.heap.size (w.heap.size+1) dv ds)/\Hid (w.heap.size+3<=w'.heap.size))
    case first=>
     cases q3 with
     |false=>
      obtain rfl:l3=l2:=HNO3.out rfl;have hde:t=[48,48,58,48,48,58,48,48]:=HD.out;subst hde;exact m53_
     |true=>
      have HC1:=h_ (fun V=>Tryz.strings_Count_one ⟨x3.toArray⟩ 58 V);have hsz3:(⟨x3.toArray⟩:ByteArray).size=x3.length:=n17_;have HC2:=h_ (ZnP ⟨x3.toArray⟩ ⟨#[58,48,48]⟩ (by rw [show (⟨#[58,48,48]⟩:ByteArray).size=3 from rfl];omega));have HC3:=h_ (show (⟨x3.toArray⟩++⟨#[58,48,48]⟩:ByteArray)=⟨(x3++[58,48,48]).toArray⟩ from by
       rw [ByteArray.ext_iff];simp)
      have hde:t=if Go.Lib.countByte x3 58=1 then x3++[58,48,48] else x3:=HD.out
      by_cases hc:Go.Lib.countByte x3 58=1
      ·rw [if_pos hc] at hde
       subst hde;have hcat:=HC2.out;have e3:=HC3.out;generalize (⟨(x3++[58,48,48]).toArray⟩:ByteArray)=R3 at *;rw [e3] at hcat;have hcz:((Go.Lib.countByte x3 58:Nat):Int)=1:=o_;go_wp2_with fail;refine (HC1.out w4).mono ?_;rintro e w5 ⟨rfl,rfl⟩;rw [hcz];exact m53_
      ·rw [if_neg hc] at hde
       subst hde;have hcz:¬((Go.Lib.countByte t 58:Nat):Int)=1:=o_;go_wp2_with fail;refine (HC1.out w4).mono ?_;rintro e w5 ⟨rfl,rfl⟩;generalize ((Go.Lib.countByte t 58:Nat):Int)=z at *;exact m53_
    case rest=>
     have htl:t.length<=403:=by
      have:=HD.out
      rw [this];unfold Zkd;cases q3
      ·simp
      ·show List.length (if Go.Lib.countByte x3 58=1 then x3++[58,48,48] else x3)<=403
       split
       ·simp;omega
       ·omega
     clear HD HP4 HZ4 HNO3 HNa;obtain ⟨oa,rfl,rfl,HPa,HZa⟩:=hcut;have HS1:=h_ (fun V (h:Zz V)=>Zcr 45 d V o_ h);have HS2:=h_ (fun V (h:Zz V)=>Zcr 58 t V o_ h);obtain ⟨dd,hdd⟩:=e_ (ZP 45 d);obtain ⟨tt,htt⟩:=e_ (ZP 58 t);have HXd:=h_ (show ∀x∈dd,x.length<=100000000 from fun x hx=>by rw [hdd] at hx;have:=Q8 45 _ x hx;omega);have HXt:=h_ (show ∀x∈tt,x.length<=100000000 from fun x hx=>by rw [htt] at hx;have:=Q8 58 _ x hx;omega);rw [<-hdd] at HS1 HCS;rw [<-htt] at HS2 HCS;have hzd:dd.length<=401:=by rw [hdd];have:=JO 45 d;omega
     have hzt:tt.length<=404:=by rw [htt];have:=JO 58 t;omega
     clear hdd htt hn0 mn1 mn2;go_wp2_with fail;refine (HS1.out wc (HMX.out _ (HPa.out.below))).mono ?_;rintro e w5 ⟨rfl,rfl⟩;have hb5:Below wc.heap.size wc (wc.alloc (.cells (Zh dd).toArray 9)):=b_.alloc l_ _;have HR5:=h_ (Zaw wc dd);have HP5:=h_ (HPa.out.go hb5 (by have:=HZa.out;omega));have HZ5:=h_ (show wc.heap.size<(wc.alloc (.cells (Zh dd).toArray 9)).heap.size by simp);generalize wc.alloc (.cells (Zh dd).toArray 9)=w5 at *;clear hb5 HPa;go_wp2_with fail;refine (HS2.out w5 (HMX.out _ (HP5.out.below))).mono ?_;rintro e w6 ⟨rfl,rfl⟩;have hb6:Below w5.heap.size w5 (w5.alloc (.cells (Zh tt).toArray 9)):=b_.alloc l_ _;have HRt:=h_ (Zaw w5 tt);have HRd:=h_ (HR5.out.below hb6);have HP6:=h_ (HP5.out.go hb6 (by have:=HZa.out;have:=HZ5.out;omega));have HZ6:=h_ (show w5.heap.size<(w5.alloc (.cells (Zh tt).toArray 9)).heap.size by simp);generalize w5.alloc (.cells (Zh tt).toArray 9)=w6 at *;have HB1:=h_ (show w.heap.size+3<=wc.heap.size/\wc.heap.size<w5.heap.size/\w5.heap.size<w6.heap.size from ⟨HZa.out,HZ5.out,HZ6.out⟩);clear hb6 HP5 HR5 HZ6 HZ5 HZa HS1 HS2;generalize w5.heap.size=B2 at *;generalize wc.heap.size=B1 at *;have HW6:=h_ (show NoW w w6 w.heap.size from ⟨HP6.out.below,HP6.out.res⟩);cases ds with
     |none=>
      have HN:=h_ (show Za9 s=none from HCS.out);exact m51_
     |some days=>
      obtain ⟨da,dc,hdv,hown0⟩:=HP6.out.days days rfl;have hdl8:=HDL.out days rfl;subst hdv;have HOD:=h_ (show w6.ownsRow (w.heap.size+2) 3 1 (.slice da days.length dc) days.length (Zx Zpe days) from by rw [Zou];exact hown0);have HC6:=h_ HP6.out.cal;clear hown0 HP6 HDL;by_cases h0:0<l3.length
      ·have HN:=h_ (show Za9 s=none from by rw [HCS.out];unfold Zee;simp only [if_pos h0])
       have hz5:(0:Int)<(l3.length:Int):=o_;have hz6:(l3.length:Int)>0:=hz5;exact m51_
      ·have h00:l3.length=0:=o_
       have HCS2:=h_ (show Za9 s=Zee (some days) [] dd tt from by rw [HCS.out];unfold Zee;simp only [h00,List.length_nil]);clear HCS h0;rw [h00];by_cases hd3:dd.length=3
       ·rw [hd3]
        by_cases ht3:tt.length=3
        ·rw [ht3]
         have HF1:=h_ (show Calls prog 298 #[.pointer (some ⟨w.heap.size+1,0,none⟩),.int .i64 0,.slice (some ⟨B1,0,none⟩) 3 3] w6 fun e w'=>ZgQ w6 (w.heap.size+1) 0 #[.slice da days.length dc,.slice none 0 0,.slice none 0 0,.slice none 0 0,.slice none 0 0,.slice none 0 0,.slice none 0 0] dd e w' from by
          have:=Znb (w.heap.size+1) 0 (.inl rfl) #[.slice da days.length dc,.slice none 0 0,.slice none 0 0,.slice none 0 0,.slice none 0 0,.slice none 0 0,.slice none 0 0] rfl dd hd3 (some ⟨B1,0,none⟩) 3 w6 HC6.out HRd.out (fun b o h=>by cases h;have:=HB1.out;omega)
           (fun V hf=>HMX.out V ((HW6.out.below.mono l_).trans (hf.below w.heap.size n70_ (fun k hk e=>by omega)))) HXd.out
          rw [hd3] at this;exact this)
         go_wp2_with fail;refine HF1.out.mono ?_;rintro e w7 ⟨rfl,hf7,cs1,hC7,hs7,hg7⟩;have HW7:=h_ (show NoW w w7 w.heap.size from ⟨HW6.out.below.trans (hf7.below w.heap.size n70_ (fun k hk e=>by omega)),hf7.heap HW6.out.res o_⟩);cases hfd:Y6 dd with
         |none=>
          have HN:=h_ (show Za9 s=none from by rw [HCS2.out];unfold Zee;simp [hd3,ht3,hfd]);rw [show (none:Option (List (List YO))).isSome=false from rfl];clear hg7;obtain ⟨c,f,-,hltR⟩:=rd HW7.out.res;have c0:=c 0;have c1:=c 1;have c2:=c 2;have c3:=c 3;have c4:=c 4;have c5:=c 5;have c6:=c 6;have f0:=f 0;have f1:=f 1;have f2:=f 2;have f3:=f 3;have f4:=f 4;have f5:=f 5;have f6:=f 6;simp only [c1_,c2_,c3_] at c0 c1 c2 c3 c4 c5 c6;clear c f;go_wp2_with fail;have HV7:=Je HW7.out.res Zv Zv Zv Zv Zv Zv Zv;obtain ⟨c,-,-,-⟩:=rd HV7;have d0:=c 0;have d1:=c 1;have d2:=c 2;have d3:=c 3;have d4:=c 4;have d5:=c 5;have d6:=c 6;simp only [c1_,c2_,c3_,ZiE,Zv] at d0 d1 d2 d3 d4 d5 d6;refine bodyPost_ret (v:=.tuple #[.agg #[Zv,Zv,Zv,Zv,Zv,Zv,Zv],.bool false]) ?_ rfl (Zev HN.out rfl ?_)
          ·exact m54_
          ·exact QD HW7.out.below (Nat.le_of_lt hltR) Zv Zv Zv Zv Zv Zv Zv
         |some fd=>
          rw [show (some fd).isSome=true from rfl];have HG7:=h_ (hg7 fd hfd);have hz7:=hf7.size;have HRt7:=h_ (HRt.out.fr hf7 (fun b o h=>by cases h;have:=HB1.out;omega));have HOD7:=h_ (Z4 HOD.out hf7 (fun g hg _ e=>by have:=(HOD.out.lt g hg).1;omega));have HFD:=h_ hfd;have HF2:=h_ (show Calls prog 298 #[.pointer (some ⟨w.heap.size+1,0,none⟩),.int .i64 3,.slice (some ⟨B2,0,none⟩) 3 3] w7 fun e w'=>ZgQ w7 (w.heap.size+1) 3 cs1 tt e w' from by
           have:=Znb (w.heap.size+1) 3 (.inr rfl) cs1 hs7 tt ht3 (some ⟨B2,0,none⟩) 3 w7 hC7 HRt7.out (fun b o h=>by cases h;have:=HB1.out;omega)
            (fun V hf=>HMX.out V (HW7.out.below.trans (hf.below w.heap.size n70_ (fun k hk e=>by omega)))) HXt.out
           rw [ht3] at this;exact this)
          clear hg7 hfd HF1 hf7;go_wp2_with fail;refine HF2.out.mono ?_;rintro e w8 ⟨rfl,hf8,cs2,hC8,hs8,hg8⟩;have HW8:=h_ (show NoW w w8 w.heap.size from ⟨HW7.out.below.trans (hf8.below w.heap.size n70_ (fun k hk e=>by omega)),hf8.heap HW7.out.res o_⟩);cases hft:Y6 tt with
          |none=>
           have HN:=h_ (show Za9 s=none from by rw [HCS2.out];unfold Zee;simp [hd3,ht3,HFD.out,hft]);rw [show (none:Option (List (List YO))).isSome=false from rfl];clear hg8;obtain ⟨c,f,-,hltR⟩:=rd HW8.out.res;have c0:=c 0;have c1:=c 1;have c2:=c 2;have c3:=c 3;have c4:=c 4;have c5:=c 5;have c6:=c 6;have f0:=f 0;have f1:=f 1;have f2:=f 2;have f3:=f 3;have f4:=f 4;have f5:=f 5;have f6:=f 6;simp only [c1_,c2_,c3_] at c0 c1 c2 c3 c4 c5 c6;clear c f;go_wp2_with fail;have HV7:=Je HW8.out.res Zv Zv Zv Zv Zv Zv Zv;obtain ⟨c,-,-,-⟩:=rd HV7;have d0:=c 0;have d1:=c 1;have d2:=c 2;have d3:=c 3;have d4:=c 4;have d5:=c 5;have d6:=c 6;simp only [c1_,c2_,c3_,ZiE,Zv] at d0 d1 d2 d3 d4 d5 d6;refine bodyPost_ret (v:=.tuple #[.agg #[Zv,Zv,Zv,Zv,Zv,Zv,Zv],.bool false]) ?_ rfl (Zev HN.out rfl ?_)
           ·exact m54_
           ·exact QD HW8.out.below (Nat.le_of_lt hltR) Zv Zv Zv Zv Zv Zv Zv
          |some ft=>
           rw [show (some ft).isSome=true from rfl];have HG8:=hg8 ft hft;have hz8:=hf8.size;have HG78:=HG7.out.fr hf8 n70_;have HOD8:=Z4 HOD7.out hf8 (fun g hg _ e=>by have:=(HOD7.out.lt g hg).1;omega);have hfdl:=ZfR dd fd HFD.out;have hftl:=ZfR tt ft hft;obtain ⟨e0,e1,e2,e3,e4,e5,e6,rfl⟩:∃c0 c1 c2 c3 c4 c5 c6,cs2=#[c0,c1,c2,c3,c4,c5,c6]:=by
            obtain ⟨l⟩:=cs2
            have:=hs8
            match l,this with
            |[a0,a1,a2,a3,a4,a5,a6],_=>exact ⟨a0,a1,a2,a3,a4,a5,a6,rfl⟩
           have HOWN:=h_ (show Zcx w8 (w.heap.size+2) #[e0,e1,e2,e3,e4,e5,e6] days (fd++ft) from
            {size:=rfl
             days:=by
              refine ⟨_,?_,HOD8⟩;rw [HG8.other 0 (.inl o_),HG78.other 0 (.inl o_)];rfl
             fields:=fun i hi=>by
              by_cases h3:i<3
              ·obtain ⟨v,h1,h2⟩:=HG78.got i o_
               refine ⟨v,?_,?_⟩
               ·rw [HG8.other (i+1) (.inl o_),<-h1,show 0+1+i=i+1 by omega]
               ·rw [List.getD_eq_getElem?_getD,List.getElem?_append_left o_,List.getElem?_eq_getElem o_]
                exact own_base' h2 n70_
              ·obtain ⟨v,h1,h2⟩:=HG8.got (i-3) o_
               refine ⟨v,?_,?_⟩
               ·rw [<-h1,show 3+1+(i-3)=i+1 by omega]
               ·rw [List.getD_eq_getElem?_getD,List.getElem?_append_right o_,hfdl,hd3,List.getElem?_eq_getElem o_]
                exact own_base' h2 n70_ })
           have hbnd:=ZnV 100000000 dd tt fd ft HFD.out hft HXd.out HXt.out;have HMY:=h_ (fun r hr=>ZnL #[e0,e1,e2,e3,e4,e5,e6] days (fd++ft) w8 HOWN.out.rd o_ (fun i=>by have:=hbnd i;omega) r hr);have HCS3:=h_ (show Za9 s=if Zcv days (fd++ft)=true then some (days,fd++ft) else none from by rw [HCS2.out];unfold Zee;simp [hd3,ht3,HFD.out,hft]);have HC8:=h_ hC8;clear HG8 HG78 HOD8 hfdl hftl hg8 hbnd HF2 hft hf8 hs8;obtain ⟨c,-,-,-⟩:=rd hC8;have k0:=c 0;have k1:=c 1;have k2:=c 2;have k3:=c 3;have k4:=c 4;have k5:=c 5;have k6:=c 6;simp only [c1_,c2_,c3_] at k0 k1 k2 k3 k4 k5 k6;clear c;cases hmy:Zcv days (fd++ft) with
           |false=>
            have HN:=h_ (show Za9 s=none from by rw [HCS3.out,hmy];rfl);have HMY2:=h_ (HMY.out false hmy);go_wp2_with fail;refine HMY2.out.mono ?_;rintro e w9 ⟨rfl,hb9⟩;have HW9:=h_ (show NoW w w9 w.heap.size from ⟨HW8.out.below.trans (hb9.mono (Nat.le_of_lt (Zd HW8.out.res))),Za HW8.out.res hb9⟩);clear k0 k1 k2 k3 k4 k5 k6;obtain ⟨c,f,-,hltR⟩:=rd HW9.out.res;have c0:=c 0;have c1:=c 1;have c2:=c 2;have c3:=c 3;have c4:=c 4;have c5:=c 5;have c6:=c 6;have f0:=f 0;have f1:=f 1;have f2:=f 2;have f3:=f 3;have f4:=f 4;have f5:=f 5;have f6:=f 6;simp only [c1_,c2_,c3_] at c0 c1 c2 c3 c4 c5 c6;clear c f;go_wp2_with fail;have HV7:=Je HW9.out.res Zv Zv Zv Zv Zv Zv Zv;obtain ⟨c,-,-,-⟩:=rd HV7;have d0:=c 0;have d1:=c 1;have d2:=c 2;have d3:=c 3;have d4:=c 4;have d5:=c 5;have d6:=c 6;simp only [c1_,c2_,c3_,ZiE,Zv] at d0 d1 d2 d3 d4 d5 d6;refine bodyPost_ret (v:=.tuple #[.agg #[Zv,Zv,Zv,Zv,Zv,Zv,Zv],.bool false]) ?_ rfl (Zev HN.out rfl ?_)
            ·exact m54_
            ·exact QD HW9.out.below (Nat.le_of_lt hltR) Zv Zv Zv Zv Zv Zv Zv
           |true=>
            have HY:=h_ (show Za9 s=some (days,fd++ft) from by rw [HCS3.out,hmy];rfl);have HMY2:=h_ (HMY.out true hmy);go_wp2_with fail;refine HMY2.out.mono ?_;rintro e w9 ⟨rfl,hb9⟩;have HW9:=h_ (show NoW w w9 w.heap.size from ⟨HW8.out.below.trans (hb9.mono (Nat.le_of_lt (Zd HW8.out.res))),Za HW8.out.res hb9⟩);have HC9:=h_ (Za HC8.out hb9);have HOWN9:=h_ (HOWN.out.below hb9);obtain ⟨p0,n0,m0,rfl⟩:∃a n m,e0=.slice a n m:=by
             obtain ⟨v,h1,h2⟩:=HOWN9.out.days;exact m52_
            obtain ⟨p1,n1,m1,rfl⟩:∃a n m,e1=.slice a n m:=by
             obtain ⟨v,h1,h2⟩:=HOWN9.out.fields 0 o_;exact m52_
            obtain ⟨p2,n2,m2,rfl⟩:∃a n m,e2=.slice a n m:=by
             obtain ⟨v,h1,h2⟩:=HOWN9.out.fields 1 o_;exact m52_
            obtain ⟨p3,n3,m3,rfl⟩:∃a n m,e3=.slice a n m:=by
             obtain ⟨v,h1,h2⟩:=HOWN9.out.fields 2 o_;exact m52_
            obtain ⟨p4,n4,m4,rfl⟩:∃a n m,e4=.slice a n m:=by
             obtain ⟨v,h1,h2⟩:=HOWN9.out.fields 3 o_;exact m52_
            obtain ⟨p5,n5,m5,rfl⟩:∃a n m,e5=.slice a n m:=by
             obtain ⟨v,h1,h2⟩:=HOWN9.out.fields 4 o_;exact m52_
            obtain ⟨p6,n6,m6,rfl⟩:∃a n m,e6=.slice a n m:=by
             obtain ⟨v,h1,h2⟩:=HOWN9.out.fields 5 o_;exact m52_
            clear k0 k1 k2 k3 k4 k5 k6;obtain ⟨c,f,-,hltR⟩:=rd HW9.out.res;have c0:=c 0;have c1:=c 1;have c2:=c 2;have c3:=c 3;have c4:=c 4;have c5:=c 5;have c6:=c 6;have f0:=f 0;have f1:=f 1;have f2:=f 2;have f3:=f 3;have f4:=f 4;have f5:=f 5;have f6:=f 6;simp only [c1_,c2_,c3_] at c0 c1 c2 c3 c4 c5 c6;clear c f;obtain ⟨c,-,-,-⟩:=rd HC9.out;have k0:=c 0;have k1:=c 1;have k2:=c 2;have k3:=c 3;have k4:=c 4;have k5:=c 5;have k6:=c 6;simp only [c1_,c2_,c3_] at k0 k1 k2 k3 k4 k5 k6;clear c;go_wp2_with fail;have HV7:=Je HW9.out.res (.slice p0 n0 m0) (.slice p1 n1 m1) (.slice p2 n2 m2) (.slice p3 n3 m3) (.slice p4 n4 m4) (.slice p5 n5 m5) (.slice p6 n6 m6);obtain ⟨c,-,-,-⟩:=rd HV7;have d0:=c 0;have d1:=c 1;have d2:=c 2;have d3:=c 3;have d4:=c 4;have d5:=c 5;have d6:=c 6;simp only [c1_,c2_,c3_,ZiE] at d0 d1 d2 d3 d4 d5 d6;refine bodyPost_ret (v:=.tuple #[.agg #[(.slice p0 n0 m0),(.slice p1 n1 m1),(.slice p2 n2 m2),(.slice p3 n3 m3),(.slice p4 n4 m4),(.slice p5 n5 m5),(.slice p6 n6 m6)],.bool true]) ?_ rfl (ZtQ HY.out rfl ?_ ?_)
            ·simp [results,results256,go_sem,d0,d1,d2,d3,d4,d5,d6]
            ·exact (HOWN9.out.fr (Zpb _ w.heap.size (.slice p0 n0 m0) (.slice p1 n1 m1) (.slice p2 n2 m2) (.slice p3 n3 m3) (.slice p4 n4 m4) (.slice p5 n5 m5) (.slice p6 n6 m6)) o_).rd
            ·exact QD HW9.out.below (Nat.le_of_lt hltR) (.slice p0 n0 m0) (.slice p1 n1 m1) (.slice p2 n2 m2) (.slice p3 n3 m3) (.slice p4 n4 m4) (.slice p5 n5 m5) (.slice p6 n6 m6)
        ·have HN:=h_ (show Za9 s=none from by rw [HCS2.out];unfold Zee;simp [hd3,ht3])
         have hz5:¬(tt.length:Int)=3:=o_;exact m51_
       ·have HN:=h_ (show Za9 s=none from by rw [HCS2.out];unfold Zee;simp [hd3])
        have hz5:¬(dd.length:Int)=3:=o_;exact m51_
end Go.Proofs.YtmgmbeipbeknaaaGreatDoor
