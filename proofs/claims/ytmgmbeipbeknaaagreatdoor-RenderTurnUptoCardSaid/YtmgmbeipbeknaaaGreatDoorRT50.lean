import Derived.Lib.SplitLaws
import Derived.Test.YtmgmbeipbeknaaaGreatDoorRT44
namespace Go.Proofs.YtmgmbeipbeknaaaGreatDoor
open Go.Proofs.Tryz
open Go Go.RowKit
set_option linter.unusedVariables false
set_option linter.unusedSimpArgs false
set_option maxHeartbeats 16000000
set_option maxRecDepth 100000
theorem m136_{p:Prop}(h:p:=by go_enter func42,ntmps42;go_wp2_with (go_at_call 83;refine (YO _ _ o_ _ HG.out).mono ?_;rintro e w' ⟨rfl,rfl⟩);go_ret;exact ⟨rfl,Below.refl _ _⟩):p:=h
section
variable (R:Nat) (rows:List Str) (n:Nat) (sec:Str) (ov:Value) (at_:Nat) (s:ByteArray) (w:World)
theorem ZoU(hs:s.size<=1000000)(hg:Xo s.data.toList=false) :
  Calls prog 42 #[.pointer (some ⟨R,0,none⟩),.string s,.int .i64 at_] w fun e w'=>e=.returned (.int .i64 1)/\Below w.heap.size w w':=by
 have HG:=h_ hg;clear hg;exact m136_
theorem ZoP(hs:s.size<=1000000)(hg:Xo s.data.toList=true)(hl:400<s.size) :
  Calls prog 42 #[.pointer (some ⟨R,0,none⟩),.string s,.int .i64 at_] w fun e w'=>e=.returned (.int .i64 2)/\Below w.heap.size w w':=by
 have HG:=h_ hg;clear hg;have hl':(400:Int)<(s.size:Int):=o_;exact m136_
theorem ZoS(hg:Xo s.data.toList=true)(hl:s.size<=400)(ht:trimS s.data.toList=[]) :
  Calls prog 42 #[.pointer (some ⟨R,0,none⟩),.string s,.int .i64 at_] w fun e w'=>e=.returned (.int .i64 0)/\Below w.heap.size w w':=by
 have HG:=h_ hg;clear hg;have HT:=h_ ht;clear ht;have hl':¬(400:Int)<(s.size:Int):=o_;go_enter func42,ntmps42;go_wp2_with (first
  |(go_at_call 83;refine (YO _ _ o_ _ HG.out).mono ?_;rintro e w' ⟨rfl,rfl⟩)
  |(go_at_call 40;refine (Z5 _ _ o_ _ HT.out).mono ?_;rintro e w1 ⟨rfl,hb1⟩))
 go_ret;exact ⟨rfl,hb1⟩
theorem Zil(hg:Xo s.data.toList=true)(hl:s.size<=400)(t:Str)(ht:trimS s.data.toList=91::t)(he:(t.getLast?==some 93)=false) :
  Calls prog 42 #[.pointer (some ⟨R,0,none⟩),.string s,.int .i64 at_] w fun e w'=>e=.returned (.int .i64 10)/\Below w.heap.size w w':=by
 have HG:=h_ hg;clear hg;have htl:=Xu s.data.toList;rw [ht] at htl;simp only [List.length_cons] at htl;have hsz:s.data.toList.length=s.size:=s_;rw [hsz] at htl;have HT:=h_ ht;clear ht hsz;have HE:=h_ he;clear he;have hl':¬(400:Int)<(s.size:Int):=o_;obtain ⟨x,hx⟩:∃x:ByteArray,x=⟨(91::t:Str).toArray⟩:=⟨_,rfl⟩;have hxl:x.data.toList=91::t:=by rw [hx]
 obtain ⟨h0,hc⟩:=J9 hxl;obtain ⟨n1,n2,n3,n4⟩:=X5 (s:=x) o_;have HX:=h_ hx.symm;clear hx;have HXl:=h_ hxl;clear hxl hc;have hts:(⟨t.toArray⟩:ByteArray).size<=9223372036854775807:=n86_;go_enter func42,ntmps42;go_wp2_with (first
  |(go_at_call 83;refine (YO _ _ o_ _ HG.out).mono ?_;rintro e w' ⟨rfl,rfl⟩)
  |(go_at_call 40;refine (Z5 _ _ o_ _ HT.out).mono ?_;rintro e w1 ⟨rfl,hb1⟩;rw [HX.out])
  |(go_at_call 84;refine (ZaQ x 91 t _ HXl.out true rfl t rfl).mono ?_;rintro e w' ⟨rfl,rfl⟩)
  |(go_at_call 85;refine (ZnJ _ _ hts HE.out).mono ?_;rintro e w' ⟨rfl,rfl⟩))
 go_ret;exact ⟨rfl,hb1⟩
theorem ZgK(hg:Xo s.data.toList=true)(hl:s.size<=400)(t:Str)(ht:trimS s.data.toList=91::t)(he:(t.getLast?==some 93)=true)(hb:XJ t.dropLast=false) :
  Calls prog 42 #[.pointer (some ⟨R,0,none⟩),.string s,.int .i64 at_] w fun e w'=>e=.returned (.int .i64 10)/\Below w.heap.size w w':=by
 have HG:=h_ hg;clear hg;have htl:=Xu s.data.toList;rw [ht] at htl;simp only [List.length_cons] at htl;have hsz:s.data.toList.length=s.size:=s_;rw [hsz] at htl;have HT:=h_ ht;clear ht hsz;have HE:=h_ he;clear he;have HB:=h_ hb;clear hb;have hl':¬(400:Int)<(s.size:Int):=o_;obtain ⟨x,hx⟩:∃x:ByteArray,x=⟨(91::t:Str).toArray⟩:=⟨_,rfl⟩;have hxl:x.data.toList=91::t:=by rw [hx]
 obtain ⟨h0,hc⟩:=J9 hxl;obtain ⟨n1,n2,n3,n4⟩:=X5 (s:=x) o_;have HX:=h_ hx.symm;clear hx;have HXl:=h_ hxl;clear hxl hc;have hts:(⟨t.toArray⟩:ByteArray).size<=9223372036854775807:=n86_;have hds:(⟨t.dropLast.toArray⟩:ByteArray).size<=9223372036854775807:=by show t.dropLast.length<=_;simp;omega
 go_enter func42,ntmps42;go_wp2_with (first
  |(go_at_call 83;refine (YO _ _ o_ _ HG.out).mono ?_;rintro e w' ⟨rfl,rfl⟩)
  |(go_at_call 40;refine (Z5 _ _ o_ _ HT.out).mono ?_;rintro e w1 ⟨rfl,hb1⟩;rw [HX.out])
  |(go_at_call 84;refine (ZaQ x 91 t _ HXl.out true rfl t rfl).mono ?_;rintro e w' ⟨rfl,rfl⟩)
  |(go_at_call 85;refine (Zfp _ _ hts HE.out _ rfl).mono ?_;rintro e w' ⟨rfl,rfl⟩)
  |(go_at_call 86;refine (Xc _ _ hds _ HB.out).mono ?_;rintro e w' ⟨rfl,rfl⟩))
 go_ret;exact ⟨rfl,hb1⟩
theorem Zgu(hL:LRd R rows n sec ov w)(hg:Xo s.data.toList=true)(hl:s.size<=400)(t:Str)(ht:trimS s.data.toList=91::t)(he:(t.getLast?==some 93)=true)(hb:XJ t.dropLast=true) :
  Calls prog 42 #[.pointer (some ⟨R,0,none⟩),.string s,.int .i64 at_] w fun e w'=>e=.returned (.int .i64 0)/\LRd R rows n t.dropLast ov w'/\Fr (·=R) w w':=by
 have HG:=h_ hg;clear hg;have htl:=Xu s.data.toList;rw [ht] at htl;simp only [List.length_cons] at htl;have hsz:s.data.toList.length=s.size:=s_;rw [hsz] at htl;have HT:=h_ ht;clear ht hsz;have HE:=h_ he;clear he;have HB:=h_ hb;clear hb;have hl':¬(400:Int)<(s.size:Int):=o_;obtain ⟨x,hx⟩:∃x:ByteArray,x=⟨(91::t:Str).toArray⟩:=⟨_,rfl⟩;have hxl:x.data.toList=91::t:=by rw [hx]
 obtain ⟨h0,hc⟩:=J9 hxl;obtain ⟨n1,n2,n3,n4⟩:=X5 (s:=x) o_;have HX:=h_ hx.symm;clear hx;have HXl:=h_ hxl;clear hxl hc;have hts:(⟨t.toArray⟩:ByteArray).size<=9223372036854775807:=n86_;have hds:(⟨t.dropLast.toArray⟩:ByteArray).size<=9223372036854775807:=by show t.dropLast.length<=_;simp;omega
 go_enter func42,ntmps42;go_wp2_with (first
  |(go_at_call 83;refine (YO _ _ o_ _ HG.out).mono ?_;rintro e w' ⟨rfl,rfl⟩)
  |(go_at_call 40;refine (Z5 _ _ o_ _ HT.out).mono ?_;rintro e w1 ⟨rfl,hb1⟩;rw [HX.out]))
 refine (ZaQ x 91 t _ HXl.out true rfl t rfl).mono ?_;rintro e w' ⟨rfl,rfl⟩;have hL1:=hL.below hb1;obtain ⟨oa,cap,c0,c1,c2,c3,f2,f3,-⟩:=hL1.rd;have HF1:=h_ (Fr.of_below hb1 (·=R));clear hL hb1;go_wp2_with (first
  |(go_at_call 85;refine (Zfp _ _ hts HE.out _ rfl).mono ?_;rintro e w' ⟨rfl,rfl⟩)
  |(go_at_call 86;refine (Xc _ _ hds _ HB.out).mono ?_;rintro e w' ⟨rfl,rfl⟩))
 go_ret;refine ⟨rfl,?_,Fr.setCell (M:=(·=R)) HF1.out (p:=⟨R,2,none⟩) (fun _=>rfl) _⟩;obtain ⟨v,h1,h2,h3⟩:=hL1;have h4:=heap_setCell h1 2 (.string ⟨t.dropLast.toArray⟩);exact ⟨v,by rw [h4];rfl,h2.fr (Fr.setCell (M:=(·=R)) (Fr.refl _ _) (p:=⟨R,2,none⟩) (fun _=>rfl) _) (fun k hk=>by omega),h3⟩
end
theorem Zqw:(prog.info? 53).map (fun i=>(i.zero,i.size,i.bytes))=some (some (.agg #[.string ⟨#[]⟩,.string ⟨#[]⟩,.string ⟨#[]⟩,.int .i64 0]),4,56):=k_
theorem Zhf{w4 w5:World}{o:Obj}{R:Nat}{row:Option Nat}(hR:R<w4.heap.size)(hg:(w4.alloc o).grownBy w5 row)(hne:row≠some R)(j:Nat) :
  w5.cell? ⟨R,j,none⟩=w4.cell? ⟨R,j,none⟩/\w5.frozen? ⟨R,j,none⟩=w4.frozen? ⟨R,j,none⟩:=by
 have h1:w5.heap[R]?=w4.heap[R]?:=by
  rw [hg.block R n5_ (fun e=>hne e.symm),Below.heap_alloc _ _ _ hR]
 exact ⟨World.cell?_of_block h1,World.frozen?_of_block h1⟩
theorem Said.ne{R:Nat}{out:List Ln}{ov:Value}{w:World}(h:Said R out ov w):ov.ownBlock≠some R:=by
 intro e
 have:=(World.ownsRow.lt h R e).1
 omega
theorem ZsD{R n at_:Nat}{rows:List Str}{sec k v tk tv:Str}{sb:ByteArray}{ov:Value}{out:List Ln}{w w4 w5:World}{o:Obj}{gg cap:Nat}
  (hL:LRd R rows n sec ov w4) (hS:Said R out ov w4) (hg:(w4.alloc o).grownBy w5 ov.ownBlock)
  (ho:w5.ownsRow (R+1) 53 4 (.slice (some ⟨gg,0,none⟩) (out.length+1) cap) (out.length+1) (QD out++[.string sb,.string ⟨tk.toArray⟩,.string ⟨tv.toArray⟩,.int .i64 at_]))
  (hb:Below w.heap.size w w4) (hsb:sb=⟨sec.toArray⟩) (hk:trimS k=tk) (hv:trimS v=tv) :
  LRd R rows n sec (.slice (some ⟨gg,0,none⟩) (out.length+1) cap) (w5.setCell ⟨R,3,none⟩ (.slice (some ⟨gg,0,none⟩) (out.length+1) cap))/\
   Said R (out++[⟨sec,trimS k,trimS v,(at_:Int)⟩]) (.slice (some ⟨gg,0,none⟩) (out.length+1) cap) (w5.setCell ⟨R,3,none⟩ (.slice (some ⟨gg,0,none⟩) (out.length+1) cap))/\
   Fr (fun b=>R<=b) w (w5.setCell ⟨R,3,none⟩ (.slice (some ⟨gg,0,none⟩) (out.length+1) cap)):=by
 have hne:=hS.ne;have hR:=hL.lt;have hgb:R+1<=gg:=(ho.lt gg rfl).1;obtain ⟨v0,h1,h2,h3⟩:=hL;have h5:w5.heap[R]?=some (.cells #[v0,.int .i64 n,.string ⟨sec.toArray⟩,ov] 72 (0,0)):=by
  rw [hg.block R n5_ (fun e=>hne e.symm),Below.heap_alloc _ _ _ hR];exact h1
 have hf4:Fr (fun b=>R<b) w4 w5:=((Fr.refl _ _).alloc o).grown hg (fun g hg' _=>by have:=(World.ownsRow.lt hS g hg').1;omega);refine ⟨⟨v0,?_,?_,?_⟩,?_,?_⟩
 ·rw [heap_setCell h5 3 _];rfl
 ·exact (h2.fr hf4 (fun k hk=>by omega)).fr (Fr.setCell (M:=(·=R)) (Fr.refl _ _) (p:=⟨R,3,none⟩) (fun _=>rfl) _) (fun k hk=>by omega)
 ·exact ⟨_,_,_,rfl⟩
 ·refine Said.fr (M:=(·=R)) ?_ (Fr.setCell (M:=(·=R)) (Fr.refl _ _) (p:=⟨R,3,none⟩) (fun _=>rfl) _) (fun k hk=>by omega)
  unfold Said;rw [ZiZ,List.length_append];simp only [J6,hk,hv,<-hsb];exact ho
 ·have h6:Fr (fun b=>R<=b) w4 w5:=hf4.mono (fun i _ (h:R<i)=>Nat.le_of_lt h)
  exact Fr.setCell (M:=fun b=>R<=b) ((Fr.of_below hb _).trans h6) (p:=⟨R,3,none⟩) (fun _=>Nat.le_refl R) _
section
variable (R:Nat) (rows:List Str) (n:Nat) (sec:Str) (ov:Value) (at_:Nat) (s:ByteArray) (w:World)
theorem ZaP{w w1:World}{n:Nat}(h:Below w.heap.size w w1):Below w.heap.size w (w1.drewN n):=⟨h.os,h.tape,h.output,h.size,h.block⟩
theorem Zop(hm:Zi w)(hg:Xo s.data.toList=true)(hl:s.size<=400)(c:UInt8)(t:Str)(ht:trimS s.data.toList=c::t)(h91:(c==91)=false)(hq:XV (c::t)=none) :
  Calls prog 42 #[.pointer (some ⟨R,0,none⟩),.string s,.int .i64 at_] w fun e w'=>e=.returned (.int .i64 9)/\Below w.heap.size w w':=by
 have HG:=h_ hg;clear hg;have htl:=Xu s.data.toList;rw [ht] at htl;have hsz:s.data.toList.length=s.size:=s_;rw [hsz] at htl;have HT:=h_ ht;clear ht hsz;have H91:=h_ h91;clear h91;have hl':¬(400:Int)<(s.size:Int):=o_;obtain ⟨x,hx⟩:∃x:ByteArray,x=⟨(c::t:Str).toArray⟩:=⟨_,rfl⟩;have hxl:x.data.toList=c::t:=by rw [hx]
 have hxs:x.size<=400:=by
  have:x.size=(c::t).length:=by rw [hx];rfl
  omega
 rw [<-hxl] at hq;have HQ:=h_ hq;clear hq;obtain ⟨h0,hc⟩:=J9 hxl;obtain ⟨n1,n2,n3,n4⟩:=X5 (s:=x) o_;have HX:=h_ hx.symm;clear hx;have HXl:=h_ hxl;clear hxl hc htl;go_enter func42,ntmps42;go_wp2_with (first
  |(go_at_call 83;refine (YO _ _ o_ _ HG.out).mono ?_;rintro e w' ⟨rfl,rfl⟩)
  |(go_at_call 40;refine (Z5 s _ o_ _ HT.out).mono ?_;rintro e w1 ⟨rfl,hb1⟩;rw [HX.out]))
 refine (ZaQ x c t _ HXl.out false H91.out (c::t) rfl).mono ?_;rintro e w' ⟨rfl,rfl⟩;have hm1:=hm.below hb1;clear hm;go_wp2_with ((go_at_call 78;refine (Zsi x _ o_ hm1 HQ.out).mono ?_;rintro e w' ⟨rfl,q,rfl⟩));refine (Z5 x _ o_ _ rfl).mono ?_;rintro e w2 ⟨rfl,hb2⟩;have HB:=h_ ((ZaP (n:=q) hb1).trans (hb2.mono hb1.size));clear hb1 hb2;go_wp2_with fail;go_ret;exact ⟨rfl,HB.out⟩
theorem ZlC(hm:Zi w)(hg:Xo s.data.toList=true)(hl:s.size<=400)(c:UInt8)(t:Str)(ht:trimS s.data.toList=c::t)(h91:(c==91)=false)(k v:Str)(hq:XV (c::t)=some (k,v))(hk:ZaI (trimS k)=false) :
  Calls prog 42 #[.pointer (some ⟨R,0,none⟩),.string s,.int .i64 at_] w fun e w'=>e=.returned (.int .i64 9)/\Below w.heap.size w w':=by
 have HG:=h_ hg;clear hg;have htl:=Xu s.data.toList;rw [ht] at htl;have hsz:s.data.toList.length=s.size:=s_;rw [hsz] at htl;have HT:=h_ ht;clear ht hsz;have H91:=h_ h91;clear h91;have hl':¬(400:Int)<(s.size:Int):=o_;obtain ⟨x,hx⟩:∃x:ByteArray,x=⟨(c::t:Str).toArray⟩:=⟨_,rfl⟩;have hxl:x.data.toList=c::t:=by rw [hx]
 have hxs:x.size<=400:=by
  have:x.size=(c::t).length:=by rw [hx];rfl
  omega
 have hkl:k.length<=400:=by
  have:=ZaH hq
  rw [this] at htl;simp at htl;omega
 rw [<-hxl] at hq;have HQ:=h_ hq;clear hq;obtain ⟨h0,hc⟩:=J9 hxl;obtain ⟨n1,n2,n3,n4⟩:=X5 (s:=x) o_;have HX:=h_ hx.symm;clear hx;have HXl:=h_ hxl;clear hxl hc htl;have hks:(⟨k.toArray⟩:ByteArray).size<=9223372036854775807:=by show k.length<=_;omega
 obtain ⟨tk,htk⟩:∃tk,trimS k=tk:=⟨_,rfl⟩;have htkl:tk.length<=400:=by rw [<-htk];have:=Xu k;omega
 rw [htk] at hk;have HTk:=h_ htk;clear htk;have HK:=h_ hk;clear hk;have htks:(⟨tk.toArray⟩:ByteArray).size<=9223372036854775807:=by show tk.length<=_;omega
 go_enter func42,ntmps42;go_wp2_with (first
  |(go_at_call 83;refine (YO _ _ o_ _ HG.out).mono ?_;rintro e w' ⟨rfl,rfl⟩)
  |(go_at_call 40;refine (Z5 s _ o_ _ HT.out).mono ?_;rintro e w1 ⟨rfl,hb1⟩;rw [HX.out]))
 refine (ZaQ x c t _ HXl.out false H91.out (c::t) rfl).mono ?_;rintro e w' ⟨rfl,rfl⟩;have hm1:=hm.below hb1;clear hm;go_wp2_with ((go_at_call 78;refine (ZiH x k v _ o_ hm1 HQ.out).mono ?_;rintro e w' ⟨rfl,q,rfl⟩));refine (Z5 _ _ hks _ HTk.out).mono ?_;rintro e w2 ⟨rfl,hb2⟩;have HB:=h_ ((ZaP (n:=q) hb1).trans (hb2.mono hb1.size));have hsz2:=hb1.size;have hsz3:=hb2.size;clear hb1 hb2;go_wp2_with fail;refine (J4 _ _ htks _ HK.out).mono ?_;rintro e w3 ⟨rfl,hb3⟩;have HB3:=h_ (HB.out.trans (hb3.mono HB.out.size));clear hb3;go_wp2_with fail;go_ret;exact ⟨rfl,HB3.out⟩
theorem ZmE(hL:LRd R rows n sec ov w)(hsec:sec=[])(hm:Zi w)(hg:Xo s.data.toList=true)(hl:s.size<=400)(c:UInt8)(t:Str)(ht:trimS s.data.toList=c::t)(h91:(c==91)=false)(k v:Str)(hq:XV (c::t)=some (k,v))(hk:ZaI (trimS k)=true) :
  Calls prog 42 #[.pointer (some ⟨R,0,none⟩),.string s,.int .i64 at_] w fun e w'=>e=.returned (.int .i64 10)/\Below w.heap.size w w':=by
 have HG:=h_ hg;clear hg;have htl:=Xu s.data.toList;rw [ht] at htl;have hsz:s.data.toList.length=s.size:=s_;rw [hsz] at htl;have HT:=h_ ht;clear ht hsz;have H91:=h_ h91;clear h91;have hl':¬(400:Int)<(s.size:Int):=o_;obtain ⟨x,hx⟩:∃x:ByteArray,x=⟨(c::t:Str).toArray⟩:=⟨_,rfl⟩;have hxl:x.data.toList=c::t:=by rw [hx]
 have hxs:x.size<=400:=by
  have:x.size=(c::t).length:=by rw [hx];rfl
  omega
 have hkl:k.length<=400:=by
  have:=ZaH hq
  rw [this] at htl;simp at htl;omega
 rw [<-hxl] at hq;have HQ:=h_ hq;clear hq;obtain ⟨h0,hc⟩:=J9 hxl;obtain ⟨n1,n2,n3,n4⟩:=X5 (s:=x) o_;have HX:=h_ hx.symm;clear hx;have HXl:=h_ hxl;clear hxl hc htl;have hks:(⟨k.toArray⟩:ByteArray).size<=9223372036854775807:=by show k.length<=_;omega
 obtain ⟨tk,htk⟩:∃tk,trimS k=tk:=⟨_,rfl⟩;have htkl:tk.length<=400:=by rw [<-htk];have:=Xu k;omega
 rw [htk] at hk;have HTk:=h_ htk;clear htk;have HK:=h_ hk;clear hk;have htks:(⟨tk.toArray⟩:ByteArray).size<=9223372036854775807:=by show tk.length<=_;omega
 go_enter func42,ntmps42;go_wp2_with (first
  |(go_at_call 83;refine (YO _ _ o_ _ HG.out).mono ?_;rintro e w' ⟨rfl,rfl⟩)
  |(go_at_call 40;refine (Z5 s _ o_ _ HT.out).mono ?_;rintro e w1 ⟨rfl,hb1⟩;rw [HX.out]))
 refine (ZaQ x c t _ HXl.out false H91.out (c::t) rfl).mono ?_;rintro e w' ⟨rfl,rfl⟩;have hm1:=hm.below hb1;clear hm;go_wp2_with ((go_at_call 78;refine (ZiH x k v _ o_ hm1 HQ.out).mono ?_;rintro e w' ⟨rfl,q,rfl⟩));refine (Z5 _ _ hks _ HTk.out).mono ?_;rintro e w2 ⟨rfl,hb2⟩;have HB:=h_ ((ZaP (n:=q) hb1).trans (hb2.mono hb1.size));have hsz2:=hb1.size;have hsz3:=hb2.size;clear hb1 hb2;go_wp2_with fail;refine (J4 _ _ htks _ HK.out).mono ?_;rintro e w3 ⟨rfl,hb3⟩;have HB3:=h_ (HB.out.trans (hb3.mono HB.out.size));clear hb3;subst hsec;obtain ⟨oa,cap,c0,c1,c2,c3,f2,f3,-⟩:=(hL.below HB3.out).rd;clear hL;go_wp2_with fail;go_ret;exact ⟨rfl,HB3.out⟩
end
section
variable (R:Nat) (rows:List Str) (n:Nat) (sec:Str) (ov:Value) (at_:Nat) (s:ByteArray) (w:World)
variable (out:List Ln)
theorem Zoy(hL:LRd R rows n sec ov w)(hS:Said R out ov w)(hout:out.length<=1000000)(hat:at_<=1000000)(hsec:sec≠[])(hm:Zi w)(hg:Xo s.data.toList=true)(hl:s.size<=400)(c:UInt8)(t:Str)(ht:trimS s.data.toList=c::t)(h91:(c==91)=false)(k v:Str)(hq:XV (c::t)=some (k,v))(hk:ZaI (trimS k)=true) :
  Calls prog 42 #[.pointer (some ⟨R,0,none⟩),.string s,.int .i64 at_] w fun e w'=>e=.returned (.int .i64 0)/\∃ov',LRd R rows n sec ov' w'/\Said R (out++[⟨sec,trimS k,trimS v,(at_:Int)⟩]) ov' w'/\Fr (fun b=>R<=b) w w':=by
 have HG:=h_ hg;clear hg;have htl:=Xu s.data.toList;rw [ht] at htl;have hsz:s.data.toList.length=s.size:=s_;rw [hsz] at htl;have HT:=h_ ht;clear ht hsz;have H91:=h_ h91;clear h91;have hl':¬(400:Int)<(s.size:Int):=o_;obtain ⟨x,hx⟩:∃x:ByteArray,x=⟨(c::t:Str).toArray⟩:=⟨_,rfl⟩;have hxl:x.data.toList=c::t:=by rw [hx]
 have hxs:x.size<=400:=by
  have:x.size=(c::t).length:=by rw [hx];rfl
  omega
 have hkl:k.length<=400/\v.length<=400:=by
  have:=ZaH hq
  rw [this] at htl;simp at htl;omega
 obtain ⟨hkl,hvl⟩:=hkl;rw [<-hxl] at hq;have HQ:=h_ hq;clear hq;obtain ⟨h0,hc⟩:=J9 hxl;obtain ⟨n1,n2,n3,n4⟩:=X5 (s:=x) o_;have HX:=h_ hx.symm;clear hx;have HXl:=h_ hxl;clear hxl hc htl;have hks:(⟨k.toArray⟩:ByteArray).size<=9223372036854775807:=by show k.length<=_;omega
 obtain ⟨tk,htk⟩:∃tk,trimS k=tk:=⟨_,rfl⟩;have htkl:tk.length<=400:=by rw [<-htk];have:=Xu k;omega
 rw [htk] at hk;have HTk:=h_ htk;clear htk;have HK:=h_ hk;clear hk;have htks:(⟨tk.toArray⟩:ByteArray).size<=9223372036854775807:=by show tk.length<=_;omega
 go_enter func42,ntmps42;go_wp2_with (first
  |(go_at_call 83;refine (YO _ _ o_ _ HG.out).mono ?_;rintro e w' ⟨rfl,rfl⟩)
  |(go_at_call 40;refine (Z5 s _ o_ _ HT.out).mono ?_;rintro e w1 ⟨rfl,hb1⟩;rw [HX.out]))
 refine (ZaQ x c t _ HXl.out false H91.out (c::t) rfl).mono ?_;rintro e w' ⟨rfl,rfl⟩;have hm1:=hm.below hb1;clear hm;go_wp2_with ((go_at_call 78;refine (ZiH x k v _ o_ hm1 HQ.out).mono ?_;rintro e w' ⟨rfl,q,rfl⟩));refine (Z5 _ _ hks _ HTk.out).mono ?_;rintro e w2 ⟨rfl,hb2⟩;have HB:=h_ ((ZaP (n:=q) hb1).trans (hb2.mono hb1.size));have hsz2:=hb1.size;have hsz3:=hb2.size;clear hb1 hb2;go_wp2_with fail;refine (J4 _ _ htks _ HK.out).mono ?_;rintro e w3 ⟨rfl,hb3⟩;have HB3:=h_ (HB.out.trans (hb3.mono HB.out.size));clear hb3;have hL3:=hL.below HB3.out;have hS3:=hS.below HB3.out;obtain ⟨sb,hsb⟩:∃sb:ByteArray,sb=⟨sec.toArray⟩:=⟨_,rfl⟩;obtain ⟨oa,cap,c0,c1,c2,c3,f2,f3,-⟩:=hL3.rd;rw [<-hsb] at c2;have hsb0:sb.size≠0:=by
  rw [hsb];intro e;exact hsec (List.eq_nil_of_length_eq_zero e)
 obtain ⟨m1,m2,m3,m4⟩:=X5 hsb0;have HSb:=h_ hsb;clear hsb hsb0;clear hL hS;go_wp2_with fail;have HL3:=h_ hL3;clear hL3;have HS3:=h_ hS3;clear hS3;clear htkl htks hks hkl hxs n1 n2 n3 n4 m1 m2 m3 m4 hsz2 hsz3 HXl HX HQ HK HG HT H91 h0 hl';have hRlt:=HL3.out.lt;obtain ⟨i0,hi0,hz0,hz1,hz2⟩:=info_parts Zqw;have hvs:(⟨v.toArray⟩:ByteArray).size<=9223372036854775807:=by show v.length<=_;omega
 obtain ⟨tv,htv⟩:∃tv,trimS v=tv:=⟨_,rfl⟩;have HTv:=h_ htv;clear htv;go_region_law (first
  |(go_simp;go_at_call 40;refine (Z5 ⟨v.toArray⟩ _ hvs _ HTv.out).mono ?_;rintro e w4 ⟨rfl,hb4⟩
    have HL4:=h_ (LRd.below (show LRd R rows n sec ov w3.drew from HL3.out) hb4);have HS4:=h_ (Said.below (show Said R out ov w3.drew from HS3.out) hb4);obtain ⟨oa4,cap4,-,-,d2,d3,g2,g3,-⟩:=HL4.out.rd;rw [<-HSb.out] at d2;have hsz4:w3.heap.size<=w4.heap.size:=hb4.size;have HB4:=h_ (show Below w3.heap.size w3 w4 from ⟨hb4.os,hb4.tape,hb4.output,hb4.size,hb4.block⟩);have hR4:R<w4.heap.size:=Nat.lt_of_lt_of_le hRlt hsz4;clear hb4)
  |(refine step_append_lies _ n13_ _ _ _ n13_ (R+1) 53 i0 _ 4 56 underlying33 hi0 hz0 hz1 hz2 rfl o_ ov out.length (QD out) n13_ (World.ownsRow.alloc (show w4.ownsRow (R+1) 53 4 ov out.length (QD out) from HS4.out) _) ⟨w4.heap.size,0,none⟩ 1 1 [.string sb,.string ⟨tk.toArray⟩,.string ⟨tv.toArray⟩,.int .i64 at_] n13_ n13_ (World.news_of_block (cs:=#[.string sb,.string ⟨tk.toArray⟩,.string ⟨tv.toArray⟩,.int .i64 at_]) (t:=53) (fr:=(0,0)) (heap_alloc_new w4 _)) (by simp [Value.oneCell']) o_ n19_ o_ n5_ (w4.heap.size+1) s_ ?_;intro gg cap5 w5 hown5 hgrow hat5 hlt5
    have k3:w5.cell? ⟨R,3,none⟩=some ov:=(Zhf hR4 hgrow HS4.out.ne 3).1.trans d3;have k4:w5.frozen? ⟨R,3,none⟩=false:=(Zhf hR4 hgrow HS4.out.ne 3).2.trans g3;have HG5:=h_ (And.intro hgrow hown5);clear hgrow hown5 hat5))
 all_goals
  go_wp2_with fail;go_ret;refine ⟨rfl,.slice (some ⟨gg,0,none⟩) (out.length+1) cap5,?_⟩;exact ZsD HL4.out HS4.out HG5.out.1 HG5.out.2 (HB3.out.trans (HB4.out.mono HB3.out.size)) HSb.out HTk.out HTv.out
end
theorem ZoE(R:Nat)(rows:List Str)(n:Nat)(sec:Str)(ov:Value)(out:List Ln)(at_:Nat)(s:Str)(w:World)(hL:LRd R rows n sec ov w)(hS:Said R out ov w)(hm:Zi w)(hs:s.length<=1000000)(hout:out.length<=1000000)(hat:at_<=1000000)
  (says:Says) (hsays:J5 sec s=says) :
  Calls prog 42 #[.pointer (some ⟨R,0,none⟩),.string ⟨s.toArray⟩,.int .i64 at_] w fun e w'=>ZrM R rows n sec ov out at_ says w e w':=by
 have hsz:(⟨s.toArray⟩:ByteArray).size=s.length:=rfl;cases hg:Xo s with
 |false=>
  have:says=.err 1:=by rw [<-hsays];unfold J5;rw [hg];rfl
  subst this;exact ZoU R at_ ⟨s.toArray⟩ w hs hg
 |true=>
  by_cases hl:s.length<=400
  ·have e0:J5 sec s=match trimS s with
     |[]=>.nothing
     |c::t=>
      if c==91 then (if t.getLast?==some 93&&XJ t.dropLast then .sect t.dropLast else .err 10)
      else match XV (c::t) with
       |none=>.err 9
       |some (k,v)=>if ZaI (trimS k) then (if sec.isEmpty then .err 10 else .pair (trimS k) (trimS v)) else .err 9:=by
    unfold J5;rw [if_pos hg,if_pos hl];rfl
   rw [e0] at hsays;cases ht:trimS s with
   |nil=>
    rw [ht] at hsays;subst hsays;exact ZoS R at_ ⟨s.toArray⟩ w hg hl ht
   |cons c t=>
    rw [ht] at hsays;simp only at hsays;cases h91:(c==91) with
    |true=>
     rw [h91] at hsays
     have:=eq_of_beq h91
     subst this;cases he:(t.getLast?==some 93) with
     |false=>
      rw [he] at hsays;simp only [Bool.false_and,if_true] at hsays;subst hsays;exact Zil R at_ ⟨s.toArray⟩ w hg hl t ht he
     |true=>
      rw [he] at hsays;cases hb:XJ t.dropLast with
      |false=>
       rw [hb] at hsays;simp only [Bool.and_false,if_true] at hsays;subst hsays;exact ZgK R at_ ⟨s.toArray⟩ w hg hl t ht he hb
      |true=>
       rw [hb] at hsays;simp only [Bool.and_self,if_true] at hsays;subst hsays;refine (Zgu R rows n sec ov at_ ⟨s.toArray⟩ w hL hg hl t ht he hb).mono ?_;rintro e w' ⟨h1,h2,h3⟩;exact ⟨h1,h2,hS.fr h3 (fun k hk=>by omega),h3⟩
    |false=>
     rw [h91] at hsays;cases hq:XV (c::t) with
     |none=>
      rw [hq] at hsays;simp only at hsays;subst hsays;exact Zop R at_ ⟨s.toArray⟩ w hm hg hl c t ht h91 hq
     |some kv=>
      obtain ⟨k,v⟩:=kv;rw [hq] at hsays;simp only at hsays;cases hk:ZaI (trimS k) with
      |false=>
       rw [hk] at hsays;subst hsays;exact ZlC R at_ ⟨s.toArray⟩ w hm hg hl c t ht h91 k v hq hk
      |true=>
       rw [hk] at hsays;by_cases hsec:sec=[]
       ·subst hsec
        subst hsays;exact ZmE R rows n [] ov at_ ⟨s.toArray⟩ w hL rfl hm hg hl c t ht h91 k v hq hk
       ·have hse:sec.isEmpty=false:=by simpa using hsec
        rw [hse] at hsays;subst hsays;exact Zoy R rows n sec ov at_ ⟨s.toArray⟩ w out hL hS hout hat hsec hm hg hl c t ht h91 k v hq hk
  ·have:says=.err 2:=by rw [<-hsays];unfold J5;rw [if_pos hg,if_neg hl]
   subst this;exact ZoP R at_ ⟨s.toArray⟩ w hs hg (by show 400<s.length;omega)
theorem ZbG:∀(s:Str),(Lib.index s [10] = -1/\s.contains 10=false)\/∃a b,s=a++10::b/\a.contains 10=false/\Lib.index s [10]=a.length
 |[]=>.inl ⟨rfl,rfl⟩
 |c::r=>by
  cases hc:(c==10) with
  |true=>
   have:=eq_of_beq hc
   subst this;exact .inr ⟨[],r,rfl,rfl,by unfold Lib.index;rw [show List.isPrefixOf [10] (10::r)=true by simp [List.isPrefixOf]];rfl⟩
  |false=>
   have hp:List.isPrefixOf [10] (c::r)=false:=by
    simp only [List.isPrefixOf,Bool.and_true];rw [beq_eq_false_iff_ne] at hc⊢;exact fun e=>hc e.symm
   have hc':((10:UInt8)==c)=false:=by
    rw [beq_eq_false_iff_ne] at hc⊢;exact fun e=>hc e.symm
   rcases ZbG r with ⟨h1,h2⟩|⟨a,b,h1,h2,h3⟩
   ·exact .inl ⟨by unfold Lib.index;rw [hp,h1];rfl,by rw [List.contains_cons,hc',h2];rfl⟩
   ·refine .inr ⟨c::a,b,by rw [h1];rfl,by rw [List.contains_cons,hc',h2];rfl,?_⟩
    unfold Lib.index;rw [hp,h3]
    have:((a.length:Int)==-1)=false:=n12_
    simp [this]
theorem ZdS{s:Str}(h:s.contains 10=false):YW s=[s]:=by
 induction s with
 |nil=>rfl
 |cons c r ih=>
  rw [List.contains_cons,Bool.or_eq_false_iff] at h;have hc:(c==10)=false:=by
   rw [beq_eq_false_iff_ne];intro e;subst e;simp at h
  conv=>lhs;unfold YW
  rw [hc,ih h.2];rfl
theorem Zbw{s:Str}(h:s.contains 10=false):nls s=0:=by
 unfold nls;rw [List.count_eq_zero];intro hm;rw [<-List.contains_iff_mem] at hm;rw [hm] at h;cases h
theorem Ziy{a b:Str}(h:a.contains 10=false):nls (a++10::b)=1+nls b:=by
 have:=Zbw h
 unfold nls at *;rw [List.count_append,this,List.count_cons];simp;omega
theorem Zjc:∀(f:Nat) (s:Str),s.length<f->Lib.countFrom [10] f s=nls s
 |0,_,h=>absurd h o_
 |f+1,s,h=>by
  unfold Lib.countFrom;rcases ZbG s with ⟨h1,h2⟩|⟨a,b,h1,h2,h3⟩
  ·rw [h1,Zbw h2];rfl
  ·have hne:(Lib.index s [10]==-1)=false:=by rw [h3,beq_eq_false_iff_ne];omega
   rw [if_neg (by rw [hne];exact Bool.false_ne_true),h3];subst h1;rw [Ziy h2]
   have:List.drop ((a.length:Int).toNat+([10]:List UInt8).length) (a++10::b)=b:=s_
   rw [this,Zjc f b (by simp at h;omega)]
theorem Zdt:∀(n:Nat) (s:Str),s.length<=n->Lib.splitK [10] 0 (nls s) s=YW s
 |n,s,h=>by
  rcases ZbG s with ⟨h1,h2⟩|⟨a,b,h1,h2,h3⟩
  ·rw [Zbw h2,ZdS h2];rfl
  ·have hne:(Lib.index s [10]==-1)=false:=by rw [h3,beq_eq_false_iff_ne];omega
   cases n with
   |zero=>subst h1;simp at h
   |succ n=>
    have hk:nls s=nls b+1:=by rw [h1,Ziy h2];omega
    rw [hk];unfold Lib.splitK;rw [if_neg (by rw [hne];exact Bool.false_ne_true),h3];subst h1;rw [Qk h2];have e1:List.drop ((a.length:Int).toNat+([10]:List UInt8).length) (a++10::b)=b:=s_;have e2:List.take ((a.length:Int).toNat+0) (a++10::b)=a:=s_;rw [e1,e2,Zdt n b (by simp at h;omega)]
theorem Zg5(s:ByteArray):Lib.countB s ⟨#[10]⟩=nls s.data.toList:=Zjc _ _ (Nat.lt_succ_self _)
theorem Zmc:∀(t:Str),nls t+1=(YW t).length:=by
 intro t;have h1:=Zdt t.length t l_;rcases ZbG t with ⟨_,h2⟩|⟨a,b,h,h2,h3⟩
 ·rw [Zbw h2,ZdS h2];rfl
 ·induction hn:t.length using Nat.strongRecOn generalizing t a b with
  |ind n ih=>
   subst h;rw [Ziy h2,Qk h2];rcases ZbG b with ⟨_,h5⟩|⟨a',b',h4,h5,h6⟩
   ·rw [Zbw h5,ZdS h5];rfl
   ·have:=ih b.length (by simp at hn;omega) b (Zdt b.length b l_) a' b' h4 h5 h6 rfl
    simp;omega
theorem ZkW(s:ByteArray):((Lib.splitB ⟨#[10]⟩ 0 (Lib.countB s ⟨#[10]⟩) s).map Value.string)=Zj (YW s.data.toList):=by
 have h:=Lib.splitB_data ⟨#[10]⟩ 0 (Lib.countB s ⟨#[10]⟩) s;rw [Zg5] at h⊢;have h2:=Zdt _ s.data.toList l_;have h3:Lib.splitK (⟨#[10]⟩:ByteArray).data.toList 0 (nls s.data.toList) s.data.toList=YW s.data.toList:=h2;rw [h3] at h;rw [<-h];unfold Zj;rw [List.map_map];apply List.map_congr_left;intro x _;rfl
end Go.Proofs.YtmgmbeipbeknaaaGreatDoor
