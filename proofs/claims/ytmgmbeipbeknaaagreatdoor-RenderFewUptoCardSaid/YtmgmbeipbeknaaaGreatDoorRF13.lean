import Derived.Test.YtmgmbeipbeknaaaGreatDoorProg
import Derived.Deep.QuietTactic
import Derived.BigQuiet
import Derived.BigRegion
import Derived.Lib.Hide
import Derived.Test.YtmgmbeipbeknaaaGreatDoorRF2
import Derived.Test.YtmgmbeipbeknaaaGreatDoorRF5
namespace Go.Proofs.YtmgmbeipbeknaaaGreatDoor
open Go.Proofs.Tryz
open Go Go.RowKit
set_option linter.unusedVariables false
set_option linter.unusedSimpArgs false
set_option maxHeartbeats 16000000
set_option maxRecDepth 100000
theorem infoByte:(prog.info? 5).map (fun i=>(i.zero,i.size,i.bytes))=some (some (.int .u8 0),1,1):=k_
theorem Zll:prog.cellsOf 5=1:=k_
theorem sizeBuilder:(prog.info? 127).map (fun i=>i.size)=some 2:=k_
theorem QF{P:Program}{f:FuncId}{args:Array Value}{w:World}{n:Nat}{v:Value}
  (h:Calls P f args (w.drewN n) fun e w'=>e=.returned v/\w.drewN n=w'):Calls P f args (w.drewN n) fun e w''=>e=.returned v/\∃k,w''=w.drewN k:=
 h.mono fun _ _ ⟨he,hw⟩=>⟨he,n,hw.symm⟩
def Znj(T n o:Nat):Prop:=liesAt prog prog.depth T (n / prog.cellsOf T) o 127 1=true/\o+1<n
theorem ZfI(R o:Nat)(w:World)(h0:w.cell? ⟨R,o,none⟩=some (.pointer (some ⟨R,o,none⟩))) :
  Calls prog 185 #[.pointer (some ⟨R,o,none⟩)] w fun e w'=>e=.returned (.tuple #[])/\w=w':=by
 obtain ⟨j,hj,_⟩:=Option.map_eq_some_iff.1 sizeBuilder;go_enter func185,ntmps185;go_wp2;rw [Lib.run_neq_ptr_same w _ underlying124 hj];go_wp2;go_end0;exact ⟨rfl,rfl⟩
theorem Zey(R o:Nat)(T n:Nat)(w:World)(h0:w.cell? ⟨R,o,none⟩=some (.pointer none))(hsh:w.shape? R=some (T,n))(hT:Znj T n o)(hfz:w.frozen? ⟨R,o,none⟩=false) :
  Calls prog 185 #[.pointer (some ⟨R,o,none⟩)] w fun e w'=>e=.returned (.tuple #[])/\w'=w.setCell ⟨R,o,none⟩ (.pointer (some ⟨R,o,none⟩)):=by
 obtain ⟨j,hj,hjs⟩:=Option.map_eq_some_iff.1 sizeBuilder;obtain ⟨hl,ho⟩:=hT;go_enter func185,ntmps185;go_wp2;rw [Lib.run_to_unsafe w ⟨R,o,none⟩ underlying124 underlying227 hj (by rw [hjs];decide) hsh (by show o<n;omega)];simp only [Result.andThen];rw [Oper.upon_value];go_wp2;rw [run_callFunc_extern func242 k_ k_ k_ (e:=Extern.AbiNoEscape.same) k_];rw [Lib.run_noEscape];simp only [Result.andThen];rw [Oper.upon_value];go_wp2;rw [Lib.run_from_unsafe w ⟨R,o,none⟩ underlying227 underlying124 hj hsh hl];simp only [Result.andThen];rw [Oper.upon_value];go_wp2;go_end0;exact ⟨rfl,rfl⟩
def Zak(R o:Nat):Value:=.pointer (some ⟨R,o,none⟩)
theorem Zb2(R o:Nat)(cs:Array Value)(T:Nat)(w:World)(hR:w.heap[R]?=some (.cells cs T (0,0)))(hT:Znj T cs.size o)
  (p:Value) (hp:cs[o]?=some p) (hp':p=.pointer none\/p=Zak R o) :
  Calls prog 185 #[.pointer (some ⟨R,o,none⟩)] w fun e w'=>e=.returned (.tuple #[])/\
   w'.heap[R]?=some (.cells (cs.setIfInBounds o (Zak R o)) T (0,0))/\Fr (·=R) w w':=by
 obtain ⟨hc,hf,hs,hlt⟩:=rd hR;rcases hp' with rfl|rfl
 ·refine (Zey R o T cs.size w (by rw [hc];exact hp) hs hT (hf o)).mono ?_
  rintro e w' ⟨rfl,rfl⟩;exact ⟨rfl,heap_setCell hR _ _,Fr.setCell (M:=(·=R)) (Fr.refl _ _) (p:=⟨R,o,none⟩) (fun _=>rfl) _⟩
 ·refine (ZfI R o w (by rw [hc];exact hp)).mono ?_
  rintro e w' ⟨rfl,rfl⟩;refine ⟨rfl,?_,Fr.refl _ _⟩;rw [hR];congr 2;obtain ⟨h1,h2⟩:=Array.getElem?_eq_some_iff.1 hp;apply Array.ext_getElem?;intro i;rw [Array.getElem?_setIfInBounds];split
  ·subst_vars;simp [h1,h2]
  ·rfl
def Wrote(R o B:Nat)(T:Nat)(cs:Array Value)(l:List UInt8)(w w':World):Prop:=
 ∃v',w'.heap[R]?=some (.cells ((cs.setIfInBounds o (Zak R o)).setIfInBounds (o+1) v') T (0,0))/\Buf B 5 l v' w'/\FrB R B 5 w w'
theorem Zd8{R o B T:Nat}{cs:Array Value}{v v':Value}{l m:List UInt8}{w w1 w1' w2:World}(hTe:T≠5)(hf1:Fr (·=R) w w1)(hl1:Buf B 5 l v w1)
  (hal:FrB R B 5 w1 w1') (hrow:∀g,v.ownBlock=some g->B<=g/\Zbu 5 w1' g) (hg:w1'.grownBy w2 v.ownBlock) (hR2:w2.heap[R]?=some (.cells (cs.setIfInBounds o (Zak R o)) T (0,0)))
  (hb:Buf B 5 m v' w2):Wrote R o B T cs m w (w2.setCell ⟨R,o+1,none⟩ v'):=by
 refine ⟨v',heap_setCell hR2 _ _,hb.setCell (hb.ne hR2 hTe) _,?_⟩;have h1:FrB R B 5 w w1:=hf1.mono (fun i _ h=>.inl h);exact ((h1.trans hal).grown hg hrow).setCell _ _
theorem ZfV(R o B:Nat)(cs:Array Value)(T:Nat)(w:World)(hR:w.heap[R]?=some (.cells cs T (0,0)))
  (v:Value) (hv:cs[o+1]?=some v) (l:List UInt8) (hl:Buf B 5 l v w) (hTe:T≠5) :
  Calls prog 100 #[.pointer (some ⟨R,o,none⟩)] w fun e w'=>e=.returned (.string ⟨l.toArray⟩)/\w'.heap[R]?=some (.cells cs T (0,0))/\Buf B 5 l v w'/\FrB R B 5 w w':=by
 have c1:w.cell? ⟨R,o+1,none⟩=some v:=by rw [(rd hR).1];exact hv
 rcases hl with ⟨rfl,rfl⟩|⟨h0,hown⟩
 ·have hUS:=fun w=>Lib.run_unsafeString_none (P:=prog) w 196 3 9 none
  have c2:w.drew.cell? ⟨R,o+1,none⟩=some (.slice none 0 0):=c1;have hSD:(Builtin.unsafeSliceData_ #[125] 196 #[.slice none 0 0]).run prog w.drew=.ok (.pointer none) w.drew:=rfl;have HR:=h_ hR;clear hR;go_enter func100,ntmps100;go_wp2;go_region;all_goals (go_wp2;go_ret;exact ⟨rfl,HR.out,.inl ⟨rfl,rfl⟩,(FrB.refl _ _ _ _).drew⟩)
 ·have hl0:l.length≠0:=by simpa using h0
  obtain ⟨g,cap,cur,fz,rfl,hbg,hg,hfz,hnc,hcm,hcs,htake⟩:∃g cap cur fz,v=.slice (some ⟨g,0,none⟩) l.length cap/\B<=g/\w.heap[g]?=some (.cells cur 5 fz)/\fz.2<=l.length*1/\l.length<=cap/\cap<=maxLen/\cur.size=cap*1/\cur.toList.take (l.length*1)=Lib.byteCells l:=by
   rcases hown.2 with ⟨_,hz⟩|⟨g,cap,cur,fz,hv,r⟩
   ·exact absurd hz hl0
   ·exact ⟨g,cap,cur,fz,hv,r⟩
  have hgR:g≠R:=fun e=>by subst e;rw [hR] at hg;simp at hg;exact hTe hg.2.1
  have hSD:(Builtin.unsafeSliceData_ #[125] 196 #[.slice (some ⟨g,0,none⟩) l.length cap]).run prog w.drew=.ok (.pointer (some ⟨g,0,none⟩)) w.drew:=
   Lib.run_unsafeSliceData_row _ _ _ _ _ _ o_
  have hUS:(Builtin.unsafeString_ #[196,3] 9 #[.pointer (some ⟨g,0,none⟩),.int .i64 l.length]).run prog w.drew=.ok (.string ⟨l.toArray⟩) (w.drew.freeze ⟨g,0,none⟩ l.length):=by
   refine Lib.run_unsafeString_row w.drew 196 3 9 5 underlying196 Zll g cur.size (by have hg':w.drew.heap[g]?=some (.cells cur 5 fz):=hg;simp [World.shape?,hg']) l h0 o_ (by unfold maxLen at hcm;omega) ?_;intro j x hx;exact hown.cells (g:=g) rfl j (.int .u8 x.toNat) (by simp [Lib.byteCells,hx])
  have c2:w.drew.cell? ⟨R,o+1,none⟩=some (.slice (some ⟨g,0,none⟩) l.length cap):=c1;have hkeep:Buf B 5 l (.slice (some ⟨g,0,none⟩) l.length cap) (w.drew.freeze ⟨g,0,none⟩ l.length):=by
   refine .inr ⟨h0,hown.1,.inr ⟨g,cap,cur,?_⟩⟩;have hn0:l.length≠0:=hl0;obtain ⟨lo,hi⟩:=fz;refine ⟨if lo==hi then (0,l.length) else (min lo 0,max hi l.length),rfl,hbg,?_,?_,hnc,hcm,hcs,htake⟩
   ·unfold World.freeze
    rw [if_neg hn0]
    have:w.drew.heap[g]?=some (.cells cur 5 (lo,hi)):=hg
    simp [Array.getElem?_modify,this]
   ·simp only at hfz
    split<;>simp<;>omega
  have hfr:FrB R B 5 w (w.drew.freeze ⟨g,0,none⟩ l.length):=Fr.freeze (Fr.drew (Fr.refl _ _)) (fun _=>.inr ⟨hbg,cur,fz,hg⟩) _;have hR2:(w.drew.freeze ⟨g,0,none⟩ l.length).heap[R]?=some (.cells cs T (0,0)):=by
   unfold World.freeze;split
   ·exact hR
   ·have:w.drew.heap[R]?=some (.cells cs T (0,0)):=hR
    simp only [Array.getElem?_modify];rw [if_neg hgR];exact this
  have HH:=h_ (And.intro hR2 (And.intro hkeep hfr));clear hR2 hkeep hfr hg hR hown htake hcs hbg hfz;go_enter func100,ntmps100;go_wp2;go_region;all_goals (go_wp2;go_ret;exact ⟨rfl,HH.out⟩)
def Bld(R B:Nat)(l:List UInt8)(w:World):Prop:=
 ∃p v,w.heap[R]?=some (.cells #[p,v] 127 (0,0))/\(p=.pointer none\/p=Zak R 0)/\Buf B 5 l v w/\R<B/\B<=w.heap.size
theorem Zdi:Znj 127 2 0:=⟨k_,d_⟩
theorem Bld.lt{R B:Nat}{l:List UInt8}{w:World}(h:Bld R B l w):R<w.heap.size:=by obtain ⟨_,_,h,_⟩:=h;exact Zb h
theorem Bld.new(w:World):Bld w.heap.size (w.heap.size+1) [] (w.alloc (.cells #[.pointer none,.slice none 0 0] 127)):=
 ⟨.pointer none,.slice none 0 0,heap_alloc_new w _,.inl rfl,.inl ⟨rfl,rfl⟩,o_,s_⟩
theorem Bld.drewN{R B:Nat}{l:List UInt8}{w:World}(h:Bld R B l w)(n:Nat):Bld R B l (w.drewN n):=h
theorem Bld.drew{R B:Nat}{l:List UInt8}{w:World}(h:Bld R B l w):Bld R B l w.drew:=h
theorem Bld.frame{R B:Nat}{l:List UInt8}{w w':World}{M:Nat->Prop}(h:Bld R B l w)(hf:Fr M w w')(hR:¬M R)(hB:∀i,B<=i->Zbu 5 w i->¬M i):Bld R B l w':=by
 obtain ⟨p,v,h1,h2,h3,h4,h5⟩:=h;exact ⟨p,v,hf.heap h1 hR,h2,h3.kept hf (fun i hi=>hB i (h3.row i hi).1 (h3.row i hi).2),h4,by have:=hf.size;omega⟩
theorem Bld.below{R B:Nat}{l:List UInt8}{w w':World}(h:Bld R B l w)(hf:Below w.heap.size w w'):Bld R B l w' :=
 h.frame (M:=fun _=>False) (Fr.of_below hf _) (fun e=>e) (fun _ _ _ e=>e)
theorem Bld.string{R B:Nat}{l:List UInt8}{w:World}(h:Bld R B l w) :
  Calls prog 100 #[.pointer (some ⟨R,0,none⟩)] w fun e w'=>e=.returned (.string ⟨l.toArray⟩)/\Bld R B l w'/\FrB R B 5 w w':=by
 obtain ⟨p,v,h1,h2,h3,h4,h5⟩:=h;refine (ZfV R 0 B _ _ w h1 v rfl l h3 d_).mono ?_;rintro e w1 ⟨rfl,hR1,hb1,hf1⟩;exact ⟨rfl,⟨p,v,hR1,h2,hb1,h4,n55_⟩,hf1⟩
theorem Zfz:(prog.info? 9).map (fun i=>(i.zero,i.size,i.bytes))=some (some (.string ⟨#[]⟩),1,16):=k_
theorem ZnC(R o:Nat)(cs:Array Value)(T:Nat)(w:World)(hR:w.heap[R]?=some (.cells cs T (0,0)))(ho:o+1<cs.size)
  (p v:Value) (hp:cs[o]?=some p) (hv:cs[o+1]?=some v) :
  Calls prog 307 #[.pointer (some ⟨R,o,none⟩)] w fun e w'=>e=.returned (.tuple #[])/\
   w'.heap[R]?=some (.cells ((cs.setIfInBounds o (.pointer none)).setIfInBounds (o+1) (.slice none 0 0)) T (0,0))/\Fr (·=R) w w':=by
 have c0:w.cell? ⟨R,o,none⟩=some p:=by rw [(rd hR).1];exact hp
 have c1:w.cell? ⟨R,o+1,none⟩=some v:=by rw [(rd hR).1];exact hv
 have f0:=(rd hR).2.1 o;have f1:=(rd hR).2.1 (o+1);have HR:=h_ hR;clear hR;go_enter func307,ntmps307;go_wp2;go_end0;refine ⟨rfl,heap_setCell (heap_setCell HR.out _ _) _ _,Fr.setCell (M:=(·=R)) (p:=⟨R,o+1,none⟩) (Fr.setCell (M:=(·=R)) (p:=⟨R,o,none⟩) (Fr.refl _ _) (fun _=>rfl) _) (fun _=>rfl) _⟩
theorem Zcf(R o B:Nat)(cs:Array Value)(T:Nat)(w:World)(hR:w.heap[R]?=some (.cells cs T (0,0)))(hT:Znj T cs.size o)
  (p v:Value) (hp:cs[o]?=some p) (hp':p=.pointer none\/p=Zak R o) (hv:cs[o+1]?=some v)
  (l:List UInt8) (hl:Buf B 5 l v w) (hTe:T≠5) (hlen:l.length<1099511627776) (hB:B<=w.heap.size) (c:UInt8) :
  Calls prog 127 #[.pointer (some ⟨R,o,none⟩),.int .u8 c.toNat] w fun e w'=>e=.returned .nilIface/\Wrote R o B T cs (l++[c]) w w':=by
 obtain ⟨i0,hi,hz0,hz1,hz2⟩:=info_parts infoByte;have hne:=hl.ne hR hTe;go_enter func127,ntmps127;go_wp2_with (go_at_call 185;refine (Zb2 R o cs T _ hR hT p hp hp').mono ?_);rintro e w1 ⟨rfl,hR1,hf1⟩;have HR:=h_ hR;clear hR;have HR1:=h_ hR1;clear hR1;have hl1:=hl.kept hf1 (fun k hk e=>hne (e ▸ hk));have c1:w1.cell? ⟨R,o+1,none⟩=some v:=by
  rw [(rd HR1.out).1,Array.getElem?_setIfInBounds_ne o_];exact hv
 go_wp2_with (at_builtin;refine wpList_append_ownF _ rfl _ _ 125 rfl B 5 i0 (.int .u8 0) 1 1 underlying125 hi hz0 hz1 hz2 rfl d_ _ _ _ rfl (hl1.own.alloc _) ⟨w1.heap.size,0,none⟩ 1 1 [.int .u8 c.toNat] rfl rfl ?c1 ?c2 ?c3 ?c4 ?c5 ?_)
 case c1=>exact cell_one_new _ _ _
 case c2=>simp [Value.oneCell']
 case c3=>unfold maxLen;omega
 case c4=>omega
 case c5=>have:=hf1.size;simp;omega
 intro v' w2 hown' hgrow hnil;have hR2:w2.heap[R]?=some (.cells (cs.setIfInBounds o (Zak R o)) T (0,0)):=by
  rw [hgrow.block R (by have:=Zb HR1.out;simp;omega) (fun e=>hne e.symm)];exact heap_alloc HR1.out _
 have HR2:=h_ hR2;clear hR2;have d1:w2.cell? ⟨R,o+1,none⟩=some v:=by
  rw [(rd HR2.out).1,Array.getElem?_setIfInBounds_ne o_];exact hv
 have d2:=(rd HR2.out).2.1 (o+1);obtain ⟨ao,n',cap,rfl⟩:∃ao n' cap,v'=.slice ao n' cap:=by
  rcases hown'.2 with ⟨hv,_⟩|⟨g,cap,cur,fz,hv,_⟩
  ·exact ⟨_,_,_,hv⟩
  ·exact ⟨_,_,_,hv⟩
 have HG:=h_ (And.intro hgrow (And.intro hnil hown'));clear hgrow hnil hown';go_wp2;go_ret;obtain ⟨hgrow,hnil,hown'⟩:=HG.out;refine ⟨rfl,Zd8 hTe hf1 hl1 (FrB.alloc (FrB.refl _ _ _ _) _) (hl1.alloc _).row hgrow HR2.out (.inr ⟨s_,?_⟩)⟩;simpa [Lib.byteCells_append,Zgf] using hown'
theorem Bld.writeByte{R B:Nat}{l:List UInt8}{w:World}(h:Bld R B l w)(c:UInt8)(hlen:l.length<1099511627776) :
  Calls prog 127 #[.pointer (some ⟨R,0,none⟩),.int .u8 c.toNat] w fun e w'=>e=.returned .nilIface/\Bld R B (l++[c]) w'/\FrB R B 5 w w':=by
 obtain ⟨p,v,h1,h2,h3,h4,h5⟩:=h;refine (Zcf R 0 B #[p,v] 127 _ h1 Zdi p v rfl h2 rfl l h3 d_ hlen h5 c).mono ?_;rintro e w1 ⟨rfl,v',hR1,hb1,hf1⟩;exact ⟨rfl,⟨Zak R 0,v',hR1,.inr rfl,hb1,h4,n55_⟩,hf1⟩
theorem m15_{p:Prop}(h:p:=by go_enter func252,ntmps252;go_wp2_with fail;go_quiet ((go_at_call 175;exact Calls.quiet_of_same (Tryz.strings_IndexByte _ _ _)));go_wp2;go_ret2;exact ⟨rfl,_,rfl⟩):p:=h
theorem Zsk(a b c:UInt8):(0<=Lib.indexByte [a,b] c)↔(c=a\/c=b):=by
 simp only [Lib.indexByte];by_cases h1:a=c
 ·simp [h1]
 ·by_cases h2:b=c
  ·subst h2;simp [h1]
  ·simp [h1,h2]
   exact ⟨fun e=>h1 e.symm,fun e=>h2 e.symm⟩
theorem Jj(c:UInt8)(w:World) :
  Calls prog 305 #[.int .u8 c.toNat] w fun e w'=>e=.returned (.bool (Zm c))/\w=w':=by
 go_enter func305,ntmps305;go_wp2_with (go_at_call 175;refine (Tryz.strings_IndexByte _ _ _).mono ?_;rintro e w' ⟨rfl,rfl⟩);go_ret;refine ⟨ZP ?_,rfl⟩;rw [ZiY,decide_eq_decide,Zsk,<-UInt8.toNat_inj,<-UInt8.toNat_inj];simp;omega
abbrev ZgU:List UInt8:=[48,49,50,51,52,53,54,55,56,57,97,98,99,100,101,102]
theorem Zps(c:UInt8):Lib.indexByte ZgU c=match hexOf c with|some n=>(n:Int)|none=>-1:=by
 have:=Jk (p:=fun c=>decide (Lib.indexByte ZgU c=match hexOf c with|some n=>(n:Int)|none=>-1)) n4_ c
 exact of_decide_eq_true this
theorem Zi5{c:UInt8}{n:Nat}(h:hexOf c=some n):n<16:=by
 have:=Jk (p:=fun c=>match hexOf c with|some n=>decide (n<16)|none=>true) n4_ c
 rw [h] at this;exact of_decide_eq_true this
theorem Zsh(x y:Nat)(hx:x<16)(hy:y<16):bits BinOp.or IntKind.i64 ((x:Int)*16) y % 256=((UInt8.ofNat (16*x+y)).toNat:Int):=by
 have h:(List.range 16).all (fun x=>(List.range 16).all fun y=>decide (bits BinOp.or IntKind.i64 ((x:Int)*16) y % 256=((UInt8.ofNat (16*x+y)).toNat:Int)))=true:=n4_;have h1:=List.all_eq_true.1 h x (List.mem_range.2 hx);have h2:=List.all_eq_true.1 h1 y (List.mem_range.2 hy);exact of_decide_eq_true h2
def ZqV(l:List UInt8):Value:=match Qd l with
 |some d=>.tuple #[.int .u8 d.toNat,.bool true]
 |none=>.tuple #[.int .u8 0,.bool false]
theorem Znl(s:ByteArray)(w:World)(h:s.size<2) :
  Calls prog 252 #[.string s] w fun e w'=>e=.returned (.tuple #[.int .u8 0,.bool false])/\w=w':=by
 go_enter func252,ntmps252;go_wp2;go_ret2;exact ⟨rfl,rfl⟩
theorem Zo0(s:ByteArray)(w:World)(h:2<=s.size)(h63:s.size<=9223372036854775807) :
  Calls prog 252 #[.string s] w fun e w'=>e=.returned (ZqV [s[0],s[1]])/\∃n,w'=w.drewN n:=by
 have h0:0<s.size:=o_;have h1:(1:Int)<(s.size:Int):=o_;have e0:=Zps s[0];have e1:=Zps s[1];have l0:=@Zi5 s[0];have l1:=@Zi5 s[1];unfold ZqV;simp only [Qd];cases hx:hexOf s[0] with
 |none=>
  rw [hx] at e0;simp only at e0;clear l0 l1 e1 hx;exact m15_
 |some x=>
  rw [hx] at e0;simp only at e0;have hx16:=l0 hx;cases hy:hexOf s[1] with
  |none=>
   rw [hy] at e1;simp only at e1;clear l0 l1 hx hy;exact m15_
  |some y=>
   rw [hy] at e1;simp only at e1;have hy16:=l1 hy;clear l0 l1 hx hy;go_enter func252,ntmps252;go_wp2_with fail;go_quiet ((go_at_call 175;exact Calls.quiet_of_same (Tryz.strings_IndexByte _ _ _)));go_wp2;go_ret2;refine ⟨Zh9 (by rw [<-Zsh x y hx16 hy16];rfl),_,rfl⟩
theorem ZqN(s:ByteArray)(w:World)(h63:s.size<=9223372036854775807) :
  Calls prog 252 #[.string s] w fun e w'=>e=.returned (ZqV s.data.toList)/\∃n,w'=w.drewN n:=by
 by_cases h:s.size<2
 ·refine (Znl s w h).mono ?_
  rintro e w' ⟨rfl,rfl⟩;refine ⟨?_,0,rfl⟩;obtain ⟨⟨d⟩⟩:=s;match d,h with
  |[],_=>rfl
  |[a],_=>rfl
 ·refine (Zo0 s w o_ h63).mono ?_
  rintro e w' ⟨rfl,hw⟩;refine ⟨?_,hw⟩;obtain ⟨⟨d⟩⟩:=s;match d,h with
  |a::b::r,_=>rfl
  |[],h=>exact absurd (show 0<2 by decide) h
  |[a],h=>exact absurd (show 1<2 by decide) h
theorem ZpW(s:ByteArray)(w:World)(h63:s.size<=9223372036854775807)(l:List UInt8)(hl:s.data.toList=l) :
  Calls prog 252 #[.string s] w fun e w'=>e=.returned (.tuple #[.int .u8 ((Qd l).getD 0).toNat,.bool (Qd l).isSome])/\∃n,w'=w.drewN n:=by
 refine (ZqN s w h63).mono ?_;rintro e w' ⟨rfl,hw⟩;refine ⟨?_,hw⟩;rw [hl];unfold ZqV;cases Qd l<;>rfl
end Go.Proofs.YtmgmbeipbeknaaaGreatDoor
