import Derived.Test.YtmgmbeipbeknaaaGreatDoorRB36
import Derived.Test.YtmgmbeipbeknaaaGreatDoorRB37
import Derived.Test.YtmgmbeipbeknaaaGreatDoorRB38
import Derived.Test.YtmgmbeipbeknaaaGreatDoorRB40
namespace Go.Proofs.YtmgmbeipbeknaaaGreatDoor
open Go.Proofs.Tryz
open Go Go.RowKit
set_option linter.all false
set_option maxHeartbeats 16000000
set_option maxRecDepth 100000
theorem m111_{p:Prop}(h:p:=by
  have HO4:=h_ (show w4.ownsRow w.heap.size 9 1 v' (k+1) (Zh ((l.map YC).take (k+1))) by rw [HS.out,Xc,HW.out];exact hown');clear hgrow hnil hown';obtain ⟨ao,cap2,rfl⟩:=ownsRow_form HO4.out;go_wp2_with fail;go_roundg (l.length-k)
  case measure=>omega
  case rel=>exact ⟨k+1,o_,n9_,o_,HO4,HZ,HB4⟩):p:=h
theorem Zjs(sep:Str)(l:List Str):Lib.join l sep=Ya sep l:=by
 induction l with
 |nil=>rfl
 |cons a l ih=>
  cases l with
  |nil=>simp [Lib.join,Ya]
  |cons b r=>simp only [Ya,<-ih];simp [Lib.join]
theorem Zek(sep:Str)(m:Nat):∀(l:List Str),(∀x∈l,x.length<=m)->(Ya sep l).length<=l.length*(m+sep.length)
 |[],_=>by simp [Ya]
 |[a],h=>by have:=h a s_;simp [Ya];omega
 |a::b::r,h=>by
  have h1:=h a s_;have ih:=Zek sep m (b::r) (fun x hx=>h x (by simp [hx]));simp only [Ya,c5_];rw [c14_,Nat.add_mul];omega
theorem ZaB(x:Str):(YC x).length<=4*x.length+2:=by
 unfold YC Qt;split
 ·omega
 ·have:=Zc8 x;simp only [c14_,c5_,List.length_nil];omega
theorem ZhT(l:Str):(0<=Lib.indexByte l 0)=(l.contains 0=true):=by
 induction l with
 |nil=>simp [Lib.indexByte]
 |cons a l ih=>
  simp only [Lib.indexByte];by_cases h:a=0
  ·simp [h]
  ·have hge:=Lib.indexByte_ge l 0
   rw [List.contains_cons];have h2:((0:UInt8)==a)=false:=by simpa using (fun e:(0:UInt8)=a=>h e.symm)
   rw [h2,Bool.false_or,<-ih];have h3:(a==0)=false:=n32_;rw [h3];by_cases h4:Lib.indexByte l 0 = -1
   ·simp [h4]
   ·have:(Lib.indexByte l 0==-1)=false:=by simpa using h4
    rw [this];simp;omega
theorem ZhN(s:ByteArray)(w:World)(v:Int)(hv:Lib.indexByte s.data.toList 0=v) :
  Calls prog 175 #[.string s,.int .u8 0] w fun e w'=>e=.returned (.int .i64 v)/\w=w':=by
 subst hv;refine (Tryz.strings_IndexByte s 0 w).mono ?_;rintro e w' ⟨rfl,rfl⟩;exact ⟨rfl,rfl⟩
theorem ZbM(l:List Str)(k:Nat)(h:k<l.length):(l.map YC).take (k+1)=(l.map YC).take k++[YC l[k]]:=by
 rw [c4_ n32_];simp
theorem ZdT(l:List Str)(k:Nat)(h:k<l.length)(h1:(l.take k).any (fun x=>x.contains 0)=false)(h2:l[k].contains 0=false):(l.take (k+1)).any (fun x=>x.contains 0)=false:=by
 rw [c4_ h,List.any_append,h1];simp only [List.any_cons,h2];rfl
def Zwj(w:World)(l:List Str)(e:Ending)(w':World):Prop:=e=.returned (.string ⟨(join l).toArray⟩)/\Below w.heap.size w w'
theorem Zln(oa:Option Addr)(cap:Nat)(l:List Str)(w:World)(h:Zp w oa l)(hm:l.length<=maxLen)(hl:∀x∈l,x.length<137438953472) :
  Calls prog 94 #[.slice oa l.length cap] w fun e w'=>Zwj w l e w':=by
 unfold maxLen at hm;obtain ⟨i0,hi,hz0,hz1,hz2⟩:=info_parts Zg2;by_cases h32:32<l.length
 ·have HR:=h_ (show join l=[] by unfold join;rw [if_pos h32])
  go_enter func94,ntmps94;go_wp2_with fail;go_ret;exact ⟨n14_,Below.refl _ _⟩
 ·have Hl:=h_ hl;clear hl
  have Hr:=h_ h;clear h;go_enter func94,ntmps94;go_wp2_with fail;go_loopg [3,5,11] (l.length+1) (fun f v _ i wr=>∃k:Nat,k<=l.length/\i=.int .i64 k/\l.length-k<f/\Hid (wr.ownsRow w.heap.size 9 1 v k (Zh ((l.map YC).take k)))/\Hid ((l.take k).any (fun x=>x.contains 0)=false)/\Hid (Below w.heap.size w wr))
  case atStart=>exact ⟨0,o_,rfl,o_,World.ownsRow_nil _ _ _ _,rfl,Below.refl _ _⟩
  case round=>
   obtain ⟨k,hk,rfl,hfu,Hown,Hz,Hb⟩:=hrel;obtain ⟨oa',cap',rfl⟩:=ownsRow_form Hown.out;by_cases hlt:k<l.length
   ·obtain ⟨b,o,rfl,hc⟩:=(Hr.out.below Hb.out) k hlt
    have hxl:=Hl.out l[k] (List.getElem_mem _);cases hz:l[k].contains 0 with
    |true=>
     have h0:0<=Lib.indexByte l[k] 0:=by rw [ZhT];exact hz
     obtain ⟨n,hn⟩:∃n:Nat,Lib.indexByte l[k] 0=n:=⟨_,(Int.toNat_of_nonneg h0).symm⟩;have HN:=h_ hn;have HR:=h_ (show join l=[] by
      unfold join;rw [if_neg h32,if_pos];rw [List.any_eq_true];exact ⟨l[k],List.getElem_mem _,hz⟩)
     clear hn h0 hz;go_wp2_with (go_at_call 175;refine (ZhN _ _ n HN.out).mono ?_;rintro e w' ⟨rfl,rfl⟩);go_ret;exact ⟨n14_,Hb.out⟩
    |false=>
     have h0:Lib.indexByte l[k] 0 = -1:=by
      have h1:¬0<=Lib.indexByte l[k] 0:=by rw [ZhT,hz];exact Bool.false_ne_true
      have:=Lib.indexByte_ge l[k] 0
      omega
     have HN:=h_ h0;have HZ:=h_ (ZdT l k hlt Hz.out hz);have HS:=h_ (ZbM l k hlt);clear h0 hz;cases hp:XP l[k] with
     |true=>
      have HW:=h_ (show YC l[k]=l[k] by unfold YC;rw [if_pos hp]);have HP:=h_ hp;have HO:=h_ (Hown.out.alloc (.cells #[.string ⟨l[k].toArray⟩] 9));clear hp;go_wp2_with (first
       |(go_at_call 175;refine (ZhN _ _ (-1) HN.out).mono ?_;rintro e w' ⟨rfl,rfl⟩)
       |(go_at_call 176;refine (Zhe _ _ (by show l[k].length<=_;omega)).mono ?_;rintro e w' ⟨rfl,rfl⟩;rw [HP.out])
       |(at_builtin;refine wpList_append_own _ rfl _ _ 26 rfl w.heap.size 9 i0 (.string ⟨#[]⟩) 1 16 underlying26 hi hz0 hz1 hz2 rfl d_ _ _ _ rfl HO.out ⟨wr.heap.size,0,none⟩ 1 1 [.string ⟨l[k].toArray⟩] rfl rfl ?c1 ?c2 ?c3 ?c4 ?c5 ?_))
      case c1=>exact cell_one_new _ _ _
      case c2=>simp [Value.oneCell']
      case c3=>unfold maxLen;omega
      case c4=>omega
      case c5=>have:=Hb.out.size;simp;omega
      intro v' w4 hown' hgrow hnil;have HB4:=h_ (((Hb.out.alloc Hb.out.size _).grown hgrow (by have:=Hb.out.size;simp;omega) (fun g hg=>(Hown.out.lt g hg).1)));exact m111_
     |false=>
      have HW:=h_ (show YC l[k]=Qt l[k] by unfold YC;rw [if_neg (by simp [hp])]);have HP:=h_ hp;clear hp;go_wp2_with (first
       |(go_at_call 175;refine (ZhN _ _ (-1) HN.out).mono ?_;rintro e w' ⟨rfl,rfl⟩)
       |(go_at_call 176;refine (Zhe _ _ (by show l[k].length<=_;omega)).mono ?_;rintro e w' ⟨rfl,rfl⟩;rw [HP.out]))
      refine (ZqW _ wr (by show l[k].length<_;omega)).mono ?_;rintro e w3 ⟨rfl,hb3⟩;have HO:=h_ ((Z4 Hown.out (Fr.of_below hb3 (fun _=>False)) (fun _ _ _ e=>e)).alloc (.cells #[.string ⟨(Qt l[k]).toArray⟩] 9));have HB3:=h_ (Hb.out.trans (hb3.mono Hb.out.size));have hsz:=HB3.out.size;have hsz2:=Hb.out.size;clear hb3;go_wp2_with ((at_builtin;refine wpList_append_own _ rfl _ _ 26 rfl w.heap.size 9 i0 (.string ⟨#[]⟩) 1 16 underlying26 hi hz0 hz1 hz2 rfl d_ _ _ _ rfl HO.out ⟨w3.heap.size,0,none⟩ 1 1 [.string ⟨(Qt l[k]).toArray⟩] rfl rfl ?c1 ?c2 ?c3 ?c4 ?c5 ?_))
      case c1=>exact cell_one_new _ _ _
      case c2=>simp [Value.oneCell']
      case c3=>unfold maxLen;omega
      case c4=>omega
      case c5=>simp;omega
      intro v' w4 hown' hgrow hnil;have HB4:=h_ (((HB3.out.alloc hsz _).grown hgrow n6_ (fun g hg=>(Hown.out.lt g hg).1)));exact m111_
   ·have:k=l.length:=o_
    subst this;have hz:=Hz.out;rw [List.take_length] at hz;have HR:=h_ (show join l=Lib.join (l.map YC) [32] by unfold join;rw [if_neg h32,hz,Zjs];rfl);by_cases h0:l.length=0
    ·have hl0:l=[]:=c10_ h0
     subst hl0;go_wp2_with (go_at_call 178;refine (Tryz.strings_Join_none _ _ _ _).mono ?_;rintro e w' ⟨rfl,rfl⟩);go_ret;exact ⟨n14_,Hb.out⟩
    ·have hrow:=Zp.of_own Hown.out
     rw [c9_ s_] at hrow;obtain ⟨b,o,rfl,-⟩:=hrow 0 n6_;have hcells:∀(j:Nat) (x:ByteArray),((l.map YC).map fun y=>(⟨y.toArray⟩:ByteArray))[j]?=some x->wr.cell? ⟨b,o+j,none⟩=some (.string x):=by
      intro j x hx;simp at hx;obtain ⟨y,hy,rfl⟩:=hx;obtain ⟨hj,rfl⟩:=List.getElem?_eq_some_iff.1 hy;obtain ⟨b',o',e,hc⟩:=hrow j n113_;injection e with e;injection e with e1 e2;subst e1;subst e2
      simpa using hc
     have hblt:b<wr.heap.size:=by
      obtain ⟨b',o',e,hc⟩:=hrow 0 n6_;injection e with e;injection e with e1 e2;subst e1
      exact World.block_lt_of_cell? wr _ hc
     have hmm:(((l.map YC).map fun y=>(⟨y.toArray⟩:ByteArray)).map (·.data.toList))=l.map YC:=by simp [Function.comp_def]
     have hjl:(Lib.join (((l.map YC).map fun y=>(⟨y.toArray⟩:ByteArray)).map (·.data.toList)) [32]).length<=140737488355328:=by
      rw [hmm,Zjs]
      have:=Zek [32] (4*137438953472+2) (l.map YC) (by
       intro x hx;obtain ⟨y,hy,rfl⟩:=List.mem_map.1 hx;have h1:=ZaB y;have h2:=Hl.out y hy;omega)
      rw [List.length_map] at this;simp only [c14_,List.length_nil] at this;have h3:l.length*(4*137438953472+2+1)<=32*(4*137438953472+2+1):=Nat.mul_le_mul_right _ o_;omega
     have hcap:l.length<=cap':=by
      rcases Hown.out.2 with ⟨h,_⟩|⟨g,cap2,cur,h,_,_,h2,_⟩
      ·cases h
      ·injection h with _ _ h;subst h;exact h2
     have HJ:=h_ (Tryz.strings_Join b o cap' ((l.map YC).map fun y=>(⟨y.toArray⟩:ByteArray)) ⟨#[32]⟩ wr hcells hblt n6_ (by simpa using hcap) hjl);have hlen:((l.map YC).map fun y=>(⟨y.toArray⟩:ByteArray)).length=l.length:=s_;have HLen:=h_ hlen;clear hrow hcells hmm hjl hlen hz;go_wp2_with fail;have H:=HJ.out;rw [HLen.out] at H;refine H.mono ?_;rintro e w3 ⟨rfl,hb3⟩;go_wp2_with fail;go_ret;refine ⟨?_,Hb.out.trans (hb3.mono Hb.out.size)⟩;rw [HR.out];simp [Function.comp_def]
theorem m112_{p:Prop}(h:p:=by go_wp2_with fail;go_end0;refine ⟨rfl,Xe.below HWR.out ?_,FrB.trans HF2.out (FrB.trans HFR.out (Fr.of_below ?_ _))⟩;all_goals (repeat (first|exact Below.refl _ _|refine YH ?_|refine YA ?_))):p:=h
theorem m113_{p:Prop}(h:p:=by
  clear hw5 hf5;go_wp2_with fail;go_roundg (xs.length-m)
  case measure=>omega
  case rel=>exact ⟨m+1,o_,n9_,o_,n83_,HF5⟩):p:=h
theorem m114_{p:Prop}(h:p:=by go_quiet (first|(go_at_call 179;exact Calls.quiet_of_same (HNU.out _))|(go_at_call 145;exact Calls.quiet_of_same (HTX.out _))|(go_at_call 142;exact Calls.quiet_of_same (HEX.out _)));exact m112_):p:=h
theorem Xe.rdU{w0 w:World}{R B:Nat}{us fs:Array Value}{l:List Ln}(h:Xe w0 w R B us fs l){j:Nat}{x:Value}(hx:us[j]?=some x):w.cell? ⟨R,j,none⟩=some x:=by
 obtain ⟨_,c,d,_,_,la,lc,g,_⟩:=h;exact ((Proofs.YtmgmbeipbeknaaaGreatDoor.rd g).1 j).trans (ZvD c d _ _ _ hx)
theorem ZtE{w w':World}{oa:Option Addr}{xs:List Zdy}{l:List Zar}(hb:Below w.heap.size w w')(h:ZbB w oa xs l):ZbB w' oa xs l:=⟨h.len,h.row.below hb,fun i h1 h2=>let s:=h.see i h1 h2;⟨s.dash,s.wn,s.row.below hb,s.few⟩⟩
theorem Zn1(d:Bool)(w:World):Calls prog 181 #[.string ⟨#[45]⟩,.int .i64 (if d then 1 else 0)] w fun e w'=>e=.returned (.string ⟨(if d then [45] else []:Str).toArray⟩)/\Below w.heap.size w w':=by
 cases d with
 |true=>exact (Tryz.strings_Repeat_one ⟨#[45]⟩ w).mono fun e w' h=>⟨h.1,by rw [h.2];exact Below.refl _ _⟩
 |false=>exact (Tryz.strings_Repeat_zero ⟨#[45]⟩ w).mono fun e w' h=>⟨h.1,by rw [h.2];exact Below.refl _ _⟩
theorem Zrc(d:Bool)(x:Zar)(hd:d=x.1):(⟨(if d then [45] else []:Str).toArray⟩:ByteArray)++(⟨(join x.2).toArray⟩:ByteArray)=⟨(Qc x).toArray⟩:=by
 subst hd;apply Yu;rw [Joins.data_append];rfl
theorem ZuK(d:Bool)(x:Zar)(hd:d=x.1)(h:(Qc x).length<=1000000000):(if d then [45] else []:Str).length+(join x.2).length<=9223372036854775807:=by
 subst hd;unfold Qc at h;rw [c5_] at h;omega
theorem Zp.base{w w':World}{oa:Option Addr}{l:List Str}(h:Zp w oa l)(hb:Below w.heap.size w w'):Zp w' oa l:=h.below hb
theorem Y8.below{w w':World}{oa:Option Addr}{l:List Int}(h:Y8 w oa l)(hb:Below w.heap.size w w'):Y8 w' oa l:=by
 intro i hi;obtain ⟨b,o,e,hc⟩:=h i hi;exact ⟨b,o,e,(hb.cell (World.block_lt_of_cell? w _ hc)).trans hc⟩
theorem ZoX(R B j:Nat)(us fs:Array Value)(l:List Ln)(k:ZE)(kv:ZQ)(oa:Option Addr)(cap:Nat)(xs:List Int)(w0 w:World)(hW:Xe w0 w R B us fs l)(hM:Zz w0)(hP:Pow w0)(hK:Xu w kv k)(hkw:k.words.length<=1000)(hl:l.length+xs.length<=100000000)
  (hj:us[j]?=some (.slice oa xs.length cap)) (hrow:Y8 w0 oa xs) (hv:∀x∈xs,(Qv k x).length<=1000000000) (hk0:k.words=[]) (hxr:∀x∈xs,-9223372036854775808<=x/\x<=9223372036854775807)
  (hNumbers:∀W,Calls prog 179 #[.pointer (some ⟨R,0,none⟩),.string ⟨k.name.toArray⟩] W fun e w'=>e=.returned (.pointer (some ⟨R,j,none⟩))/\w'=W)
  (hTexts:∀W,Calls prog 145 #[.pointer (some ⟨R,0,none⟩),.string ⟨k.name.toArray⟩] W fun e w'=>e=.returned (.pointer (none))/\w'=W)
  (hExecs:∀W,Calls prog 142 #[.pointer (some ⟨R,0,none⟩),.string ⟨k.name.toArray⟩] W fun e w'=>e=.returned (.pointer (none))/\w'=W)
  : Calls prog 95 #[.pointer (some ⟨R,0,none⟩),.agg (Zm kv).toArray] w fun e w'=>X6 w0 w R B us fs (l++Yy k.sec (xs.map fun x=>(k.name,Qv k x))) e w':=by
 have hsec:=hK.sec;have hname:=hK.name;have HKV:=h_ hK;obtain ⟨ks,kn,kf,kl,kk,wa,wn,wc⟩:=kv;simp only at hsec hname;subst hsec;subst hname;have hlt:R<w.heap.size:=n16_;have hB:=(Below.refl w.heap.size w).alloc l_ (.cells #[.string ⟨k.sec.toArray⟩,.string ⟨k.name.toArray⟩,.int .i64 kf,.bool kl,.int .i64 kk,.slice wa wn wc] 82);have HB:=h_ hB;have HW1:=h_ (hW.below hB);have HK1:=h_ (heap_alloc_new w (.cells #[.string ⟨k.sec.toArray⟩,.string ⟨k.name.toArray⟩,.int .i64 kf,.bool kl,.int .i64 kk,.slice wa wn wc] 82));have HNU:=h_ hNumbers;have HTX:=h_ hTexts;have HEX:=h_ hExecs;have HM:=h_ hM;have HP:=h_ hP;have HL:=h_ hl;have HV:=h_ hv;have HJ:=h_ hj;have HKW:=h_ hkw;have HROW:=h_ hrow;have HXR:=h_ hxr;have HK0:=h_ hk0;clear hxr hk0;unfold Zm X6;simp only;clear hB hW hM hP hK hl hv hj hkw hNumbers hTexts hExecs hrow;have HNR:=h_ (show w.heap.size≠R by omega);have HRD:=h_ (fun (W:World) (h:FrB R B 53 (w.alloc (.cells #[.string ⟨k.sec.toArray⟩,.string ⟨k.name.toArray⟩,.int .i64 kf,.bool kl,.int .i64 kk,.slice wa wn wc] 82)) W)=>show W.heap[w.heap.size]?=some (.cells #[.string ⟨k.sec.toArray⟩,.string ⟨k.name.toArray⟩,.int .i64 kf,.bool kl,.int .i64 kk,.slice wa wn wc] 82 (0,0))/\W.cell? ⟨w.heap.size,0,none⟩=some (.string ⟨k.sec.toArray⟩)/\W.cell? ⟨w.heap.size,1,none⟩=some (.string ⟨k.name.toArray⟩) from
  ⟨FrB.heap h HK1.out HNR.out d_,(rd (FrB.heap h HK1.out HNR.out d_)).1 0,(rd (FrB.heap h HK1.out HNR.out d_)).1 1⟩)
 go_enter func95,ntmps95;go_wp2_with fail;generalize w.alloc (.cells #[.string ⟨k.sec.toArray⟩,.string ⟨k.name.toArray⟩,.int .i64 kf,.bool kl,.int .i64 kk,.slice wa wn wc] 82)=w1 at HB HW1 HK1 HRD⊢;clear HK1;obtain ⟨-,d3,d4⟩:=HRD.out w1 (FrB.refl _ _ _ _);have hj1:=HW1.out.rdU HJ.out;go_quiet (first|(go_at_call 179;exact Calls.quiet_of_same (HNU.out _))|(go_at_call 145;exact Calls.quiet_of_same (HTX.out _))|(go_at_call 142;exact Calls.quiet_of_same (HEX.out _)));go_wp2_with fail;refine XG (P:=fun V=>Code.wp _ _ _ _ V) (w1:=w1) (by repeat (first|exact Below.refl _ _|refine YH ?_|refine YA ?_)) (fun w9 hb2=>?_);have HF2:=h_ (show FrB R B 53 w w9 from Fr.of_below (HB.out.trans (hb2.mono HB.out.size)) _);have HW2:=h_ (HW1.out.below hb2);have HRD2:=h_ (fun (W:World) (h:FrB R B 53 w9 W)=>HRD.out W (FrB.trans (show FrB R B 53 w1 w9 from Fr.of_below hb2 _) h));clear hb2 d3 d4 HRD HB hj1;go_loopg [6,25] (xs.length+1) (fun f _ i wr=>∃m:Nat,m<=xs.length/\i=.int .i64 m/\xs.length-m<f/\Hid (Xe w0 wr R B us fs (l++Yy k.sec ((xs.take m).map fun x=>(k.name,Qv k x))))/\Hid (FrB R B 53 w9 wr))
 case atStart=>exact ⟨0,o_,rfl,o_,n33_,FrB.refl _ _ _ _⟩
 case round=>
  obtain ⟨m,hm,rfl,hf,HWR,HFR⟩:=hrel;have HRW:=h_ (fun (W:World) (h:Below wr.heap.size wr W)=>HRD2.out W (FrB.trans HFR.out (show FrB R B 53 wr W from Fr.of_below h _)));obtain ⟨-,d3,d4⟩:=HRW.out wr b_;by_cases hlt2:m<xs.length
  ·obtain ⟨x,hx⟩:=e_ (xs[m])
   have HSN:=h_ (show l++Yy k.sec ((xs.take (m+1)).map fun x=>(k.name,Qv k x))=(l++Yy k.sec ((xs.take m).map fun x=>(k.name,Qv k x)))++[Zby k.sec k.name (Qv k x)] by
    rw [c4_ hlt2,List.map_append,<-hx];simp [Yy])
   have HVX:=h_ (HV.out x n37_);have HLM:=h_ (show (l++Yy k.sec ((xs.take m).map fun x=>(k.name,Qv k x))).length<=100000000 by
    have:=HL.out;rw [c5_,Yy,List.length_map,List.length_map,List.length_take];omega)
   have hm2:(m:Int)<(xs.length:Int):=o_;have hmb:m<=100000000:=n112_;obtain ⟨b,o,e1,d5⟩:=Y8.below HROW.out HWR.out.base  m hlt2;subst e1;rw [<-hx] at d5;have HXX:=h_ (HXR.out x n37_);clear hx;generalize l++Yy k.sec ((xs.take m).map fun x=>(k.name,Qv k x))=lm at HWR HSN HLM;go_wp2_with fail;refine Zk (S:=fun V=>Below wr.heap.size wr V) 8 k_ k_ (Ze ⟨1,rfl⟩) (fun hHeld=>?_);refine u_ ?_;refine dT_ (i:=0) (v:=.pointer (some ⟨R,0,none⟩)) (gT_ rfl) (fun W hW=>by clear hW;go_simp) (u_ ?_);refine dT_ (i:=1) (v:=.pointer (some ⟨w.heap.size,0,none⟩)) (gT_ rfl) (fun W hW=>by clear hW;go_simp) (u_ ?_);refine dT_ (i:=2) (v:=.string ⟨k.sec.toArray⟩) (gT_ rfl) (fun W hW=>by obtain ⟨-,q3,q4⟩:=HRW.out W hW;clear hW;go_simp) (u_ ?_);refine dT_ (i:=3) (v:=.pointer (some ⟨w.heap.size,1,none⟩)) (gT_ rfl) (fun W hW=>by clear hW;go_simp) (u_ ?_);refine dT_ (i:=4) (v:=.string ⟨k.name.toArray⟩) (gT_ rfl) (fun W hW=>by obtain ⟨-,q3,q4⟩:=HRW.out W hW;clear hW;go_simp) (u_ ?_);refine dT_ (i:=5) (v:=.agg #[.string ⟨k.sec.toArray⟩,.string ⟨k.name.toArray⟩,.int .i64 kf,.bool kl,.int .i64 kk,.slice wa wn wc]) (gT_ rfl) (fun W hW=>ZbK 82 (.tmp 3) w.heap.size #[.string ⟨k.sec.toArray⟩,.string ⟨k.name.toArray⟩,.int .i64 kf,.bool kl,.int .i64 kk,.slice wa wn wc] 82 _ rfl rfl (HRW.out W hW).1 rfl rfl n18_) (u_ ?_);refine dT_ (i:=6) (v:=.int .i64 x) (gT_ rfl) (fun W hW=>by clear hW;go_simp) (u_ ?_);refine Zu (i:=7) (gT_ rfl) k_ k_ (fun K hK=>?_);clear hHeld;rw [if_pos n18_];go_simp;have HB3:=h_ (show Below wr.heap.size wr wr.drew from Ze ⟨1,rfl⟩);refine (Znc k _ x wr.drew { HKV.out with ww:=.inl HK0.out } HKW.out (HP.out.below ((HWR.out.below HB3.out).base)) HXX.out.1 HXX.out.2).mono ?_;rintro e w4 ⟨rfl,hb4⟩;have HB4:=h_ (show Below wr.heap.size wr w4 from HB3.out.trans hb4);clear hb4;refine hK.out _ _ HB4.out (fun hHeld=>?_);clear hK K;refine u_ ?_;refine ZF k_ ?_;clear hHeld;go_wp2_with fail;refine (J7 R B us fs lm k.sec k.name (Qv k x) w0 w4 (HWR.out.below HB4.out) HM.out HLM.out HVX.out).mono ?_;rintro e w5 ⟨rfl,hw5,hf5⟩;have HW5:=h_ hw5;have HF5:=h_ (show FrB R B 53 w9 w5 from FrB.trans (FrB.trans HFR.out (show FrB R B 53 wr w4 from Fr.of_below HB4.out _)) hf5);exact m113_
  ·obtain rfl:m=xs.length:=o_
   rw [c9_ l_] at HWR;have hm2:¬((xs.length:Int)<(xs.length:Int)):=o_;go_wp2_with fail;go_quiet (first|(go_at_call 179;exact Calls.quiet_of_same (HNU.out _))|(go_at_call 145;exact Calls.quiet_of_same (HTX.out _))|(go_at_call 142;exact Calls.quiet_of_same (HEX.out _)));go_wp2_with fail;refine XG (P:=fun V=>Code.wp _ _ _ _ V) (w1:=wr) (by repeat (first|exact Below.refl _ _|refine YH ?_|refine YA ?_)) (fun wy1 hb2=>?_);replace HWR:=h_ (HWR.out.below hb2);replace HFR:=h_ (FrB.trans HFR.out (show FrB R B 53 wr wy1 from Fr.of_below hb2 _));replace HRW:=h_ (fun (W:World) (h:Below wy1.heap.size wy1 W)=>HRW.out W (hb2.trans (h.mono hb2.size)));clear hb2 d3 d4;obtain ⟨-,d3,d4⟩:=HRW.out wy1 b_;exact m114_
theorem ZoE(R B j:Nat)(us fs:Array Value)(l:List Ln)(k:ZE)(kv:ZQ)(oa:Option Addr)(cap:Nat)(xs:List Str)(w0 w:World)(hW:Xe w0 w R B us fs l)(hM:Zz w0)(hP:Pow w0)(hK:Xu w kv k)(hkw:k.words.length<=1000)(hl:l.length+xs.length<=100000000)
  (hj:us[j]?=some (.slice oa xs.length cap)) (hrow:Zp w0 oa xs) (hv:∀x∈xs,(x).length<=1000000000)
  (hNumbers:∀W,Calls prog 179 #[.pointer (some ⟨R,0,none⟩),.string ⟨k.name.toArray⟩] W fun e w'=>e=.returned (.pointer (none))/\w'=W)
  (hTexts:∀W,Calls prog 145 #[.pointer (some ⟨R,0,none⟩),.string ⟨k.name.toArray⟩] W fun e w'=>e=.returned (.pointer (some ⟨R,j,none⟩))/\w'=W)
  (hExecs:∀W,Calls prog 142 #[.pointer (some ⟨R,0,none⟩),.string ⟨k.name.toArray⟩] W fun e w'=>e=.returned (.pointer (none))/\w'=W)
  : Calls prog 95 #[.pointer (some ⟨R,0,none⟩),.agg (Zm kv).toArray] w fun e w'=>X6 w0 w R B us fs (l++Yy k.sec (xs.map fun x=>(k.name,x))) e w':=by
 have hsec:=hK.sec;have hname:=hK.name;have HKV:=h_ hK;obtain ⟨ks,kn,kf,kl,kk,wa,wn,wc⟩:=kv;simp only at hsec hname;subst hsec;subst hname;have hlt:R<w.heap.size:=n16_;have hB:=(Below.refl w.heap.size w).alloc l_ (.cells #[.string ⟨k.sec.toArray⟩,.string ⟨k.name.toArray⟩,.int .i64 kf,.bool kl,.int .i64 kk,.slice wa wn wc] 82);have HB:=h_ hB;have HW1:=h_ (hW.below hB);have HK1:=h_ (heap_alloc_new w (.cells #[.string ⟨k.sec.toArray⟩,.string ⟨k.name.toArray⟩,.int .i64 kf,.bool kl,.int .i64 kk,.slice wa wn wc] 82));have HNU:=h_ hNumbers;have HTX:=h_ hTexts;have HEX:=h_ hExecs;have HM:=h_ hM;have HP:=h_ hP;have HL:=h_ hl;have HV:=h_ hv;have HJ:=h_ hj;have HKW:=h_ hkw;have HROW:=h_ hrow;skip;unfold Zm X6;simp only;clear hB hW hM hP hK hl hv hj hkw hNumbers hTexts hExecs hrow;have HNR:=h_ (show w.heap.size≠R by omega);have HRD:=h_ (fun (W:World) (h:FrB R B 53 (w.alloc (.cells #[.string ⟨k.sec.toArray⟩,.string ⟨k.name.toArray⟩,.int .i64 kf,.bool kl,.int .i64 kk,.slice wa wn wc] 82)) W)=>show W.heap[w.heap.size]?=some (.cells #[.string ⟨k.sec.toArray⟩,.string ⟨k.name.toArray⟩,.int .i64 kf,.bool kl,.int .i64 kk,.slice wa wn wc] 82 (0,0))/\W.cell? ⟨w.heap.size,0,none⟩=some (.string ⟨k.sec.toArray⟩)/\W.cell? ⟨w.heap.size,1,none⟩=some (.string ⟨k.name.toArray⟩) from
  ⟨FrB.heap h HK1.out HNR.out d_,(rd (FrB.heap h HK1.out HNR.out d_)).1 0,(rd (FrB.heap h HK1.out HNR.out d_)).1 1⟩)
 go_enter func95,ntmps95;go_wp2_with fail;generalize w.alloc (.cells #[.string ⟨k.sec.toArray⟩,.string ⟨k.name.toArray⟩,.int .i64 kf,.bool kl,.int .i64 kk,.slice wa wn wc] 82)=w1 at HB HW1 HK1 HRD⊢;clear HK1;obtain ⟨-,d3,d4⟩:=HRD.out w1 (FrB.refl _ _ _ _);go_quiet (first|(go_at_call 179;exact Calls.quiet_of_same (HNU.out _))|(go_at_call 145;exact Calls.quiet_of_same (HTX.out _))|(go_at_call 142;exact Calls.quiet_of_same (HEX.out _)));go_wp2_with fail;refine XG (P:=fun V=>Code.wp _ _ _ _ V) (w1:=w1) (by repeat (first|exact Below.refl _ _|refine YH ?_|refine YA ?_)) (fun w2 hb2=>?_);replace HRD:=h_ (fun (W:World) (h:FrB R B 53 w2 W)=>HRD.out W (FrB.trans (show FrB R B 53 w1 w2 from Fr.of_below hb2 _) h));replace HB:=h_ (HB.out.trans (hb2.mono HB.out.size));replace HW1:=h_ (HW1.out.below hb2);clear hb2 d3 d4;obtain ⟨-,d3,d4⟩:=HRD.out w2 (FrB.refl _ _ _ _);have hj1:=HW1.out.rdU HJ.out;go_quiet (first|(go_at_call 179;exact Calls.quiet_of_same (HNU.out _))|(go_at_call 145;exact Calls.quiet_of_same (HTX.out _))|(go_at_call 142;exact Calls.quiet_of_same (HEX.out _)));go_wp2_with fail;refine XG (P:=fun V=>Code.wp _ _ _ _ V) (w1:=w2) (by repeat (first|exact Below.refl _ _|refine YH ?_|refine YA ?_)) (fun w9 hb2=>?_);have HF2:=h_ (show FrB R B 53 w w9 from Fr.of_below (HB.out.trans (hb2.mono HB.out.size)) _);have HW2:=h_ (HW1.out.below hb2);have HRD2:=h_ (fun (W:World) (h:FrB R B 53 w9 W)=>HRD.out W (FrB.trans (show FrB R B 53 w2 w9 from Fr.of_below hb2 _) h));clear hb2 d3 d4 HRD HB hj1;go_loopg [9,51] (xs.length+1) (fun f _ i wr=>∃m:Nat,m<=xs.length/\i=.int .i64 m/\xs.length-m<f/\Hid (Xe w0 wr R B us fs (l++Yy k.sec ((xs.take m).map fun x=>(k.name,x))))/\Hid (FrB R B 53 w9 wr))
 case atStart=>exact ⟨0,o_,rfl,o_,n33_,FrB.refl _ _ _ _⟩
 case round=>
  obtain ⟨m,hm,rfl,hf,HWR,HFR⟩:=hrel;have HRW:=h_ (fun (W:World) (h:Below wr.heap.size wr W)=>HRD2.out W (FrB.trans HFR.out (show FrB R B 53 wr W from Fr.of_below h _)));obtain ⟨-,d3,d4⟩:=HRW.out wr b_;by_cases hlt2:m<xs.length
  ·obtain ⟨x,hx⟩:=e_ (xs[m])
   have HSN:=h_ (show l++Yy k.sec ((xs.take (m+1)).map fun x=>(k.name,x))=(l++Yy k.sec ((xs.take m).map fun x=>(k.name,x)))++[Zby k.sec k.name (x)] by
    rw [c4_ hlt2,List.map_append,<-hx];simp [Yy])
   have HVX:=h_ (HV.out x n37_);have HLM:=h_ (show (l++Yy k.sec ((xs.take m).map fun x=>(k.name,x))).length<=100000000 by
    have:=HL.out;rw [c5_,Yy,List.length_map,List.length_map,List.length_take];omega)
   have hm2:(m:Int)<(xs.length:Int):=o_;have hmb:m<=100000000:=n112_;obtain ⟨b,o,e1,d5⟩:=Zp.below HROW.out HWR.out.base  m hlt2;subst e1;rw [<-hx] at d5;clear hx;generalize l++Yy k.sec ((xs.take m).map fun x=>(k.name,x))=lm at HWR HSN HLM;go_wp2_with fail;refine (J7 R B us fs lm k.sec k.name (x) w0 wr (HWR.out.below b_) HM.out HLM.out HVX.out).mono ?_;rintro e w5 ⟨rfl,hw5,hf5⟩;have HW5:=h_ hw5;have HF5:=h_ (show FrB R B 53 w9 w5 from FrB.trans (FrB.trans HFR.out (show FrB R B 53 wr wr from Fr.of_below b_ _)) hf5);exact m113_
  ·obtain rfl:m=xs.length:=o_
   rw [c9_ l_] at HWR;have hm2:¬((xs.length:Int)<(xs.length:Int)):=o_;go_wp2_with fail;exact m114_
theorem Zn7(R B j:Nat)(us fs:Array Value)(l:List Ln)(k:ZE)(kv:ZQ)(oa:Option Addr)(cap:Nat)(cr:List Zdy)(xs:List Zar)(w0 w:World)(hW:Xe w0 w R B us fs l)(hM:Zz w0)(hP:Pow w0)(hK:Xu w kv k)(hkw:k.words.length<=1000)(hl:l.length+xs.length<=100000000)
  (hj:us[j]?=some (.slice oa xs.length cap)) (hrow:ZbB w0 oa cr xs) (hv:∀x∈xs,(Qc x).length<=1000000000) (hwl:∀x∈xs,∀y∈x.2,y.length<137438953472)
  (hNumbers:∀W,Calls prog 179 #[.pointer (some ⟨R,0,none⟩),.string ⟨k.name.toArray⟩] W fun e w'=>e=.returned (.pointer (none))/\w'=W)
  (hTexts:∀W,Calls prog 145 #[.pointer (some ⟨R,0,none⟩),.string ⟨k.name.toArray⟩] W fun e w'=>e=.returned (.pointer (none))/\w'=W)
  (hExecs:∀W,Calls prog 142 #[.pointer (some ⟨R,0,none⟩),.string ⟨k.name.toArray⟩] W fun e w'=>e=.returned (.pointer (some ⟨R,j,none⟩))/\w'=W)
  : Calls prog 95 #[.pointer (some ⟨R,0,none⟩),.agg (Zm kv).toArray] w fun e w'=>X6 w0 w R B us fs (l++Yy k.sec (xs.map fun x=>(k.name,Qc x))) e w':=by
 have hsec:=hK.sec;have hname:=hK.name;have HKV:=h_ hK;obtain ⟨ks,kn,kf,kl,kk,wa,wn,wc⟩:=kv;simp only at hsec hname;subst hsec;subst hname;have hlt:R<w.heap.size:=n16_;have hB:=(Below.refl w.heap.size w).alloc l_ (.cells #[.string ⟨k.sec.toArray⟩,.string ⟨k.name.toArray⟩,.int .i64 kf,.bool kl,.int .i64 kk,.slice wa wn wc] 82);have HB:=h_ hB;have HW1:=h_ (hW.below hB);have HK1:=h_ (heap_alloc_new w (.cells #[.string ⟨k.sec.toArray⟩,.string ⟨k.name.toArray⟩,.int .i64 kf,.bool kl,.int .i64 kk,.slice wa wn wc] 82));have HNU:=h_ hNumbers;have HTX:=h_ hTexts;have HEX:=h_ hExecs;have HM:=h_ hM;have HP:=h_ hP;have HL:=h_ hl;have HV:=h_ hv;have HJ:=h_ hj;have HKW:=h_ hkw;have HROW:=h_ hrow;have HWL:=h_ hwl;clear hwl;unfold Zm X6;simp only;clear hB hW hM hP hK hl hv hj hkw hNumbers hTexts hExecs hrow;have HNR:=h_ (show w.heap.size≠R by omega);have HRD:=h_ (fun (W:World) (h:FrB R B 53 (w.alloc (.cells #[.string ⟨k.sec.toArray⟩,.string ⟨k.name.toArray⟩,.int .i64 kf,.bool kl,.int .i64 kk,.slice wa wn wc] 82)) W)=>show W.heap[w.heap.size]?=some (.cells #[.string ⟨k.sec.toArray⟩,.string ⟨k.name.toArray⟩,.int .i64 kf,.bool kl,.int .i64 kk,.slice wa wn wc] 82 (0,0))/\W.cell? ⟨w.heap.size,0,none⟩=some (.string ⟨k.sec.toArray⟩)/\W.cell? ⟨w.heap.size,1,none⟩=some (.string ⟨k.name.toArray⟩) from
  ⟨FrB.heap h HK1.out HNR.out d_,(rd (FrB.heap h HK1.out HNR.out d_)).1 0,(rd (FrB.heap h HK1.out HNR.out d_)).1 1⟩)
 go_enter func95,ntmps95;go_wp2_with fail;generalize w.alloc (.cells #[.string ⟨k.sec.toArray⟩,.string ⟨k.name.toArray⟩,.int .i64 kf,.bool kl,.int .i64 kk,.slice wa wn wc] 82)=w1 at HB HW1 HK1 HRD⊢;clear HK1;obtain ⟨-,d3,d4⟩:=HRD.out w1 (FrB.refl _ _ _ _);go_quiet (first|(go_at_call 179;exact Calls.quiet_of_same (HNU.out _))|(go_at_call 145;exact Calls.quiet_of_same (HTX.out _))|(go_at_call 142;exact Calls.quiet_of_same (HEX.out _)));go_wp2_with fail;refine XG (P:=fun V=>Code.wp _ _ _ _ V) (w1:=w1) (by repeat (first|exact Below.refl _ _|refine YH ?_|refine YA ?_)) (fun w2 hb2=>?_);replace HRD:=h_ (fun (W:World) (h:FrB R B 53 w2 W)=>HRD.out W (FrB.trans (show FrB R B 53 w1 w2 from Fr.of_below hb2 _) h));replace HB:=h_ (HB.out.trans (hb2.mono HB.out.size));replace HW1:=h_ (HW1.out.below hb2);clear hb2 d3 d4;obtain ⟨-,d3,d4⟩:=HRD.out w2 (FrB.refl _ _ _ _);go_quiet (first|(go_at_call 179;exact Calls.quiet_of_same (HNU.out _))|(go_at_call 145;exact Calls.quiet_of_same (HTX.out _))|(go_at_call 142;exact Calls.quiet_of_same (HEX.out _)));go_wp2_with fail;refine XG (P:=fun V=>Code.wp _ _ _ _ V) (w1:=w2) (by repeat (first|exact Below.refl _ _|refine YH ?_|refine YA ?_)) (fun w3 hb2=>?_);replace HRD:=h_ (fun (W:World) (h:FrB R B 53 w3 W)=>HRD.out W (FrB.trans (show FrB R B 53 w2 w3 from Fr.of_below hb2 _) h));replace HB:=h_ (HB.out.trans (hb2.mono HB.out.size));replace HW1:=h_ (HW1.out.below hb2);clear hb2 d3 d4;obtain ⟨-,d3,d4⟩:=HRD.out w3 (FrB.refl _ _ _ _);have hj1:=HW1.out.rdU HJ.out;go_quiet (first|(go_at_call 179;exact Calls.quiet_of_same (HNU.out _))|(go_at_call 145;exact Calls.quiet_of_same (HTX.out _))|(go_at_call 142;exact Calls.quiet_of_same (HEX.out _)));go_wp2_with fail;refine XG (P:=fun V=>Code.wp _ _ _ _ V) (w1:=w3) (by repeat (first|exact Below.refl _ _|refine YH ?_|refine YA ?_)) (fun w9 hb2=>?_);have HF2:=h_ (show FrB R B 53 w w9 from Fr.of_below (HB.out.trans (hb2.mono HB.out.size)) _);have HW2:=h_ (HW1.out.below hb2);have HRD2:=h_ (fun (W:World) (h:FrB R B 53 w9 W)=>HRD.out W (FrB.trans (show FrB R B 53 w3 w9 from Fr.of_below hb2 _) h));clear hb2 d3 d4 HRD HB hj1;go_loopg [12,75] (xs.length+1) (fun f _ i wr=>∃m:Nat,m<=xs.length/\i=.int .i64 m/\xs.length-m<f/\Hid (Xe w0 wr R B us fs (l++Yy k.sec ((xs.take m).map fun x=>(k.name,Qc x))))/\Hid (FrB R B 53 w9 wr))
 case atStart=>exact ⟨0,o_,rfl,o_,n33_,FrB.refl _ _ _ _⟩
 case round=>
  obtain ⟨m,hm,rfl,hf,HWR,HFR⟩:=hrel;have HRW:=h_ (fun (W:World) (h:Below wr.heap.size wr W)=>HRD2.out W (FrB.trans HFR.out (show FrB R B 53 wr W from Fr.of_below h _)));obtain ⟨-,d3,d4⟩:=HRW.out wr b_;by_cases hlt2:m<xs.length
  ·obtain ⟨x,hx⟩:=e_ (xs[m])
   have HSN:=h_ (show l++Yy k.sec ((xs.take (m+1)).map fun x=>(k.name,Qc x))=(l++Yy k.sec ((xs.take m).map fun x=>(k.name,Qc x)))++[Zby k.sec k.name (Qc x)] by
    rw [c4_ hlt2,List.map_append,<-hx];simp [Yy])
   have HVX:=h_ (HV.out x n37_);have HLM:=h_ (show (l++Yy k.sec ((xs.take m).map fun x=>(k.name,Qc x))).length<=100000000 by
    have:=HL.out;rw [c5_,Yy,List.length_map,List.length_map,List.length_take];omega)
   have hm2:(m:Int)<(xs.length:Int):=o_;have hmb:m<=100000000:=n112_;have hcr:=ZtE HWR.out.base HROW.out;have hml:m<cr.length:=by rw [hcr.len];exact hlt2
   obtain ⟨b,o,e1,_,hc⟩:=hcr.row m hml;have hse:=hcr.see m hml hlt2;rw [<-hx] at hse;obtain ⟨xv,hxv⟩:=e_ (cr[m]);rw [<-hxv] at hc hse;obtain ⟨xd,xa,xn,xc⟩:=xv;obtain ⟨hd,hn,hr,hfew⟩:=hse;simp only at hd hn;have d5:=hc 0 (.bool xd) rfl;have d6:=hc 1 (.slice xa xn xc) rfl;rw [Nat.add_zero] at d5;subst e1;have HD:=h_ hd;have HNN:=h_ hn;have HRR:=h_ hr;have HFW:=h_ hfew;have HWX:=h_ (HWL.out x n37_);clear hx hcr hml hc hxv hd hn hr hfew;generalize l++Yy k.sec ((xs.take m).map fun x=>(k.name,Qc x))=lm at HWR HSN HLM;have hda:=fun W=>Zny xd (.slice xa xn xc) rfl xa xn xc rfl W
   have hre:=fun W=>Zn1 xd W
   have hct:=Zrc xd x HD.out;have hcl:=ZuK xd x HD.out HVX.out;generalize (if xd=true then (1:Int) else 0)=dv at hda hre;generalize (if xd=true then [45] else []:Str)=ds at hre hct hcl;have HDA:=h_ hda;have HRE:=h_ hre;have HCT:=h_ hct;have HCL:=h_ hcl;clear hda hre hct hcl;go_wp2_with fail;have HBE:=h_ ((Below.refl wr.heap.size wr).alloc l_ (.cells #[.bool xd,.slice xa xn xc] 49));have HE:=h_ (heap_alloc_new wr (.cells #[.bool xd,.slice xa xn xc] 49));generalize wr.alloc (.cells #[.bool xd,.slice xa xn xc] 49)=we at HBE HE⊢;refine Zk (S:=fun V=>Below we.heap.size we V) 12 k_ k_ (Ze ⟨1,rfl⟩) (fun hHeld=>?_);refine u_ ?_;refine dT_ (i:=0) (v:=.pointer (some ⟨R,0,none⟩)) (gT_ rfl) (fun W hW=>by clear hW;go_simp) (u_ ?_);refine dT_ (i:=1) (v:=.pointer (some ⟨w.heap.size,0,none⟩)) (gT_ rfl) (fun W hW=>by clear hW;go_simp) (u_ ?_);refine dT_ (i:=2) (v:=.string ⟨k.sec.toArray⟩) (gT_ rfl) (fun W hW=>by obtain ⟨-,q3,q4⟩:=HRW.out W (HBE.out.trans (hW.mono HBE.out.size));have q5:=(rd (Za HE.out hW)).1 0;have q6:=(rd (Za HE.out hW)).1 1;simp at q5 q6;clear hW;go_simp) (u_ ?_);refine dT_ (i:=3) (v:=.pointer (some ⟨w.heap.size,1,none⟩)) (gT_ rfl) (fun W hW=>by clear hW;go_simp) (u_ ?_);refine dT_ (i:=4) (v:=.string ⟨k.name.toArray⟩) (gT_ rfl) (fun W hW=>by obtain ⟨-,q3,q4⟩:=HRW.out W (HBE.out.trans (hW.mono HBE.out.size));have q5:=(rd (Za HE.out hW)).1 0;have q6:=(rd (Za HE.out hW)).1 1;simp at q5 q6;clear hW;go_simp) (u_ ?_);refine dT_ (i:=5) (v:=.agg #[.bool xd,.slice xa xn xc]) (gT_ rfl) (fun W hW=>by obtain ⟨-,q3,q4⟩:=HRW.out W (HBE.out.trans (hW.mono HBE.out.size));have q5:=(rd (Za HE.out hW)).1 0;have q6:=(rd (Za HE.out hW)).1 1;simp at q5 q6;clear hW;go_simp) (u_ ?_);refine dT_ (i:=8) (v:=.pointer (some ⟨wr.heap.size,1,none⟩)) (gT_ rfl) (fun W hW=>by clear hW;go_simp) (u_ ?_);refine dT_ (i:=9) (v:=.slice xa xn xc) (gT_ rfl) (fun W hW=>by obtain ⟨-,q3,q4⟩:=HRW.out W (HBE.out.trans (hW.mono HBE.out.size));have q5:=(rd (Za HE.out hW)).1 0;have q6:=(rd (Za HE.out hW)).1 1;simp at q5 q6;clear hW;go_simp) (u_ ?_);refine Zu (i:=6) (gT_ rfl) k_ k_ (fun K hK=>?_);clear hHeld;rw [if_pos n18_];go_simp;have HB3:=h_ (show Below we.heap.size we we.drew from Ze ⟨1,rfl⟩);refine (HDA.out we.drew).mono ?_;rintro e w4 ⟨rfl,hb4⟩;have HB4:=h_ (show Below we.heap.size we w4 from HB3.out.trans hb4);clear hb4;refine hK.out _ _ HB4.out (fun hHeld=>?_);clear hK K;refine u_ ?_;refine Zu (i:=7) (gT_ rfl) k_ k_ (fun K hK=>?_);clear hHeld;rw [if_pos n18_];go_simp;refine (HRE.out w4).mono ?_;rintro e w6 ⟨rfl,hb6⟩;have HB6:=h_ (show Below we.heap.size we w6 from HB4.out.trans (hb6.mono HB4.out.size));clear hb6;refine hK.out _ _ HB6.out (fun hHeld=>?_);clear hK K;refine u_ ?_;refine Zu (i:=10) (gT_ rfl) k_ k_ (fun K hK=>?_);clear hHeld;rw [if_pos n18_];go_simp;have hj:=Zln xa xc x.2 w6 (HRR.out.below (HBE.out.trans (HB6.out.mono HBE.out.size))) HFW.out HWX.out;rw [<-HNN.out] at hj;refine hj.mono ?_;rintro e w7 ⟨rfl,hb7⟩;have HB7:=h_ (show Below we.heap.size we w7 from HB6.out.trans (hb7.mono HB6.out.size));clear hb7 hj;refine hK.out _ _ HB7.out (fun hHeld=>?_);clear hK K;refine u_ ?_;refine dT_ (i:=11) (v:=.string ⟨(Qc x).toArray⟩) (gT_ rfl) (fun W hW=>by clear hW;rw [<-HCT.out];go_simp;exact HCL.out) (u_ ?_);refine ZF k_ ?_;clear hHeld;go_wp2_with fail;refine (J7 R B us fs lm k.sec k.name (Qc x) w0 w7 (HWR.out.below (HBE.out.trans (HB7.out.mono HBE.out.size))) HM.out HLM.out HVX.out).mono ?_;rintro e w5 ⟨rfl,hw5,hf5⟩;have HW5:=h_ hw5;have HF5:=h_ (show FrB R B 53 w9 w5 from FrB.trans (FrB.trans HFR.out (show FrB R B 53 wr w7 from Fr.of_below (HBE.out.trans (HB7.out.mono HBE.out.size)) _)) hf5);exact m113_
  ·obtain rfl:m=xs.length:=o_
   rw [c9_ l_] at HWR;have hm2:¬((xs.length:Int)<(xs.length:Int)):=o_;exact m112_
theorem m115_{p:Prop}(h:p:=by have hsec:=hK.sec;have hname:=hK.name;have HKV:=h_ hK;obtain ⟨ks,kn,kf,kl,kk,wa,wn,wc⟩:=kv;have hlist:=hK.list;simp only at hsec hname hlist;subst hsec;subst hname;have hlt:R<w.heap.size:=n16_;have hB:=(Below.refl w.heap.size w).alloc l_ (.cells #[.string ⟨k.sec.toArray⟩,.string ⟨k.name.toArray⟩,.int .i64 kf,.bool kl,.int .i64 kk,.slice wa wn wc] 82);have HB:=h_ hB;have HW1:=h_ (hW.below hB);have HK1:=h_ (heap_alloc_new w (.cells #[.string ⟨k.sec.toArray⟩,.string ⟨k.name.toArray⟩,.int .i64 kf,.bool kl,.int .i64 kk,.slice wa wn wc] 82));have HKV1:=h_ (hK.below hB);have HNR:=h_ (show w.heap.size≠R by omega);have HLI:=h_ hlist;clear hlist;unfold Zm X6;simp only;clear hB hW hK;have HSR:=h_ hsr;clear hsr;generalize ((ZL k.name:Nat):Int)=rv at HSR er;have c1:=HW1.out.rdU hkd;clear hkd;exact m118_):p:=h
theorem m116_{p:Prop}(h:p:=by go_enter func45,ntmps45;go_wp2_with (first|(go_at_call 92;refine (HSR.out _).mono ?_;rintro e w' ⟨rfl,rfl⟩));go_end0;exact ⟨rfl,HW1.out,Fr.of_below HB.out _⟩):p:=h
theorem m117_{p:Prop}(h:p:=by rw [if_pos hxy,if_pos (by rw [hxy])];rfl):p:=h
theorem m118_{p:Prop}(h:p:=by obtain rfl:kl=false:=HLI.out.trans hkl;have HC:=h_ hc;clear hc;go_enter func45,ntmps45;go_wp2_with (first|(refine QS rfl 82 (.tmp 3) w.heap.size #[.string ⟨k.sec.toArray⟩,.string ⟨k.name.toArray⟩,.int .i64 kf,.bool false,.int .i64 kk,.slice wa wn wc] 82 _ rfl rfl HK1.out rfl rfl n18_ ?_)|(go_at_call 92;refine (HSR.out _).mono ?_;rintro e w' ⟨rfl,rfl⟩));refine (HC.out _ HW1.out HKV1.out).mono ?_;exact m119_):p:=h
theorem m119_{p:Prop}(h:p:=by rintro e w5 ⟨rfl,hw5,hf5⟩;go_wp2_with fail;go_end0;exact ⟨rfl,hw5,FrB.trans (show FrB R B 53 w _ from Fr.of_below HB.out _) hf5⟩):p:=h
theorem Zqj(R B:Nat)(us fs:Array Value)(l:List Ln)(sec:Str)(oa:Option Addr)(cap:Nat)(rs:List (Int×Str))(w0 w:World)(hW:Xe w0 w R B us fs l)(hM:Zz w0)(hl:l.length+rs.length<=100000000)
  (hj:us[4]?=some (.slice oa rs.length cap)) (hrow:ZG JK 2 w0 oa rs) (hv:∀r∈rs,r.2.length<=1000000000) :
  Calls prog 91 #[.pointer (some ⟨R,0,none⟩),.string ⟨sec.toArray⟩] w fun e w'=>X6 w0 w R B us fs (l++Yy sec (rs.map fun r=>(Yg r.1,r.2))) e w':=by
 have hj1:=hW.rdU hj;have HW:=h_ hW;have HM:=h_ hM;have HL:=h_ hl;have HROW:=h_ hrow;have HV:=h_ hv;clear hW hM hl hrow hv hj;unfold X6;go_enter func91,ntmps91;go_wp2_with fail;go_loopg [12] (rs.length+1) (fun f i wr=>∃m:Nat,m<=rs.length/\i=.int .i64 m/\rs.length-m<f/\Hid (Xe w0 wr R B us fs (l++Yy sec ((rs.take m).map fun r=>(Yg r.1,r.2))))/\Hid (FrB R B 53 w wr))
 case atStart=>exact ⟨0,o_,rfl,o_,by rw [List.take_zero,List.map_nil,show Yy sec []=[] from rfl,List.append_nil];exact HW,FrB.refl _ _ _ _⟩
 case round=>
  obtain ⟨m,hm,rfl,hf,HWR,HFR⟩:=hrel;by_cases hlt:m<rs.length
  ·obtain ⟨x,hx⟩:=e_ (rs[m])
   have HSN:=h_ (show l++Yy sec ((rs.take (m+1)).map fun r=>(Yg r.1,r.2))=(l++Yy sec ((rs.take m).map fun r=>(Yg r.1,r.2)))++[Zby sec (Yg x.1) x.2] by
    rw [c4_ hlt,List.map_append,<-hx];simp [Yy])
   have HVX:=h_ (HV.out x n39_);have HLM:=h_ (show (l++Yy sec ((rs.take m).map fun r=>(Yg r.1,r.2))).length<=100000000 by
    have:=HL.out;rw [c5_,Yy,List.length_map,List.length_map,List.length_take];omega)
   have hm2:(m:Int)<(rs.length:Int):=o_;have hmb:m<=100000000:=n112_;obtain ⟨b,o,e1,_,hc⟩:=(ZG.below HROW.out HWR.out.base) m hlt;rw [<-hx] at hc;have d5:=hc 0 (.int .i64 x.1) rfl;have d6:=hc 1 (.string ⟨x.2.toArray⟩) rfl;rw [Nat.add_zero] at d5;subst e1;clear hx hc;generalize l++Yy sec ((rs.take m).map fun r=>(Yg r.1,r.2))=lm at HWR HSN HLM;obtain ⟨rk,rn⟩:=x;simp only at d5 d6 HSN HVX;go_wp2_with fail;have HBE:=h_ ((Below.refl wr.heap.size wr).alloc l_ (.cells #[.int .i64 rk,.string ⟨rn.toArray⟩] 47));have HE:=h_ (heap_alloc_new wr (.cells #[.int .i64 rk,.string ⟨rn.toArray⟩] 47));generalize wr.alloc (.cells #[.int .i64 rk,.string ⟨rn.toArray⟩] 47)=we at HBE HE⊢;refine Zk (S:=fun V=>Below we.heap.size we V) 7 k_ k_ (Ze ⟨1,rfl⟩) (fun hHeld=>?_);refine u_ ?_;refine dT_ (i:=0) (v:=.pointer (some ⟨R,0,none⟩)) (gT_ rfl) (fun W hW=>by clear hW;go_simp) (u_ ?_);refine dT_ (i:=1) (v:=.string ⟨sec.toArray⟩) (gT_ rfl) (fun W hW=>by clear hW;go_simp) (u_ ?_);refine dT_ (i:=2) (v:=.pointer (some ⟨wr.heap.size,0,none⟩)) (gT_ rfl) (fun W hW=>by clear hW;go_simp) (u_ ?_);refine dT_ (i:=3) (v:=.int .i64 rk) (gT_ rfl) (fun W hW=>by have q5:=(rd (Za HE.out hW)).1 0;have q6:=(rd (Za HE.out hW)).1 1;simp at q5 q6;clear hW;go_simp) (u_ ?_);refine dT_ (i:=5) (v:=.pointer (some ⟨wr.heap.size,1,none⟩)) (gT_ rfl) (fun W hW=>by clear hW;go_simp) (u_ ?_);refine dT_ (i:=6) (v:=.string ⟨rn.toArray⟩) (gT_ rfl) (fun W hW=>by have q5:=(rd (Za HE.out hW)).1 0;have q6:=(rd (Za HE.out hW)).1 1;simp at q5 q6;clear hW;go_simp) (u_ ?_);refine Zu (i:=4) (gT_ rfl) k_ k_ (fun K hK=>?_);clear hHeld;rw [if_pos n18_];go_simp;have HB3:=h_ (show Below we.heap.size we we.drew from Ze ⟨1,rfl⟩);refine (Znk rk we.drew).mono ?_;rintro e w4 ⟨rfl,hb4⟩;have HB4:=h_ (show Below we.heap.size we w4 from HB3.out.trans hb4);clear hb4;refine hK.out _ _ HB4.out (fun hHeld=>?_);clear hK K;refine u_ ?_;refine ZF k_ ?_;clear hHeld;go_wp2_with fail;refine (J7 R B us fs lm sec (Yg rk) rn w0 w4 (HWR.out.below (HBE.out.trans (HB4.out.mono HBE.out.size))) HM.out HLM.out HVX.out).mono ?_;rintro e w5 ⟨rfl,hw5,hf5⟩;have HW5:=h_ hw5;have HF5:=h_ (show FrB R B 53 w w5 from FrB.trans (FrB.trans HFR.out (show FrB R B 53 wr w4 from Fr.of_below (HBE.out.trans (HB4.out.mono HBE.out.size)) _)) hf5);clear hw5 hf5;go_wp2_with fail;go_roundg (rs.length-m)
   case measure=>omega
   case rel=>exact ⟨m+1,o_,n9_,o_,n83_,HF5⟩
  ·obtain rfl:m=rs.length:=o_
   rw [c9_ l_] at HWR;have hm2:¬((rs.length:Int)<(rs.length:Int)):=o_;go_wp2_with fail;go_end0;exact ⟨rfl,HWR.out,HFR.out⟩
structure Yt(u:UV):Prop where
 str:∀j,(u j).str.length<=100000000
 num:∀j,-9223372036854775808<=(u j).num/\(u j).num<=9223372036854775807
 strs:∀j,∀s∈(u j).strs,s.length<=100000000
 nums:∀j,∀n∈(u j).nums,-9223372036854775808<=n/\n<=9223372036854775807
 rels:∀r∈(u 4).rels,r.2.length<=100000000
 cmds:∀j,∀c∈(u j).cmds,(Qc c).length<=450000000/\∀y∈c.2,y.length<137438953472
 prs:∀p∈(u 19).prs,p.1.length+p.2.length<=100000000
 len:∀j,(u j).len<=2000000
 few:(ZbR u).length<=2000000
theorem Zki:(Zc.all fun k=>k.list||(if k.form==1||k.form==5 then (ZK (Zb k.name)).tag==0 else if k.form==2 then (ZK (Zb k.name)).tag==2 else (ZK (Zb k.name)).tag==1))=true:=n1_
theorem Zl4(k:ZE)(hk:k∈Zc):Zb k.name<35:=by
 have h0:(Zc.all fun k=>decide (Zb k.name<35))=true:=n1_;exact of_decide_eq_true (c7_.1 h0 k hk)
theorem ZoB{c:UC}(h:c.tag=0):∃x,c=.s x:=n10_
theorem ZtC{c:UC}(h:c.tag=1):∃x,c=.n x:=n10_
theorem Zt8{c:UC}(h:c.tag=2):∃x,c=.b x:=n10_
theorem Ze9(k:ZE)(hk:k∈Zc)(n:Int)(h0 : -9223372036854775808<=n)(h1:n<=9223372036854775807):(Qv k n).length<=450000000:=by
 have hw0:(Zc.all fun k=>k.words.all fun x=>decide (x.length<=100))=true:=n1_;have hw:=c7_.1 hw0 k hk;have hi:=Go.Lib.itoa_length_le;unfold Qv;split
 ·unfold Yj
  split
  ·decide
  ·split
   ·decide
   ·split
    ·decide
    ·rename_i g1 g2
     have hp:∀x∈ZN (n / 86400) [100]++ZN (n % 86400 / 3600) [104]++ZN (n % 3600 / 60) [109,105,110]++ZN (n % 60) [115],x.length<=31:=by
      intro x hx;simp only [List.mem_append] at hx;rcases hx with ((hx|hx)|hx)|hx
      ·exact Jc o_ o_ d_ x hx
      ·exact Jc o_ o_ d_ x hx
      ·exact Jc o_ o_ d_ x hx
      ·exact Jc o_ o_ d_ x hx
     have hj:=Zhh 31 _ hp;have q1:=Ja (n / 86400) [100];have q2:=Ja (n % 86400 / 3600) [104];have q3:=Ja (n % 3600 / 60) [109,105,110];have q4:=Ja (n % 60) [115];simp only [c5_] at hj
     have:(ZN (n / 86400) [100]).length+(ZN (n % 86400 / 3600) [104]).length+(ZN (n % 3600 / 60) [109,105,110]).length+(ZN (n % 60) [115]).length<=4:=o_
     have:=Nat.mul_le_mul_right (31+1) this
     omega
 ·split
  ·split
   ·decide
   ·rw [List.getD_eq_getElem?_getD]
    cases hg:k.words[(n-1).toNat]? with
    |none=>decide
    |some x=>
     have:=c7_.1 hw x (List.mem_of_getElem? hg)
     have:=of_decide_eq_true this
     simp only [Option.getD_some];omega
  ·have:=hi n h0 h1
   omega
theorem Zmx(R B:Nat)(us fs:Array Value)(u f:UV)(l:List Ln)(k:ZE)(kv:ZQ)(w0 w:World)(hW:Xe w0 w R B us fs l)(hM:Zz w0)(hP:Pow w0)(hK:Xu w kv k)(hk:k∈Zc)(hkl:k.list=false)(hl:l.length<=100000000)
  (hu:ZV w0 us u) (hf:ZV w0 fs f) (tu:ZH u) (tf:ZH f) (sm:Yt u) :
  Calls prog 96 #[.pointer (some ⟨R,0,none⟩),.agg (Zm kv).toArray] w fun e w'=>X6 w0 w R B us fs (l++Yy k.sec ((Qm u f k).map fun s=>(k.name,s))) e w':=by
 have hj:=Zl4 k hk;obtain ⟨vx,hx,sx⟩:=YB hu hj;obtain ⟨vy,hy,sy⟩:=YB hf hj;have htag:=c7_.1 Zki k hk;have hslot:=c7_.1 Zi7 k hk;have hnm:=ZeX k hk hkl;rw [hkl,Bool.false_or] at htag hslot;have hwf:=ZdD k hk;have ptr:∀tab v o,fnd tab k.name=v->ZiM R o tab k.name=.pointer (v.map fun j=>⟨R,o+j,none⟩):=fun tab v o h=>by rw [Zl6,h]
 have tg:=(tu (Zb k.name));have tgf:=(tf (Zb k.name));by_cases h1:k.form=1\/k.form=5
 ·have hb:(k.form==1||k.form==5)=true:=n77_
  rw [hb,if_pos rfl] at htag hslot;simp only [Bool.and_eq_true,beq_iff_eq] at htag hslot;obtain ⟨s1,s2,s3⟩:=hslot;rw [htag] at tg tgf;obtain ⟨x,ex⟩:=ZoB tg;obtain ⟨y,ey⟩:=ZoB tgf;rw [ex] at sx;rw [ey] at sy;subst sx;subst sy;have e:(Qm u f k).map (fun s=>(k.name,s))=if x=y then [] else [(k.name,x)]:=by
   unfold Qm;rw [ex,ey];by_cases hxy:x=y
   ·exact m117_
   ·rw [if_neg hxy,if_neg (fun h=>hxy (UC.s.inj h)),if_pos h1];rfl
  rw [e];have hsx:=sm.str (Zb k.name);rw [ex] at hsx;exact ZkL R B (Zb k.name) us fs l k kv x y w0 w hW hM hP hK o_ hl hx hy (Nat.le_trans hsx d_)
   (fun o W=>by have:=Zcz R o W _ hnm;rw [ptr _ _ o s1] at this;exact this) (fun o W=>by have:=Zct R o W _ hnm;rw [ptr _ _ o s2] at this;exact this) (fun o W=>by have:=Za7 R o W _ hnm;rw [ptr _ _ o s3] at this;exact this)
 ·have hb:(k.form==1||k.form==5)=false:=n77_
  rw [hb,if_neg d_] at htag hslot;by_cases h2:k.form=2
  ·have hb2:(k.form==2)=true:=n64_
   rw [hb2,if_pos rfl] at htag hslot;simp only [Bool.and_eq_true,beq_iff_eq] at htag hslot;obtain ⟨s1,s2,s3⟩:=hslot;rw [htag] at tg tgf;obtain ⟨x,ex⟩:=Zt8 tg;obtain ⟨y,ey⟩:=Zt8 tgf;rw [ex] at sx;rw [ey] at sy;subst sx;subst sy;have e:(Qm u f k).map (fun s=>(k.name,s))=if x=y then [] else [(k.name,Qo x)]:=by
    unfold Qm;rw [ex,ey];by_cases hxy:x=y
    ·exact m117_
    ·rw [if_neg hxy,if_neg (fun h=>hxy (UC.b.inj h)),if_neg h1,if_pos h2];rfl
   rw [e];exact ZkC R B (Zb k.name) us fs l k kv x y w0 w hW hM hP hK o_ hl hx hy (by cases x<;>decide)
    (fun o W=>by have:=Zcz R o W _ hnm;rw [ptr _ _ o s1] at this;exact this) (fun o W=>by have:=Zct R o W _ hnm;rw [ptr _ _ o s2] at this;exact this) (fun o W=>by have:=Za7 R o W _ hnm;rw [ptr _ _ o s3] at this;exact this)
  ·have hb2:(k.form==2)=false:=n64_
   rw [hb2,if_neg d_] at htag hslot;simp only [Bool.and_eq_true,beq_iff_eq] at htag hslot;obtain ⟨s1,s2,s3⟩:=hslot;rw [htag] at tg tgf;obtain ⟨x,ex⟩:=ZtC tg;obtain ⟨y,ey⟩:=ZtC tgf;rw [ex] at sx;rw [ey] at sy;subst sx;subst sy;have e:(Qm u f k).map (fun s=>(k.name,s))=if x=y then [] else [(k.name,Qv k x)]:=by
    unfold Qm;rw [ex,ey];by_cases hxy:x=y
    ·exact m117_
    ·rw [if_neg hxy,if_neg (fun h=>hxy (UC.n.inj h)),if_neg h1,if_neg h2];rfl
   rw [e];have hnx:=sm.num (Zb k.name);rw [ex] at hnx;exact ZkA R B (Zb k.name) us fs l k kv x y w0 w hW hM hP hK o_ hl hx hy (Nat.le_trans (Ze9 k hk x hnx.1 hnx.2) d_) hnx
    (fun o W=>by have:=Zcz R o W _ hnm;rw [ptr _ _ o s1] at this;exact this) (fun o W=>by have:=Zct R o W _ hnm;rw [ptr _ _ o s2] at this;exact this) (fun o W=>by have:=Za7 R o W _ hnm;rw [ptr _ _ o s3] at this;exact this)
theorem Zon:(Zc.all fun k=>!k.list||(ZL k.name !=0||(k.form==8||(if k.form==7 then (ZK (Zb k.name)).tag==6 else if k.form==4||k.form==11 then (ZK (Zb k.name)).tag==4&&k.words==[] else (ZK (Zb k.name)).tag==3))))=true:=n1_
theorem Zn0:(Zc.all fun k=>(k.form==8)==(k.name==Zy))=true:=n1_
theorem ZhC{c:UC}(h:c.tag=3):∃x,c=.ss x:=n10_
theorem Zjl{c:UC}(h:c.tag=4):∃x,c=.ns x:=n10_
theorem Zu4{c:UC}(h:c.tag=5):∃x,c=.rs x:=n10_
theorem Zjt{c:UC}(h:c.tag=6):∃x,c=.cs x:=n10_
theorem Zva{c:UC}(h:c.tag=7):∃x,c=.ps x:=n10_
theorem Zqn(R B:Nat)(us fs:Array Value)(u:UV)(l:List Ln)(k:ZE)(kv:ZQ)(w0 w:World)(hW:Xe w0 w R B us fs l)(hM:Zz w0)(hP:Pow w0)(hK:Xu w kv k)(hk:k∈Zc)(hkl:k.list=true)(hr:ZL k.name=0)(he:k.name≠Zy)(hl:l.length<=90000000)
  (hu:ZV w0 us u) (tu:ZH u) (sm:Yt u) :
  Calls prog 95 #[.pointer (some ⟨R,0,none⟩),.agg (Zm kv).toArray] w fun e w'=>X6 w0 w R B us fs (l++Yy k.sec ((Qp u k).map fun s=>(k.name,s))) e w':=by
 have hj:=Zl4 k hk;obtain ⟨vx,hx,sx⟩:=YB hu hj;have htag:=c7_.1 Zon k hk;have hslot:=c7_.1 ZmM k hk;have hnm:=ZiD k hk hkl hr he;have h8:(k.form==8)=false:=by
  have h:=eq_of_beq (c7_.1 Zn0 k hk);rw [h];exact beq_false_of_ne he
 have hr0:(ZL k.name !=0)=false:=by simp [hr]
 rw [hkl,hr0,h8] at htag hslot;simp only [Bool.not_true,Bool.false_or] at htag hslot;have hwf:=ZdD k hk;have ptr:∀tab v,fnd tab k.name=v->ZiM R 0 tab k.name=.pointer (v.map fun j=>⟨R,j,none⟩):=fun tab v h=>by rw [Zl6,h];simp
 have tg:=(tu (Zb k.name));have hln:=sm.len (Zb k.name);by_cases h7:k.form=7
 ·have hb:(k.form==7)=true:=by simpa using h7
  rw [hb,if_pos rfl] at htag hslot;simp only [Bool.and_eq_true,beq_iff_eq] at htag hslot;obtain ⟨s1,s2,s3⟩:=hslot;rw [htag] at tg;obtain ⟨xs,ex⟩:=Zjt tg;rw [ex] at sx hln;obtain ⟨oa,cap,cr,rfl,hrow,_⟩:=sx;have e:(Qp u k).map (fun s=>(k.name,s))=xs.map fun x=>(k.name,Qc x):=by
   unfold Qp;rw [if_pos h7,ex,List.map_map];rfl
  rw [e];have hc:=sm.cmds (Zb k.name);rw [ex] at hc;have hlen:xs.length<=2000000:=hln;exact Zn7 R B (Zb k.name) us fs l k kv oa cap cr xs w0 w hW hM hP hK o_ o_ hx hrow (fun x h=>Nat.le_trans (hc x h).1 d_) (fun x h=>(hc x h).2)
   (fun W=>by have:=Zao R 0 W _ hnm;rw [ptr _ _ s1] at this;exact this) (fun W=>by have:=ZbE R 0 W _ hnm;rw [ptr _ _ s2] at this;exact this) (fun W=>by have:=ZbF R 0 W _ hnm;rw [ptr _ _ s3] at this;exact this)
 ·have hb:(k.form==7)=false:=by simpa using h7
  rw [hb,if_neg d_] at htag hslot;by_cases h4:k.form=4\/k.form=11
  ·have hb2:(k.form==4||k.form==11)=true:=by simpa using h4
   rw [hb2,if_pos rfl] at htag hslot;simp only [Bool.and_eq_true,beq_iff_eq] at htag hslot;obtain ⟨s1,s2,s3⟩:=hslot;obtain ⟨htag,hw0⟩:=htag;rw [htag] at tg;obtain ⟨xs,ex⟩:=Zjl tg;rw [ex] at sx hln;obtain ⟨oa,cap,rfl,hrow,_⟩:=sx;have e:(Qp u k).map (fun s=>(k.name,s))=xs.map fun x=>(k.name,Qv k x):=by
    unfold Qp;rw [if_neg h7,if_pos h4,ex,List.map_map];rfl
   rw [e];have hc:=sm.nums (Zb k.name);rw [ex] at hc;have hlen:xs.length<=2000000:=hln;exact ZoX R B (Zb k.name) us fs l k kv oa cap xs w0 w hW hM hP hK o_ o_ hx hrow (fun x h=>Nat.le_trans (Ze9 k hk x (hc x h).1 (hc x h).2) d_) hw0 hc
    (fun W=>by have:=Zao R 0 W _ hnm;rw [ptr _ _ s1] at this;exact this) (fun W=>by have:=ZbE R 0 W _ hnm;rw [ptr _ _ s2] at this;exact this) (fun W=>by have:=ZbF R 0 W _ hnm;rw [ptr _ _ s3] at this;exact this)
  ·have hb2:(k.form==4||k.form==11)=false:=by simpa using h4
   rw [hb2,if_neg d_] at htag hslot;simp only [Bool.and_eq_true,beq_iff_eq] at htag hslot;obtain ⟨s1,s2,s3⟩:=hslot;rw [htag] at tg;obtain ⟨xs,ex⟩:=ZhC tg;rw [ex] at sx hln;obtain ⟨oa,cap,rfl,hrow,_⟩:=sx;have e:(Qp u k).map (fun s=>(k.name,s))=xs.map fun x=>(k.name,x):=by
    unfold Qp;rw [if_neg h7,if_neg h4,ex];rfl
   rw [e];have hc:=sm.strs (Zb k.name);rw [ex] at hc;have hlen:xs.length<=2000000:=hln;exact ZoE R B (Zb k.name) us fs l k kv oa cap xs w0 w hW hM hP hK o_ o_ hx hrow (fun x h=>Nat.le_trans (hc x h) d_)
    (fun W=>by have:=Zao R 0 W _ hnm;rw [ptr _ _ s1] at this;exact this) (fun W=>by have:=ZbE R 0 W _ hnm;rw [ptr _ _ s2] at this;exact this) (fun W=>by have:=ZbF R 0 W _ hnm;rw [ptr _ _ s3] at this;exact this)
theorem Zni(R B:Nat)(us fs:Array Value)(l:List Ln)(k:ZE)(kv:ZQ)(w0 w:World)(hW:Xe w0 w R B us fs l)(hK:Xu w kv k)(e1:(k.name==[82,101,113,117,105,114,101,115])=true)(m:List Ln)(hc:∀W,Xe w0 W R B us fs l->Calls prog 91 #[.pointer (some ⟨R,0,none⟩),.string ⟨k.sec.toArray⟩] W fun e w'=>X6 w0 W R B us fs m e w') :
  Calls prog 45 #[.pointer (some ⟨R,0,none⟩),.agg (Zm kv).toArray] w fun e w'=>X6 w0 w R B us fs (m) e w':=by
 have hsec:=hK.sec;have hname:=hK.name;have HKV:=h_ hK;obtain ⟨ks,kn,kf,kl,kk,wa,wn,wc⟩:=kv;have hlist:=hK.list;simp only at hsec hname hlist;subst hsec;subst hname;have hlt:R<w.heap.size:=n16_;have hB:=(Below.refl w.heap.size w).alloc l_ (.cells #[.string ⟨k.sec.toArray⟩,.string ⟨k.name.toArray⟩,.int .i64 kf,.bool kl,.int .i64 kk,.slice wa wn wc] 82);have HB:=h_ hB;have HW1:=h_ (hW.below hB);have HK1:=h_ (heap_alloc_new w (.cells #[.string ⟨k.sec.toArray⟩,.string ⟨k.name.toArray⟩,.int .i64 kf,.bool kl,.int .i64 kk,.slice wa wn wc] 82));have HKV1:=h_ (hK.below hB);have HNR:=h_ (show w.heap.size≠R by omega);have HLI:=h_ hlist;clear hlist;unfold Zm X6;simp only;clear hB hW hK;have HC:=h_ hc;clear hc;go_enter func45,ntmps45;go_wp2_with fail;refine (HC.out _ HW1.out).mono ?_;exact m119_
theorem Zmb(R B:Nat)(us fs:Array Value)(l:List Ln)(k:ZE)(kv:ZQ)(w0 w:World)(hW:Xe w0 w R B us fs l)(hK:Xu w kv k)(e1:(k.name==[82,101,113,117,105,114,101,115])=false)(hsr:∀W,Calls prog 92 #[.string ⟨k.name.toArray⟩] W fun e w'=>e=.returned (.int .i64 (ZL k.name:Nat))/\w'=W)(er:(((ZL k.name:Nat):Int)!=0)=true) :
  Calls prog 45 #[.pointer (some ⟨R,0,none⟩),.agg (Zm kv).toArray] w fun e w'=>X6 w0 w R B us fs (l) e w':=by
 have hsec:=hK.sec;have hname:=hK.name;have HKV:=h_ hK;obtain ⟨ks,kn,kf,kl,kk,wa,wn,wc⟩:=kv;have hlist:=hK.list;simp only at hsec hname hlist;subst hsec;subst hname;have hlt:R<w.heap.size:=n16_;have hB:=(Below.refl w.heap.size w).alloc l_ (.cells #[.string ⟨k.sec.toArray⟩,.string ⟨k.name.toArray⟩,.int .i64 kf,.bool kl,.int .i64 kk,.slice wa wn wc] 82);have HB:=h_ hB;have HW1:=h_ (hW.below hB);have HK1:=h_ (heap_alloc_new w (.cells #[.string ⟨k.sec.toArray⟩,.string ⟨k.name.toArray⟩,.int .i64 kf,.bool kl,.int .i64 kk,.slice wa wn wc] 82));have HKV1:=h_ (hK.below hB);have HNR:=h_ (show w.heap.size≠R by omega);have HLI:=h_ hlist;clear hlist;unfold Zm X6;simp only;clear hB hW hK;have HSR:=h_ hsr;clear hsr;generalize ((ZL k.name:Nat):Int)=rv at HSR er;exact m116_
theorem Znh(R B:Nat)(us fs:Array Value)(l:List Ln)(k:ZE)(kv:ZQ)(w0 w:World)(hW:Xe w0 w R B us fs l)(hK:Xu w kv k)(e1:(k.name==[82,101,113,117,105,114,101,115])=false)(hsr:∀W,Calls prog 92 #[.string ⟨k.name.toArray⟩] W fun e w'=>e=.returned (.int .i64 (ZL k.name:Nat))/\w'=W)(er:(((ZL k.name:Nat):Int)!=0)=false)(e2:(k.name==[69,110,118,105,114,111,110,109,101,110,116])=false)(kd:Int)(hkd:us[1]?=some (.int .i64 kd))(e3:(k.name==[83,101,114,118,105,99,101])=true)(k3:(kd==3)=true) :
  Calls prog 45 #[.pointer (some ⟨R,0,none⟩),.agg (Zm kv).toArray] w fun e w'=>X6 w0 w R B us fs (l) e w':=by
 have hsec:=hK.sec;have hname:=hK.name;have HKV:=h_ hK;obtain ⟨ks,kn,kf,kl,kk,wa,wn,wc⟩:=kv;have hlist:=hK.list;simp only at hsec hname hlist;subst hsec;subst hname;have hlt:R<w.heap.size:=n16_;have hB:=(Below.refl w.heap.size w).alloc l_ (.cells #[.string ⟨k.sec.toArray⟩,.string ⟨k.name.toArray⟩,.int .i64 kf,.bool kl,.int .i64 kk,.slice wa wn wc] 82);have HB:=h_ hB;have HW1:=h_ (hW.below hB);have HK1:=h_ (heap_alloc_new w (.cells #[.string ⟨k.sec.toArray⟩,.string ⟨k.name.toArray⟩,.int .i64 kf,.bool kl,.int .i64 kk,.slice wa wn wc] 82));have HKV1:=h_ (hK.below hB);have HNR:=h_ (show w.heap.size≠R by omega);have HLI:=h_ hlist;clear hlist;unfold Zm X6;simp only;clear hB hW hK;have HSR:=h_ hsr;clear hsr;generalize ((ZL k.name:Nat):Int)=rv at HSR er;have c1:=HW1.out.rdU hkd;clear hkd;exact m116_
theorem Zm7(R B:Nat)(us fs:Array Value)(l:List Ln)(k:ZE)(kv:ZQ)(w0 w:World)(hW:Xe w0 w R B us fs l)(hK:Xu w kv k)(e1:(k.name==[82,101,113,117,105,114,101,115])=false)(hsr:∀W,Calls prog 92 #[.string ⟨k.name.toArray⟩] W fun e w'=>e=.returned (.int .i64 (ZL k.name:Nat))/\w'=W)(er:(((ZL k.name:Nat):Int)!=0)=false)(e2:(k.name==[69,110,118,105,114,111,110,109,101,110,116])=false)(kd:Int)(hkd:us[1]?=some (.int .i64 kd))(e3:(k.name==[83,101,114,118,105,99,101])=false)(e4:(k.name==[85,110,105,116])=true)(k3:(kd==3)=false) :
  Calls prog 45 #[.pointer (some ⟨R,0,none⟩),.agg (Zm kv).toArray] w fun e w'=>X6 w0 w R B us fs (l) e w':=by
 have hsec:=hK.sec;have hname:=hK.name;have HKV:=h_ hK;obtain ⟨ks,kn,kf,kl,kk,wa,wn,wc⟩:=kv;have hlist:=hK.list;simp only at hsec hname hlist;subst hsec;subst hname;have hlt:R<w.heap.size:=n16_;have hB:=(Below.refl w.heap.size w).alloc l_ (.cells #[.string ⟨k.sec.toArray⟩,.string ⟨k.name.toArray⟩,.int .i64 kf,.bool kl,.int .i64 kk,.slice wa wn wc] 82);have HB:=h_ hB;have HW1:=h_ (hW.below hB);have HK1:=h_ (heap_alloc_new w (.cells #[.string ⟨k.sec.toArray⟩,.string ⟨k.name.toArray⟩,.int .i64 kf,.bool kl,.int .i64 kk,.slice wa wn wc] 82));have HKV1:=h_ (hK.below hB);have HNR:=h_ (show w.heap.size≠R by omega);have HLI:=h_ hlist;clear hlist;unfold Zm X6;simp only;clear hB hW hK;have HSR:=h_ hsr;clear hsr;generalize ((ZL k.name:Nat):Int)=rv at HSR er;have c1:=HW1.out.rdU hkd;clear hkd;have k4:(kd !=3)=true:=by rw [bne,k3];rfl
 exact m116_
theorem ZoP(R B:Nat)(us fs:Array Value)(l:List Ln)(k:ZE)(kv:ZQ)(w0 w:World)(hW:Xe w0 w R B us fs l)(hK:Xu w kv k)(e1:(k.name==[82,101,113,117,105,114,101,115])=false)(hsr:∀W,Calls prog 92 #[.string ⟨k.name.toArray⟩] W fun e w'=>e=.returned (.int .i64 (ZL k.name:Nat))/\w'=W)(er:(((ZL k.name:Nat):Int)!=0)=false)(e2:(k.name==[69,110,118,105,114,111,110,109,101,110,116])=false)(kd:Int)(hkd:us[1]?=some (.int .i64 kd))(e3:(k.name==[83,101,114,118,105,99,101])=false)(e4:(k.name==[85,110,105,116])=false)(hkl:k.list=true)(m:List Ln)(hc:∀W,Xe w0 W R B us fs l->Xu W kv k->Calls prog 95 #[.pointer (some ⟨R,0,none⟩),.agg (Zm kv).toArray] W fun e w'=>X6 w0 W R B us fs m e w') :
  Calls prog 45 #[.pointer (some ⟨R,0,none⟩),.agg (Zm kv).toArray] w fun e w'=>X6 w0 w R B us fs (m) e w':=by
 have hsec:=hK.sec;have hname:=hK.name;have HKV:=h_ hK;obtain ⟨ks,kn,kf,kl,kk,wa,wn,wc⟩:=kv;have hlist:=hK.list;simp only at hsec hname hlist;subst hsec;subst hname;have hlt:R<w.heap.size:=n16_;have hB:=(Below.refl w.heap.size w).alloc l_ (.cells #[.string ⟨k.sec.toArray⟩,.string ⟨k.name.toArray⟩,.int .i64 kf,.bool kl,.int .i64 kk,.slice wa wn wc] 82);have HB:=h_ hB;have HW1:=h_ (hW.below hB);have HK1:=h_ (heap_alloc_new w (.cells #[.string ⟨k.sec.toArray⟩,.string ⟨k.name.toArray⟩,.int .i64 kf,.bool kl,.int .i64 kk,.slice wa wn wc] 82));have HKV1:=h_ (hK.below hB);have HNR:=h_ (show w.heap.size≠R by omega);have HLI:=h_ hlist;clear hlist;unfold Zm X6;simp only;clear hB hW hK;have HSR:=h_ hsr;clear hsr;generalize ((ZL k.name:Nat):Int)=rv at HSR er;have c1:=HW1.out.rdU hkd;clear hkd;obtain rfl:kl=true:=HLI.out.trans hkl;have HC:=h_ hc;clear hc;go_enter func45,ntmps45;go_wp2_with (first|(refine QS rfl 82 (.tmp 3) w.heap.size #[.string ⟨k.sec.toArray⟩,.string ⟨k.name.toArray⟩,.int .i64 kf,.bool true,.int .i64 kk,.slice wa wn wc] 82 _ rfl rfl HK1.out rfl rfl n18_ ?_)|(go_at_call 92;refine (HSR.out _).mono ?_;rintro e w' ⟨rfl,rfl⟩));refine (HC.out _ HW1.out HKV1.out).mono ?_;exact m119_
theorem Zoi(R B:Nat)(us fs:Array Value)(l:List Ln)(k:ZE)(kv:ZQ)(w0 w:World)(hW:Xe w0 w R B us fs l)(hK:Xu w kv k)(e1:(k.name==[82,101,113,117,105,114,101,115])=false)(hsr:∀W,Calls prog 92 #[.string ⟨k.name.toArray⟩] W fun e w'=>e=.returned (.int .i64 (ZL k.name:Nat))/\w'=W)(er:(((ZL k.name:Nat):Int)!=0)=false)(e2:(k.name==[69,110,118,105,114,111,110,109,101,110,116])=false)(kd:Int)(hkd:us[1]?=some (.int .i64 kd))(e3:(k.name==[83,101,114,118,105,99,101])=false)(e4:(k.name==[85,110,105,116])=false)(hkl:k.list=false)(m:List Ln)(hc:∀W,Xe w0 W R B us fs l->Xu W kv k->Calls prog 96 #[.pointer (some ⟨R,0,none⟩),.agg (Zm kv).toArray] W fun e w'=>X6 w0 W R B us fs m e w') :
  Calls prog 45 #[.pointer (some ⟨R,0,none⟩),.agg (Zm kv).toArray] w fun e w'=>X6 w0 w R B us fs (m) e w':=by
 exact m115_
theorem ZnM(R B:Nat)(us fs:Array Value)(l:List Ln)(k:ZE)(kv:ZQ)(w0 w:World)(hW:Xe w0 w R B us fs l)(hK:Xu w kv k)(e1:(k.name==[82,101,113,117,105,114,101,115])=false)(hsr:∀W,Calls prog 92 #[.string ⟨k.name.toArray⟩] W fun e w'=>e=.returned (.int .i64 (ZL k.name:Nat))/\w'=W)(er:(((ZL k.name:Nat):Int)!=0)=false)(e2:(k.name==[69,110,118,105,114,111,110,109,101,110,116])=false)(kd:Int)(hkd:us[1]?=some (.int .i64 kd))(e3:(k.name==[83,101,114,118,105,99,101])=true)(e4:(k.name==[85,110,105,116])=false)(k3:(kd==3)=false)(hkl:k.list=false)(m:List Ln)(hc:∀W,Xe w0 W R B us fs l->Xu W kv k->Calls prog 96 #[.pointer (some ⟨R,0,none⟩),.agg (Zm kv).toArray] W fun e w'=>X6 w0 W R B us fs m e w') :
  Calls prog 45 #[.pointer (some ⟨R,0,none⟩),.agg (Zm kv).toArray] w fun e w'=>X6 w0 w R B us fs (m) e w':=by
 exact m115_
theorem ZnQ(R B:Nat)(us fs:Array Value)(l:List Ln)(k:ZE)(kv:ZQ)(w0 w:World)(hW:Xe w0 w R B us fs l)(hK:Xu w kv k)(e1:(k.name==[82,101,113,117,105,114,101,115])=false)(hsr:∀W,Calls prog 92 #[.string ⟨k.name.toArray⟩] W fun e w'=>e=.returned (.int .i64 (ZL k.name:Nat))/\w'=W)(er:(((ZL k.name:Nat):Int)!=0)=false)(e2:(k.name==[69,110,118,105,114,111,110,109,101,110,116])=false)(kd:Int)(hkd:us[1]?=some (.int .i64 kd))(e3:(k.name==[83,101,114,118,105,99,101])=false)(e4:(k.name==[85,110,105,116])=true)(k3:(kd==3)=true)(hkl:k.list=false)(m:List Ln)(hc:∀W,Xe w0 W R B us fs l->Xu W kv k->Calls prog 96 #[.pointer (some ⟨R,0,none⟩),.agg (Zm kv).toArray] W fun e w'=>X6 w0 W R B us fs m e w') :
  Calls prog 45 #[.pointer (some ⟨R,0,none⟩),.agg (Zm kv).toArray] w fun e w'=>X6 w0 w R B us fs (m) e w':=by
 have hsec:=hK.sec;have hname:=hK.name;have HKV:=h_ hK;obtain ⟨ks,kn,kf,kl,kk,wa,wn,wc⟩:=kv;have hlist:=hK.list;simp only at hsec hname hlist;subst hsec;subst hname;have hlt:R<w.heap.size:=n16_;have hB:=(Below.refl w.heap.size w).alloc l_ (.cells #[.string ⟨k.sec.toArray⟩,.string ⟨k.name.toArray⟩,.int .i64 kf,.bool kl,.int .i64 kk,.slice wa wn wc] 82);have HB:=h_ hB;have HW1:=h_ (hW.below hB);have HK1:=h_ (heap_alloc_new w (.cells #[.string ⟨k.sec.toArray⟩,.string ⟨k.name.toArray⟩,.int .i64 kf,.bool kl,.int .i64 kk,.slice wa wn wc] 82));have HKV1:=h_ (hK.below hB);have HNR:=h_ (show w.heap.size≠R by omega);have HLI:=h_ hlist;clear hlist;unfold Zm X6;simp only;clear hB hW hK;have HSR:=h_ hsr;clear hsr;generalize ((ZL k.name:Nat):Int)=rv at HSR er;have c1:=HW1.out.rdU hkd;clear hkd;have k4:(kd !=3)=false:=by rw [bne,k3];rfl
 exact m118_
theorem Zt3(a b:Str):(⟨a.toArray⟩:ByteArray)++(⟨#[61]⟩:ByteArray)=⟨(a++[61]).toArray⟩/\(⟨(a++[61]).toArray⟩:ByteArray)++(⟨b.toArray⟩:ByteArray)=⟨(a++61::b).toArray⟩:=by
 constructor
 ·apply Yu
  rw [Joins.data_append]
 ·apply Yu
  rw [Joins.data_append];simp
theorem Zh6(p:Str×Str)(h:p.1.length+p.2.length<=100000000):(pairT p).length<=450000000:=by
 have hw:=ZaB (p.1++61::p.2);rw [c5_,c14_] at hw;unfold pairT join;split
 ·exact Nat.zero_le _
 ·split
  ·exact Nat.zero_le _
  ·show (YC _).length<=_
   omega
theorem Znq(R B:Nat)(us fs:Array Value)(l:List Ln)(k:ZE)(kv:ZQ)(w0 w:World)(hW:Xe w0 w R B us fs l)(hK:Xu w kv k)(e1:(k.name==[82,101,113,117,105,114,101,115])=false)(hsr:∀W,Calls prog 92 #[.string ⟨k.name.toArray⟩] W fun e w'=>e=.returned (.int .i64 (ZL k.name:Nat))/\w'=W)(er:(((ZL k.name:Nat):Int)!=0)=false)(e2:(k.name==[69,110,118,105,114,111,110,109,101,110,116])=true)(hM:Zz w0)(oa:Option Addr)(cap:Nat)(ps:List (Str×Str))(h19:us[19]?=some (.slice oa ps.length cap))(hrow:ZG Qu 2 w0 oa ps)(hl:l.length+ps.length<=100000000)(hv:∀p∈ps,p.1.length+p.2.length<=100000000) :
  Calls prog 45 #[.pointer (some ⟨R,0,none⟩),.agg (Zm kv).toArray] w fun e w'=>X6 w0 w R B us fs (l++Yy k.sec (ps.map fun p=>(k.name,pairT p))) e w':=by
 have hsec:=hK.sec;have hname:=hK.name;have HKV:=h_ hK;obtain ⟨ks,kn,kf,kl,kk,wa,wn,wc⟩:=kv;have hlist:=hK.list;simp only at hsec hname hlist;subst hsec;subst hname;have hlt:R<w.heap.size:=n16_;have hB:=(Below.refl w.heap.size w).alloc l_ (.cells #[.string ⟨k.sec.toArray⟩,.string ⟨k.name.toArray⟩,.int .i64 kf,.bool kl,.int .i64 kk,.slice wa wn wc] 82);have HB:=h_ hB;have HW1:=h_ (hW.below hB);have HK1:=h_ (heap_alloc_new w (.cells #[.string ⟨k.sec.toArray⟩,.string ⟨k.name.toArray⟩,.int .i64 kf,.bool kl,.int .i64 kk,.slice wa wn wc] 82));have HKV1:=h_ (hK.below hB);have HNR:=h_ (show w.heap.size≠R by omega);have HLI:=h_ hlist;clear hlist;unfold Zm X6;simp only;clear hB hW hK;have HSR:=h_ hsr;clear hsr;generalize ((ZL k.name:Nat):Int)=rv at HSR er;have c1:=HW1.out.rdU h19;have HM:=h_ hM;have HROW:=h_ hrow;have HL:=h_ hl;have HV:=h_ hv;clear h19 hM hrow hl hv;go_enter func45,ntmps45;go_wp2_with (first|(go_at_call 92;refine (HSR.out _).mono ?_;rintro e w' ⟨rfl,rfl⟩));go_loopg [32] (ps.length+1) (fun f i wr=>∃m:Nat,m<=ps.length/\i=.int .i64 m/\ps.length-m<f/\Hid (Xe w0 wr R B us fs (l++Yy k.sec ((ps.take m).map fun p=>(k.name,pairT p))))/\Hid (FrB R B 53 w wr)/\Hid (wr.heap[w.heap.size]?=some (.cells #[.string ⟨k.sec.toArray⟩,.string ⟨k.name.toArray⟩,.int .i64 kf,.bool kl,.int .i64 kk,.slice wa wn wc] 82 (0,0))))
 case atStart=>exact ⟨0,o_,rfl,o_,by rw [List.take_zero,List.map_nil,show Yy k.sec []=[] from rfl,List.append_nil];exact HW1,Fr.of_below HB.out _,HK1⟩
 case round=>
  obtain ⟨m,hm,rfl,hf,HWR,HFR,HKR⟩:=hrel;have HRW:=h_ (fun (W:World) (h:Below wr.heap.size wr W)=>show W.cell? ⟨w.heap.size,0,none⟩=some (.string ⟨k.sec.toArray⟩)/\W.cell? ⟨w.heap.size,1,none⟩=some (.string ⟨k.name.toArray⟩) from ⟨(rd (Za HKR.out h)).1 0,(rd (Za HKR.out h)).1 1⟩);by_cases hlt2:m<ps.length
  ·obtain ⟨x,hx⟩:=e_ (ps[m])
   have HSN:=h_ (show l++Yy k.sec ((ps.take (m+1)).map fun p=>(k.name,pairT p))=(l++Yy k.sec ((ps.take m).map fun p=>(k.name,pairT p)))++[Zby k.sec k.name (pairT x)] by
    rw [c4_ hlt2,List.map_append,<-hx];simp [Yy])
   have HVX:=h_ (HV.out x n37_);have HLM:=h_ (show (l++Yy k.sec ((ps.take m).map fun p=>(k.name,pairT p))).length<=100000000 by
    have:=HL.out;rw [c5_,Yy,List.length_map,List.length_map,List.length_take];omega)
   have hm2:(m:Int)<(ps.length:Int):=o_;have hmb:m<=100000000:=n112_;obtain ⟨b,o,e9,_,hc⟩:=(ZG.below HROW.out HWR.out.base) m hlt2;rw [<-hx] at hc;have d5:=hc 0 (.string ⟨x.1.toArray⟩) rfl;have d6:=hc 1 (.string ⟨x.2.toArray⟩) rfl;rw [Nat.add_zero] at d5;subst e9;clear hx hc;generalize l++Yy k.sec ((ps.take m).map fun p=>(k.name,pairT p))=lm at HWR HSN HLM;obtain ⟨pn,pv⟩:=x;simp only at d5 d6 HSN HVX;have hvx:pn.length+pv.length<=100000000:=HVX.out;have HC2:=h_ (Zt3 pn pv);have z1:(⟨pn.toArray⟩:ByteArray).size=pn.length:=n17_;have z2:(⟨pv.toArray⟩:ByteArray).size=pv.length:=n17_;go_wp2_with fail;have HBE:=h_ ((Below.refl wr.heap.size wr).alloc l_ (.cells #[.string ⟨pn.toArray⟩,.string ⟨pv.toArray⟩] 64));have HE:=h_ (heap_alloc_new wr (.cells #[.string ⟨pn.toArray⟩,.string ⟨pv.toArray⟩] 64));generalize wr.alloc (.cells #[.string ⟨pn.toArray⟩,.string ⟨pv.toArray⟩] 64)=we at HBE HE⊢;refine Zk (S:=fun V=>Below we.heap.size we V) 13 k_ k_ (Ze ⟨1,rfl⟩) (fun hHeld=>?_);refine u_ ?_;refine dT_ (i:=0) (v:=.pointer (some ⟨R,0,none⟩)) (gT_ rfl) (fun W hW=>by clear hW;go_simp) (u_ ?_);refine dT_ (i:=1) (v:=.pointer (some ⟨w.heap.size,0,none⟩)) (gT_ rfl) (fun W hW=>by clear hW;go_simp) (u_ ?_);refine dT_ (i:=2) (v:=.string ⟨k.sec.toArray⟩) (gT_ rfl) (fun W hW=>by obtain ⟨q3,q4⟩:=HRW.out W (HBE.out.trans (hW.mono HBE.out.size));clear hW;go_simp) (u_ ?_);refine dT_ (i:=3) (v:=.pointer (some ⟨w.heap.size,1,none⟩)) (gT_ rfl) (fun W hW=>by clear hW;go_simp) (u_ ?_);refine dT_ (i:=4) (v:=.string ⟨k.name.toArray⟩) (gT_ rfl) (fun W hW=>by obtain ⟨q3,q4⟩:=HRW.out W (HBE.out.trans (hW.mono HBE.out.size));clear hW;go_simp) (u_ ?_);refine dT_ (i:=5) (v:=.pointer (some ⟨wr.heap.size,0,none⟩)) (gT_ rfl) (fun W hW=>by clear hW;go_simp) (u_ ?_);refine dT_ (i:=6) (v:=.string ⟨pn.toArray⟩) (gT_ rfl) (fun W hW=>by have q5:=(rd (Za HE.out hW)).1 0;have q6:=(rd (Za HE.out hW)).1 1;simp at q5 q6;clear hW;go_simp) (u_ ?_);refine dT_ (i:=7) (v:=.string ⟨(pn++[61]).toArray⟩) (gT_ rfl) (fun W hW=>by clear hW;rw [<-HC2.out.1];go_simp;omega) (u_ ?_);refine dT_ (i:=8) (v:=.pointer (some ⟨wr.heap.size,1,none⟩)) (gT_ rfl) (fun W hW=>by clear hW;go_simp) (u_ ?_);refine dT_ (i:=9) (v:=.string ⟨pv.toArray⟩) (gT_ rfl) (fun W hW=>by have q5:=(rd (Za HE.out hW)).1 0;have q6:=(rd (Za HE.out hW)).1 1;simp at q5 q6;clear hW;go_simp) (u_ ?_);refine dT_ (i:=10) (v:=.string ⟨(pn++61::pv).toArray⟩) (gT_ rfl) (fun W hW=>by clear hW;rw [<-HC2.out.2];go_simp;omega) (u_ ?_);refine Zu (i:=11) (gT_ rfl) k_ k_ (fun K hK=>?_);clear hHeld;rw [if_pos n18_];go_simp;have HB5:=h_ (show Below we.heap.size we (we.drew.alloc (.cells #[.string ⟨(pn++61::pv).toArray⟩] 9)) from (show Below we.heap.size we we.drew from Ze ⟨1,rfl⟩).alloc l_ _);have HBL:=h_ (show Zp (we.drew.alloc (.cells #[.string ⟨(pn++61::pv).toArray⟩] 9)) (some ⟨we.drew.heap.size,0,none⟩) [pn++61::pv] from Zez we.drew [pn++61::pv]);refine hK.out _ _ HB5.out (fun hHeld=>?_);clear hK K;refine u_ ?_;refine Zu (i:=12) (gT_ rfl) k_ k_ (fun K hK=>?_);clear hHeld;rw [if_pos n18_];go_simp;refine (Zln (some ⟨we.drew.heap.size,0,none⟩) 1 [pn++61::pv] (we.drew.alloc (.cells #[.string ⟨(pn++61::pv).toArray⟩] 9)) HBL.out (by show 1<=maxLen;unfold maxLen;decide) (by intro y hy;simp at hy;subst hy;rw [c5_,c14_];omega)).mono ?_;rintro e w7 ⟨rfl,hb7⟩;have HB7:=h_ (show Below we.heap.size we w7 from HB5.out.trans (hb7.mono HB5.out.size));clear hb7;refine hK.out _ _ HB7.out (fun hHeld=>?_);clear hK K;refine u_ ?_;refine ZF k_ ?_;clear hHeld;go_wp2_with fail;refine (J7 R B us fs lm k.sec k.name (pairT (pn,pv)) w0 w7 (HWR.out.below (HBE.out.trans (HB7.out.mono HBE.out.size))) HM.out HLM.out (Nat.le_trans (Zh6 (pn,pv) HVX.out) d_)).mono ?_;rintro e w5 ⟨rfl,hw5,hf5⟩;have HW5:=h_ hw5;have HK5:=h_ (FrB.heap hf5 (Za HKR.out (HBE.out.trans (HB7.out.mono HBE.out.size))) HNR.out d_);have HF5:=h_ (show FrB R B 53 w w5 from FrB.trans (FrB.trans HFR.out (show FrB R B 53 wr w7 from Fr.of_below (HBE.out.trans (HB7.out.mono HBE.out.size)) _)) hf5);clear hw5 hf5;go_wp2_with fail;go_roundg (ps.length-m)
   case measure=>omega
   case rel=>exact ⟨m+1,o_,n9_,o_,n83_,HF5,HK5⟩
  ·obtain rfl:m=ps.length:=o_
   rw [c9_ l_] at HWR;have hm2:¬((ps.length:Int)<(ps.length:Int)):=o_;go_wp2_with fail;go_end0;exact ⟨rfl,HWR.out,HFR.out⟩
theorem ZsR(u f:UV)(k:ZE)(sm:Yt u):(YJ u f k).length<=2000000:=by
 have h1:∀c:UC,c.cmds.length<=c.len/\c.nums.length<=c.len/\c.strs.length<=c.len/\c.prs.length<=c.len/\c.rels.length<=c.len:=by intro c;cases c<;>simp [UC.cmds,UC.nums,UC.strs,UC.prs,UC.rels,UC.len]
 unfold YJ;split
 ·rw [List.length_map];exact Nat.le_trans (h1 _).2.2.2.2 (sm.len 4)
 ·split
  ·exact Nat.zero_le _
  ·split
   ·rw [List.length_map];exact Nat.le_trans (h1 _).2.2.2.1 (sm.len 19)
   ·split
    ·exact Nat.zero_le _
    ·rw [List.length_map]
     split
     ·unfold Qp
      split
      ·rw [List.length_map];exact Nat.le_trans (h1 _).1 (sm.len _)
      ·split
       ·rw [List.length_map];exact Nat.le_trans (h1 _).2.1 (sm.len _)
       ·exact Nat.le_trans (h1 _).2.2.1 (sm.len _)
     ·unfold Qm
      (repeat' split);all_goals simp
theorem Zqh:(Zc.all fun k=>!k.list||(k.name !=Zn&&k.name !=Z7))=true:=n1_
theorem ZrT(R B:Nat)(us fs:Array Value)(u f:UV)(l:List Ln)(k:ZE)(kv:ZQ)(w0 w:World)(hW:Xe w0 w R B us fs l)(hM:Zz w0)(hP:Pow w0)(hK:Xu w kv k)(hk:k∈Zc)(hl:l.length<=90000000)
  (hu:ZV w0 us u) (hf:ZV w0 fs f) (tu:ZH u) (tf:ZH f) (sm:Yt u) :
  Calls prog 45 #[.pointer (some ⟨R,0,none⟩),.agg (Zm kv).toArray] w fun e w'=>X6 w0 w R B us fs (l++Yy k.sec (YJ u f k)) e w':=by
 have hsr:=fun W=>Zne W k hk
 unfold YJ;by_cases h1:k.name=Z8
 ·rw [if_pos h1]
  obtain ⟨v,hv,sv⟩:=YB hu (show 4<35 by decide);obtain ⟨rs,er⟩:=Zu4 (tu 4);rw [er] at sv⊢;obtain ⟨oa,cap,rfl,hrow,_⟩:=sv;have hln:=sm.len 4;have hrl:=sm.rels;rw [er] at hln hrl;have hlen:rs.length<=2000000:=hln;exact Zni R B us fs l k kv w0 w hW hK (by rw [h1];decide) _ (fun W hW2=>Zqj R B us fs l k.sec oa cap rs w0 W hW2 hM o_ hv hrow (fun r h=>Nat.le_trans (hrl r h) d_))
 rw [if_neg h1];have e1:(k.name==[82,101,113,117,105,114,101,115])=false:=beq_false_of_ne h1;by_cases h2:ZL k.name≠0
 ·rw [if_pos h2]
  have e0:l++Yy k.sec []=l:=List.append_nil l;rw [e0];exact Zmb R B us fs l k kv w0 w hW hK e1 hsr n118_
 rw [if_neg h2];have er:(((ZL k.name:Nat):Int)!=0)=false:=by
  have:ZL k.name=0:=n64_
  rw [this];rfl
 by_cases h3:k.name=Zy
 ·rw [if_pos h3]
  obtain ⟨v,hv,sv⟩:=YB hu (show 19<35 by decide);obtain ⟨ps,ep⟩:=Zva (tu 19);rw [ep] at sv⊢;obtain ⟨oa,cap,rfl,hrow,_⟩:=sv;have hln:=sm.len 19;have hpl:=sm.prs;rw [ep] at hln hpl;have hlen:ps.length<=2000000:=hln;exact Znq R B us fs l k kv w0 w hW hK e1 hsr er (by rw [h3];decide) hM oa cap ps hv hrow o_ hpl
 rw [if_neg h3];have e2:(k.name==[69,110,118,105,114,111,110,109,101,110,116])=false:=beq_false_of_ne h3;obtain ⟨v,hv,sv⟩:=YB hu (show 1<35 by decide);obtain ⟨kd,ek⟩:=ZtC (tu 1);rw [ek] at sv⊢;obtain rfl:v=.int .i64 kd:=sv;have ekd:(UC.n kd).num=kd:=rfl;rw [ekd];by_cases h4:k.name=Zn/\kd=3
 ·rw [if_pos (.inl h4)]
  have e0:l++Yy k.sec []=l:=List.append_nil l;rw [e0];exact Znh R B us fs l k kv w0 w hW hK e1 hsr er e2 kd hv (by rw [h4.1];decide) (by rw [h4.2];rfl)
 by_cases h5:k.name=Z7/\kd≠3
 ·rw [if_pos (.inr h5)]
  have e0:l++Yy k.sec []=l:=List.append_nil l;rw [e0];exact Zm7 R B us fs l k kv w0 w hW hK e1 hsr er e2 kd hv (by rw [h5.1];decide) (by rw [h5.1];decide) (beq_false_of_ne h5.2)
 rw [if_neg (fun h=>h.elim h4 h5)];have hr0:ZL k.name=0:=n64_;cases hkl:k.list with
 |true=>
  rw [if_pos rfl];have hn:=c7_.1 Zqh k hk;rw [hkl] at hn;simp only [Bool.not_true,Bool.false_or,Bool.and_eq_true,bne_iff_ne] at hn;exact ZoP R B us fs l k kv w0 w hW hK e1 hsr er e2 kd hv (beq_false_of_ne hn.1) (beq_false_of_ne hn.2) hkl _ (fun W hW2 hK2=>Zqn R B us fs u l k kv w0 W hW2 hM hP hK2 hk hkl hr0 h3 hl hu tu sm)
 |false=>
  rw [if_neg d_];have hc:=fun W hW2 hK2=>Zmx R B us fs u f l k kv w0 W hW2 hM hP hK2 hk hkl o_ hu hf tu tf sm
  by_cases hs:k.name=Zn
  ·exact ZnM R B us fs l k kv w0 w hW hK e1 hsr er e2 kd hv (by rw [hs];decide) (by rw [hs];decide) (beq_false_of_ne fun h=>h4 ⟨hs,h⟩) hkl _ hc
  ·by_cases hun:k.name=Z7
   ·have hk3:kd=3:=by
     cases hd:decide (kd=3) with
     |true=>exact of_decide_eq_true hd
     |false=>exact absurd ⟨hun,of_decide_eq_false hd⟩ h5
    exact ZnQ R B us fs l k kv w0 w hW hK e1 hsr er e2 kd hv (by rw [hun];decide) (by rw [hun];decide) (by rw [hk3];rfl) hkl _ hc
   ·exact Zoi R B us fs l k kv w0 w hW hK e1 hsr er e2 kd hv (beq_false_of_ne hs) (beq_false_of_ne hun) hkl _ hc
theorem m124_{p:Prop}(h:p:=by
  rcases List.mem_cons.1 hx with rfl|hx
  ·exact hP _ _ _ _ _ hy
  ·exact ih _ _ hr x hx):p:=h
theorem Zl1(r:Int):(Yg r).length<=1000:=by
 unfold Yg;split
 ·rw [List.getD_eq_getElem?_getD]
  cases hg:YR[(r-1).toNat]? with
  |none=>decide
  |some x=>
   have h0:(YR.all fun x=>decide (x.length<=1000))=true:=n1_;exact of_decide_eq_true (c7_.1 h0 x (List.mem_of_getElem? hg))
 ·decide
theorem Zd3(k:ZE)(hk:k∈Zc):k.name.length<=1000/\k.sec.length<=1000:=by
 have h0:(Zc.all fun k=>decide (k.name.length<=1000)&&decide (k.sec.length<=1000))=true:=n1_
 have:=c7_.1 h0 k hk
 simpa using this
theorem ZjI(b:Bool):(Qo b).length<=1000:=by cases b<;>decide
theorem Zta(u f:UV)(k:ZE)(hk:k∈Zc)(sm:Yt u):∀p∈YJ u f k,p.1.length<=1000/\p.2.length<=450000000:=by
 intro p hp;have hkn:=(Zd3 k hk).1;unfold YJ at hp;split at hp
 ·obtain ⟨r,hr,rfl⟩:=List.mem_map.1 hp
  exact ⟨Zl1 _,by have:=sm.rels r hr;show r.2.length<=_;omega⟩
 ·split at hp
  ·cases hp
  ·split at hp
   ·obtain ⟨q,hq,rfl⟩:=List.mem_map.1 hp
    exact ⟨hkn,Zh6 q (sm.prs q hq)⟩
   ·split at hp
    ·cases hp
    ·obtain ⟨s,hs,rfl⟩:=List.mem_map.1 hp
     refine ⟨hkn,?_⟩;show s.length<=_;split at hs
     ·unfold Qp at hs
      split at hs
      ·obtain ⟨c,hc,rfl⟩:=List.mem_map.1 hs
       exact (sm.cmds _ c hc).1
      ·split at hs
       ·obtain ⟨n,hn,rfl⟩:=List.mem_map.1 hs
        exact Ze9 k hk n (sm.nums _ n hn).1 (sm.nums _ n hn).2
       ·have:=sm.strs _ s hs
        omega
     ·unfold Qm at hs
      split at hs
      ·cases hs
      ·split at hs
       ·obtain rfl:=List.mem_singleton.1 hs
        have:=sm.str (Zb k.name)
        omega
       ·split at hs
        ·obtain rfl:=List.mem_singleton.1 hs
         have:=ZjI (u (Zb k.name)).bool
         omega
        ·obtain rfl:=List.mem_singleton.1 hs
         exact Ze9 k hk _ (sm.num _).1 (sm.num _).2
theorem Zm8(u:UV)(sm:Yt u):∀x∈ZbR u,x.sec.length<=1000/\x.key.length<=1000/\∃s,x.val=Yk s/\s.length<=450000000:=by
 intro x hx;obtain ⟨k,hk,hx⟩:=List.mem_flatMap.1 hx;obtain ⟨p,hp,rfl⟩:=List.mem_map.1 hx;have h:=Zta u _ k hk sm p hp;exact ⟨(Zd3 k hk).2,h.1,p.2,rfl,h.2⟩
theorem Zpa{P:Ln->Prop}(hP:∀s k v n m,P ⟨s,k,v,n⟩->P ⟨s,k,v,m⟩):∀(l:List Ln) (o:Option Str) (n:Nat),(∀x∈l,P x)->∀x∈Xt o l n,P x:=by
 intro l;induction l with
 |nil=>intro o n _ x hx;cases o<;>cases hx
 |cons y r ih=>
  intro o n h x hx;have hy:=h y (List.mem_cons_self ..);have hr:=fun x hx=>h x (List.mem_cons_of_mem _ hx)
  cases o with
  |none=>
   unfold Xt at hx;exact m124_
  |some s=>
   unfold Xt at hx;split at hx
   ·exact m124_
   ·exact m124_
theorem Zk5(u:UV)(sm:Yt u):∀x∈Qe u,x.sec.length<=1000/\x.key.length<=1000/\∃s,x.val=Yk s/\s.length<=450000000:=
 Zpa (P:=fun x=>x.sec.length<=1000/\x.key.length<=1000/\∃s,x.val=Yk s/\s.length<=450000000) (fun _ _ _ _ _ h=>h) _ _ _ (Zm8 u sm)
theorem Zm3(u:UV)(sm:Yt u)(nm:Str):∀x∈Qe u,x.val.length<=1000000000/\∀v,Qq x.val nm=.ok v->v.length<=500000000:=by
 intro x hx;obtain ⟨_,_,s,e,hs⟩:=Zk5 u sm x hx;rw [e];refine ⟨by have:=ZgV s;omega,fun v hv=>?_⟩;have hn:Zt nm≠0:=by
  intro h;unfold Qq at hv;rw [if_pos h] at hv;cases hv
 rw [Zq5 hn hv];omega
theorem ZhU(u:UV)(sm:Yt u):∀x∈Qe u,JY x:=by
 intro x hx;obtain ⟨h1,h2,s,e,hs⟩:=Zk5 u sm x hx;exact ⟨o_,o_,by rw [e];have:=ZgV s;omega⟩
theorem Zo0:∀(l:List Ln) (o:Option Str) (n:Nat),(Xt o l n).length=l.length:=by
 intro l;induction l with
 |nil=>intro o n;cases o<;>rfl
 |cons y r ih=>
  intro o n;cases o with
  |none=>simp [Xt,ih]
  |some s=>unfold Xt;split<;>simp [ih]
theorem Zdg(u:UV)(sm:Yt u):(Qe u).length<=2000000:=by
 unfold Qe;rw [Zo0];exact sm.few
theorem ZlL:∀(l:List Ln) (o:Option Str),(∀x∈l,x.sec.length<=20/\x.key.length+1+x.val.length<=400)->(Yq o l).length<=l.length*430:=by
 intro l;induction l with
 |nil=>intro o _;cases o<;>exact Nat.zero_le _
 |cons y r ih=>
  intro o h;have hy:=h y (List.mem_cons_self ..);have hr:=fun o=>ih o (fun x hx=>h x (List.mem_cons_of_mem _ hx))
  have h0:=hr (some y.sec);cases o with
  |none=>
   simp only [Yq,ZaP,ZbD,c5_,c14_,List.length_nil];omega
  |some s=>
   simp only [Yq,ZaP,ZbD,c5_,c14_,List.length_nil];split
   ·simp only [List.length_nil];omega
   ·simp only [c5_,c14_,List.length_nil];omega
theorem ZgB(k:ZE)(hk:k∈Zc):k.sec.length<=20:=by
 have h0:(Zc.all fun k=>decide (k.sec.length<=20))=true:=n1_;exact of_decide_eq_true (c7_.1 h0 k hk)
theorem ZsZ(u:UV):∀x∈Qe u,x.sec.length<=20:=by
 refine Zpa (P:=fun x=>x.sec.length<=20) (fun _ _ _ _ _ h=>h) _ _ _ ?_;intro x hx;obtain ⟨k,hk,hx⟩:=List.mem_flatMap.1 hx;obtain ⟨p,hp,rfl⟩:=List.mem_map.1 hx;exact ZgB k hk
theorem Zjk(u:UV)(sm:Yt u)(h:(Qe u).all YT=true):(Xj (Qe u)).length<=1000000000:=by
 have:=ZlL (Qe u) none (fun x hx=>⟨ZsZ u x hx,by
  have:=c7_.1 h x hx
  unfold YT at this;simp only [Bool.and_eq_true,decide_eq_true_eq] at this;exact this.2⟩)
 have:=Zdg u sm
 unfold Xj;omega
theorem ZnT{w:World}{oa:Option Addr}{l:List Ln}(h:ZG ZU 4 w oa l):ZaO w oa l:=by
 intro i hi;obtain ⟨b,o,e,_,hc⟩:=h i hi;exact ⟨b,o,e,hc 0 _ rfl,hc 1 _ rfl,hc 2 _ rfl,hc 3 _ rfl⟩
end Go.Proofs.YtmgmbeipbeknaaaGreatDoor
