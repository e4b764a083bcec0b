import Derived.Test.YtgoooebfhdbbkaaGreatDoorUM23
import Derived.Test.YtgoooebfhdbbkaaGreatDoorUM25
import Derived.Test.YtgoooebfhdbbkaaGreatDoorUM26
import Derived.Test.YtgoooebfhdbbkaaGreatDoorUM30
import Derived.Test.YtgoooebfhdbbkaaGreatDoorUM31
import Derived.Test.YtgoooebfhdbbkaaGreatDoorUM36
import Derived.Test.YtgoooebfhdbbkaaGreatDoorUM37
import Derived.Test.YtgoooebfhdbbkaaGreatDoorUM38
import Derived.Test.YtgoooebfhdbbkaaGreatDoorUM39
import Derived.Test.YtgoooebfhdbbkaaGreatDoorUM41
namespace Go.Proofs.YtgoooebfhdbbkaaGreatDoor
open Go.Proofs.Tryz
open Go Go.RowKit
set_option linter.unusedVariables false
set_option linter.unusedSimpArgs false
set_option maxHeartbeats 16000000
set_option maxRecDepth 100000
def Zq0(l:List Zbx)(o:Option Zbx):UC:=match o with|some c=>.cs (l++[c])|none=>.cs []
theorem Zqd(U j:Nat)(cs:Array Value)(F G:Nat->Prop)(l:List Zbx)(v:Value)(w:World)(hb:w.heap[U]?=some (.cells cs 30 (0,0)))(hv:Yg w F (.cs l) v)(hFU:¬F U)(hF:∀k,F k->k<w.heap.size)(hl:l.length<=1000000000)(x:Zdx)(c:Zbx)
  (hx:Zax w G x c) (hG:∀k,G k->k≠U/\k<w.heap.size) :
  ∃oa cap oa2 cap2 w4,v=.slice oa l.length cap/\(Builtin.append_ #[25,25] 25 #[v,.slice (some ⟨w.heap.size,0,none⟩) 1 1]).run prog (w.alloc (.cells #[.bool x.dash,.slice x.wa x.wn x.wc] 45))=.ok (.slice oa2 (l.length+1) cap2) w4/\w4.heap[U]?=some (.cells cs 30 (0,0))/\
   (∀b o T,w.heap[b]?=some (.cells o T (0,0))->T≠45\/¬F b->w4.heap[b]?=some (.cells o T (0,0)))/\Zh w (w4.setCell ⟨U,j,none⟩ (.slice oa2 (l.length+1) cap2)) U cs j (fun k=>F k\/G k) (.cs (l++[c])):=by
 obtain ⟨i0,hi0,hz0,hz1,hz2⟩:=info_parts ZkD;obtain ⟨xs,hxl,hown,hin,hcm⟩:=hv;rw [<-hxl] at hown;obtain ⟨oa,cap,rfl⟩:=ownsRow_form hown;have hbU:=Zg hb;obtain ⟨oa2,cap2,w4,hrun,hb4,hf4,hown4,hF4,hU4,hfo⟩:=Qn (P:=prog) 25 25 45 i0 (.agg #[.bool false,.slice none 0 0]) 2 32 underlying25 hi0 hz0 hz1 hz2 n19_ d_ hb hown hin hFU o_ d_ [.bool x.dash,.slice x.wa x.wn x.wc] rfl (by intro u hu;simp at hu;rcases hu with rfl|rfl<;>rfl);have hfw:Fr (fun k=>k=U\/(F k\/G k)) w w4:=hf4.mono (fun i hi h=>h.imp id .inl);have hown5:w4.ownsRow 0 45 2 (.slice oa2 (xs.length+1) cap2) (l++[c]).length (Zy ZjN (xs++[x])):=by
  rw [ZH,YX,List.length_append,<-hxl];exact hown4
 have hkeep:∀{y:Zdx} {d:Zbx} {H:Nat->Prop},Zax w H y d->Zax w4 H y d:=fun {y d H} h=>
  ⟨h.dash,h.wn,ZJ h.row hfo (fun g hg _=>own_ne h.row hown d_ g hg),h.inF⟩
 have hc4:Yg w4 (fun g=>(Value.slice oa2 (xs.length+1) cap2).ownBlock=some g\/(F g\/G g)) (.cs (l++[c])) (.slice oa2 (xs.length+1) cap2):=by
  refine ⟨xs++[x],by simp [hxl],hown5,fun g hg=>.inl hg,fun i h1 h2=>?_⟩;by_cases hi:i<xs.length
  ·rw [List.getElem_append_left hi,List.getElem_append_left o_]
   exact (hkeep (hcm i hi o_)).mono fun g hg=>.inr (.inl hg)
  ·have e1:i=xs.length:=by simp at h1;omega
   subst e1;rw [List.getElem_append_right l_,List.getElem_append_right o_];simp only [Nat.sub_self,List.getElem_cons_zero,hxl];exact (hkeep hx).mono fun g hg=>.inr (.inr hg)
 refine ⟨oa,cap,oa2,cap2,w4,by rw [hxl],by rw [<-hxl];exact hrun,hb4,fun b o T h hT=>?_,by
  rw [<-hxl];refine Zh.of_store hb4 rfl hfw hc4 (fun k hk=>?_) (fun h=>?_)
  ·rcases hk with hk|hk|hk
   ·exact ⟨(hF4 k hk).1.imp .inl id,(hF4 k hk).2⟩
   ·exact ⟨.inl (.inl hk),Nat.lt_of_lt_of_le (hF k hk) hfw.size⟩
   ·exact ⟨.inl (.inr hk),Nat.lt_of_lt_of_le (hG k hk).2 hfw.size⟩
  ·rcases h with h|h|h
   ·exact hU4 h
   ·exact hFU h
   ·exact (hG U h).1 rfl⟩
 have hne:(Value.slice oa xs.length cap).ownBlock≠some b:=fun e=>by
  rcases hT with hT|hT
  ·rcases hown.2 with ⟨h0,_⟩|⟨g,cap',cur,h1,_,h2,_⟩
   ·rw [h0] at e;simp [Value.ownBlock] at e
   ·rw [h1] at e
    simp only [Value.ownBlock,Option.some.injEq] at e;subst e;rw [h] at h2;injection h2 with h2;injection h2 with _ h3 _
    exact hT h3
  ·exact hT (hin _ e)
 rw [hfo.block _ (Zg h) hne];exact h
theorem Zne(U j:Nat)(cs:Array Value)(F:Nat->Prop)(l:List Zbx)(v:Value)(w:World)(hb:w.heap[U]?=some (.cells cs 30 (0,0)))(hj:cs[j]?=some v)(hv:Yg w F (.cs l) v)(hFU:¬F U)(hF:∀k,F k->k<w.heap.size)(sec key val:Str)(at_:Int)(hkey:key∈Jo)
  (hval:val.length<=100000000) (hl:l.length<=100000)
  (hT:ZaN key=none) (hC:XZ key=some j) (hS:ZaV key=none) (b0:(key==[83,117,99,99,101,115,115,69,120,105,116,83,116,97,116,117,115])=false) (b1:(key==[76,105,115,116,101,110,83,116,114,101,97,109])=false) (b2:(key==[69,110,118,105,114,111,110,109,101,110,116])=false) (b3:(key==[79,110,67,97,108,101,110,100,97,114])=false) :
  Calls prog 40 #[.pointer (some ⟨U,0,none⟩),.agg #[.string ⟨sec.toArray⟩,.string ⟨key.toArray⟩,.string ⟨val.toArray⟩,.int .i64 at_]] w fun e w'=>e=.returned (.tuple #[])/\Zh w w' U cs j F (Zq0 l (Xw val)):=by
 have hUl:=Zg hb;have hjs:j<cs.size:=(Array.getElem?_eq_some_iff.1 hj).1;obtain ⟨X,hX⟩:=e_ w.heap.size;have HTX:=h_ (fun W=>Jf U W key hkey);have HCX:=h_ (fun W=>X6 U W key hkey);have HSX:=h_ (fun W=>Je U W key hkey);rw [hT] at HTX;rw [hC] at HCX;rw [hS] at HSX;simp only [Option.map_some,Option.map_none] at HTX HCX HSX;have hB0:Below w.heap.size w (w.alloc (.cells #[.string ⟨sec.toArray⟩,.string ⟨key.toArray⟩,.string ⟨val.toArray⟩,.int .i64 at_] 41)):=b_.alloc l_ _;have hx0:=heap_alloc_new w (.cells #[.string ⟨sec.toArray⟩,.string ⟨key.toArray⟩,.string ⟨val.toArray⟩,.int .i64 at_] 41);have hwl:(Zc val).length<=100000001:=n43_;have hw0:val=[]->Zc val=[]:=fun h=>n81_
 have HBL:=h_ (ZN ⟨val.toArray⟩ ⟨#[32]⟩ (w.alloc (.cells #[.string ⟨sec.toArray⟩,.string ⟨key.toArray⟩,.string ⟨val.toArray⟩,.int .i64 at_] 41)) n26_ d_ (Zc val) (Yd [32] rfl val []));unfold YJ at HBL;obtain ⟨ws,hws⟩:=e_ (Zc val);rw [<-hws] at HBL hw0 hwl;(try rw [<-hws]);have HB0:=h_ hB0;have HX0:=h_ (show (w.alloc (.cells #[.string ⟨sec.toArray⟩,.string ⟨key.toArray⟩,.string ⟨val.toArray⟩,.int .i64 at_] 41)).heap[X]?=some (.cells #[.string ⟨sec.toArray⟩,.string ⟨key.toArray⟩,.string ⟨val.toArray⟩,.int .i64 at_] 41 (0,0)) by rw [hX];exact hx0);have HB:=h_ hb;have HV:=h_ hv;have HFU:=h_ hFU;have HF:=h_ hF;have HW0:=h_ hw0;have HXX:=h_ hX;have HJ:=h_ hj;have HT:=h_ hT;have HWS:=h_ hws;obtain ⟨c0,c1,c2,-⟩:=Ym hx0;clear hB0 hx0 hb hv hFU hF hT hC hS hw0 hj hws;go_enter func40,ntmps40;clear hX;go_wp2_with fail;refine HBL.out.mono ?_;rintro e w1 ⟨hb1,v1,rfl,hrow⟩;obtain ⟨ob,capb,rfl⟩:=ownsRow_form hrow;have hX:=HXX.out;rw [<-hX];have hB1:Below w.heap.size w w1:=HB0.out.trans (hb1.mono HB0.out.size);have hx1:=Za HX0.out hb1;have hbu:=Za HB.out hB1;have hv1:Yg w1 F _ v:=HV.out.fr (M:=fun _=>False) (Fr.of_below hB1 _) (fun _ _ e=>e);have hF1:∀k,F k->k<w1.heap.size:=fun k hk=>Nat.lt_of_lt_of_le (HF.out k hk) hB1.size
 have hsr:=Zj.of_own hrow;have hob:∀b o,ob=some (⟨b,o,none⟩:Addr)->w.heap.size<=b:=fun b o e=>by
  have h:=(hrow.lt b n100_).1
  have:=HB0.out.size
  omega
 have HSW:=h_ (fun V c (h:Zh w1 V U cs j F c)=>show Zj V ob ws from hsr.frM h.frame (fun b o e=>by
  have h1:=hob b o e;rintro (h|h)
  ·omega
  ·have:=HF.out b h;omega))
 have HXV:=h_ (fun V c (h:Zh w1 V U cs j F c)=>show V.heap[X]?=some (.cells #[.string ⟨sec.toArray⟩,.string ⟨key.toArray⟩,.string ⟨val.toArray⟩,.int .i64 at_] 41 (0,0)) from h.frame.heap hx1 (by
  rintro (h|h)
  ·omega
  ·have:=HF.out X h;omega))
 have HFIN:=h_ (fun V c (h:Zh w1 V U cs j F c)=>show Zh w V U cs j F c from Zh.below hB1 h);have HP0:=h_ (Zh.refl hbu HJ.out hv1 hF1);have HBU:=h_ hbu;have HF1:=h_ hF1;have HV1:=h_ hv1;have HJ1:=h_ HJ.out;obtain ⟨c0,c1,c2,-⟩:=Ym hx1;clear c0 hX hB1 hb1 hx1 hbu hv1 hF1 hsr hob hrow HB0 HX0 HBL HV HXX HB;go_wp2_with fail;refine (HTX.out _).mono ?_;rintro e w1 ⟨rfl,rfl⟩;go_wp2_with fail;refine (HCX.out _).mono ?_;rintro e w1 ⟨rfl,rfl⟩;obtain ⟨r,hr⟩:∃r,(Xw val).isSome=r:=⟨_,rfl⟩;have HEX:=h_ (fun W=>ZfQ val W o_ r hr);have HRR:=h_ hr;clear hr;go_wp2_with fail;refine (HEX.out _).mono ?_;rintro e w3 ⟨⟨xv,rfl,-,d,wa,wn,wc,rfl,hx⟩,hb3⟩;have hsz:=hb3.size;obtain ⟨EB,hEB⟩:=e_ w3.heap.size;have hb4:Below w1.heap.size w1 (w3.alloc (.cells #[.bool d,.slice wa wn wc] 45)):=hb3.alloc hsz _;have hbu:=Za HBU.out hb4;have hxe:=heap_alloc_new w3 (.cells #[.bool d,.slice wa wn wc] 45);have HBU4:=h_ hbu;have HXE:=h_ hxe;have HB4:=h_ hb4;have HB3:=h_ hb3;have HX:=h_ hx;have HSX:=HSX;clear hsz hb4 hbu hxe hb3 hx c1 c2;cases r with
 |false=>
  have HN:=h_ (show Xw val=none by have h:=HRR.out;cases he:Xw val with|none=>rfl|some c=>rw [he] at h;cases h);obtain ⟨_,f4,s4,c4⟩:=rd HBU4.out;have f40:=f4 j;have q4:=(rd HBU4.out).1 j;rw [HJ.out] at q4;have HP:=h_ (Zh.below HB4.out (Zh.of_store (j:=j) (F:=F) (F':=fun _=>False) (c:=.cs []) (v:=.slice none 0 0) HBU4.out rfl (Fr.refl _ _) ⟨[],rfl,World.ownsRow_nil _ _ _ _,(fun g hg=>by simp [Value.ownBlock] at hg),fun i h1 h2=>absurd h1 s_⟩ (fun k hk=>hk.elim) (fun e=>e)));clear f4 c4;obtain ⟨c0,c1,c2,-⟩:=Ym (HXV.out _ _ HP.out);clear c0;go_wp2_with fail;refine (HSX.out _).mono ?_;rintro e wq ⟨rfl,rfl⟩;go_wp2_with fail;go_end0;exact ⟨rfl,n111_⟩
 |true=>
  obtain ⟨c,hc⟩:∃c,Xw val=some c:=by
   have h:=HRR.out;cases he:Xw val with
   |none=>rw [he] at h;cases h
   |some c=>exact ⟨c,rfl⟩
  have HC:=h_ hc;clear hc;go_wp2_with fail;obtain ⟨hx1,hx2,hx3⟩:=HX.out c HC.out;have hB5:Below w1.heap.size w1 (w3.alloc (.cells #[.bool d,.slice wa wn wc] 45)).drew:=HB4.out.trans (Zb (a:=w3.alloc (.cells #[.bool d,.slice wa wn wc] 45)) ⟨1,rfl⟩);have hU5:(w3.alloc (.cells #[.bool d,.slice wa wn wc] 45)).drew.heap[U]?=some (.cells cs 30 (0,0)):=HBU4.out;have hE5:(w3.alloc (.cells #[.bool d,.slice wa wn wc] 45)).drew.heap[EB]?=some (.cells #[.bool d,.slice wa wn wc] 45 (0,0)):=by rw [hEB];exact HXE.out
  have hrow5:=Zp hx3 (((Below.refl w3.heap.size w3).alloc l_ (.cells #[.bool d,.slice wa wn wc] 45)).trans (show Below w3.heap.size (w3.alloc (.cells #[.bool d,.slice wa wn wc] 45)) (w3.alloc (.cells #[.bool d,.slice wa wn wc] 45)).drew from Zb ⟨1,rfl⟩));rw [<-hEB];have hEBl:w1.heap.size<=EB:=by rw [hEB];exact HB3.out.size
  have hP0:=HP0.out;refine Zi (S:=fun V=>V.heap[U]?=some (.cells cs 30 (0,0))/\V.heap[EB]?=some (.cells #[.bool d,.slice wa wn wc] 45 (0,0))) 7 k_ k_ (show _/\_ from ⟨hU5,hE5⟩) (fun hHeld=>?_);refine u_ ?_;generalize (w3.alloc (.cells #[.bool d,.slice wa wn wc] 45)).drew=w5 at *;obtain ⟨oa,cap,oa2,cap2,w6,rfl,hrun,hU6,hother,hPA⟩:=Zqd U j cs F (fun g=>w1.heap.size<=g/\g<w5.heap.size) l v w5 hU5 (HV1.out.fr (M:=fun _=>False) (Fr.of_below hB5 _) (fun _ _ e=>e)) HFU.out (fun k hk=>Nat.lt_of_lt_of_le (HF1.out k hk) hB5.size) o_ ⟨d,wa,wn,wc⟩ c ⟨hx1,hx2,by exact Qp hrow5 (Nat.zero_le _),fun g hg=>by
   have h1:=hrow5.lt g hg
   have:=HB3.out.size
   exact ⟨o_,h1.2⟩⟩ (fun k hk=>⟨by have:=Zg HBU.out;omega,hk.2⟩)
  have HP:=h_ (Zh.belowG hB5 (fun k hk=>hk.1) hPA);have hE6:=hother EB _ _ hE5 (.inr (fun h=>by have:=HF1.out EB h;omega));have HRUN:=h_ hrun;have hB8:Below w5.heap.size w5 (w5.alloc (.cells #[.bool d,.slice wa wn wc] 45)):=b_.alloc l_ _;have HS8:=h_ (And.intro (Za hU5 hB8) (Za hE5 hB8));have HS6:=h_ (And.intro hU6 hE6);clear hP0 hB5 hU5 hE5 hrow5 hrun hU6 hother hPA hE6 hB8 hx1 hx2 hx3 hEBl HV1 hEB;(iterate 5 refine dN_ 0 (gT_ rfl) (fun W hW=>by have q0:=((rd hW.1).1 j).trans HJ1.out;obtain ⟨q1,q2⟩:=YB hW.2;clear hW;go_simp;rfl) (u_ ?_));refine Zq (i:=5) (gT_ rfl) k_ k_ (fun K hK=>?_);clear hHeld;rw [if_pos n19_];go_simp;refine hK.out _ _ HS8.out (fun hHeld=>?_);clear hK K;refine u_ ?_;refine Zq (i:=6) (gT_ rfl) k_ k_ (fun K hK=>?_);clear hHeld;refine Yk n19_ (.tmp 70) (.tmp 72) 25 n19_ HRUN.out n19_ n19_ ?_;refine hK.out _ _ HS6.out (fun hHeld=>?_);clear hK K;refine u_ ?_;refine Zr k_ ?_;clear hHeld;obtain ⟨g1,f4,s4,_⟩:=rd HS6.out.1;have f40:=f4 j;have g10:=(g1 j).trans HJ1.out;clear g1 f4;obtain ⟨c0,c1,c2,-⟩:=Ym (HXV.out _ _ HP.out);clear c0;go_wp2_with fail;refine (HSX.out _).mono ?_;rintro e wq ⟨rfl,rfl⟩;go_wp2_with fail;go_end0;exact ⟨rfl,by rw [HC.out];exact HFIN.out _ _ HP.out⟩
theorem m149_{p:Prop}(h:p:=by have hk3:k=ws.length:=o_;subst hk3;rw [List.take_of_length_le (by rw [List.length_map];exact Nat.le_refl _)] at HP;go_wp2_with fail;go_end0;exact ⟨rfl,HFIN.out _ _ HP.out⟩):p:=h
theorem m150_{p:Prop}(h:p:=by
  clear g1 f4 hu4 hb2;go_wp2_with fail;go_roundg (gk-1)
  case measure=>omega
  case rel=>exact ⟨k+1,o_,n14_,o_,by rw [HSN.out];exact HP4⟩):p:=h
theorem m151_{p:Prop}(h:p:=by obtain ⟨rfl,hfu,HP2⟩:=hrel;clear HP c1 c2;go_wp2_with fail;go_end0;exact ⟨rfl,HFIN.out _ _ HP2.out⟩):p:=h
theorem m152_{p:Prop}(h:p:=by
  rcases (p4 U h).1 with h2|h2
  ·exact HFU.out h2
  ·have:=Zg HBU.out;omega):p:=h
theorem ZmV(U j:Nat)(cs:Array Value)(F:Nat->Prop)(l:List Int)(v:Value)(w:World)(hb:w.heap[U]?=some (.cells cs 30 (0,0)))(hj:cs[j]?=some v)(hv:Yg w F (.ns l) v)(hFU:¬F U)(hF:∀k,F k->k<w.heap.size)(sec key val:Str)(at_:Int)(hkey:key∈Jo)
  (hval:val.length<=100000000) (hl:l.length<=100000)
  (hkj:(key=[83,117,99,99,101,115,115,69,120,105,116,83,116,97,116,117,115]/\j=18)\/(key=[76,105,115,116,101,110,83,116,114,101,97,109]/\j=21)) :
  Calls prog 40 #[.pointer (some ⟨U,0,none⟩),.agg #[.string ⟨sec.toArray⟩,.string ⟨key.toArray⟩,.string ⟨val.toArray⟩,.int .i64 at_]] w fun e w'=>e=.returned (.tuple #[])/\Zh w w' U cs j F (.ns (Zbf (if val=[] then [] else l) ((Zc val).map Xc))):=by
 obtain ⟨i0,hi0,hz0,hz1,hz2⟩:=info_parts ZaF;obtain ⟨L0,hL0⟩:=e_ (if val=[] then [] else l);rw [<-hL0];have HL0:=h_ hL0;clear hL0;have hT:ZaN key=none:=by rcases hkj with ⟨rfl,rfl⟩|⟨rfl,rfl⟩<;>rfl
 have hC:XZ key=none:=by rcases hkj with ⟨rfl,rfl⟩|⟨rfl,rfl⟩<;>rfl
 have hS:ZaV key=none:=by rcases hkj with ⟨rfl,rfl⟩|⟨rfl,rfl⟩<;>rfl
 have HKJ:=h_ hkj;clear hkj;have hUl:=Zg hb;have hjs:j<cs.size:=(Array.getElem?_eq_some_iff.1 hj).1;obtain ⟨X,hX⟩:=e_ w.heap.size;have HTX:=h_ (fun W=>Jf U W key hkey);have HCX:=h_ (fun W=>X6 U W key hkey);have HSX:=h_ (fun W=>Je U W key hkey);rw [hT] at HTX;rw [hC] at HCX;rw [hS] at HSX;simp only [Option.map_some,Option.map_none] at HTX HCX HSX;have hB0:Below w.heap.size w (w.alloc (.cells #[.string ⟨sec.toArray⟩,.string ⟨key.toArray⟩,.string ⟨val.toArray⟩,.int .i64 at_] 41)):=b_.alloc l_ _;have hx0:=heap_alloc_new w (.cells #[.string ⟨sec.toArray⟩,.string ⟨key.toArray⟩,.string ⟨val.toArray⟩,.int .i64 at_] 41);have hwl:(Zc val).length<=100000001:=n43_;have hw0:val=[]->Zc val=[]:=fun h=>n81_
 have HBL:=h_ (ZN ⟨val.toArray⟩ ⟨#[32]⟩ (w.alloc (.cells #[.string ⟨sec.toArray⟩,.string ⟨key.toArray⟩,.string ⟨val.toArray⟩,.int .i64 at_] 41)) n26_ d_ (Zc val) (Yd [32] rfl val []));unfold YJ at HBL;obtain ⟨ws,hws⟩:=e_ (Zc val);rw [<-hws] at HBL hw0 hwl;(try rw [<-hws]);have HB0:=h_ hB0;have HX0:=h_ (show (w.alloc (.cells #[.string ⟨sec.toArray⟩,.string ⟨key.toArray⟩,.string ⟨val.toArray⟩,.int .i64 at_] 41)).heap[X]?=some (.cells #[.string ⟨sec.toArray⟩,.string ⟨key.toArray⟩,.string ⟨val.toArray⟩,.int .i64 at_] 41 (0,0)) by rw [hX];exact hx0);have HB:=h_ hb;have HV:=h_ hv;have HFU:=h_ hFU;have HF:=h_ hF;have HW0:=h_ hw0;have HXX:=h_ hX;have HJ:=h_ hj;have HT:=h_ hT;have HWS:=h_ hws;obtain ⟨c0,c1,c2,-⟩:=Ym hx0;clear hB0 hx0 hb hv hFU hF hT hC hS hw0 hj hws;go_enter func40,ntmps40;clear hX;go_wp2_with fail;refine HBL.out.mono ?_;rintro e w1 ⟨hb1,v1,rfl,hrow⟩;obtain ⟨ob,capb,rfl⟩:=ownsRow_form hrow;have hX:=HXX.out;rw [<-hX];have hB1:Below w.heap.size w w1:=HB0.out.trans (hb1.mono HB0.out.size);have hx1:=Za HX0.out hb1;have hbu:=Za HB.out hB1;have hv1:Yg w1 F _ v:=HV.out.fr (M:=fun _=>False) (Fr.of_below hB1 _) (fun _ _ e=>e);have hF1:∀k,F k->k<w1.heap.size:=fun k hk=>Nat.lt_of_lt_of_le (HF.out k hk) hB1.size
 have hsr:=Zj.of_own hrow;have hob:∀b o,ob=some (⟨b,o,none⟩:Addr)->w.heap.size<=b:=fun b o e=>by
  have h:=(hrow.lt b n100_).1
  have:=HB0.out.size
  omega
 have HSW:=h_ (fun V c (h:Zh w1 V U cs j F c)=>show Zj V ob ws from hsr.frM h.frame (fun b o e=>by
  have h1:=hob b o e;rintro (h|h)
  ·omega
  ·have:=HF.out b h;omega))
 have HXV:=h_ (fun V c (h:Zh w1 V U cs j F c)=>show V.heap[X]?=some (.cells #[.string ⟨sec.toArray⟩,.string ⟨key.toArray⟩,.string ⟨val.toArray⟩,.int .i64 at_] 41 (0,0)) from h.frame.heap hx1 (by
  rintro (h|h)
  ·omega
  ·have:=HF.out X h;omega))
 have HFIN:=h_ (fun V c (h:Zh w1 V U cs j F c)=>show Zh w V U cs j F c from Zh.below hB1 h);have HP0:=h_ (Zh.refl hbu HJ.out hv1 hF1);have HBU:=h_ hbu;have HF1:=h_ hF1;have HV1:=h_ hv1;have HJ1:=h_ HJ.out;obtain ⟨c0,c1,c2,-⟩:=Ym hx1;clear c0 hX hB1 hb1 hx1 hbu hv1 hF1 hsr hob hrow HB0 HX0 HBL HV HXX HB;go_wp2_with fail;refine (HTX.out _).mono ?_;rintro e w1 ⟨rfl,rfl⟩;go_wp2_with fail;refine (HCX.out _).mono ?_;rintro e w1 ⟨rfl,rfl⟩;go_wp2_with fail;refine (HSX.out _).mono ?_;rintro e w1 ⟨rfl,rfl⟩;rcases HKJ.out with ⟨hk1,hk2⟩|⟨hk1,hk2⟩
 ·subst hk1;subst hk2
  clear HKJ;by_cases hv0:val=[]
  ·subst hv0
   obtain rfl:ws=[]:=HW0.out rfl;obtain rfl:L0=[]:=n106_;have HP:=h_ (Zh.of_store (j:=18) (F:=F) (F':=fun _=>False) (c:=.ns []) (v:=.slice none 0 0) HBU.out rfl (Fr.refl _ _) ⟨World.ownsRow_nil _ _ _ _,fun g hg=>by simp [Value.ownBlock] at hg⟩ (fun k hk=>hk.elim) (fun e=>e));obtain ⟨g1,f4,s4,_⟩:=rd HBU.out;have f40:=f4 18;have q40:=(g1 18).trans HJ.out;clear f4 g1;go_wp2_with fail;go_loopg [121] 1 (fun f i wr=>i=.int .i64 0/\0<f/\Hid (Zh w1 wr U cs 18 F (.ns [])))
   case atStart=>exact ⟨rfl,o_,HP⟩
   case round=>
    exact m151_
  ·have hvb:(val==[])=false:=n18_
   obtain rfl:L0=l:=n123_;have hvb2:List.isEmpty val=false:=by simpa using hv0
   clear hv0;go_wp2_with fail;go_loopg [121] (ws.length+1) (fun f i wr=>∃k:Nat,k<=ws.length/\i=.int .i64 k/\ws.length-k<f/\Hid (Zh w1 wr U cs 18 F (.ns (((ws.map Xc).take k).foldl oneMore L0))))
   case atStart=>exact ⟨0,o_,rfl,o_,HP0⟩
   case round=>
    obtain ⟨k,hk,rfl,hfu,HP⟩:=hrel;clear HP0 c1 c2;by_cases hlt:k<ws.length
    ·obtain ⟨v1,F1,p1,p2,p3,p4⟩:=HP.out
     obtain ⟨L,hL⟩:=e_ (((ws.map Xc).take k).foldl oneMore L0);have hLn:L.length<=1000000000:=by rw [hL];have:=Qu ((ws.map Xc).take k) L0;rw [List.length_take,List.length_map] at this;omega
     rw [<-hL] at p2;obtain ⟨x,hx⟩:=e_ (ws[k]);have HSN:=h_ (show ((ws.map Xc).take (k+1)).foldl oneMore L0=oneMore L (Xc x) by rw [Za7 L0 (ws.map Xc) k (by rw [List.length_map];exact hlt),hL,hx,List.getElem_map]);obtain ⟨b2,o2,hob2,d0⟩:=(HSW.out _ _ HP.out) k hlt;subst hob2;rw [<-hx] at d0;have hU1:¬F1 U:=fun h=>by
      exact m152_
     have HNU:=h_ (fun W=>QV ⟨x.toArray⟩ W (Xc x) rfl);have hz:(k:Int)<(ws.length:Int):=o_;have HPP:=h_ (And.intro p1 (And.intro p2 (And.intro p3 p4)));have HU1:=h_ hU1;have HLN:=h_ hLn;have HVE:=h_ (Array.getElem?_setIfInBounds_self_of_lt (a:=v1) hjs);clear hL hx hLn p1 p2 p3 p4 hU1;go_wp2_with fail;refine Zi (S:=fun V=>V.heap[U]?=some (.cells (cs.setIfInBounds 18 v1) 30 (0,0))) 7 k_ k_ (by exact HPP.out.1) (fun hHeld=>?_);refine u_ ?_;(iterate 5 refine dN_ 0 (gT_ rfl) (fun W hW=>by have q0:=((rd hW).1 18).trans HVE.out;clear hW;go_simp;rfl) (u_ ?_));refine Zq (i:=5) (gT_ rfl) k_ k_ (fun K hK=>?_);clear hHeld;rw [if_pos n19_];go_simp;refine (HNU.out _).mono ?_;rintro e w3 ⟨rfl,hb3⟩;have hb2:Below wr.heap.size wr w3:=(show Below wr.heap.size wr wr.drew from Zb ⟨1,rfl⟩).trans hb3;refine hK.out _ _ (Za HPP.out.1 hb2) (fun hHeld=>?_);clear hK K;refine u_ ?_;refine Zq (i:=6) (gT_ rfl) k_ k_ (fun K hK=>?_);clear hHeld;rw [if_pos n19_];go_simp;have hv3:=HPP.out.2.1.fr (M:=fun _=>False) (Fr.of_below hb2 _) (fun _ _ e=>e);have hf3:∀k,F1 k->(F k\/w1.heap.size<=k)/\k<w3.heap.size:=fun k hk=>⟨(HPP.out.2.2.2 k hk).1,Nat.lt_of_lt_of_le (HPP.out.2.2.2 k hk).2 hb2.size⟩
     refine (ZhF U _ F1 L v1 (Xc x) w3 HLN.out (Za HPP.out.1 hb2) hv3 HU1.out (fun k hk=>(hf3 k hk).2)).mono ?_;rintro e w4 ⟨v4,rfl,hu4,hf4,F4,hc4,hF4,hU4⟩;obtain ⟨oa4,cap4,rfl⟩:=ownsRow_form hc4.1;have HP4:=h_ (Zh.trans' (HPP.out.2.2.1.trans (Fr.of_below hb2 _)) hf3 (Zh.of_store (j:=18) hu4 rfl hf4 hc4 hF4 hU4));clear hv3 hf3 hf4 hc4 hF4 hU4;refine hK.out _ _ hu4 (fun hHeld=>?_);clear hK K;refine u_ ?_;refine Zr k_ ?_;clear hHeld;obtain ⟨g1,f4,s4,_⟩:=rd hu4;have f40:=f4 18;have g10:=(g1 18).trans HVE.out;exact m150_
    ·exact m149_
 ·subst hk1;subst hk2
  clear HKJ;by_cases hv0:val=[]
  ·subst hv0
   obtain rfl:ws=[]:=HW0.out rfl;obtain rfl:L0=[]:=n106_;have HP:=h_ (Zh.of_store (j:=21) (F:=F) (F':=fun _=>False) (c:=.ns []) (v:=.slice none 0 0) HBU.out rfl (Fr.refl _ _) ⟨World.ownsRow_nil _ _ _ _,fun g hg=>by simp [Value.ownBlock] at hg⟩ (fun k hk=>hk.elim) (fun e=>e));obtain ⟨g1,f4,s4,_⟩:=rd HBU.out;have f40:=f4 21;have q40:=(g1 21).trans HJ.out;clear f4 g1;go_wp2_with fail;go_loopg [121] 1 (fun f i wr=>i=.int .i64 0/\0<f/\Hid (Zh w1 wr U cs 21 F (.ns [])))
   case atStart=>exact ⟨rfl,o_,HP⟩
   case round=>
    exact m151_
  ·have hvb:(val==[])=false:=n18_
   obtain rfl:L0=l:=n123_;have hvb2:List.isEmpty val=false:=by simpa using hv0
   clear hv0;go_wp2_with fail;go_loopg [121] (ws.length+1) (fun f i wr=>∃k:Nat,k<=ws.length/\i=.int .i64 k/\ws.length-k<f/\Hid (Zh w1 wr U cs 21 F (.ns (((ws.map Xc).take k).foldl oneMore L0))))
   case atStart=>exact ⟨0,o_,rfl,o_,HP0⟩
   case round=>
    obtain ⟨k,hk,rfl,hfu,HP⟩:=hrel;clear HP0 c1 c2;by_cases hlt:k<ws.length
    ·obtain ⟨v1,F1,p1,p2,p3,p4⟩:=HP.out
     obtain ⟨L,hL⟩:=e_ (((ws.map Xc).take k).foldl oneMore L0);have hLn:L.length<=1000000000:=by rw [hL];have:=Qu ((ws.map Xc).take k) L0;rw [List.length_take,List.length_map] at this;omega
     rw [<-hL] at p2;obtain ⟨x,hx⟩:=e_ (ws[k]);have HSN:=h_ (show ((ws.map Xc).take (k+1)).foldl oneMore L0=oneMore L (Xc x) by rw [Za7 L0 (ws.map Xc) k (by rw [List.length_map];exact hlt),hL,hx,List.getElem_map]);obtain ⟨b2,o2,hob2,d0⟩:=(HSW.out _ _ HP.out) k hlt;subst hob2;rw [<-hx] at d0;have hU1:¬F1 U:=fun h=>by
      exact m152_
     have HNU:=h_ (fun W=>QV ⟨x.toArray⟩ W (Xc x) rfl);have hz:(k:Int)<(ws.length:Int):=o_;have HPP:=h_ (And.intro p1 (And.intro p2 (And.intro p3 p4)));have HU1:=h_ hU1;have HLN:=h_ hLn;have HVE:=h_ (Array.getElem?_setIfInBounds_self_of_lt (a:=v1) hjs);clear hL hx hLn p1 p2 p3 p4 hU1;go_wp2_with fail;refine Zi (S:=fun V=>V.heap[U]?=some (.cells (cs.setIfInBounds 21 v1) 30 (0,0))) 7 k_ k_ (by exact HPP.out.1) (fun hHeld=>?_);refine u_ ?_;(iterate 5 refine dN_ 0 (gT_ rfl) (fun W hW=>by have q0:=((rd hW).1 21).trans HVE.out;clear hW;go_simp;rfl) (u_ ?_));refine Zq (i:=5) (gT_ rfl) k_ k_ (fun K hK=>?_);clear hHeld;rw [if_pos n19_];go_simp;refine (HNU.out _).mono ?_;rintro e w3 ⟨rfl,hb3⟩;have hb2:Below wr.heap.size wr w3:=(show Below wr.heap.size wr wr.drew from Zb ⟨1,rfl⟩).trans hb3;refine hK.out _ _ (Za HPP.out.1 hb2) (fun hHeld=>?_);clear hK K;refine u_ ?_;refine Zq (i:=6) (gT_ rfl) k_ k_ (fun K hK=>?_);clear hHeld;rw [if_pos n19_];go_simp;have hv3:=HPP.out.2.1.fr (M:=fun _=>False) (Fr.of_below hb2 _) (fun _ _ e=>e);have hf3:∀k,F1 k->(F k\/w1.heap.size<=k)/\k<w3.heap.size:=fun k hk=>⟨(HPP.out.2.2.2 k hk).1,Nat.lt_of_lt_of_le (HPP.out.2.2.2 k hk).2 hb2.size⟩
     refine (ZhF U _ F1 L v1 (Xc x) w3 HLN.out (Za HPP.out.1 hb2) hv3 HU1.out (fun k hk=>(hf3 k hk).2)).mono ?_;rintro e w4 ⟨v4,rfl,hu4,hf4,F4,hc4,hF4,hU4⟩;obtain ⟨oa4,cap4,rfl⟩:=ownsRow_form hc4.1;have HP4:=h_ (Zh.trans' (HPP.out.2.2.1.trans (Fr.of_below hb2 _)) hf3 (Zh.of_store (j:=21) hu4 rfl hf4 hc4 hF4 hU4));clear hv3 hf3 hf4 hc4 hF4 hU4;refine hK.out _ _ hu4 (fun hHeld=>?_);clear hK K;refine u_ ?_;refine Zr k_ ?_;clear hHeld;obtain ⟨g1,f4,s4,_⟩:=rd hu4;have f40:=f4 21;have g10:=(g1 21).trans HVE.out;exact m150_
    ·exact m149_
theorem m153_{p:Prop}(h:p:=by clear g1 f4;go_wp2_with fail;go_end0;exact ⟨rfl,HFIN.out _ _ HP.out⟩):p:=h
theorem Zm4(U j:Nat)(cs:Array Value)(F:Nat->Prop)(l:List Str)(v:Value)(w:World)(hb:w.heap[U]?=some (.cells cs 30 (0,0)))(hj:cs[j]?=some v)(hv:Yg w F (.ss l) v)(hFU:¬F U)(hF:∀k,F k->k<w.heap.size)(sec key val:Str)(at_:Int)(hkey:key∈Jo)
  (hval:val.length<=100000000) (hl:l.length<=100000)
  (hkj:key=[79,110,67,97,108,101,110,100,97,114]/\j=28) :
  Calls prog 40 #[.pointer (some ⟨U,0,none⟩),.agg #[.string ⟨sec.toArray⟩,.string ⟨key.toArray⟩,.string ⟨val.toArray⟩,.int .i64 at_]] w fun e w'=>e=.returned (.tuple #[])/\Zh w w' U cs j F (if val=[] then .ss [] else .ss (l++[val])):=by
 obtain ⟨rfl,rfl⟩:=hkj;have hT:ZaN [79,110,67,97,108,101,110,100,97,114]=none:=rfl;have hC:XZ [79,110,67,97,108,101,110,100,97,114]=none:=rfl;have hS:ZaV [79,110,67,97,108,101,110,100,97,114]=none:=rfl;obtain ⟨i0,hi0,hz0,hz1,hz2⟩:=info_parts Zd4;obtain ⟨CN,hCN⟩:∃CN:UC,CN=if val=[] then .ss [] else .ss (l++[val]):=⟨_,rfl⟩
 rw [<-hCN];have HCN:=h_ hCN;clear hCN;have hUl:=Zg hb;have hjs:28<cs.size:=(Array.getElem?_eq_some_iff.1 hj).1;obtain ⟨X,hX⟩:=e_ w.heap.size;have HTX:=h_ (fun W=>Jf U W [79,110,67,97,108,101,110,100,97,114] hkey);have HCX:=h_ (fun W=>X6 U W [79,110,67,97,108,101,110,100,97,114] hkey);have HSX:=h_ (fun W=>Je U W [79,110,67,97,108,101,110,100,97,114] hkey);rw [hT] at HTX;rw [hC] at HCX;rw [hS] at HSX;simp only [Option.map_some,Option.map_none] at HTX HCX HSX;have hB0:Below w.heap.size w (w.alloc (.cells #[.string ⟨sec.toArray⟩,.string ⟨[79,110,67,97,108,101,110,100,97,114].toArray⟩,.string ⟨val.toArray⟩,.int .i64 at_] 41)):=b_.alloc l_ _;have hx0:=heap_alloc_new w (.cells #[.string ⟨sec.toArray⟩,.string ⟨[79,110,67,97,108,101,110,100,97,114].toArray⟩,.string ⟨val.toArray⟩,.int .i64 at_] 41);have hwl:(Zc val).length<=100000001:=n43_;have hw0:val=[]->Zc val=[]:=fun h=>n81_
 have HBL:=h_ (ZN ⟨val.toArray⟩ ⟨#[32]⟩ (w.alloc (.cells #[.string ⟨sec.toArray⟩,.string ⟨[79,110,67,97,108,101,110,100,97,114].toArray⟩,.string ⟨val.toArray⟩,.int .i64 at_] 41)) n26_ d_ (Zc val) (Yd [32] rfl val []));unfold YJ at HBL;obtain ⟨ws,hws⟩:=e_ (Zc val);rw [<-hws] at HBL hw0 hwl;(try rw [<-hws]);have HB0:=h_ hB0;have HX0:=h_ (show (w.alloc (.cells #[.string ⟨sec.toArray⟩,.string ⟨[79,110,67,97,108,101,110,100,97,114].toArray⟩,.string ⟨val.toArray⟩,.int .i64 at_] 41)).heap[X]?=some (.cells #[.string ⟨sec.toArray⟩,.string ⟨[79,110,67,97,108,101,110,100,97,114].toArray⟩,.string ⟨val.toArray⟩,.int .i64 at_] 41 (0,0)) by rw [hX];exact hx0);have HB:=h_ hb;have HV:=h_ hv;have HFU:=h_ hFU;have HF:=h_ hF;have HW0:=h_ hw0;have HXX:=h_ hX;have HJ:=h_ hj;have HT:=h_ hT;have HWS:=h_ hws;obtain ⟨c0,c1,c2,-⟩:=Ym hx0;clear hB0 hx0 hb hv hFU hF hT hC hS hw0 hj hws;go_enter func40,ntmps40;clear hX;go_wp2_with fail;refine HBL.out.mono ?_;rintro e w1 ⟨hb1,v1,rfl,hrow⟩;obtain ⟨ob,capb,rfl⟩:=ownsRow_form hrow;have hX:=HXX.out;rw [<-hX];have hB1:Below w.heap.size w w1:=HB0.out.trans (hb1.mono HB0.out.size);have hx1:=Za HX0.out hb1;have hbu:=Za HB.out hB1;have hv1:Yg w1 F _ v:=HV.out.fr (M:=fun _=>False) (Fr.of_below hB1 _) (fun _ _ e=>e);have hF1:∀k,F k->k<w1.heap.size:=fun k hk=>Nat.lt_of_lt_of_le (HF.out k hk) hB1.size
 have hsr:=Zj.of_own hrow;have hob:∀b o,ob=some (⟨b,o,none⟩:Addr)->w.heap.size<=b:=fun b o e=>by
  have h:=(hrow.lt b n100_).1
  have:=HB0.out.size
  omega
 have HSW:=h_ (fun V c (h:Zh w1 V U cs 28 F c)=>show Zj V ob ws from hsr.frM h.frame (fun b o e=>by
  have h1:=hob b o e;rintro (h|h)
  ·omega
  ·have:=HF.out b h;omega))
 have HXV:=h_ (fun V c (h:Zh w1 V U cs 28 F c)=>show V.heap[X]?=some (.cells #[.string ⟨sec.toArray⟩,.string ⟨[79,110,67,97,108,101,110,100,97,114].toArray⟩,.string ⟨val.toArray⟩,.int .i64 at_] 41 (0,0)) from h.frame.heap hx1 (by
  rintro (h|h)
  ·omega
  ·have:=HF.out X h;omega))
 have HFIN:=h_ (fun V c (h:Zh w1 V U cs 28 F c)=>show Zh w V U cs 28 F c from Zh.below hB1 h);have HP0:=h_ (Zh.refl hbu HJ.out hv1 hF1);have HBU:=h_ hbu;have HF1:=h_ hF1;have HV1:=h_ hv1;have HJ1:=h_ HJ.out;obtain ⟨c0,c1,c2,-⟩:=Ym hx1;have HXW:=h_ (show w.heap.size<=X by omega);clear c0 hX hB1 hb1 hx1 hbu hv1 hF1 hsr hob hrow HB0 HX0 HBL HV HXX HB;go_wp2_with fail;refine (HTX.out _).mono ?_;rintro e w1 ⟨rfl,rfl⟩;go_wp2_with fail;refine (HCX.out _).mono ?_;rintro e w1 ⟨rfl,rfl⟩;go_wp2_with fail;refine (HSX.out _).mono ?_;rintro e w1 ⟨rfl,rfl⟩;obtain ⟨g1,f4,s4,_⟩:=rd HBU.out;have f40:=f4 28;have q40:=(g1 28).trans HJ.out;by_cases hv0:val=[]
 ·subst hv0
  obtain rfl:CN=.ss []:=by rw [HCN.out,if_pos rfl]
  have HP:=h_ (Zh.of_store (w:=w1) (j:=28) (F:=F) (F':=fun _=>False) (c:=.ss []) (v:=.slice none 0 0) HBU.out rfl (Fr.refl _ _) ⟨World.ownsRow_nil _ _ _ _,fun g hg=>by simp [Value.ownBlock] at hg⟩ (fun k hk=>hk.elim) (fun e=>e));exact m153_
 ·have hvb:(val==[])=false:=n18_
  obtain rfl:CN=.ss (l++[val]):=by rw [HCN.out,if_neg hv0]
  have hvb2:List.isEmpty val=false:=by simpa using hv0
  have hX5:=HXV.out _ _ HP0.out;clear hv0 g1 f4;go_wp2_with fail;refine Zi (S:=fun V=>V.heap[U]?=some (.cells cs 30 (0,0))/\V.heap[X]?=some (.cells #[.string ⟨sec.toArray⟩,.string ⟨[79,110,67,97,108,101,110,100,97,114].toArray⟩,.string ⟨val.toArray⟩,.int .i64 at_] 41 (0,0))) 9 k_ k_ (show _/\_ from ⟨HBU.out,hX5⟩) (fun hHeld=>?_);refine u_ ?_;obtain ⟨hown,hin⟩:=HV1.out;obtain ⟨oa,cap,rfl⟩:=ownsRow_form hown;have hb5:Below w1.heap.size w1 w1.drew:=Zb ⟨1,rfl⟩;obtain ⟨oa3,cap3,w6,hrun,hb6,hf6,hown6,hF6,hU6,hfo⟩:=Qn (P:=prog) (w:=w1.drew) 28 28 9 i0 (.string ⟨#[]⟩) 1 16 underlying28 hi0 hz0 hz1 hz2 n19_ d_ HBU.out (Zp hown hb5) hin HFU.out o_ d_ [.string ⟨val.toArray⟩] rfl n47_;have HRUN:=h_ hrun;have hc6:Yg w6 (fun g=>(Value.slice oa3 (l.length+1) cap3).ownBlock=some g) (.ss (l++[val])) (.slice oa3 (l.length+1) cap3):=⟨by rw [Zm,List.length_append];exact hown6,fun g hg=>hg⟩;have HP:=h_ (Zh.below hb5 (Zh.of_store (j:=28) hb6 rfl hf6 hc6 hF6 hU6));have hX6:w6.heap[X]?=some (.cells #[.string ⟨sec.toArray⟩,.string ⟨[79,110,67,97,108,101,110,100,97,114].toArray⟩,.string ⟨val.toArray⟩,.int .i64 at_] 41 (0,0)):=by
   rw [hfo.block X (Zg hX5) (fun e=>by
    have h1:=hin X e;have h2:=HF.out X h1
    have:=HXW.out
    omega)]
   exact hX5
  have hB8:Below w1.heap.size w1 (w1.drew.alloc (.cells #[.string ⟨val.toArray⟩] 9)):=hb5.alloc hb5.size _;have HS8:=h_ (And.intro (Za HBU.out hB8) (Za hX5 hB8));have HS6:=h_ (And.intro hb6 hX6);clear hb5 hrun hb6 hf6 hown6 hF6 hU6 hfo hc6 hX6 hB8 hX5 hown hin;(iterate 7 refine dN_ 0 (gT_ rfl) (fun W hW=>by have q0:=((rd hW.1).1 28).trans HJ1.out;obtain ⟨r0,r1,r2,-⟩:=Ym hW.2;clear hW;go_simp;rfl) (u_ ?_));refine Zq (i:=7) (gT_ rfl) k_ k_ (fun K hK=>?_);clear hHeld;rw [if_pos n19_];go_simp;refine hK.out _ _ HS8.out (fun hHeld=>?_);clear hK K;refine u_ ?_;refine Zq (i:=8) (gT_ rfl) k_ k_ (fun K hK=>?_);clear hHeld;refine Yk n19_ (.tmp 169) (.tmp 172) 28 n19_ HRUN.out n19_ n19_ ?_;refine hK.out _ _ HS6.out (fun hHeld=>?_);clear hK K;refine u_ ?_;refine Zr k_ ?_;clear hHeld;obtain ⟨g1,f4,s4,_⟩:=rd HS6.out.1;have f41:=f4 28;have g10:=(g1 28).trans HJ1.out;exact m153_
theorem Zrt:∀k∈Zx,k.list=true->Y6 k.name=0->k.name∈Jo/\Zt k.name<35:=n12_
theorem ZrL:∀k∈Zx,k.list=true->Y6 k.name=0->(
  (ZbM k.name=1/\(ZaN k.name=some (Zt k.name)/\XZ k.name=none/\ZaV k.name=none)/\(ZV (Zt k.name)).tag=3/\(k.name==[83,117,99,99,101,115,115,69,120,105,116,83,116,97,116,117,115])=false/\(k.name==[76,105,115,116,101,110,83,116,114,101,97,109])=false/\(k.name==[69,110,118,105,114,111,110,109,101,110,116])=false/\(k.name==[79,110,67,97,108,101,110,100,97,114])=false)\/
  (ZbM k.name=2/\(ZaN k.name=none/\XZ k.name=some (Zt k.name)/\ZaV k.name=none)/\(ZV (Zt k.name)).tag=6/\(k.name==[83,117,99,99,101,115,115,69,120,105,116,83,116,97,116,117,115])=false/\(k.name==[76,105,115,116,101,110,83,116,114,101,97,109])=false/\(k.name==[69,110,118,105,114,111,110,109,101,110,116])=false/\(k.name==[79,110,67,97,108,101,110,100,97,114])=false)\/
  (ZbM k.name=3/\(ZaN k.name=none/\XZ k.name=none/\ZaV k.name=some (Zt k.name))/\(ZV (Zt k.name)).tag=4/\(k.name==[83,117,99,99,101,115,115,69,120,105,116,83,116,97,116,117,115])=false/\(k.name==[76,105,115,116,101,110,83,116,114,101,97,109])=false/\(k.name==[69,110,118,105,114,111,110,109,101,110,116])=false/\(k.name==[79,110,67,97,108,101,110,100,97,114])=false)\/
  (ZbM k.name=4/\((k.name=[83,117,99,99,101,115,115,69,120,105,116,83,116,97,116,117,115]/\Zt k.name=18)\/(k.name=[76,105,115,116,101,110,83,116,114,101,97,109]/\Zt k.name=21))/\(ZV (Zt k.name)).tag=4)\/
  (ZbM k.name=5/\(k.name=[69,110,118,105,114,111,110,109,101,110,116]/\Zt k.name=19)/\(ZV (Zt k.name)).tag=7)\/
  (ZbM k.name=6/\(k.name=[79,110,67,97,108,101,110,100,97,114]/\Zt k.name=28)/\(ZV (Zt k.name)).tag=3)):=n12_
theorem Zrr:∀k∈Zx,k.list=false->Y6 k.name=0->(k.name,Zt k.name)∈Zgg:=n12_
theorem Zna(U:Nat)(cs:Array Value)(F:Nat->Nat->Prop)(u:UV)(w:World)(hU:YL w U cs F u)(hT:Z9 u)(hlen:∀j,(u j).len<=100000)(k:Yn)(hk:k∈Zx)(hl:k.list=true)(hr:Y6 k.name=0)(sec val:Str)(at_:Int)(hval:val.length<=100000000) :
  Calls prog 40 #[.pointer (some ⟨U,0,none⟩),.agg #[.string ⟨sec.toArray⟩,.string ⟨k.name.toArray⟩,.string ⟨val.toArray⟩,.int .i64 at_]] w fun e w'=>e=.returned (.tuple #[])/\Zh w w' U cs (Zt k.name) (F (Zt k.name)) (ZeD k.name val (u (Zt k.name))):=by
 obtain ⟨hkey,hj⟩:=Zrt k hk hl hr;have hc:=ZrL k hk hl hr;have hty:=hT (Zt k.name);have hln:=hlen (Zt k.name);obtain ⟨j,hjj⟩:=e_ (Zt k.name);obtain ⟨key,hke⟩:=e_ k.name;rw [<-hjj,<-hke] at hc;rw [<-hjj] at hty hj hln⊢;rw [<-hke] at hkey⊢;clear hjj hke hk hl hr;have hjv:cs[j]?=some (cs[j]' n115_):=Array.getElem?_eq_getElem n115_;have hv:=hU.fld j _ hjv;have hFU:=hU.notU j;have hF:∀k,F j k->k<w.heap.size:=fun k h=>(hU.lt j k h).2
 generalize cs[j]' n115_=v at *;generalize u j=c at *;unfold ZeD;rcases hc with ⟨c1,⟨a1,a2,a3⟩,t1,n0,n1,n2,n3⟩|⟨c1,⟨a1,a2,a3⟩,t1,n0,n1,n2,n3⟩|⟨c1,⟨a1,a2,a3⟩,t1,n0,n1,n2,n3⟩|⟨c1,a1,t1⟩|⟨c1,a1,t1⟩|⟨c1,a1,t1⟩<;>rw [c1]<;>rw [t1] at hty
 ·obtain ⟨l,rfl⟩:=Zgq hty
  exact Znf U j cs (F j) l v w hU.box hjv hv hFU hF sec key val at_ hkey hval hln a1 a2 a3 n0 n1 n2 n3
 ·obtain ⟨l,rfl⟩:=Zk4 hty
  exact Zne U j cs (F j) l v w hU.box hjv hv hFU hF sec key val at_ hkey hval hln a1 a2 a3 n0 n1 n2 n3
 ·obtain ⟨l,rfl⟩:=ZfV hty
  exact ZmX U j cs (F j) l v w hU.box hjv hv hFU hF sec key val at_ hkey hval hln a1 a2 a3 n0 n1 n2 n3
 ·obtain ⟨l,rfl⟩:=ZfV hty
  exact ZmV U j cs (F j) l v w hU.box hjv hv hFU hF sec key val at_ hkey hval hln a1
 ·obtain ⟨l,rfl⟩:=Zl3 hty
  exact ZnH U j cs (F j) l v w hU.box hjv hv hFU hF sec key val at_ hkey hval hln a1
 ·obtain ⟨l,rfl⟩:=Zgq hty
  exact Zm4 U j cs (F j) l v w hU.box hjv hv hFU hF sec key val at_ hkey hval hln a1
end Go.Proofs.YtgoooebfhdbbkaaGreatDoor
