import Derived.Test.YtgoooebfhdbbkaaGreatDoorUM1
import Derived.Test.YtgoooebfhdbbkaaGreatDoorUM22
import Derived.Test.YtgoooebfhdbbkaaGreatDoorUM23
import Derived.Test.YtgoooebfhdbbkaaGreatDoorUM25
import Derived.Test.YtgoooebfhdbbkaaGreatDoorUM30
import Derived.Test.YtgoooebfhdbbkaaGreatDoorUM31
import Derived.Test.YtgoooebfhdbbkaaGreatDoorUM32
import Derived.Test.YtgoooebfhdbbkaaGreatDoorUM36
import Derived.Test.YtgoooebfhdbbkaaGreatDoorUM37
namespace Go.Proofs.YtgoooebfhdbbkaaGreatDoor
open Go.Proofs.Tryz
open Go Go.RowKit
set_option linter.unusedVariables false
set_option linter.unusedSimpArgs false
set_option maxHeartbeats 16000000
set_option maxRecDepth 100000
theorem m98_{p:Prop}(h:p:=by go_wp2_with fail;go_ret;exact ⟨rfl,rfl⟩):p:=h
def Jo:List Str:=[[83,111,99,107,101,116,115],[87,97,110,116,101,100,66,121],[82,101,113,117,105,114,101,100,66,121],[65,108,105,97,115],[65,108,115,111],[69,120,101,99,83,116,97,114,116,80,114,101],[69,120,101,99,83,116,97,114,116],[69,120,101,99,83,116,97,114,116,80,111,115,116],[69,120,101,99,83,116,111,112],[69,120,101,99,82,101,108,111,97,100],[79,110,66,111,111,116,83,101,99],[79,110,65,99,116,105,118,101,83,101,99],[79,110,85,110,105,116,73,110,97,99,116,105,118,101,83,101,99],[83,117,99,99,101,115,115,69,120,105,116,83,116,97,116,117,115],[76,105,115,116,101,110,83,116,114,101,97,109],[69,110,118,105,114,111,110,109,101,110,116],[79,110,67,97,108,101,110,100,97,114]]
def ZaN(s:Str):Option Nat:=([([83,111,99,107,101,116,115],20),([87,97,110,116,101,100,66,121],30),([82,101,113,117,105,114,101,100,66,121],31),([65,108,105,97,115],32),([65,108,115,111],33)]:List (Str×Nat)).lookup s
theorem Jf(U:Nat)(w:World):∀s∈Jo,Calls prog 81 #[.pointer (some ⟨U,0,none⟩),.string ⟨s.toArray⟩] w fun e w'=>e=.returned (.pointer ((ZaN s).map fun j=>⟨U,j,none⟩))/\w'=w:=by
 intro s hs;simp only [Jo,List.mem_cons,List.not_mem_nil,or_false] at hs;rcases hs with rfl|rfl|rfl|rfl|rfl|rfl|rfl|rfl|rfl|rfl|rfl|rfl|rfl|rfl|rfl|rfl|rfl
 all_goals
  go_enter func81,ntmps81;exact m98_
def XZ(s:Str):Option Nat:=([([69,120,101,99,83,116,97,114,116,80,114,101],8),([69,120,101,99,83,116,97,114,116],9),([69,120,101,99,83,116,97,114,116,80,111,115,116],10),([69,120,101,99,83,116,111,112],11),([69,120,101,99,82,101,108,111,97,100],12)]:List (Str×Nat)).lookup s
theorem X6(U:Nat)(w:World):∀s∈Jo,Calls prog 83 #[.pointer (some ⟨U,0,none⟩),.string ⟨s.toArray⟩] w fun e w'=>e=.returned (.pointer ((XZ s).map fun j=>⟨U,j,none⟩))/\w'=w:=by
 intro s hs;simp only [Jo,List.mem_cons,List.not_mem_nil,or_false] at hs;rcases hs with rfl|rfl|rfl|rfl|rfl|rfl|rfl|rfl|rfl|rfl|rfl|rfl|rfl|rfl|rfl|rfl|rfl
 all_goals
  go_enter func83,ntmps83;exact m98_
def ZaV(s:Str):Option Nat:=([([79,110,66,111,111,116,83,101,99],25),([79,110,65,99,116,105,118,101,83,101,99],26),([79,110,85,110,105,116,73,110,97,99,116,105,118,101,83,101,99],27)]:List (Str×Nat)).lookup s
theorem Je(U:Nat)(w:World):∀s∈Jo,Calls prog 85 #[.pointer (some ⟨U,0,none⟩),.string ⟨s.toArray⟩] w fun e w'=>e=.returned (.pointer ((ZaV s).map fun j=>⟨U,j,none⟩))/\w'=w:=by
 intro s hs;simp only [Jo,List.mem_cons,List.not_mem_nil,or_false] at hs;rcases hs with rfl|rfl|rfl|rfl|rfl|rfl|rfl|rfl|rfl|rfl|rfl|rfl|rfl|rfl|rfl|rfl|rfl
 all_goals
  go_enter func85,ntmps85;exact m98_
theorem m112_{p:Prop}(h:p:=by obtain ⟨c0,c1,c2,-⟩:=Ym (HXV.out _ _ HP.out);clear c0;go_wp2_with fail;refine (HCX.out _).mono ?_;rintro e wq ⟨rfl,rfl⟩;go_wp2_with fail;refine (HSX.out _).mono ?_;rintro e wq ⟨rfl,rfl⟩;go_wp2_with fail;go_end0;exact ⟨rfl,HFIN.out _ _ HP.out⟩):p:=h
theorem Znf(U j:Nat)(cs:Array Value)(F:Nat->Prop)(l:List Str)(v:Value)(w:World)(hb:w.heap[U]?=some (.cells cs 30 (0,0)))(hj:cs[j]?=some v)(hv:Yg w F (.ss l) v)(hFU:¬F U)(hF:∀k,F k->k<w.heap.size)(sec key val:Str)(at_:Int)(hkey:key∈Jo)
  (hval:val.length<=100000000) (hl:l.length<=100000)
  (hT:ZaN key=some j) (hC:XZ key=none) (hS:ZaV key=none) (b0:(key==[83,117,99,99,101,115,115,69,120,105,116,83,116,97,116,117,115])=false) (b1:(key==[76,105,115,116,101,110,83,116,114,101,97,109])=false) (b2:(key==[69,110,118,105,114,111,110,109,101,110,116])=false) (b3:(key==[79,110,67,97,108,101,110,100,97,114])=false) :
  Calls prog 40 #[.pointer (some ⟨U,0,none⟩),.agg #[.string ⟨sec.toArray⟩,.string ⟨key.toArray⟩,.string ⟨val.toArray⟩,.int .i64 at_]] w fun e w'=>e=.returned (.tuple #[])/\Zh w w' U cs j F (.ss (Zbf (if val=[] then [] else l) (Zc val))):=by
 obtain ⟨i0,hi0,hz0,hz1,hz2⟩:=info_parts Zd4;obtain ⟨L0,hL0⟩:=e_ (if val=[] then [] else l);rw [<-hL0];have HL0:=h_ hL0;clear hL0;have hUl:=Zg hb;have hjs:j<cs.size:=(Array.getElem?_eq_some_iff.1 hj).1;obtain ⟨X,hX⟩:=e_ w.heap.size;have HTX:=h_ (fun W=>Jf U W key hkey);have HCX:=h_ (fun W=>X6 U W key hkey);have HSX:=h_ (fun W=>Je U W key hkey);rw [hT] at HTX;rw [hC] at HCX;rw [hS] at HSX;simp only [Option.map_some,Option.map_none] at HTX HCX HSX;have hB0:Below w.heap.size w (w.alloc (.cells #[.string ⟨sec.toArray⟩,.string ⟨key.toArray⟩,.string ⟨val.toArray⟩,.int .i64 at_] 41)):=b_.alloc l_ _;have hx0:=heap_alloc_new w (.cells #[.string ⟨sec.toArray⟩,.string ⟨key.toArray⟩,.string ⟨val.toArray⟩,.int .i64 at_] 41);have hwl:(Zc val).length<=100000001:=n43_;have hw0:val=[]->Zc val=[]:=fun h=>n81_
 have HBL:=h_ (ZN ⟨val.toArray⟩ ⟨#[32]⟩ (w.alloc (.cells #[.string ⟨sec.toArray⟩,.string ⟨key.toArray⟩,.string ⟨val.toArray⟩,.int .i64 at_] 41)) n26_ d_ (Zc val) (Yd [32] rfl val []));unfold YJ at HBL;obtain ⟨ws,hws⟩:=e_ (Zc val);rw [<-hws] at HBL hw0 hwl⊢;have HB0:=h_ hB0;have HX0:=h_ (show (w.alloc (.cells #[.string ⟨sec.toArray⟩,.string ⟨key.toArray⟩,.string ⟨val.toArray⟩,.int .i64 at_] 41)).heap[X]?=some (.cells #[.string ⟨sec.toArray⟩,.string ⟨key.toArray⟩,.string ⟨val.toArray⟩,.int .i64 at_] 41 (0,0)) by rw [hX];exact hx0);have HB:=h_ hb;have HV:=h_ hv;have HFU:=h_ hFU;have HF:=h_ hF;have HW0:=h_ hw0;have HXX:=h_ hX;have HJ:=h_ hj;have HT:=h_ hT;have HWS:=h_ hws;obtain ⟨c0,c1,c2,-⟩:=Ym hx0;clear hB0 hx0 hb hv hFU hF hT hC hS hw0 hj hws;go_enter func40,ntmps40;clear hX;go_wp2_with fail;refine HBL.out.mono ?_;rintro e w1 ⟨hb1,v1,rfl,hrow⟩;obtain ⟨ob,capb,rfl⟩:=ownsRow_form hrow;have hX:=HXX.out;rw [<-hX];have hB1:Below w.heap.size w w1:=HB0.out.trans (hb1.mono HB0.out.size);have hx1:=Za HX0.out hb1;have hbu:=Za HB.out hB1;have hv1:Yg w1 F _ v:=HV.out.fr (M:=fun _=>False) (Fr.of_below hB1 _) (fun _ _ e=>e);have hF1:∀k,F k->k<w1.heap.size:=fun k hk=>Nat.lt_of_lt_of_le (HF.out k hk) hB1.size
 have hsr:=Zj.of_own hrow;have hob:∀b o,ob=some (⟨b,o,none⟩:Addr)->w.heap.size<=b:=fun b o e=>by
  have h:=(hrow.lt b n100_).1
  have:=HB0.out.size
  omega
 have HSW:=h_ (fun V c (h:Zh w1 V U cs j F c)=>show Zj V ob ws from hsr.frM h.frame (fun b o e=>by
  have h1:=hob b o e;rintro (h|h)
  ·omega
  ·have:=HF.out b h;omega))
 have HXV:=h_ (fun V c (h:Zh w1 V U cs j F c)=>show V.heap[X]?=some (.cells #[.string ⟨sec.toArray⟩,.string ⟨key.toArray⟩,.string ⟨val.toArray⟩,.int .i64 at_] 41 (0,0)) from h.frame.heap hx1 (by
  rintro (h|h)
  ·omega
  ·have:=HF.out X h;omega))
 have HFIN:=h_ (fun V c (h:Zh w1 V U cs j F c)=>show Zh w V U cs j F c from Zh.below hB1 h);have HP0:=h_ (Zh.refl hbu HJ.out hv1 hF1);have HBU:=h_ hbu;have HF1:=h_ hF1;obtain ⟨c0,c1,c2,-⟩:=Ym hx1;clear c0 hX hB1 hb1 hx1 hbu hv1 hF1 hsr hob hrow HB0 HX0 HBL HV HXX HB;go_wp2_with fail;refine (HTX.out _).mono ?_;rintro e w1 ⟨rfl,rfl⟩;by_cases hv0:val=[]
 ·subst hv0
  obtain rfl:ws=[]:=HW0.out rfl;obtain rfl:L0=[]:=n106_;have HP:=h_ (Zh.of_store (j:=j) (F:=F) (F':=fun _=>False) (c:=.ss []) (v:=.slice none 0 0) HBU.out rfl (Fr.refl _ _) ⟨World.ownsRow_nil _ _ _ _,fun g hg=>by simp [Value.ownBlock] at hg⟩ (fun k hk=>hk.elim) (fun e=>e));obtain ⟨_,f4,s4,_⟩:=rd HBU.out;have f40:=f4 j;clear f4;go_wp2_with fail;go_loopg [35] 1 (fun f i wr=>i=.int .i64 0/\0<f/\Hid (Zh w1 wr U cs j F (.ss [])))
  case atStart=>exact ⟨rfl,o_,HP⟩
  case round=>
   obtain ⟨rfl,hfu,HP2⟩:=hrel;clear HP c1 c2;have HP:=HP2;clear HP2;exact m112_
 ·have hvb:(val==[])=false:=n18_
  obtain rfl:L0=l:=n123_;have hvb2:List.isEmpty val=false:=by simpa using hv0
  clear hv0;go_wp2_with fail;go_loopg [35] (ws.length+1) (fun f i wr=>∃k:Nat,k<=ws.length/\i=.int .i64 k/\ws.length-k<f/\Hid (Zh w1 wr U cs j F (.ss ((ws.take k).foldl oneMore L0))))
  case atStart=>exact ⟨0,o_,rfl,o_,HP0⟩
  case round=>
   obtain ⟨k,hk,rfl,hfu,HP⟩:=hrel;clear HP0 c1 c2;by_cases hlt:k<ws.length
   ·obtain ⟨v1,F1,p1,p2,p3,p4⟩:=HP.out
    obtain ⟨L,hL⟩:=e_ ((ws.take k).foldl oneMore L0);have hLn:L.length<=1000000000:=by rw [hL];have:=Qu (ws.take k) L0;rw [List.length_take] at this;omega
    rw [<-hL] at p2;obtain ⟨x,hx⟩:=e_ (ws[k]);have HSN:=h_ (show (ws.take (k+1)).foldl oneMore L0=oneMore L x by rw [Za7 L0 ws k hlt,hL,hx]);obtain ⟨b2,o2,hob2,d0⟩:=(HSW.out _ _ HP.out) k hlt;subst hob2;rw [<-hx] at d0;obtain ⟨hown,hin⟩:=p2;obtain ⟨oa,cap,rfl⟩:=ownsRow_form hown;have c0:wr.cell? ⟨U,j,none⟩=some (.slice oa L.length cap):=by rw [(rd p1).1,Array.getElem?_setIfInBounds_self_of_lt hjs]
    have hU1:¬F1 U:=fun h=>by
     rcases (p4 U h).1 with h2|h2
     ·exact HFU.out h2
     ·have:=Zg HBU.out;omega
    have HH:=h_ (fun r h=>ZfX oa cap L x wr o_ (Zj.of_own hown) r h);have hz:(k:Int)<(ws.length:Int):=o_;have hcl:=h_ hL;clear hL hx;by_cases hc:x∈L
    ·have HM:=h_ (ZaD hc)
     have HH:=h_ (HH.out true n79_);clear hc hown hin p1 p3 p4 hU1;go_wp2_with fail;refine HH.out.mono ?_;rintro e w3 ⟨rfl,hb3⟩;have HP3:=h_ (Zh.after HP.out hb3);clear hb3;go_wp2_with fail;go_roundg (gk-1)
     case measure=>omega
     case rel=>exact ⟨k+1,o_,n14_,o_,by rw [HSN.out,HM.out,hcl.out];exact HP3⟩
    ·have HM:=h_ (Zby hc)
     have HH:=h_ (HH.out false n79_);have HOW:=h_ (And.intro hown hin);have HPP:=h_ (And.intro p1 (And.intro p3 p4));have HU1:=h_ hU1;clear hc hown hin p1 p3 p4 hU1;go_wp2_with fail;refine HH.out.mono ?_;rintro e w3 ⟨rfl,hb3⟩;have p1:=Za HPP.out.1 hb3;have p4:∀k,F1 k->(F k\/w1.heap.size<=k)/\k<w3.heap.size:=fun k hk=>⟨(HPP.out.2.2 k hk).1,Nat.lt_of_lt_of_le (HPP.out.2.2 k hk).2 hb3.size⟩
     have p3:=HPP.out.2.1.trans (Fr.of_below hb3 _);have hown:=Zp HOW.out.1 hb3;obtain ⟨oa3,cap3,w4,hrun,hb4,hf4,hown4,hF4,hU4,-⟩:=Qn (P:=prog) 28 28 9 i0 (.string ⟨#[]⟩) 1 16 underlying28 hi0 hz0 hz1 hz2 n19_ d_ p1 hown HOW.out.2 HU1.out o_ d_ [.string ⟨x.toArray⟩] rfl n47_;have HRUN:=h_ hrun;have hc4:Yg w4 (fun g=>(Value.slice oa3 (L.length+1) cap3).ownBlock=some g) (.ss (L++[x])) (.slice oa3 (L.length+1) cap3):=⟨n107_,fun g hg=>hg⟩;have HP1:=h_ (Zh.trans' p3 p4 (Zh.of_store (j:=j) hb4 rfl hf4 hc4 hF4 hU4));have c0':w3.cell? ⟨U,j,none⟩=some (.slice oa L.length cap):=by rw [(rd p1).1,Array.getElem?_setIfInBounds_self_of_lt hjs]
     have c1:w4.cell? ⟨U,j,none⟩=some (.slice oa L.length cap):=by rw [(rd hb4).1,Array.getElem?_setIfInBounds_self_of_lt hjs]
     obtain ⟨_,f4,s4,_⟩:=rd hb4;have f40:=f4 j;clear hown p1 p3 p4 hrun hown4 hb4 hc4 hF4 hU4 hf4 f4 hb3 c0;go_wp2_with (at_builtin;refine wpList_append_run rfl _ _ 28 rfl HRUN.out rfl rfl ?_);go_wp2_with fail;go_roundg (gk-1)
     case measure=>omega
     case rel=>exact ⟨k+1,o_,n14_,o_,by rw [HSN.out,HM.out];exact HP1⟩
   ·have hk3:k=ws.length:=o_
    subst hk3;rw [List.take_of_length_le l_] at HP;exact m112_
theorem Zda(w:World)(x y:Value)(T:TypeId):∀j u,[x,y][j]?=some u->(w.alloc (.cells #[x,y] T)).cell? ((⟨w.heap.size,0,none⟩:Addr).add j)=some u:=by
 intro j u hj;rw [show (⟨w.heap.size,0,none⟩:Addr).add j=⟨w.heap.size,0+j,none⟩ by unfold Addr.add;simp;omega,(rd (heap_alloc_new w _)).1,Nat.zero_add];simpa using hj
theorem ZeL{α:Type}(p:α->Bool)(l:List α)(j:Nat)(h:j<l.length):(l.take (j+1)).filter p=(l.take j).filter p++(if p l[j]=true then [l[j]] else []):=by
 rw [List.take_succ_eq_append_getElem h,List.filter_append];congr 1;cases hp:p l[j]<;>simp [hp]
theorem Zjl(l ps:List (Str×Str))(v:Value)(oa2:Option Addr)(cap2:Nat)(w:World)(hl:l.length<=100000)(hps:ps.length<=100000)(hown:w.ownsRow 0 78 2 v l.length (Zy Xj l))(hr:ZB Xj 2 w oa2 ps)(R:List (Str×Str))(hR:Y5 l ps=R) :
  Calls prog 89 #[v,.slice oa2 ps.length cap2] w fun e w'=>∃v',e=.returned v'/\Below w.heap.size w w'/\w'.ownsRow 0 78 2 v' R.length (Zy Xj R)/\∀g,v'.ownBlock=some g->v.ownBlock=some g\/(w.heap.size<=g/\g<w'.heap.size):=by
 obtain ⟨i0,hi0,hz0,hz1,hz2⟩:=info_parts ZdQ;have HO0:=h_ hown;have HR:=h_ hr;have HQ0:=h_ (show Y5 l (ps.drop 0)=R from hR);clear hown hr hR;go_enter func89,ntmps89;go_wp2_with fail;go_loopg [0,12] (ps.length+1) (fun f a i wr=>∃(k:Nat) (L:List (Str×Str)),k<=ps.length/\i=.int .i64 k/\ps.length-k<f/\L.length<=100000+k/\Hid (Y5 L (ps.drop k)=R)/\Hid (Below w.heap.size w wr)/\Hid (wr.ownsRow 0 78 2 a L.length (Zy Xj L))/\Hid (∀g,a.ownBlock=some g->v.ownBlock=some g\/(w.heap.size<=g/\g<wr.heap.size)))
 case atStart=>exact ⟨0,l,o_,rfl,o_,o_,HQ0,h_ b_,HO0,h_ (fun g hg=>.inl hg)⟩
 case round=>
  obtain ⟨k,L,hk,rfl,hfu,hLl,HQ,HB,HO,HG⟩:=hrel;clear HQ0 HO0;by_cases hlt:k<ps.length
  ·have hz:(k:Int)<(ps.length:Int):=o_
   obtain ⟨⟨p1,p2⟩,hp⟩:=e_ (ps[k]);obtain ⟨b4,o4,rfl,hb4l,hcc⟩:=(HR.out.below HB.out) k hlt;rw [<-hp] at hcc;have d0:=hcc 0 _ rfl;have d1:=hcc 1 _ rfl;simp only [Nat.add_zero] at d0;have HD:=h_ (show Y5 (L.filter (fun x=>x.1 !=p1)++[(p1,p2)]) (ps.drop (k+1))=R by
    rw [<-HQ.out,List.drop_eq_getElem_cons hlt,<-hp];rfl)
   obtain ⟨oa,cap,rfl⟩:=ownsRow_form HO.out;clear hcc hp HQ hb4l;obtain ⟨wo,hwo⟩:=e_ wr;subst hwo;obtain ⟨P,hP⟩:=e_ wo.heap.size;have hbi:Below wo.heap.size wo (wo.alloc (.cells #[.string ⟨p1.toArray⟩,.string ⟨p2.toArray⟩] 78)):=b_.alloc l_ _;have hxp:=heap_alloc_new wo (.cells #[.string ⟨p1.toArray⟩,.string ⟨p2.toArray⟩] 78);rw [<-hP] at hxp;have HBI:=h_ hbi;have HXP:=h_ hxp;have HP:=h_ hP;have HRL:=h_ (ZB.of_own (enc:=Xj) (k:=2) (fun _=>rfl) (Zp HO.out hbi));clear hbi hxp hP;go_wp2_with fail;rw [<-HP.out];clear d0 d1;generalize wo.alloc (.cells #[.string ⟨p1.toArray⟩,.string ⟨p2.toArray⟩] 78)=wi at *;go_loopg [7,18] (L.length+1) (fun f a i wr=>∃k2:Nat,k2<=L.length/\i=.int .i64 k2/\L.length-k2<f/\Hid (Below wi.heap.size wi wr)/\Hid (wr.ownsRow wi.heap.size 78 2 a ((L.take k2).filter (fun x=>x.1 !=p1)).length (Zy Xj ((L.take k2).filter (fun x=>x.1 !=p1)))))
   case atStart=>exact ⟨0,o_,rfl,o_,h_ b_,h_ (World.ownsRow_nil _ _ _ _)⟩
   case round=>
    obtain ⟨k2,hk2,rfl,hfu2,HBX,HOX⟩:=hrel;obtain ⟨K,hK⟩:=e_ ((L.take k2).filter (fun x=>x.1 !=p1));rw [<-hK] at HOX;have hKl:K.length<=200000:=by rw [hK];have:=List.length_filter_le (fun x:Str×Str=>x.1 !=p1) (L.take k2);rw [List.length_take] at this;omega
    obtain ⟨p0,p1c⟩:=YB (Za HXP.out HBX.out);by_cases hlt2:k2<L.length
    ·have hz2':(k2:Int)<(L.length:Int):=o_
     obtain ⟨⟨q1,q2⟩,hq⟩:=e_ (L[k2]);obtain ⟨b5,o5,hob5,hb5l,hcc⟩:=(HRL.out.below HBX.out) k2 hlt2;subst hob5;rw [<-hq] at hcc;have d0:=hcc 0 _ rfl;have d1:=hcc 1 _ rfl;simp only [Nat.add_zero] at d0;have HKN:=h_ (show (L.take (k2+1)).filter (fun x=>x.1 !=p1)=K++(if (q1 !=p1)=true then [(q1,q2)] else []) by rw [ZeL _ _ _ hlt2,hK,<-hq]);have hbx:Below wr.heap.size wr (wr.alloc (.cells #[.string ⟨q1.toArray⟩,.string ⟨q2.toArray⟩] 78)):=b_.alloc l_ _;have hxq:=YB (heap_alloc_new wr (.cells #[.string ⟨q1.toArray⟩,.string ⟨q2.toArray⟩] 78));obtain ⟨x0,x1⟩:=hxq;obtain ⟨y0,y1⟩:=YB (Za (Za HXP.out HBX.out) hbx);have HBX2:=h_ (HBX.out.trans (hbx.mono HBX.out.size));have HOX2:=h_ (Zp HOX.out hbx);have HXP2:=h_ (Za (Za HXP.out HBX.out) hbx);cases hqp:(q1 !=p1) with
     |false=>
      have HE:=h_ (show (L.take (k2+1)).filter (fun x=>x.1 !=p1)=K by rw [HKN.out,if_neg (by rw [hqp];decide),List.append_nil]);obtain rfl:q1=p1:=by simpa using hqp
      clear hcc hq hK hbx hb5l HKN hqp;go_wp2_with fail;go_roundg (L.length-k2)
      case measure=>omega
      case rel=>exact ⟨k2+1,o_,n14_,o_,HBX2,by rw [HE.out];exact HOX2⟩
     |true=>
      have HE:=h_ (show (L.take (k2+1)).filter (fun x=>x.1 !=p1)=K++[(q1,q2)] by rw [HKN.out,if_pos hqp]);have hown0:=HOX2.out;have hsz2:=HBX2.out.size;have hqn:¬(q1=p1):=by simpa using hqp
      have hnew:=Zda (wr.alloc (.cells #[.string ⟨q1.toArray⟩,.string ⟨q2.toArray⟩] 78)) (.string ⟨q1.toArray⟩) (.string ⟨q2.toArray⟩) 78;rw [show (wr.alloc (.cells #[.string ⟨q1.toArray⟩,.string ⟨q2.toArray⟩] 78)).heap.size=wr.heap.size+1 by simp] at hnew;have HNEW:=h_ hnew;clear hnew;have hqe:(q1==p1)=false:=by simpa using hqp
      clear hcc hq hK hbx hb5l HKN;go_wp2_with (at_builtin;refine wpList_append_own _ rfl _ _ 27 rfl wi.heap.size 78 i0 (.agg #[.string ⟨#[]⟩,.string ⟨#[]⟩]) 2 32 underlying27 hi0 hz0 hz1 hz2 rfl d_ _ _ _ rfl (hown0.alloc _) ⟨wr.heap.size+1,0,none⟩ 1 1 [.string ⟨q1.toArray⟩,.string ⟨q2.toArray⟩] rfl rfl (by exact HNEW.out) n30_ n20_ o_ n98_ ?_);intro v' w5 hown' hgrow hnil;have hs9:=hown0.lt;have HBX3:=h_ ((HBX2.out.alloc hsz2 _).grown hgrow n98_ (fun g hg=>(hown0.lt g hg).1));have HOX3:=h_ (show w5.ownsRow wi.heap.size 78 2 v' (K++[(q1,q2)]).length (Zy Xj (K++[(q1,q2)])) by
       rw [ZH,YX,List.length_append];exact hown')
      clear hgrow hnil hown' hown0 hs9;go_wp2_with fail;go_roundg (L.length-k2)
      case measure=>omega
      case rel=>exact ⟨k2+1,o_,n14_,o_,HBX3,by rw [HE.out];exact HOX3⟩
    ·have hz2':¬((k2:Int)<(L.length:Int)):=o_
     have hKK:K=L.filter (fun x=>x.1 !=p1):=by rw [hK,List.take_of_length_le o_]
     have HKK:=h_ hKK;have hown0:=HOX.out;have hsz2:=HBX.out.size;clear hK hKK;go_wp2_with (at_builtin;refine wpList_append_own _ rfl _ _ 27 rfl wi.heap.size 78 i0 (.agg #[.string ⟨#[]⟩,.string ⟨#[]⟩]) 2 32 underlying27 hi0 hz0 hz1 hz2 rfl d_ _ _ _ rfl (hown0.alloc _) ⟨_,0,none⟩ 1 1 [.string ⟨p1.toArray⟩,.string ⟨p2.toArray⟩] rfl rfl (by exact Zda _ _ _ _) n30_ n20_ o_ n98_ ?_);intro v' w5 hown' hgrow hnil;have HB5:=h_ (HB.out.trans ((HBI.out.trans (((HBX.out.alloc hsz2 _).grown hgrow n98_ (fun g hg=>(hown0.lt g hg).1)).mono HBI.out.size)).mono HB.out.size));have HO5:=h_ (show w5.ownsRow wi.heap.size 78 2 v' (K++[(p1,p2)]).length (Zy Xj (K++[(p1,p2)])) by
      rw [ZH,YX,List.length_append];exact hown')
     have hiw:w.heap.size<=wi.heap.size:=Nat.le_trans HB.out.size HBI.out.size;clear hgrow hnil hown' hown0;go_wp2_with fail;go_roundg (ps.length-k)
     case measure=>omega
     case rel=>exact ⟨k+1,K++[(p1,p2)],o_,n14_,o_,(by
      have:=List.length_filter_le (fun x:Str×Str=>x.1 !=p1) L
      rw [HKK.out];simp;omega),by rw [HKK.out];exact HD,HB5,h_ (Zcl HO5.out (Nat.zero_le _)),h_ (fun g hg=>.inr ⟨Nat.le_trans hiw (HO5.out.lt g hg).1,(HO5.out.lt g hg).2⟩)⟩
  ·have hz:¬((k:Int)<(ps.length:Int)):=o_
   have HE:=h_ (show L=R by rw [<-HQ.out,List.drop_eq_nil_of_le o_];rfl);go_wp2_with fail;go_ret;exact ⟨_,rfl,HB.out,by rw [<-HE.out];exact HO.out,HG.out⟩
theorem ZnH(U j:Nat)(cs:Array Value)(F:Nat->Prop)(l:List (Str×Str))(v:Value)(w:World)(hb:w.heap[U]?=some (.cells cs 30 (0,0)))(hj:cs[j]?=some v)(hv:Yg w F (.ps l) v)(hFU:¬F U)(hF:∀k,F k->k<w.heap.size)(sec key val:Str)(at_:Int)(hkey:key∈Jo)
  (hval:val.length<=100000000) (hl:l.length<=100000)
  (hkj:key=[69,110,118,105,114,111,110,109,101,110,116]/\j=19) :
  Calls prog 40 #[.pointer (some ⟨U,0,none⟩),.agg #[.string ⟨sec.toArray⟩,.string ⟨key.toArray⟩,.string ⟨val.toArray⟩,.int .i64 at_]] w fun e w'=>e=.returned (.tuple #[])/\Zh w w' U cs j F (.ps (Y5 (if val=[] then [] else l) (ZaW val).1)):=by
 obtain ⟨rfl,rfl⟩:=hkj;have hT:ZaN [69,110,118,105,114,111,110,109,101,110,116]=none:=rfl;have hC:XZ [69,110,118,105,114,111,110,109,101,110,116]=none:=rfl;have hS:ZaV [69,110,118,105,114,111,110,109,101,110,116]=none:=rfl;obtain ⟨L0,hL0⟩:=e_ (if val=[] then [] else l);rw [<-hL0];have HL0:=h_ hL0;obtain ⟨ps,ok,hps⟩:∃ps ok,ZaW val=(ps,ok):=⟨_,_,rfl⟩;have hpl:ps.length<=100000:=by have:=Zj9 val;rw [hps] at this;simp only at this;omega
 have HEN:=h_ (fun W=>Zhs ⟨val.toArray⟩ W n26_ ps ok hps);rw [hps];simp only;clear hL0 hps;have hUl:=Zg hb;have hjs:19<cs.size:=(Array.getElem?_eq_some_iff.1 hj).1;obtain ⟨X,hX⟩:=e_ w.heap.size;have HTX:=h_ (fun W=>Jf U W [69,110,118,105,114,111,110,109,101,110,116] hkey);have HCX:=h_ (fun W=>X6 U W [69,110,118,105,114,111,110,109,101,110,116] hkey);have HSX:=h_ (fun W=>Je U W [69,110,118,105,114,111,110,109,101,110,116] hkey);rw [hT] at HTX;rw [hC] at HCX;rw [hS] at HSX;simp only [Option.map_some,Option.map_none] at HTX HCX HSX;have hB0:Below w.heap.size w (w.alloc (.cells #[.string ⟨sec.toArray⟩,.string ⟨[69,110,118,105,114,111,110,109,101,110,116].toArray⟩,.string ⟨val.toArray⟩,.int .i64 at_] 41)):=b_.alloc l_ _;have hx0:=heap_alloc_new w (.cells #[.string ⟨sec.toArray⟩,.string ⟨[69,110,118,105,114,111,110,109,101,110,116].toArray⟩,.string ⟨val.toArray⟩,.int .i64 at_] 41);have hwl:(Zc val).length<=100000001:=n43_;have hw0:val=[]->Zc val=[]:=fun h=>n81_
 have HBL:=h_ (ZN ⟨val.toArray⟩ ⟨#[32]⟩ (w.alloc (.cells #[.string ⟨sec.toArray⟩,.string ⟨[69,110,118,105,114,111,110,109,101,110,116].toArray⟩,.string ⟨val.toArray⟩,.int .i64 at_] 41)) n26_ d_ (Zc val) (Yd [32] rfl val []));unfold YJ at HBL;obtain ⟨ws,hws⟩:=e_ (Zc val);rw [<-hws] at HBL hw0 hwl;(try rw [<-hws]);have HB0:=h_ hB0;have HX0:=h_ (show (w.alloc (.cells #[.string ⟨sec.toArray⟩,.string ⟨[69,110,118,105,114,111,110,109,101,110,116].toArray⟩,.string ⟨val.toArray⟩,.int .i64 at_] 41)).heap[X]?=some (.cells #[.string ⟨sec.toArray⟩,.string ⟨[69,110,118,105,114,111,110,109,101,110,116].toArray⟩,.string ⟨val.toArray⟩,.int .i64 at_] 41 (0,0)) by rw [hX];exact hx0);have HB:=h_ hb;have HV:=h_ hv;have HFU:=h_ hFU;have HF:=h_ hF;have HW0:=h_ hw0;have HXX:=h_ hX;have HJ:=h_ hj;have HT:=h_ hT;have HWS:=h_ hws;obtain ⟨c0,c1,c2,-⟩:=Ym hx0;clear hB0 hx0 hb hv hFU hF hT hC hS hw0 hj hws;go_enter func40,ntmps40;clear hX;go_wp2_with fail;refine HBL.out.mono ?_;rintro e w1 ⟨hb1,v1,rfl,hrow⟩;obtain ⟨ob,capb,rfl⟩:=ownsRow_form hrow;have hX:=HXX.out;rw [<-hX];have hB1:Below w.heap.size w w1:=HB0.out.trans (hb1.mono HB0.out.size);have hx1:=Za HX0.out hb1;have hbu:=Za HB.out hB1;have hv1:Yg w1 F _ v:=HV.out.fr (M:=fun _=>False) (Fr.of_below hB1 _) (fun _ _ e=>e);have hF1:∀k,F k->k<w1.heap.size:=fun k hk=>Nat.lt_of_lt_of_le (HF.out k hk) hB1.size
 have hsr:=Zj.of_own hrow;have hob:∀b o,ob=some (⟨b,o,none⟩:Addr)->w.heap.size<=b:=fun b o e=>by
  have h:=(hrow.lt b n100_).1
  have:=HB0.out.size
  omega
 have HSW:=h_ (fun V c (h:Zh w1 V U cs 19 F c)=>show Zj V ob ws from hsr.frM h.frame (fun b o e=>by
  have h1:=hob b o e;rintro (h|h)
  ·omega
  ·have:=HF.out b h;omega))
 have HXV:=h_ (fun V c (h:Zh w1 V U cs 19 F c)=>show V.heap[X]?=some (.cells #[.string ⟨sec.toArray⟩,.string ⟨[69,110,118,105,114,111,110,109,101,110,116].toArray⟩,.string ⟨val.toArray⟩,.int .i64 at_] 41 (0,0)) from h.frame.heap hx1 (by
  rintro (h|h)
  ·omega
  ·have:=HF.out X h;omega))
 have HFIN:=h_ (fun V c (h:Zh w1 V U cs 19 F c)=>show Zh w V U cs 19 F c from Zh.below hB1 h);have HP0:=h_ (Zh.refl hbu HJ.out hv1 hF1);have HBU:=h_ hbu;have HF1:=h_ hF1;have HV1:=h_ hv1;have HJ1:=h_ HJ.out;obtain ⟨c0,c1,c2,-⟩:=Ym hx1;clear c0 hX hB1 hb1 hx1 hbu hv1 hF1 hsr hob hrow HB0 HX0 HBL HV HXX HB;go_wp2_with fail;refine (HTX.out _).mono ?_;rintro e w1 ⟨rfl,rfl⟩;go_wp2_with fail;refine (HCX.out _).mono ?_;rintro e w1 ⟨rfl,rfl⟩;go_wp2_with fail;refine (HSX.out _).mono ?_;rintro e w1 ⟨rfl,rfl⟩;go_wp2_with fail;refine (HEN.out _).mono ?_;rintro e w3 ⟨⟨pv,rfl,hrow⟩,hb3⟩;obtain ⟨pa,pc,rfl⟩:=ownsRow_form hrow;have hrd:=ZB.of_own (enc:=Xj) (k:=2) (fun _=>rfl) hrow;have hbu:=Za HBU.out hb3;obtain ⟨g1,f4,s4,_⟩:=rd hbu;have f40:=f4 19;have q40:=(g1 19).trans HJ.out;have HB3:=h_ hb3;have HBU3:=h_ hbu;have hUl1:=Zg HBU.out;clear c1 c2;obtain ⟨c0,c1,c2,-⟩:=Ym (HXV.out _ _ (Zh.after HP0.out hb3));have HPL:=h_ (show ∀b o,pa=some (⟨b,o,none⟩:Addr)->w1.heap.size<=b from fun b o e=>(hrow.lt b n100_).1);by_cases hv0:val=[]
 ·subst hv0
  obtain rfl:L0=[]:=n106_;have hP4:=Zh.of_store (w:=w3) (j:=19) (F:=F) (F':=fun _=>False) (c:=.ps []) (v:=.slice none 0 0) hbu rfl (Fr.refl _ _) ⟨World.ownsRow_nil _ _ _ _,fun g hg=>by simp [Value.ownBlock] at hg⟩ (fun k hk=>hk.elim) (fun e=>e);have hu4:=heap_setCell hbu 19 (.slice none 0 0);have HCA:=h_ (Zjl [] ps (.slice none 0 0) pa pc (w3.setCell ⟨U,19,none⟩ (.slice none 0 0)) s_ hpl (World.ownsRow_nil _ _ _ _) (hrd.frM (Fr.setCell (M:=fun k=>k=U) (Fr.refl _ _) (p:=⟨U,19,none⟩) (fun _=>rfl) _) (fun b o e h=>by
   have:=HPL.out b o e;omega)) _ rfl)
  have HP4:=h_ (Zh.below hb3 hP4);have HU4:=h_ hu4;clear g1 f4 hb3 hbu hrow hrd hP4 hu4;go_wp2_with fail;refine HCA.out.mono ?_;rintro e w5 ⟨v5,rfl,hb5,hown5,hin5⟩;have hu5:=Za HU4.out hb5;have HP:=h_ (show Zh w1 _ U cs 19 F (.ps (Y5 [] ps)) from Zh.of_store (j:=19) (F':=fun g=>v5.ownBlock=some g) (v:=v5) hu5 set_set (HP4.out.frame.trans (Fr.of_below hb5 _)) ⟨hown5,fun g hg=>hg⟩ (fun g hg=>by
   rcases hin5 g hg with h|h
   ·simp [Value.ownBlock] at h
   ·have h1:=HP4.out.frame.size
    exact ⟨.inr o_,h.2⟩) (fun hg=>by
   rcases hin5 U hg with h|h
   ·simp [Value.ownBlock] at h
   ·have h1:=HP4.out.frame.size;omega))
  obtain ⟨oa5,cap5,rfl⟩:=ownsRow_form hown5;obtain ⟨g5,f5,s5,_⟩:=rd hu5;have f50:=f5 19;have q50:w5.cell? ⟨U,19,none⟩=some (.slice none 0 0):=by rw [g5 19,Array.getElem?_setIfInBounds_self_of_lt hjs]
  clear g5 f5 hu5 hb5 hown5 hin5;go_wp2_with fail;go_end0;exact ⟨rfl,HFIN.out _ _ HP.out⟩
 ·have hvb:(val==[])=false:=n18_
  obtain rfl:L0=l:=n123_;have hvb2:List.isEmpty val=false:=by simpa using hv0
  obtain ⟨hown1,hin1⟩:=HV1.out;have HCA:=h_ (Zjl L0 ps v pa pc w3 hl hpl (Zp hown1 hb3) hrd _ rfl);have HIN:=h_ hin1;obtain ⟨oa0,cap0,rfl⟩:=ownsRow_form hown1;clear hv0 g1 f4 hb3 hbu hrow hrd hown1 hin1;go_wp2_with fail;refine HCA.out.mono ?_;rintro e w5 ⟨v5,rfl,hb5,hown5,hin5⟩;have hu5:=Za HBU3.out hb5;have hB5:Below w1.heap.size w1 w5:=HB3.out.trans (hb5.mono HB3.out.size);have HP:=h_ (show Zh w1 _ U cs 19 F (.ps (Y5 L0 ps)) from Zh.of_store (j:=19) (F':=fun g=>v5.ownBlock=some g) (v:=v5) hu5 rfl (Fr.of_below hB5 _) ⟨hown5,fun g hg=>hg⟩ (fun g hg=>by
   rcases hin5 g hg with h|h
   ·have h1:=HF1.out g (HIN.out g h)
    have h2:=hB5.size;exact ⟨.inl (HIN.out g h),o_⟩
   ·have h1:=HB3.out.size
    exact ⟨.inr o_,h.2⟩) (fun hg=>by
   rcases hin5 U hg with h|h
   ·exact HFU.out (HIN.out U h)
   ·have h1:=HB3.out.size;omega))
  obtain ⟨oa5,cap5,rfl⟩:=ownsRow_form hown5;obtain ⟨g5,f5,s5,_⟩:=rd hu5;have f50:=f5 19;have q50:=(g5 19).trans HJ.out;clear g5 f5 hu5 hb5 hown5 hin5 hB5;go_wp2_with fail;go_end0;exact ⟨rfl,HFIN.out _ _ HP.out⟩
end Go.Proofs.YtgoooebfhdbbkaaGreatDoor
