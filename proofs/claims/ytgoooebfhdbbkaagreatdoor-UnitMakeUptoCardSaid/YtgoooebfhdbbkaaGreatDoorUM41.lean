import Derived.Test.YtgoooebfhdbbkaaGreatDoorUM9
import Derived.Test.YtgoooebfhdbbkaaGreatDoorUM10
import Derived.Test.YtgoooebfhdbbkaaGreatDoorUM18
import Derived.Test.YtgoooebfhdbbkaaGreatDoorUM22
import Derived.Test.YtgoooebfhdbbkaaGreatDoorUM23
import Derived.Test.YtgoooebfhdbbkaaGreatDoorUM24
import Derived.Test.YtgoooebfhdbbkaaGreatDoorUM38
import Derived.Test.YtgoooebfhdbbkaaGreatDoorUM40
namespace Go.Proofs.YtgoooebfhdbbkaaGreatDoor
open Go.Proofs.Tryz
open Go Go.RowKit
set_option linter.unusedVariables false
set_option linter.unusedSimpArgs false
set_option maxHeartbeats 16000000
set_option maxRecDepth 100000
theorem m158_{p:Prop}(h:p:=by
  go_wp2_with fail;go_roundg (L.length-k2)
  case measure=>omega
  case rel=>exact ⟨k2+1,o_,n14_,o_,by rw [HTN.out];rfl,HBX2⟩):p:=h
theorem Ziu(nm:Str)(rel:Int)(L:List (Int×Str))(x:Str)(t:List Str)(b:Bool)(h:(x==nm||L.contains (rel,x))=b):ZR nm rel L (x::t)=ZR nm rel (if b=true then L else L++[(rel,x)]) t:=by
 rw [ZR];congr 1;cases b with
 |true=>
  have hn:¬(x≠nm/\(rel,x)∉L):=by
   rintro ⟨h1,h2⟩;rw [Bool.or_eq_true] at h;rcases h with h|h
   ·exact h1 n60_
   ·exact h2 n60_
  rw [if_neg hn];rfl
 |false=>
  rw [Bool.or_eq_false_iff] at h;have hp:x≠nm/\(rel,x)∉L:=⟨by simpa using h.1,by simpa using h.2⟩;rw [if_pos hp];rfl
theorem ZnE(U:Nat)(cs:Array Value)(F:Nat->Prop)(l:List (Int×Str))(v:Value)(w:World)(hb:w.heap[U]?=some (.cells cs 30 (0,0)))(hj:cs[4]?=some v)(hv:Yg w F (.rs l) v)(hFU:¬F U)(hF:∀k,F k->k<w.heap.size)(hl:l.length<=100000)
  (nm:Str) (h0:cs[0]?=some (.string ⟨nm.toArray⟩)) (kind:Int) (ws:List Str) (ob:Option Addr) (cap0:Nat) (hs:Zj w ob ws) (hwl:ws.length<=100000001) (hob:∀b o,ob=some (⟨b,o,none⟩:Addr)->b<w.heap.size/\b≠U/\¬F b) :
  Calls prog 39 #[.pointer (some ⟨U,0,none⟩),.int .i64 kind,.slice ob ws.length cap0] w fun e w'=>e=.returned (.tuple #[])/\Zh w w' U cs 4 F (.rs (ZgJ nm kind l ws)):=by
 obtain ⟨i0,hi0,hz0,hz1,hz2⟩:=info_parts Zkn;have hjs:4<cs.size:=(Array.getElem?_eq_some_iff.1 hj).1;have hUl:=Zg hb;obtain ⟨hown,hin⟩:=hv;obtain ⟨oa,cap,rfl⟩:=ownsRow_form hown;have HB:=h_ hb;have HJ:=h_ hj;have H0:=h_ h0;have HFU:=h_ hFU;have HF:=h_ hF;have HO:=h_ hown;have HIN:=h_ hin;have HS:=h_ hs;have HOB:=h_ hob;obtain ⟨L0,hL0⟩:=e_ (if ws=[] then l.filter (fun r=>r.1 !=kind) else l);have hL0l:L0.length<=100000:=by
  have:=List.length_filter_le (fun r:Int×Str=>r.1 !=kind) l
  rw [hL0];split
  ·omega
  ·exact hl
 have HR:=h_ (show ZgJ nm kind l ws=ZR nm kind L0 ws by rw [hL0];rfl);have HL0:=h_ hL0;rw [HR.out];clear hb hj h0 hFU hF hown hin hs hob hL0 HR;by_cases hw:ws=[]
 ·subst hw
  obtain rfl:L0=l.filter (fun r=>r.1 !=kind):=n106_;obtain ⟨g1,f4,s4,_⟩:=rd HB.out;have q4:=(g1 4).trans HJ.out;have HRL:=h_ (ZB.of_own (enc:=Jg) (k:=2) (fun _=>rfl) HO.out);clear g1 f4 HL0;go_enter func39,ntmps39;go_wp2_with fail;go_loopg [6,22] (l.length+1) (fun f a i wr=>∃k:Nat,k<=l.length/\i=.int .i64 k/\l.length-k<f/\Hid (Below w.heap.size w wr)/\Hid (wr.ownsRow w.heap.size 43 2 a ((l.take k).filter (fun r=>r.1 !=kind)).length (Zy Jg ((l.take k).filter (fun r=>r.1 !=kind)))))
  case atStart=>exact ⟨0,o_,rfl,o_,h_ b_,h_ (World.ownsRow_nil _ _ _ _)⟩
  case round=>
   obtain ⟨k2,hk2,rfl,hfu2,HBX,HOX⟩:=hrel;clear q4;obtain ⟨K,hK⟩:=e_ ((l.take k2).filter (fun r=>r.1 !=kind));rw [<-hK] at HOX;have hKl:K.length<=100000:=by rw [hK];have:=List.length_filter_le (fun r:Int×Str=>r.1 !=kind) (l.take k2);rw [List.length_take] at this;omega
   by_cases hlt2:k2<l.length
   ·have hz2':(k2:Int)<(l.length:Int):=o_
    obtain ⟨⟨q1,q2⟩,hq⟩:=e_ (l[k2]);obtain ⟨b5,o5,hob5,hb5l,hcc⟩:=(HRL.out.below HBX.out) k2 hlt2;subst hob5;rw [<-hq] at hcc;have d0:=hcc 0 _ rfl;have d1:=hcc 1 _ rfl;simp only [Nat.add_zero] at d0;have HKN:=h_ (show (l.take (k2+1)).filter (fun r=>r.1 !=kind)=K++(if (q1 !=kind)=true then [(q1,q2)] else []) by rw [ZeL _ _ _ hlt2,hK,<-hq]);have hbx:Below wr.heap.size wr (wr.alloc (.cells #[.int .i64 q1,.string ⟨q2.toArray⟩] 43)):=b_.alloc l_ _;obtain ⟨x0,x1⟩:=YB (heap_alloc_new wr (.cells #[.int .i64 q1,.string ⟨q2.toArray⟩] 43));have HBX2:=h_ (HBX.out.trans (hbx.mono HBX.out.size));have HOX2:=h_ (Zp HOX.out hbx);cases hqp:(q1 !=kind) with
    |false=>
     have HE:=h_ (show (l.take (k2+1)).filter (fun r=>r.1 !=kind)=K by rw [HKN.out,if_neg (by rw [hqp];decide),List.append_nil]);obtain rfl:q1=kind:=by simpa using hqp
     clear hcc hq hK hbx hb5l HKN hqp;go_wp2_with fail;go_roundg (l.length-k2)
     case measure=>omega
     case rel=>exact ⟨k2+1,o_,n14_,o_,HBX2,by rw [HE.out];exact HOX2⟩
    |true=>
     have HE:=h_ (show (l.take (k2+1)).filter (fun r=>r.1 !=kind)=K++[(q1,q2)] by rw [HKN.out,if_pos hqp]);have hown0:=HOX2.out;have hsz2:=HBX2.out.size;have hqn:¬(q1=kind):=by simpa using hqp
     have hnew:=Zda (wr.alloc (.cells #[.int .i64 q1,.string ⟨q2.toArray⟩] 43)) (.int .i64 q1) (.string ⟨q2.toArray⟩) 43;rw [show (wr.alloc (.cells #[.int .i64 q1,.string ⟨q2.toArray⟩] 43)).heap.size=wr.heap.size+1 by simp] at hnew;have HNEW:=h_ hnew;clear hcc hq hK hbx hb5l HKN hnew;go_wp2_with (at_builtin;refine wpList_append_own _ rfl _ _ 24 rfl w.heap.size 43 i0 (.agg #[.int .i64 0,.string ⟨#[]⟩]) 2 24 underlying24 hi0 hz0 hz1 hz2 rfl d_ _ _ _ rfl (hown0.alloc _) ⟨wr.heap.size+1,0,none⟩ 1 1 [.int .i64 q1,.string ⟨q2.toArray⟩] rfl rfl (by exact HNEW.out) n30_ n20_ o_ n98_ ?_);intro v' w5 hown' hgrow hnil;have HBX3:=h_ ((HBX2.out.alloc hsz2 _).grown hgrow n98_ (fun g hg=>(hown0.lt g hg).1));have HOX3:=h_ (show w5.ownsRow w.heap.size 43 2 v' (K++[(q1,q2)]).length (Zy Jg (K++[(q1,q2)])) by
      rw [ZH,YX,List.length_append];exact hown')
     clear hgrow hnil hown' hown0;go_wp2_with fail;go_roundg (l.length-k2)
     case measure=>omega
     case rel=>exact ⟨k2+1,o_,n14_,o_,HBX3,by rw [HE.out];exact HOX3⟩
   ·have hz2':¬((k2:Int)<(l.length:Int)):=o_
    obtain rfl:K=l.filter (fun r=>r.1 !=kind):=by rw [hK,List.take_of_length_le o_]
    have hbu:=Za HB.out HBX.out;obtain ⟨oa6,cap6,rfl⟩:=ownsRow_form HOX.out;have HP:=h_ (Zh.of_store (j:=4) (c:=.rs (l.filter (fun r=>r.1 !=kind))) (F':=fun g=>(Value.slice oa6 (l.filter (fun r=>r.1 !=kind)).length cap6).ownBlock=some g) (v:=.slice oa6 (l.filter (fun r=>r.1 !=kind)).length cap6) hbu rfl (Fr.of_below HBX.out (fun k=>k=U\/F k)) ⟨Zcl HOX.out (Nat.zero_le _),fun g hg=>hg⟩ (fun g hg=>⟨.inr (HOX.out.lt g hg).1,(HOX.out.lt g hg).2⟩) (fun hg=>by have:=(HOX.out.lt U hg).1;omega));obtain ⟨g1,f4,s4,_⟩:=rd hbu;have f40:=f4 4;have q4:=(g1 4).trans HJ.out;clear g1 f4 hbu hK;go_wp2_with fail;go_loopg [41] 1 (fun f i wr=>i=.int .i64 0/\0<f/\Hid (Zh w wr U cs 4 F (.rs (l.filter (fun r=>r.1 !=kind)))))
    case atStart=>exact ⟨rfl,o_,HP⟩
    case round=>
     obtain ⟨rfl,hfu,HP2⟩:=hrel;clear HP;go_wp2_with fail;go_end0;exact ⟨rfl,HP2.out⟩
 ·obtain rfl:L0=l:=by rw [HL0.out,if_neg hw]
  have hwn:ws.length≠0:=by simpa using hw
  have hwz:((ws.length:Int)==0)=false:=n3_;have HP0:=h_ (show Zh w w U cs 4 F (.rs L0) from Zh.refl HB.out HJ.out ⟨HO.out,HIN.out⟩ HF.out);clear hw hwn HL0;go_enter func39,ntmps39;go_wp2_with fail;go_loopg [41] (ws.length+1) (fun f i wr=>∃(k:Nat) (L:List (Int×Str)),k<=ws.length/\i=.int .i64 k/\ws.length-k<f/\L.length<=100000+k/\Hid (ZR nm kind L (ws.drop k)=ZR nm kind L0 ws)/\Hid (Zh w wr U cs 4 F (.rs L)))
  case atStart=>exact ⟨0,L0,o_,rfl,o_,o_,h_ rfl,HP0⟩
  case round=>
   obtain ⟨k,L,hk,rfl,hfu,hLl,HQ,HP⟩:=hrel;clear HP0;by_cases hlt:k<ws.length
   ·have hz:(k:Int)<(ws.length:Int):=o_
    obtain ⟨x,hx⟩:=e_ (ws[k]);obtain ⟨b2,o2,hob2,d0⟩:=(HS.out.frM HP.out.frame (fun b o e=>by
     have h1:=HOB.out b o e;rintro (h|h)
     ·exact h1.2.1 h
     ·exact h1.2.2 h)) k hlt
    subst hob2;rw [<-hx] at d0;have HN:=h_ (fun b (h:(x==nm||L.contains (kind,x))=b)=>show ZR nm kind (if b=true then L else L++[(kind,x)]) (ws.drop (k+1))=ZR nm kind L0 ws from by rw [<-HQ.out,List.drop_eq_getElem_cons hlt,<-hx,Ziu nm kind L x _ b h]);obtain ⟨v1,F1,p1,p2,p3,p4⟩:=HP.out;obtain ⟨hown1,hin1⟩:=p2;obtain ⟨oa1,cap1,rfl⟩:=ownsRow_form hown1;obtain ⟨g1,_,_,_⟩:=rd p1;have q4:wr.cell? ⟨U,4,none⟩=some (.slice oa1 L.length cap1):=by rw [g1,Array.getElem?_setIfInBounds_self_of_lt hjs]
    have q0:wr.cell? ⟨U,0,none⟩=some (.string ⟨nm.toArray⟩):=by rw [g1,Array.getElem?_setIfInBounds_ne d_];exact H0.out
    have HRL:=h_ (ZB.of_own (enc:=Jg) (k:=2) (fun _=>rfl) hown1);have hU1:¬F1 U:=fun h=>by
     rcases (p4 U h).1 with h2|h2
     ·exact HFU.out h2
     ·omega
    have HPP:=h_ (And.intro p1 (And.intro p3 p4));have HO1:=h_ (And.intro hown1 hin1);have HU1:=h_ hU1;clear hx HQ p1 p3 p4 hown1 hin1 g1 hU1;obtain ⟨wo,hwo⟩:=e_ wr;subst hwo;go_wp2_with fail;go_loopg [11,56] (L.length+1) (fun f a i wr=>∃k2:Nat,k2<=L.length/\i=.int .i64 k2/\L.length-k2<f/\a=.bool (x==nm||(L.take k2).contains (kind,x))/\Hid (Below wo.heap.size wo wr))
    case atStart=>exact ⟨0,o_,rfl,o_,s_,h_ b_⟩
    case round=>
     obtain ⟨k2,hk2,rfl,hfu2,rfl,HBX⟩:=hrel;clear q4 q0 d0;by_cases hlt2:k2<L.length
     ·have hz2':(k2:Int)<(L.length:Int):=o_
      obtain ⟨q,hq⟩:=e_ (L[k2]);obtain ⟨b5,o5,hob5,hb5l,hcc⟩:=(HRL.out.below HBX.out) k2 hlt2;subst hob5;rw [<-hq] at hcc;have d0:=hcc 0 _ rfl;have d1:=hcc 1 _ rfl;simp only [Nat.add_zero] at d0;have HTN:=h_ (show (x==nm||(L.take (k2+1)).contains (kind,x))=((x==nm||(L.take k2).contains (kind,x))||decide (q=(kind,x))) by
       rw [Bool.or_assoc];congr 1;rw [List.take_succ_eq_append_getElem hlt2,<-hq,Bool.eq_iff_iff];simp only [List.contains_iff_mem,List.mem_append,List.mem_singleton,Bool.or_eq_true,decide_eq_true_eq];exact ⟨fun h=>h.imp id Eq.symm,fun h=>h.imp id Eq.symm⟩)
      have hbx:Below wr.heap.size wr (wr.alloc (.cells #[.int .i64 q.1,.string ⟨q.2.toArray⟩] 43)):=b_.alloc l_ _;obtain ⟨x0,x1⟩:=YB (heap_alloc_new wr (.cells #[.int .i64 q.1,.string ⟨q.2.toArray⟩] 43));have HBX2:=h_ (HBX.out.trans (hbx.mono HBX.out.size));have r1:=ZcX q (kind,x) (decide (q=(kind,x))) rfl;have r2:=J2 .eql;obtain ⟨q1,q2⟩:=q;simp only at d0 d1 x0 x1 r1 HBX2 HTN;generalize decide ((q1,q2)=(kind,x))=tb at *;generalize (x==nm||(L.take k2).contains (kind,x))=ta at *;clear hcc hq hbx hb5l;cases ta with
      |true=>
       exact m158_
      |false=>
       exact m158_
     ·have hz2':¬((k2:Int)<(L.length:Int)):=o_
      have hk2e:L.take k2=L:=List.take_of_length_le o_;rw [hk2e];have HPX:=h_ (Zh.after HP.out HBX.out);obtain ⟨tb,htb⟩:∃tb,(x==nm||L.contains (kind,x))=tb:=⟨_,rfl⟩;have HN2:=h_ (HN.out tb htb);rw [htb];clear htb hk2e HN;cases tb with
      |true=>
       go_wp2_with fail;go_roundg (ws.length-k)
       case measure=>omega
       case rel=>exact ⟨k+1,L,o_,n14_,o_,o_,HN2,HPX⟩
      |false=>
       have p1:=Za HPP.out.1 HBX.out;have p4:∀k,F1 k->(F k\/w.heap.size<=k)/\k<wr.heap.size:=fun k hk=>⟨(HPP.out.2.2 k hk).1,Nat.lt_of_lt_of_le (HPP.out.2.2 k hk).2 HBX.out.size⟩
       have p3:=HPP.out.2.1.trans (Fr.of_below HBX.out _);have hown:=Zp HO1.out.1 HBX.out;obtain ⟨oa3,cap3,w4,hrun,hb4,hf4,hown4,hF4,hU4,-⟩:=Qn (P:=prog) 24 24 43 i0 (.agg #[.int .i64 0,.string ⟨#[]⟩]) 2 24 underlying24 hi0 hz0 hz1 hz2 n19_ d_ p1 hown HO1.out.2 HU1.out o_ d_ [.int .i64 kind,.string ⟨x.toArray⟩] rfl (by intro u hu;simp at hu;rcases hu with rfl|rfl<;>rfl);have HRUN:=h_ hrun;have hc4:Yg w4 (fun g=>(Value.slice oa3 (L.length+1) cap3).ownBlock=some g) (.rs (L++[(kind,x)])) (.slice oa3 (L.length+1) cap3):=⟨by rw [ZH,YX,List.length_append];exact hown4,fun g hg=>hg⟩;have HP1:=h_ (Zh.trans' p3 p4 (Zh.of_store (j:=4) hb4 rfl hf4 hc4 hF4 hU4));obtain ⟨g1,_,_,_⟩:=rd p1;have q4:wr.cell? ⟨U,4,none⟩=some (.slice oa1 L.length cap1):=by rw [g1,Array.getElem?_setIfInBounds_self_of_lt hjs]
       obtain ⟨g2,f4,s4,_⟩:=rd hb4;have q5:w4.cell? ⟨U,4,none⟩=some (.slice oa1 L.length cap1):=by rw [g2,Array.getElem?_setIfInBounds_self_of_lt hjs]
       have f40:=f4 4;clear p1 p3 p4 hown hrun hb4 hf4 hown4 hF4 hU4 hc4 g1 g2 f4;go_wp2_with (at_builtin;refine wpList_append_run rfl _ _ 24 rfl HRUN.out rfl rfl ?_);go_wp2_with fail;go_roundg (ws.length-k)
       case measure=>omega
       case rel=>exact ⟨k+1,L++[(kind,x)],o_,n14_,o_,n2_,HN2,HP1⟩
   ·have hz:¬((k:Int)<(ws.length:Int)):=o_
    have HE:=h_ (show L=ZR nm kind L0 ws by rw [<-HQ.out,List.drop_eq_nil_of_le o_];rfl);go_wp2_with fail;go_end0;exact ⟨rfl,by rw [<-HE.out];exact HP.out⟩
theorem m175_{p:Prop}(h:p:=by
  clear HE2;go_wp2_with ((go_at_call 227;first|(with_reducible refine (HND.out _).mono ?_)|(with_reducible refine (HNE.out _).mono ?_));rintro e V ⟨rfl,hV⟩;have hV2:=hV.symm;subst hV2);go_roundg (8-e)
  case measure=>omega
  case rel=>exact ⟨e+1,(d,e),o_,o_,n14_,rfl,rfl,o_,rfl,HE3⟩):p:=h
theorem m176_{p:Prop}(h:p:=by
  clear HE2;go_wp2_with ((go_at_call 227;first|(with_reducible refine (HND.out _).mono ?_)|(with_reducible refine (HNE.out _).mono ?_));rintro e V ⟨rfl,hV⟩;have hV2:=hV.symm;subst hV2);go_roundg (8-e)
  case measure=>omega
  case rel=>exact ⟨e+1,z,o_,o_,n14_,rfl,rfl,o_,rfl,HE3⟩):p:=h
theorem m177_{p:Prop}(h:p:=by
  have hez:¬(e:Int)<=7:=o_;have HE3:=h_ (show Zel x (8-(d+1)) (d+1) z=Zaf x from by
   have h:=HE.out;rw [show 8-e=0 by omega] at h;rw [<-HD3.out,<-h];rfl)
  go_wp2_with fail;go_roundg (8-d)
  case measure=>omega
  case rel=>exact ⟨d+1,z,o_,o_,n14_,rfl,rfl,o_,rfl,HE3⟩):p:=h
theorem Zef(d:Nat):(Ja d).length<=3:=by
 unfold Ja;rw [List.getD_eq_getElem?_getD];cases h:Zd3[d-1]? with
 |none=>simp
 |some x=>
  have hm:=List.mem_of_getElem? h
  have:∀y∈Zd3,y.length<=3:=d_
  exact this x hm
theorem Zkw(x:Str)(f k:Nat)(h:Yf x=some (f,k)):f<=k/\k<7:=by
 unfold Yf at h;generalize (if (Lib.cut x [46,46]).2.2=true then (Lib.cut x [46,46]).2.1 else (Lib.cut x [46,46]).1)=b at h;generalize (Lib.cut x [46,46]).1=a at h;have ha:=Xt a;have hb:=Xt b;generalize Xy a=u at *;generalize Xy b=v at *;by_cases hc:u<0\/v<u
 ·rw [if_pos hc] at h;cases h
 ·rw [if_neg hc] at h
  simp only [Option.some.injEq,Prod.mk.injEq] at h;obtain ⟨h1,h2⟩:=h;rcases hb with hb|⟨n,hb,hn⟩<;>omega
theorem Zdn(a b:Str)(h:a.length+b.length<4611686018427387904):Op.stringOp .add ⟨a.toArray⟩ ⟨b.toArray⟩=pure (.string ⟨(a++b).toArray⟩):=by
 rw [ZaS ⟨a.toArray⟩ ⟨b.toArray⟩ (by show a.toArray.size+b.toArray.size<_;simp;omega)];congr 2
theorem Znz(x:Str)(d:Nat)(p:Nat×Nat)(h:d<=7):Zel x (8-d) d p=Zel x (8-(d+1)) (d+1) (JV x d (8-d) d (if x=Ja d then (d,d) else p)):=by
 obtain ⟨n,hn⟩:∃n,8-d=n+1:=⟨7-d,o_⟩;have h2:8-(d+1)=n:=o_;rw [h2]
 conv=>lhs;rw [hn]
 rfl
theorem Zgy:∀(l:List Str) (m r:List Bool),Xa l m=some r->m.getD 0 false=false->r.getD 0 false=false
 |[],m,r,h,h0=>by simp [Xa] at h;subst h;exact h0
 |w::t,m,r,h,h0=>by
  rw [Xa] at h;cases hd:Yf w with
  |none=>rw [hd] at h;simp at h
  |some p=>
   rw [hd] at h;refine Zgy t _ r h ?_;generalize p.2+1-p.1=n;generalize p.1=d;clear h;induction n generalizing m d with
   |zero=>exact h0
   |succ n ih=>rw [XM];exact ih _ (by rw [List.getD_eq_getElem?_getD] at h0⊢;rw [List.getElem?_set_ne o_];exact h0) _
theorem ZjU(s:ByteArray)(w:World)(hs:s.size<=100000000):Calls prog 204 #[.string s] w fun e w'=>Zfx w s.data.toList e w':=by
 obtain ⟨i0,hi0,hz0,hz1,hz2⟩:=info_parts ZaF;obtain ⟨l,hl⟩:∃l,Zl 44 s.data.toList=l:=⟨_,rfl⟩;have hsl:s.data.toList.length=s.size:=s_;let w0:=w.alloc (.cells #[.bool false,.bool false,.bool false,.bool false,.bool false,.bool false,.bool false,.bool false] 221);have hB0:Below w.heap.size w w0:=b_.alloc l_ _;have hz00:w0.heap.size=w.heap.size+1:=by simp [w0]
 have h0:w0.heap[w.heap.size]?=some (.cells (Qx XR) 221 (0,0)):=heap_alloc_new w _;have HSP:=h_ (XW s 44 w0 o_ l hl);have HMEM:=h_ (fun x (hx:x∈l)=>show x.length<=100000000 from by rw [<-hl] at hx;have:=YP 44 _ x hx;omega);have hln:l.length<=100000001:=by rw [<-hl];have:=YG 44 s.data.toList;omega
 have HPS:=h_ (show YF s.data.toList=(Xa l XR).map Zl4 by unfold YF;rw [hl]);have HB0:=h_ hB0;have HZ0:=h_ hz00;have HH0:=h_ h0;unfold Zfx;clear hl hsl hB0 hz00 h0;go_enter func204,ntmps204;go_wp2_with fail;refine HSP.out.mono ?_;rintro e w1 ⟨hb1,v,rfl,hown⟩;obtain ⟨oa,cap,rfl⟩:=ownsRow_form hown;obtain ⟨H,hH⟩:=e_ w.heap.size;have hz0':=HZ0.out;have HST:=h_ (fun V (h:Fr (fun k=>k=H) w1 V)=>(Zj.of_own hown).fr3 h (fun b o e=>by
  have:=hown.lt b n100_
  omega))
 have HB1:=h_ (HB0.out.trans (hb1.mono HB0.out.size));have HH1:=h_ (Za HH0.out hb1);have HZ1:=h_ (show H+1<=w1.heap.size by have:=hb1.size;omega);rw [<-hH] at HH1 HB1⊢;have HHW:=h_ hH;clear hown hb1 HSP HB0 HZ0 HH0 hz0' hH;clear w0;go_wp2_with fail;go_loopg [16] (l.length+1) (fun f i wr=>∃(k:Nat) (m:List Bool),k<=l.length/\i=.int .i64 k/\l.length-k<f/\m.length=8/\Hid (Xa (l.take k) XR=some m)/\Hid (wr.heap[H]?=some (.cells (Qx m) 221 (0,0)))/\Hid (Fr (fun k=>k=H) w1 wr))
 case atStart=>exact ⟨0,XR,o_,rfl,o_,rfl,rfl,HH1,Fr.refl _ _⟩
 case round=>
  obtain ⟨k,m,hk,rfl,hfu,hm8,HWL,HH,HF⟩:=hrel;obtain ⟨w2,rfl⟩:∃w2,w2=wr:=⟨wr,rfl⟩;by_cases hlt:k<l.length
  ·have hz:(k:Int)<(l.length:Int):=o_
   obtain ⟨b4,o4,rfl,d0⟩:=HST.out w2 HF.out k hlt;obtain ⟨x,hx⟩:=e_ (l[k]);rw [<-hx] at d0;have hxl:x.length<=100000000:=by rw [hx];exact HMEM.out _ (List.getElem_mem hlt)
   have HSN:=h_ (show Xa (l.take (k+1)) XR=match Yf x with|none=>none|some (f,k)=>some (XM m f (k+1-f)) from by
    rw [List.take_succ_eq_append_getElem hlt,Zbp,HWL.out,<-hx];rfl)
   have hsplit:l=l.take (k+1)++l.drop (k+1):=(List.take_append_drop _ _).symm;have HNO:=h_ (fun (h:Yf x=none)=>show YF s.data.toList=none from by
    rw [HPS.out,hsplit,Zc2 _ _ _ (by rw [HSN.out,h])];rfl)
   have HRP:=h_ (show Zel x 7 1 (0,0)=Zaf x from ZlS x);obtain ⟨gx,rfl⟩:∃g,g=gk:=⟨gk,rfl⟩;clear hx hxl hsplit HWL;go_wp2_with fail;go_loopg [7,8,9] 8 (fun f a b c wx=>∃(d:Nat) (p:Nat×Nat),1<=d/\d<=8/\c=.int .i64 d/\a=.int .i64 p.1/\b=.int .i64 p.2/\8-d<f/\wx=w2/\Hid (Zel x (8-d) d p=Zaf x))
   case atStart=>exact ⟨1,(0,0),o_,o_,rfl,rfl,rfl,o_,rfl,HRP⟩
   case round=>
    obtain ⟨d,p,hd1,hd8,rfl,rfl,rfl,hfd,rfl,HD⟩:=hrel;obtain ⟨w2,rfl⟩:∃w2,w2=wr:=⟨wr,rfl⟩;by_cases hd7:d<=7
    ·have hdz:(d:Int)<=7:=o_
     have HND:=h_ (fun V=>Zb9 d hd1 hd7 V);obtain ⟨y,hy⟩:=e_ (Ja d);have hyl:y.length<=3:=by rw [hy];exact Zef d
     have HD2:=h_ (show Zel x (8-(d+1)) (d+1) (JV x d (8-d) d (if x=Ja d then (d,d) else p))=Zaf x from by
      rw [<-HD.out,Znz x d p hd7])
     obtain ⟨gd,rfl⟩:∃g,g=gk:=⟨gk,rfl⟩;rw [<-hy] at HND HD2;have HY:=h_ hy;clear hy;cases hq:(x==y) with
     |true=>
      have HD3:=h_ (show Zel x (8-(d+1)) (d+1) (JV x d (8-d) d (d,d))=Zaf x from by
       have h:=HD2.out;rw [if_pos (eq_of_beq hq)] at h;exact h)
      clear HD2 HD;go_wp2_with (go_at_call 227;refine (HND.out _).mono ?_;rintro e V ⟨rfl,hV⟩;have hV2:=hV.symm;subst hV2);go_loopg [7,8,10] 9 (fun f a b c wx=>∃(e:Nat) (z:Nat×Nat),d<=e/\e<=8/\c=.int .i64 e/\a=.int .i64 z.1/\b=.int .i64 z.2/\8-e<f/\wx=w2/\Hid (JV x d (8-e) e z=JV x d (8-d) d (d,d)))
      case atStart=>exact ⟨d,(d,d),o_,o_,rfl,rfl,rfl,o_,rfl,rfl⟩
      case round=>
       obtain ⟨e,z,he1,he8,rfl,rfl,rfl,hfe,rfl,HE⟩:=hrel;by_cases he7:e<=7
       ·have hez:(e:Int)<=7:=o_
        have HNE:=h_ (fun V=>Zb9 e o_ he7 V);obtain ⟨u,hu⟩:=e_ (Ja e);have hul:u.length<=3:=by rw [hu];exact Zef e
        have hcat1:Op.stringOp .add ⟨y.toArray⟩ ⟨#[46,46]⟩=pure (.string ⟨(y++[46,46]).toArray⟩):=Zdn y [46,46] n2_;have hcat2:Op.stringOp .add ⟨(y++[46,46]).toArray⟩ ⟨u.toArray⟩=pure (.string ⟨(y++[46,46]++u).toArray⟩):=Zdn _ _ n2_;have HE2:=h_ (show JV x d (8-(e+1)) (e+1) (if x=y++[46,46]++u then (d,e) else z)=JV x d (8-d) d (d,d) from by
         rw [<-HE.out,HY.out,hu,show 8-e=(8-(e+1))+1 by omega];rfl)
        rw [<-hu] at HNE;obtain ⟨c1,hc1⟩:=e_ (y++[46,46]);rw [<-hc1] at hcat1 hcat2 HE2;obtain ⟨c2,hc2⟩:=e_ (c1++u);rw [<-hc2] at hcat2 HE2;clear HE hu hul hc1 hc2;cases hqe:(x==c2) with
        |true=>
         have HE3:=h_ (show JV x d (8-(e+1)) (e+1) (d,e)=JV x d (8-d) d (d,d) from by
          have h:=HE2.out;rw [if_pos (eq_of_beq hqe)] at h;exact h)
         exact m175_
        |false=>
         have HE3:=h_ (show JV x d (8-(e+1)) (e+1) z=JV x d (8-d) d (d,d) from by
          have h:=HE2.out;rw [if_neg (by rw [beq_eq_false_iff_ne] at hqe;exact hqe)] at h;exact h)
         exact m176_
       ·exact m177_
     |false=>
      have HD3:=h_ (show Zel x (8-(d+1)) (d+1) (JV x d (8-d) d p)=Zaf x from by
       have h:=HD2.out;rw [if_neg (by rw [beq_eq_false_iff_ne] at hq;exact hq)] at h;exact h)
      clear HD2 HD;go_wp2_with (go_at_call 227;refine (HND.out _).mono ?_;rintro e V ⟨rfl,hV⟩;have hV2:=hV.symm;subst hV2);go_loopg [7,8,10] 9 (fun f a b c wx=>∃(e:Nat) (z:Nat×Nat),d<=e/\e<=8/\c=.int .i64 e/\a=.int .i64 z.1/\b=.int .i64 z.2/\8-e<f/\wx=w2/\Hid (JV x d (8-e) e z=JV x d (8-d) d p))
      case atStart=>exact ⟨d,p,o_,o_,rfl,rfl,rfl,o_,rfl,rfl⟩
      case round=>
       obtain ⟨e,z,he1,he8,rfl,rfl,rfl,hfe,rfl,HE⟩:=hrel;by_cases he7:e<=7
       ·have hez:(e:Int)<=7:=o_
        have HNE:=h_ (fun V=>Zb9 e o_ he7 V);obtain ⟨u,hu⟩:=e_ (Ja e);have hul:u.length<=3:=by rw [hu];exact Zef e
        have hcat1:Op.stringOp .add ⟨y.toArray⟩ ⟨#[46,46]⟩=pure (.string ⟨(y++[46,46]).toArray⟩):=Zdn y [46,46] n2_;have hcat2:Op.stringOp .add ⟨(y++[46,46]).toArray⟩ ⟨u.toArray⟩=pure (.string ⟨(y++[46,46]++u).toArray⟩):=Zdn _ _ n2_;have HE2:=h_ (show JV x d (8-(e+1)) (e+1) (if x=y++[46,46]++u then (d,e) else z)=JV x d (8-d) d p from by
         rw [<-HE.out,HY.out,hu,show 8-e=(8-(e+1))+1 by omega];rfl)
        rw [<-hu] at HNE;obtain ⟨c1,hc1⟩:=e_ (y++[46,46]);rw [<-hc1] at hcat1 hcat2 HE2;obtain ⟨c2,hc2⟩:=e_ (c1++u);rw [<-hc2] at hcat2 HE2;clear HE hu hul hc1 hc2;cases hqe:(x==c2) with
        |true=>
         have HE3:=h_ (show JV x d (8-(e+1)) (e+1) (d,e)=JV x d (8-d) d p from by
          have h:=HE2.out;rw [if_pos (eq_of_beq hqe)] at h;exact h)
         exact m175_
        |false=>
         have HE3:=h_ (show JV x d (8-(e+1)) (e+1) z=JV x d (8-d) d p from by
          have h:=HE2.out;rw [if_neg (by rw [beq_eq_false_iff_ne] at hqe;exact hqe)] at h;exact h)
         exact m176_
       ·exact m177_
    ·have hdz:¬(d:Int)<=7:=o_
     have hpp:p=Zaf x:=by
      have h:=HD.out;rw [show 8-d=0 by omega] at h;exact h
     subst hpp;clear HD HRP;cases hdr:Yf x with
     |none=>
      have HN:=h_ (HNO.out hdr);have hp:Zaf x=(0,0):=by unfold Zaf;rw [hdr]
      rw [hp];clear hp hdr HNO HSN;go_wp2_with fail;go_ret2;refine ⟨_,by rw [HN.out];rfl,?_,?_⟩
      ·rw [HN.out];exact World.ownsRow_nil _ _ _ _
      ·rw [<-HHW.out]
       exact HB1.out.trans (HF.out.below H (by have:=HZ1.out;omega) (fun j hj e=>by omega))
     |some fk=>
      obtain ⟨g,q⟩:=fk;obtain ⟨hgq,hq7⟩:=Zkw x g q hdr;have hp:Zaf x=(g+1,q+1):=by unfold Zaf;rw [hdr]
      have HSN2:=h_ (show Xa (l.take (k+1)) XR=some (XM m g (q+1-g)) from by rw [HSN.out,hdr]);rw [hp];clear hp hdr HNO HSN;have hg0:((g+1:Nat):Int)≠0:=o_;have hg1:(((g+1:Nat):Int)==0)=false:=by simpa using hg0
      obtain ⟨G,hG⟩:=e_ (g+1);obtain ⟨Q,hQ⟩:=e_ (q+1);simp only at *;rw [<-hG] at hg1⊢;rw [<-hQ];clear hg0;go_wp2_with fail;go_loopg [7] (q+2) (fun f a wx=>∃(E:Nat) (m':List Bool),E<=q+2/\g+1<=E/\a=.int .i64 (E:Int)/\q+2-E<f/\m'.length=8/\Hid (XM m' (E-1) (q+2-E)=XM m g (q+1-g))/\Hid (wx.heap[H]?=some (.cells (Qx m') 221 (0,0)))/\Hid (Fr (fun k=>k=H) w1 wx))
      case atStart=>exact ⟨G,m,o_,o_,by rw [hG];first|rfl|go_num,o_,hm8,(show XM m (G-1) (q+2-G)=XM m g (q+1-g) from by rw [hG,show g+1-1=g by omega,show q+2-(g+1)=q+1-g by omega]),HH,HF⟩
      case round=>
       obtain ⟨E,m',he1,he2,rfl,hfe,hm8',HE,HH',HF'⟩:=hrel;by_cases hle:E<=Q
       ·have hz7:(E:Int)<=(Q:Int):=o_
        have he8:(E:Int)<8:=o_;have he9:E<8:=o_;obtain ⟨c0,c1,-,-⟩:=rd HH'.out;have dc:=c0 E;have dd:(Qx m')[E]?=some (.bool (m'[E]' o_)):=by
         unfold Qx;rw [List.getElem?_toArray,List.getElem?_map,List.getElem?_eq_getElem o_];rfl
        rw [dd] at dc;have df:=c1 E;have HT3:=h_ (show (wr.setCell ⟨H,E,none⟩ (.bool true)).heap[H]?=some (.cells (Qx (m'.set E true)) 221 (0,0)) by
         rw [<-Zep];exact heap_setCell HH'.out E (.bool true))
        have HE2:=h_ (show XM (m'.set E true) (E+1-1) (q+2-(E+1))=XM m g (q+1-g) by
         rw [<-HE.out,show q+2-E=(q+2-(E+1))+1 by omega,XM,show E-1+1=E by omega,show E+1-1=E by omega])
        clear c0 c1 dd;go_wp2_with fail;go_roundg (q+2-E)
        case measure=>omega
        case rel=>exact ⟨E+1,m'.set E true,o_,o_,n14_,o_,by simpa using hm8',HE2,HT3,HF'.out.setCell (p:=⟨H,E,none⟩) (fun _=>rfl) _⟩
       ·have hz7:¬(E:Int)<=(Q:Int):=o_
        have HMM:=h_ (show Xa (l.take (k+1)) XR=some m' from by
         have h:=HE.out;rw [show q+2-E=0 by omega] at h;rw [HSN2.out,<-h];rfl)
        go_wp2_with fail;go_roundg (l.length-k)
        case measure=>omega
        case rel=>exact ⟨k+1,m',o_,n14_,o_,hm8',HMM,HH',HF'⟩
  ·have hz:¬(k:Int)<(l.length:Int):=o_
   have HWM:=h_ (show Xa l XR=some m from by rw [<-HWL.out,List.take_of_length_le o_]);have HR:=h_ (show YF s.data.toList=some (YN m 8) from by rw [HPS.out,HWM.out];rfl);have hm0:YN m 1=[]:=by
    rw [Zcb,if_neg (by rw [Zgy _ _ _ HWM.out rfl];simp)];rfl
   have HM0:=h_ hm0;clear hm0 HWL;go_wp2_with fail;go_loopg [11,12] 9 (fun f v d wx=>∃k:Nat,1<=k/\k<=8/\d=.int .i64 k/\8-k<f/\Hid (wx.ownsRow w2.heap.size 3 1 v (YN m k).length ((YN m k).map fun n=>.int .i64 n))/\Hid (Below w2.heap.size w2 wx))
   case atStart=>exact ⟨1,o_,o_,rfl,o_,by rw [HM0.out];exact World.ownsRow_nil _ _ _ _,Below.refl _ _⟩
   case round=>
    obtain ⟨k2,hk1,hk8,rfl,hfu2,HO,HB⟩:=hrel;obtain ⟨oa2,cap2,rfl⟩:=ownsRow_form HO.out;by_cases hlt2:k2<8
    ·have hk2z:(k2:Int)<=7:=o_
     have hz3:(k2:Int)<8:=o_;have HS:=h_ (Zcb m k2);have hql:(YN m k2).length<=8:=Nat.le_trans (Zc1 m k2) o_;obtain ⟨c0,c1,-,-⟩:=rd (Za HH.out HB.out);have dc:=c0 k2;have dd:(Qx m)[k2]?=some (.bool (m.getD k2 false)):=by
      unfold Qx;rw [List.getElem?_toArray,List.getElem?_map,List.getD_eq_getElem?_getD,List.getElem?_eq_getElem o_];rfl
     rw [dd] at dc;obtain ⟨q,hq⟩:∃q,m.getD k2 false=q:=⟨_,rfl⟩;rw [hq] at HS dc;clear c0 c1 dd hq;cases q with
     |false=>
      have HS2:=h_ (show YN m (k2+1)=YN m k2 by rw [HS.out,if_neg s_]);clear HS;go_wp2_with fail;go_roundg (8-k2)
      case measure=>omega
      case rel=>exact ⟨k2+1,o_,o_,n14_,o_,by rw [HS2.out];exact HO,HB⟩
     |true=>
      have HS2:=h_ (show YN m (k2+1)=YN m k2++[(k2:Int)] by rw [HS.out,if_pos rfl]);have hB1:Below wr.heap.size wr (wr.alloc (.cells #[.int .i64 k2] 3)):=b_.alloc l_ _;obtain ⟨v',w4,hrun,hown4,hgrow,-⟩:=run_append_own (P:=prog) (wr.alloc (.cells #[.int .i64 k2] 3)) w2.heap.size 26 26 3 i0 (.int .i64 0) 1 8 underlying26 hi0 hz0 hz1 hz2 rfl d_ _ _ _ (HO.out.alloc _) ⟨wr.heap.size,0,none⟩ 1 1 [.int .i64 k2] rfl (cell_one_new _ _ _) n30_ n20_ o_ n110_;have HRUN:=h_ hrun;have HB4:=h_ ((HB.out.trans (hB1.mono HB.out.size)).grown hgrow n110_ (fun g hg=>(HO.out.lt g hg).1));have HO4:=h_ (show w4.ownsRow w2.heap.size 3 1 v' (YN m (k2+1)).length ((YN m (k2+1)).map fun n=>.int .i64 n) by
       rw [HS2.out,List.length_append,List.map_append];exact hown4)
      obtain ⟨oa3,cap3,rfl⟩:=ownsRow_form HO4.out;clear HS hrun hown4 hgrow hB1;go_wp2_with (at_builtin;refine wpList_append_run rfl _ _ 26 rfl HRUN.out rfl rfl ?_);go_roundg (8-k2)
      case measure=>omega
      case rel=>exact ⟨k2+1,o_,o_,n14_,o_,HO4,HB4⟩
    ·have hk2z:¬(k2:Int)<=7:=o_
     obtain rfl:k2=8:=o_;go_wp2_with fail;go_ret2;refine ⟨_,n10_,?_,?_⟩
     ·rw [HR.out]
      have h:=HO.out;refine ⟨h.1,?_⟩;rcases h.2 with hn|⟨g,cp,cur,hv,hb,rest⟩
      ·exact .inl hn
      ·exact .inr ⟨g,cp,cur,hv,by have h1:=HF.out.size;have h2:=HZ1.out;have h3:=HHW.out;omega,rest⟩
     ·rw [<-HHW.out]
      exact (HB1.out.trans (HF.out.below H (by have:=HZ1.out;omega) (fun j hj e=>by omega))).trans (HB.out.mono (by have h1:=HF.out.size;have h2:=HZ1.out;omega))
def Zoj(w:Str):Bool:=decide (Zw w≠0)&&!((ofS w).at_&&(ofS w).inst.isEmpty)
theorem Zmn(w:Str):Zoj w=Qb w:=by
 unfold Zoj Qb ZcL Zam ofS;by_cases h:Zw w=0
 ·simp [h]
 ·simp [h]
end Go.Proofs.YtgoooebfhdbbkaaGreatDoor
