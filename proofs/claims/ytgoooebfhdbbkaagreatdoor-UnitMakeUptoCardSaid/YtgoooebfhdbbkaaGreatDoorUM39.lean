import Derived.Test.YtgoooebfhdbbkaaGreatDoorUM4
import Derived.Test.YtgoooebfhdbbkaaGreatDoorUM8
import Derived.Test.YtgoooebfhdbbkaaGreatDoorUM22
import Derived.Test.YtgoooebfhdbbkaaGreatDoorUM23
import Derived.Test.YtgoooebfhdbbkaaGreatDoorUM25
import Derived.Test.YtgoooebfhdbbkaaGreatDoorUM30
import Derived.Test.YtgoooebfhdbbkaaGreatDoorUM31
import Derived.Test.YtgoooebfhdbbkaaGreatDoorUM33
import Derived.Test.YtgoooebfhdbbkaaGreatDoorUM36
import Derived.Test.YtgoooebfhdbbkaaGreatDoorUM37
import Derived.Test.YtgoooebfhdbbkaaGreatDoorUM38
namespace Go.Proofs.YtgoooebfhdbbkaaGreatDoor
open Go.Proofs.Tryz
open Go Go.RowKit
set_option linter.unusedVariables false
set_option linter.unusedSimpArgs false
set_option maxHeartbeats 16000000
set_option maxRecDepth 100000
structure ZqY(w:World)(x:Zdx)(c:Zbx):Prop where
 dash:x.dash=c.1
 wn:x.wn=c.2.length
 row:Zj w x.wa c.2
 few:c.2.length<=maxLen
structure ZkF(w:World)(oa:Option Addr)(xs:List Zdx)(l:List Zbx):Prop where
 len:xs.length=l.length
 row:ZB ZjN 2 w oa xs
 see:∀i (h1:i<xs.length) (h2:i<l.length),ZqY w xs[i] l[i]
theorem Zg7(oa ob:Option Addr)(ca cb:Nat)(xs ys:List Zdx)(l m:List Zbx)(w:World)(hl:ZkF w oa xs l)(hm:ZkF w ob ys m)(hll:l.length<=9223372036854775807)(hml:m.length<=9223372036854775807)(r:Bool)(hr:decide (l=m)=r) :
  Calls prog 17 #[.slice oa l.length ca,.slice ob m.length cb] w fun e w'=>e=.returned (.bool r)/\∃n,w'=w.drewN n:=by
 have HRS:=h_ hr;clear hr;by_cases hlen:l.length=m.length
 ·have hne:((l.length:Int)!=(m.length:Int))=false:=by simp [hlen]
  have Hlen:=h_ hlen;clear hlen;have HL:=h_ hl;clear hl;have HM:=h_ hm;clear hm;go_enter func17,ntmps17;go_wp2_with fail;go_loopg [13] (l.length+1) (fun f i wr=>∃k:Nat,k<=l.length/\i=.int .i64 k/\l.length-k<f/\Hid (l.take k=m.take k)/\∃n,wr=w.drewN n)
  case atStart=>exact ⟨0,o_,rfl,o_,rfl,0,rfl⟩
  case round=>
   obtain ⟨k,hk,rfl,hfu,Hq,n,rfl⟩:=hrel;by_cases hlt:k<l.length
   ·have hlt2:k<m.length:=n55_
    have i5:(k:Int)<(l.length:Int):=o_;have i6:(k:Int)<(m.length:Int):=o_;have hx1:k<xs.length:=by rw [HL.out.len];exact hlt
    have hy1:k<ys.length:=by rw [HM.out.len];exact hlt2
    obtain ⟨b1,o1,rfl,-,hc1⟩:=HL.out.row k hx1;obtain ⟨b2,o2,rfl,-,hc2⟩:=HM.out.row k hy1;have sx:=HL.out.see k hx1 hlt;have sy:=HM.out.see k hy1 hlt2;obtain ⟨x,hx⟩:=e_ (l[k]);obtain ⟨y,hy⟩:=e_ (m[k]);rw [<-hx] at sx;rw [<-hy] at sy;generalize xs[k]=xv at hc1 sx;generalize ys[k]=yv at hc2 sy;obtain ⟨xd,xa,xn,xc⟩:=xv;obtain ⟨yd,ya,yn,yc⟩:=yv;obtain ⟨rfl,rfl,sx3,sx4⟩:=sx;obtain ⟨rfl,rfl,sy3,sy4⟩:=sy;obtain ⟨xd,xw⟩:=x;obtain ⟨yd,yw⟩:=y;have d0:=hc1 0 _ rfl;have d1:=hc1 1 _ rfl;have e0:=hc2 0 _ rfl;have e1:=hc2 1 _ rfl;simp only [Nat.add_zero] at d0 e0;simp only at sx3 sx4 sy3 sy4 d0 d1 e0 e1;have HS:=h_ (Zks xa ya xc yc xw yw (w.drewN n).drew sx3 sy3 sx4 sy4);obtain ⟨sb,hsb⟩:∃sb,ZcF xw yw=sb:=⟨_,rfl⟩;rw [hsb] at HS;clear hc1 hc2 sx3 sx4 sy3 sy4;by_cases hd:xd=yd
    ·have hq:(xd==yd)=true:=by rw [hd];simp
     cases sb with
     |true=>
      have HT:=h_ (show l.take (k+1)=m.take (k+1) by
       rw [List.take_succ_eq_append_getElem hlt,List.take_succ_eq_append_getElem hlt2,Hq.out,<-hx,<-hy,hd,show xw=yw from eq_of_beq hsb])
      clear hd hx hy hsb;go_wp2_with fail;refine Zi (S:=fun V=>V.cell? ⟨b1,o1+k*2,none⟩=some (.bool xd)/\V.cell? ⟨b1,o1+k*2+1,none⟩=some (.slice xa xw.length xc)/\V.cell? ⟨b2,o2+k*2,none⟩=some (.bool yd)/\V.cell? ⟨b2,o2+k*2+1,none⟩=some (.slice ya yw.length yc)) 22 k_ k_ (show _/\_/\_/\_ from ⟨d0,d1,e0,e1⟩) (fun hHeld=>?_);refine u_ ?_;clear d0 d1 e0 e1;(iterate 22 refine dN_ 0 (gT_ rfl) (fun W hW=>by obtain ⟨z0,z1,z2,z3⟩:=hW;go_simp;rfl) (u_ ?_));refine Zr k_ ?_;clear hHeld;go_wp2_with fail;refine (HS.out).mono ?_;rintro e w6 ⟨rfl,q,rfl⟩;go_wp2_with fail;go_roundg (l.length-k)
      case measure=>omega
      case rel=>exact ⟨k+1,o_,n14_,o_,HT,n17_⟩
     |false=>
      have HR:=h_ (show r=false by
       rw [<-HRS.out];apply decide_eq_false;intro e;subst e;have e2:=hx.trans hy.symm;injection e2 with _ e3
       subst e3;simp [ZcF] at hsb)
      clear hd hx hy hsb;go_wp2_with fail;refine Zi (S:=fun V=>V.cell? ⟨b1,o1+k*2,none⟩=some (.bool xd)/\V.cell? ⟨b1,o1+k*2+1,none⟩=some (.slice xa xw.length xc)/\V.cell? ⟨b2,o2+k*2,none⟩=some (.bool yd)/\V.cell? ⟨b2,o2+k*2+1,none⟩=some (.slice ya yw.length yc)) 22 k_ k_ (show _/\_/\_/\_ from ⟨d0,d1,e0,e1⟩) (fun hHeld=>?_);refine u_ ?_;clear d0 d1 e0 e1;(iterate 22 refine dN_ 0 (gT_ rfl) (fun W hW=>by obtain ⟨z0,z1,z2,z3⟩:=hW;go_simp;rfl) (u_ ?_));refine Zr k_ ?_;clear hHeld;go_wp2_with fail;refine (HS.out).mono ?_;rintro e w6 ⟨rfl,q,rfl⟩;go_wp2_with fail;go_ret;exact ⟨n10_,n17_⟩
    ·have hq:(xd==yd)=false:=by rw [beq_eq_false_iff_ne];exact hd
     have HR:=h_ (show r=false by
      rw [<-HRS.out];apply decide_eq_false;intro e;subst e;have e2:=hx.trans hy.symm;injection e2 with e3 _
      exact hd e3)
     clear hd hx hy hsb;go_wp2_with fail;refine Zi (S:=fun V=>V.cell? ⟨b1,o1+k*2,none⟩=some (.bool xd)/\V.cell? ⟨b1,o1+k*2+1,none⟩=some (.slice xa xw.length xc)/\V.cell? ⟨b2,o2+k*2,none⟩=some (.bool yd)/\V.cell? ⟨b2,o2+k*2+1,none⟩=some (.slice ya yw.length yc)) 22 k_ k_ (show _/\_/\_/\_ from ⟨d0,d1,e0,e1⟩) (fun hHeld=>?_);refine u_ ?_;(iterate 12 refine dN_ 0 (gT_ rfl) (fun W hW=>by obtain ⟨z0,z1,z2,z3⟩:=hW;go_simp;rfl) (u_ ?_));refine ZK (i:=12) (v:=undef) (gT_ rfl) k_ k_ k_ k_ (fun _ _ _ h=>h) (Or.inr ⟨n19_,rfl⟩) a_ ?_;refine u_ ?_;refine ZK (i:=13) (v:=undef) (gT_ rfl) k_ k_ k_ k_ (fun _ _ _ h=>h) (Or.inr ⟨n19_,rfl⟩) a_ ?_;refine u_ ?_;refine ZK (i:=14) (v:=undef) (gT_ rfl) k_ k_ k_ k_ (fun _ _ _ h=>h) (Or.inr ⟨n19_,rfl⟩) a_ ?_;refine u_ ?_;refine ZK (i:=15) (v:=undef) (gT_ rfl) k_ k_ k_ k_ (fun _ _ _ h=>h) (Or.inr ⟨n19_,rfl⟩) a_ ?_;refine u_ ?_;refine ZK (i:=16) (v:=undef) (gT_ rfl) k_ k_ k_ k_ (fun _ _ _ h=>h) (Or.inr ⟨n19_,rfl⟩) a_ ?_;refine u_ ?_;refine ZK (i:=17) (v:=undef) (gT_ rfl) k_ k_ k_ k_ (fun _ _ _ h=>h) (Or.inr ⟨n19_,rfl⟩) a_ ?_;refine u_ ?_;refine ZK (i:=18) (v:=undef) (gT_ rfl) k_ k_ k_ k_ (fun _ _ _ h=>h) (Or.inr ⟨n19_,rfl⟩) a_ ?_;refine u_ ?_;refine ZK (i:=19) (v:=undef) (gT_ rfl) k_ k_ k_ k_ (fun _ _ _ h=>h) (Or.inr ⟨n19_,rfl⟩) a_ ?_;refine u_ ?_;refine ZK (i:=20) (v:=undef) (gT_ rfl) k_ k_ k_ k_ (fun _ _ _ h=>h) (Or.inr ⟨n19_,rfl⟩) a_ ?_;refine u_ ?_;refine ZK (i:=21) (v:=undef) (gT_ rfl) k_ k_ k_ k_ (fun _ _ _ h=>h) (Or.inr ⟨n19_,rfl⟩) a_ ?_;refine u_ ?_;refine Zr k_ ?_;clear hHeld;go_wp2_with fail;go_ret;exact ⟨n10_,n17_⟩
   ·have HR:=h_ (show r=true by
     have h1:=Hq.out;rw [List.take_of_length_le o_,List.take_of_length_le n55_] at h1;rw [<-HRS.out,h1];simp)
    go_wp2_with fail;go_ret;exact ⟨n10_,dn _ _⟩
 ·have hne:((l.length:Int)!=(m.length:Int))=true:=n2_
  have HR:=h_ (show r=false by
   rw [<-HRS.out];apply decide_eq_false;intro e;exact hlen (by rw [e]))
  clear hlen;go_enter func17,ntmps17;go_wp2_with fail;go_ret;exact ⟨n10_,dn0 _⟩
def UC.bool:UC->Bool|.b x=>x|_=>false
def Qv:List Ln:=[⟨[85,110,105,116],[65,102,116,101,114],[37,105,46,116,97,114,103,101,116,32,97,64,120,46,115,101,114,118,105,99,101],1⟩,⟨[83,101,114,118,105,99,101],[69,120,101,99,83,116,97,114,116],[45,114,117,110,32,37,110],2⟩,⟨[83,101,114,118,105,99,101],[82,101,115,116,97,114,116],[97,108,119,97,121,115],3⟩]
def Zc3:Str:=[97,64,120,46,115,101,114,118,105,99,101]
def ZqD:Str:=[98,46,115,101,114,118,105,99,101]
def Zoi:Str:=[97,46,115,111,99,107,101,116]
def ZrG:Str:=[114,117,110]
def Zqo:Str:=[120,46,116,97,114,103,101,116]
theorem Zj2:(Xk Zc3 Qv).2=(0,0):=n12_
theorem ZkX:(Xk Zc3 Qv).1 4=.rs [(8,Zqo)]:=n12_
theorem Zjp:(Xk Zc3 Qv).1 9=.cs [(true,[ZrG,Zc3])]:=n12_
theorem Zkv:(Xk Zc3 Qv).1 14=.n 5:=n12_
theorem Zo5:(Xk Zc3 Qv).1 16=.n 90:=n12_
theorem Ziv:(Xk ZqD (Qv.take 1)).2=(12,1):=n12_
theorem ZlE:Yw Zoi 22=.n 16:=n12_
def Zhz(w:World):UC->Value->Prop
 |.s x,v=>v=.string ⟨x.toArray⟩
 |.n x,v=>v=.int .i64 x
 |.b x,v=>v=.bool x
 |.ss l,v=>∃oa cap,v=.slice oa l.length cap/\Zj w oa l/\l.length<=maxLen
 |.ns l,v=>∃oa cap,v=.slice oa l.length cap/\Qy w oa l/\l.length<=maxLen
 |.rs l,v=>∃oa cap,v=.slice oa l.length cap/\ZB Jg 2 w oa l/\l.length<=maxLen
 |.ps l,v=>∃oa cap,v=.slice oa l.length cap/\ZB Xj 2 w oa l/\l.length<=maxLen
 |.cs l,v=>∃oa cap xs,v=.slice oa l.length cap/\ZkF w oa xs l/\l.length<=maxLen
structure YA(w:World)(cs:Array Value)(u:UV):Prop where
 size:cs.size=35
 fld:∀j v,cs[j]?=some v->Zhz w (u j) v
theorem Zct{w:World}{B e k n:Nat}{v:Value}{xs:List Value}(h:w.ownsRow B e k v n xs):n<=maxLen:=by
 rcases h.2 with ⟨_,h0⟩|⟨g,cap,cur,_,_,_,h1,h2,_⟩
 ·rw [h0];exact Nat.zero_le _
 ·exact Nat.le_trans h1 h2
theorem Yg.see{w:World}{F:Nat->Prop}:∀{c:UC} {v:Value},Yg w F c v->Zhz w c v
 |.s _,_,h=>h
 |.n _,_,h=>h
 |.b _,_,h=>h
 |.ss l,v,h=>by obtain ⟨oa,cap,rfl⟩:=ownsRow_form h.1;exact ⟨oa,cap,rfl,Zj.of_own h.1,Zct h.1⟩
 |.ns l,v,h=>by obtain ⟨oa,cap,rfl⟩:=ownsRow_form h.1;exact ⟨oa,cap,rfl,Qy.of_own h.1,Zct h.1⟩
 |.rs l,v,h=>by obtain ⟨oa,cap,rfl⟩:=ownsRow_form h.1;exact ⟨oa,cap,rfl,ZB.of_own (enc:=Jg) (k:=2) (fun _=>rfl) h.1,Zct h.1⟩
 |.ps l,v,h=>by obtain ⟨oa,cap,rfl⟩:=ownsRow_form h.1;exact ⟨oa,cap,rfl,ZB.of_own (enc:=Xj) (k:=2) (fun _=>rfl) h.1,Zct h.1⟩
 |.cs l,v,h=>by
  obtain ⟨xs,hl,ho,_,hc⟩:=h;rw [<-hl] at ho;obtain ⟨oa,cap,rfl⟩:=ownsRow_form ho;refine ⟨oa,cap,xs,by rw [hl],⟨hl,ZB.of_own (enc:=ZjN) (k:=2) (fun _=>rfl) ho,fun i h1 h2=>?_⟩,by rw [<-hl];exact Zct ho⟩;have q:=hc i h1 h2;refine ⟨q.dash,q.wn,?_,?_⟩
  ·have:=q.row;exact Zj.of_own this
  ·have:=Zct q.row;rw [q.wn] at this;exact this
theorem YO.see{w:World}{cs:Array Value}{u:UV}(h:YO w cs u):YA w cs u:=⟨h.size,fun j v hv=>(h.fld j v hv).see⟩
theorem Zhz.below{w w':World}(hb:Below w.heap.size w w'):∀{c:UC} {v:Value},Zhz w c v->Zhz w' c v
 |.s _,_,h=>h
 |.n _,_,h=>h
 |.b _,_,h=>h
 |.ss _,_,⟨oa,cap,e,h,q⟩=>⟨oa,cap,e,h.below hb,q⟩
 |.ns _,_,⟨oa,cap,e,h,q⟩=>⟨oa,cap,e,h.fr (M:=fun _=>False) (Fr.of_below hb _) (fun _ _ _ e=>e),q⟩
 |.rs _,_,⟨oa,cap,e,h,q⟩=>⟨oa,cap,e,h.below hb,q⟩
 |.ps _,_,⟨oa,cap,e,h,q⟩=>⟨oa,cap,e,h.below hb,q⟩
 |.cs _,_,⟨oa,cap,xs,e,h,q⟩=>⟨oa,cap,xs,e,⟨h.len,h.row.below hb,fun i h1 h2=>let s:=h.see i h1 h2;⟨s.dash,s.wn,s.row.below hb,s.few⟩⟩,q⟩
theorem ZmN{w w':World}{oa:Option Addr}{xs:List Zdx}{l:List Zbx}(hb:Below w.heap.size w w')(h:ZkF w oa xs l):ZkF w' oa xs l:=⟨h.len,h.row.below hb,fun i h1 h2=>let s:=h.see i h1 h2;⟨s.dash,s.wn,s.row.below hb,s.few⟩⟩
theorem YA.below{w w':World}{cs:Array Value}{u:UV}(h:YA w cs u)(hb:Below w.heap.size w w'):YA w' cs u:=⟨h.size,fun j v hv=>(h.fld j v hv).below hb⟩
theorem YA.at{w:World}{cs:Array Value}{u:UV}(h:YA w cs u)(j:Nat)(hj:j<35):∃v,cs[j]?=some v/\Zhz w (u j) v:=
 ⟨_,Array.getElem?_eq_getElem n117_,h.fld j _ (Array.getElem?_eq_getElem n117_)⟩
theorem Xf{a:Act}{s:Nat}{v:Value}(h:a.tmps[s]?=some v):a.eval (.tmp s)=v/\a.tmps.getD s undef=v:=by
 have:a.tmps.getD s undef=v:=by rw [Array.getD_eq_getD_getElem?,h];rfl
 exact ⟨this,this⟩
def ZoU(l:List Int)(p:Int×Bool):UC:=if p.2=true then .ns (l++[p.1]) else .ns []
theorem ZmX(U j:Nat)(cs:Array Value)(F:Nat->Prop)(l:List Int)(v:Value)(w:World)(hb:w.heap[U]?=some (.cells cs 30 (0,0)))(hj:cs[j]?=some v)(hv:Yg w F (.ns l) v)(hFU:¬F U)(hF:∀k,F k->k<w.heap.size)(sec key val:Str)(at_:Int)(hkey:key∈Jo)
  (hval:val.length<=100000000) (hl:l.length<=100000)
  (hT:ZaN key=none) (hC:XZ key=none) (hS:ZaV key=some j) (b0:(key==[83,117,99,99,101,115,115,69,120,105,116,83,116,97,116,117,115])=false) (b1:(key==[76,105,115,116,101,110,83,116,114,101,97,109])=false) (b2:(key==[69,110,118,105,114,111,110,109,101,110,116])=false) (b3:(key==[79,110,67,97,108,101,110,100,97,114])=false) :
  Calls prog 40 #[.pointer (some ⟨U,0,none⟩),.agg #[.string ⟨sec.toArray⟩,.string ⟨key.toArray⟩,.string ⟨val.toArray⟩,.int .i64 at_]] w fun e w'=>e=.returned (.tuple #[])/\Zh w w' U cs j F (ZoU l (YT val)):=by
 obtain ⟨i0,hi0,hz0,hz1,hz2⟩:=info_parts ZaF;have hUl:=Zg hb;have hjs:j<cs.size:=(Array.getElem?_eq_some_iff.1 hj).1;obtain ⟨X,hX⟩:=e_ w.heap.size;have HTX:=h_ (fun W=>Jf U W key hkey);have HCX:=h_ (fun W=>X6 U W key hkey);have HSX:=h_ (fun W=>Je U W key hkey);rw [hT] at HTX;rw [hC] at HCX;rw [hS] at HSX;simp only [Option.map_some,Option.map_none] at HTX HCX HSX;have hB0:Below w.heap.size w (w.alloc (.cells #[.string ⟨sec.toArray⟩,.string ⟨key.toArray⟩,.string ⟨val.toArray⟩,.int .i64 at_] 41)):=b_.alloc l_ _;have hx0:=heap_alloc_new w (.cells #[.string ⟨sec.toArray⟩,.string ⟨key.toArray⟩,.string ⟨val.toArray⟩,.int .i64 at_] 41);have hwl:(Zc val).length<=100000001:=n43_;have hw0:val=[]->Zc val=[]:=fun h=>n81_
 have HBL:=h_ (ZN ⟨val.toArray⟩ ⟨#[32]⟩ (w.alloc (.cells #[.string ⟨sec.toArray⟩,.string ⟨key.toArray⟩,.string ⟨val.toArray⟩,.int .i64 at_] 41)) n26_ d_ (Zc val) (Yd [32] rfl val []));unfold YJ at HBL;obtain ⟨ws,hws⟩:=e_ (Zc val);rw [<-hws] at HBL hw0 hwl;(try rw [<-hws]);have HB0:=h_ hB0;have HX0:=h_ (show (w.alloc (.cells #[.string ⟨sec.toArray⟩,.string ⟨key.toArray⟩,.string ⟨val.toArray⟩,.int .i64 at_] 41)).heap[X]?=some (.cells #[.string ⟨sec.toArray⟩,.string ⟨key.toArray⟩,.string ⟨val.toArray⟩,.int .i64 at_] 41 (0,0)) by rw [hX];exact hx0);have HB:=h_ hb;have HV:=h_ hv;have HFU:=h_ hFU;have HF:=h_ hF;have HW0:=h_ hw0;have HXX:=h_ hX;have HJ:=h_ hj;have HT:=h_ hT;have HWS:=h_ hws;obtain ⟨c0,c1,c2,-⟩:=Ym hx0;clear hB0 hx0 hb hv hFU hF hT hC hS hw0 hj hws;go_enter func40,ntmps40;clear hX;go_wp2_with fail;refine HBL.out.mono ?_;rintro e w1 ⟨hb1,v1,rfl,hrow⟩;obtain ⟨ob,capb,rfl⟩:=ownsRow_form hrow;have hX:=HXX.out;rw [<-hX];have hB1:Below w.heap.size w w1:=HB0.out.trans (hb1.mono HB0.out.size);have hx1:=Za HX0.out hb1;have hbu:=Za HB.out hB1;have hv1:Yg w1 F _ v:=HV.out.fr (M:=fun _=>False) (Fr.of_below hB1 _) (fun _ _ e=>e);have hF1:∀k,F k->k<w1.heap.size:=fun k hk=>Nat.lt_of_lt_of_le (HF.out k hk) hB1.size
 have hsr:=Zj.of_own hrow;have hob:∀b o,ob=some (⟨b,o,none⟩:Addr)->w.heap.size<=b:=fun b o e=>by
  have h:=(hrow.lt b n100_).1
  have:=HB0.out.size
  omega
 have HSW:=h_ (fun V c (h:Zh w1 V U cs j F c)=>show Zj V ob ws from hsr.frM h.frame (fun b o e=>by
  have h1:=hob b o e;rintro (h|h)
  ·omega
  ·have:=HF.out b h;omega))
 have HXV:=h_ (fun V c (h:Zh w1 V U cs j F c)=>show V.heap[X]?=some (.cells #[.string ⟨sec.toArray⟩,.string ⟨key.toArray⟩,.string ⟨val.toArray⟩,.int .i64 at_] 41 (0,0)) from h.frame.heap hx1 (by
  rintro (h|h)
  ·omega
  ·have:=HF.out X h;omega))
 have HFIN:=h_ (fun V c (h:Zh w1 V U cs j F c)=>show Zh w V U cs j F c from Zh.below hB1 h);have HP0:=h_ (Zh.refl hbu HJ.out hv1 hF1);have HBU:=h_ hbu;have HF1:=h_ hF1;have HV1:=h_ hv1;have HJ1:=h_ HJ.out;obtain ⟨c0,c1,c2,-⟩:=Ym hx1;clear c0 hX hB1 hb1 hx1 hbu hv1 hF1 hsr hob hrow HB0 HX0 HBL HV HXX HB;go_wp2_with fail;refine (HTX.out _).mono ?_;rintro e w1 ⟨rfl,rfl⟩;go_wp2_with fail;refine (HCX.out _).mono ?_;rintro e w1 ⟨rfl,rfl⟩;go_wp2_with fail;refine (HSX.out _).mono ?_;rintro e w1 ⟨rfl,rfl⟩;obtain ⟨n,ok,hno⟩:∃n ok,YT val=(n,ok):=⟨_,_,rfl⟩;have HSP:=h_ (fun W=>Zcj ⟨val.toArray⟩ W n26_ n ok hno);have HN:=h_ (show ZoU l (YT val)=if ok=true then .ns (l++[n]) else .ns [] by rw [hno];rfl);clear hno;go_wp2_with fail;refine (HSP.out _).mono ?_;rintro e w3 ⟨rfl,hb3⟩;have hbu:=Za HBU.out hb3;have HB3:=h_ hb3;obtain ⟨g1,f4,s4,_⟩:=rd hbu;have f40:=f4 j;have q4:=(g1 j).trans HJ.out;cases ok with
 |false=>
  have HP:=h_ (Zh.below hb3 (Zh.of_store (j:=j) (F:=F) (F':=fun _=>False) (c:=.ns []) (v:=.slice none 0 0) hbu rfl (Fr.refl _ _) ⟨World.ownsRow_nil _ _ _ _,fun g hg=>by simp [Value.ownBlock] at hg⟩ (fun k hk=>hk.elim) (fun e=>e)));clear g1 f4 hb3 hbu;obtain ⟨c0,c1,c2,-⟩:=Ym (HXV.out _ _ HP.out);clear c0;go_wp2_with fail;go_end0;exact ⟨rfl,n111_⟩
 |true=>
  obtain ⟨hown,hin⟩:=HV1.out;obtain ⟨oa,cap,rfl⟩:=ownsRow_form hown;obtain ⟨oa3,cap3,w4,hrun,hb4,hf4,hown4,hF4,hU4,-⟩:=Qn (P:=prog) 26 26 3 i0 (.int .i64 0) 1 8 underlying26 hi0 hz0 hz1 hz2 n19_ d_ hbu (Zp hown hb3) hin HFU.out o_ d_ [.int .i64 n] rfl n47_;have HRUN:=h_ hrun;have hc4:Yg w4 (fun g=>(Value.slice oa3 (l.length+1) cap3).ownBlock=some g) (.ns (l++[n])) (.slice oa3 (l.length+1) cap3):=⟨by rw [List.length_append];unfold Xh;rw [List.map_append];exact hown4,fun g hg=>hg⟩;have HP:=h_ (Zh.below hb3 (Zh.of_store (j:=j) hb4 rfl hf4 hc4 hF4 hU4));obtain ⟨g2,f5,s5,_⟩:=rd hb4;have f50:=f5 j;have q5:=(g2 j).trans HJ.out;clear g1 f4 hb3 hbu hown hin hrun hb4 hf4 hown4 hF4 hU4 hc4 g2 f5;obtain ⟨c0,c1,c2,-⟩:=Ym (HXV.out _ _ HP.out);clear c0;go_wp2_with (at_builtin;refine wpList_append_run rfl _ _ 26 rfl HRUN.out rfl rfl ?_);go_wp2_with fail;go_end0;exact ⟨rfl,n111_⟩
end Go.Proofs.YtgoooebfhdbbkaaGreatDoor
