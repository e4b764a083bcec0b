import Derived.Deep.LoopGhost
import Derived.Lib.SmallJoins
import Derived.IntWalk
import Derived.StillTailTactics
import Derived.Deep.QuietTactic
import Derived.BigQuiet
import Derived.Deep.RegionHeld3
import Derived.Test.YtgoooebfhdbbkaaGreatDoorUM1
import Derived.Test.YtgoooebfhdbbkaaGreatDoorUM4
import Derived.Test.YtgoooebfhdbbkaaGreatDoorUM5
import Derived.Test.YtgoooebfhdbbkaaGreatDoorUM8
import Derived.Test.YtgoooebfhdbbkaaGreatDoorUM22
import Derived.Test.YtgoooebfhdbbkaaGreatDoorUM27
import Derived.Test.YtgoooebfhdbbkaaGreatDoorUM28
namespace Go.Proofs.YtgoooebfhdbbkaaGreatDoor
open Go.Proofs.Tryz
open Go Go.RowKit
set_option linter.unusedVariables false
set_option linter.unusedSimpArgs false
set_option maxHeartbeats 16000000
set_option maxRecDepth 100000
theorem m89_{p:Prop}(h:p:=by go_enter func47,ntmps47;go_wp2;go_ret;exact ⟨rfl,rfl⟩):p:=h
theorem ZgU(c:UInt8)(w:World) :
  Calls prog 98 #[.int .u8 c.toNat] w fun e w'=>e=.returned (.bool (Yp c))/\w=w':=by
 go_enter func98,ntmps98;go_wp2;all_goals
  go_ret;refine ⟨Y3 ?_,rfl⟩;rw [ZdX,Bool.eq_iff_iff];simp;omega
theorem Zae(c:UInt8)(w:World) :
  Calls prog 79 #[.int .u8 c.toNat] w fun e w'=>e=.returned (.bool (isDigit c))/\w=w':=by
 go_enter func79,ntmps79;go_wp2;all_goals
  go_ret;refine ⟨Y3 ?_,rfl⟩;rw [Zer,Bool.eq_iff_iff];simp;omega
theorem Znc(c:UInt8):([58,45,95,46,92]:Str).contains c=decide ((c.toNat:Int)=58\/(c.toNat:Int)=45\/(c.toNat:Int)=95\/(c.toNat:Int)=46\/(c.toNat:Int)=92):=by
 rw [Bool.eq_iff_iff,List.contains_iff_mem];simp [<-UInt8.toNat_inj];omega
theorem JY(c:UInt8)(w:World)(b:Bool)(hb:ZcK c=b) :
  Calls prog 48 #[.int .u8 c.toNat] w fun e w'=>e=.returned (.bool b)/\w=w':=by
 subst hb;have HL:=h_ (fun W=>ZgU c W);have HD:=h_ (fun W=>Zae c W);unfold ZcK;rw [Znc];have hc:=UInt8.toNat_lt c;generalize Yp c=l at *;generalize isDigit c=d at *;generalize c.toNat=n at *;cases l with
 |true=>
  go_enter func48,ntmps48;go_wp2_with (go_at_call 98;refine (HL.out _).mono ?_;rintro e w' ⟨rfl,rfl⟩);go_ret;exact ⟨rfl,rfl⟩
 |false=>
  cases d with
  |true=>
   go_enter func48,ntmps48;go_wp2_with (first
    |(go_at_call 98;refine (HL.out _).mono ?_;rintro e w' ⟨rfl,rfl⟩)
    |(go_at_call 79;refine (HD.out _).mono ?_;rintro e w' ⟨rfl,rfl⟩))
   go_ret;exact ⟨rfl,rfl⟩
  |false=>
   go_enter func48,ntmps48;go_wp2_with (first
    |(go_at_call 98;refine (HL.out _).mono ?_;rintro e w' ⟨rfl,rfl⟩)
    |(go_at_call 79;refine (HD.out _).mono ?_;rintro e w' ⟨rfl,rfl⟩))
   all_goals
    go_ret;refine ⟨Y3 ?_,rfl⟩;rw [Bool.eq_iff_iff];simp;try omega
def Zpf(n:Int):Str:=if n=1 then ZdD else if n=2 then ZfA else if n=3 then Zig else if n=4 then ZfB else []
theorem ZdE(k:Nat):Zpf (k:Int)=Yt k:=by
 unfold Zpf Yt;by_cases h1:k=1
 ·subst h1;rfl
 by_cases h2:k=2
 ·subst h2;rfl
 by_cases h3:k=3
 ·subst h3;rfl
 by_cases h4:k=4
 ·subst h4;rfl
 rw [if_neg o_,if_neg o_,if_neg o_,if_neg o_,if_neg h1,if_neg h2,if_neg h3,if_neg h4]
theorem ZaL(n:Int)(w:World)(t:Str)(ht:Zpf n=t) :
  Calls prog 47 #[.int .i64 n] w fun e w'=>e=.returned (.string ⟨t.toArray⟩)/\w=w':=by
 subst ht;by_cases h1:n=1
 ·subst h1
  exact m89_
 by_cases h2:n=2
 ·subst h2
  clear h1;exact m89_
 by_cases h3:n=3
 ·subst h3
  clear h1 h2;exact m89_
 by_cases h4:n=4
 ·subst h4
  clear h1 h2 h3;exact m89_
 have e:Zpf n=[]:=by unfold Zpf;rw [if_neg h1,if_neg h2,if_neg h3,if_neg h4]
 rw [e];have q1:(n==1)=false:=n56_;have q2:(n==2)=false:=n57_;have q3:(n==3)=false:=n39_;have q4:(n==4)=false:=n40_;clear e h1 h2 h3 h4;exact m89_
theorem m104_{p:Prop}(h:p:=by rintro e wr ⟨rfl,rfl⟩;go_wp2_with fail;go_ret2;exact ⟨n10_,HB.out⟩):p:=h
theorem m105_{p:Prop}(h:p:=by go_wp2_with fail;refine (HKP.out wr).mono ?_;exact m104_):p:=h
theorem Zk9(c:UInt8)(w:World)(r:Bool)(hr:ZcJ c=r):Calls prog 124 #[.int .u8 c.toNat] w fun e w'=>e=.returned (.bool r)/\w'=w:=by
 have HL:=h_ (ZgU c);have HD:=h_ (Zae c);unfold ZcJ at hr;rw [QG,QG,QG] at hr;simp only [show ((58:UInt8).toNat:Int)=58 from rfl,show ((95:UInt8).toNat:Int)=95 from rfl,show ((46:UInt8).toNat:Int)=46 from rfl] at hr;generalize Yp c=a at *;generalize isDigit c=b at *;have HR:=h_ hr;clear hr;cases a<;>cases b<;>cases h1:((c.toNat:Int)==58)<;>cases h2:((c.toNat:Int)==95)<;>cases h3:((c.toNat:Int)==46)
 all_goals
  go_enter func124,ntmps124;go_wp2_with fail;refine (HL.out w).mono ?_;rintro e w ⟨rfl,rfl⟩;go_wp2_with fail
  try
   refine (HD.out w).mono ?_;rintro e w ⟨rfl,rfl⟩;go_wp2_with fail
  go_ret;refine ⟨?_,rfl⟩;rw [<-HR.out];simp only [h1,h2,h3];rfl
theorem Zmp{B:Nat}{v:Value}{acc:Str}{w:World}(h:w.ownsRow B 5 1 v acc.length (Lib.byteCells acc)):(convert 86 9 v).run prog w=.ok (.string ⟨acc.toArray⟩) w:=by
 rcases h.2 with ⟨rfl,h0⟩|⟨g,cap,cur,rfl,hr⟩
 ·obtain rfl:acc=[]:=List.length_eq_zero_iff.1 h0
  exact run_convert_bytes_nil w _ 5 underlying86 underlying5 0 0 _ underlying9
 ·refine run_convert_bytes_back w _ _ _ ⟨g,0,none⟩ cap acc underlying86 underlying5 underlying9 (fun j hj=>?_)
  exact h.cells (g:=g) rfl j _ (by unfold Lib.byteCells;simp [List.getElem?_eq_getElem hj])
theorem Zq3:(prog.info? 5).map (fun i=>(i.zero,i.size,i.bytes))=some (some (.int .u8 0),1,1):=k_
theorem ZmU(c:UInt8)(t acc:Str)(h:c≠45)(hk:ZcJ c=false)(hno:∀a b u d,c::t=92::120::a::b::u->Xv [a,b]≠some d):gone acc (ZM (c::t))=none:=by
 by_cases hm:∃r,c::t=92::120::r
 ·obtain ⟨r,hr⟩:=hm
  rw [hr];refine Zgf r acc ?_;cases h2:Xv r with
  |none=>rfl
  |some d=>
   obtain ⟨a,b,u,e,h3⟩:=ZgK r d h2;exact absurd h3 (hno a b u d (by rw [hr,e]))
 ·exact Ze4 c t acc h hk hm
theorem Zqw(a b:UInt8):Xv [a,b]=if XF a<16/\XF b<16 then some (UInt8.ofNat (16*XF a+XF b)) else none:=by
 show (match hexOf a,hexOf b with|some x,some y=>some (UInt8.ofNat (16*x+y))|_,_=>none)=_;by_cases h1:XF a<16
 ·rw [Zcy h1]
  by_cases h2:XF b<16
  ·rw [Zcy h2,if_pos ⟨h1,h2⟩]
  ·rw [ZdV h2,if_neg (fun h=>h2 h.2)]
 ·rw [ZdV h1,if_neg (fun h=>h1 h.1)]
theorem byteCells_snoc(l:Str)(c:UInt8):Lib.byteCells l++[.int .u8 c.toNat]=Lib.byteCells (l++[c]):=by unfold Lib.byteCells;simp
theorem Zqp(x:Nat)(h:x<256):((UInt8.ofNat x).toNat:Int)=x:=by
 rw [UInt8.toNat_ofNat'];omega
theorem ZlB(s:ByteArray)(w:World)(hs:s.size<=1000000000)(r:Option Str)(hr:ZM s.data.toList=r) :
  Calls prog 77 #[.string s] w fun e w'=>e=.returned (.tuple #[.string ⟨(r.getD []).toArray⟩,.bool r.isSome])/\Below w.heap.size w w':=by
 obtain ⟨i0,hi,hz0,hz1,hz2⟩:=info_parts Zq3;have HS:=h_ (show gone [] (ZM (s.data.toList.drop 0))=r by rw [Zdo];exact hr);have HO0:=h_ (World.ownsRow_nil w w.heap.size 5 1);clear hr;go_enter func77,ntmps77;go_wp2_with fail;go_loopg [4,5] (s.size+1) (fun f v i wr=>∃(k:Nat) (acc:Str),i=.int .i64 k/\k<=s.size/\s.size-k<f/\acc.length<=k/\Hid (gone acc (ZM (s.data.toList.drop k))=r)/\Hid (wr.ownsRow w.heap.size 5 1 v acc.length (Lib.byteCells acc))/\Hid (Below w.heap.size w wr))
 case atStart=>exact ⟨0,[],rfl,o_,o_,s_,HS,HO0,h_ b_⟩
 case round=>
  obtain ⟨k,acc,rfl,hk,hfu,hacc,HQ,HO,HB⟩:=hrel;clear HS HO0;by_cases hlt:k<s.size
  ·have hz:(k:Int)<(s.size:Int):=o_
   have hd:=drop_cons s k hlt;obtain ⟨c,hc⟩:=e_ (s[k]);obtain ⟨t,ht⟩:=e_ (s.data.toList.drop (k+1));rw [<-hc,<-ht] at hd;have HD:=h_ hd;have HT:=h_ ht;have HC:=h_ hc;clear hd hc ht;by_cases h45:c=45
   ·have HN:=h_ (show gone (acc++[47]) (ZM (s.data.toList.drop (k+1)))=r by rw [<-HQ.out,HD.out,h45,Ze9,HT.out])
    have hq:((s[k].toNat:Int)==45)=true:=by rw [<-HC.out,h45];rfl
    have hown0:=HO.out;have hsz2:=HB.out.size;go_wp2_with (at_builtin;refine wpList_append_own _ rfl _ _ 86 rfl w.heap.size 5 i0 (.int .u8 0) 1 1 underlying86 hi hz0 hz1 hz2 rfl d_ _ _ _ rfl (hown0.alloc _) ⟨wr.heap.size,0,none⟩ 1 1 [.int .u8 (47:UInt8).toNat] rfl rfl n38_ n30_ n20_ o_ n2_ ?_);intro v' w3 hown' hgrow hnil;have HB3:=h_ ((HB.out.alloc hsz2 _).grown hgrow n2_ (fun g hg=>(hown0.lt g hg).1));have HO3:=h_ (show w3.ownsRow w.heap.size 5 1 v' (acc++[(47:UInt8)]).length (Lib.byteCells (acc++[47])) by
     rw [List.length_append,<-byteCells_snoc];exact hown')
    clear hgrow hnil hown' hown0 HO HB;go_wp2_with fail;go_roundg (s.size-k)
    case measure=>omega
    case rel=>exact ⟨k+1,acc++[47],n14_,o_,o_,n2_,HN,HO3,HB3⟩
   ·have hq:((s[k].toNat:Int)==45)=false:=by rw [<-HC.out,beq_eq_false_iff_ne];intro e;exact h45 (UInt8.toNat_inj.1 (by show c.toNat=45;omega))
    obtain ⟨kb,hkb⟩:∃kb,ZcJ c=kb:=⟨_,rfl⟩;have HKP:=h_ (fun W=>Zk9 s[k] W kb (by rw [<-HC.out];exact hkb));cases kb with
    |true=>
     have HN:=h_ (show gone (acc++[s[k]]) (ZM (s.data.toList.drop (k+1)))=r by rw [<-HQ.out,HD.out,<-HC.out,ZeQ _ _ _ h45 hkb,HT.out]);clear hkb h45;go_wp2_with fail;refine (HKP.out wr).mono ?_;rintro e wr ⟨rfl,rfl⟩;have hown0:=HO.out;have hsz2:=HB.out.size;go_wp2_with (at_builtin;refine wpList_append_own _ rfl _ _ 86 rfl w.heap.size 5 i0 (.int .u8 0) 1 1 underlying86 hi hz0 hz1 hz2 rfl d_ _ _ _ rfl (hown0.alloc _) ⟨wr.heap.size,0,none⟩ 1 1 [.int .u8 (s[k]:UInt8).toNat] rfl rfl n38_ n30_ n20_ o_ n2_ ?_);intro v' w3 hown' hgrow hnil;have HB3:=h_ ((HB.out.alloc hsz2 _).grown hgrow n2_ (fun g hg=>(hown0.lt g hg).1));have HO3:=h_ (show w3.ownsRow w.heap.size 5 1 v' (acc++[(s[k]:UInt8)]).length (Lib.byteCells (acc++[s[k]])) by
      rw [List.length_append,<-byteCells_snoc];exact hown')
     clear hgrow hnil hown' hown0 HO HB;go_wp2_with fail;go_roundg (s.size-k)
     case measure=>omega
     case rel=>exact ⟨k+1,acc++[s[k]],n14_,o_,o_,n2_,HN,HO3,HB3⟩
    |false=>
     have HNO:=h_ (fun h=>show r=none from by rw [<-HQ.out,HD.out];exact ZmU c t acc h45 hkb h);clear hkb h45;by_cases h92:c=92
     ·have g1:((s[k].toNat:Int)==92)=true:=by rw [<-HC.out,h92];rfl
      by_cases h4:k+4<=s.size
      ·have hl4:(4:Int)<=(s.size:Int)-(k:Int):=o_
       have i1:(k:Int)+1<(s.size:Int):=o_;have i2:(k:Int)+2<(s.size:Int):=o_;have i3:(k:Int)+3<(s.size:Int):=o_;have HT2:=h_ (show t=s[k+1]::s[k+2]::s[k+3]::s.data.toList.drop (k+4) by rw [HT.out,drop_cons s (k+1) o_,drop_cons s (k+2) o_,drop_cons s (k+3) o_]);have HX2:=h_ (fun W=>Zbq s[k+2] W);have HX3:=h_ (fun W=>Zbq s[k+3] W);have ha16:=ZiF s[k+2];have hb16:=ZiF s[k+3];have HF:=h_ (fun (h:s[k+1]≠120\/Xv [s[k+2],s[k+3]]=none)=>show r=none from HNO.out (fun a b u d e=>by
        rw [HT2.out] at e;injection e with e1 e2;injection e2 with e2 e3;injection e3 with e3 e4;injection e4 with e4 e5
        subst e3;subst e4;rcases h with h|h
        ·exact absurd e2 h
        ·rw [h];intro x;cases x))
       have HOK:=h_ (fun d (h:s[k+1]=120) (h2:Xv [s[k+2],s[k+3]]=some d)=>show gone (acc++[d]) (ZM (s.data.toList.drop (k+4)))=r by rw [<-HQ.out,HD.out,h92,HT2.out,h];exact (Ze6 _ _ _ _ _ h2).symm);clear HNO HT2 HT HD HC h92;by_cases hx:s[k+1]=120
       ·have g2:((s[k+1].toNat:Int)==120)=true:=n6_
        have HTW:=h_ (Zqw s[k+2] s[k+3]);have HXE:=h_ hx;clear hx;generalize XF s[k+2]=na at *;generalize XF s[k+3]=nb at *;by_cases hna:na<16
        ·have hna2:(na:Int)<16:=o_
         by_cases hnb:nb<16
         ·have hnb2:(nb:Int)<16:=o_
          obtain ⟨d,hd⟩:=e_ (UInt8.ofNat (16*na+nb));have hdn:(d.toNat:Int)=16*(na:Int)+(nb:Int):=by rw [hd,Zqp _ o_];omega
          have HN:=h_ (HOK.out d HXE.out (by rw [HTW.out,if_pos ⟨hna,hnb⟩,hd]));have hw8:IntKind.u8.wrap (16*(na:Int)+(nb:Int))=(d.toNat:Int):=by
           rw [hdn];exact IntWalk.u8_in _ o_
          clear hd HF HOK HTW;go_wp2_with fail;refine (HKP.out wr).mono ?_;rintro e wr ⟨rfl,rfl⟩;go_wp2_with fail;refine (HX2.out _).mono ?_;rintro e wr ⟨rfl,rfl⟩;go_wp2_with fail;refine (HX3.out _).mono ?_;rintro e wr ⟨rfl,rfl⟩;go_wp2_with fail;obtain ⟨oa,cap,rfl⟩:=ownsRow_form HO.out;have w2:IntKind.i64.wrap ((k:Int)+2)=(k:Int)+2:=IntWalk.i64_in _ o_;have w3:IntKind.i64.wrap ((k:Int)+3)=(k:Int)+3:=IntWalk.i64_in _ o_;have t2:((k:Int)+2).toNat=k+2:=o_;have t3:((k:Int)+3).toNat=k+3:=o_;have w4:IntKind.i64.wrap (16*(na:Int))=16*(na:Int):=IntWalk.i64_in _ o_;have w5:IntKind.i64.wrap (16*(na:Int)+(nb:Int))=16*(na:Int)+(nb:Int):=IntWalk.i64_in _ o_;refine Zi (S:=fun V=>Below wr.heap.size wr V) 15 k_ k_ (Zb ⟨1,rfl⟩) (fun hHeld=>?_);refine u_ ?_;(iterate 5 refine dN_ 0 (gT_ rfl) (fun W hW=>by clear hW;go_simp;rfl) (u_ ?_));(iterate 4 refine dN_ 2 (gT_ rfl) (fun W hW=>by clear hW;go_simp;rfl) (u_ ?_));refine Zq (i:=5) (gT_ rfl) k_ k_ (fun K hK=>?_);clear hHeld;rw [if_pos n19_];go_simp;refine (HX2.out _).mono ?_;rintro e _ ⟨rfl,rfl⟩;refine hK.out _ _ (Zb ⟨1,rfl⟩) (fun hHeld=>?_);clear hK K;refine u_ ?_;refine dT_ (i:=6) (v:=.int .i64 (16*(na:Int))) (gT_ rfl) (fun W hW=>by clear hW;go_simp) (u_ ?_);refine Zq (i:=11) (gT_ rfl) k_ k_ (fun K hK=>?_);clear hHeld;rw [if_pos n19_];go_simp;refine (HX3.out _).mono ?_;rintro e _ ⟨rfl,rfl⟩;refine hK.out _ _ (Zb ⟨1,rfl⟩) (fun hHeld=>?_);clear hK K;refine u_ ?_;(iterate 2 refine dN_ 0 (gT_ rfl) (fun W hW=>by clear hW;go_simp;rfl) (u_ ?_));refine Zq (i:=14) (gT_ rfl) k_ k_ (fun K hK=>?_);clear hHeld;rw [if_pos n19_];go_simp;rw [<-hdn];refine hK.out _ _ ((b_.alloc l_ _).trans (Zb ⟨1,rfl⟩)) (fun hHeld=>?_);clear hK K;refine u_ ?_;have HB5:=h_ (show Below wr.heap.size wr (wr.alloc (.cells #[.int .u8 d.toNat] 5)).drew from ((Below.refl wr.heap.size wr).alloc l_ (.cells #[.int .u8 d.toNat] 5)).trans (Zb (a:=wr.alloc (.cells #[.int .u8 d.toNat] 5)) ⟨1,rfl⟩));have hz5:(wr.alloc (.cells #[.int .u8 d.toNat] 5)).drew.heap.size=wr.heap.size+1:=s_;have hc5:=cell_one_new wr (.int .u8 d.toNat) 5;refine Zr k_ ?_;clear hHeld;have hown0:=HO.out;have hsz2:=HB.out.size;have hcells:∀j u,([.int .u8 d.toNat]:List Value)[j]?=some u->(wr.alloc (.cells #[.int .u8 d.toNat] 5)).drew.cell? ((⟨wr.heap.size,0,none⟩:Addr).add j)=some u:=by exact hc5
          generalize (wr.alloc (.cells #[.int .u8 d.toNat] 5)).drew=w5 at *;change wpList _ _ _ (_::_) _ _;refine wpList_append_own _ rfl _ _ 86 rfl w.heap.size 5 i0 (.int .u8 0) 1 1 underlying86 hi hz0 hz1 hz2 rfl d_ _ _ _ rfl (Zp hown0 HB5.out) ⟨wr.heap.size,0,none⟩ 1 1 [.int .u8 d.toNat] rfl rfl (by exact hcells) n30_ n20_ o_ o_ ?_;intro v' w6 hown' hgrow hnil;have HB6:=h_ ((HB.out.trans (HB5.out.mono hsz2)).grown hgrow o_ (fun g hg=>(hown0.lt g hg).1));have HO6:=h_ (show w6.ownsRow w.heap.size 5 1 v' (acc++[d]).length (Lib.byteCells (acc++[d])) by
           rw [List.length_append,<-byteCells_snoc];exact hown')
          clear hgrow hnil hown' hown0 HO HB HB5 hcells hc5;go_wp2_with fail;go_roundg (s.size-k)
          case measure=>omega
          case rel=>exact ⟨k+4,acc++[d],n14_,o_,o_,n2_,HN,HO6,HB6⟩
         ·have hnb2:¬((nb:Int)<16):=o_
          have HR:=h_ (HF.out (.inr (by rw [HTW.out,if_neg (fun h=>hnb h.2)])));go_wp2_with fail;refine (HKP.out wr).mono ?_;rintro e wr ⟨rfl,rfl⟩;go_wp2_with fail;refine (HX2.out _).mono ?_;rintro e wr ⟨rfl,rfl⟩;go_wp2_with fail;refine (HX3.out _).mono ?_;exact m104_
        ·have hna2:¬((na:Int)<16):=o_
         have HR:=h_ (HF.out (.inr (by rw [HTW.out,if_neg (fun h=>hna h.1)])));go_wp2_with fail;refine (HKP.out wr).mono ?_;rintro e wr ⟨rfl,rfl⟩;go_wp2_with fail;refine (HX2.out _).mono ?_;exact m104_
       ·have g2:((s[k+1].toNat:Int)==120)=false:=by rw [beq_eq_false_iff_ne];intro e;exact hx (UInt8.toNat_inj.1 (by show s[k+1].toNat=120;omega))
        have HR:=h_ (HF.out (.inl hx));exact m105_
      ·have hl4:¬((4:Int)<=(s.size:Int)-(k:Int)):=o_
       have HR:=h_ (HNO.out (fun a b u d h=>by
        have h2:=congrArg List.length h;rw [HT.out] at h2;simp at h2;omega))
       exact m105_
     ·have g1:((s[k].toNat:Int)==92)=false:=by rw [<-HC.out,beq_eq_false_iff_ne];intro e;exact h92 (UInt8.toNat_inj.1 (by show c.toNat=92;omega))
      have HR:=h_ (HNO.out (fun a b u d h=>by injection h with h;exact absurd h h92));exact m105_
  ·have hz:¬((k:Int)<(s.size:Int)):=o_
   have HR:=h_ (show r=some acc by rw [<-HQ.out,List.drop_eq_nil_of_le n2_];simp [ZM,gone]);have hcv:=Zmp HO.out;go_wp2_with fail;go_ret2;exact ⟨n10_,HB.out⟩
theorem ZdC{P:Program}{id:Nat}{Q:Exit->Act->World->Prop}{a:Act}{w:World}{l:List Oper}(hm:P.follows .mixedOrders=true)(hB:Region.lexB .any l.toArray=true)
  (h:∀w2:World,w2=w.drewN 1->wpStill P l.toArray w2 (fun a'=>Q .normal a' w2) l a):(Code.region id l.toArray true).wp P Q a w:=
 wp_region_still_lit hm hB (h _ rfl)
theorem Calls.still_of{P:Program}{f:FuncId}{args:Array Value}{w:World}{v:Value}(h:Calls P f args w fun e w'=>e=.returned v/\w=w'):Calls P f args w fun e w'=>e=.returned v/\w'=w:=
 h.mono fun _ _ ⟨a,b⟩=>⟨a,b.symm⟩
theorem m106_{p:Prop}(h:p:=by
  have HE3:=h_ (HE2.out.2 hPne);have HE4:=h_ (fun q=>HE2.out.1 (.inr q));rw [<-hAd] at HE3 HE4;clear HE2 hPne hAd;go_wp2_with fail;clear hAB;go_loop [9] (fun i=>∃j:Nat,j<=AB.size/\i=.int .i64 j/\Hid ((AB.data.toList.take j).all ZcK=true)) (fun i=>AB.size-(intOf i).toNat)
  case atStart=>exact ⟨0,Nat.zero_le _,rfl,h_ s_⟩
  case round=>
   obtain ⟨j,hj,rfl,Hall⟩:=hrel;by_cases hjl:j<AB.size
   ·have hjl2:j<AB.data.toList.length:=by simpa using hjl
    have hsn:=Zco AB.data.toList j hjl2;have hgj:AB.data.toList[j]'hjl2=AB[j]:=rfl;rw [hgj] at hsn;have j5:(j:Int)<(AB.size:Int):=o_;cases hnc:ZcK AB[j] with
    |true=>
     have HN:=h_ (show (AB.data.toList.take (j+1)).all ZcK=true by rw [hsn,List.all_append,Hall.out];simp [hnc]);have HC:=h_ (fun W=>JY AB[j] W true hnc);clear hsn hgj hnc;go_wp2_with (refine (HC.out _).mono ?_;rintro e w' ⟨rfl,rfl⟩);go_round
     case rel=>exact ⟨j+1,o_,n14_,HN⟩
     case measure=>simp [intOf];omega
    |false=>
     have HZ:=h_ (show ofS s.data.toList=ZfE from HE4.out (by
      unfold Jb;rw [List.all_eq_false];exact ⟨AB[j],by rw [<-hgj];exact List.getElem_mem _,by simp [hnc]⟩))
     have HC:=h_ (fun W=>JY AB[j] W false hnc);clear hsn hgj hnc;go_wp2_with (refine (HC.out _).mono ?_;rintro e w' ⟨rfl,rfl⟩);exact m109_
   ·have HO:=h_ (show ofS s.data.toList=_ from HE3.out (by
     have:=Hall.out
     rw [List.take_of_length_le n2_] at this;exact this))
    go_wp2_with fail;refine JE rfl rfl rfl (heap_setCell (heap_setCell (heap_setCell (heap_setCell HI5.out.zero 0 _) 1 _) 2 _) 3 _) ⟨?_,?_⟩
    ·rw [HO.out];rfl
    ·exact m110_):p:=h
theorem m107_{p:Prop}(h:p:=by have hPn:=ZdN hP0;have HZ:=h_ (show ofS s.data.toList=ZfE from HE2.out.1 (.inl (by rw [hPn])));subst hPn;clear HE2 hP0;go_wp2_with fail;exact m109_):p:=h
theorem m108_{p:Prop}(h:p:=by
  go_wp2_with (go_at_call 47;refine HS.out.mono ?_;rintro e w' ⟨rfl,rfl⟩);go_roundg (gk-1)
  case measure=>omega
  case rel=>exact ⟨k+1,o_,o_,o_,n14_,by rw [R2.out],HI2⟩):p:=h
theorem m109_{p:Prop}(h:p:=by
  refine JE rfl rfl rfl (heap_setCell (heap_setCell (heap_setCell (heap_setCell HI5.out.zero 0 _) 1 _) 2 _) 3 _) ⟨?_,?_⟩
  ·rw [HZ.out];rfl
  ·exact m110_):p:=h
theorem m110_{p:Prop}(h:p:=by exact (((HI5.out.below.setCell s_ _).setCell s_ _).setCell s_ _).setCell s_ _):p:=h
def cutV(c:Zo2):Array Value:=#[.int .i64 c.kind,.string ⟨c.pre.toArray⟩,.string ⟨c.inst.toArray⟩,.bool c.at_]
structure ZbI(w wr:World)(cs:Array Value):Prop where
 below:Below w.heap.size w wr
 zero:wr.heap[w.heap.size]?=some (.cells #[.int .i64 0,.string ⟨#[]⟩,.string ⟨#[]⟩,.bool false] 57 (0,0))
 cut:wr.heap[w.heap.size+1]?=some (.cells cs 57 (0,0))
theorem ZbI.dn{w wr:World}{cs:Array Value}(h:ZbI w wr cs)(n:Nat):ZbI w (wr.drewN n) cs:=⟨h.below.trans (Zb ⟨n,rfl⟩),h.zero,h.cut⟩
theorem ZbI.set{w wr:World}{cs:Array Value}(h:ZbI w wr cs)(j:Nat)(v:Value):ZbI w (wr.setCell ⟨w.heap.size+1,j,none⟩ v) (cs.setIfInBounds j v):=
 ⟨h.below.setCell s_ _,Zk h.zero s_ _,heap_setCell h.cut j v⟩
theorem Zkh(s:ByteArray)(a b:Nat)(l:Str)(h:(s.extract a b).data.toList=l):s.extract a b=⟨l.toArray⟩:=by
 apply Yb;rw [h]
theorem JE{w:World}{b:Nat}{x:Act}{R:Ending->World->Prop}{cs:Array Value}(h4:cs.size=4)(hd:x.defers=[])(ha:x.tmps.getD 2 undef=.pointer (some ⟨b,0,none⟩))(hw:w.heap[b]?=some (.cells cs 57 (0,0)))(h:R (.returned (.agg cs)) w) :
  bodyPost prog Tryz.f23 R .ret x w:=
 X8 2 57 b (.agg cs) rfl hd ha (YI 57 _ rfl rfl (by rw [h4];rfl) hw) h
theorem ZpS(s:ByteArray)(w:World)(h:60<s.size):Calls prog 23 #[.string s] w fun e w'=>e=.returned (.agg (cutV ZfE))/\Below w.heap.size w w':=by
 go_enter func23,ntmps23;go_wp2_with fail;exact JE rfl rfl rfl (heap_alloc_new _ _) ⟨rfl,b_.alloc l_ _⟩
theorem Zpc(s:ByteArray)(w:World)(h:s.size<=60):Calls prog 23 #[.string s] w fun e w'=>e=.returned (.agg (cutV (ofS s.data.toList)))/\Below w.heap.size w w':=by
 obtain ⟨z1,z2⟩:=Zq6 s.data.toList;have hin:ZbI w ((w.alloc (.cells #[.int .i64 0,.string ⟨#[]⟩,.string ⟨#[]⟩,.bool false] 57)).alloc (.cells #[.int .i64 0,.string ⟨#[]⟩,.string ⟨#[]⟩,.bool false] 57)) (cutV ⟨kR s.data.toList 1,[],[],false⟩):=by
  rw [z1];refine ⟨(b_.alloc l_ _).alloc s_ _,heap_alloc (heap_alloc_new _ _) _,?_⟩;rw [show w.heap.size+1=(w.alloc (.cells #[.int .i64 0,.string ⟨#[]⟩,.string ⟨#[]⟩,.bool false] 57)).heap.size by simp];exact heap_alloc_new _ _
 have HIN:=h_ hin;clear hin z1;have Z2:=h_ z2;clear z2;go_enter func23,ntmps23;go_wp2_with fail;generalize (w.alloc (.cells #[.int .i64 0,.string ⟨#[]⟩,.string ⟨#[]⟩,.bool false] 57)).alloc (.cells #[.int .i64 0,.string ⟨#[]⟩,.string ⟨#[]⟩,.bool false] 57)=w1 at *;go_loopg [4,5] 6 (fun f rest i wr=>∃k:Nat,1<=k/\k<=5/\5-k<f/\i=.int .i64 k/\rest=.string ⟨(rR s.data.toList k).toArray⟩/\Hid (ZbI w wr (cutV ⟨kR s.data.toList k,[],[],false⟩)))
 case atStart=>exact ⟨1,o_,o_,o_,rfl,by rw [Z2.out],HIN⟩
 case round=>
  obtain ⟨k,h1k,hk5,hf,rfl,rfl,HI⟩:=hrel;by_cases hk4:k<=4
  ·obtain ⟨F,hF⟩:∃F:ByteArray,F=⟨(Yt k).toArray⟩:=⟨_,rfl⟩
   have HS:=h_ (ZaL (k:Int) wr (Yt k) (ZdE k));rw [<-hF] at HS;obtain ⟨E,hE⟩:∃E:ByteArray,(⟨#[46]⟩:ByteArray)++F=E:=⟨_,rfl⟩;have hEd:E.data.toList=46::Yt k:=by rw [<-hE,hF];simp [ByteArray.data_append]
   have hEz:E.size=(Yt k).length+1:=by
    have:E.data.toList.length=E.size:=s_
    rw [<-this,hEd];rfl
   have hsl:=Zfs k;have hsz:s.data.toList.length=s.size:=s_;have hF0:=hF;clear hF;by_cases hmt:(ZG s.data.toList).1≠[]/\kindOf (ZG s.data.toList).2=k
   ·have hs:=ZkN h1k hk4 hmt.1 hmt.2
    obtain ⟨r1,r2⟩:=ZpB h1k hmt.1 hmt.2;obtain ⟨hd,hhd⟩:=e_ ((ZG s.data.toList).1);rw [<-hhd] at hs r2;have hdn:0<hd.length:=List.length_pos_iff.2 (by rw [hhd];exact hmt.1);have hlen:hd.length+E.size=s.size:=by rw [<-hsz,hs,hEz];simp
    have x1:s.extract hd.length s.size=E:=by
     apply Yb;rw [Lib.extract_to_end,hs,hEd];simp
    have x2:s.extract 0 hd.length=⟨hd.toArray⟩:=Zkh s 0 _ _ (by rw [Lib.extract_data,hs];simp);have n1:(s.size:Int)-(E.size:Int)=(hd.length:Int):=o_;have n2:(E.size:Int)<(s.size:Int):=o_;have n3:IntKind.i64.wrap (hd.length:Int)=(hd.length:Int):=IntWalk.i64_in _ o_;have n4:(hd.length:Int)<=(s.size:Int):=o_;have X1:=h_ x1;have X2:=h_ x2;have R1:=h_ r1;have R2:=h_ r2;have hq:hd.length<=s.size:=o_;have hFz:F.size<=7:=by rw [hF0];show (Yt k).toArray.size<=7;simpa using hsl
    clear hs hmt hhd hsz hEd x1 x2 r1 r2 hEz hlen hF0;have h63:s.size<100:=o_;have q1:((s.extract hd.length s.size).toList==E.toList)=true:=by rw [X1.out];simp
    go_wp2_with (go_at_call 47;refine HS.out.mono ?_;rintro e w' ⟨rfl,rfl⟩);have e1:=HI.out.cut;obtain ⟨cc,fc,-,-⟩:=rd e1;have c0:=cc 0;have f0:=fc 0;simp only [cutV,List.getElem?_toArray,List.getElem?_cons_zero] at c0;clear cc fc e1;go_region_held3 (fun w'=>w'.frozen? ⟨w.heap.size+1,0,none⟩=false) (go_keep) (first|fail);have hI2:ZbI w ((wr.setCell ⟨w.heap.size+1,0,none⟩ (.int .i64 k)).drew) (cutV ⟨kR s.data.toList (k+1),[],[],false⟩):=by
     rw [R1.out];exact (HI.out.set 0 (.int .i64 k)).dn 1
    have HI2:=h_ hI2;rename_i hHeld;clear hI2 c0 f0 hHeld;generalize (wr.setCell ⟨w.heap.size+1,0,none⟩ (.int .i64 k)).drew=w2 at *;go_wp2_with fail;go_roundg (gk-1)
    case measure=>omega
    case rel=>exact ⟨k+1,o_,o_,o_,n14_,by rw [X2.out,R2.out],HI2⟩
   ·obtain ⟨r1,r2⟩:=Zq8 hmt
    have hFz:F.size<=7:=by rw [hF0];show (Yt k).toArray.size<=7;simpa using hsl
    have HI2:=h_ (show ZbI w wr (cutV ⟨kR s.data.toList (k+1),[],[],false⟩) by rw [r1];exact HI.out);have R2:=h_ r2;have h63:s.size<100:=o_;by_cases hlt2:E.size<s.size
    ·obtain ⟨n,hn⟩:∃n,n+E.size=s.size:=⟨s.size-E.size,o_⟩
     have hne:=Zlj h1k hk4 hmt n129_ n n129_;have q1:((s.extract n s.size).toList==E.toList)=false:=by
      rw [beq_eq_false_iff_ne,ByteArray.toList_eq,ByteArray.toList_eq,Lib.extract_to_end,hEd];exact hne
     have n1:(s.size:Int)-(E.size:Int)=(n:Int):=o_;have n2:(E.size:Int)<(s.size:Int):=o_;have n3:IntKind.i64.wrap (n:Int)=(n:Int):=IntWalk.i64_in _ o_;have n4:(n:Int)<=(s.size:Int):=o_;clear hmt hsz hEd r1 r2 hEz hne hF0 hn;exact m108_
    ·have n2:¬(E.size:Int)<(s.size:Int):=o_
     clear hmt hsz hEd r1 r2 hEz hF0;exact m108_
  ·have hke:k=5:=o_
   subst hke;have hlen60:s.data.toList.length<=60:=n60_;rcases ZqK s.data.toList with ⟨k1,k2⟩|⟨k1,k2,k3⟩
   ·have HZ:=h_ (show ofS s.data.toList=ZfE by unfold ofS;rw [if_pos k2])
    have hI:=HI.out;rw [k1] at hI;obtain ⟨cc,-,-,-⟩:=rd hI.cut;have c0:=cc 0;obtain ⟨dd,ff,-,-⟩:=rd hI.zero;have d0:=dd 0;have d1:=dd 1;have d2:=dd 2;have d3:=dd 3;have f0:=ff 0;have f1:=ff 1;have f2:=ff 2;have f3:=ff 3;simp only [cutV,List.getElem?_toArray,List.getElem?_cons_zero,List.getElem?_cons_succ] at c0 d0 d1 d2 d3;have HI2:=h_ hI;clear cc dd ff hI k1 k2;go_wp2_with fail;refine JE rfl rfl rfl (heap_setCell (heap_setCell (heap_setCell (heap_setCell HI2.out.zero 0 _) 1 _) 2 _) 3 _) ⟨?_,?_⟩
    ·rw [HZ.out];rfl
    ·exact (((HI2.out.below.setCell s_ _).setCell s_ _).setCell s_ _).setCell s_ _
   ·obtain ⟨RB,hRB⟩:∃RB:ByteArray,(⟨(rR s.data.toList 5).toArray⟩:ByteArray)=RB:=⟨_,rfl⟩
    have hRd:RB.data.toList=(ZG s.data.toList).1:=by rw [<-hRB,k3]
    have hRz:RB.size<1000:=by
     have h1:RB.data.toList.length=RB.size:=s_;have h2:=(Qw s.data.toList).1;rw [<-hRd,h1] at h2;omega
    have HE:=h_ (fun p i f h=>ZqO hlen60 k1 k2 p i f h);have hI:=HI.out;obtain ⟨kd,hkd⟩:=e_ (kR s.data.toList 5);rw [<-hkd] at hI k1 HE;have HRd:=h_ hRd;rw [hRB];obtain ⟨cc,ff,-,-⟩:=rd hI.cut;have c0:=cc 0;have c1:=cc 1;have f1:=ff 1;simp only [cutV,List.getElem?_toArray,List.getElem?_cons_zero,List.getElem?_cons_succ] at c0 c1;have k0:((kd:Int)==0)=false:=n3_;have HI2:=h_ (hI.set 1 (.string RB));clear cc ff hI k1 k2 k3 hRB hRd hkd HI;go_wp2_with fail;generalize wr.setCell ⟨w.heap.size+1,1,none⟩ (.string RB)=w2 at *;have HI3:=h_ (show ZbI w w2 #[.int .i64 kd,.string RB,.string ⟨#[]⟩,.bool false] from HI2.out);clear HI2 c0 c1 f1 k0;go_loop [7] (fun i=>∃k:Nat,k<=RB.size/\i=.int .i64 k/\Hid ((RB.data.toList.take k).contains 64=false)) (fun i=>RB.size-(intOf i).toNat)
    case atStart=>exact ⟨0,Nat.zero_le _,rfl,h_ s_⟩
    case round=>
     clear hk4 h1k hk5 hf;obtain ⟨k,hk,rfl,Hno⟩:=hrel;by_cases hlt:k<RB.size
     ·have hkl:k<RB.data.toList.length:=n42_
      have hsn:=Zco RB.data.toList k hkl;have hgk:RB.data.toList[k]'hkl=RB[k]:=rfl;rw [hgk] at hsn;have i5:(k:Int)<(RB.size:Int):=o_;cases hat:((RB[k].toNat:Int)==64) with
      |true=>
       have hc:RB[k]=64:=by
        rw [<-UInt8.toNat_inj]
        have:=eq_of_beq hat
        have e2:((64:UInt8).toNat:Int)=64:=rfl;omega
       have hs:RB.data.toList=RB.data.toList.take k++64::RB.data.toList.drop (k+1):=by
        conv=>lhs;rw [<-List.take_append_drop k RB.data.toList,List.drop_eq_getElem_cons hkl,hgk,hc]
       have hca:=ZlN (RB.data.toList.take k) (RB.data.toList.drop (k+1)) Hno.out;rw [<-hs,HRd.out] at hca;have HE2:=h_ (HE.out _ _ _ hca);obtain ⟨PB,hPB⟩:∃PB:ByteArray,RB.extract 0 k=PB:=⟨_,rfl⟩;obtain ⟨IB,hIB⟩:∃IB:ByteArray,RB.extract (k+1) RB.size=IB:=⟨_,rfl⟩;have hPd:PB.data.toList=RB.data.toList.take k:=by rw [<-hPB,Lib.extract_data];simp
       have hId:IB.data.toList=RB.data.toList.drop (k+1):=by rw [<-hIB,Lib.extract_to_end]
       have hPz:PB.size<1000:=by
        have h1:PB.data.toList.length=PB.size:=s_;rw [<-h1,hPd,List.length_take];omega
       have hIz:IB.size<1000:=by
        have h1:IB.data.toList.length=IB.size:=s_;have h2:RB.data.toList.length=RB.size:=s_;rw [<-h1,hId,List.length_drop,h2];omega
       rw [HRd.out] at hPd hId;rw [<-hPd,<-hId] at HE2;have HPd:=h_ hPd;have HId:=h_ hId;have i6:IntKind.i64.wrap ((k:Int)+1)=(k:Int)+1:=IntWalk.i64_in _ o_;have i7:0<=(k:Int)+1:=o_;have i8:((k:Int)+1).toNat=k+1:=o_;have i9:(k:Int)+1<=(RB.size:Int):=o_;have i10:(k:Int)<=(RB.size:Int):=o_;obtain ⟨cc,ff,-,-⟩:=rd HI3.out.cut;have f1:=ff 1;have f2:=ff 2;have f3:=ff 3;have c1:=cc 1;have c2:=cc 2;have c3:=cc 3;simp only [List.getElem?_toArray,List.getElem?_cons_zero,List.getElem?_cons_succ] at c1 c2 c3;have HPB:=h_ hPB;have HIB:=h_ hIB;clear cc ff hs hca hc hsn hgk hPd hId hPB hIB;go_wp2_with fail;go_region_held3 (fun w'=>w'.frozen? ⟨w.heap.size+1,1,none⟩=false/\w'.frozen? ⟨w.heap.size+1,2,none⟩=false/\w'.frozen? ⟨w.heap.size+1,3,none⟩=false) (go_keep) (first|fail);have hI5:ZbI w (((w2.setCell ⟨w.heap.size+1,3,none⟩ (.bool true)).setCell ⟨w.heap.size+1,1,none⟩ (.string PB)).setCell ⟨w.heap.size+1,2,none⟩ (.string IB)).drew #[.int .i64 kd,.string PB,.string IB,.bool true]:=(((HI3.out.set 3 (.bool true)).set 1 (.string PB)).set 2 (.string IB)).dn 1;have HI5:=h_ hI5;rename_i hHeld;clear hI5 hHeld c1 c2 c3 f1 f2 f3;rw [HPB.out,HIB.out];clear HPB HIB;generalize (((w2.setCell ⟨w.heap.size+1,3,none⟩ (.bool true)).setCell ⟨w.heap.size+1,1,none⟩ (.string PB)).setCell ⟨w.heap.size+1,2,none⟩ (.string IB)).drew=w5 at *;obtain ⟨cc,-,-,-⟩:=rd HI5.out.cut;have c0:=cc 0;have c1:=cc 1;have c2:=cc 2;have c3:=cc 3;obtain ⟨dd,ff,-,-⟩:=rd HI5.out.zero;have d0:=dd 0;have d1:=dd 1;have d2:=dd 2;have d3:=dd 3;have f0:=ff 0;have f1:=ff 1;have f2:=ff 2;have f3:=ff 3;simp only [List.getElem?_toArray,List.getElem?_cons_zero,List.getElem?_cons_succ] at c0 c1 c2 c3 d0 d1 d2 d3;clear cc dd ff;by_cases hP0:PB.size=0
       ·exact m107_
       ·obtain ⟨n1,n2,n3,n4⟩:=QX hP0
        have hPne:PB.data.toList≠[]:=by rw [ByteArray.toList_eq] at n2;exact n2
        obtain ⟨AB,hAB⟩:∃AB:ByteArray,PB++IB=AB:=⟨_,rfl⟩;have hAd:AB.data.toList=PB.data.toList++IB.data.toList:=by rw [<-hAB];simp [ByteArray.data_append]
        have hAz:AB.size<2000:=by
         have h1:AB.size=PB.size+IB.size:=by rw [<-hAB,ByteArray.size_append]
         omega
        exact m106_
      |false=>
       have hc:RB[k]≠64:=by
        intro e;rw [e] at hat;exact absurd hat d_
       have HN:=h_ (show (RB.data.toList.take (k+1)).contains 64=false by
        rw [hsn,List.contains_append,Hno.out];simp;exact fun e=>hc e.symm)
       clear hsn hgk hc;go_wp2_with fail;go_round
       case rel=>exact ⟨k+1,o_,n14_,HN⟩
       case measure=>simp [intOf];omega
     ·have hca:=ZoY RB.data.toList (by
       have:=Hno.out
       rw [List.take_of_length_le n2_] at this;exact this)
      rw [HRd.out] at hca;have HE2:=h_ (HE.out _ _ _ hca);rw [<-HRd.out] at HE2;have HI5:=HI3;clear hca HI3 HE;obtain ⟨cc,-,-,-⟩:=rd HI5.out.cut;have c0:=cc 0;have c1:=cc 1;have c2:=cc 2;have c3:=cc 3;obtain ⟨dd,ff,-,-⟩:=rd HI5.out.zero;have d0:=dd 0;have d1:=dd 1;have d2:=dd 2;have d3:=dd 3;have f0:=ff 0;have f1:=ff 1;have f2:=ff 2;have f3:=ff 3;simp only [List.getElem?_toArray,List.getElem?_cons_zero,List.getElem?_cons_succ] at c0 c1 c2 c3 d0 d1 d2 d3;clear cc dd ff;by_cases hP0:RB.size=0
      ·exact m107_
      ·obtain ⟨n1,n2,n3,n4⟩:=QX hP0
       have hPne:RB.data.toList≠[]:=by rw [ByteArray.toList_eq] at n2;exact n2
       obtain ⟨AB,hAB⟩:∃AB:ByteArray,RB++(⟨#[]⟩:ByteArray)=AB:=⟨_,rfl⟩;have hAd:AB.data.toList=RB.data.toList++[]:=by rw [<-hAB];simp [ByteArray.data_append]
       have hAz:AB.size<2000:=by
        have h1:AB.size=RB.size+0:=by rw [<-hAB,ByteArray.size_append];rfl
        omega
       exact m106_
end Go.Proofs.YtgoooebfhdbbkaaGreatDoor
