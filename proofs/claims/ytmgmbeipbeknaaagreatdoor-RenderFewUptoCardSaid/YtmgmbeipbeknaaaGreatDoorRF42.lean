import Derived.Deep.AppendLies
import Derived.Deep.RegionLaw
import Derived.Test.YtmgmbeipbeknaaaGreatDoorRF3
import Derived.Test.YtmgmbeipbeknaaaGreatDoorRF31
import Derived.Test.YtmgmbeipbeknaaaGreatDoorRF41
namespace Go.Proofs.YtmgmbeipbeknaaaGreatDoor
open Go Go.RowKit
set_option linter.unusedVariables false
set_option linter.unusedSimpArgs false
set_option maxHeartbeats 16000000
set_option maxRecDepth 100000
def ZbL(l:Ln):List Value:=[.string ⟨l.sec.toArray⟩,.string ⟨l.key.toArray⟩,.string ⟨l.val.toArray⟩,.int .i64 l.at_]
def Zdu:List Ln->List Value
 |[]=>[]
 |l::r=>ZbL l++Zdu r
def Said(R:Nat)(out:List Ln)(ov:Value)(w:World):Prop:=w.ownsRow (R+1) 53 4 ov out.length (Zdu out)
theorem Said.fr{R:Nat}{out:List Ln}{ov:Value}{w w':World}{M:Nat->Prop}(h:Said R out ov w)(hf:Fr M w w')(hM:∀k,M k->k<=R):Said R out ov w':=by
 refine ZO h hf ?_;intro g hg _ hm
 have:=(h.lt g hg).1
 have:=hM g hm
 omega
theorem Said.below{R:Nat}{out:List Ln}{ov:Value}{w w':World}(h:Said R out ov w)(hf:Below w.heap.size w w'):Said R out ov w' :=
 h.fr (Fr.of_below hf (fun _=>False)) (fun _ e=>e.elim)
open Go.Proofs.Tryz
def Zao(w:World)(oa:Option Addr)(l:List Ln):Prop:=
 ∀i (h:i<l.length),∃b o,oa=some ⟨b,o,none⟩/\w.cell? ⟨b,o+i*4,none⟩=some (.string ⟨l[i].sec.toArray⟩)/\w.cell? ⟨b,o+i*4+1,none⟩=some (.string ⟨l[i].key.toArray⟩)/\
  w.cell? ⟨b,o+i*4+2,none⟩=some (.string ⟨l[i].val.toArray⟩)/\w.cell? ⟨b,o+i*4+3,none⟩=some (.int .i64 l[i].at_)
theorem Zao.below{w w':World}{oa:Option Addr}{l:List Ln}{B:Nat}(h:Zao w oa l)(hb:Below B w w')(hB:w.heap.size<=B):Zao w' oa l:=by
 intro i hi;obtain ⟨b,o,e,h0,h1,h2,h3⟩:=h i hi;have k:=fun (j:Nat) (v:Value) (hc:w.cell? ⟨b,j,none⟩=some v)=>((hb.cell (p:=⟨b,j,none⟩) (Nat.lt_of_lt_of_le (World.block_lt_of_cell? w _ hc) hB)).trans hc)
 exact ⟨b,o,e,k _ _ h0,k _ _ h1,k _ _ h2,k _ _ h3⟩
theorem rd'{w:World}{b:Nat}{cs:Array Value}{T:TypeId}{fz:Nat×Nat}(h:w.heap[b]?=some (.cells cs T fz))(j:Nat):w.cell? ⟨b,j,none⟩=cs[j]?:=by simp [World.cell?,h]
theorem Zao.nil(w:World)(oa:Option Addr):Zao w oa []:=fun i hi=>absurd hi s_
theorem ZeR:∀(l:List Ln) (i j:Nat) (h:i<l.length),j<4->(Zdu l)[i*4+j]?=(ZbL l[i])[j]?
 |[],i,j,h,_=>absurd h s_
 |a::r,0,j,h,hj=>by
  simp only [Zdu,Nat.zero_mul,Nat.zero_add,List.getElem_cons_zero];rw [List.getElem?_append_left (by simp [ZbL];omega)]
 |a::r,i+1,j,h,hj=>by
  have:=ZeR r i j n27_ hj
  simp only [Zdu,List.getElem_cons_succ];rw [List.getElem?_append_right (by simp [ZbL];omega),<-this];congr 1;simp [ZbL];omega
theorem Zao.of_own{w:World}{base:Nat}{l:List Ln}{oa:Option Addr}{cap:Nat}(h:w.ownsRow base 53 4 (.slice oa l.length cap) l.length (Zdu l)):Zao w oa l:=by
 intro i hi;rcases h.2 with ⟨_,h0⟩|⟨g,cap',cur,hv,hb,hg,hc,hm,hcs,ht⟩
 ·omega
 ·injection hv with hv _ _
  subst hv;have key:∀j,j<4->w.cell? ⟨g,0+i*4+j,none⟩=(ZbL l[i])[j]?:=by
   intro j hj;rw [(rd' hg) _,<-ZeR l i j hi hj,<-ht,List.getElem?_take_of_lt o_];simp
  refine ⟨g,0,rfl,?_,?_,?_,?_⟩
  ·have:=key 0 o_;exact this
  ·exact key 1 o_
  ·exact key 2 o_
  ·exact key 3 o_
structure ZaG(x:Ln):Prop where
 sec:x.sec.length<=1000000000
 key:x.key.length<=1000000000
 val:x.val.length<=1000000000
theorem Znm(x:Ln)(hx:ZaG x)(w:World)(b:Bool)(hb:Jc x=b) :
  Calls prog 47 #[.agg #[.string ⟨x.sec.toArray⟩,.string ⟨x.key.toArray⟩,.string ⟨x.val.toArray⟩,.int .i64 x.at_]] w fun e w'=>e=.returned (.bool (!b))/\Below w.heap.size w w':=by
 have HC:=fun w=>h_ (ZmS ⟨x.sec.toArray⟩ ⟨x.key.toArray⟩ ⟨x.val.toArray⟩ x.at_ w hx.sec hx.key hx.val b hb)
 clear hb;have hB:Below w.heap.size w (w.alloc (.cells #[.string ⟨x.sec.toArray⟩,.string ⟨x.key.toArray⟩,.string ⟨x.val.toArray⟩,.int .i64 x.at_] 53)):=b_.alloc l_ _;obtain ⟨bc,-,-,blt⟩:=rd (heap_alloc_new w (.cells #[.string ⟨x.sec.toArray⟩,.string ⟨x.key.toArray⟩,.string ⟨x.val.toArray⟩,.int .i64 x.at_] 53));go_enter func47,ntmps47;go_wp2_with fail;refine (HC _).out.mono ?_;rintro e w2 ⟨rfl,hb2⟩;have HB:=h_ (hB.trans (hb2.mono hB.size));clear hb2;go_wp2_with fail;go_ret;exact ⟨rfl,HB.out⟩
theorem m120_{p:Prop}(h:p:=by
  obtain ⟨q,h1,h2⟩:=ZcC r (some y.sec) x;refine ⟨q,by simp only [List.cons_append,YQ,h1,List.append_assoc],?_⟩;rw [h2];cases r with
  |nil=>rfl
  |cons a r=>rw [List.getLast?_cons_cons];cases h:(a::r).getLast? with
   |none=>simp at h
   |some z=>rfl):p:=h
theorem m121_{p:Prop}(h:p:=by simp only [List.take_succ_cons,YQ];exact (List.prefix_append_right_inj _).2 (Zdr r _ k)):p:=h
theorem ZcC:∀(l:List Ln) (p:Option Str) (x:Ln),∃q,YQ p (l++[x])=YQ p l++YQ q [x]/\q=(match l.getLast? with|some y=>some y.sec|none=>p)
 |[],p,x=>⟨p,by cases p<;>simp [YQ],rfl⟩
 |y::r,none,x=>by
  exact m120_
 |y::r,some s,x=>by
  exact m120_
theorem Zdr:∀(l:List Ln) (p:Option Str) (k:Nat),YQ p (l.take k) <+: YQ p l
 |[],p,k=>s_
 |x::r,p,0=>by cases p<;>simp [YQ]
 |x::r,none,k+1=>by
  exact m121_
 |x::r,some s,k+1=>by
  exact m121_
theorem YH.trans{l m k:List Ln}(h:YH l m)(h':YH m k):YH l k:=by
 induction h generalizing k with
 |nil=>cases h';exact .nil
 |cons h t ih=>
  cases h' with
  |cons h2 t2=>exact .cons ⟨h.1.trans h2.1,h.2.1.trans h2.2.1,h.2.2.trans h2.2.2⟩ (ih t2)
def ZrO(w:World)(b:Bool)(e:Ending)(w':World):Prop:=(∃n:Int,e=.returned (.int .i64 n)/\(decide (0<=n))=!b)/\Below w.heap.size w w'
theorem ZgF(oa:Option Addr)(cap:Nat)(l:List Ln)(w:World)(h:Zao w oa l)(hl:l.length<=100000000)(hx:∀x∈l,ZaG x)(b:Bool)(hb:l.all Jc=b) :
  Calls prog 97 #[.slice oa l.length cap,.func (.func 47) #[] #[]] w fun e w'=>ZrO w b e w':=by
 have HX:=h_ hx;clear hx;have HR:=h_ h;clear h;have Hb:=h_ hb;clear hb;have hE:=fun args w=>enters_of func47 k_ rfl args w
 go_enter func97,ntmps97;go_wp2_with fail;go_loopg [5,8] (l.length+1) (fun f _ i wr=>∃k:Nat,k<=l.length/\i=.int .i64 k/\l.length-k<f/\Hid ((l.take k).all Jc=true)/\Hid (Below w.heap.size w wr))
 case atStart=>exact ⟨0,o_,rfl,o_,rfl,Below.refl _ _⟩
 case round=>
  obtain ⟨k,hk,rfl,hfu,Ha,HB⟩:=hrel;by_cases hlt:k<l.length
  ·obtain ⟨bb,o,rfl,c0,c1,c2,c3⟩:=(HR.out.below HB.out l_) k hlt
   have hxk:=HX.out l[k] (List.getElem_mem _);have HC:=fun (b:Bool) (hb:Jc l[k]=b) (wr:World)=>h_ (Znm l[k] hxk wr b hb)
   cases hm:Jc l[k] with
   |false=>
    have HR2:=h_ (show b=false by
     rw [<-Hb.out,List.all_eq_false];exact ⟨l[k],List.getElem_mem _,by simp [hm]⟩)
    have HM:=h_ hm;clear hm;go_wp2_with fail;refine (HC false HM.out _).out.mono ?_;rintro e w3 ⟨rfl,hb3⟩;have HB3:=h_ (HB.out.trans (hb3.mono HB.out.size));clear hb3;go_wp2_with fail;go_ret;exact ⟨⟨(k:Int),rfl,by rw [HR2.out];simp⟩,HB3.out⟩
   |true=>
    have HT:=h_ (show (l.take (k+1)).all Jc=true by
     rw [List.take_succ_eq_append_getElem hlt,List.all_append,Ha.out];simp [hm])
    have HM:=h_ hm;clear hm;go_wp2_with fail;refine (HC true HM.out _).out.mono ?_;rintro e w3 ⟨rfl,hb3⟩;have HB3:=h_ (HB.out.trans (hb3.mono HB.out.size));clear hb3;go_wp2_with fail;go_roundg (l.length-k)
    case measure=>omega
    case rel=>exact ⟨k+1,o_,n14_,o_,HT,HB3⟩
  ·have:k=l.length:=o_
   subst this;have ha:=Ha.out;rw [List.take_length] at ha;have HR2:=h_ (show b=true by rw [<-Hb.out,ha]);clear ha;go_wp2_with fail;go_ret;exact ⟨⟨-1,rfl,by rw [HR2.out];rfl⟩,HB.out⟩
theorem Zat(oa:Option Addr)(cap:Nat)(l:List Ln)(w:World)(h:Zao w oa l)(hl:l.length<=100000000)(hx:∀x∈l,ZaG x)(b:Bool)(hb:l.all Jc=b) :
  Calls prog 46 #[.slice oa l.length cap,.func (.func 47) #[] #[]] w fun e w'=>e=.returned (.bool (!b))/\Below w.heap.size w w':=by
 have HC:=h_ (ZgF oa cap l w h hl hx b hb);clear h hx hb;go_enter func46,ntmps46;go_wp2_with fail;refine HC.out.mono ?_;rintro e w2 ⟨⟨n,rfl,hn⟩,hb2⟩;have HN:=h_ hn;clear hn;go_wp2_with fail;go_ret;exact ⟨ZP HN.out,hb2⟩
end Go.Proofs.YtmgmbeipbeknaaaGreatDoor
