import Derived.Deep.AppendLies
import Derived.Deep.RegionLaw
import Derived.Test.YtmgmbeipbeknaaaGreatDoorRT7
import Derived.Test.YtmgmbeipbeknaaaGreatDoorRT32
import Derived.Test.YtmgmbeipbeknaaaGreatDoorRT43
namespace Go.Proofs.YtmgmbeipbeknaaaGreatDoor
open Go.Proofs.Tryz
open Go Go.RowKit
set_option linter.unusedVariables false
set_option linter.unusedSimpArgs false
set_option maxHeartbeats 16000000
set_option maxRecDepth 100000
theorem m124_{p:Prop}(h:p:=by obtain ⟨m,hm⟩:=hm;refine (Tryz.strings_Cut x ⟨#[61]⟩ m w hs hm).mono ?_;rintro e w' ⟨rfl,hw⟩;refine ⟨?_,hw⟩;show Ending.returned (.tuple #[.string ⟨(Lib.cut x.data.toList [61]).1.toArray⟩,.string ⟨(Lib.cut x.data.toList [61]).2.1.toArray⟩,.bool (Lib.cut x.data.toList [61]).2.2])=_;rw [ZpT,h]):p:=h
theorem ZnJ(s:ByteArray)(w:World)(h63:s.size<=9223372036854775807)(hg:(s.data.toList.getLast?==some 93)=false) :
  Calls prog 85 #[.string s,.string ⟨#[93]⟩] w fun e w'=>e=.returned (.tuple #[.string s,.bool false])/\w=w':=by
 refine (Tryz.strings_CutSuffix s ⟨#[93]⟩ w h63).mono ?_;rintro e w' ⟨rfl,rfl⟩;have h1:Lib.hasSuffix s.data.toList [93]=false:=by rw [Xp];exact hg
 refine ⟨?_,rfl⟩;show Ending.returned (.tuple #[.string ⟨(Lib.trimSuffix s.data.toList [93]).toArray⟩,.bool (Lib.hasSuffix s.data.toList [93])])=_;unfold Lib.trimSuffix;rw [h1,if_neg d_]
theorem Zfp(s:ByteArray)(w:World)(h63:s.size<=9223372036854775807)(hg:(s.data.toList.getLast?==some 93)=true)(t:Str)(ht:s.data.toList.dropLast=t) :
  Calls prog 85 #[.string s,.string ⟨#[93]⟩] w fun e w'=>e=.returned (.tuple #[.string ⟨t.toArray⟩,.bool true])/\w=w':=by
 subst ht;refine (Tryz.strings_CutSuffix s ⟨#[93]⟩ w h63).mono ?_;rintro e w' ⟨rfl,rfl⟩;have h1:Lib.hasSuffix s.data.toList [93]=true:=by rw [Xp];exact hg
 refine ⟨?_,rfl⟩;show Ending.returned (.tuple #[.string ⟨(Lib.trimSuffix s.data.toList [93]).toArray⟩,.bool (Lib.hasSuffix s.data.toList [93])])=_;rw [ZbW (by simpa using hg),h1]
theorem ZaQ(x:ByteArray)(c:UInt8)(t:Str)(w:World)(hx:x.data.toList=c::t)(b:Bool)(hb:(c==91)=b)(r:Str)(hr:(if b=true then t else c::t)=r) :
  Calls prog 84 #[.string x,.string ⟨#[91]⟩] w fun e w'=>e=.returned (.tuple #[.string ⟨r.toArray⟩,.bool b])/\w=w':=by
 subst hr;refine (Tryz.strings_CutPrefix x ⟨#[91]⟩ w).mono ?_;rintro e w' ⟨rfl,rfl⟩;refine ⟨?_,rfl⟩;show Ending.returned (.tuple #[.string ⟨(Lib.trimPrefix x.data.toList [91]).toArray⟩,.bool (Lib.hasPrefix x.data.toList [91])])=_;rw [hx];have h1:Lib.hasPrefix (c::t) [91]=b:=by
  rw [<-hb];unfold Lib.hasPrefix;simp only [List.isPrefixOf,Bool.and_true];exact Bool.eq_iff_iff.2 ⟨fun h=>by simpa using (eq_of_beq h).symm,fun h=>by simpa using (eq_of_beq h).symm⟩
 unfold Lib.trimPrefix;rw [h1];cases b<;>rfl
def Zr4(s:Str):Int:=match XV s with
 |some (k,_)=>(k.length:Int)
 |none=>-1
theorem ZkJ:∀(s:Str),Lib.index s [61]=Zr4 s
 |[]=>rfl
 |c::r=>by
  have ih:=ZkJ r;unfold Zr4 at *;unfold Lib.index XV;cases hc:(c==61) with
  |true=>
   have:List.isPrefixOf [61] (c::r)=true:=by
    have:=eq_of_beq hc;subst this;simp [List.isPrefixOf]
   rw [this];rfl
  |false=>
   have:List.isPrefixOf [61] (c::r)=false:=by
    simp only [List.isPrefixOf,Bool.and_true];rw [beq_eq_false_iff_ne] at hc⊢;exact fun e=>hc e.symm
   rw [this,ih];cases hr:XV r with
   |none=>rfl
   |some x=>
    obtain ⟨a,b⟩:=x;simp
theorem ZpT(s:Str):Lib.cut s [61]=match XV s with
  |some (k,v)=>(k,v,true)
  |none=>(s,[],false):=by
 unfold Lib.cut;rw [ZkJ];unfold Zr4;cases h:XV s with
 |none=>simp
 |some x=>
  obtain ⟨k,v⟩:=x;have he:=ZaH h;simp only;rw [if_pos o_,he];simp
theorem Zsi(x:ByteArray)(w:World)(hs:x.size<4294967281)(hm:Zi w)(h:XV x.data.toList=none) :
  Calls prog 78 #[.string x,.string ⟨#[61]⟩] w fun e w'=>e=.returned (.tuple #[.string x,.string ⟨#[]⟩,.bool false])/\∃n,w'=w.drewN n:=by
 exact m124_
theorem ZiH(x:ByteArray)(k v:Str)(w:World)(hs:x.size<4294967281)(hm:Zi w)(h:XV x.data.toList=some (k,v)) :
  Calls prog 78 #[.string x,.string ⟨#[61]⟩] w fun e w'=>e=.returned (.tuple #[.string ⟨k.toArray⟩,.string ⟨v.toArray⟩,.bool true])/\∃n,w'=w.drewN n:=by
 exact m124_
def J6(l:Ln):List Value:=[.string ⟨l.sec.toArray⟩,.string ⟨l.key.toArray⟩,.string ⟨l.val.toArray⟩,.int .i64 l.at_]
def QD:List Ln->List Value
 |[]=>[]
 |l::r=>J6 l++QD r
theorem ZiZ(l:List Ln)(x:Ln):QD (l++[x])=QD l++J6 x:=by
 induction l with
 |nil=>simp [QD]
 |cons a r ih=>simp only [List.cons_append,QD,ih,List.append_assoc]
def Said(R:Nat)(out:List Ln)(ov:Value)(w:World):Prop:=w.ownsRow (R+1) 53 4 ov out.length (QD out)
theorem Said.fr{R:Nat}{out:List Ln}{ov:Value}{w w':World}{M:Nat->Prop}(h:Said R out ov w)(hf:Fr M w w')(hM:∀k,M k->k<=R):Said R out ov w':=by
 refine ZM h hf ?_;intro g hg _ hm
 have:=(h.lt g hg).1
 have:=hM g hm
 omega
theorem Said.below{R:Nat}{out:List Ln}{ov:Value}{w w':World}(h:Said R out ov w)(hf:Below w.heap.size w w'):Said R out ov w' :=
 h.fr (Fr.of_below hf (fun _=>False)) (fun _ e=>e.elim)
def ZrM(R:Nat)(rows:List Str)(n:Nat)(sec:Str)(ov:Value)(out:List Ln)(at_:Nat)(says:Says)(w:World)(e:Ending)(w':World):Prop:=
 match says with
 |.err c=>e=.returned (.int .i64 c)/\Below w.heap.size w w'
 |.nothing=>e=.returned (.int .i64 0)/\Below w.heap.size w w'
 |.sect name=>e=.returned (.int .i64 0)/\LRd R rows n name ov w'/\Said R out ov w'/\Fr (·=R) w w'
 |.pair k v=>e=.returned (.int .i64 0)/\∃ov',LRd R rows n sec ov' w'/\Said R (out++[⟨sec,k,v,(at_:Int)⟩]) ov' w'/\Fr (fun b=>R<=b) w w'
def QB(w:World)(oa:Option Addr)(l:List Ln):Prop:=
 ∀i (h:i<l.length),∃b o,oa=some ⟨b,o,none⟩/\w.cell? ⟨b,o+i*4,none⟩=some (.string ⟨l[i].sec.toArray⟩)/\w.cell? ⟨b,o+i*4+1,none⟩=some (.string ⟨l[i].key.toArray⟩)/\
  w.cell? ⟨b,o+i*4+2,none⟩=some (.string ⟨l[i].val.toArray⟩)/\w.cell? ⟨b,o+i*4+3,none⟩=some (.int .i64 l[i].at_)
theorem QB.below{w w':World}{oa:Option Addr}{l:List Ln}{B:Nat}(h:QB w oa l)(hb:Below B w w')(hB:w.heap.size<=B):QB w' oa l:=by
 intro i hi;obtain ⟨b,o,e,h0,h1,h2,h3⟩:=h i hi;have k:=fun (j:Nat) (v:Value) (hc:w.cell? ⟨b,j,none⟩=some v)=>((hb.cell (p:=⟨b,j,none⟩) (Nat.lt_of_lt_of_le (World.block_lt_of_cell? w _ hc) hB)).trans hc)
 exact ⟨b,o,e,k _ _ h0,k _ _ h1,k _ _ h2,k _ _ h3⟩
theorem rd'{w:World}{b:Nat}{cs:Array Value}{T:TypeId}{fz:Nat×Nat}(h:w.heap[b]?=some (.cells cs T fz))(j:Nat):w.cell? ⟨b,j,none⟩=cs[j]?:=by simp [World.cell?,h]
theorem QB.nil(w:World)(oa:Option Addr):QB w oa []:=fun i hi=>absurd hi s_
theorem Zf5:∀(l:List Ln) (i j:Nat) (h:i<l.length),j<4->(QD l)[i*4+j]?=(J6 l[i])[j]?
 |[],i,j,h,_=>absurd h s_
 |a::r,0,j,h,hj=>by
  simp only [QD,Nat.zero_mul,Nat.zero_add,List.getElem_cons_zero];rw [List.getElem?_append_left (by simp [J6];omega)]
 |a::r,i+1,j,h,hj=>by
  have:=Zf5 r i j n42_ hj
  simp only [QD,List.getElem_cons_succ];rw [List.getElem?_append_right (by simp [J6];omega),<-this];congr 1;simp [J6];omega
theorem QB.of_own{w:World}{base:Nat}{l:List Ln}{oa:Option Addr}{cap:Nat}(h:w.ownsRow base 53 4 (.slice oa l.length cap) l.length (QD l)):QB w oa l:=by
 intro i hi;rcases h.2 with ⟨_,h0⟩|⟨g,cap',cur,hv,hb,hg,hc,hm,hcs,ht⟩
 ·omega
 ·injection hv with hv _ _
  subst hv;have key:∀j,j<4->w.cell? ⟨g,0+i*4+j,none⟩=(J6 l[i])[j]?:=by
   intro j hj;rw [(rd' hg) _,<-Zf5 l i j hi hj,<-ht,List.getElem?_take_of_lt o_];simp
  refine ⟨g,0,rfl,?_,?_,?_,?_⟩
  ·have:=key 0 o_;exact this
  ·exact key 1 o_
  ·exact key 2 o_
  ·exact key 3 o_
structure Za7(x:Ln):Prop where
 sec:x.sec.length<=1000000000
 key:x.key.length<=1000000000
 val:x.val.length<=1000000000
theorem Zn7(x:Ln)(hx:Za7 x)(w:World)(b:Bool)(hb:Qt x=b) :
  Calls prog 47 #[.agg #[.string ⟨x.sec.toArray⟩,.string ⟨x.key.toArray⟩,.string ⟨x.val.toArray⟩,.int .i64 x.at_]] w fun e w'=>e=.returned (.bool (!b))/\Below w.heap.size w w':=by
 have HC:=fun w=>h_ (Zn1 ⟨x.sec.toArray⟩ ⟨x.key.toArray⟩ ⟨x.val.toArray⟩ x.at_ w hx.sec hx.key hx.val b hb)
 clear hb;have hB:Below w.heap.size w (w.alloc (.cells #[.string ⟨x.sec.toArray⟩,.string ⟨x.key.toArray⟩,.string ⟨x.val.toArray⟩,.int .i64 x.at_] 53)):=b_.alloc l_ _;obtain ⟨bc,-,-,blt⟩:=rd (heap_alloc_new w (.cells #[.string ⟨x.sec.toArray⟩,.string ⟨x.key.toArray⟩,.string ⟨x.val.toArray⟩,.int .i64 x.at_] 53));go_enter func47,ntmps47;go_wp2_with fail;refine (HC _).out.mono ?_;rintro e w2 ⟨rfl,hb2⟩;have HB:=h_ (hB.trans (hb2.mono hB.size));clear hb2;go_wp2_with fail;go_ret;exact ⟨rfl,HB.out⟩
theorem m125_{p:Prop}(h:p:=by
  obtain ⟨q,h1,h2⟩:=ZcW r (some y.sec) x;refine ⟨q,by simp only [List.cons_append,Yt,h1,List.append_assoc],?_⟩;rw [h2];cases r with
  |nil=>rfl
  |cons a r=>rw [List.getLast?_cons_cons];cases h:(a::r).getLast? with
   |none=>simp at h
   |some z=>rfl):p:=h
theorem m126_{p:Prop}(h:p:=by simp only [List.take_succ_cons,Yt];exact (List.prefix_append_right_inj _).2 (ZdQ r _ k)):p:=h
theorem ZcW:∀(l:List Ln) (p:Option Str) (x:Ln),∃q,Yt p (l++[x])=Yt p l++Yt q [x]/\q=(match l.getLast? with|some y=>some y.sec|none=>p)
 |[],p,x=>⟨p,by cases p<;>simp [Yt],rfl⟩
 |y::r,none,x=>by
  exact m125_
 |y::r,some s,x=>by
  exact m125_
theorem Zo8{sec s:Str}{c:Nat}(h:J5 sec s=.err c):c=1\/c=2\/c=9\/c=10:=by
 unfold J5 at h;split at h
 ·split at h
  ·split at h
   ·cases h
   ·split at h
    ·split at h
     ·cases h
     ·injection h with h;omega
    ·split at h
     ·injection h with h;omega
     ·split at h
      ·split at h
       ·injection h with h;omega
       ·cases h
      ·injection h with h;omega
  ·injection h with h;omega
 ·injection h with h;omega
def nls(s:Str):Nat:=s.count 10
theorem ZdQ:∀(l:List Ln) (p:Option Str) (k:Nat),Yt p (l.take k) <+: Yt p l
 |[],p,k=>s_
 |x::r,p,0=>by cases p<;>simp [Yt]
 |x::r,none,k+1=>by
  exact m126_
 |x::r,some s,k+1=>by
  exact m126_
theorem YL.trans{l m k:List Ln}(h:YL l m)(h':YL m k):YL l k:=by
 induction h generalizing k with
 |nil=>cases h';exact .nil
 |cons h t ih=>
  cases h' with
  |cons h2 t2=>exact .cons ⟨h.1.trans h2.1,h.2.1.trans h2.2.1,h.2.2.trans h2.2.2⟩ (ih t2)
def ZsL(w:World)(b:Bool)(e:Ending)(w':World):Prop:=(∃n:Int,e=.returned (.int .i64 n)/\(decide (0<=n))=!b)/\Below w.heap.size w w'
theorem ZgE(oa:Option Addr)(cap:Nat)(l:List Ln)(w:World)(h:QB w oa l)(hl:l.length<=100000000)(hx:∀x∈l,Za7 x)(b:Bool)(hb:l.all Qt=b) :
  Calls prog 97 #[.slice oa l.length cap,.func (.func 47) #[] #[]] w fun e w'=>ZsL w b e w':=by
 have HX:=h_ hx;clear hx;have HR:=h_ h;clear h;have Hb:=h_ hb;clear hb;have hE:=fun args w=>enters_of func47 k_ rfl args w
 go_enter func97,ntmps97;go_wp2_with fail;go_loopg [5,8] (l.length+1) (fun f _ i wr=>∃k:Nat,k<=l.length/\i=.int .i64 k/\l.length-k<f/\Hid ((l.take k).all Qt=true)/\Hid (Below w.heap.size w wr))
 case atStart=>exact ⟨0,o_,rfl,o_,rfl,Below.refl _ _⟩
 case round=>
  obtain ⟨k,hk,rfl,hfu,Ha,HB⟩:=hrel;by_cases hlt:k<l.length
  ·obtain ⟨bb,o,rfl,c0,c1,c2,c3⟩:=(HR.out.below HB.out l_) k hlt
   have hxk:=HX.out l[k] (List.getElem_mem _);have HC:=fun (b:Bool) (hb:Qt l[k]=b) (wr:World)=>h_ (Zn7 l[k] hxk wr b hb)
   cases hm:Qt l[k] with
   |false=>
    have HR2:=h_ (show b=false by
     rw [<-Hb.out,List.all_eq_false];exact ⟨l[k],List.getElem_mem _,by simp [hm]⟩)
    have HM:=h_ hm;clear hm;go_wp2_with fail;refine (HC false HM.out _).out.mono ?_;rintro e w3 ⟨rfl,hb3⟩;have HB3:=h_ (HB.out.trans (hb3.mono HB.out.size));clear hb3;go_wp2_with fail;go_ret;exact ⟨⟨(k:Int),rfl,by rw [HR2.out];simp⟩,HB3.out⟩
   |true=>
    have HT:=h_ (show (l.take (k+1)).all Qt=true by
     rw [List.take_succ_eq_append_getElem hlt,List.all_append,Ha.out];simp [hm])
    have HM:=h_ hm;clear hm;go_wp2_with fail;refine (HC true HM.out _).out.mono ?_;rintro e w3 ⟨rfl,hb3⟩;have HB3:=h_ (HB.out.trans (hb3.mono HB.out.size));clear hb3;go_wp2_with fail;go_roundg (l.length-k)
    case measure=>omega
    case rel=>exact ⟨k+1,o_,n15_,o_,HT,HB3⟩
  ·have:k=l.length:=o_
   subst this;have ha:=Ha.out;rw [List.take_length] at ha;have HR2:=h_ (show b=true by rw [<-Hb.out,ha]);clear ha;go_wp2_with fail;go_ret;exact ⟨⟨-1,rfl,by rw [HR2.out];rfl⟩,HB.out⟩
theorem ZaG(oa:Option Addr)(cap:Nat)(l:List Ln)(w:World)(h:QB w oa l)(hl:l.length<=100000000)(hx:∀x∈l,Za7 x)(b:Bool)(hb:l.all Qt=b) :
  Calls prog 46 #[.slice oa l.length cap,.func (.func 47) #[] #[]] w fun e w'=>e=.returned (.bool (!b))/\Below w.heap.size w w':=by
 have HC:=h_ (ZgE oa cap l w h hl hx b hb);clear h hx hb;go_enter func46,ntmps46;go_wp2_with fail;refine HC.out.mono ?_;rintro e w2 ⟨⟨n,rfl,hn⟩,hb2⟩;have HN:=h_ hn;clear hn;go_wp2_with fail;go_ret;exact ⟨ZC HN.out,hb2⟩
end Go.Proofs.YtmgmbeipbeknaaaGreatDoor
