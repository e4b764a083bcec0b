import Derived.Shelf.Abstract
import Derived.Shelf.Strings.SlTrimAscii
import Derived.BigRegion
import Derived.RegionTactic
import Derived.ChangeAlike
import Derived.Test.YtmgmbeipbeknaaaGreatDoorRB1
import Derived.Test.YtmgmbeipbeknaaaGreatDoorRB4
import Derived.Test.YtmgmbeipbeknaaaGreatDoorRB5
import Derived.Test.YtmgmbeipbeknaaaGreatDoorRB8
import Derived.Test.YtmgmbeipbeknaaaGreatDoorRB25
namespace Go.Proofs.YtmgmbeipbeknaaaGreatDoor
set_option linter.all false
set_option maxHeartbeats 16000000
theorem Zku{l:Str}{p:UInt8->Bool}(h:∀c t,l=c::t->p c=false):l.dropWhile p=l:=by
 cases l with
 |nil=>rfl
 |cons c t=>rw [List.dropWhile_cons,if_neg (by simp [h c t rfl])]
structure ZvW(l:Ln):Prop where
 sec:Zbt l.sec=true
 key:ZfS l.key=true
 good:ZbC l.val=true
 trim:trimS l.val=l.val
 back:Zds l.val=false
 len:l.key.length+1+l.val.length<=400
theorem Zqz(l:Ln):YT l=true↔ZvW l:=by
 simp only [YT,Bool.and_eq_true,decide_eq_true_eq,beq_iff_eq,Bool.not_eq_true'];exact ⟨fun ⟨⟨⟨⟨⟨a,b⟩,c⟩,d⟩,e⟩,f⟩=>⟨a,b,c,d,e,f⟩,fun h=>⟨⟨⟨⟨⟨h.sec,h.key⟩,h.good⟩,h.trim⟩,h.back⟩,h.len⟩⟩
def Xt:Option Str->List Ln->Nat->List Ln
 |_,[],_=>[]
 |none,l::r,n=>{ l with at_:=((n+2:Nat):Int) }::Xt (some l.sec) r (n+2)
 |some s,l::r,n=>if l.sec=s then { l with at_:=((n+1:Nat):Int) }::Xt (some l.sec) r (n+1) else { l with at_:=((n+3:Nat):Int) }::Xt (some l.sec) r (n+3)
inductive Xp:List Ln->List Ln->Prop where
 |nil:Xp [] []
 |cons {a b:Ln} {l m:List Ln} (h:Zvu a b) (t:Xp l m):Xp (a::l) (b::m)
theorem Zdm:∀(l:List Ln) (p:Option Str) (n:Nat),Xp l (Xt p l n)
 |[],p,n=>by cases p<;>exact .nil
 |x::r,none,n=>.cons ⟨rfl,rfl,rfl⟩ (Zdm r _ _)
 |x::r,some s,n=>by
  unfold Xt;split
  ·exact .cons ⟨rfl,rfl,rfl⟩ (Zdm r _ _)
  ·exact .cons ⟨rfl,rfl,rfl⟩ (Zdm r _ _)
theorem ZuY{l:List Ln}(h:l.all YT=true):∀x∈l,ZvW x:=fun x hx=>(Zqz x).1 (c7_.1 h x hx)
open Go.Proofs.Tryz
open Go Go.RowKit
set_option maxRecDepth 100000
theorem Zrx(c:UInt8)(w:World) :
  Calls prog 166 #[.int .u8 c.toNat] w fun e w'=>e=.returned (.bool (!Jz c))/\w=w':=by
 go_enter func166,ntmps166;go_wp2_with (go_at_call 167;refine (Ze1 _ _).mono ?_;rintro e w' ⟨rfl,rfl⟩);go_ret;exact ⟨rfl,rfl⟩
theorem Zj2(args:Array Value)(w:World):(callFunc 166 args).run prog w=.ok (.enter 166 args) w:=enters_of func166 k_ rfl args w
theorem Ze6(s:ByteArray)(w:World)(h63:s.size<=9223372036854775807)(b:Bool)(hb:ZbC s.data.toList=b) :
  Calls prog 83 #[.string s] w fun e w'=>e=.returned (.bool b)/\w=w':=by
 have HA:=h_ (Ztq s 166 #[] #[] (fun c=>!Jz c) b w h63 Zj2 (fun c=>Zrx c w) hb);clear hb;go_enter func83,ntmps83;go_wp2_with (go_at_call 151;refine HA.out.mono ?_;rintro e w' ⟨rfl,rfl⟩);go_ret;exact ⟨rfl,rfl⟩
theorem Zh8(s:Str):JC s 20 Yi=Zbt s:=by
 unfold JC Zbt;congr 2;rw [decide_eq_decide];omega
theorem Zjm(s:Str):JC s 40 (fun c=>Yi c||isDigit c)=ZfS s:=by
 unfold JC ZfS;congr 2;rw [decide_eq_decide];omega
theorem Q9(s:ByteArray)(w:World)(h63:s.size<=9223372036854775807)(b:Bool)(hb:Zbt s.data.toList=b) :
  Calls prog 86 #[.string s] w fun e w'=>e=.returned (.bool b)/\w=w':=by
 rw [<-Zh8] at hb;have HA:=h_ (Za1 s 20 153 #[] #[] Yi b w h63 JW (fun c=>JE c w) hb);clear hb;go_enter func86,ntmps86;go_wp2_with (go_at_call 170;refine HA.out.mono ?_;rintro e w' ⟨rfl,rfl⟩);go_ret;exact ⟨rfl,rfl⟩
theorem ZeR(s:ByteArray)(w:World)(h63:s.size<=9223372036854775807)(b:Bool)(hb:ZfS s.data.toList=b) :
  Calls prog 87 #[.string s] w fun e w'=>e=.returned (.bool b)/\Below w.heap.size w w':=by
 rw [<-Zjm] at hb;have hB:Below w.heap.size w ((w.alloc (.cells #[.func (.func 153) #[] #[],.func (.func 154) #[] #[]] 148)).alloc (.cells #[.slice (some ⟨w.heap.size,0,none⟩) 2 2] 217)):=
  (b_.alloc l_ _).alloc s_ _
 have HA:∀w':World,w'=((w.alloc (.cells #[.func (.func 153) #[] #[],.func (.func 154) #[] #[]] 148)).alloc (.cells #[.slice (some ⟨w.heap.size,0,none⟩) 2 2] 217))->
   Calls prog 170 #[.string s,.int .i64 40,.func (.func 223) #[] #[.pointer (some ⟨w.heap.size+1,0,none⟩)]] w' fun e w''=>e=.returned (.bool b)/\w'=w'':=by
  intro w' hw';have h1:w'.cell? ⟨w.heap.size+1,0,none⟩=some (.slice (some ⟨w.heap.size,0,none⟩) 2 2):=by
   have h0:w'.heap[w.heap.size+1]?=some (.cells #[.slice (some ⟨w.heap.size,0,none⟩) 2 2] 217 (0,0)):=by
    rw [hw']
    have:=heap_alloc_new (w.alloc (.cells #[.func (.func 153) #[] #[],.func (.func 154) #[] #[]] 148)) (.cells #[.slice (some ⟨w.heap.size,0,none⟩) 2 2] 217)
    simpa using this
   rw [(rd h0).1];rfl
  have h2:w'.heap[w.heap.size]?=some (.cells #[.func (.func 153) #[] #[],.func (.func 154) #[] #[]] 148 (0,0)):=by
   rw [hw'];exact heap_alloc (heap_alloc_new w _) _
  obtain ⟨hc,_⟩:=rd h2;refine Za1 s 40 223 #[] _ (fun c=>Yi c||isDigit c) b w' h63 ZdB (fun c=>?_) hb;refine (Zh7 c (w.heap.size+1) w.heap.size 2 [Yi,isDigit] w' h1 s_ ?_).mono ?_
  ·intro i hi
   match i,hi with
   |0,_=>exact ⟨_,hc 0,_,_,_,rfl,JW,fun c=>JE c w'⟩
   |1,_=>exact ⟨_,hc 1,_,_,_,rfl,Qd,fun c=>XM c w'⟩
   |n+2,hi=>exact absurd hi s_
  ·rintro e w'' ⟨rfl,rfl⟩
   exact ⟨ZB s_,rfl⟩
 have HH:=h_ HA;clear HA hb;have HB:=h_ hB;clear hB;go_enter func87,ntmps87;go_wp2_with (first
  |(go_at_call 152;refine (ZgT _ _ _ _).mono ?_;rintro e w' ⟨rfl,rfl⟩)
  |(go_at_call 170;refine ((HH.out _ s_).mono ?_);rintro e w' ⟨rfl,rfl⟩))
 go_ret;exact ⟨rfl,HB.out⟩
theorem ZrJ(l:Str):Lib.trimS l [32,9]=trimS l:=by
 have e:([32,9]:List UInt8).contains=Zj:=by
  funext c
  have:=JR (p:=fun c=>([32,9]:List UInt8).contains c==Zj c) n1_ c
  simpa using this
 unfold Lib.trimS Lib.trimLeftS Lib.trimRightS trimS;rw [show (fun x=>([32,9]:List UInt8).contains x)=Zj from e]
theorem Zh9(s:ByteArray)(w:World)(h63:s.size<=9223372036854775807)(t:Str)(ht:trimS s.data.toList=t) :
  Calls prog 40 #[.string s] w fun e w'=>e=.returned (.string ⟨t.toArray⟩)/\Below w.heap.size w w':=by
 have HT:=h_ (Any.strings_Trim_laid lays160 k_ s ⟨#[32,9]⟩ w h63 d_ (ascii_of_all d_));have HE:=h_ ((ZrJ s.data.toList).trans ht);clear ht;go_enter func40,ntmps40;go_wp2_with fail;refine HT.out.mono ?_;rintro e w' ⟨rfl,hb⟩;have e2:Lib.trimS s.data.toList (⟨#[32,9]⟩:ByteArray).data.toList=t:=HE.out;rw [e2];clear e2;go_wp2_with fail;go_ret;exact ⟨rfl,hb⟩
def Zkj(B:Nat)(w:World)(v:Value)(rows:List Str):Prop:=
 ∃oa cap,v=.slice oa rows.length cap/\rows.length<=cap/\cap<=1000000/\Zp w oa rows/\∀a,oa=some a->a.block<B
theorem Zkj.fr{B:Nat}{w w':World}{v:Value}{rows:List Str}{M:Nat->Prop}(h:Zkj B w v rows)(hf:Fr M w w')(hM:∀k,M k->B<=k):Zkj B w' v rows:=by
 obtain ⟨oa,cap,rfl,h1,h2,h3,h4⟩:=h;refine ⟨oa,cap,rfl,h1,h2,?_,h4⟩;intro i hi;obtain ⟨b,o,e,hc⟩:=h3 i hi;refine ⟨b,o,e,?_⟩;have hb:=h4 _ e;have hlt:=World.block_lt_of_cell? w _ hc;rw [<-hc];unfold World.cell?;rw [hf.block b hlt (fun hm=>by have:=hM b hm;simp at hb;omega)]
def LRd(R:Nat)(rows:List Str)(n:Nat)(sec:Str)(ov:Value)(w:World):Prop:=
 ∃v,w.heap[R]?=some (.cells #[v,.int .i64 n,.string ⟨sec.toArray⟩,ov] 72 (0,0))/\Zkj R w v rows/\∃oa ln cap,ov=.slice oa ln cap
theorem LRd.fr{R:Nat}{rows:List Str}{n:Nat}{sec:Str}{ov:Value}{w w':World}{M:Nat->Prop}(h:LRd R rows n sec ov w)(hf:Fr M w w')(hM:∀k,M k->R<k):LRd R rows n sec ov w':=by
 obtain ⟨v,h1,h2,h3⟩:=h;exact ⟨v,hf.heap h1 (fun hm=>by have:=hM R hm;omega),h2.fr hf (fun k hk=>by have:=hM k hk;omega),h3⟩
theorem LRd.below{R:Nat}{rows:List Str}{n:Nat}{sec:Str}{ov:Value}{w w':World}(h:LRd R rows n sec ov w)(hf:Below w.heap.size w w'):LRd R rows n sec ov w' :=
 h.fr (Fr.of_below hf (fun _=>False)) (fun _ e=>e.elim)
theorem LRd.lt{R:Nat}{rows:List Str}{n:Nat}{sec:Str}{ov:Value}{w:World}(h:LRd R rows n sec ov w):R<w.heap.size:=by
 obtain ⟨v,h1,_⟩:=h;exact Zd h1
end Go.Proofs.YtmgmbeipbeknaaaGreatDoor
