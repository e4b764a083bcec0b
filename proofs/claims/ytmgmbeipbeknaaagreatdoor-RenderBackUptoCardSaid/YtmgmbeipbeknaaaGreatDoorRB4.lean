import Derived.Test.YtmgmbeipbeknaaaGreatDoorProg
import Derived.Deep.QuietTactic
import Derived.BigQuiet
import Derived.BigRegion
import Derived.Lib.Hide
import Derived.Test.YtmgmbeipbeknaaaGreatDoorRB1
import Derived.Test.YtmgmbeipbeknaaaGreatDoorRB2
namespace Go.Proofs.YtmgmbeipbeknaaaGreatDoor
set_option linter.all false
set_option maxHeartbeats 16000000
set_option maxRecDepth 100000
structure ZE where
 sec:Str
 name:Str
 form:Int
 list:Bool
 kinds:Int
 words:List Str
deriving DecidableEq
abbrev Z7:Str:=[85,110,105,116]
abbrev ZcI:Str:=[68,101,115,99,114,105,112,116,105,111,110]
abbrev Qz:Str:=[68,101,102,97,117,108,116,68,101,112,101,110,100,101,110,99,105,101,115]
abbrev Z8:Str:=[82,101,113,117,105,114,101,115]
abbrev Zhu:Str:=[87,97,110,116,115]
abbrev Za3:Str:=[82,101,113,117,105,115,105,116,101]
abbrev Zc5:Str:=[66,105,110,100,115,84,111]
abbrev Ze3:Str:=[80,97,114,116,79,102]
abbrev ZaH:Str:=[67,111,110,102,108,105,99,116,115]
abbrev ZeM:Str:=[66,101,102,111,114,101]
abbrev Zhb:Str:=[65,102,116,101,114]
abbrev ZaY:Str:=[79,110,70,97,105,108,117,114,101]
abbrev Qf:Str:=[83,116,97,114,116,76,105,109,105,116,73,110,116,101,114,118,97,108,83,101,99]
abbrev JQ:Str:=[83,116,97,114,116,76,105,109,105,116,66,117,114,115,116]
abbrev Zn:Str:=[83,101,114,118,105,99,101]
abbrev Zhx:Str:=[84,121,112,101]
abbrev ZbJ:Str:=[69,120,101,99,83,116,97,114,116,80,114,101]
abbrev ZeF:Str:=[69,120,101,99,83,116,97,114,116]
abbrev Za6:Str:=[69,120,101,99,83,116,97,114,116,80,111,115,116]
abbrev ZfI:Str:=[69,120,101,99,83,116,111,112]
abbrev Zc7:Str:=[69,120,101,99,82,101,108,111,97,100]
abbrev JN:Str:=[82,101,109,97,105,110,65,102,116,101,114,69,120,105,116]
abbrev ZaK:Str:=[82,101,115,116,97,114,116]
abbrev Zdf:Str:=[82,101,115,116,97,114,116,83,101,99]
abbrev JJ:Str:=[84,105,109,101,111,117,116,83,116,97,114,116,83,101,99]
abbrev Zas:Str:=[84,105,109,101,111,117,116,83,116,111,112,83,101,99]
abbrev Q0:Str:=[83,117,99,99,101,115,115,69,120,105,116,83,116,97,116,117,115]
abbrev Zy:Str:=[69,110,118,105,114,111,110,109,101,110,116]
abbrev Ze0:Str:=[83,111,99,107,101,116,115]
abbrev ZuN:Str:=[115,105,109,112,108,101]
abbrev ZsO:Str:=[111,110,101,115,104,111,116]
abbrev ZtX:Str:=[110,111,116,105,102,121]
abbrev nno:Str:=[110,111]
abbrev Zl3:Str:=[111,110,45,115,117,99,99,101,115,115]
abbrev Znd:Str:=[111,110,45,102,97,105,108,117,114,101]
abbrev Zkq:Str:=[111,110,45,97,98,110,111,114,109,97,108]
abbrev ZuP:Str:=[97,108,119,97,121,115]
abbrev YL:Str:=[83,111,99,107,101,116]
abbrev Qs:Str:=[76,105,115,116,101,110,83,116,114,101,97,109]
abbrev Zhm:Str:=[66,97,99,107,108,111,103]
abbrev QR:Str:=[70,105,108,101,68,101,115,99,114,105,112,116,111,114,78,97,109,101]
abbrev Xb:Str:=[84,105,109,101,114]
abbrev Zeh:Str:=[79,110,66,111,111,116,83,101,99]
abbrev ZcA:Str:=[79,110,65,99,116,105,118,101,83,101,99]
abbrev Q5:Str:=[79,110,85,110,105,116,73,110,97,99,116,105,118,101,83,101,99]
abbrev Zdn:Str:=[79,110,67,97,108,101,110,100,97,114]
abbrev Zdo:Str:=[80,101,114,115,105,115,116,101,110,116]
abbrev QV:Str:=[73,110,115,116,97,108,108]
abbrev ZdJ:Str:=[87,97,110,116,101,100,66,121]
abbrev Zbs:Str:=[82,101,113,117,105,114,101,100,66,121]
abbrev Zj1:Str:=[65,108,105,97,115]
abbrev ZpB:Str:=[65,108,115,111]
abbrev JF:Str:=[68,101,102,97,117,108,116,73,110,115,116,97,110,99,101]
abbrev Zdq:List Str:=[ZcI]
abbrev ZcT:List Str:=[Qz]
abbrev Zdc:List Str:=[Z8,Zhu,Za3,Zc5,Ze3,ZaH,ZeM,Zhb,ZaY]
abbrev Zdx:List Str:=[Qf]
abbrev Zdv:List Str:=[JQ]
abbrev Zaf:List Str:=[ZuN,ZsO,ZtX]
abbrev Zah:List Str:=[ZbJ,ZeF,Za6,ZfI,Zc7]
abbrev Zad:List Str:=[JN]
abbrev Zak:List Str:=[nno,Zl3,Znd,Zkq,ZuP]
abbrev J5:List Str:=[Zdf,JJ,Zas]
abbrev Zam:List Str:=[Q0]
abbrev J4:List Str:=[Zy]
abbrev J9:List Str:=[Ze0]
abbrev ZaX:List Str:=[Qs]
abbrev Zbb:List Str:=[Zhm]
abbrev ZaV:List Str:=[QR]
abbrev ZaR:List Str:=[Zn]
abbrev Zb9:List Str:=[Zeh,ZcA,Q5]
abbrev ZbU:List Str:=[Zdn]
abbrev ZbW:List Str:=[Zdo]
abbrev ZbX:List Str:=[Z7]
abbrev Zag:List Str:=[ZdJ,Zbs,Zj1,ZpB]
abbrev Zae:List Str:=[JF]
def keysOf(sec:Str)(kinds form:Int)(list:Bool)(names:List Str):List ZE:=names.map fun n=>⟨sec,n,form,list,kinds,[]⟩
def ZlE:List ZE:=keysOf Z7 30 1 false Zdq++keysOf Z7 30 2 false ZcT++keysOf Z7 30 6 true Zdc++keysOf Z7 30 4 false Zdx++keysOf Z7 30 3 false Zdv
def ZgF:List ZE:=[⟨Zn,Zhx,10,false,2,Zaf⟩]++keysOf Zn 2 7 true Zah++keysOf Zn 2 2 false Zad++[⟨Zn,ZaK,10,false,2,Zak⟩]++keysOf Zn 2 4 false J5++keysOf Zn 2 11 true Zam++keysOf Zn 2 8 true J4++keysOf Zn 2 6 true J9
def ZhR:List ZE:=keysOf YL 4 11 true ZaX++keysOf YL 4 3 false Zbb++keysOf YL 4 1 false ZaV++keysOf YL 4 5 false ZaR
def Zjf:List ZE:=keysOf Xb 8 4 true Zb9++keysOf Xb 8 9 true ZbU++keysOf Xb 8 2 false ZbW++keysOf Xb 8 5 false ZbX
def Zgs:List ZE:=keysOf QV 30 6 true Zag++keysOf QV 30 1 false Zae
def Zc:List ZE:=ZlE++(ZgF++(ZhR++(Zjf++(Zgs))))
def findKey(sec name:Str):Option ZE:=Zc.find? fun k=>k.sec==sec&&k.name==name
theorem Xz:Zc.length=42:=d_
theorem Zre:∀k∈Zc,findKey k.sec k.name=some k:=n1_
open Go.Proofs.Tryz
open Go Go.RowKit
theorem ZuQ(c:UInt8):((c.toNat:Int).toNat.toUInt8)=c:=s_
theorem Zf6(c:UInt8):Zj c=decide ((c.toNat:Int)=32\/(c.toNat:Int)=9):=by
 rw [Bool.eq_iff_iff];simp [Zj,<-UInt8.toNat_inj];omega
theorem ZjX(c:UInt8):Jz c=decide (((c.toNat:Int)<32/\(c.toNat:Int)≠9)\/(c.toNat:Int)=127):=by
 rw [Bool.eq_iff_iff];simp [Jz,<-UInt8.toNat_inj,UInt8.lt_iff_toNat_lt];omega
theorem Yu{a b:ByteArray}(h:a.data.toList=b.data.toList):a=b:=by
 obtain ⟨⟨a⟩⟩:=a;obtain ⟨⟨b⟩⟩:=b;simp at h;rw [h]
theorem Ji(l:List UInt8)(k:Nat)(h:k<l.length):l.take (k+1)=l.take k++[l[k]]:=by
 rw [c4_ h]
theorem ZpL(s:ByteArray)(f:FuncId)(fr cap:Array Value)(p:UInt8->Bool)(w:World)(h63:s.size<=9223372036854775807)
  (HE:∀args w,(callFunc f args).run prog w=.ok (.enter f args) w)
  (H:∀c:UInt8,Calls prog f (fr.push (.int .u8 c.toNat)++cap) w fun e w'=>e=.returned (.bool (p c))/\w=w') :
  Calls prog 151 #[.string s,.func (.func f) fr cap] w fun e w'=>e=.returned (.bool (s.data.toList.all p))/\w=w':=by
 have HH:=h_ H;clear H;go_enter func151,ntmps151;go_wp2;go_loop [5,8] (fun _ i=>∃k:Nat,k<=s.size/\i=.int .i64 k/\Hid ((s.data.toList.take k).all p=true)) (fun _ i=>s.size-(intOf i).toNat)
 case atStart=>exact ⟨0,Nat.zero_le _,rfl,by simp [Hid]⟩
 case round=>
  obtain ⟨k,hk,rfl,hall⟩:=hrel;by_cases hlt:k<s.size
  ·have hsn:=Ji s.data.toList k n31_
   have hgk:s.data.toList[k]' n31_=s[k]:=rfl;rw [hgk] at hsn;cases hp:p s[k] with
   |true=>
    have HT:=h_ (show (s.data.toList.take (k+1)).all p=true by rw [hsn,List.all_append,hall.out];simp [hp]);have HP:=h_ hp;clear hsn hgk hp;go_wp2_with (refine (HH.out s[k]).mono ?_;rintro e w' ⟨rfl,rfl⟩;rw [HP.out]);go_round
    case rel=>exact ⟨k+1,o_,n9_,HT⟩
    case measure=>simp [intOf];omega
   |false=>
    have HT:=h_ (show s.data.toList.all p=false by
     rw [List.all_eq_false];exact ⟨s[k],by rw [<-hgk];exact List.getElem_mem _,by simp [hp]⟩)
    have HP:=h_ hp;clear hsn hgk hp;go_wp2_with (refine (HH.out s[k]).mono ?_;rintro e w' ⟨rfl,rfl⟩;rw [HP.out]);go_ret;exact ⟨ZB HT.out.symm,rfl⟩
  ·go_wp2
   go_ret
   have:k=s.size:=o_
   subst this
   have:=hall.out
   rw [c9_ s_] at this;refine ⟨ZB ?_,rfl⟩;exact this.symm.trans (Array.all_toList )
structure ZQ where
 sec:Str
 name:Str
 form:Int
 list:Bool
 kinds:Int
 wa:Option Addr
 wn:Nat
 wc:Nat
def Zm(k:ZQ):List Value:=[.string ⟨k.sec.toArray⟩,.string ⟨k.name.toArray⟩,.int .i64 k.form,.bool k.list,.int .i64 k.kinds,.slice k.wa k.wn k.wc]
theorem ZeO(k:ZQ):∀v∈Zm k,v.oneCell'=true:=by intro v hv;simp [Zm] at hv;rcases hv with rfl|rfl|rfl|rfl|rfl|rfl<;>rfl
def YZ(sec:Str)(kinds form:Int)(list:Bool)(n:Str):ZQ:=⟨sec,n,form,list,kinds,none,0,0⟩
theorem Zfj:(prog.info? 82).map (fun i=>(i.zero,i.size,i.bytes))=some (some (.agg #[.string ⟨#[]⟩,.string ⟨#[]⟩,.int .i64 0,.bool false,.int .i64 0,.slice none 0 0]),6,80):=k_
theorem Zh2(w:World)(a b c d e f:Value)(T:TypeId):(w.alloc (.cells #[a,b,c,d,e,f] T)).ownsRow w.heap.size T 6 (.slice (some ⟨w.heap.size,0,none⟩) 1 1) 1 [a,b,c,d,e,f]:=
 ⟨rfl,.inr ⟨w.heap.size,1,#[a,b,c,d,e,f],rfl,l_,heap_alloc_new _ _,l_,d_,rfl,rfl⟩⟩
theorem X7{w:World}{B e k n:Nat}{v:Value}{xs:List Value}(h:w.ownsRow B e k v n xs):∀g,v.ownBlock=some g->B<=g/\Zdw e w g:=by
 intro g hg;rcases h.2 with ⟨rfl,_⟩|⟨g',cap,cur,rfl,hb,hh,_⟩
 ·simp [Value.ownBlock] at hg
 ·simp [Value.ownBlock] at hg
  subst hg;exact ⟨hb,cur,(0,0),hh⟩
structure Ql(w:World)(P B:Nat)(sec:Str)(kinds:Int)(kvs:List ZQ):Prop where
 ex:∃ga gc,w.heap[P]?=some (.cells #[.string ⟨sec.toArray⟩,.int .i64 kinds,.slice ga kvs.length gc] 115 (0,0))/\w.ownsRow B 82 6 (.slice ga kvs.length gc) kvs.length (Zx Zm kvs)
theorem Ql.below{w w':World}{P B:Nat}{sec:Str}{kinds:Int}{kvs:List ZQ}(h:Ql w P B sec kinds kvs)(hb:Below w.heap.size w w'):Ql w' P B sec kinds kvs:=by
 obtain ⟨ga,gc,h1,h2⟩:=h.ex;exact ⟨ga,gc,Za h1 hb,Zo h2 hb⟩
theorem Ql.more{wr w7 w8:World}{P B:Nat}{sec:Str}{kinds:Int}{kvs:List ZQ}{k:ZQ}{ga ga2:Option Addr}{gc gc2:Nat}(hb:Below wr.heap.size wr w7)
  (h1:wr.heap[P]?=some (.cells #[.string ⟨sec.toArray⟩,.int .i64 kinds,.slice ga kvs.length gc] 115 (0,0))) (h2:wr.ownsRow B 82 6 (.slice ga kvs.length gc) kvs.length (Zx Zm kvs)) (hPB:P<B)
  (hg:w7.grownBy w8 (Value.slice ga kvs.length gc).ownBlock) (ho:w8.ownsRow B 82 6 (.slice ga2 (kvs.length+1) gc2) (kvs.length+1) (Zx Zm kvs++Zm k)) :
  Ql (w8.setCell ⟨P,2,none⟩ (.slice ga2 (kvs.length+1) gc2)) P B sec kinds (kvs++[k])/\FrB P B 82 wr (w8.setCell ⟨P,2,none⟩ (.slice ga2 (kvs.length+1) gc2)):=by
 have b7:=Za h1 hb;have o7:=Zo h2 hb;have b8:w8.heap[P]?=some (.cells #[.string ⟨sec.toArray⟩,.int .i64 kinds,.slice ga kvs.length gc] 115 (0,0)):=by
  rw [hg.block P (Zd b7) (Yw o7 b7 d_)];exact b7
 have e:(kvs++[k]).length=kvs.length+1:=s_;refine ⟨⟨ga2,gc2,?_,?_⟩,?_⟩
 ·have:=heap_setCell b8 2 (.slice ga2 (kvs.length+1) gc2)
  rw [this,e];rfl
 ·rw [e,ZT,QJ]
  refine ⟨ho.1,?_⟩;rcases ho.2 with hn|⟨g,cp,cur,hv,hg2,hgg,rest⟩
  ·exact .inl hn
  ·refine .inr ⟨g,cp,cur,hv,hg2,?_,rest⟩
   have hne:g≠P:=o_;exact ZC hgg (a:=⟨P,2,none⟩) hne _
 ·have f1:FrB P B 82 wr w7:=Fr.of_below hb _
  exact (f1.trans ((FrB.refl P B 82 w7).grown hg (X7 o7))).setCell 2 _
theorem Zm1(P B:Nat)(sec:Str)(kinds form:Int)(list:Bool)(kvs:List ZQ)(NB nc:Nat)(names:List Str)(w:World)(hG:Ql w P B sec kinds kvs)(hPB:P<B)(hBw:B<=w.heap.size)
  (hN:w.heap[NB]?=some (.cells (Zh names).toArray 9 (0,0))) (hl:names.length<=100) (hk:kvs.length<=100) :
  Calls prog 88 #[.pointer (some ⟨P,0,none⟩),.int .i64 form,.bool list,.slice (some ⟨NB,0,none⟩) names.length nc] w fun e w'=>e=.returned (.tuple #[])/\Ql w' P B sec kinds (kvs++names.map (YZ sec kinds form list))/\FrB P B 82 w w':=by
 obtain ⟨i0,hi0,hz0,hz1,hz2⟩:=info_parts Zfj;have HN:=h_ hN;have HG0:=h_ (show Ql w P B sec kinds (kvs++(names.take 0).map (YZ sec kinds form list)) by simpa using hG);have HNP:=h_ (show NB≠P from by rintro rfl;obtain ⟨ga,gc,h1,_⟩:=hG.ex;rw [hN] at h1;simp at h1);clear hN hG;go_enter func88,ntmps88;go_wp2_with fail;go_loopg [12] (names.length+1) (fun f i wr=>∃k:Nat,k<=names.length/\i=.int .i64 k/\names.length-k<f/\Hid (Ql wr P B sec kinds (kvs++(names.take k).map (YZ sec kinds form list)))/\Hid (FrB P B 82 w wr))
 case atStart=>exact ⟨0,o_,rfl,o_,HG0,FrB.refl _ _ _ _⟩
 case round=>
  obtain ⟨k,hk2,rfl,hfu,HGk,Hf⟩:=hrel;clear HG0;by_cases hlt:k<names.length
  ·obtain ⟨n,hn⟩:=e_ (names[k])
   have hb2:=Hf.out.heap HN.out HNP.out d_;have d0:wr.cell? ⟨NB,k,none⟩=some (.string ⟨n.toArray⟩):=by
    rw [(rd hb2).1 k,c1_,Zh,List.getElem?_map,List.getElem?_eq_getElem hlt,hn];rfl
   have HSN:=h_ (show kvs++(names.take (k+1)).map (YZ sec kinds form list)=(kvs++(names.take k).map (YZ sec kinds form list))++[YZ sec kinds form list n] by
    rw [c4_ hlt,List.map_append,hn];simp)
   have hlen:(kvs++(names.take k).map (YZ sec kinds form list)).length<=200:=by rw [c5_,List.length_map,List.length_take];omega
   have hsz:=Hf.out.size;generalize kvs++(names.take k).map (YZ sec kinds form list)=ks at *;obtain ⟨ga,gc,hbx,hown⟩:=HGk.out.ex;have HBX:=h_ hbx;have HOW:=h_ hown;have i5:(k:Int)<(names.length:Int):=o_;clear hb2 hn hbx hown;go_wp2_with fail;refine Zk (S:=fun V=>V.heap[P]?=some (.cells #[.string ⟨sec.toArray⟩,.int .i64 kinds,.slice ga ks.length gc] 115 (0,0))) 19 k_ k_ HBX.out (fun hHeld=>?_);refine u_ ?_;(iterate 17 refine dN_ 0 (gT_ rfl) (fun W hW=>by obtain ⟨q0,q1,q2⟩:=cells3 hW;clear hW;go_simp;rfl) (u_ ?_));refine Zu (i:=17) (gT_ rfl) k_ k_ (fun K hK=>?_);clear hHeld;rw [if_pos n18_];go_simp;have HBJ:=h_ (show Below wr.heap.size wr (wr.drew.alloc (.cells #[.string ⟨sec.toArray⟩,.string ⟨n.toArray⟩,.int .i64 form,.bool list,.int .i64 kinds,.slice none 0 0] 82)) from (show Below wr.heap.size wr wr.drew from Ze ⟨1,rfl⟩).alloc l_ _);have HBL:=h_ (ZG.of_own (enc:=Zm) (k:=6) (l:=[YZ sec kinds form list n]) (oa:=some ⟨wr.drew.heap.size,0,none⟩) (cap:=1) (fun _=>rfl) (Zh2 wr.drew (.string ⟨sec.toArray⟩) (.string ⟨n.toArray⟩) (.int .i64 form) (.bool list) (.int .i64 kinds) (.slice none 0 0) 82));refine hK.out _ _ (Za HBX.out HBJ.out) (fun hHeld=>?_);clear hK K;refine u_ ?_;refine Zu (i:=18) (gT_ rfl) k_ k_ (fun K hK=>?_);clear hHeld;refine XO n18_ (.tmp 20) (.tmp 33) 79 n18_ B 82 i0 (.agg #[.string ⟨#[]⟩,.string ⟨#[]⟩,.int .i64 0,.bool false,.int .i64 0,.slice none 0 0]) 6 80 underlying79 hi0 hz0 hz1 hz2 n18_ d_ (.slice ga ks.length gc) ks.length (Zx Zm ks) n18_ (Zo HOW.out HBJ.out) (some ⟨wr.heap.size,0,none⟩) 1 1 (Zx Zm [YZ sec kinds form list n]) n18_
     rfl (ZG.flat (enc:=Zm) (k:=6) (fun _=>rfl) o_ HBL.out) (Y1 ZeO _) n23_ o_ (Nat.le_trans (Nat.le_trans hBw hsz) HBJ.out.size) ?_
   intro v1 w7 hown1 hgrow1;obtain ⟨ga2,gc2,rfl⟩:=ownsRow_form hown1;have HM:=h_ (Ql.more (k:=YZ sec kinds form list n) HBJ.out HBX.out HOW.out hPB hgrow1 (by rw [<-QJ Zm];exact hown1));have HBX7:=h_ (show w7.heap[P]?=some (.cells #[.string ⟨sec.toArray⟩,.int .i64 kinds,.slice ga ks.length gc] 115 (0,0)) from by
    rw [hgrow1.block P (Zd (Za HBX.out HBJ.out)) (Yw (Zo HOW.out HBJ.out) (Za HBX.out HBJ.out) d_)];exact Za HBX.out HBJ.out)
   clear hown1 hgrow1;refine hK.out _ _ HBX7.out (fun hHeld=>?_);clear hK K;refine u_ ?_;refine ZF k_ ?_;clear hHeld;have hgb:=rd HBX7.out;have s3:=(cells3 HBX7.out).2.2;have s4:=hgb.2.1 2;have s5:=hgb.2.2.1;clear hgb;go_wp2_with fail;go_roundg (gk-1)
   case measure=>omega
   case rel=>exact ⟨k+1,o_,n9_,o_,by rw [HSN.out];exact HM.out.1,Hf.out.trans HM.out.2⟩
  ·have hk3:k=names.length:=o_
   subst hk3;rw [c9_ l_] at HGk;go_wp2_with fail;refine ⟨rfl,_,results_none rfl _ _ _,?_⟩;exact ⟨rfl,HGk.out,Hf.out⟩
theorem Ze1(c:UInt8)(w:World) :
  Calls prog 167 #[.int .u8 c.toNat] w fun e w'=>e=.returned (.bool (Jz c))/\w=w':=by
 go_enter func167,ntmps167;go_wp2;all_goals
  go_ret;refine ⟨ZB ?_,rfl⟩;rw [ZjX,Bool.eq_iff_iff];simp;omega
end Go.Proofs.YtmgmbeipbeknaaaGreatDoor
