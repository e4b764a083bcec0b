import Derived.Lib.AppendZerosOnto
import Derived.Lib.SliceRun
import Derived.Test.YtmgmbeipbeknaaaGreatDoorRT2
import Derived.Test.YtmgmbeipbeknaaaGreatDoorRT3
import Derived.Test.YtmgmbeipbeknaaaGreatDoorRT6
import Derived.Test.YtmgmbeipbeknaaaGreatDoorRT8
namespace Go.Proofs.YtmgmbeipbeknaaaGreatDoor
set_option linter.unusedVariables false
set_option linter.unusedSimpArgs false
set_option maxHeartbeats 16000000
set_option maxRecDepth 100000
structure ZQ where
 sec:Str
 name:Str
 form:Int
 list:Bool
 kinds:Int
 words:List Str
deriving DecidableEq
abbrev Zaj:Str:=[85,110,105,116]
abbrev Zbb:Str:=[68,101,115,99,114,105,112,116,105,111,110]
abbrev XG:Str:=[68,101,102,97,117,108,116,68,101,112,101,110,100,101,110,99,105,101,115]
abbrev XT:Str:=[82,101,113,117,105,114,101,115]
abbrev Zf0:Str:=[87,97,110,116,115]
abbrev JA:Str:=[82,101,113,117,105,115,105,116,101]
abbrev ZbF:Str:=[66,105,110,100,115,84,111]
abbrev Zc1:Str:=[80,97,114,116,79,102]
abbrev JQ:Str:=[67,111,110,102,108,105,99,116,115]
abbrev ZdB:Str:=[66,101,102,111,114,101]
abbrev Ze6:Str:=[65,102,116,101,114]
abbrev JI:Str:=[79,110,70,97,105,108,117,114,101]
abbrev Xj:Str:=[83,116,97,114,116,76,105,109,105,116,73,110,116,101,114,118,97,108,83,101,99]
abbrev QX:Str:=[83,116,97,114,116,76,105,109,105,116,66,117,114,115,116]
abbrev Yr:Str:=[83,101,114,118,105,99,101]
abbrev ZmZ:Str:=[84,121,112,101]
abbrev Zam:Str:=[69,120,101,99,83,116,97,114,116,80,114,101]
abbrev ZcV:Str:=[69,120,101,99,83,116,97,114,116]
abbrev JX:Str:=[69,120,101,99,83,116,97,114,116,80,111,115,116]
abbrev Zd1:Str:=[69,120,101,99,83,116,111,112]
abbrev ZbL:Str:=[69,120,101,99,82,101,108,111,97,100]
abbrev QT:Str:=[82,101,109,97,105,110,65,102,116,101,114,69,120,105,116]
abbrev Zds:Str:=[82,101,115,116,97,114,116]
abbrev ZbN:Str:=[82,101,115,116,97,114,116,83,101,99]
abbrev QN:Str:=[84,105,109,101,111,117,116,83,116,97,114,116,83,101,99]
abbrev Jk:Str:=[84,105,109,101,111,117,116,83,116,111,112,83,101,99]
abbrev Qb:Str:=[83,117,99,99,101,115,115,69,120,105,116,83,116,97,116,117,115]
abbrev Yh:Str:=[69,110,118,105,114,111,110,109,101,110,116]
abbrev Zdy:Str:=[83,111,99,107,101,116,115]
abbrev Zrn:Str:=[115,105,109,112,108,101]
abbrev ZpY:Str:=[111,110,101,115,104,111,116]
abbrev Zrg:Str:=[110,111,116,105,102,121]
abbrev nno:Str:=[110,111]
abbrev ZjX:Str:=[111,110,45,115,117,99,99,101,115,115]
abbrev Zky:Str:=[111,110,45,102,97,105,108,117,114,101]
abbrev ZiD:Str:=[111,110,45,97,98,110,111,114,109,97,108]
abbrev ZqR:Str:=[97,108,119,97,121,115]
abbrev Zcc:Str:=[83,111,99,107,101,116]
abbrev Zal:Str:=[76,105,115,116,101,110,83,116,114,101,97,109]
abbrev Zft:Str:=[66,97,99,107,108,111,103]
abbrev X7:Str:=[70,105,108,101,68,101,115,99,114,105,112,116,111,114,78,97,109,101]
abbrev ZdV:Str:=[84,105,109,101,114]
abbrev ZcI:Str:=[79,110,66,111,111,116,83,101,99]
abbrev Za5:Str:=[79,110,65,99,116,105,118,101,83,101,99]
abbrev Qd:Str:=[79,110,85,110,105,116,73,110,97,99,116,105,118,101,83,101,99]
abbrev ZbT:Str:=[79,110,67,97,108,101,110,100,97,114]
abbrev ZbS:Str:=[80,101,114,115,105,115,116,101,110,116]
abbrev Zdl:Str:=[73,110,115,116,97,108,108]
abbrev Zb7:Str:=[87,97,110,116,101,100,66,121]
abbrev Zac:Str:=[82,101,113,117,105,114,101,100,66,121]
abbrev Ziv:Str:=[65,108,105,97,115]
abbrev ZmY:Str:=[65,108,115,111]
abbrev QM:Str:=[68,101,102,97,117,108,116,73,110,115,116,97,110,99,101]
abbrev Zi8:List Str:=[Zbb]
abbrev Zkz:List Str:=[XG]
abbrev Zkg:List Str:=[XT,Zf0,JA,ZbF,Zc1,JQ,ZdB,Ze6,JI]
abbrev Zkl:List Str:=[Xj]
abbrev Zjg:List Str:=[QX]
abbrev Zee:List Str:=[Zrn,ZpY,Zrg]
abbrev Zem:List Str:=[Zam,ZcV,JX,Zd1,ZbL]
abbrev Zes:List Str:=[QT]
abbrev ZeA:List Str:=[nno,ZjX,Zky,ZiD,ZqR]
abbrev ZeC:List Str:=[ZbN,QN,Jk]
abbrev ZeD:List Str:=[Qb]
abbrev Zer:List Str:=[Yh]
abbrev ZeG:List Str:=[Zdy]
abbrev Zfg:List Str:=[Zal]
abbrev Zf4:List Str:=[Zft]
abbrev Zfw:List Str:=[X7]
abbrev Zgf:List Str:=[Yr]
abbrev Zg6:List Str:=[ZcI,Za5,Qd]
abbrev Zhy:List Str:=[ZbT]
abbrev Zhg:List Str:=[ZbS]
abbrev Zg1:List Str:=[Zaj]
abbrev Zd8:List Str:=[Zb7,Zac,Ziv,ZmY]
abbrev ZeI:List Str:=[QM]
def keysOf(sec:Str)(kinds form:Int)(list:Bool)(names:List Str):List ZQ:=names.map fun n=>⟨sec,n,form,list,kinds,[]⟩
def Zjx:List ZQ:=keysOf Zaj 30 1 false Zi8++keysOf Zaj 30 2 false Zkz++keysOf Zaj 30 6 true Zkg++keysOf Zaj 30 4 false Zkl++keysOf Zaj 30 3 false Zjg
def ZeB:List ZQ:=[⟨Yr,ZmZ,10,false,2,Zee⟩]++keysOf Yr 2 7 true Zem++keysOf Yr 2 2 false Zes++[⟨Yr,Zds,10,false,2,ZeA⟩]++keysOf Yr 2 4 false ZeC++keysOf Yr 2 11 true ZeD++keysOf Yr 2 8 true Zer++keysOf Yr 2 6 true ZeG
def Zfk:List ZQ:=keysOf Zcc 4 11 true Zfg++keysOf Zcc 4 3 false Zf4++keysOf Zcc 4 1 false Zfw++keysOf Zcc 4 5 false Zgf
def Zha:List ZQ:=keysOf ZdV 8 4 true Zg6++keysOf ZdV 8 9 true Zhy++keysOf ZdV 8 2 false Zhg++keysOf ZdV 8 5 false Zg1
def Zea:List ZQ:=keysOf Zdl 30 6 true Zd8++keysOf Zdl 30 1 false ZeI
def Zf:List ZQ:=Zjx++(ZeB++(Zfk++(Zha++(Zea))))
def findKey(sec name:Str):Option ZQ:=Zf.find? fun k=>k.sec==sec&&k.name==name
theorem Je:Zf.length=42:=d_
open Go.Proofs.Tryz
open Go Go.RowKit
structure ZJ where
 sec:Str
 name:Str
 form:Int
 list:Bool
 kinds:Int
 wa:Option Addr
 wn:Nat
 wc:Nat
def Zq(k:ZJ):List Value:=[.string ⟨k.sec.toArray⟩,.string ⟨k.name.toArray⟩,.int .i64 k.form,.bool k.list,.int .i64 k.kinds,.slice k.wa k.wn k.wc]
theorem ZiQ(k:ZJ):∀v∈Zq k,v.oneCell'=true:=by intro v hv;simp [Zq] at hv;rcases hv with rfl|rfl|rfl|rfl|rfl|rfl<;>rfl
def XY(sec:Str)(kinds form:Int)(list:Bool)(n:Str):ZJ:=⟨sec,n,form,list,kinds,none,0,0⟩
theorem Zh2:(prog.info? 82).map (fun i=>(i.zero,i.size,i.bytes))=some (some (.agg #[.string ⟨#[]⟩,.string ⟨#[]⟩,.int .i64 0,.bool false,.int .i64 0,.slice none 0 0]),6,80):=k_
theorem Zlq(w:World)(a b c d e f:Value)(T:TypeId):(w.alloc (.cells #[a,b,c,d,e,f] T)).ownsRow w.heap.size T 6 (.slice (some ⟨w.heap.size,0,none⟩) 1 1) 1 [a,b,c,d,e,f]:=
 ⟨rfl,.inr ⟨w.heap.size,1,#[a,b,c,d,e,f],rfl,l_,heap_alloc_new _ _,l_,d_,rfl,rfl⟩⟩
theorem Qq{w:World}{B e k n:Nat}{v:Value}{xs:List Value}(h:w.ownsRow B e k v n xs):∀g,v.ownBlock=some g->B<=g/\Zbt e w g:=by
 intro g hg;rcases h.2 with ⟨rfl,_⟩|⟨g',cap,cur,rfl,hb,hh,_⟩
 ·simp [Value.ownBlock] at hg
 ·simp [Value.ownBlock] at hg
  subst hg;exact ⟨hb,cur,(0,0),hh⟩
structure Xm(w:World)(P B:Nat)(sec:Str)(kinds:Int)(kvs:List ZJ):Prop where
 ex:∃ga gc,w.heap[P]?=some (.cells #[.string ⟨sec.toArray⟩,.int .i64 kinds,.slice ga kvs.length gc] 115 (0,0))/\w.ownsRow B 82 6 (.slice ga kvs.length gc) kvs.length (Zy Zq kvs)
theorem Xm.below{w w':World}{P B:Nat}{sec:Str}{kinds:Int}{kvs:List ZJ}(h:Xm w P B sec kinds kvs)(hb:Below w.heap.size w w'):Xm w' P B sec kinds kvs:=by
 obtain ⟨ga,gc,h1,h2⟩:=h.ex;exact ⟨ga,gc,Za h1 hb,Zr h2 hb⟩
theorem Xm.more{wr w7 w8:World}{P B:Nat}{sec:Str}{kinds:Int}{kvs:List ZJ}{k:ZJ}{ga ga2:Option Addr}{gc gc2:Nat}(hb:Below wr.heap.size wr w7)
  (h1:wr.heap[P]?=some (.cells #[.string ⟨sec.toArray⟩,.int .i64 kinds,.slice ga kvs.length gc] 115 (0,0))) (h2:wr.ownsRow B 82 6 (.slice ga kvs.length gc) kvs.length (Zy Zq kvs)) (hPB:P<B)
  (hg:w7.grownBy w8 (Value.slice ga kvs.length gc).ownBlock) (ho:w8.ownsRow B 82 6 (.slice ga2 (kvs.length+1) gc2) (kvs.length+1) (Zy Zq kvs++Zq k)) :
  Xm (w8.setCell ⟨P,2,none⟩ (.slice ga2 (kvs.length+1) gc2)) P B sec kinds (kvs++[k])/\FrB P B 82 wr (w8.setCell ⟨P,2,none⟩ (.slice ga2 (kvs.length+1) gc2)):=by
 have b7:=Za h1 hb;have o7:=Zr h2 hb;have b8:w8.heap[P]?=some (.cells #[.string ⟨sec.toArray⟩,.int .i64 kinds,.slice ga kvs.length gc] 115 (0,0)):=by
  rw [hg.block P (Zb b7) (ZW o7 b7 d_)];exact b7
 have e:(kvs++[k]).length=kvs.length+1:=s_;refine ⟨⟨ga2,gc2,?_,?_⟩,?_⟩
 ·have:=heap_setCell b8 2 (.slice ga2 (kvs.length+1) gc2)
  rw [this,e];rfl
 ·rw [e,ZN,XK]
  refine ⟨ho.1,?_⟩;rcases ho.2 with hn|⟨g,cp,cur,hv,hg2,hgg,rest⟩
  ·exact .inl hn
  ·refine .inr ⟨g,cp,cur,hv,hg2,?_,rest⟩
   have hne:g≠P:=o_;exact Zu hgg (a:=⟨P,2,none⟩) hne _
 ·have f1:FrB P B 82 wr w7:=Fr.of_below hb _
  exact (f1.trans ((FrB.refl P B 82 w7).grown hg (Qq o7))).setCell 2 _
theorem Zjt(P B:Nat)(sec:Str)(kinds form:Int)(list:Bool)(kvs:List ZJ)(NB nc:Nat)(names:List Str)(w:World)(hG:Xm w P B sec kinds kvs)(hPB:P<B)(hBw:B<=w.heap.size)
  (hN:w.heap[NB]?=some (.cells (Zj names).toArray 9 (0,0))) (hl:names.length<=100) (hk:kvs.length<=100) :
  Calls prog 88 #[.pointer (some ⟨P,0,none⟩),.int .i64 form,.bool list,.slice (some ⟨NB,0,none⟩) names.length nc] w fun e w'=>e=.returned (.tuple #[])/\Xm w' P B sec kinds (kvs++names.map (XY sec kinds form list))/\FrB P B 82 w w':=by
 obtain ⟨i0,hi0,hz0,hz1,hz2⟩:=info_parts Zh2;have HN:=h_ hN;have HG0:=h_ (show Xm w P B sec kinds (kvs++(names.take 0).map (XY sec kinds form list)) by simpa using hG);have HNP:=h_ (show NB≠P from by rintro rfl;obtain ⟨ga,gc,h1,_⟩:=hG.ex;rw [hN] at h1;simp at h1);clear hN hG;go_enter func88,ntmps88;go_wp2_with fail;go_loopg [12] (names.length+1) (fun f i wr=>∃k:Nat,k<=names.length/\i=.int .i64 k/\names.length-k<f/\Hid (Xm wr P B sec kinds (kvs++(names.take k).map (XY sec kinds form list)))/\Hid (FrB P B 82 w wr))
 case atStart=>exact ⟨0,o_,rfl,o_,HG0,FrB.refl _ _ _ _⟩
 case round=>
  obtain ⟨k,hk2,rfl,hfu,HGk,Hf⟩:=hrel;clear HG0;by_cases hlt:k<names.length
  ·obtain ⟨n,hn⟩:=e_ (names[k])
   have hb2:=Hf.out.heap HN.out HNP.out d_;have d0:wr.cell? ⟨NB,k,none⟩=some (.string ⟨n.toArray⟩):=by
    rw [(rd hb2).1 k,List.getElem?_toArray,Zj,List.getElem?_map,List.getElem?_eq_getElem hlt,hn];rfl
   have HSN:=h_ (show kvs++(names.take (k+1)).map (XY sec kinds form list)=(kvs++(names.take k).map (XY sec kinds form list))++[XY sec kinds form list n] by
    rw [List.take_succ_eq_append_getElem hlt,List.map_append,hn];simp)
   have hlen:(kvs++(names.take k).map (XY sec kinds form list)).length<=200:=by rw [List.length_append,List.length_map,List.length_take];omega
   have hsz:=Hf.out.size;generalize kvs++(names.take k).map (XY sec kinds form list)=ks at *;obtain ⟨ga,gc,hbx,hown⟩:=HGk.out.ex;have HBX:=h_ hbx;have HOW:=h_ hown;have i5:(k:Int)<(names.length:Int):=o_;clear hb2 hn hbx hown;go_wp2_with fail;refine Ze (S:=fun V=>V.heap[P]?=some (.cells #[.string ⟨sec.toArray⟩,.int .i64 kinds,.slice ga ks.length gc] 115 (0,0))) 19 k_ k_ HBX.out (fun hHeld=>?_);refine u_ ?_;(iterate 17 refine dN_ 0 (gT_ rfl) (fun W hW=>by obtain ⟨q0,q1,q2⟩:=cells3 hW;clear hW;go_simp;rfl) (u_ ?_));refine Zm (i:=17) (gT_ rfl) k_ k_ (fun K hK=>?_);clear hHeld;rw [if_pos n13_];go_simp;have HBJ:=h_ (show Below wr.heap.size wr (wr.drew.alloc (.cells #[.string ⟨sec.toArray⟩,.string ⟨n.toArray⟩,.int .i64 form,.bool list,.int .i64 kinds,.slice none 0 0] 82)) from (show Below wr.heap.size wr wr.drew from Zc ⟨1,rfl⟩).alloc l_ _);have HBL:=h_ (Zw.of_own (enc:=Zq) (k:=6) (l:=[XY sec kinds form list n]) (oa:=some ⟨wr.drew.heap.size,0,none⟩) (cap:=1) (fun _=>rfl) (Zlq wr.drew (.string ⟨sec.toArray⟩) (.string ⟨n.toArray⟩) (.int .i64 form) (.bool list) (.int .i64 kinds) (.slice none 0 0) 82));refine hK.out _ _ (Za HBX.out HBJ.out) (fun hHeld=>?_);clear hK K;refine u_ ?_;refine Zm (i:=18) (gT_ rfl) k_ k_ (fun K hK=>?_);clear hHeld;refine Y0 n13_ (.tmp 20) (.tmp 33) 79 n13_ B 82 i0 (.agg #[.string ⟨#[]⟩,.string ⟨#[]⟩,.int .i64 0,.bool false,.int .i64 0,.slice none 0 0]) 6 80 underlying79 hi0 hz0 hz1 hz2 n13_ d_ (.slice ga ks.length gc) ks.length (Zy Zq ks) n13_ (Zr HOW.out HBJ.out) (some ⟨wr.heap.size,0,none⟩) 1 1 (Zy Zq [XY sec kinds form list n]) n13_
     rfl (Zw.flat (enc:=Zq) (k:=6) (fun _=>rfl) o_ HBL.out) (YR ZiQ _) n19_ o_ (Nat.le_trans (Nat.le_trans hBw hsz) HBJ.out.size) ?_
   intro v1 w7 hown1 hgrow1;obtain ⟨ga2,gc2,rfl⟩:=ownsRow_form hown1;have HM:=h_ (Xm.more (k:=XY sec kinds form list n) HBJ.out HBX.out HOW.out hPB hgrow1 (by rw [<-XK Zq];exact hown1));have HBX7:=h_ (show w7.heap[P]?=some (.cells #[.string ⟨sec.toArray⟩,.int .i64 kinds,.slice ga ks.length gc] 115 (0,0)) from by
    rw [hgrow1.block P (Zb (Za HBX.out HBJ.out)) (ZW (Zr HOW.out HBJ.out) (Za HBX.out HBJ.out) d_)];exact Za HBX.out HBJ.out)
   clear hown1 hgrow1;refine hK.out _ _ HBX7.out (fun hHeld=>?_);clear hK K;refine u_ ?_;refine Zv k_ ?_;clear hHeld;have hgb:=rd HBX7.out;have s3:=(cells3 HBX7.out).2.2;have s4:=hgb.2.1 2;have s5:=hgb.2.2.1;clear hgb;go_wp2_with fail;go_roundg (gk-1)
   case measure=>omega
   case rel=>exact ⟨k+1,o_,n15_,o_,by rw [HSN.out];exact HM.out.1,Hf.out.trans HM.out.2⟩
  ·have hk3:k=names.length:=o_
   subst hk3;rw [List.take_of_length_le l_] at HGk;go_wp2_with fail;refine ⟨rfl,_,results_none rfl _ _ _,?_⟩;exact ⟨rfl,HGk.out,Hf.out⟩
theorem ZfG{w:World}{base k:Nat}{e:TypeId}{g n cap:Nat}{xs:List Value}(h:w.ownsRow base e k (.slice (some ⟨g,0,none⟩) n cap) n xs)(j:Nat)(hj:j<xs.length)(y:Value) :
  (w.setCell ⟨g,j,none⟩ y).ownsRow base e k (.slice (some ⟨g,0,none⟩) n cap) n (xs.set j y)/\(∃x,w.cell? ⟨g,j,none⟩=some x)/\w.frozen? ⟨g,j,none⟩=false/\base<=g/\g<w.heap.size/\(∃s,w.shape? g=some (e,s)):=by
 have hl:xs.length=n*k:=h.1;rcases h.2 with ⟨h0,_⟩|⟨g',cap',cur,hv,hb,hg,hnc,hcm,hcs,ht⟩
 ·cases h0
 ·injection hv with e1 e2 e3
  injection e1 with e1
  injection e1 with e1 _ _
  subst e1;subst e3;have hsz:j<cur.size:=by
   have:=congrArg List.length ht
   rw [List.length_take,Array.length_toList] at this;omega
  refine ⟨⟨by simp [hl],.inr ⟨g,cap,cur.setIfInBounds j y,rfl,hb,heap_setCell hg j y,hnc,hcm,by simpa using hcs,?_⟩⟩,⟨cur[j],by simp [World.cell?,hg,hsz]⟩,by simp [World.frozen?,hg],hb,Zb hg,⟨cur.size,by simp [World.shape?,hg]⟩⟩;rw [Array.toList_setIfInBounds,List.take_set,ht]
theorem ZhZ:(prog.info? 9).map (fun i=>(i.zero,i.size,i.bytes))=some (some (.string ⟨#[]⟩),1,16):=k_
def Zru(w:World)(B:Nat)(k:ZJ)(words:List Str):Prop:=k.wn=words.length/\w.ownsRow B 9 1 (.slice k.wa k.wn k.wc) k.wn (Zj words)
theorem Zno{w w':World}{P B B' k n:Nat}{e e':TypeId}{v:Value}{xs:List Value}(h:w.ownsRow B' e' k v n xs)(hf:FrB P B e w w')(he:e'≠e)(hP:v.ownBlock≠some P):w'.ownsRow B' e' k v n xs:=by
 refine ⟨h.1,?_⟩;rcases h.2 with hn|⟨g,cap,cur,rfl,hg,hgg,rest⟩
 ·exact .inl hn
 ·refine .inr ⟨g,cap,cur,rfl,hg,?_,rest⟩
  exact hf.heap hgg (fun q=>hP (by simp [Value.ownBlock,q])) he
theorem ZpH(P B:Nat)(sec:Str)(kinds:Int)(kvs:List ZJ)(name:Str)(WB wc:Nat)(words:List Str)(w:World)(hG:Xm w P B sec kinds kvs)(hPB:P<B)(hBw:B<=w.heap.size)
  (hW:w.heap[WB]?=some (.cells (Zj words).toArray 9 (0,0))) (hl:words.length<=100) (hk:kvs.length<=90) :
  Calls prog 89 #[.pointer (some ⟨P,0,none⟩),.string ⟨name.toArray⟩,.slice (some ⟨WB,0,none⟩) words.length wc] w fun e w'=>e=.returned (.tuple #[])/\∃k:ZJ,(k.sec=sec/\k.name=name/\k.form=10/\k.list=false/\k.kinds=kinds)/\Zru w' w.heap.size k words/\Xm w' P B sec kinds (kvs++[k])/\FrB P B 82 w w':=by
 obtain ⟨i0,hi0,hz0,hz1,hz2⟩:=info_parts ZhZ;have hb1:=(Below.refl w.heap.size w).alloc l_ (.cells #[.string ⟨name.toArray⟩] 9);have HS:=h_ (Zjt P B sec kinds 10 false kvs w.heap.size 1 [name] (w.alloc (.cells #[.string ⟨name.toArray⟩] 9)) (hG.below hb1) hPB (Nat.le_trans hBw hb1.size) (heap_alloc_new w _) s_ o_);have HW:=h_ hW;have HWP:=h_ (show WB≠P from by rintro rfl;obtain ⟨ga,gc,h1,_⟩:=hG.ex;rw [hW] at h1;simp at h1);have HB1:=h_ hb1;have HW1:=h_ (Za hW hb1);clear hG hW hb1;go_enter func89,ntmps89;go_wp2_with fail;refine HS.out.mono ?_;rintro e w2 ⟨rfl,hg2,hf2⟩;have hf0:FrB P B 82 w w2:=FrB.trans (show FrB P B 82 w (w.alloc (.cells #[.string ⟨name.toArray⟩] 9)) from Fr.of_below HB1.out _) hf2;have HF2:=h_ hf0;have HW2:=h_ (hf2.heap HW1.out HWP.out d_);obtain ⟨ga,gc,hbx,hown⟩:=hg2.ex;have HBX:=h_ hbx;have HOW:=h_ hown;have hln:(kvs++[name].map (XY sec kinds 10 false)).length=kvs.length+1:=s_;rw [hln] at HBX HOW;obtain ⟨g,gc',e3,hcell,hBg,hglt⟩:=ZoG HOW.out o_;injection e3 with e3 _ e4
 subst e3;subst e4;have HC:=h_ (fun V (h:V.os=V.os\/True) (hc:∀j u,(Zj words)[j]?=some u->V.cell? ⟨WB,0+j,none⟩=some u)=>Tryz.slices_Clone i0 (.string ⟨#[]⟩) 1 16 hi0 hz0 hz1 hz2 n13_ d_ (fun w=>by rfl) WB 0 words.length wc (Zj words) V (by simp [Zj]) n19_ o_ hc (ZiT _));have HST:=h_ (ZfG HOW.out (kvs.length*6+5) (by rw [HOW.out.1];omega));have hflat:Zy Zq (kvs++[name].map (XY sec kinds 10 false))=Zy Zq kvs++Zq (XY sec kinds 10 false name):=by rw [ZN];simp [Zy]
 have HFL:=h_ hflat;have hgP:g≠P:=o_;have i1:(kvs.length:Int)<=90:=o_;have i2:IntKind.i64.wrap (kvs.length:Int)=(kvs.length:Int):=IntWalk.i64_in _ o_;clear hf2 hf0 hg2 hbx hown hcell hln hflat HS HW1;go_wp2_with fail;refine Ze (S:=fun V=>V.heap[P]?=some (.cells #[.string ⟨sec.toArray⟩,.int .i64 kinds,.slice (some ⟨g,0,none⟩) (kvs.length+1) gc] 115 (0,0))/\Below w2.heap.size w2 V) 12 k_ k_ ⟨HBX.out,Zc ⟨1,rfl⟩⟩ (fun hHeld=>?_);refine u_ ?_;(iterate 11 refine dN_ 0 (gT_ rfl) (fun W hW=>by obtain ⟨q0,q1,q2⟩:=cells3 hW.1;clear hW;go_simp;rfl) (u_ ?_));refine Zm (i:=11) (gT_ rfl) k_ k_ (fun K hK=>?_);clear hHeld;rw [if_pos n13_];go_simp;refine (HC.out _ (.inr trivial) (fun j u hj=>by rw [Nat.zero_add];show w2.cell? ⟨WB,j,none⟩=some u;rw [(rd HW2.out).1 j,List.getElem?_toArray];exact hj)).mono ?_;rintro e w3 ⟨v3,rfl,ho3,hne3,hb3⟩;obtain ⟨wa3,wc3,rfl⟩:=ownsRow_form ho3;have HB3:=h_ ((show Below w2.heap.size w2 w2.drew from Zc ⟨1,rfl⟩).trans hb3);have HO3:=h_ (show w3.ownsRow w2.heap.size 9 1 (.slice wa3 words.length wc3) words.length (Zj words) from ho3);clear ho3 hne3 hb3;refine hK.out _ _ ⟨Za HBX.out HB3.out,HB3.out⟩ (fun hHeld=>?_);clear hK K;refine u_ ?_;refine Zv k_ ?_;clear hHeld;obtain ⟨hset,⟨ox,hox⟩,hfz,-,-,hshape⟩:=ZfG (Zr HOW.out HB3.out) (kvs.length*6+5) (by rw [HOW.out.1];omega) (.slice wa3 words.length wc3);obtain ⟨sh,hshape⟩:=hshape;go_wp2_with fail;refine ⟨rfl,_,results_none rfl _ _ _,rfl,⟨sec,name,10,false,kinds,wa3,words.length,wc3⟩,⟨rfl,rfl,rfl,rfl,rfl⟩,⟨rfl,?_⟩,⟨some ⟨g,0,none⟩,gc,?_,?_⟩,?_⟩
 ·have hne:(Value.slice wa3 words.length wc3).ownBlock≠some g:=by
   intro q
   have:=(World.ownsRow.lt HO3.out g q).1
   omega
  have h1:(w3.setCell ⟨g,kvs.length*6+5,none⟩ (.slice wa3 words.length wc3)).ownsRow w2.heap.size 9 1 (.slice wa3 words.length wc3) words.length (Zj words):=by
   refine ⟨HO3.out.1,?_⟩;rcases HO3.out.2 with hn|⟨g2,cp,cur,hv,hg2,hgg,rest⟩
   ·exact .inl hn
   ·refine .inr ⟨g2,cp,cur,hv,hg2,Zu hgg (a:=⟨g,kvs.length*6+5,none⟩) (by show g2≠g;omega) _,rest⟩
  refine ⟨h1.1,?_⟩;rcases h1.2 with hn|⟨g2,cp,cur,hv,hg2,hgg,rest⟩
  ·exact .inl hn
  ·exact .inr ⟨g2,cp,cur,hv,by have:=HF2.out.size;omega,hgg,rest⟩
 ·rw [List.length_append]
  exact Zu (Za HBX.out HB3.out) (a:=⟨g,kvs.length*6+5,none⟩) (by show P≠g;omega) _
 ·have e1:(Zy Zq (kvs++[name].map (XY sec kinds 10 false))).set (kvs.length*6+5) (.slice wa3 words.length wc3)=Zy Zq (kvs++[⟨sec,name,10,false,kinds,wa3,words.length,wc3⟩]):=by
   rw [HFL.out,ZN,XK];have hlk:(Zy Zq kvs).length=kvs.length*6:=Xg (enc:=Zq) (k:=6) (fun _=>rfl) kvs;rw [List.set_append_right _ _ o_,hlk,show kvs.length*6+5-kvs.length*6=5 by omega];rfl
  have e2:(kvs++[(⟨sec,name,10,false,kinds,wa3,words.length,wc3⟩:ZJ)]).length=kvs.length+1:=s_;rw [e1] at hset;rw [e2];exact hset
 ·have f3:FrB P B 82 w w3:=HF2.out.trans (show FrB P B 82 w2 w3 from Fr.of_below HB3.out _)
  refine Fr.setCell f3 (p:=⟨g,kvs.length*6+5,none⟩) (fun hgw=>.inr ⟨hBg,?_⟩) _;obtain ⟨cs,fz,hh⟩:=(Qq HOW.out g rfl).2;by_cases hm:g=P\/(B<=g/\Zbt 82 w g)
  ·rcases hm with h|h
   ·omega
   ·exact h.2
  ·exact ⟨cs,fz,by rw [<-HF2.out.block g hgw hm];exact hh⟩
theorem ZcM{P:Program}{w:World}{ops:Array Oper}{rest:List Oper}{o:Oper}{a:Act}{Q:Exit->Act->World->Prop}(hw:Region.wanted o (yielded ops a.tmps)=true)(s x:Operand)(t t2:TypeId)
  (ho:o.op=.call { callee:=.builtin .append,args:=#[s,x],argTypes:=#[t,t2] }) {v xv v':Value} {w':World} (hr:(Builtin.append_ #[t,t2] o.type #[v,xv]).run P w=.ok v' w') (hs:a.eval s=v) (hx:a.eval x=xv)
  (h:wpList P ops Q rest (a.put o.dst v') w'):wpList P ops Q (o::rest) a w:=by
 refine wpList_step fun K hK=>?_
 rw [if_pos hw];unfold Oper.wp execOp;simp only [ho,resolve,invoke,builtin,Sem.run_bind,Sem.run_pure,Result.andThen_ok,List.map_toArray,List.map_cons,List.map_nil,hs,hx,hr];exact hK _ _ h
def Zq2(w:World)(l:List ZJ)(e:Ending)(w':World):Prop:=∃v,e=.returned v/\w'.ownsRow w.heap.size 82 6 v l.length (Zy Zq l)/\Below w.heap.size w w'
theorem ZnZ(n:Nat)(w:World)(hn:n<1073741824):Calls prog 172 #[.slice none 0 0,.int .i64 n] w fun e w'=>∃v,e=.returned v/\w'.ownsRow w.heap.size 82 6 v 0 []/\Below w.heap.size w w':=by
 obtain ⟨i0,hi0,hz0,hz1,hz2⟩:=info_parts Zh2;by_cases h0:n=0
 ·subst h0
  go_enter func172,ntmps172;go_wp2_with fail;go_ret;exact ⟨_,rfl,World.ownsRow_nil _ _ _ _,Below.refl _ _⟩
 ·have hrun:∀ty,(Builtin.append_ #[79,3] ty #[.slice none 0 0,.int .i64 (n:Int)]).run prog w=.ok (.slice (some ⟨w.heap.size,0,none⟩) (0+n) (grownCap w (0+n) 0 82)) (w.drew.alloc (.cells (#[]++Builtin.zeroCells (Value.agg #[.string ⟨#[]⟩,.string ⟨#[]⟩,.int .i64 0,.bool false,.int .i64 0,.slice none 0 0]).cells n++Builtin.zeroCells (Value.agg #[.string ⟨#[]⟩,.string ⟨#[]⟩,.int .i64 0,.bool false,.int .i64 0,.slice none 0 0]).cells (grownCap w (0+n) 0 82-(0+n))) 82)):=fun ty=>
   Lib.run_append_grow_zeros w 79 3 ty 82 i0 (.agg #[.string ⟨#[]⟩,.string ⟨#[]⟩,.int .i64 0,.bool false,.int .i64 0,.slice none 0 0]) .i64 .i64 underlying79 underlying3 hi0 hz0 none 0 0 [] (run_firstCells_none w.drew i0.size 0 0 0) n o_ o_ o_ o_ (by rw [hz2];omega) (growslice_fits o_ (by rw [hz2];omega))
  have hG:=grownCap_ge w (0+n) 0 82;have hM:=grownCap_le_maxLen w (0+n) 0 82 n19_;generalize grownCap w (0+n) 0 82=G at *;have HR:=h_ hrun;have hown:(w.drew.alloc (.cells (#[]++Builtin.zeroCells (Value.agg #[.string ⟨#[]⟩,.string ⟨#[]⟩,.int .i64 0,.bool false,.int .i64 0,.slice none 0 0]).cells n++Builtin.zeroCells (Value.agg #[.string ⟨#[]⟩,.string ⟨#[]⟩,.int .i64 0,.bool false,.int .i64 0,.slice none 0 0]).cells (G-(0+n))) 82)).ownsRow w.heap.size 82 6 (.slice (some ⟨w.heap.size,0,none⟩) 0 G) 0 []:=by
   refine ⟨rfl,.inr ⟨w.heap.size,G,_,rfl,l_,heap_alloc_new w.drew _,Nat.zero_le _,hM,?_,s_⟩⟩;simp [Builtin.zeroCells,Value.cells];omega
  have HO:=h_ hown;have HB:=h_ ((show Below w.heap.size w w.drew from Zc ⟨1,rfl⟩).alloc l_ (.cells (#[]++Builtin.zeroCells (Value.agg #[.string ⟨#[]⟩,.string ⟨#[]⟩,.int .i64 0,.bool false,.int .i64 0,.slice none 0 0]).cells n++Builtin.zeroCells (Value.agg #[.string ⟨#[]⟩,.string ⟨#[]⟩,.int .i64 0,.bool false,.int .i64 0,.slice none 0 0]).cells (G-(0+n))) 82));clear hrun hown;have h1:¬((n:Int)<0):=o_;have h2:wrap64 ((n:Int)-0)=(n:Int):=by unfold wrap64;omega
  have h2b:wrap64 (n:Int)=(n:Int):=by unfold wrap64;omega
  have h4:(n:Int)>0:=o_;have h5:(0:Int)<n:=h4;have hM2:(G:Int)<=9223372036854775807:=by unfold maxLen at hM;omega
  generalize hw1:w.drew.alloc _=w1 at *;clear hw1;go_enter func172,ntmps172;go_wp2_with (at_builtin;refine ZcM rfl _ _ 79 3 rfl (HR.out _) rfl rfl ?_);go_ret;exact ⟨_,rfl,HO.out,HB.out⟩
structure Zko(w:World)(G:Nat)(ls:List (List ZJ)):Prop where
 lt:G<w.heap.size
 row:∀k (h:k<ls.length),∃oa cap,w.cell? ⟨G,k,none⟩=some (.slice oa ls[k].length cap)/\Zw Zq 6 w oa ls[k]
theorem Zko.below{w w':World}{G:Nat}{ls:List (List ZJ)}(h:Zko w G ls)(hb:Below w.heap.size w w'):Zko w' G ls:=
 ⟨Nat.lt_of_lt_of_le h.lt hb.size,fun k hk=>by obtain ⟨oa,cap,h1,h2⟩:=h.row k hk;exact ⟨oa,cap,by rw [hb.cell h.lt];exact h1,h2.below hb⟩⟩
theorem Zby(ls:List (List ZJ))(k:Nat)(h:k<ls.length):(ls.take (k+1)).flatten=(ls.take k).flatten++ls[k]:=by
 rw [List.take_succ_eq_append_getElem h,List.flatten_append];simp
theorem Zc8(ls:List (List ZJ))(k:Nat):(ls.take k).flatten.length<=ls.flatten.length:=by
 have:ls.flatten=(ls.take k).flatten++(ls.drop k).flatten:=by rw [<-List.flatten_append,List.take_append_drop]
 rw [this,List.length_append];omega
theorem ZjP(G cap0:Nat)(ls:List (List ZJ))(w:World)(hr:Zko w G ls)(hl:ls.length<1000)(hs:ls.flatten.length<1073741824) :
  Calls prog 90 #[.slice (some ⟨G,0,none⟩) ls.length cap0] w fun e w'=>Zq2 w ls.flatten e w':=by
 obtain ⟨i0,hi0,hz0,hz1,hz2⟩:=info_parts Zh2;have HR:=h_ hr;clear hr;have HS:=h_ hs;go_enter func90,ntmps90;go_wp2_with fail;go_loopg [3,11] (ls.length+1) (fun f n i wr=>∃k:Nat,k<=ls.length/\i=.int .i64 k/\n=.int .i64 ((ls.take k).flatten.length:Nat)/\ls.length-k<f/\w=wr)
 case atStart=>exact ⟨0,o_,rfl,s_,o_,rfl⟩
 case round=>
  obtain ⟨k,hk,rfl,rfl,hfu,rfl⟩:=hrel;by_cases hlt:k<ls.length
  ·obtain ⟨oa,cap,hc,-⟩:=HR.out.row k hlt
   have hN:=Zby ls k hlt;have hle:=Zc8 ls (k+1);have hlen:(ls.take (k+1)).flatten.length=(ls.take k).flatten.length+ls[k].length:=by rw [hN,List.length_append]
   rw [hlen] at hle;have HL:=h_ hlen;clear hN hlen;generalize (ls.take k).flatten.length=a at *;generalize ls[k].length=b at *;have i5:(k:Int)<(ls.length:Int):=o_;have h2:wrap64 ((a:Int)+(b:Int))=(a:Int)+(b:Int):=by unfold wrap64;omega
   have h3:¬((a:Int)+(b:Int)<0):=o_;go_wp2_with fail;go_roundg (gk-1)
   case measure=>omega
   case rel=>exact ⟨k+1,o_,n15_,by rw [HL.out];go_num,o_,rfl⟩
  ·have hke:k=ls.length:=o_
   subst hke;rw [List.take_length];have hge:¬((ls.length:Int)<(ls.length:Int)):=o_;have HG:=h_ (ZnZ ls.flatten.length w hs);generalize hFN:ls.flatten.length=N at HG⊢;have HFN:=h_ hFN;clear hFN;go_wp2_with fail;refine HG.out.mono ?_;rintro e w1 ⟨v0,rfl,ho,hb⟩;obtain ⟨ao,cap1,rfl⟩:=ownsRow_form ho;have HO:=h_ ho;have HB:=h_ hb;clear ho hb HG hfu hk hlt;go_wp2_with fail;go_loopg [6,27] (ls.length+1) (fun f v i w2=>∃k:Nat,k<=ls.length/\i=.int .i64 k/\ls.length-k<f/\Hid (w2.ownsRow w.heap.size 82 6 v (ls.take k).flatten.length (Zy Zq (ls.take k).flatten))/\Hid (Below w.heap.size w w2))
   case atStart=>exact ⟨0,o_,rfl,o_,HO,HB⟩
   case round=>
    obtain ⟨k,hk,rfl,hfu,Hown,Hb⟩:=hrel;clear HO HB;obtain ⟨oa',cap',rfl⟩:=ownsRow_form Hown.out;by_cases hlt:k<ls.length
    ·obtain ⟨oa,cap,hc,hrow⟩:=(HR.out.below Hb.out).row k hlt
     have hN:=Zby ls k hlt;have hle:=Nat.lt_of_le_of_lt (Zc8 ls (k+1)) HS.out;rw [hN,List.length_append] at hle;have HN:=h_ hN;have i5:(k:Int)<(ls.length:Int):=o_;obtain ⟨v',w3,hrun,hown,hgrow⟩:=Qm w.heap.size 79 79 82 i0 (.agg #[.string ⟨#[]⟩,.string ⟨#[]⟩,.int .i64 0,.bool false,.int .i64 0,.slice none 0 0]) 6 80 underlying79 hi0 hz0 hz1 hz2 rfl d_ _ _ _ Hown.out oa ls[k].length cap (Zy Zq ls[k]) (by rw [Xg (enc:=Zq) (k:=6) (fun _=>rfl)]) (Zw.flat (enc:=Zq) (k:=6) (fun _=>rfl) o_ hrow) (YR ZiQ _) n19_ o_ Hb.out.size;have HRUN:=h_ hrun;have HB3:=h_ (Hb.out.grown hgrow Hb.out.size (fun g hg=>(Hown.out.lt g hg).1));have HO3:=h_ (show w3.ownsRow w.heap.size 82 6 v' (ls.take (k+1)).flatten.length (Zy Zq (ls.take (k+1)).flatten) by rw [hN,List.length_append,ZN];exact hown);clear hrun hown hgrow hN hrow;go_wp2_with (at_builtin;refine wpList_append_run rfl _ _ 79 rfl HRUN.out rfl rfl ?_);obtain ⟨ao,cap2,rfl⟩:=ownsRow_form HO3.out;go_roundg (gk-1)
     case measure=>omega
     case rel=>exact ⟨k+1,o_,n15_,o_,HO3,HB3⟩
    ·have hke:k=ls.length:=o_
     subst hke;have hge:¬((ls.length:Int)<(ls.length:Int)):=o_;have HO3:=h_ (by have:=Hown.out;rw [List.take_length] at this;exact this);clear Hown;rw [List.take_length];generalize hFL:ls.flatten=FL at HO3⊢;have HFL:=h_ hFL;clear hFL;go_wp2_with fail;go_ret;exact ⟨_,rfl,by rw [HFL.out];exact HO3.out,Hb.out⟩
end Go.Proofs.YtmgmbeipbeknaaaGreatDoor
