import Derived.Laws.StructEq
import Derived.Test.YtmgmbeipbeknaaaGreatDoorRT44
namespace Go.Proofs.YtmgmbeipbeknaaaGreatDoor
open Go.Proofs.Tryz
open Go Go.RowKit
set_option linter.unusedVariables false
set_option linter.unusedSimpArgs false
set_option maxHeartbeats 16000000
set_option maxRecDepth 100000
theorem m127_{p:Prop}(h:p:=by rw [ByteArray.toList_eq,ByteArray.toList_eq,ha,hb] at h;simpa using h):p:=h
theorem ZdX{l:List Ln}{k:Nat}(h:k<l.length):Yt none (l.take (k+1))=Yt none (l.take k)++(if h0:k=0 then Zcu l[k].sec++ZbU l[k] else (if l[k].sec=(l[k-1]' o_).sec then [] else 10::Zcu l[k].sec)++ZbU l[k]):=by
 rw [List.take_succ_eq_append_getElem h];obtain ⟨q,h1,h2⟩:=ZcW (l.take k) none l[k];rw [h1];congr 1;by_cases h0:k=0
 ·subst h0
  rw [dif_pos rfl];simp at h2;subst h2;simp [Yt]
 ·rw [dif_neg h0]
  have h3:(l.take k).getLast?=some (l[k-1]' o_):=by
   rw [List.getLast?_eq_getElem?,List.length_take,Nat.min_eq_left o_,List.getElem?_take_of_lt o_];simp [(by omega:k-1<l.length)]
  rw [h3] at h2;subst h2;simp [Yt]
theorem Xr(l:List Ln)(k:Nat):(Yt none (l.take k)).length<=(Qa l).length:=(ZdQ l none k).length_le
theorem Zf6(sb:ByteArray)(s:Str)(h:sb.data.toList=s):((((⟨#[91]⟩:ByteArray)++sb)++⟨#[93]⟩)++⟨#[10]⟩).data.toList=Zcu s:=by
 rw [Joins.data_append,Joins.data_append,Joins.data_append,h];simp [Zcu]
theorem ZcU(kb vb:ByteArray)(x:Ln)(h1:kb.data.toList=x.key)(h2:vb.data.toList=x.val):(((kb++(⟨#[61]⟩:ByteArray))++vb)++⟨#[10]⟩).data.toList=ZbU x:=by
 rw [Joins.data_append,Joins.data_append,Joins.data_append,h1,h2];simp [ZbU]
theorem head_size(sb:ByteArray):((((⟨#[91]⟩:ByteArray)++sb)++⟨#[93]⟩)++⟨#[10]⟩).size=sb.size+3:=by
 rw [ByteArray.size_append,ByteArray.size_append,ByteArray.size_append];show 1+sb.size+1+1=_;omega
theorem ZdM(kb vb:ByteArray):(((kb++(⟨#[61]⟩:ByteArray))++vb)++⟨#[10]⟩).size=kb.size+vb.size+2:=by
 rw [ByteArray.size_append,ByteArray.size_append,ByteArray.size_append];show kb.size+1+vb.size+1=_;omega
theorem Zdn(x:ByteArray):x.data.toList.length=x.size:=s_
theorem ZbA{w w1:World}{n:Nat}(h:Below w.heap.size w w1):Below w.heap.size w (w1.drewN n):=⟨h.os,h.tape,h.output,h.size,h.block⟩
theorem ZlT{a b:ByteArray}{s t:Str}(ha:a=⟨s.toArray⟩)(hb:b=⟨t.toArray⟩)(h:(a.toList==b.toList)=true):s=t:=by
 exact m127_
theorem Zmb{a b:ByteArray}{s t:Str}(ha:a=⟨s.toArray⟩)(hb:b=⟨t.toArray⟩)(h:(a.toList==b.toList)=false):¬s=t:=by
 exact m127_
def ZsM(w:World)(l:List Ln)(e:Ending)(w':World):Prop:=e=.returned (.string ⟨(Qa l).toArray⟩)/\Below w.heap.size w w'
theorem Zkx(oa:Option Addr)(cap:Nat)(l:List Ln)(w:World)(h:QB w oa l)(hl:l.length<=100000000)(hx:∀x∈l,Za7 x)(hw:(Qa l).length<=1000000000) :
  Calls prog 49 #[.slice oa l.length cap] w fun e w'=>ZsM w l e w':=by
 have HX:=h_ hx;clear hx;have HR:=h_ h;clear h;have hb0:=Bld.new w;have hbb:Below w.heap.size w (w.alloc (.cells #[.pointer none,.slice none 0 0] 127)):=b_.alloc l_ _;go_enter func49,ntmps49;go_wp2_with fail;generalize w.alloc (.cells #[.pointer none,.slice none 0 0] 127)=w1 at hb0 hbb⊢;have HBB:=h_ hbb;clear hbb;go_loopg [4,5,8] (l.length+1) (fun f _ _ i wr=>∃k:Nat,k<=l.length/\i=.int .i64 k/\l.length-k<f/\Bld w.heap.size (w.heap.size+1) (Yt none (l.take k)) wr/\Hid (Below w.heap.size w wr))
 case atStart=>exact ⟨0,o_,rfl,o_,hb0,HBB.out⟩
 case round=>
  obtain ⟨k,hk,rfl,hfu,hb,HB⟩:=hrel;have hsz:=HB.out.size;by_cases hlt:k<l.length
  ·obtain ⟨bb,o,rfl,c0,c1,c2,c3⟩:=(HR.out.below HB.out l_) k hlt
   have hxk:=HX.out l[k] (List.getElem_mem _);obtain ⟨sb,hsb⟩:∃sb:ByteArray,sb=⟨l[k].sec.toArray⟩:=⟨_,rfl⟩;obtain ⟨kb,hkb⟩:∃kb:ByteArray,kb=⟨l[k].key.toArray⟩:=⟨_,rfl⟩;obtain ⟨vb,hvb⟩:∃vb:ByteArray,vb=⟨l[k].val.toArray⟩:=⟨_,rfl⟩;have zs:sb.size<=1000000000:=by rw [hsb];exact hxk.sec
   have zk:kb.size<=1000000000:=by rw [hkb];exact hxk.key
   have zv:vb.size<=1000000000:=by rw [hvb];exact hxk.val
   rw [<-hsb] at c0;rw [<-hkb] at c1;rw [<-hvb] at c2;have HSb:=h_ hsb;clear hsb;have HKb:=h_ hkb;clear hkb;have HVb:=h_ hvb;clear hvb;generalize l[k].at_=xat at c3;by_cases h0:k=0
   ·subst h0
    simp only [Nat.zero_mul,Nat.add_zero] at c0 c1 c2 c3;have bd1:=h_ (show (Yt none (l.take 0)).length+((((⟨#[91]⟩:ByteArray)++sb)++⟨#[93]⟩)++⟨#[10]⟩).size<1099511627776 by
     have:=Xr l 0;rw [head_size];omega)
    have bd2:=h_ (show (Yt none (l.take 0)++((((⟨#[91]⟩:ByteArray)++sb)++⟨#[93]⟩)++⟨#[10]⟩).data.toList).length+(((kb++(⟨#[61]⟩:ByteArray))++vb)++⟨#[10]⟩).size<1099511627776 by
     have:=Xr l 0;rw [List.length_append,Zdn,head_size,ZdM];omega)
    have hB3:Below wr.heap.size wr (wr.alloc (.cells #[.string sb,.string kb,.string vb,.int .i64 xat] 53)):=b_.alloc l_ _;have hbw3:=hb.below hB3;have hPw3:=heap_alloc_new wr (.cells #[.string sb,.string kb,.string vb,.int .i64 xat] 53);go_wp2_with fail;generalize wr.alloc (.cells #[.string sb,.string kb,.string vb,.int .i64 xat] 53)=w3 at *;generalize hPn:wr.heap.size=P at *;have HBw3:=h_ (HB.out.trans (hB3.mono hsz));have hPR:w.heap.size<P:=by rw [<-hPn];exact hb.lt
    clear hPn hB3 c0 c1 c2 c3;have d0:w3.cell? ⟨P,0,none⟩=some (.string sb):=n28_;have d1:w3.cell? ⟨P,1,none⟩=some (.string kb):=n28_;have d2:w3.cell? ⟨P,2,none⟩=some (.string vb):=n28_;have HPw3:=h_ hPw3;clear hPw3;go_quiet (fail);have hbw3:=hbw3.drewN nq;have HBw3:=h_ (ZbA (n:=nq) HBw3.out);have HPw3:=h_ (show (w3.drewN nq).heap[P]?=some (.cells #[.string sb,.string kb,.string vb,.int .i64 xat] 53 (0,0)) from HPw3.out);clear d0 d1 d2;generalize w3.drewN nq=w4 at *;have HBw4:=HBw3;have HPw4:=HPw3;have hPw4:=HPw4.out;have d0:w4.cell? ⟨P,0,none⟩=some (.string sb):=n29_;have d1:w4.cell? ⟨P,1,none⟩=some (.string kb):=n29_;have d2:w4.cell? ⟨P,2,none⟩=some (.string vb):=n29_;clear hPw4;go_wp2_with fail;have hh:=hbw3.writeString ((((⟨#[91]⟩:ByteArray)++sb)++⟨#[93]⟩)++⟨#[10]⟩) bd1.out
    with_reducible refine hh.mono ?_
    clear hh;rintro e w6 ⟨rfl,hb6,hfw6⟩;have HBw6:=h_ (HBw4.out.trans (hfw6.below w.heap.size o_ o_ HBw4.out.size));have hPw6:=hfw6.heap HPw4.out o_ d_;clear d0 d1 d2 hfw6;have d0:w6.cell? ⟨P,0,none⟩=some (.string sb):=n56_;have d1:w6.cell? ⟨P,1,none⟩=some (.string kb):=n56_;have d2:w6.cell? ⟨P,2,none⟩=some (.string vb):=n56_;have HPw6:=h_ hPw6;clear hPw6;go_wp2_with fail;have hh:=hb6.writeString (((kb++(⟨#[61]⟩:ByteArray))++vb)++⟨#[10]⟩) bd2.out
    with_reducible refine hh.mono ?_
    clear hh;rintro e w7 ⟨rfl,hb7,hfw7⟩;have HBw7:=h_ (HBw6.out.trans (hfw7.below w.heap.size o_ o_ HBw6.out.size));have hPw7:=hfw7.heap HPw6.out o_ d_;clear d0 d1 d2 hfw7;have d0:w7.cell? ⟨P,0,none⟩=some (.string sb):=n30_;have d1:w7.cell? ⟨P,1,none⟩=some (.string kb):=n30_;have d2:w7.cell? ⟨P,2,none⟩=some (.string vb):=n30_;have HPw7:=h_ hPw7;clear hPw7;clear d0 d1 d2;go_wp2_with fail;go_roundg (l.length-0)
    case measure=>omega
    case rel=>
     refine ⟨0+1,o_,n15_,o_,?_,HBw7.out⟩;rw [ZdX hlt,dif_pos rfl];rw [ZcU kb vb l[0] (by rw [HKb.out]) (by rw [HVb.out]),Zf6 sb l[0].sec (by rw [HSb.out])] at hb7;rw [<-List.append_assoc];exact hb7
   ·have h0'':(0:Int)<(k:Int):=o_
    have h0':((k:Int)==0)=false:=n12_;obtain ⟨bp,op,e,p0,-,-,-⟩:=(HR.out.below HB.out l_) (k-1) o_;injection e with e;injection e with e1 e2;subst e1;subst e2
    obtain ⟨pb,hpb⟩:∃pb:ByteArray,pb=⟨(l[k-1]' o_).sec.toArray⟩:=⟨_,rfl⟩;rw [<-hpb] at p0;have HPb:=h_ hpb;clear hpb;have i1:((k:Int)-1).toNat=k-1:=o_;have i2:0<=(k:Int)-1:=o_;have i3:(k:Int)-1<(l.length:Int):=o_;cases hq:(sb.toList==pb.toList) with
    |true=>
     have hq':(sb.toList !=pb.toList)=false:=by simp [bne,hq]
     have bd1:=h_ (show (Yt none (l.take k)).length+(((kb++(⟨#[61]⟩:ByteArray))++vb)++⟨#[10]⟩).size<1099511627776 by
      have:=Xr l k;rw [ZdM];omega)
     have HQ:=h_ (ZlT HSb.out HPb.out hq);have hB3:Below wr.heap.size wr (wr.alloc (.cells #[.string sb,.string kb,.string vb,.int .i64 xat] 53)):=b_.alloc l_ _;have hbw3:=hb.below hB3;have hPw3:=heap_alloc_new wr (.cells #[.string sb,.string kb,.string vb,.int .i64 xat] 53);have p3:=(hB3.cell (p:=⟨bb,o+(k-1)*4,none⟩) (World.block_lt_of_cell? wr _ p0)).trans p0;go_wp2_with fail;generalize wr.alloc (.cells #[.string sb,.string kb,.string vb,.int .i64 xat] 53)=w3 at *;generalize hPn:wr.heap.size=P at *;have HBw3:=h_ (HB.out.trans (hB3.mono hsz));have hPR:w.heap.size<P:=by rw [<-hPn];exact hb.lt
     clear hPn hB3 c0 c1 c2 c3;clear p0;have d0:w3.cell? ⟨P,0,none⟩=some (.string sb):=n28_;have d1:w3.cell? ⟨P,1,none⟩=some (.string kb):=n28_;have d2:w3.cell? ⟨P,2,none⟩=some (.string vb):=n28_;have HPw3:=h_ hPw3;clear hPw3;go_quiet (fail);have hbw3:=hbw3.drewN nq;have HBw3:=h_ (ZbA (n:=nq) HBw3.out);have HPw3:=h_ (show (w3.drewN nq).heap[P]?=some (.cells #[.string sb,.string kb,.string vb,.int .i64 xat] 53 (0,0)) from HPw3.out);clear d0 d1 d2;generalize w3.drewN nq=w4 at *;have HBw4:=HBw3;have HPw4:=HPw3;have hPw4:=HPw4.out;have d0:w4.cell? ⟨P,0,none⟩=some (.string sb):=n29_;have d1:w4.cell? ⟨P,1,none⟩=some (.string kb):=n29_;have d2:w4.cell? ⟨P,2,none⟩=some (.string vb):=n29_;clear hPw4;go_wp2_with fail;have hh:=hbw3.writeString (((kb++(⟨#[61]⟩:ByteArray))++vb)++⟨#[10]⟩) bd1.out
     with_reducible refine hh.mono ?_
     clear hh;rintro e w7 ⟨rfl,hb7,hfw7⟩;have HBw7:=h_ (HBw4.out.trans (hfw7.below w.heap.size o_ o_ HBw4.out.size));have hPw7:=hfw7.heap HPw4.out o_ d_;clear d0 d1 d2 hfw7;have d0:w7.cell? ⟨P,0,none⟩=some (.string sb):=n30_;have d1:w7.cell? ⟨P,1,none⟩=some (.string kb):=n30_;have d2:w7.cell? ⟨P,2,none⟩=some (.string vb):=n30_;have HPw7:=h_ hPw7;clear hPw7;clear d0 d1 d2;go_wp2_with fail;go_roundg (l.length-k)
     case measure=>omega
     case rel=>
      refine ⟨k+1,o_,n15_,o_,?_,HBw7.out⟩;rw [ZdX hlt,dif_neg h0,if_pos HQ.out];rw [ZcU kb vb l[k] (by rw [HKb.out]) (by rw [HVb.out])] at hb7;exact hb7
    |false=>
     have hq':(sb.toList !=pb.toList)=true:=by simp [bne,hq]
     have bd1:=h_ (show (Yt none (l.take k)).length+(⟨#[10]⟩:ByteArray).size<1099511627776 by
      have:=Xr l k;show _+1<_;omega)
     have bd2:=h_ (show (Yt none (l.take k)++(⟨#[10]⟩:ByteArray).data.toList).length+((((⟨#[91]⟩:ByteArray)++sb)++⟨#[93]⟩)++⟨#[10]⟩).size<1099511627776 by
      have:=Xr l k;rw [List.length_append,Zdn,head_size];show _+1+_<_;omega)
     have bd3:=h_ (show (Yt none (l.take k)++(⟨#[10]⟩:ByteArray).data.toList++((((⟨#[91]⟩:ByteArray)++sb)++⟨#[93]⟩)++⟨#[10]⟩).data.toList).length+(((kb++(⟨#[61]⟩:ByteArray))++vb)++⟨#[10]⟩).size<1099511627776 by
      have:=Xr l k;rw [List.length_append,List.length_append,Zdn,Zdn,head_size,ZdM];show _+1+_+_<_;omega)
     have HQ:=h_ (Zmb HSb.out HPb.out hq);have hB3:Below wr.heap.size wr (wr.alloc (.cells #[.string sb,.string kb,.string vb,.int .i64 xat] 53)):=b_.alloc l_ _;have hbw3:=hb.below hB3;have hPw3:=heap_alloc_new wr (.cells #[.string sb,.string kb,.string vb,.int .i64 xat] 53);have p3:=(hB3.cell (p:=⟨bb,o+(k-1)*4,none⟩) (World.block_lt_of_cell? wr _ p0)).trans p0;go_wp2_with fail;generalize wr.alloc (.cells #[.string sb,.string kb,.string vb,.int .i64 xat] 53)=w3 at *;generalize hPn:wr.heap.size=P at *;have HBw3:=h_ (HB.out.trans (hB3.mono hsz));have hPR:w.heap.size<P:=by rw [<-hPn];exact hb.lt
     clear hPn hB3 c0 c1 c2 c3;clear p0;have d0:w3.cell? ⟨P,0,none⟩=some (.string sb):=n28_;have d1:w3.cell? ⟨P,1,none⟩=some (.string kb):=n28_;have d2:w3.cell? ⟨P,2,none⟩=some (.string vb):=n28_;have HPw3:=h_ hPw3;clear hPw3;go_quiet (fail);have hbw3:=hbw3.drewN nq;have HBw3:=h_ (ZbA (n:=nq) HBw3.out);have HPw3:=h_ (show (w3.drewN nq).heap[P]?=some (.cells #[.string sb,.string kb,.string vb,.int .i64 xat] 53 (0,0)) from HPw3.out);clear d0 d1 d2;generalize w3.drewN nq=w4 at *;have HBw4:=HBw3;have HPw4:=HPw3;have hPw4:=HPw4.out;have d0:w4.cell? ⟨P,0,none⟩=some (.string sb):=n29_;have d1:w4.cell? ⟨P,1,none⟩=some (.string kb):=n29_;have d2:w4.cell? ⟨P,2,none⟩=some (.string vb):=n29_;clear hPw4;go_wp2_with fail;have hh:=hbw3.writeString ⟨#[10]⟩ bd1.out
     with_reducible refine hh.mono ?_
     clear hh;rintro e w5 ⟨rfl,hb5,hfw5⟩;have HBw5:=h_ (HBw4.out.trans (hfw5.below w.heap.size o_ o_ HBw4.out.size));have hPw5:=hfw5.heap HPw4.out o_ d_;clear d0 d1 d2 hfw5;have d0:w5.cell? ⟨P,0,none⟩=some (.string sb):=by rw [(rd hPw5).1];rfl
     have d1:w5.cell? ⟨P,1,none⟩=some (.string kb):=by rw [(rd hPw5).1];rfl
     have d2:w5.cell? ⟨P,2,none⟩=some (.string vb):=by rw [(rd hPw5).1];rfl
     have HPw5:=h_ hPw5;clear hPw5;go_wp2_with fail;have hh:=hb5.writeString ((((⟨#[91]⟩:ByteArray)++sb)++⟨#[93]⟩)++⟨#[10]⟩) bd2.out
     with_reducible refine hh.mono ?_
     clear hh;rintro e w6 ⟨rfl,hb6,hfw6⟩;have HBw6:=h_ (HBw5.out.trans (hfw6.below w.heap.size o_ o_ HBw5.out.size));have hPw6:=hfw6.heap HPw5.out o_ d_;clear d0 d1 d2 hfw6;have d0:w6.cell? ⟨P,0,none⟩=some (.string sb):=n56_;have d1:w6.cell? ⟨P,1,none⟩=some (.string kb):=n56_;have d2:w6.cell? ⟨P,2,none⟩=some (.string vb):=n56_;have HPw6:=h_ hPw6;clear hPw6;go_wp2_with fail;have hh:=hb6.writeString (((kb++(⟨#[61]⟩:ByteArray))++vb)++⟨#[10]⟩) bd3.out
     with_reducible refine hh.mono ?_
     clear hh;rintro e w7 ⟨rfl,hb7,hfw7⟩;have HBw7:=h_ (HBw6.out.trans (hfw7.below w.heap.size o_ o_ HBw6.out.size));have hPw7:=hfw7.heap HPw6.out o_ d_;clear d0 d1 d2 hfw7;have d0:w7.cell? ⟨P,0,none⟩=some (.string sb):=n30_;have d1:w7.cell? ⟨P,1,none⟩=some (.string kb):=n30_;have d2:w7.cell? ⟨P,2,none⟩=some (.string vb):=n30_;have HPw7:=h_ hPw7;clear hPw7;clear d0 d1 d2;go_wp2_with fail;go_roundg (l.length-k)
     case measure=>omega
     case rel=>
      refine ⟨k+1,o_,n15_,o_,?_,HBw7.out⟩;rw [ZdX hlt,dif_neg h0,if_neg HQ.out];rw [ZcU kb vb l[k] (by rw [HKb.out]) (by rw [HVb.out]),Zf6 sb l[k].sec (by rw [HSb.out])] at hb7;simpa [List.append_assoc] using hb7
  ·have:k=l.length:=o_
   subst this;rw [List.take_length] at hb;go_wp2_with (go_at_call 100;refine hb.string.mono ?_;rintro e w' ⟨rfl,hb2,hf2⟩);go_ret;exact ⟨rfl,HB.out.trans (hf2.below w.heap.size o_ o_ hsz)⟩
theorem ZdF(oa:Option Addr)(cap:Nat)(l:List Ln)(w:World)(h:QB w oa l)(hl:l.length<=100000000)(hx:∀x∈l,Za7 x)(hwi:l.all Qt=true->(Qa l).length<=1000000000)(b:Bool)(hb:ZdE l=b) :
  Calls prog 20 #[.slice oa l.length cap] w fun e w'=>e=.returned (.bool b)/\Below w.heap.size w w':=by
 have HX:=h_ hx;clear hx;have HR:=h_ h;clear h;unfold ZdE at hb;cases ha:l.all Qt with
 |false=>
  rw [ha] at hb;have HB:=h_ (show b=false from hb.symm);clear hb;have HC:=h_ (ZaG oa cap l w HR.out hl HX.out false ha);clear ha;go_enter func20,ntmps20;go_wp2_with fail;refine HC.out.mono ?_;rintro e w2 ⟨rfl,hb2⟩;go_wp2_with fail;go_ret;exact ⟨by rw [HB.out];rfl,hb2⟩
 |true=>
  have hw:=hwi ha;clear hwi;rw [ha,Bool.true_and] at hb;have HC:=h_ (ZaG oa cap l w HR.out hl HX.out true ha);have HB:=h_ hb;clear hb ha;go_enter func20,ntmps20;go_wp2_with fail;refine HC.out.mono ?_;rintro e w2 ⟨rfl,hb2⟩;have HT:=h_ (Zkx oa cap l w2 (HR.out.below hb2 l_) hl HX.out hw);go_wp2_with fail;refine HT.out.mono ?_;rintro e w3 ⟨rfl,hb3⟩;have HB3:=h_ (hb2.trans (hb3.mono hb2.size));clear hb3 hb2;generalize hs:Qa l=s at *;have Hs:=h_ hs;clear hs;go_wp2_with fail;go_ret;refine ⟨ZC ?_,HB3.out⟩;rw [<-HB.out,decide_eq_decide];show ((s.length:Int)<=20000)↔_;omega
theorem ZqG(oa:Option Addr)(cap:Nat)(l:List Ln)(w:World)(h:QB w oa l)(hl:l.length<=100000000)(hx:∀x∈l,Za7 x)(hwi:l.all Qt=true->(Qa l).length<=1000000000)(s:Str)(hs:Zig l=s) :
  Calls prog 25 #[.slice oa l.length cap] w fun e w'=>e=.returned (.string ⟨s.toArray⟩)/\Below w.heap.size w w':=by
 unfold Zig at hs;cases hm:ZdE l with
 |false=>
  rw [hm] at hs;have HS:=h_ (show s=[] from hs.symm);clear hs;have HC:=h_ (ZdF oa cap l w h hl hx hwi false hm);clear hm hx h;go_enter func25,ntmps25;go_wp2_with fail;refine HC.out.mono ?_;rintro e w2 ⟨rfl,hb2⟩;go_wp2_with fail;go_ret;exact ⟨n40_,hb2⟩
 |true=>
  rw [hm] at hs;have HS:=h_ (show s=Qa l from hs.symm);clear hs;have hw:=hwi (by unfold ZdE at hm;rw [Bool.and_eq_true] at hm;exact hm.1);have HC:=h_ (ZdF oa cap l w h hl hx hwi true hm);have HR:=h_ h;have HX:=h_ hx;clear hm hx h;go_enter func25,ntmps25;go_wp2_with fail;refine HC.out.mono ?_;rintro e w2 ⟨rfl,hb2⟩;have HT:=h_ (Zkx oa cap l w2 (HR.out.below hb2 l_) hl HX.out hw);go_wp2_with fail;refine HT.out.mono ?_;rintro e w3 ⟨rfl,hb3⟩;have HB3:=h_ (hb2.trans (hb3.mono hb2.size));clear hb3 hb2;go_wp2_with fail;go_ret;exact ⟨n40_,HB3.out⟩
theorem Zmn:(prog.fieldsOf 53).toList.map (fun f=>(f.name,f.type,f.offset))=[("Section",9,0),("Key",9,1),("Value",9,2),("At",3,3)]:=k_
theorem Zms:prog.underlying 53=some (.struct (prog.fieldsOf 53)):=k_
theorem ZqN:prog.stoodInHeld 53=false:=k_
theorem ZnN:prog.eqGuardType prog.depth 53=false:=k_
theorem Zhq{P:Program}(w:World){t:TypeId}(ht:P.underlying t=some .string){xs:Array Value}{off:Nat}{v:Value}(hx:xs[off]?=some v):(part t xs off).run P w=.ok v w:=by
 simp [part,isAgg,run_underlying ht,hx]
theorem Zg9{P:Program}(w:World){t:TypeId}{k:IntKind}(ht:P.underlying t=some (.int k)){xs:Array Value}{off:Nat}{v:Value}(hx:xs[off]?=some v):(part t xs off).run P w=.ok v w:=by
 simp [part,isAgg,run_underlying ht,hx]
theorem Zh6{P:Program}(w:World)(d:Nat){xs ys:Array Value}{f:Field}{fs:List Field}{a b:ByteArray}(hn:f.name≠ "_") (ht:P.underlying f.type=some .string) (hx:xs[f.offset]?=some (.string a)) (hy:ys[f.offset]?=some (.string b)) (r:Bool) (hr:(a.toList==b.toList)=r) :
  (Op.eqFields (d+1) xs ys (f::fs)).run P w=if r=true then (Op.eqFields (d+1) xs ys fs).run P w else .ok false w:=by
 simp only [Op.eqFields,if_pos hn,Sem.run_bind,Zhq w ht hx,Zhq w ht hy,Result.andThen_ok,run_equalIn_string w d f.type a b ht,hr];cases r<;>simp
theorem Zrd{P:Program}(w:World)(d:Nat){xs ys:Array Value}{f:Field}{fs:List Field}{k k':IntKind}{a b:Int}(hn:f.name≠ "_") (ht:P.underlying f.type=some (.int k')) (hx:xs[f.offset]?=some (.int k a)) (hy:ys[f.offset]?=some (.int k b)) (r:Bool) (hr:(a==b)=r) :
  (Op.eqFields (d+1) xs ys (f::fs)).run P w=if r=true then (Op.eqFields (d+1) xs ys fs).run P w else .ok false w:=by
 simp only [Op.eqFields,if_pos hn,Sem.run_bind,Zg9 w ht hx,Zg9 w ht hy,Result.andThen_ok,run_equalIn_int w d f.type k k' a b ht,hr];cases r<;>simp
theorem Zfd(a b:Str):((⟨a.toArray⟩:ByteArray).toList==(⟨b.toArray⟩:ByteArray).toList)=(a==b):=by
 rw [ByteArray.toList_eq,ByteArray.toList_eq]
theorem ZrW(l m:Ln)(w:World):(Op.equalIn 10000 53 (.agg #[.string ⟨l.sec.toArray⟩,.string ⟨l.key.toArray⟩,.string ⟨l.val.toArray⟩,.int .i64 l.at_]) (.agg #[.string ⟨m.sec.toArray⟩,.string ⟨m.key.toArray⟩,.string ⟨m.val.toArray⟩,.int .i64 m.at_])).run prog w=.ok (decide (l=m)) w:=by
 rw [run_equalIn_agg _ _ _ _ _ Zms ZqN];have hd:decide (l=m)=(l.sec==m.sec&&(l.key==m.key&&(l.val==m.val&&l.at_==m.at_))):=by
  rw [Bool.eq_iff_iff];simp;constructor
  ·rintro rfl;simp
  ·rintro ⟨h1,h2,h3,h4⟩;cases l;cases m;simp_all
 generalize hf:(prog.fieldsOf 53).toList=fs;have h0:=Zmn;rw [hf] at h0;clear hf;rcases fs with _|⟨f0,_|⟨f1,_|⟨f2,_|⟨f3,_|⟨f4,fs⟩⟩⟩⟩⟩
 ·simp at h0
 ·simp at h0
 ·simp at h0
 ·simp at h0
 ·simp only [List.map_cons,List.map_nil,List.cons.injEq,Prod.mk.injEq,and_true] at h0
  obtain ⟨⟨n0,t0,o0⟩,⟨n1,t1,o1⟩,⟨n2,t2,o2⟩,⟨n3,t3,o3⟩⟩:=h0;rw [Zh6 w 9998 (by rw [n0];decide) (by rw [t0];exact underlying9) (by rw [o0];rfl) (by rw [o0];rfl) _ (Zfd _ _),
   Zh6 w 9998 (by rw [n1];decide) (by rw [t1];exact underlying9) (by rw [o1];rfl) (by rw [o1];rfl) _ (Zfd _ _),
   Zh6 w 9998 (by rw [n2];decide) (by rw [t2];exact underlying9) (by rw [o2];rfl) (by rw [o2];rfl) _ (Zfd _ _),
   Zrd w 9998 (by rw [n3];decide) (by rw [t3];exact underlying3) (by rw [o3];rfl) (by rw [o3];rfl) _ rfl,hd]
  cases (l.sec==m.sec)<;>cases (l.key==m.key)<;>cases (l.val==m.val)<;>cases (l.at_==m.at_)<;>simp [Op.eqFields]
 ·simp at h0
theorem Zc7(l m:Ln)(b:Bool)(h:decide (l=m)=b)(w:World):(binOp .neq 53 (.agg #[.string ⟨l.sec.toArray⟩,.string ⟨l.key.toArray⟩,.string ⟨l.val.toArray⟩,.int .i64 l.at_]) (.agg #[.string ⟨m.sec.toArray⟩,.string ⟨m.key.toArray⟩,.string ⟨m.val.toArray⟩,.int .i64 m.at_])).run prog w=.ok (.bool (!b)) w:=by
 rw [run_neq_struct,ZrW,h];rfl
theorem Zfj(op:BinOp)(x y:Operand)(xs ys:Array Value)(w:World):(eqGuard op 53 x y (.agg xs) (.agg ys)).run prog w=.ok () w:=run_eqGuard_agg w op _ x y xs ys ZnN
theorem ZgA(oa ob:Option Addr)(ca cb:Nat)(l m:List Ln)(w:World)(hl:QB w oa l)(hm:QB w ob m)(hll:l.length<=100000000)(hml:m.length<=100000000) :
  Calls prog 12 #[.slice oa l.length ca,.slice ob m.length cb] w fun e w'=>e=.returned (.bool (decide (l=m)))/\∃n,w'=w.drewN n:=by
 by_cases hlen:l.length=m.length
 ·have hne:((l.length:Int)!=(m.length:Int))=false:=by simp [hlen]
  have Hlen:=h_ hlen;clear hlen;go_enter func12,ntmps12;have HL:=h_ hl;clear hl;have HM:=h_ hm;clear hm;go_wp2_with fail;go_loopg [13] (l.length+1) (fun f i wr=>∃k:Nat,k<=l.length/\i=.int .i64 k/\l.length-k<f/\Hid (l.take k=m.take k)/\∃n,wr=w.drewN n)
  case atStart=>exact ⟨0,o_,rfl,o_,rfl,0,rfl⟩
  case round=>
   obtain ⟨k,hk,rfl,hfu,Hq,n,rfl⟩:=hrel;by_cases hlt:k<l.length
   ·have hlt2:k<m.length:=n23_
    obtain ⟨b1,o1,rfl,c0,c1,c2,c3⟩:=HL.out k hlt;obtain ⟨b2,o2,rfl,d0,d1,d2,d3⟩:=HM.out k hlt2;cases hb:decide (l[k]=m[k]) with
    |true=>
     have HT:=h_ (show l.take (k+1)=m.take (k+1) by
      rw [List.take_succ_eq_append_getElem hlt,List.take_succ_eq_append_getElem hlt2,Hq.out,of_decide_eq_true hb])
     have hrun:=Zc7 l[k] m[k] true hb;have hgd:=Zfj;clear hb;go_wp2_with fail;go_quiet (fail);go_wp2_with fail;go_roundg (l.length-k)
     case measure=>omega
     case rel=>exact ⟨k+1,o_,n15_,o_,HT,n9_⟩
    |false=>
     have HR:=h_ (show decide (l=m)=false by
      rw [decide_eq_false_iff_not];intro e;subst e;simp at hb)
     have hrun:=Zc7 l[k] m[k] false hb;have hgd:=Zfj;clear hb;go_wp2_with fail;go_quiet (fail);go_wp2_with fail;go_ret;exact ⟨ZC HR.out.symm,n9_⟩
   ·have HR:=h_ (show decide (l=m)=true by
     have h1:=Hq.out;rw [List.take_of_length_le o_,List.take_of_length_le n23_] at h1;rw [h1];simp)
    go_wp2_with fail;go_ret;exact ⟨ZC HR.out.symm,dn _ _⟩
 ·have hne:((l.length:Int)!=(m.length:Int))=true:=n5_
  have HR:=h_ (show decide (l=m)=false by
   rw [decide_eq_false_iff_not];intro e;exact hlen (by rw [e]))
  go_enter func12,ntmps12;go_wp2_with fail;go_ret;exact ⟨ZC HR.out.symm,dn0 _⟩
theorem Zkn(oa ob:Option Addr)(ca cb:Nat)(l:List Ln)(w:World)(hl:QB w oa l)(hm:QB w ob l)(hll:l.length<=100000000) :
  Calls prog 12 #[.slice oa l.length ca,.slice ob l.length cb] w fun e w'=>e=.returned (.bool true)/\Below w.heap.size w w':=by
 refine (ZgA oa ob ca cb l l w hl hm hll hll).mono ?_;rintro e w' ⟨rfl,hw⟩;exact ⟨s_,Zc hw⟩
end Go.Proofs.YtmgmbeipbeknaaaGreatDoor
