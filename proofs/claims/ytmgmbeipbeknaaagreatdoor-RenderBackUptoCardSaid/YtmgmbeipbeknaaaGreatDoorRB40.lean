import Derived.Test.YtmgmbeipbeknaaaGreatDoorRB28
import Derived.Test.YtmgmbeipbeknaaaGreatDoorRB39
namespace Go.Proofs.YtmgmbeipbeknaaaGreatDoor
set_option linter.all false
set_option maxHeartbeats 16000000
theorem m121_{p:Prop}(h:p:=by
  obtain ⟨q,h1,h2⟩:=Zex r (some y.sec) x;refine ⟨q,by simp only [c12_,Yq,h1,List.append_assoc],?_⟩;rw [h2];cases r with
  |nil=>rfl
  |cons a r=>rw [List.getLast?_cons_cons];cases h:(a::r).getLast? with
   |none=>simp at h
   |some z=>rfl):p:=h
theorem m122_{p:Prop}(h:p:=by simp only [List.take_succ_cons,Yq];exact (List.prefix_append_right_inj _).2 (ZfT r _ k)):p:=h
theorem Zex:∀(l:List Ln) (p:Option Str) (x:Ln),∃q,Yq p (l++[x])=Yq p l++Yq q [x]/\q=(match l.getLast? with|some y=>some y.sec|none=>p)
 |[],p,x=>⟨p,by cases p<;>simp [Yq],rfl⟩
 |y::r,none,x=>by
  exact m121_
 |y::r,some s,x=>by
  exact m121_
theorem ZfT:∀(l:List Ln) (p:Option Str) (k:Nat),Yq p (l.take k) <+: Yq p l
 |[],p,k=>s_
 |x::r,p,0=>by cases p<;>simp [Yq]
 |x::r,none,k+1=>by
  exact m122_
 |x::r,some s,k+1=>by
  exact m122_
theorem Xp.trans{l m k:List Ln}(h:Xp l m)(h':Xp m k):Xp l k:=by
 induction h generalizing k with
 |nil=>cases h';exact .nil
 |cons h t ih=>
  cases h' with
  |cons h2 t2=>exact .cons ⟨h.1.trans h2.1,h.2.1.trans h2.2.1,h.2.2.trans h2.2.2⟩ (ih t2)
open Go.Proofs.Tryz
open Go Go.RowKit
set_option maxRecDepth 100000
def ZvO(w:World)(b:Bool)(e:Ending)(w':World):Prop:=(∃n:Int,e=.returned (.int .i64 n)/\(decide (0<=n))=!b)/\Below w.heap.size w w'
theorem ZiV(oa:Option Addr)(cap:Nat)(l:List Ln)(w:World)(h:ZaO w oa l)(hl:l.length<=100000000)(hx:∀x∈l,JY x)(b:Bool)(hb:l.all YT=b) :
  Calls prog 97 #[.slice oa l.length cap,.func (.func 47) #[] #[]] w fun e w'=>ZvO w b e w':=by
 have HX:=h_ hx;clear hx;have HR:=h_ h;clear h;have Hb:=h_ hb;clear hb;have hE:=fun args w=>enters_of func47 k_ rfl args w
 go_enter func97,ntmps97;go_wp2_with fail;go_loopg [5,8] (l.length+1) (fun f _ i wr=>∃k:Nat,k<=l.length/\i=.int .i64 k/\l.length-k<f/\Hid ((l.take k).all YT=true)/\Hid (Below w.heap.size w wr))
 case atStart=>exact ⟨0,o_,rfl,o_,rfl,Below.refl _ _⟩
 case round=>
  obtain ⟨k,hk,rfl,hfu,Ha,HB⟩:=hrel;by_cases hlt:k<l.length
  ·obtain ⟨bb,o,rfl,c0,c1,c2,c3⟩:=(HR.out.below HB.out l_) k hlt
   have hxk:=HX.out l[k] (List.getElem_mem _);have HC:=fun (b:Bool) (hb:YT l[k]=b) (wr:World)=>h_ (Zp8 l[k] hxk wr b hb)
   cases hm:YT l[k] with
   |false=>
    have HR2:=h_ (show b=false by
     rw [<-Hb.out,List.all_eq_false];exact ⟨l[k],List.getElem_mem _,by simp [hm]⟩)
    have HM:=h_ hm;clear hm;go_wp2_with fail;refine (HC false HM.out _).out.mono ?_;rintro e w3 ⟨rfl,hb3⟩;have HB3:=h_ (HB.out.trans (hb3.mono HB.out.size));clear hb3;go_wp2_with fail;go_ret;exact ⟨⟨(k:Int),rfl,by rw [HR2.out];simp⟩,HB3.out⟩
   |true=>
    have HT:=h_ (show (l.take (k+1)).all YT=true by
     rw [c4_ hlt,List.all_append,Ha.out];simp [hm])
    have HM:=h_ hm;clear hm;go_wp2_with fail;refine (HC true HM.out _).out.mono ?_;rintro e w3 ⟨rfl,hb3⟩;have HB3:=h_ (HB.out.trans (hb3.mono HB.out.size));clear hb3;go_wp2_with fail;go_roundg (l.length-k)
    case measure=>omega
    case rel=>exact ⟨k+1,o_,n9_,o_,HT,HB3⟩
  ·have:k=l.length:=o_
   subst this;have ha:=Ha.out;rw [List.take_length] at ha;have HR2:=h_ (show b=true by rw [<-Hb.out,ha]);clear ha;go_wp2_with fail;go_ret;exact ⟨⟨-1,rfl,n101_⟩,HB.out⟩
theorem Zb4(oa:Option Addr)(cap:Nat)(l:List Ln)(w:World)(h:ZaO w oa l)(hl:l.length<=100000000)(hx:∀x∈l,JY x)(b:Bool)(hb:l.all YT=b) :
  Calls prog 46 #[.slice oa l.length cap,.func (.func 47) #[] #[]] w fun e w'=>e=.returned (.bool (!b))/\Below w.heap.size w w':=by
 have HC:=h_ (ZiV oa cap l w h hl hx b hb);clear h hx hb;go_enter func46,ntmps46;go_wp2_with fail;refine HC.out.mono ?_;rintro e w2 ⟨⟨n,rfl,hn⟩,hb2⟩;have HN:=h_ hn;clear hn;go_wp2_with fail;go_ret;exact ⟨ZB HN.out,hb2⟩
theorem m123_{p:Prop}(h:p:=by rw [ByteArray.toList_eq,ByteArray.toList_eq,ha,hb] at h;simpa using h):p:=h
theorem ZaA{l:List Ln}{k:Nat}(h:k<l.length):Yq none (l.take (k+1))=Yq none (l.take k)++(if h0:k=0 then ZaP l[k].sec++ZbD l[k] else (if l[k].sec=(l[k-1]' o_).sec then [] else 10::ZaP l[k].sec)++ZbD l[k]):=by
 rw [c4_ h];obtain ⟨q,h1,h2⟩:=Zex (l.take k) none l[k];rw [h1];congr 1;by_cases h0:k=0
 ·subst h0
  rw [dif_pos rfl];simp at h2;subst h2;simp [Yq]
 ·rw [dif_neg h0]
  have h3:(l.take k).getLast?=some (l[k-1]' o_):=by
   rw [List.getLast?_eq_getElem?,List.length_take,Nat.min_eq_left o_,List.getElem?_take_of_lt o_];simp [(by omega:k-1<l.length)]
  rw [h3] at h2;subst h2;simp [Yq]
theorem Xg(l:List Ln)(k:Nat):(Yq none (l.take k)).length<=(Xj l).length:=(ZfT l none k).length_le
theorem ZhS(sb:ByteArray)(s:Str)(h:sb.data.toList=s):((((⟨#[91]⟩:ByteArray)++sb)++⟨#[93]⟩)++⟨#[10]⟩).data.toList=ZaP s:=by
 rw [Joins.data_append,Joins.data_append,Joins.data_append,h];simp [ZaP]
theorem JI(kb vb:ByteArray)(x:Ln)(h1:kb.data.toList=x.key)(h2:vb.data.toList=x.val):(((kb++(⟨#[61]⟩:ByteArray))++vb)++⟨#[10]⟩).data.toList=ZbD x:=by
 rw [Joins.data_append,Joins.data_append,Joins.data_append,h1,h2];simp [ZbD]
theorem head_size(sb:ByteArray):((((⟨#[91]⟩:ByteArray)++sb)++⟨#[93]⟩)++⟨#[10]⟩).size=sb.size+3:=by
 rw [ByteArray.size_append,ByteArray.size_append,ByteArray.size_append];show 1+sb.size+1+1=_;omega
theorem ZfU(kb vb:ByteArray):(((kb++(⟨#[61]⟩:ByteArray))++vb)++⟨#[10]⟩).size=kb.size+vb.size+2:=by
 rw [ByteArray.size_append,ByteArray.size_append,ByteArray.size_append];show kb.size+1+vb.size+1=_;omega
theorem Zft(x:ByteArray):x.data.toList.length=x.size:=s_
theorem ZcR{w w1:World}{n:Nat}(h:Below w.heap.size w w1):Below w.heap.size w (w1.drewN n):=⟨h.os,h.tape,h.output,h.size,h.block⟩
theorem ZnD{a b:ByteArray}{s t:Str}(ha:a=⟨s.toArray⟩)(hb:b=⟨t.toArray⟩)(h:(a.toList==b.toList)=true):s=t:=by
 exact m123_
theorem Zn5{a b:ByteArray}{s t:Str}(ha:a=⟨s.toArray⟩)(hb:b=⟨t.toArray⟩)(h:(a.toList==b.toList)=false):¬s=t:=by
 exact m123_
def ZuZ(w:World)(l:List Ln)(e:Ending)(w':World):Prop:=e=.returned (.string ⟨(Xj l).toArray⟩)/\Below w.heap.size w w'
theorem ZlH(oa:Option Addr)(cap:Nat)(l:List Ln)(w:World)(h:ZaO w oa l)(hl:l.length<=100000000)(hx:∀x∈l,JY x)(hw:(Xj l).length<=1000000000) :
  Calls prog 49 #[.slice oa l.length cap] w fun e w'=>ZuZ w l e w':=by
 have HX:=h_ hx;clear hx;have HR:=h_ h;clear h;have hb0:=Bld.new w;have hbb:Below w.heap.size w (w.alloc (.cells #[.pointer none,.slice none 0 0] 127)):=b_.alloc l_ _;go_enter func49,ntmps49;go_wp2_with fail;generalize w.alloc (.cells #[.pointer none,.slice none 0 0] 127)=w1 at hb0 hbb⊢;have HBB:=h_ hbb;clear hbb;go_loopg [4,5,8] (l.length+1) (fun f _ _ i wr=>∃k:Nat,k<=l.length/\i=.int .i64 k/\l.length-k<f/\Bld w.heap.size (w.heap.size+1) (Yq none (l.take k)) wr/\Hid (Below w.heap.size w wr))
 case atStart=>exact ⟨0,o_,rfl,o_,hb0,HBB.out⟩
 case round=>
  obtain ⟨k,hk,rfl,hfu,hb,HB⟩:=hrel;have hsz:=HB.out.size;by_cases hlt:k<l.length
  ·obtain ⟨bb,o,rfl,c0,c1,c2,c3⟩:=(HR.out.below HB.out l_) k hlt
   have hxk:=HX.out l[k] (List.getElem_mem _);obtain ⟨sb,hsb⟩:∃sb:ByteArray,sb=⟨l[k].sec.toArray⟩:=⟨_,rfl⟩;obtain ⟨kb,hkb⟩:∃kb:ByteArray,kb=⟨l[k].key.toArray⟩:=⟨_,rfl⟩;obtain ⟨vb,hvb⟩:∃vb:ByteArray,vb=⟨l[k].val.toArray⟩:=⟨_,rfl⟩;have zs:sb.size<=1000000000:=by rw [hsb];exact hxk.sec
   have zk:kb.size<=1000000000:=by rw [hkb];exact hxk.key
   have zv:vb.size<=1000000000:=by rw [hvb];exact hxk.val
   rw [<-hsb] at c0;rw [<-hkb] at c1;rw [<-hvb] at c2;have HSb:=h_ hsb;clear hsb;have HKb:=h_ hkb;clear hkb;have HVb:=h_ hvb;clear hvb;generalize l[k].at_=xat at c3;by_cases h0:k=0
   ·subst h0
    simp only [Nat.zero_mul,Nat.add_zero] at c0 c1 c2 c3;have bd1:=h_ (show (Yq none (l.take 0)).length+((((⟨#[91]⟩:ByteArray)++sb)++⟨#[93]⟩)++⟨#[10]⟩).size<1099511627776 by
     have:=Xg l 0;rw [head_size];omega)
    have bd2:=h_ (show (Yq none (l.take 0)++((((⟨#[91]⟩:ByteArray)++sb)++⟨#[93]⟩)++⟨#[10]⟩).data.toList).length+(((kb++(⟨#[61]⟩:ByteArray))++vb)++⟨#[10]⟩).size<1099511627776 by
     have:=Xg l 0;rw [c5_,Zft,head_size,ZfU];omega)
    have hB3:Below wr.heap.size wr (wr.alloc (.cells #[.string sb,.string kb,.string vb,.int .i64 xat] 53)):=b_.alloc l_ _;have hbw3:=hb.below hB3;have hPw3:=heap_alloc_new wr (.cells #[.string sb,.string kb,.string vb,.int .i64 xat] 53);go_wp2_with fail;generalize wr.alloc (.cells #[.string sb,.string kb,.string vb,.int .i64 xat] 53)=w3 at *;generalize hPn:wr.heap.size=P at *;have HBw3:=h_ (HB.out.trans (hB3.mono hsz));have hPR:w.heap.size<P:=by rw [<-hPn];exact hb.lt
    clear hPn hB3 c0 c1 c2 c3;have d0:w3.cell? ⟨P,0,none⟩=some (.string sb):=n42_;have d1:w3.cell? ⟨P,1,none⟩=some (.string kb):=n42_;have d2:w3.cell? ⟨P,2,none⟩=some (.string vb):=n42_;have HPw3:=h_ hPw3;clear hPw3;go_quiet (fail);have hbw3:=hbw3.drewN nq;have HBw3:=h_ (ZcR (n:=nq) HBw3.out);have HPw3:=h_ (show (w3.drewN nq).heap[P]?=some (.cells #[.string sb,.string kb,.string vb,.int .i64 xat] 53 (0,0)) from HPw3.out);clear d0 d1 d2;generalize w3.drewN nq=w4 at *;have HBw4:=HBw3;have HPw4:=HPw3;have hPw4:=HPw4.out;have d0:w4.cell? ⟨P,0,none⟩=some (.string sb):=n43_;have d1:w4.cell? ⟨P,1,none⟩=some (.string kb):=n43_;have d2:w4.cell? ⟨P,2,none⟩=some (.string vb):=n43_;clear hPw4;go_wp2_with fail;have hh:=hbw3.writeString ((((⟨#[91]⟩:ByteArray)++sb)++⟨#[93]⟩)++⟨#[10]⟩) bd1.out
    with_reducible refine hh.mono ?_
    clear hh;rintro e w6 ⟨rfl,hb6,hfw6⟩;have HBw6:=h_ (HBw4.out.trans (hfw6.below w.heap.size o_ o_ HBw4.out.size));have hPw6:=hfw6.heap HPw4.out o_ d_;clear d0 d1 d2 hfw6;have d0:w6.cell? ⟨P,0,none⟩=some (.string sb):=n80_;have d1:w6.cell? ⟨P,1,none⟩=some (.string kb):=n80_;have d2:w6.cell? ⟨P,2,none⟩=some (.string vb):=n80_;have HPw6:=h_ hPw6;clear hPw6;go_wp2_with fail;have hh:=hb6.writeString (((kb++(⟨#[61]⟩:ByteArray))++vb)++⟨#[10]⟩) bd2.out
    with_reducible refine hh.mono ?_
    clear hh;rintro e w7 ⟨rfl,hb7,hfw7⟩;have HBw7:=h_ (HBw6.out.trans (hfw7.below w.heap.size o_ o_ HBw6.out.size));have hPw7:=hfw7.heap HPw6.out o_ d_;clear d0 d1 d2 hfw7;have d0:w7.cell? ⟨P,0,none⟩=some (.string sb):=n44_;have d1:w7.cell? ⟨P,1,none⟩=some (.string kb):=n44_;have d2:w7.cell? ⟨P,2,none⟩=some (.string vb):=n44_;have HPw7:=h_ hPw7;clear hPw7;clear d0 d1 d2;go_wp2_with fail;go_roundg (l.length-0)
    case measure=>omega
    case rel=>
     refine ⟨0+1,o_,n9_,o_,?_,HBw7.out⟩;rw [ZaA hlt,dif_pos rfl];rw [JI kb vb l[0] (by rw [HKb.out]) (by rw [HVb.out]),ZhS sb l[0].sec (by rw [HSb.out])] at hb7;rw [<-List.append_assoc];exact hb7
   ·have h0'':(0:Int)<(k:Int):=o_
    have h0':((k:Int)==0)=false:=n15_;obtain ⟨bp,op,e,p0,-,-,-⟩:=(HR.out.below HB.out l_) (k-1) o_;injection e with e;injection e with e1 e2;subst e1;subst e2
    obtain ⟨pb,hpb⟩:∃pb:ByteArray,pb=⟨(l[k-1]' o_).sec.toArray⟩:=⟨_,rfl⟩;rw [<-hpb] at p0;have HPb:=h_ hpb;clear hpb;have i1:((k:Int)-1).toNat=k-1:=o_;have i2:0<=(k:Int)-1:=o_;have i3:(k:Int)-1<(l.length:Int):=o_;cases hq:(sb.toList==pb.toList) with
    |true=>
     have hq':(sb.toList !=pb.toList)=false:=by simp [bne,hq]
     have bd1:=h_ (show (Yq none (l.take k)).length+(((kb++(⟨#[61]⟩:ByteArray))++vb)++⟨#[10]⟩).size<1099511627776 by
      have:=Xg l k;rw [ZfU];omega)
     have HQ:=h_ (ZnD HSb.out HPb.out hq);have hB3:Below wr.heap.size wr (wr.alloc (.cells #[.string sb,.string kb,.string vb,.int .i64 xat] 53)):=b_.alloc l_ _;have hbw3:=hb.below hB3;have hPw3:=heap_alloc_new wr (.cells #[.string sb,.string kb,.string vb,.int .i64 xat] 53);have p3:=(hB3.cell (p:=⟨bb,o+(k-1)*4,none⟩) (World.block_lt_of_cell? wr _ p0)).trans p0;go_wp2_with fail;generalize wr.alloc (.cells #[.string sb,.string kb,.string vb,.int .i64 xat] 53)=w3 at *;generalize hPn:wr.heap.size=P at *;have HBw3:=h_ (HB.out.trans (hB3.mono hsz));have hPR:w.heap.size<P:=by rw [<-hPn];exact hb.lt
     clear hPn hB3 c0 c1 c2 c3;clear p0;have d0:w3.cell? ⟨P,0,none⟩=some (.string sb):=n42_;have d1:w3.cell? ⟨P,1,none⟩=some (.string kb):=n42_;have d2:w3.cell? ⟨P,2,none⟩=some (.string vb):=n42_;have HPw3:=h_ hPw3;clear hPw3;go_quiet (fail);have hbw3:=hbw3.drewN nq;have HBw3:=h_ (ZcR (n:=nq) HBw3.out);have HPw3:=h_ (show (w3.drewN nq).heap[P]?=some (.cells #[.string sb,.string kb,.string vb,.int .i64 xat] 53 (0,0)) from HPw3.out);clear d0 d1 d2;generalize w3.drewN nq=w4 at *;have HBw4:=HBw3;have HPw4:=HPw3;have hPw4:=HPw4.out;have d0:w4.cell? ⟨P,0,none⟩=some (.string sb):=n43_;have d1:w4.cell? ⟨P,1,none⟩=some (.string kb):=n43_;have d2:w4.cell? ⟨P,2,none⟩=some (.string vb):=n43_;clear hPw4;go_wp2_with fail;have hh:=hbw3.writeString (((kb++(⟨#[61]⟩:ByteArray))++vb)++⟨#[10]⟩) bd1.out
     with_reducible refine hh.mono ?_
     clear hh;rintro e w7 ⟨rfl,hb7,hfw7⟩;have HBw7:=h_ (HBw4.out.trans (hfw7.below w.heap.size o_ o_ HBw4.out.size));have hPw7:=hfw7.heap HPw4.out o_ d_;clear d0 d1 d2 hfw7;have d0:w7.cell? ⟨P,0,none⟩=some (.string sb):=n44_;have d1:w7.cell? ⟨P,1,none⟩=some (.string kb):=n44_;have d2:w7.cell? ⟨P,2,none⟩=some (.string vb):=n44_;have HPw7:=h_ hPw7;clear hPw7;clear d0 d1 d2;go_wp2_with fail;go_roundg (l.length-k)
     case measure=>omega
     case rel=>
      refine ⟨k+1,o_,n9_,o_,?_,HBw7.out⟩;rw [ZaA hlt,dif_neg h0,if_pos HQ.out];rw [JI kb vb l[k] (by rw [HKb.out]) (by rw [HVb.out])] at hb7;exact hb7
    |false=>
     have hq':(sb.toList !=pb.toList)=true:=by simp [bne,hq]
     have bd1:=h_ (show (Yq none (l.take k)).length+(⟨#[10]⟩:ByteArray).size<1099511627776 by
      have:=Xg l k;show _+1<_;omega)
     have bd2:=h_ (show (Yq none (l.take k)++(⟨#[10]⟩:ByteArray).data.toList).length+((((⟨#[91]⟩:ByteArray)++sb)++⟨#[93]⟩)++⟨#[10]⟩).size<1099511627776 by
      have:=Xg l k;rw [c5_,Zft,head_size];show _+1+_<_;omega)
     have bd3:=h_ (show (Yq none (l.take k)++(⟨#[10]⟩:ByteArray).data.toList++((((⟨#[91]⟩:ByteArray)++sb)++⟨#[93]⟩)++⟨#[10]⟩).data.toList).length+(((kb++(⟨#[61]⟩:ByteArray))++vb)++⟨#[10]⟩).size<1099511627776 by
      have:=Xg l k;rw [c5_,c5_,Zft,Zft,head_size,ZfU];show _+1+_+_<_;omega)
     have HQ:=h_ (Zn5 HSb.out HPb.out hq);have hB3:Below wr.heap.size wr (wr.alloc (.cells #[.string sb,.string kb,.string vb,.int .i64 xat] 53)):=b_.alloc l_ _;have hbw3:=hb.below hB3;have hPw3:=heap_alloc_new wr (.cells #[.string sb,.string kb,.string vb,.int .i64 xat] 53);have p3:=(hB3.cell (p:=⟨bb,o+(k-1)*4,none⟩) (World.block_lt_of_cell? wr _ p0)).trans p0;go_wp2_with fail;generalize wr.alloc (.cells #[.string sb,.string kb,.string vb,.int .i64 xat] 53)=w3 at *;generalize hPn:wr.heap.size=P at *;have HBw3:=h_ (HB.out.trans (hB3.mono hsz));have hPR:w.heap.size<P:=by rw [<-hPn];exact hb.lt
     clear hPn hB3 c0 c1 c2 c3;clear p0;have d0:w3.cell? ⟨P,0,none⟩=some (.string sb):=n42_;have d1:w3.cell? ⟨P,1,none⟩=some (.string kb):=n42_;have d2:w3.cell? ⟨P,2,none⟩=some (.string vb):=n42_;have HPw3:=h_ hPw3;clear hPw3;go_quiet (fail);have hbw3:=hbw3.drewN nq;have HBw3:=h_ (ZcR (n:=nq) HBw3.out);have HPw3:=h_ (show (w3.drewN nq).heap[P]?=some (.cells #[.string sb,.string kb,.string vb,.int .i64 xat] 53 (0,0)) from HPw3.out);clear d0 d1 d2;generalize w3.drewN nq=w4 at *;have HBw4:=HBw3;have HPw4:=HPw3;have hPw4:=HPw4.out;have d0:w4.cell? ⟨P,0,none⟩=some (.string sb):=n43_;have d1:w4.cell? ⟨P,1,none⟩=some (.string kb):=n43_;have d2:w4.cell? ⟨P,2,none⟩=some (.string vb):=n43_;clear hPw4;go_wp2_with fail;have hh:=hbw3.writeString ⟨#[10]⟩ bd1.out
     with_reducible refine hh.mono ?_
     clear hh;rintro e w5 ⟨rfl,hb5,hfw5⟩;have HBw5:=h_ (HBw4.out.trans (hfw5.below w.heap.size o_ o_ HBw4.out.size));have hPw5:=hfw5.heap HPw4.out o_ d_;clear d0 d1 d2 hfw5;have d0:w5.cell? ⟨P,0,none⟩=some (.string sb):=by rw [(rd hPw5).1];rfl
     have d1:w5.cell? ⟨P,1,none⟩=some (.string kb):=by rw [(rd hPw5).1];rfl
     have d2:w5.cell? ⟨P,2,none⟩=some (.string vb):=by rw [(rd hPw5).1];rfl
     have HPw5:=h_ hPw5;clear hPw5;go_wp2_with fail;have hh:=hb5.writeString ((((⟨#[91]⟩:ByteArray)++sb)++⟨#[93]⟩)++⟨#[10]⟩) bd2.out
     with_reducible refine hh.mono ?_
     clear hh;rintro e w6 ⟨rfl,hb6,hfw6⟩;have HBw6:=h_ (HBw5.out.trans (hfw6.below w.heap.size o_ o_ HBw5.out.size));have hPw6:=hfw6.heap HPw5.out o_ d_;clear d0 d1 d2 hfw6;have d0:w6.cell? ⟨P,0,none⟩=some (.string sb):=n80_;have d1:w6.cell? ⟨P,1,none⟩=some (.string kb):=n80_;have d2:w6.cell? ⟨P,2,none⟩=some (.string vb):=n80_;have HPw6:=h_ hPw6;clear hPw6;go_wp2_with fail;have hh:=hb6.writeString (((kb++(⟨#[61]⟩:ByteArray))++vb)++⟨#[10]⟩) bd3.out
     with_reducible refine hh.mono ?_
     clear hh;rintro e w7 ⟨rfl,hb7,hfw7⟩;have HBw7:=h_ (HBw6.out.trans (hfw7.below w.heap.size o_ o_ HBw6.out.size));have hPw7:=hfw7.heap HPw6.out o_ d_;clear d0 d1 d2 hfw7;have d0:w7.cell? ⟨P,0,none⟩=some (.string sb):=n44_;have d1:w7.cell? ⟨P,1,none⟩=some (.string kb):=n44_;have d2:w7.cell? ⟨P,2,none⟩=some (.string vb):=n44_;have HPw7:=h_ hPw7;clear hPw7;clear d0 d1 d2;go_wp2_with fail;go_roundg (l.length-k)
     case measure=>omega
     case rel=>
      refine ⟨k+1,o_,n9_,o_,?_,HBw7.out⟩;rw [ZaA hlt,dif_neg h0,if_neg HQ.out];rw [JI kb vb l[k] (by rw [HKb.out]) (by rw [HVb.out]),ZhS sb l[k].sec (by rw [HSb.out])] at hb7;simpa [List.append_assoc] using hb7
  ·have:k=l.length:=o_
   subst this;rw [List.take_length] at hb;go_wp2_with (go_at_call 100;refine hb.string.mono ?_;rintro e w' ⟨rfl,hb2,hf2⟩);go_ret;exact ⟨rfl,HB.out.trans (hf2.below w.heap.size o_ o_ hsz)⟩
theorem ZfJ(oa:Option Addr)(cap:Nat)(l:List Ln)(w:World)(h:ZaO w oa l)(hl:l.length<=100000000)(hx:∀x∈l,JY x)(hwi:l.all YT=true->(Xj l).length<=1000000000)(b:Bool)(hb:Zcc l=b) :
  Calls prog 20 #[.slice oa l.length cap] w fun e w'=>e=.returned (.bool b)/\Below w.heap.size w w':=by
 have HX:=h_ hx;clear hx;have HR:=h_ h;clear h;unfold Zcc at hb;cases ha:l.all YT with
 |false=>
  rw [ha] at hb;have HB:=h_ (show b=false from hb.symm);clear hb;have HC:=h_ (Zb4 oa cap l w HR.out hl HX.out false ha);clear ha;go_enter func20,ntmps20;go_wp2_with fail;refine HC.out.mono ?_;rintro e w2 ⟨rfl,hb2⟩;go_wp2_with fail;go_ret;exact ⟨by rw [HB.out];rfl,hb2⟩
 |true=>
  have hw:=hwi ha;clear hwi;rw [ha,Bool.true_and] at hb;have HC:=h_ (Zb4 oa cap l w HR.out hl HX.out true ha);have HB:=h_ hb;clear hb ha;go_enter func20,ntmps20;go_wp2_with fail;refine HC.out.mono ?_;rintro e w2 ⟨rfl,hb2⟩;have HT:=h_ (ZlH oa cap l w2 (HR.out.below hb2 l_) hl HX.out hw);go_wp2_with fail;refine HT.out.mono ?_;rintro e w3 ⟨rfl,hb3⟩;have HB3:=h_ (hb2.trans (hb3.mono hb2.size));clear hb3 hb2;generalize hs:Xj l=s at *;have Hs:=h_ hs;clear hs;go_wp2_with fail;go_ret;refine ⟨ZB ?_,HB3.out⟩;rw [<-HB.out,decide_eq_decide];show ((s.length:Int)<=20000)↔_;omega
theorem Zsf(oa:Option Addr)(cap:Nat)(l:List Ln)(w:World)(h:ZaO w oa l)(hl:l.length<=100000000)(hx:∀x∈l,JY x)(hwi:l.all YT=true->(Xj l).length<=1000000000)(s:Str)(hs:ZkS l=s) :
  Calls prog 25 #[.slice oa l.length cap] w fun e w'=>e=.returned (.string ⟨s.toArray⟩)/\Below w.heap.size w w':=by
 unfold ZkS at hs;cases hm:Zcc l with
 |false=>
  rw [hm] at hs;have HS:=h_ (show s=[] from hs.symm);clear hs;have HC:=h_ (ZfJ oa cap l w h hl hx hwi false hm);clear hm hx h;go_enter func25,ntmps25;go_wp2_with fail;refine HC.out.mono ?_;rintro e w2 ⟨rfl,hb2⟩;go_wp2_with fail;go_ret;exact ⟨n61_,hb2⟩
 |true=>
  rw [hm] at hs;have HS:=h_ (show s=Xj l from hs.symm);clear hs;have hw:=hwi (by unfold Zcc at hm;rw [Bool.and_eq_true] at hm;exact hm.1);have HC:=h_ (ZfJ oa cap l w h hl hx hwi true hm);have HR:=h_ h;have HX:=h_ hx;clear hm hx h;go_enter func25,ntmps25;go_wp2_with fail;refine HC.out.mono ?_;rintro e w2 ⟨rfl,hb2⟩;have HT:=h_ (ZlH oa cap l w2 (HR.out.below hb2 l_) hl HX.out hw);go_wp2_with fail;refine HT.out.mono ?_;rintro e w3 ⟨rfl,hb3⟩;have HB3:=h_ (hb2.trans (hb3.mono hb2.size));clear hb3 hb2;go_wp2_with fail;go_ret;exact ⟨n61_,HB3.out⟩
end Go.Proofs.YtmgmbeipbeknaaaGreatDoor
