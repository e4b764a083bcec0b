import Derived.Deep.CutRange
import Derived.Test.YtmgmbeipbeknaaaGreatDoorRB23
import Derived.Test.YtmgmbeipbeknaaaGreatDoorRB34
import Derived.Test.YtmgmbeipbeknaaaGreatDoorRB35
import Derived.Test.YtmgmbeipbeknaaaGreatDoorRB41
import Derived.Test.YtmgmbeipbeknaaaGreatDoorRB43
import Derived.Test.YtmgmbeipbeknaaaGreatDoorRB44
import Derived.Test.YtmgmbeipbeknaaaGreatDoorRB45
import Derived.Test.YtmgmbeipbeknaaaGreatDoorRB46
namespace Go.Proofs.YtmgmbeipbeknaaaGreatDoor
open Go.Proofs.Tryz
open Go Go.RowKit
set_option linter.all false
set_option maxHeartbeats 16000000
set_option maxRecDepth 100000
def Zih:Array Value:=#[.string ⟨#[]⟩,.string ⟨#[]⟩,.string ⟨#[]⟩,.string ⟨#[]⟩,.string ⟨#[]⟩,.int .i64 0,.int .i64 0,.int .i64 0,.int .i64 0,.int .i64 0,.int .i64 0,.int .i64 0,.int .i64 0,.int .i64 0,.bool false,.bool false,.bool false]
theorem ZvB(x0:Str)(x2:Str)(x23:Str)(x24:Str)(x34:Str)(x1:Int)(x5:Int)(x6:Int)(x7:Int)(x14:Int)(x15:Int)(x16:Int)(x17:Int)(x22:Int)(x3:Bool)(x13:Bool)(x29:Bool):((#[.string ⟨x0.toArray⟩,.string ⟨x2.toArray⟩,.string ⟨x23.toArray⟩,.string ⟨x24.toArray⟩,.string ⟨x34.toArray⟩,.int .i64 x1,.int .i64 x5,.int .i64 x6,.int .i64 x7,.int .i64 x14,.int .i64 x15,.int .i64 x16,.int .i64 x17,.int .i64 x22,.bool x3,.bool x13,.bool x29]:Array Value).all fun x=>x.oneCell')=true:=n54_
theorem Zpn(cs:Array Value)(h35:cs.size=35)(x0:Str)(x2:Str)(x23:Str)(x24:Str)(x34:Str)(x1:Int)(x5:Int)(x6:Int)(x7:Int)(x14:Int)(x15:Int)(x16:Int)(x17:Int)(x22:Int)(x3:Bool)(x13:Bool)(x29:Bool)(w:World)(h0:cs[0]?=some (.string ⟨x0.toArray⟩))(h2:cs[2]?=some (.string ⟨x2.toArray⟩))(h23:cs[23]?=some (.string ⟨x23.toArray⟩))(h24:cs[24]?=some (.string ⟨x24.toArray⟩))(h34:cs[34]?=some (.string ⟨x34.toArray⟩))(h1:cs[1]?=some (.int .i64 x1))(h5:cs[5]?=some (.int .i64 x5))(h6:cs[6]?=some (.int .i64 x6))(h7:cs[7]?=some (.int .i64 x7))(h14:cs[14]?=some (.int .i64 x14))(h15:cs[15]?=some (.int .i64 x15))(h16:cs[16]?=some (.int .i64 x16))(h17:cs[17]?=some (.int .i64 x17))(h22:cs[22]?=some (.int .i64 x22))(h3:cs[3]?=some (.bool x3))(h13:cs[13]?=some (.bool x13))(h29:cs[29]?=some (.bool x29)) :
  Calls prog 31 #[.agg cs] w fun e w'=>e=.returned (.agg #[.string ⟨x0.toArray⟩,.string ⟨x2.toArray⟩,.string ⟨x23.toArray⟩,.string ⟨x24.toArray⟩,.string ⟨x34.toArray⟩,.int .i64 x1,.int .i64 x5,.int .i64 x6,.int .i64 x7,.int .i64 x14,.int .i64 x15,.int .i64 x16,.int .i64 x17,.int .i64 x22,.bool x3,.bool x13,.bool x29])/\Below w.heap.size w w':=by
 have hB1:Below w.heap.size w (w.alloc (.cells cs 28)):=b_.alloc l_ _;have hz:(w.alloc (.cells cs 28)).heap.size=w.heap.size+1:=s_;have hB2:Below (w.alloc (.cells cs 28)).heap.size (w.alloc (.cells cs 28)) ((w.alloc (.cells cs 28)).alloc (.cells Zih 59)):=b_.alloc l_ _;have hga:=Za (heap_alloc_new w (.cells cs 28)) hB2;have hgb:=heap_alloc_new (w.alloc (.cells cs 28)) (.cells Zih 59);rw [hz] at hgb;have HB:=h_ (Below.more hB1 hB2);obtain ⟨w2,hw2⟩:=e_ ((w.alloc (.cells cs 28)).alloc (.cells Zih 59));rw [<-hw2] at hga hgb HB;have HGB:=h_ hgb;have HW2:=h_ hw2;have hc:=(rd hga).1;have k0:=(hc 0).trans h0;have k2:=(hc 2).trans h2;have k23:=(hc 23).trans h23;have k24:=(hc 24).trans h24;have k34:=(hc 34).trans h34;have k1:=(hc 1).trans h1;have k5:=(hc 5).trans h5;have k6:=(hc 6).trans h6;have k7:=(hc 7).trans h7;have k14:=(hc 14).trans h14;have k15:=(hc 15).trans h15;have k16:=(hc 16).trans h16;have k17:=(hc 17).trans h17;have k22:=(hc 22).trans h22;have k3:=(hc 3).trans h3;have k13:=(hc 13).trans h13;have k29:=(hc 29).trans h29;clear hB1 hB2 hz hga hgb hw2 hc h0 h2 h23 h24 h34 h1 h5 h6 h7 h14 h15 h16 h17 h22 h3 h13 h29;go_enter func31,ntmps31;go_upto_region 1 with fail
 unfold Zih at HW2;rw [<-HW2.out];clear HW2;go_wp2_with (refine Yr rfl 59 _ _ (w.heap.size+1) #[.string ⟨x0.toArray⟩,.string ⟨x2.toArray⟩,.string ⟨x23.toArray⟩,.string ⟨x24.toArray⟩,.string ⟨x34.toArray⟩,.int .i64 x1,.int .i64 x5,.int .i64 x6,.int .i64 x7,.int .i64 x14,.int .i64 x15,.int .i64 x16,.int .i64 x17,.int .i64 x22,.bool x3,.bool x13,.bool x29] Zih 59 rfl rfl rfl HGB.out rfl rfl (ZvB x0 x2 x23 x24 x34 x1 x5 x6 x7 x14 x15 x16 x17 x22 x3 x13 x29) ?_;intro w4 h4 hf4);refine QI 2 59 (w.heap.size+1) (.agg #[.string ⟨x0.toArray⟩,.string ⟨x2.toArray⟩,.string ⟨x23.toArray⟩,.string ⟨x24.toArray⟩,.string ⟨x34.toArray⟩,.int .i64 x1,.int .i64 x5,.int .i64 x6,.int .i64 x7,.int .i64 x14,.int .i64 x15,.int .i64 x16,.int .i64 x17,.int .i64 x22,.bool x3,.bool x13,.bool x29]) rfl rfl rfl (Y2 59 _ rfl rfl rfl h4) ⟨rfl,HB.out.trans (hf4.below _ HB.out.size (fun k hk e=>by omega))⟩
theorem ZtV{p:Prop}[Decidable p](q c:Bool)(X:Result Bool)(w:World)(hq:q=true↔p)(h:X=.ok c w):(if p then X else .ok false w)=.ok (q&&c) w:=by
 by_cases e:p
 ·rw [if_pos e,h,hq.2 e];rfl
 ·rw [if_neg e,Bool.eq_false_iff.2 (fun h=>e (hq.1 h))];rfl
theorem ZrS{p:Prop}[Decidable p](q:Bool)(w:World)(hq:q=true↔p):(if p then Result.ok true w else .ok false w)=.ok q w:=by
 by_cases e:p
 ·rw [if_pos e,hq.2 e]
 ·rw [if_neg e,Bool.eq_false_iff.2 (fun h=>e (hq.1 h))]
theorem Zwa(x0:Str)(x2:Str)(x23:Str)(x24:Str)(x34:Str)(x1:Int)(x5:Int)(x6:Int)(x7:Int)(x14:Int)(x15:Int)(x16:Int)(x17:Int)(x22:Int)(x3:Bool)(x13:Bool)(x29:Bool)(y0:Str)(y2:Str)(y23:Str)(y24:Str)(y34:Str)(y1:Int)(y5:Int)(y6:Int)(y7:Int)(y14:Int)(y15:Int)(y16:Int)(y17:Int)(y22:Int)(y3:Bool)(y13:Bool)(y29:Bool)(w:World)(r:Bool)(hr:((x0==y0)&&((x2==y2)&&((x23==y23)&&((x24==y24)&&((x34==y34)&&((x1==y1)&&((x5==y5)&&((x6==y6)&&((x7==y7)&&((x14==y14)&&((x15==y15)&&((x16==y16)&&((x17==y17)&&((x22==y22)&&((x3==y3)&&((x13==y13)&&(x29==y29)))))))))))))))))=r):(Op.equalIn 10000 59 (.agg #[.string ⟨x0.toArray⟩,.string ⟨x2.toArray⟩,.string ⟨x23.toArray⟩,.string ⟨x24.toArray⟩,.string ⟨x34.toArray⟩,.int .i64 x1,.int .i64 x5,.int .i64 x6,.int .i64 x7,.int .i64 x14,.int .i64 x15,.int .i64 x16,.int .i64 x17,.int .i64 x22,.bool x3,.bool x13,.bool x29]) (.agg #[.string ⟨y0.toArray⟩,.string ⟨y2.toArray⟩,.string ⟨y23.toArray⟩,.string ⟨y24.toArray⟩,.string ⟨y34.toArray⟩,.int .i64 y1,.int .i64 y5,.int .i64 y6,.int .i64 y7,.int .i64 y14,.int .i64 y15,.int .i64 y16,.int .i64 y17,.int .i64 y22,.bool y3,.bool y13,.bool y29])).run prog w=.ok r w:=by
 have u3:=underlying3;have u9:=underlying9;have u4:=underlying4;have a3:=isAgg3;have z3:=sizeOf3;have a9:=isAgg9;have z9:=sizeOf9;have a4:=isAgg4;have z4:=sizeOf4;have hS:prog.underlying 59=some (.struct (prog.fieldsOf 59)):=k_;have hp:prog.stoodInHeld 59=false:=k_;rw [show (10000:Nat)=9999+1 from rfl,run_equalIn_agg w 9999 59 _ _ hS hp];simp only [Program.fieldsOf,underlying59];have HR:=h_ hr;clear hr;go_simp;rw [<-HR.out];repeat (first|exact ZrS _ _ beq_iff_eq|refine ZtV _ _ _ _ beq_iff_eq ?_)
theorem Zov(x0:Str)(x2:Str)(x23:Str)(x24:Str)(x34:Str)(x1:Int)(x5:Int)(x6:Int)(x7:Int)(x14:Int)(x15:Int)(x16:Int)(x17:Int)(x22:Int)(x3:Bool)(x13:Bool)(x29:Bool)(y0:Str)(y2:Str)(y23:Str)(y24:Str)(y34:Str)(y1:Int)(y5:Int)(y6:Int)(y7:Int)(y14:Int)(y15:Int)(y16:Int)(y17:Int)(y22:Int)(y3:Bool)(y13:Bool)(y29:Bool)(w:World)(r:Bool)(hr:((x0==y0)&&((x2==y2)&&((x23==y23)&&((x24==y24)&&((x34==y34)&&((x1==y1)&&((x5==y5)&&((x6==y6)&&((x7==y7)&&((x14==y14)&&((x15==y15)&&((x16==y16)&&((x17==y17)&&((x22==y22)&&((x3==y3)&&((x13==y13)&&(x29==y29)))))))))))))))))=r):(binOp .eql 59 (.agg #[.string ⟨x0.toArray⟩,.string ⟨x2.toArray⟩,.string ⟨x23.toArray⟩,.string ⟨x24.toArray⟩,.string ⟨x34.toArray⟩,.int .i64 x1,.int .i64 x5,.int .i64 x6,.int .i64 x7,.int .i64 x14,.int .i64 x15,.int .i64 x16,.int .i64 x17,.int .i64 x22,.bool x3,.bool x13,.bool x29]) (.agg #[.string ⟨y0.toArray⟩,.string ⟨y2.toArray⟩,.string ⟨y23.toArray⟩,.string ⟨y24.toArray⟩,.string ⟨y34.toArray⟩,.int .i64 y1,.int .i64 y5,.int .i64 y6,.int .i64 y7,.int .i64 y14,.int .i64 y15,.int .i64 y16,.int .i64 y17,.int .i64 y22,.bool y3,.bool y13,.bool y29])).run prog w=.ok (.bool r) w:=by
 rw [run_eql_struct,Zwa x0 x2 x23 x24 x34 x1 x5 x6 x7 x14 x15 x16 x17 x22 x3 x13 x29 y0 y2 y23 y24 y34 y1 y5 y6 y7 y14 y15 y16 y17 y22 y3 y13 y29 w r hr];rfl
theorem Zun:prog.eqGuardType prog.depth 59=false:=k_
theorem Zk0(op:BinOp)(x y:Operand)(xs ys:Array Value)(w:World):(eqGuard op 59 x y (.agg xs) (.agg ys)).run prog w=.ok () w:=run_eqGuard_agg w op _ x y xs ys Zun
theorem m135_{p:Prop}(h:p:=by rw [e] at s;obtain ⟨oa,cap,rfl,r,l⟩:=s;exact ⟨x,oa,cap,q,r,l,e⟩):p:=h
def plU(a b:UV):Bool:=((a 0==b 0)&&((a 2==b 2)&&((a 23==b 23)&&((a 24==b 24)&&((a 34==b 34)&&((a 1==b 1)&&((a 5==b 5)&&((a 6==b 6)&&((a 7==b 7)&&((a 14==b 14)&&((a 15==b 15)&&((a 16==b 16)&&((a 17==b 17)&&((a 22==b 22)&&((a 3==b 3)&&((a 13==b 13)&&(a 29==b 29)))))))))))))))))
theorem Zoj(a b:UV):ZaG a b=((((((((((((((((((plU a b&&(a 4==b 4))&&(a 19==b 19))&&(a 8==b 8))&&(a 9==b 9))&&(a 10==b 10))&&(a 11==b 11))&&(a 12==b 12))&&(a 18==b 18))&&(a 21==b 21))&&(a 25==b 25))&&(a 26==b 26))&&(a 27==b 27))&&(a 20==b 20))&&(a 28==b 28))&&(a 30==b 30))&&(a 31==b 31))&&(a 32==b 32))&&(a 33==b 33)):=by
 unfold ZaG plU;rw [show List.range 35=[0,1,2,3,4,5,6,7,8,9,10,11,12,13,14,15,16,17,18,19,20,21,22,23,24,25,26,27,28,29,30,31,32,33,34] from rfl];simp only [List.all_cons,List.all_nil,Bool.and_true,Bool.and_assoc]
 ac_rfl
theorem ZO{p:Nat->Oper->Prop}{i:Nat}{o:Oper}{rest:List Oper}(h:p i o)(hr:Zbq p (i+1) rest):Zbq p i (o::rest):=⟨h,hr⟩
theorem ZgO{ops:Array Oper}{k:Nat}(h:(ops.all fun o=>!(o.dst==some k))=true):∀(i:Nat) (o:Oper),ops[i]?=some o->o.dst≠some k:=fun i o ho e=>by
 rw [Array.all_eq_true] at h;obtain ⟨hi,he⟩:=c6_.1 ho
 have:=h i hi
 rw [he,e] at this;simp at this
theorem ZlU{a:Act}{W:World}{o:Oper}{x y:Operand}{B:TypeId}{xs ys:Array Value}{r:Bool}(ho:o.op=.binOp .eql 59 x y B)(h1:a.eval x=.agg xs)(h2:a.eval y=.agg ys)
  (hr:(binOp .eql 59 (.agg xs) (.agg ys)).run prog W=.ok (.bool r) W):(execOp a.eval o).run prog W=.ok (.value (.bool r)) W:=by
 simp [execOp,ho,h1,h2,Zk0,hr,Result.andThen]
theorem ZiT{w:World}{cs:Array Value}{u:UV}(h:ZV w cs u)(j:Nat)(ht:ZH u)(hj:j<35:=by decide)(hz:(ZK j).tag=0:=by exact rfl):∃x,cs[j]?=some (.string ⟨x.toArray⟩)/\u j=.s x:=by
 obtain ⟨v,q,s⟩:=h.at j hj;obtain ⟨x,e⟩:=ZvS ((ht j).trans hz);rw [e] at s;obtain rfl:v=.string ⟨x.toArray⟩:=s;exact ⟨x,q,e⟩
theorem ZcO{w:World}{cs:Array Value}{u:UV}(h:ZV w cs u)(j:Nat)(ht:ZH u)(hj:j<35:=by decide)(hz:(ZK j).tag=1:=by exact rfl):∃x,cs[j]?=some (.int .i64 x)/\u j=.n x:=by
 obtain ⟨v,q,s⟩:=h.at j hj;obtain ⟨x,e⟩:=Ztu ((ht j).trans hz);rw [e] at s;obtain rfl:v=.int .i64 x:=s;exact ⟨x,q,e⟩
theorem ZqJ{w:World}{cs:Array Value}{u:UV}(h:ZV w cs u)(j:Nat)(ht:ZH u)(hj:j<35:=by decide)(hz:(ZK j).tag=2:=by exact rfl):∃x,cs[j]?=some (.bool x)/\u j=.b x:=by
 obtain ⟨v,q,s⟩:=h.at j hj;obtain ⟨x,e⟩:=ZvM ((ht j).trans hz);rw [e] at s;obtain rfl:v=.bool x:=s;exact ⟨x,q,e⟩
theorem ZcL{w:World}{cs:Array Value}{u:UV}(h:ZV w cs u)(j:Nat)(ht:ZH u)(hj:j<35:=by decide)(hz:(ZK j).tag=3:=by exact rfl):∃x oa cap,cs[j]?=some (.slice oa (List.length x) cap)/\Zp w oa x/\x.length<=maxLen/\u j=.ss x:=by
 obtain ⟨v,q,s⟩:=h.at j hj;obtain ⟨x,e⟩:=ZoJ ((ht j).trans hz);exact m135_
theorem Zd0{w:World}{cs:Array Value}{u:UV}(h:ZV w cs u)(j:Nat)(ht:ZH u)(hj:j<35:=by decide)(hz:(ZK j).tag=4:=by exact rfl):∃x oa cap,cs[j]?=some (.slice oa (List.length x) cap)/\Y8 w oa x/\x.length<=maxLen/\u j=.ns x:=by
 obtain ⟨v,q,s⟩:=h.at j hj;obtain ⟨x,e⟩:=Znx ((ht j).trans hz);exact m135_
theorem Zu0{w:World}{cs:Array Value}{u:UV}(h:ZV w cs u)(j:Nat)(ht:ZH u)(hj:j<35:=by decide)(hz:(ZK j).tag=5:=by exact rfl):∃x oa cap,cs[j]?=some (.slice oa (List.length x) cap)/\ZG JK 2 w oa x/\x.length<=maxLen/\u j=.rs x:=by
 obtain ⟨v,q,s⟩:=h.at j hj;obtain ⟨x,e⟩:=Zr1 ((ht j).trans hz);exact m135_
theorem Zu1{w:World}{cs:Array Value}{u:UV}(h:ZV w cs u)(j:Nat)(ht:ZH u)(hj:j<35:=by decide)(hz:(ZK j).tag=7:=by exact rfl):∃x oa cap,cs[j]?=some (.slice oa (List.length x) cap)/\ZG Qu 2 w oa x/\x.length<=maxLen/\u j=.ps x:=by
 obtain ⟨v,q,s⟩:=h.at j hj;obtain ⟨x,e⟩:=ZrQ ((ht j).trans hz);exact m135_
theorem ZdS{w:World}{cs:Array Value}{u:UV}(h:ZV w cs u)(j:Nat)(ht:ZH u)(hj:j<35:=by decide)(hz:(ZK j).tag=6:=by exact rfl):∃x oa cap xs,cs[j]?=some (.slice oa (List.length x) cap)/\ZbB w oa xs x/\x.length<=maxLen/\u j=.cs x:=by
 obtain ⟨v,q,s⟩:=h.at j hj;obtain ⟨x,e⟩:=Ztp ((ht j).trans hz);rw [e] at s;obtain ⟨oa,cap,xs,rfl,r,l⟩:=s;exact ⟨x,oa,cap,xs,q,r,l,e⟩
theorem Zfn(ca cb:Array Value)(a b:UV)(w:World)(hsa:ZV w ca a)(hsb:ZV w cb b)(ta:ZH a)(tb:ZH b)(r:Bool)(hr:ZaG a b=r) :
  Calls prog 16 #[.agg ca,.agg cb] w fun e w'=>e=.returned (.bool r)/\Below w.heap.size w w':=by
 rw [Zoj] at hr;have hB1:Below w.heap.size w (w.alloc (.cells ca 28)):=b_.alloc l_ _;have hz:(w.alloc (.cells ca 28)).heap.size=w.heap.size+1:=s_;have hB2:Below (w.alloc (.cells ca 28)).heap.size (w.alloc (.cells ca 28)) ((w.alloc (.cells ca 28)).alloc (.cells cb 28)):=b_.alloc l_ _;have hga:=Za (heap_alloc_new w (.cells ca 28)) hB2;have hgb:=heap_alloc_new (w.alloc (.cells ca 28)) (.cells cb 28);rw [hz] at hgb;have HB:=h_ (Below.more hB1 hB2);obtain ⟨w2,hw2⟩:=e_ ((w.alloc (.cells ca 28)).alloc (.cells cb 28));rw [<-hw2] at hga hgb HB;have HGA:=h_ hga;have HGB:=h_ hgb;have HW2:=h_ hw2;have HSA:=h_ (hsa.below HB.out);have HSB:=h_ (hsb.below HB.out);have HTA:=h_ ta;have HTB:=h_ tb;have HCA:=h_ (show (prog.info? 28).map (·.size)=some ca.size by rw [hsa.size];rfl);have HCB:=h_ (show (prog.info? 28).map (·.size)=some cb.size by rw [hsb.size];rfl);obtain ⟨pb,hpb⟩:∃pb,plU a b=pb:=⟨_,rfl⟩;rw [hpb] at hr;have HR:=h_ hr;unfold plU at hpb;clear hr hB1 hB2 hz hga hgb hsa hsb ta tb hw2;obtain ⟨xa0,qa0,ea0⟩:=ZiT HSA.out 0 HTA.out;rw [ea0] at hpb;clear ea0;obtain ⟨xb0,qb0,eb0⟩:=ZiT HSB.out 0 HTB.out;rw [eb0] at hpb;clear eb0;obtain ⟨xa2,qa2,ea2⟩:=ZiT HSA.out 2 HTA.out;rw [ea2] at hpb;clear ea2;obtain ⟨xb2,qb2,eb2⟩:=ZiT HSB.out 2 HTB.out;rw [eb2] at hpb;clear eb2;obtain ⟨xa23,qa23,ea23⟩:=ZiT HSA.out 23 HTA.out;rw [ea23] at hpb;clear ea23;obtain ⟨xb23,qb23,eb23⟩:=ZiT HSB.out 23 HTB.out;rw [eb23] at hpb;clear eb23;obtain ⟨xa24,qa24,ea24⟩:=ZiT HSA.out 24 HTA.out;rw [ea24] at hpb;clear ea24;obtain ⟨xb24,qb24,eb24⟩:=ZiT HSB.out 24 HTB.out;rw [eb24] at hpb;clear eb24;obtain ⟨xa34,qa34,ea34⟩:=ZiT HSA.out 34 HTA.out;rw [ea34] at hpb;clear ea34;obtain ⟨xb34,qb34,eb34⟩:=ZiT HSB.out 34 HTB.out;rw [eb34] at hpb;clear eb34;obtain ⟨xa1,qa1,ea1⟩:=ZcO HSA.out 1 HTA.out;rw [ea1] at hpb;clear ea1;obtain ⟨xb1,qb1,eb1⟩:=ZcO HSB.out 1 HTB.out;rw [eb1] at hpb;clear eb1;obtain ⟨xa5,qa5,ea5⟩:=ZcO HSA.out 5 HTA.out;rw [ea5] at hpb;clear ea5;obtain ⟨xb5,qb5,eb5⟩:=ZcO HSB.out 5 HTB.out;rw [eb5] at hpb;clear eb5;obtain ⟨xa6,qa6,ea6⟩:=ZcO HSA.out 6 HTA.out;rw [ea6] at hpb;clear ea6;obtain ⟨xb6,qb6,eb6⟩:=ZcO HSB.out 6 HTB.out;rw [eb6] at hpb;clear eb6;obtain ⟨xa7,qa7,ea7⟩:=ZcO HSA.out 7 HTA.out;rw [ea7] at hpb;clear ea7;obtain ⟨xb7,qb7,eb7⟩:=ZcO HSB.out 7 HTB.out;rw [eb7] at hpb;clear eb7;obtain ⟨xa14,qa14,ea14⟩:=ZcO HSA.out 14 HTA.out;rw [ea14] at hpb;clear ea14;obtain ⟨xb14,qb14,eb14⟩:=ZcO HSB.out 14 HTB.out;rw [eb14] at hpb;clear eb14;obtain ⟨xa15,qa15,ea15⟩:=ZcO HSA.out 15 HTA.out;rw [ea15] at hpb;clear ea15;obtain ⟨xb15,qb15,eb15⟩:=ZcO HSB.out 15 HTB.out;rw [eb15] at hpb;clear eb15;obtain ⟨xa16,qa16,ea16⟩:=ZcO HSA.out 16 HTA.out;rw [ea16] at hpb;clear ea16;obtain ⟨xb16,qb16,eb16⟩:=ZcO HSB.out 16 HTB.out;rw [eb16] at hpb;clear eb16;obtain ⟨xa17,qa17,ea17⟩:=ZcO HSA.out 17 HTA.out;rw [ea17] at hpb;clear ea17;obtain ⟨xb17,qb17,eb17⟩:=ZcO HSB.out 17 HTB.out;rw [eb17] at hpb;clear eb17;obtain ⟨xa22,qa22,ea22⟩:=ZcO HSA.out 22 HTA.out;rw [ea22] at hpb;clear ea22;obtain ⟨xb22,qb22,eb22⟩:=ZcO HSB.out 22 HTB.out;rw [eb22] at hpb;clear eb22;obtain ⟨xa3,qa3,ea3⟩:=ZqJ HSA.out 3 HTA.out;rw [ea3] at hpb;clear ea3;obtain ⟨xb3,qb3,eb3⟩:=ZqJ HSB.out 3 HTB.out;rw [eb3] at hpb;clear eb3;obtain ⟨xa13,qa13,ea13⟩:=ZqJ HSA.out 13 HTA.out;rw [ea13] at hpb;clear ea13;obtain ⟨xb13,qb13,eb13⟩:=ZqJ HSB.out 13 HTB.out;rw [eb13] at hpb;clear eb13;obtain ⟨xa29,qa29,ea29⟩:=ZqJ HSA.out 29 HTA.out;rw [ea29] at hpb;clear ea29;obtain ⟨xb29,qb29,eb29⟩:=ZqJ HSB.out 29 HTB.out;rw [eb29] at hpb;clear eb29;simp only [Zuv,ZtT,Zuw] at hpb;have HPB:=h_ hpb;clear hpb;have HOFa:=h_ (fun W=>Zpn ca HSA.out.size xa0 xa2 xa23 xa24 xa34 xa1 xa5 xa6 xa7 xa14 xa15 xa16 xa17 xa22 xa3 xa13 xa29 W qa0 qa2 qa23 qa24 qa34 qa1 qa5 qa6 qa7 qa14 qa15 qa16 qa17 qa22 qa3 qa13 qa29);have HOFb:=h_ (fun W=>Zpn cb HSB.out.size xb0 xb2 xb23 xb24 xb34 xb1 xb5 xb6 xb7 xb14 xb15 xb16 xb17 xb22 xb3 xb13 xb29 W qb0 qb2 qb23 qb24 qb34 qb1 qb5 qb6 qb7 qb14 qb15 qb16 qb17 qb22 qb3 qb13 qb29);clear qa0 qb0 qa2 qb2 qa23 qb23 qa24 qb24 qa34 qb34 qa1 qb1 qa5 qb5 qa6 qb6 qa7 qb7 qa14 qb14 qa15 qb15 qa16 qb16 qa17 qb17 qa22 qb22 qa3 qb3 qa13 qb13 qa29 qb29;go_enter func16,ntmps16;go_upto_region 1 with fail
 rw [<-HW2.out];clear HW2;have hp:=HR.out;obtain ⟨xa4,oa4,pa4,qa4,ra4,la4,ea4⟩:=Zu0 HSA.out 4 HTA.out;rw [ea4] at hp;clear ea4;obtain ⟨xb4,ob4,pb4,qb4,rb4,lb4,eb4⟩:=Zu0 HSB.out 4 HTB.out;rw [eb4] at hp;clear eb4;obtain ⟨t4,ht4⟩:∃t,decide (xa4=xb4)=t:=⟨_,rfl⟩;obtain ⟨xa19,oa19,pa19,qa19,ra19,la19,ea19⟩:=Zu1 HSA.out 19 HTA.out;rw [ea19] at hp;clear ea19;obtain ⟨xb19,ob19,pb19,qb19,rb19,lb19,eb19⟩:=Zu1 HSB.out 19 HTB.out;rw [eb19] at hp;clear eb19;obtain ⟨t19,ht19⟩:∃t,decide (xa19=xb19)=t:=⟨_,rfl⟩;obtain ⟨xa8,oa8,pa8,za8,qa8,ra8,la8,ea8⟩:=ZdS HSA.out 8 HTA.out;rw [ea8] at hp;clear ea8;obtain ⟨xb8,ob8,pb8,zb8,qb8,rb8,lb8,eb8⟩:=ZdS HSB.out 8 HTB.out;rw [eb8] at hp;clear eb8;obtain ⟨t8,ht8⟩:∃t,decide (xa8=xb8)=t:=⟨_,rfl⟩;obtain ⟨xa9,oa9,pa9,za9,qa9,ra9,la9,ea9⟩:=ZdS HSA.out 9 HTA.out;rw [ea9] at hp;clear ea9;obtain ⟨xb9,ob9,pb9,zb9,qb9,rb9,lb9,eb9⟩:=ZdS HSB.out 9 HTB.out;rw [eb9] at hp;clear eb9;obtain ⟨t9,ht9⟩:∃t,decide (xa9=xb9)=t:=⟨_,rfl⟩;obtain ⟨xa10,oa10,pa10,za10,qa10,ra10,la10,ea10⟩:=ZdS HSA.out 10 HTA.out;rw [ea10] at hp;clear ea10;obtain ⟨xb10,ob10,pb10,zb10,qb10,rb10,lb10,eb10⟩:=ZdS HSB.out 10 HTB.out;rw [eb10] at hp;clear eb10;obtain ⟨t10,ht10⟩:∃t,decide (xa10=xb10)=t:=⟨_,rfl⟩;obtain ⟨xa11,oa11,pa11,za11,qa11,ra11,la11,ea11⟩:=ZdS HSA.out 11 HTA.out;rw [ea11] at hp;clear ea11;obtain ⟨xb11,ob11,pb11,zb11,qb11,rb11,lb11,eb11⟩:=ZdS HSB.out 11 HTB.out;rw [eb11] at hp;clear eb11;obtain ⟨t11,ht11⟩:∃t,decide (xa11=xb11)=t:=⟨_,rfl⟩;obtain ⟨xa12,oa12,pa12,za12,qa12,ra12,la12,ea12⟩:=ZdS HSA.out 12 HTA.out;rw [ea12] at hp;clear ea12;obtain ⟨xb12,ob12,pb12,zb12,qb12,rb12,lb12,eb12⟩:=ZdS HSB.out 12 HTB.out;rw [eb12] at hp;clear eb12;obtain ⟨t12,ht12⟩:∃t,decide (xa12=xb12)=t:=⟨_,rfl⟩;obtain ⟨xa18,oa18,pa18,qa18,ra18,la18,ea18⟩:=Zd0 HSA.out 18 HTA.out;rw [ea18] at hp;clear ea18;obtain ⟨xb18,ob18,pb18,qb18,rb18,lb18,eb18⟩:=Zd0 HSB.out 18 HTB.out;rw [eb18] at hp;clear eb18;obtain ⟨t18,ht18⟩:∃t,decide (xa18=xb18)=t:=⟨_,rfl⟩;obtain ⟨xa21,oa21,pa21,qa21,ra21,la21,ea21⟩:=Zd0 HSA.out 21 HTA.out;rw [ea21] at hp;clear ea21;obtain ⟨xb21,ob21,pb21,qb21,rb21,lb21,eb21⟩:=Zd0 HSB.out 21 HTB.out;rw [eb21] at hp;clear eb21;obtain ⟨t21,ht21⟩:∃t,decide (xa21=xb21)=t:=⟨_,rfl⟩;obtain ⟨xa25,oa25,pa25,qa25,ra25,la25,ea25⟩:=Zd0 HSA.out 25 HTA.out;rw [ea25] at hp;clear ea25;obtain ⟨xb25,ob25,pb25,qb25,rb25,lb25,eb25⟩:=Zd0 HSB.out 25 HTB.out;rw [eb25] at hp;clear eb25;obtain ⟨t25,ht25⟩:∃t,decide (xa25=xb25)=t:=⟨_,rfl⟩;obtain ⟨xa26,oa26,pa26,qa26,ra26,la26,ea26⟩:=Zd0 HSA.out 26 HTA.out;rw [ea26] at hp;clear ea26;obtain ⟨xb26,ob26,pb26,qb26,rb26,lb26,eb26⟩:=Zd0 HSB.out 26 HTB.out;rw [eb26] at hp;clear eb26;obtain ⟨t26,ht26⟩:∃t,decide (xa26=xb26)=t:=⟨_,rfl⟩;obtain ⟨xa27,oa27,pa27,qa27,ra27,la27,ea27⟩:=Zd0 HSA.out 27 HTA.out;rw [ea27] at hp;clear ea27;obtain ⟨xb27,ob27,pb27,qb27,rb27,lb27,eb27⟩:=Zd0 HSB.out 27 HTB.out;rw [eb27] at hp;clear eb27;obtain ⟨t27,ht27⟩:∃t,decide (xa27=xb27)=t:=⟨_,rfl⟩;obtain ⟨xa20,oa20,pa20,qa20,ra20,la20,ea20⟩:=ZcL HSA.out 20 HTA.out;rw [ea20] at hp;clear ea20;obtain ⟨xb20,ob20,pb20,qb20,rb20,lb20,eb20⟩:=ZcL HSB.out 20 HTB.out;rw [eb20] at hp;clear eb20;obtain ⟨t20,ht20⟩:∃t,Zal xa20 xb20=t:=⟨_,rfl⟩;obtain ⟨xa28,oa28,pa28,qa28,ra28,la28,ea28⟩:=ZcL HSA.out 28 HTA.out;rw [ea28] at hp;clear ea28;obtain ⟨xb28,ob28,pb28,qb28,rb28,lb28,eb28⟩:=ZcL HSB.out 28 HTB.out;rw [eb28] at hp;clear eb28;obtain ⟨t28,ht28⟩:∃t,Zal xa28 xb28=t:=⟨_,rfl⟩;obtain ⟨xa30,oa30,pa30,qa30,ra30,la30,ea30⟩:=ZcL HSA.out 30 HTA.out;rw [ea30] at hp;clear ea30;obtain ⟨xb30,ob30,pb30,qb30,rb30,lb30,eb30⟩:=ZcL HSB.out 30 HTB.out;rw [eb30] at hp;clear eb30;obtain ⟨t30,ht30⟩:∃t,Zal xa30 xb30=t:=⟨_,rfl⟩;obtain ⟨xa31,oa31,pa31,qa31,ra31,la31,ea31⟩:=ZcL HSA.out 31 HTA.out;rw [ea31] at hp;clear ea31;obtain ⟨xb31,ob31,pb31,qb31,rb31,lb31,eb31⟩:=ZcL HSB.out 31 HTB.out;rw [eb31] at hp;clear eb31;obtain ⟨t31,ht31⟩:∃t,Zal xa31 xb31=t:=⟨_,rfl⟩;obtain ⟨xa32,oa32,pa32,qa32,ra32,la32,ea32⟩:=ZcL HSA.out 32 HTA.out;rw [ea32] at hp;clear ea32;obtain ⟨xb32,ob32,pb32,qb32,rb32,lb32,eb32⟩:=ZcL HSB.out 32 HTB.out;rw [eb32] at hp;clear eb32;obtain ⟨t32,ht32⟩:∃t,Zal xa32 xb32=t:=⟨_,rfl⟩;obtain ⟨xa33,oa33,pa33,qa33,ra33,la33,ea33⟩:=ZcL HSA.out 33 HTA.out;rw [ea33] at hp;clear ea33;obtain ⟨xb33,ob33,pb33,qb33,rb33,lb33,eb33⟩:=ZcL HSB.out 33 HTB.out;rw [eb33] at hp;clear eb33;obtain ⟨t33,ht33⟩:∃t,Zal xa33 xb33=t:=⟨_,rfl⟩;simp only [Ztm,Zs6,Zsu,Zs8,Zs3,ht4,ht19,ht8,ht9,ht10,ht11,ht12,ht18,ht21,ht25,ht26,ht27,ht20,ht28,ht30,ht31,ht32,ht33] at hp;obtain ⟨q0,hq0⟩:∃q,pb=q:=⟨_,rfl⟩;rw [hq0] at hp HPB;obtain ⟨q1,hq1⟩:∃q,(q0&&t4)=q:=⟨_,rfl⟩;rw [hq1] at hp;obtain ⟨q2,hq2⟩:∃q,(q1&&t19)=q:=⟨_,rfl⟩;rw [hq2] at hp;obtain ⟨q3,hq3⟩:∃q,(q2&&t8)=q:=⟨_,rfl⟩;rw [hq3] at hp;obtain ⟨q4,hq4⟩:∃q,(q3&&t9)=q:=⟨_,rfl⟩;rw [hq4] at hp;obtain ⟨q5,hq5⟩:∃q,(q4&&t10)=q:=⟨_,rfl⟩;rw [hq5] at hp;obtain ⟨q6,hq6⟩:∃q,(q5&&t11)=q:=⟨_,rfl⟩;rw [hq6] at hp;obtain ⟨q7,hq7⟩:∃q,(q6&&t12)=q:=⟨_,rfl⟩;rw [hq7] at hp;obtain ⟨q8,hq8⟩:∃q,(q7&&t18)=q:=⟨_,rfl⟩;rw [hq8] at hp;obtain ⟨q9,hq9⟩:∃q,(q8&&t21)=q:=⟨_,rfl⟩;rw [hq9] at hp;obtain ⟨q10,hq10⟩:∃q,(q9&&t25)=q:=⟨_,rfl⟩;rw [hq10] at hp;obtain ⟨q11,hq11⟩:∃q,(q10&&t26)=q:=⟨_,rfl⟩;rw [hq11] at hp;obtain ⟨q12,hq12⟩:∃q,(q11&&t27)=q:=⟨_,rfl⟩;rw [hq12] at hp;obtain ⟨q13,hq13⟩:∃q,(q12&&t20)=q:=⟨_,rfl⟩;rw [hq13] at hp;obtain ⟨q14,hq14⟩:∃q,(q13&&t28)=q:=⟨_,rfl⟩;rw [hq14] at hp;obtain ⟨q15,hq15⟩:∃q,(q14&&t30)=q:=⟨_,rfl⟩;rw [hq15] at hp;obtain ⟨q16,hq16⟩:∃q,(q15&&t31)=q:=⟨_,rfl⟩;rw [hq16] at hp;obtain ⟨q17,hq17⟩:∃q,(q16&&t32)=q:=⟨_,rfl⟩;rw [hq17] at hp;obtain ⟨q18,hq18⟩:∃q,(q17&&t33)=q:=⟨_,rfl⟩;rw [hq18] at hp;let vals:List Value:=[.agg ca,.agg #[.string ⟨xa0.toArray⟩,.string ⟨xa2.toArray⟩,.string ⟨xa23.toArray⟩,.string ⟨xa24.toArray⟩,.string ⟨xa34.toArray⟩,.int .i64 xa1,.int .i64 xa5,.int .i64 xa6,.int .i64 xa7,.int .i64 xa14,.int .i64 xa15,.int .i64 xa16,.int .i64 xa17,.int .i64 xa22,.bool xa3,.bool xa13,.bool xa29],.agg cb,.agg #[.string ⟨xb0.toArray⟩,.string ⟨xb2.toArray⟩,.string ⟨xb23.toArray⟩,.string ⟨xb24.toArray⟩,.string ⟨xb34.toArray⟩,.int .i64 xb1,.int .i64 xb5,.int .i64 xb6,.int .i64 xb7,.int .i64 xb14,.int .i64 xb15,.int .i64 xb16,.int .i64 xb17,.int .i64 xb22,.bool xb3,.bool xb13,.bool xb29],.bool q0,.bool q0,if q0 then .pointer (some ⟨w.heap.size,4,none⟩) else undef,if q0 then .slice oa4 xa4.length pa4 else undef,if q0 then .pointer (some ⟨w.heap.size+1,4,none⟩) else undef,if q0 then .slice ob4 xb4.length pb4 else undef,if q0 then .bool t4 else undef,.bool (q0&&t4),.bool (q0&&t4),if q1 then .pointer (some ⟨w.heap.size,19,none⟩) else undef,if q1 then .slice oa19 xa19.length pa19 else undef,if q1 then .pointer (some ⟨w.heap.size+1,19,none⟩) else undef,if q1 then .slice ob19 xb19.length pb19 else undef,if q1 then .bool t19 else undef,.bool (q1&&t19),.bool (q1&&t19),if q2 then .pointer (some ⟨w.heap.size,8,none⟩) else undef,if q2 then .slice oa8 xa8.length pa8 else undef,if q2 then .pointer (some ⟨w.heap.size+1,8,none⟩) else undef,if q2 then .slice ob8 xb8.length pb8 else undef,if q2 then .bool t8 else undef,.bool (q2&&t8),.bool (q2&&t8),if q3 then .pointer (some ⟨w.heap.size,9,none⟩) else undef,if q3 then .slice oa9 xa9.length pa9 else undef,if q3 then .pointer (some ⟨w.heap.size+1,9,none⟩) else undef,if q3 then .slice ob9 xb9.length pb9 else undef,if q3 then .bool t9 else undef,.bool (q3&&t9),.bool (q3&&t9),if q4 then .pointer (some ⟨w.heap.size,10,none⟩) else undef,if q4 then .slice oa10 xa10.length pa10 else undef,if q4 then .pointer (some ⟨w.heap.size+1,10,none⟩) else undef,if q4 then .slice ob10 xb10.length pb10 else undef,if q4 then .bool t10 else undef,.bool (q4&&t10),.bool (q4&&t10),if q5 then .pointer (some ⟨w.heap.size,11,none⟩) else undef,if q5 then .slice oa11 xa11.length pa11 else undef,if q5 then .pointer (some ⟨w.heap.size+1,11,none⟩) else undef,if q5 then .slice ob11 xb11.length pb11 else undef,if q5 then .bool t11 else undef,.bool (q5&&t11),.bool (q5&&t11),if q6 then .pointer (some ⟨w.heap.size,12,none⟩) else undef,if q6 then .slice oa12 xa12.length pa12 else undef,if q6 then .pointer (some ⟨w.heap.size+1,12,none⟩) else undef,if q6 then .slice ob12 xb12.length pb12 else undef,if q6 then .bool t12 else undef,.bool (q6&&t12),.bool (q6&&t12),if q7 then .pointer (some ⟨w.heap.size,18,none⟩) else undef,if q7 then .slice oa18 xa18.length pa18 else undef,if q7 then .pointer (some ⟨w.heap.size+1,18,none⟩) else undef,if q7 then .slice ob18 xb18.length pb18 else undef,if q7 then .bool t18 else undef,.bool (q7&&t18),.bool (q7&&t18),if q8 then .pointer (some ⟨w.heap.size,21,none⟩) else undef,if q8 then .slice oa21 xa21.length pa21 else undef,if q8 then .pointer (some ⟨w.heap.size+1,21,none⟩) else undef,if q8 then .slice ob21 xb21.length pb21 else undef,if q8 then .bool t21 else undef,.bool (q8&&t21),.bool (q8&&t21),if q9 then .pointer (some ⟨w.heap.size,25,none⟩) else undef,if q9 then .slice oa25 xa25.length pa25 else undef,if q9 then .pointer (some ⟨w.heap.size+1,25,none⟩) else undef,if q9 then .slice ob25 xb25.length pb25 else undef,if q9 then .bool t25 else undef,.bool (q9&&t25),.bool (q9&&t25),if q10 then .pointer (some ⟨w.heap.size,26,none⟩) else undef,if q10 then .slice oa26 xa26.length pa26 else undef,if q10 then .pointer (some ⟨w.heap.size+1,26,none⟩) else undef,if q10 then .slice ob26 xb26.length pb26 else undef,if q10 then .bool t26 else undef,.bool (q10&&t26),.bool (q10&&t26),if q11 then .pointer (some ⟨w.heap.size,27,none⟩) else undef,if q11 then .slice oa27 xa27.length pa27 else undef,if q11 then .pointer (some ⟨w.heap.size+1,27,none⟩) else undef,if q11 then .slice ob27 xb27.length pb27 else undef,if q11 then .bool t27 else undef,.bool (q11&&t27),.bool (q11&&t27),if q12 then .pointer (some ⟨w.heap.size,20,none⟩) else undef,if q12 then .slice oa20 xa20.length pa20 else undef,if q12 then .pointer (some ⟨w.heap.size+1,20,none⟩) else undef,if q12 then .slice ob20 xb20.length pb20 else undef,if q12 then .bool t20 else undef,.bool (q12&&t20),.bool (q12&&t20),if q13 then .pointer (some ⟨w.heap.size,28,none⟩) else undef,if q13 then .slice oa28 xa28.length pa28 else undef,if q13 then .pointer (some ⟨w.heap.size+1,28,none⟩) else undef,if q13 then .slice ob28 xb28.length pb28 else undef,if q13 then .bool t28 else undef,.bool (q13&&t28),.bool (q13&&t28),if q14 then .pointer (some ⟨w.heap.size,30,none⟩) else undef,if q14 then .slice oa30 xa30.length pa30 else undef,if q14 then .pointer (some ⟨w.heap.size+1,30,none⟩) else undef,if q14 then .slice ob30 xb30.length pb30 else undef,if q14 then .bool t30 else undef,.bool (q14&&t30),.bool (q14&&t30),if q15 then .pointer (some ⟨w.heap.size,31,none⟩) else undef,if q15 then .slice oa31 xa31.length pa31 else undef,if q15 then .pointer (some ⟨w.heap.size+1,31,none⟩) else undef,if q15 then .slice ob31 xb31.length pb31 else undef,if q15 then .bool t31 else undef,.bool (q15&&t31),.bool (q15&&t31),if q16 then .pointer (some ⟨w.heap.size,32,none⟩) else undef,if q16 then .slice oa32 xa32.length pa32 else undef,if q16 then .pointer (some ⟨w.heap.size+1,32,none⟩) else undef,if q16 then .slice ob32 xb32.length pb32 else undef,if q16 then .bool t32 else undef,.bool (q16&&t32),.bool (q16&&t32),if q17 then .pointer (some ⟨w.heap.size,33,none⟩) else undef,if q17 then .slice oa33 xa33.length pa33 else undef,if q17 then .pointer (some ⟨w.heap.size+1,33,none⟩) else undef,if q17 then .slice ob33 xb33.length pb33 else undef,if q17 then .bool t33 else undef,.bool (q17&&t33),.bool (q17&&t33)]
 refine ZcW (N:=136) (fun a=>a.tmps[2]?=some (.pointer (some ⟨w.heap.size,0,none⟩))/\a.tmps[3]?=some (.pointer (some ⟨w.heap.size+1,0,none⟩))) (fun W=>Below w2.heap.size w2 W) (fun i=>vals.getD i undef) [5,6,7,8,9,10,11,12,13,14,15,16,17,18,19,20,21,22,23,24,25,26,27,28,29,30,31,32,33,34,35,36,37,38,39,40,41,42,43,44,45,46,47,48,49,50,51,52,53,54,55,56,57,58,59,60,61,62,63,64,65,66,67,68,69,70,71,72,73,74,75,76,77,78,79,80,81,82,83,84,85,86,87,88,89,90,91,92,93,94,95,96,97,98,99,100,101,102,103,104,105,106,107,108,109,110,111,112,113,114,115,116,117,118,119,120,121,122,123,124,125,126,127,128,129,130,131,132,133,134,135,4] k_ k_ rfl (Ze ⟨1,rfl⟩) (fun a' h=>⟨(h 2 (ZgO k_)).trans rfl,(h 3 (ZgO k_)).trans rfl⟩) ?_ ?_
 ·refine Zpq ?_
  simp only [List.append_eq,c12_,List.nil_append];refine ZO (Yf rfl fun a W hS hF hs=>?_) ?_
  ·exact JX 28 (.tmp 2) w.heap.size ca 28 _ rfl (Zi hF.1).1 (Za HGA.out hS) rfl rfl HCA.out ⟨rfl,hS⟩
  refine ZO (Yf rfl fun a W hS hF hs=>?_) ?_
  ·have s5:a.tmps[5]?=some (.agg ca):=hs 0 _ 5 ⟨⟨0,.data⟩,s_,rfl,rfl⟩ rfl rfl
   exact Yo (by obtain ⟨y0,z0⟩:=Zi s5;clear hs hS hF;go_simp) (HOFa.out W) (by rintro e w' ⟨rfl,hb⟩;exact ⟨rfl,rfl,hS.trans (hb.mono hS.size)⟩)
  refine ZO (Yf rfl fun a W hS hF hs=>?_) ?_
  ·exact JX 28 (.tmp 3) (w.heap.size+1) cb 28 _ rfl (Zi hF.2).1 (Za HGB.out hS) rfl rfl HCB.out ⟨rfl,hS⟩
  refine ZO (Yf rfl fun a W hS hF hs=>?_) ?_
  ·have s7:a.tmps[7]?=some (.agg cb):=hs 2 _ 7 ⟨⟨2,.data⟩,s_,rfl,rfl⟩ rfl rfl
   exact Yo (by obtain ⟨y0,z0⟩:=Zi s7;clear hs hS hF;go_simp) (HOFb.out W) (by rintro e w' ⟨rfl,hb⟩;exact ⟨rfl,rfl,hS.trans (hb.mono hS.size)⟩)
  refine ZO (Yf rfl fun a W hS hF hs=>?_) ?_
  ·have s6:a.tmps[6]?=some (.agg #[.string ⟨xa0.toArray⟩,.string ⟨xa2.toArray⟩,.string ⟨xa23.toArray⟩,.string ⟨xa24.toArray⟩,.string ⟨xa34.toArray⟩,.int .i64 xa1,.int .i64 xa5,.int .i64 xa6,.int .i64 xa7,.int .i64 xa14,.int .i64 xa15,.int .i64 xa16,.int .i64 xa17,.int .i64 xa22,.bool xa3,.bool xa13,.bool xa29]):=hs 1 _ 6 ⟨⟨1,.data⟩,s_,rfl,rfl⟩ rfl rfl
   have s8:a.tmps[8]?=some (.agg #[.string ⟨xb0.toArray⟩,.string ⟨xb2.toArray⟩,.string ⟨xb23.toArray⟩,.string ⟨xb24.toArray⟩,.string ⟨xb34.toArray⟩,.int .i64 xb1,.int .i64 xb5,.int .i64 xb6,.int .i64 xb7,.int .i64 xb14,.int .i64 xb15,.int .i64 xb16,.int .i64 xb17,.int .i64 xb22,.bool xb3,.bool xb13,.bool xb29]):=hs 3 _ 8 ⟨⟨3,.data⟩,s_,rfl,rfl⟩ rfl rfl;have heq:=Zov xa0 xa2 xa23 xa24 xa34 xa1 xa5 xa6 xa7 xa14 xa15 xa16 xa17 xa22 xa3 xa13 xa29 xb0 xb2 xb23 xb24 xb34 xb1 xb5 xb6 xb7 xb14 xb15 xb16 xb17 xb22 xb3 xb13 xb29 W q0 HPB.out;exact ZA (.bool q0) (ZlU rfl (Zi s6).1 (Zi s8).1 heq) ⟨rfl,hS⟩
  refine ZO (Yf rfl fun a W hS hF hs=>?_) ?_
  ·have s9:a.tmps[9]?=some (.bool q0):=hs 4 _ 9 ⟨⟨4,.data⟩,s_,rfl,rfl⟩ rfl rfl
   exact ZA (.bool q0) (by obtain ⟨y0,z0⟩:=Zi s9;clear hs hS hF;go_simp) ⟨rfl,hS⟩
  refine YX (Ye _ 6 5 10 17 q0 t4 (.pointer (some ⟨w.heap.size,4,none⟩)) (.pointer (some ⟨w.heap.size+1,4,none⟩)) (.slice oa4 xa4.length pa4) (.slice ob4 xb4.length pb4) (fun a h=>h) (rfl) (fun a' W hI h=>by have kk:=((rd (Za HGA.out hI)).1 4).trans qa4;obtain ⟨y0,z0⟩:=Zi h;go_simp) (fun a' W hI h=>by have kk:=((rd (Za HGB.out hI)).1 4).trans qb4;obtain ⟨y0,z0⟩:=Zi h;go_simp) (fun a' W K hI h1 h2 hK=>Yo n4_ (Zob _ _ pa4 pb4 xa4 xb4 W (ra4.below hI) (rb4.below hI) la4 lb4 t4 ht4) (by rintro e w' ⟨rfl,n,rfl⟩;exact ⟨by first|rfl|rw [ht4],hK _ (hI.trans (Ze ⟨_,rfl⟩))⟩))) ?_;refine YX (Ye _ 13 12 17 24 q1 t19 (.pointer (some ⟨w.heap.size,19,none⟩)) (.pointer (some ⟨w.heap.size+1,19,none⟩)) (.slice oa19 xa19.length pa19) (.slice ob19 xb19.length pb19) (fun a h=>h) (congrArg Value.bool hq1) (fun a' W hI h=>by have kk:=((rd (Za HGA.out hI)).1 19).trans qa19;obtain ⟨y0,z0⟩:=Zi h;go_simp) (fun a' W hI h=>by have kk:=((rd (Za HGB.out hI)).1 19).trans qb19;obtain ⟨y0,z0⟩:=Zi h;go_simp) (fun a' W K hI h1 h2 hK=>Yo n4_ (ZmV _ _ pa19 pb19 xa19 xb19 W (ra19.below hI) (rb19.below hI) la19 lb19 t19 ht19) (by rintro e w' ⟨rfl,n,rfl⟩;exact ⟨by first|rfl|rw [ht19],hK _ (hI.trans (Ze ⟨_,rfl⟩))⟩))) ?_;refine YX (Ye _ 20 19 24 31 q2 t8 (.pointer (some ⟨w.heap.size,8,none⟩)) (.pointer (some ⟨w.heap.size+1,8,none⟩)) (.slice oa8 xa8.length pa8) (.slice ob8 xb8.length pb8) (fun a h=>h) (congrArg Value.bool hq2) (fun a' W hI h=>by have kk:=((rd (Za HGA.out hI)).1 8).trans qa8;obtain ⟨y0,z0⟩:=Zi h;go_simp) (fun a' W hI h=>by have kk:=((rd (Za HGB.out hI)).1 8).trans qb8;obtain ⟨y0,z0⟩:=Zi h;go_simp) (fun a' W K hI h1 h2 hK=>Yo n4_ (ZbY _ _ pa8 pb8 _ _ xa8 xb8 W (JU hI ra8) (JU hI rb8) la8 lb8 t8 ht8) n21_)) ?_;refine YX (Ye _ 27 26 31 38 q3 t9 (.pointer (some ⟨w.heap.size,9,none⟩)) (.pointer (some ⟨w.heap.size+1,9,none⟩)) (.slice oa9 xa9.length pa9) (.slice ob9 xb9.length pb9) (fun a h=>h) (congrArg Value.bool hq3) (fun a' W hI h=>by have kk:=((rd (Za HGA.out hI)).1 9).trans qa9;obtain ⟨y0,z0⟩:=Zi h;go_simp) (fun a' W hI h=>by have kk:=((rd (Za HGB.out hI)).1 9).trans qb9;obtain ⟨y0,z0⟩:=Zi h;go_simp) (fun a' W K hI h1 h2 hK=>Yo n4_ (ZbY _ _ pa9 pb9 _ _ xa9 xb9 W (JU hI ra9) (JU hI rb9) la9 lb9 t9 ht9) n21_)) ?_;refine YX (Ye _ 34 33 38 45 q4 t10 (.pointer (some ⟨w.heap.size,10,none⟩)) (.pointer (some ⟨w.heap.size+1,10,none⟩)) (.slice oa10 xa10.length pa10) (.slice ob10 xb10.length pb10) (fun a h=>h) (congrArg Value.bool hq4) (fun a' W hI h=>by have kk:=((rd (Za HGA.out hI)).1 10).trans qa10;obtain ⟨y0,z0⟩:=Zi h;go_simp) (fun a' W hI h=>by have kk:=((rd (Za HGB.out hI)).1 10).trans qb10;obtain ⟨y0,z0⟩:=Zi h;go_simp) (fun a' W K hI h1 h2 hK=>Yo n4_ (ZbY _ _ pa10 pb10 _ _ xa10 xb10 W (JU hI ra10) (JU hI rb10) la10 lb10 t10 ht10) n21_)) ?_;refine YX (Ye _ 41 40 45 52 q5 t11 (.pointer (some ⟨w.heap.size,11,none⟩)) (.pointer (some ⟨w.heap.size+1,11,none⟩)) (.slice oa11 xa11.length pa11) (.slice ob11 xb11.length pb11) (fun a h=>h) (congrArg Value.bool hq5) (fun a' W hI h=>by have kk:=((rd (Za HGA.out hI)).1 11).trans qa11;obtain ⟨y0,z0⟩:=Zi h;go_simp) (fun a' W hI h=>by have kk:=((rd (Za HGB.out hI)).1 11).trans qb11;obtain ⟨y0,z0⟩:=Zi h;go_simp) (fun a' W K hI h1 h2 hK=>Yo n4_ (ZbY _ _ pa11 pb11 _ _ xa11 xb11 W (JU hI ra11) (JU hI rb11) la11 lb11 t11 ht11) n21_)) ?_;refine YX (Ye _ 48 47 52 59 q6 t12 (.pointer (some ⟨w.heap.size,12,none⟩)) (.pointer (some ⟨w.heap.size+1,12,none⟩)) (.slice oa12 xa12.length pa12) (.slice ob12 xb12.length pb12) (fun a h=>h) (congrArg Value.bool hq6) (fun a' W hI h=>by have kk:=((rd (Za HGA.out hI)).1 12).trans qa12;obtain ⟨y0,z0⟩:=Zi h;go_simp) (fun a' W hI h=>by have kk:=((rd (Za HGB.out hI)).1 12).trans qb12;obtain ⟨y0,z0⟩:=Zi h;go_simp) (fun a' W K hI h1 h2 hK=>Yo n4_ (ZbY _ _ pa12 pb12 _ _ xa12 xb12 W (JU hI ra12) (JU hI rb12) la12 lb12 t12 ht12) n21_)) ?_;refine YX (Ye _ 55 54 59 66 q7 t18 (.pointer (some ⟨w.heap.size,18,none⟩)) (.pointer (some ⟨w.heap.size+1,18,none⟩)) (.slice oa18 xa18.length pa18) (.slice ob18 xb18.length pb18) (fun a h=>h) (congrArg Value.bool hq7) (fun a' W hI h=>by have kk:=((rd (Za HGA.out hI)).1 18).trans qa18;obtain ⟨y0,z0⟩:=Zi h;go_simp) (fun a' W hI h=>by have kk:=((rd (Za HGB.out hI)).1 18).trans qb18;obtain ⟨y0,z0⟩:=Zi h;go_simp) (fun a' W K hI h1 h2 hK=>Yo n4_ (ZaT _ _ pa18 pb18 xa18 xb18 W (ra18.fr (M:=fun _=>False) (Fr.of_below hI _) (fun _ _ _ e=>e)) (rb18.fr (M:=fun _=>False) (Fr.of_below hI _) (fun _ _ _ e=>e)) la18 lb18 t18 ht18) (by rintro e w' ⟨rfl,n,rfl⟩;exact ⟨by first|rfl|rw [ht18],hK _ (hI.trans (Ze ⟨_,rfl⟩))⟩))) ?_;refine YX (Ye _ 62 61 66 73 q8 t21 (.pointer (some ⟨w.heap.size,21,none⟩)) (.pointer (some ⟨w.heap.size+1,21,none⟩)) (.slice oa21 xa21.length pa21) (.slice ob21 xb21.length pb21) (fun a h=>h) (congrArg Value.bool hq8) (fun a' W hI h=>by have kk:=((rd (Za HGA.out hI)).1 21).trans qa21;obtain ⟨y0,z0⟩:=Zi h;go_simp) (fun a' W hI h=>by have kk:=((rd (Za HGB.out hI)).1 21).trans qb21;obtain ⟨y0,z0⟩:=Zi h;go_simp) (fun a' W K hI h1 h2 hK=>Yo n4_ (ZaT _ _ pa21 pb21 xa21 xb21 W (ra21.fr (M:=fun _=>False) (Fr.of_below hI _) (fun _ _ _ e=>e)) (rb21.fr (M:=fun _=>False) (Fr.of_below hI _) (fun _ _ _ e=>e)) la21 lb21 t21 ht21) (by rintro e w' ⟨rfl,n,rfl⟩;exact ⟨by first|rfl|rw [ht21],hK _ (hI.trans (Ze ⟨_,rfl⟩))⟩))) ?_;refine YX (Ye _ 69 68 73 80 q9 t25 (.pointer (some ⟨w.heap.size,25,none⟩)) (.pointer (some ⟨w.heap.size+1,25,none⟩)) (.slice oa25 xa25.length pa25) (.slice ob25 xb25.length pb25) (fun a h=>h) (congrArg Value.bool hq9) (fun a' W hI h=>by have kk:=((rd (Za HGA.out hI)).1 25).trans qa25;obtain ⟨y0,z0⟩:=Zi h;go_simp) (fun a' W hI h=>by have kk:=((rd (Za HGB.out hI)).1 25).trans qb25;obtain ⟨y0,z0⟩:=Zi h;go_simp) (fun a' W K hI h1 h2 hK=>Yo n4_ (ZaT _ _ pa25 pb25 xa25 xb25 W (ra25.fr (M:=fun _=>False) (Fr.of_below hI _) (fun _ _ _ e=>e)) (rb25.fr (M:=fun _=>False) (Fr.of_below hI _) (fun _ _ _ e=>e)) la25 lb25 t25 ht25) (by rintro e w' ⟨rfl,n,rfl⟩;exact ⟨by first|rfl|rw [ht25],hK _ (hI.trans (Ze ⟨_,rfl⟩))⟩))) ?_;refine YX (Ye _ 76 75 80 87 q10 t26 (.pointer (some ⟨w.heap.size,26,none⟩)) (.pointer (some ⟨w.heap.size+1,26,none⟩)) (.slice oa26 xa26.length pa26) (.slice ob26 xb26.length pb26) (fun a h=>h) (congrArg Value.bool hq10) (fun a' W hI h=>by have kk:=((rd (Za HGA.out hI)).1 26).trans qa26;obtain ⟨y0,z0⟩:=Zi h;go_simp) (fun a' W hI h=>by have kk:=((rd (Za HGB.out hI)).1 26).trans qb26;obtain ⟨y0,z0⟩:=Zi h;go_simp) (fun a' W K hI h1 h2 hK=>Yo n4_ (ZaT _ _ pa26 pb26 xa26 xb26 W (ra26.fr (M:=fun _=>False) (Fr.of_below hI _) (fun _ _ _ e=>e)) (rb26.fr (M:=fun _=>False) (Fr.of_below hI _) (fun _ _ _ e=>e)) la26 lb26 t26 ht26) (by rintro e w' ⟨rfl,n,rfl⟩;exact ⟨by first|rfl|rw [ht26],hK _ (hI.trans (Ze ⟨_,rfl⟩))⟩))) ?_
  refine YX (Ye _ 83 82 87 94 q11 t27 (.pointer (some ⟨w.heap.size,27,none⟩)) (.pointer (some ⟨w.heap.size+1,27,none⟩)) (.slice oa27 xa27.length pa27) (.slice ob27 xb27.length pb27) (fun a h=>h) (congrArg Value.bool hq11) (fun a' W hI h=>by have kk:=((rd (Za HGA.out hI)).1 27).trans qa27;obtain ⟨y0,z0⟩:=Zi h;go_simp) (fun a' W hI h=>by have kk:=((rd (Za HGB.out hI)).1 27).trans qb27;obtain ⟨y0,z0⟩:=Zi h;go_simp) (fun a' W K hI h1 h2 hK=>Yo n4_ (ZaT _ _ pa27 pb27 xa27 xb27 W (ra27.fr (M:=fun _=>False) (Fr.of_below hI _) (fun _ _ _ e=>e)) (rb27.fr (M:=fun _=>False) (Fr.of_below hI _) (fun _ _ _ e=>e)) la27 lb27 t27 ht27) (by rintro e w' ⟨rfl,n,rfl⟩;exact ⟨by first|rfl|rw [ht27],hK _ (hI.trans (Ze ⟨_,rfl⟩))⟩))) ?_;refine YX (Ye _ 90 89 94 101 q12 t20 (.pointer (some ⟨w.heap.size,20,none⟩)) (.pointer (some ⟨w.heap.size+1,20,none⟩)) (.slice oa20 xa20.length pa20) (.slice ob20 xb20.length pb20) (fun a h=>h) (congrArg Value.bool hq12) (fun a' W hI h=>by have kk:=((rd (Za HGA.out hI)).1 20).trans qa20;obtain ⟨y0,z0⟩:=Zi h;go_simp) (fun a' W hI h=>by have kk:=((rd (Za HGB.out hI)).1 20).trans qb20;obtain ⟨y0,z0⟩:=Zi h;go_simp) (fun a' W K hI h1 h2 hK=>Yo n4_ (Q6 _ _ pa20 pb20 xa20 xb20 W (ra20.below hI) (rb20.below hI) la20 lb20) (by rintro e w' ⟨rfl,n,rfl⟩;exact ⟨by first|rfl|rw [ht20],hK _ (hI.trans (Ze ⟨_,rfl⟩))⟩))) ?_;refine YX (Ye _ 97 96 101 108 q13 t28 (.pointer (some ⟨w.heap.size,28,none⟩)) (.pointer (some ⟨w.heap.size+1,28,none⟩)) (.slice oa28 xa28.length pa28) (.slice ob28 xb28.length pb28) (fun a h=>h) (congrArg Value.bool hq13) (fun a' W hI h=>by have kk:=((rd (Za HGA.out hI)).1 28).trans qa28;obtain ⟨y0,z0⟩:=Zi h;go_simp) (fun a' W hI h=>by have kk:=((rd (Za HGB.out hI)).1 28).trans qb28;obtain ⟨y0,z0⟩:=Zi h;go_simp) (fun a' W K hI h1 h2 hK=>Yo n4_ (Q6 _ _ pa28 pb28 xa28 xb28 W (ra28.below hI) (rb28.below hI) la28 lb28) (by rintro e w' ⟨rfl,n,rfl⟩;exact ⟨by first|rfl|rw [ht28],hK _ (hI.trans (Ze ⟨_,rfl⟩))⟩))) ?_;refine YX (Ye _ 104 103 108 115 q14 t30 (.pointer (some ⟨w.heap.size,30,none⟩)) (.pointer (some ⟨w.heap.size+1,30,none⟩)) (.slice oa30 xa30.length pa30) (.slice ob30 xb30.length pb30) (fun a h=>h) (congrArg Value.bool hq14) (fun a' W hI h=>by have kk:=((rd (Za HGA.out hI)).1 30).trans qa30;obtain ⟨y0,z0⟩:=Zi h;go_simp) (fun a' W hI h=>by have kk:=((rd (Za HGB.out hI)).1 30).trans qb30;obtain ⟨y0,z0⟩:=Zi h;go_simp) (fun a' W K hI h1 h2 hK=>Yo n4_ (Q6 _ _ pa30 pb30 xa30 xb30 W (ra30.below hI) (rb30.below hI) la30 lb30) (by rintro e w' ⟨rfl,n,rfl⟩;exact ⟨by first|rfl|rw [ht30],hK _ (hI.trans (Ze ⟨_,rfl⟩))⟩))) ?_;refine YX (Ye _ 111 110 115 122 q15 t31 (.pointer (some ⟨w.heap.size,31,none⟩)) (.pointer (some ⟨w.heap.size+1,31,none⟩)) (.slice oa31 xa31.length pa31) (.slice ob31 xb31.length pb31) (fun a h=>h) (congrArg Value.bool hq15) (fun a' W hI h=>by have kk:=((rd (Za HGA.out hI)).1 31).trans qa31;obtain ⟨y0,z0⟩:=Zi h;go_simp) (fun a' W hI h=>by have kk:=((rd (Za HGB.out hI)).1 31).trans qb31;obtain ⟨y0,z0⟩:=Zi h;go_simp) (fun a' W K hI h1 h2 hK=>Yo n4_ (Q6 _ _ pa31 pb31 xa31 xb31 W (ra31.below hI) (rb31.below hI) la31 lb31) (by rintro e w' ⟨rfl,n,rfl⟩;exact ⟨by first|rfl|rw [ht31],hK _ (hI.trans (Ze ⟨_,rfl⟩))⟩))) ?_;refine YX (Ye _ 118 117 122 129 q16 t32 (.pointer (some ⟨w.heap.size,32,none⟩)) (.pointer (some ⟨w.heap.size+1,32,none⟩)) (.slice oa32 xa32.length pa32) (.slice ob32 xb32.length pb32) (fun a h=>h) (congrArg Value.bool hq16) (fun a' W hI h=>by have kk:=((rd (Za HGA.out hI)).1 32).trans qa32;obtain ⟨y0,z0⟩:=Zi h;go_simp) (fun a' W hI h=>by have kk:=((rd (Za HGB.out hI)).1 32).trans qb32;obtain ⟨y0,z0⟩:=Zi h;go_simp) (fun a' W K hI h1 h2 hK=>Yo n4_ (Q6 _ _ pa32 pb32 xa32 xb32 W (ra32.below hI) (rb32.below hI) la32 lb32) (by rintro e w' ⟨rfl,n,rfl⟩;exact ⟨by first|rfl|rw [ht32],hK _ (hI.trans (Ze ⟨_,rfl⟩))⟩))) ?_;refine YX (Ye _ 125 124 129 4 q17 t33 (.pointer (some ⟨w.heap.size,33,none⟩)) (.pointer (some ⟨w.heap.size+1,33,none⟩)) (.slice oa33 xa33.length pa33) (.slice ob33 xb33.length pb33) (fun a h=>h) (congrArg Value.bool hq17) (fun a' W hI h=>by have kk:=((rd (Za HGA.out hI)).1 33).trans qa33;obtain ⟨y0,z0⟩:=Zi h;go_simp) (fun a' W hI h=>by have kk:=((rd (Za HGB.out hI)).1 33).trans qb33;obtain ⟨y0,z0⟩:=Zi h;go_simp) (fun a' W K hI h1 h2 hK=>Yo n4_ (Q6 _ _ pa33 pb33 xa33 xb33 W (ra33.below hI) (rb33.below hI) la33 lb33) (by rintro e w' ⟨rfl,n,rfl⟩;exact ⟨by first|rfl|rw [ht33],hK _ (hI.trans (Ze ⟨_,rfl⟩))⟩))) ?_;exact trivial
 ·intro a W hS hsz hdf _ hall
  have s4:=hall 131 _ 4 rfl rfl;have s4':a.tmps[4]?=some (.bool r):=s4.trans (congrArg (fun q=>some (Value.bool q)) (hq18.trans hp));have hge:a.tmps.getD 4 undef=.bool r:=(Zi s4').2;have HFF:=h_ (Below.more HB.out hS);simp only [Exit.then];go_wp2_with fail;refine bodyPost_ret (results_tmp rfl _ _ _) hdf ⟨by rw [hge],HFF.out⟩
theorem m141_{p:Prop}(h:p:=by simp only [List.foldl_cons,List.foldl_nil,s7,s8,sA_,sB_,sC_] at hform;rw [hform];have HB2:=h_ (HB.out.trans (hS.mono HB.out.size));clear hform s7 s8 hall hS;exact m155_):p:=h
theorem m142_{p:Prop}(h:p:=by simp only [List.foldl_cons,List.foldl_nil,s7,s8,sA_,sB_,sC_] at hform;rw [hform];have HB2:=h_ (HB.out.trans (h0.bel.mono HB.out.size));clear hform s7 s8 hI h0 e9 e10 hall;exact m155_):p:=h
theorem m143_{p:Prop}(h:p:=by simp only [List.append_eq,c12_,List.nil_append];(iterate 9 refine ZO stO ?_);exact trivial):p:=h
theorem m144_{p:Prop}(h:p:=by have f5:V 5=.int .i64 x:=h0.fact 5 d5 n22_;rw [f5] at s5;clear f5;have f7:V 7=.int .i64 y:=h0.fact 7 d7 n22_;rw [f7] at s7;clear f7;exact ZA (.bool q) (by obtain ⟨y0,z0⟩:=Zi s5;obtain ⟨y1,z1⟩:=Zi s7;clear h0 hB hI hdep;go_simp) ⟨_,rfl,rfl,.inl b_⟩):p:=h
theorem m145_{p:Prop}(h:p:=by (iterate 7 refine ZO stO ?_);exact trivial):p:=h
theorem m146_{p:Prop}(h:p:=by
  match j,h with
  |0,⟨b,e,h⟩=>exact ⟨b,e,Za h hb⟩
  |1,h=>exact h
  |2,h=>exact h
  |3,h=>exact h
  |4,h=>exact h
  |5,h=>exact h
  |6,h=>exact h
  |7,h=>exact h
  |8,h=>exact h
  |9,h=>exact h
  |10,h=>exact h
  |_+11,_=>exact trivial):p:=h
theorem m147_{p:Prop}(h:p:=by obtain rfl:=Option.some.inj ho;have s:a.tmps[3]?=some (.pointer (some ⟨w.heap.size,0,none⟩)):=(hI.at 3 k_).trans rfl;exact ZA (.pointer (some ⟨w.heap.size,14,none⟩)) n7_ ⟨_,rfl,rfl,.inl b_⟩):p:=h
theorem m148_{p:Prop}(h:p:=by obtain rfl:=Option.some.inj ho;have s:a.tmps[3]?=some (.pointer (some ⟨w.heap.size,0,none⟩)):=(hI.at 3 k_).trans rfl;exact ZA (.pointer (some ⟨w.heap.size,7,none⟩)) n7_ ⟨_,rfl,rfl,.inl b_⟩):p:=h
theorem m149_{p:Prop}(h:p:=by have f3:V 3=.string ⟨t.toArray⟩:=h0.fact 3 d3 n22_;rw [f3] at s3;clear f3;exact ZA (.string ⟨t.toArray⟩) n36_ ⟨_,rfl,rfl,.inl b_⟩):p:=h
theorem m150_{p:Prop}(h:p:=by rintro e w' ⟨rfl,rfl⟩;refine ⟨_,rfl,_,rfl,?_,.inl b_⟩;show Value.string _=Value.string ⟨t.toArray⟩;rw [HT.out]):p:=h
theorem m151_{p:Prop}(h:p:=by have f8:V 8=.bool q:=h0.fact 8 d8 n22_;rw [f8] at s8;clear f8;exact ZA (.bool q) n56_ ⟨_,rfl,rfl,.inl b_⟩):p:=h
theorem m152_{p:Prop}(h:p:=by exact ZA (.int .i64 y) (by obtain ⟨y0,z0⟩:=Zi s6;clear h0 hB hI hdep;go_simp) ⟨_,rfl,rfl,.inl b_⟩):p:=h
theorem m153_{p:Prop}(h:p:=by intro a W hS hform hall;have s7:a.tmps.getD 7 undef=.string ⟨t.toArray⟩:=Yc (hall 8 _ 7 rfl rfl);have s8:a.tmps.getD 8 undef=.bool q:=Yc (hall 9 _ 8 rfl rfl);exact m141_):p:=h
theorem m154_{p:Prop}(h:p:=by
  obtain ⟨hxa,hxb,hb0⟩:=YI us fs w;have HXA:=h_ hxa;have HXB:=h_ hxb;have HB:=h_ hb0;have HX:=h_ hx;have HY:=h_ hy;obtain ⟨q,hq,hq1,hq2⟩:=XJ x y (x);rw [hq2];clear hxa hxb hb0 hx hy hq2;go_enter func110,ntmps110;go_upto_region 29 with fail
  generalize (w.alloc (.cells us 28)).alloc (.cells fs 28)=w1 at HXA HXB HB⊢;refine XA w.heap.size (w.heap.size+1) [133,134,135,136,137,138,139,7,8] [.pointer (some ⟨w.heap.size,24,none⟩),.string ⟨x.toArray⟩,.pointer (some ⟨w.heap.size,24,none⟩),.string ⟨x.toArray⟩,.pointer (some ⟨w.heap.size+1,24,none⟩),.string ⟨y.toArray⟩,.bool q,.string ⟨x.toArray⟩,.bool q] ?_ ?_
  ·exact m143_
  ·exact m156_):p:=h
theorem m155_{p:Prop}(h:p:=by
  cases q with
  |true=>
   go_wp2_with fail;go_ret;unfold ZM;exact ⟨_,1,rfl,Z6 (heap_alloc_new _ _),l_,HB2.out.alloc HB2.out.size _⟩
  |false=>
   go_wp2_with fail;go_ret;unfold ZM;exact ⟨none,0,rfl,fun i hi=>absurd hi (Nat.not_lt_zero _),l_,HB2.out⟩):p:=h
theorem m156_{p:Prop}(h:p:=by intro a W hS hform hall;have s7:a.tmps.getD 7 undef=.string ⟨x.toArray⟩:=Yc (hall 7 _ 7 rfl rfl);have s8:a.tmps.getD 8 undef=.bool q:=Yc (hall 8 _ 8 rfl rfl);exact m141_):p:=h
def ZM(l:List Str)(w:World)(e:Ending)(w':World):Prop:=∃oa cap,e=.returned (.slice oa l.length cap)/\Zp w' oa l/\l.length<=cap/\Below w.heap.size w w'
theorem Zq0{ops:Array Oper}{a a':Act}(hs:a'.tmps.size=a.tmps.size)(hd:a'.defers=a.defers)(ho:∀k,(∀(i:Nat) (o:Oper),ops[i]?=some o->o.dst≠some k)->a'.tmps[k]?=a.tmps[k]?)(L:List Nat)
  (hL:(ops.all fun o=>match o.dst with|some d=>L.contains d|none=>true)=true):a'=⟨L.foldl (fun t k=>t.setIfInBounds k (a'.tmps.getD k undef)) a.tmps,a.defers⟩:=by
 obtain ⟨t,d⟩:=a';have hd:d=a.defers:=hd;subst hd;congr 1;obtain ⟨h1,h2⟩:=foldl_set (f:=fun k=>t.getD k undef) L a.tmps;apply Array.ext_getElem?;intro k;rw [h2 k];have hs:t.size=a.tmps.size:=hs;by_cases hk:k∈L
 ·by_cases hl:k<a.tmps.size
  ·rw [if_pos ⟨hk,hl⟩,Array.getElem?_eq_getElem o_]
   simp [Array.getD,show k<t.size by omega]
  ·rw [if_neg (fun h=>hl h.2),Array.getElem?_eq_none o_,Array.getElem?_eq_none o_]
 ·rw [if_neg (fun h=>hk h.1)]
  refine ho k fun i o ho e=>?_
  rw [Array.all_eq_true] at hL;obtain ⟨hi,he⟩:=c6_.1 ho
  have:=hL i hi
  rw [he,e] at this;exact hk (by simpa using this)
theorem YI(us fs:Array Value)(w:World):((w.alloc (.cells us 28)).alloc (.cells fs 28)).heap[w.heap.size]?=some (.cells us 28 (0,0))/\((w.alloc (.cells us 28)).alloc (.cells fs 28)).heap[w.heap.size+1]?=some (.cells fs 28 (0,0))/\Below w.heap.size w ((w.alloc (.cells us 28)).alloc (.cells fs 28)):=by
 have hBA:Below w.heap.size w (w.alloc (.cells us 28)):=b_.alloc l_ _;have hz:(w.alloc (.cells us 28)).heap.size=w.heap.size+1:=s_;have hgb:=heap_alloc_new (w.alloc (.cells us 28)) (.cells fs 28);rw [hz] at hgb;exact ⟨heap_alloc (heap_alloc_new w _) _,hgb,hBA.alloc hBA.size _⟩
theorem XJ{α:Type}[BEq α][LawfulBEq α][DecidableEq α](x y:α)(t:Str):∃q,(x !=y)=q/\(x==y)=!q/\(if x=y then [] else [t])=(if q then [t] else []:List Str):=by
 refine ⟨_,rfl,by rw [bne,Bool.not_not],?_⟩;by_cases e:x=y
 ·rw [if_pos e,e];simp
 ·rw [if_neg e];simp [e]
theorem XA{Q:Exit->Act->World->Prop}{ops:Array Oper}{id:Nat}{a:Act}{w1:World}(bA bB:Nat)(L:List Nat)(V:List Value)
  (hstep:Zbq (Zb0 prog ops Q (fun a=>a.tmps[3]?=some (.pointer (some ⟨bA,0,none⟩))/\a.tmps[4]?=some (.pointer (some ⟨bB,0,none⟩))) (fun W=>Below w1.heap.size w1 W) (fun i=>V.getD i undef)) 0 ops.toList)
  (hend:∀(a':Act) (W:World),Below w1.heap.size w1 W->a'=⟨L.foldl (fun t k=>t.setIfInBounds k (a'.tmps.getD k undef)) a.tmps,a.defers⟩->(∀(i:Nat) (o:Oper) (d:Nat),ops[i]?=some o->o.dst=some d->a'.tmps[d]?=some (V.getD i undef))->Q .normal a' W)
  (hN:a.tmps.size=163:=by rfl) (h3:a.tmps[3]?=some (.pointer (some ⟨bA,0,none⟩)):=by rfl) (h4:a.tmps[4]?=some (.pointer (some ⟨bB,0,none⟩)):=by rfl) (hm:prog.follows .mixedOrders=true:=by kernel_rfl) (hok:Zhi 163 L ops=true:=by kernel_rfl)
  (d3:(ops.all fun o=>!(o.dst==some 3))=true:=by kernel_rfl) (d4:(ops.all fun o=>!(o.dst==some 4))=true:=by kernel_rfl) (hL:(ops.all fun o=>match o.dst with|some d=>L.contains d|none=>true)=true:=by kernel_rfl):(Code.region id ops true).wp prog Q a w1:=
 ZcW (N:=163) _ _ _ L hm hok hN (Ze ⟨1,rfl⟩) (fun a' h=>⟨(h 3 (ZgO d3)).trans h3,(h 4 (ZgO d4)).trans h4⟩) (Zpq hstep) fun a' W hS hsz hdf hout hall=>hend a' W hS (Zq0 hsz hdf hout L hL) hall
theorem Z6{w:World}{b:Nat}{x:Str}(h:w.heap[b]?=some (.cells #[.string ⟨x.toArray⟩] 9 (0,0))):Zp w (some ⟨b,0,none⟩) [x]:=by
 intro i hi
 have:i=0:=n78_
 subst this;exact ⟨b,0,rfl,(rd h).1 0⟩
theorem Zf2{w:World}{b:Nat}{l:List Str}(h:w.heap[b]?=some (.cells (Zh l).toArray 9 (0,0))):Zp w (some ⟨b,0,none⟩) l:=by
 intro i hi;refine ⟨b,0,rfl,?_⟩;rw [(rd h).1];simp [Zh,hi]
theorem Zaa{o:Oper}{j:Nat}(h:(o.after.toList.any fun e=>Region.binds .any e&&Nat.beq e.on j)=true):waits o j:=by
 obtain ⟨e,he,hb⟩:=List.any_eq_true.1 h;rw [Bool.and_eq_true] at hb;exact ⟨e,Array.mem_def.2 he,hb.1,Nat.eq_of_beq_eq_true hb.2⟩
theorem stO{P:Program}{ops:Array Oper}{Q:Exit->Act->World->Prop}{F:Act->Prop}{S:World->Prop}{val:Nat->Value}{i:Nat}{o:Oper}
  (h:∀(a:Act) (w:World),S w->F a->(∀j oj d,waits o j->ops[j]?=some oj->oj.dst=some d->a.tmps[d]?=some (val j))->(execOp a.eval o).run P w=.ok (.value (val i)) w:=by
   intro a W hS hF hs;have qa:=((rd (Za HXA.out hS)).1 _).trans HX.out;have qb:=((rd (Za HXB.out hS)).1 _).trans HY.out;obtain ⟨e3,z3⟩:=Zi hF.1;obtain ⟨e4,z4⟩:=Zi hF.2
   (try (obtain ⟨g0,k0⟩:=Zi (hs 0 _ _ (Zaa rfl) rfl rfl);simp only [List.getD_cons_zero,List.getD_cons_succ] at g0 k0))
   (try (obtain ⟨g1,k1⟩:=Zi (hs 1 _ _ (Zaa rfl) rfl rfl);simp only [List.getD_cons_zero,List.getD_cons_succ] at g1 k1))
   (try (obtain ⟨g2,k2⟩:=Zi (hs 2 _ _ (Zaa rfl) rfl rfl);simp only [List.getD_cons_zero,List.getD_cons_succ] at g2 k2))
   (try (obtain ⟨g3,k3⟩:=Zi (hs 3 _ _ (Zaa rfl) rfl rfl);simp only [List.getD_cons_zero,List.getD_cons_succ] at g3 k3))
   (try (obtain ⟨g4,k4⟩:=Zi (hs 4 _ _ (Zaa rfl) rfl rfl);simp only [List.getD_cons_zero,List.getD_cons_succ] at g4 k4))
   (try (obtain ⟨g5,k5⟩:=Zi (hs 5 _ _ (Zaa rfl) rfl rfl);simp only [List.getD_cons_zero,List.getD_cons_succ] at g5 k5))
   (try (obtain ⟨g6,k6⟩:=Zi (hs 6 _ _ (Zaa rfl) rfl rfl);simp only [List.getD_cons_zero,List.getD_cons_succ] at g6 k6))
   (try (obtain ⟨g7,k7⟩:=Zi (hs 7 _ _ (Zaa rfl) rfl rfl);simp only [List.getD_cons_zero,List.getD_cons_succ] at g7 k7))
   clear hs hS hF;go_simp)
  (hg:o.guard=none:=by rfl):Zb0 P ops Q F S val i o:=
 Yf hg fun a w hS hF hd=>ZA _ (h a w hS hF hd) ⟨rfl,hS⟩
theorem ZfQ(us fs:Array Value)(x y:Str)(w:World)(hx:us[2]?=some (.string ⟨x.toArray⟩))(hy:fs[2]?=some (.string ⟨y.toArray⟩)) :
  Calls prog 110 #[.agg us,.agg fs,.string ⟨#[68,101,115,99,114,105,112,116,105,111,110]⟩] w fun e w'=>ZM (if x=y then [] else [x]) w e w':=by
 obtain ⟨hxa,hxb,hb0⟩:=YI us fs w;have HXA:=h_ hxa;have HXB:=h_ hxb;have HB:=h_ hb0;have HX:=h_ hx;have HY:=h_ hy;obtain ⟨q,hq,hq1,hq2⟩:=XJ x y (x);rw [hq2];clear hxa hxb hb0 hx hy hq2;go_enter func110,ntmps110;go_upto_region 4 with fail
 generalize (w.alloc (.cells us 28)).alloc (.cells fs 28)=w1 at HXA HXB HB⊢;refine XA w.heap.size (w.heap.size+1) [12,13,14,15,16,17,18,7,8] [.pointer (some ⟨w.heap.size,2,none⟩),.string ⟨x.toArray⟩,.pointer (some ⟨w.heap.size,2,none⟩),.string ⟨x.toArray⟩,.pointer (some ⟨w.heap.size+1,2,none⟩),.string ⟨y.toArray⟩,.bool q,.string ⟨x.toArray⟩,.bool q] ?_ ?_
 ·exact m143_
 ·exact m156_
theorem ZbL(us fs:Array Value)(x y:Bool)(w:World)(hx:us[3]?=some (.bool x))(hy:fs[3]?=some (.bool y)) :
  Calls prog 110 #[.agg us,.agg fs,.string ⟨#[68,101,102,97,117,108,116,68,101,112,101,110,100,101,110,99,105,101,115]⟩] w fun e w'=>ZM (if x=y then [] else [Qo x]) w e w':=by
 obtain ⟨hxa,hxb,hb0⟩:=YI us fs w;have HXA:=h_ hxa;have HXB:=h_ hxb;have HB:=h_ hb0;have HX:=h_ hx;have HY:=h_ hy;obtain ⟨q,hq,hq1,hq2⟩:=XJ x y (Qo x);rw [hq2];obtain ⟨t,ht⟩:∃t:Str,t=Qo x:=⟨_,rfl⟩;rw [<-ht];have HT:=h_ ht;clear hxa hxb hb0 hx hy hq2 ht;go_enter func110,ntmps110;go_upto_region 6 with fail
 generalize (w.alloc (.cells us 28)).alloc (.cells fs 28)=w1 at HXA HXB HB⊢;refine XA w.heap.size (w.heap.size+1) [21,22,23,24,25,26,27,28,7,8] [.pointer (some ⟨w.heap.size,3,none⟩),.bool x,.string ⟨t.toArray⟩,.pointer (some ⟨w.heap.size,3,none⟩),.bool x,.pointer (some ⟨w.heap.size+1,3,none⟩),.bool y,.bool q,.string ⟨t.toArray⟩,.bool q] ?_ ?_
 ·simp only [List.append_eq,c12_,List.nil_append]
  (iterate 2 refine ZO stO ?_);refine ZO (Yf rfl fun a W hS hF hs=>?_) ?_
  ·have s22:a.tmps[22]?=some (.bool x):=hs 1 _ 22 ⟨⟨1,.data⟩,s_,rfl,rfl⟩ rfl rfl;exact Yo (by obtain ⟨y0,z0⟩:=Zi s22;clear hs hS hF;go_simp) (ZhY x W) n11_
  exact m145_
 ·exact m153_
theorem ZaW(us fs:Array Value)(x y:Int)(w:World)(hx:us[5]?=some (.int .i64 x))(hy:fs[5]?=some (.int .i64 y))(hr : -9223372036854775808<=x/\x<=9223372036854775807) :
  Calls prog 110 #[.agg us,.agg fs,.string ⟨#[83,116,97,114,116,76,105,109,105,116,73,110,116,101,114,118,97,108,83,101,99]⟩] w fun e w'=>ZM (if x=y then [] else [Yj x]) w e w':=by
 obtain ⟨hxa,hxb,hb0⟩:=YI us fs w;have HXA:=h_ hxa;have HXB:=h_ hxb;have HB:=h_ hb0;have HX:=h_ hx;have HY:=h_ hy;have HR:=h_ hr;obtain ⟨q,hq,hq1,hq2⟩:=XJ x y (Yj x);rw [hq2];obtain ⟨t,ht⟩:∃t:Str,t=Yj x:=⟨_,rfl⟩;rw [<-ht];have HT:=h_ ht;clear hxa hxb hb0 hx hy hq2 ht hr;go_enter func110,ntmps110;go_upto_region 8 with fail
 generalize (w.alloc (.cells us 28)).alloc (.cells fs 28)=w1 at HXA HXB HB⊢;refine XA w.heap.size (w.heap.size+1) [31,32,33,34,35,36,37,38,7,8] [.pointer (some ⟨w.heap.size,5,none⟩),.int .i64 x,.string ⟨t.toArray⟩,.pointer (some ⟨w.heap.size,5,none⟩),.int .i64 x,.pointer (some ⟨w.heap.size+1,5,none⟩),.int .i64 y,.bool q,.string ⟨t.toArray⟩,.bool q] ?_ ?_
 ·simp only [List.append_eq,c12_,List.nil_append]
  (iterate 2 refine ZO stO ?_);refine ZO (Yf rfl fun a W hS hF hs=>?_) ?_
  ·have s32:a.tmps[32]?=some (.int .i64 x):=hs 1 _ 32 ⟨⟨1,.data⟩,s_,rfl,rfl⟩ rfl rfl;exact Yo (by obtain ⟨y0,z0⟩:=Zi s32;clear hs hS hF;go_simp) (Qx x W HR.out.1 HR.out.2) n12_
  exact m145_
 ·exact m153_
theorem ZcZ(us fs:Array Value)(x y:Int)(w:World)(hx:us[6]?=some (.int .i64 x))(hy:fs[6]?=some (.int .i64 y))(hr : -9223372036854775808<=x/\x<=9223372036854775807) :
  Calls prog 110 #[.agg us,.agg fs,.string ⟨#[83,116,97,114,116,76,105,109,105,116,66,117,114,115,116]⟩] w fun e w'=>ZM (if x=y then [] else [YP x]) w e w':=by
 obtain ⟨hxa,hxb,hb0⟩:=YI us fs w;have HXA:=h_ hxa;have HXB:=h_ hxb;have HB:=h_ hb0;have HX:=h_ hx;have HY:=h_ hy;have HR:=h_ hr;obtain ⟨q,hq,hq1,hq2⟩:=XJ x y (YP x);rw [hq2];obtain ⟨t,ht⟩:∃t:Str,t=YP x:=⟨_,rfl⟩;rw [<-ht];have HT:=h_ ht;clear hxa hxb hb0 hx hy hq2 ht hr;go_enter func110,ntmps110;go_upto_region 10 with fail
 generalize (w.alloc (.cells us 28)).alloc (.cells fs 28)=w1 at HXA HXB HB⊢;refine XA w.heap.size (w.heap.size+1) [41,42,43,44,45,46,47,48,7,8] [.pointer (some ⟨w.heap.size,6,none⟩),.int .i64 x,.string ⟨t.toArray⟩,.pointer (some ⟨w.heap.size,6,none⟩),.int .i64 x,.pointer (some ⟨w.heap.size+1,6,none⟩),.int .i64 y,.bool q,.string ⟨t.toArray⟩,.bool q] ?_ ?_
 ·simp only [List.append_eq,c12_,List.nil_append]
  (iterate 2 refine ZO stO ?_);refine ZO (Yf rfl fun a W hS hF hs=>?_) ?_
  ·have s42:a.tmps[42]?=some (.int .i64 x):=hs 1 _ 42 ⟨⟨1,.data⟩,s_,rfl,rfl⟩ rfl rfl;exact Yo (by obtain ⟨y0,z0⟩:=Zi s42;clear hs hS hF;go_simp) (Zco x W HR.out.1 HR.out.2) n11_
  exact m145_
 ·exact m153_
def Zfc(ba bb:Nat)(x y:Int)(t:Str)(q:Bool):Nat->Value->World->Prop
 |0,v,W=>∃b,v=.slice (some ⟨b,0,none⟩) 3 3/\W.heap[b]?=some (.cells (Zh [[115,105,109,112,108,101],[111,110,101,115,104,111,116],[110,111,116,105,102,121]]).toArray 9 (0,0))
 |1,v,_=>v=.pointer (some ⟨ba,7,none⟩)
 |2,v,_=>v=.int .i64 x
 |3,v,_=>v=.string ⟨t.toArray⟩
 |4,v,_=>v=.pointer (some ⟨ba,7,none⟩)
 |5,v,_=>v=.int .i64 x
 |6,v,_=>v=.pointer (some ⟨bb,7,none⟩)
 |7,v,_=>v=.int .i64 y
 |8,v,_=>v=.bool q
 |9,v,_=>v=.string ⟨t.toArray⟩
 |10,v,_=>v=.bool q
 |_,_,_=>True
theorem Zfc.mono{ba bb:Nat}{x y:Int}{t:Str}{q:Bool}(j:Nat)(v:Value)(W W':World)(hb:Below W.heap.size W W')(h:Zfc ba bb x y t q j v W):Zfc ba bb x y t q j v W':=by
 exact m146_
theorem ZrI(us fs:Array Value)(x y:Int)(w:World)(hx:us[7]?=some (.int .i64 x))(hy:fs[7]?=some (.int .i64 y))(hr : -9223372036854775808<=x/\x<=9223372036854775807) :
  Calls prog 110 #[.agg us,.agg fs,.string ⟨#[84,121,112,101]⟩] w fun e w'=>ZM (if x=y then [] else [Zan [[115,105,109,112,108,101],[111,110,101,115,104,111,116],[110,111,116,105,102,121]] x]) w e w':=by
 obtain ⟨hxa,hxb,hb0⟩:=YI us fs w;have HXA:=h_ hxa;have HXB:=h_ hxb;have HB:=h_ hb0;have HX:=h_ hx;have HY:=h_ hy;have HR:=h_ hr;obtain ⟨q,hq,hq1,hq2⟩:=XJ x y (Zan [[115,105,109,112,108,101],[111,110,101,115,104,111,116],[110,111,116,105,102,121]] x);rw [hq2];obtain ⟨t,ht⟩:∃t:Str,t=Zan [[115,105,109,112,108,101],[111,110,101,115,104,111,116],[110,111,116,105,102,121]] x:=⟨_,rfl⟩;rw [<-ht];have HT:=h_ ht;clear hxa hxb hb0 hx hy hq2 ht hr;go_enter func110,ntmps110;go_upto_region 12 with fail
 generalize (w.alloc (.cells us 28)).alloc (.cells fs 28)=w1 at HXA HXB HB⊢;refine Zaq (N:=163) w1 (Zfc w.heap.size (w.heap.size+1) x y t q) (fun j=>j) [[],[],[],[],[],[],[],[],[],[],[]] k_ k_ rfl k_ (Ze ⟨1,rfl⟩) Zfc.mono ?_ ?_
 ·intro i oo ho D V a W hD hdep hI
  have hi:i<11:=(c6_.1 ho).1;have h0:=hI.inv;have hB:=True.intro;rcases (show i=0\/i=1\/i=2\/i=3\/i=4\/i=5\/i=6\/i=7\/i=8\/i=9\/i=10 by omega) with rfl|rfl|rfl|rfl|rfl|rfl|rfl|rfl|rfl|rfl|rfl
  ·obtain rfl:=Option.some.inj ho
   exact ZA (w':=W.alloc (.cells #[.string ⟨#[115,105,109,112,108,101]⟩,.string ⟨#[111,110,101,115,104,111,116]⟩,.string ⟨#[110,111,116,105,102,121]⟩] 9)) (.slice (some ⟨W.heap.size,0,none⟩) 3 3) (by clear h0 hB hI hdep;go_simp) ⟨_,rfl,⟨_,rfl,heap_alloc_new _ _⟩,.inl (b_.alloc l_ _)⟩
  ·exact m148_
  ·obtain rfl:=Option.some.inj ho
   have d1:=hdep ⟨1,.data⟩ s_ rfl;have s1:=hI.slot 1 _ 52 rfl rfl d1;have f1:V 1=.pointer (some ⟨w.heap.size,7,none⟩):=h0.fact 1 d1 n22_;rw [f1] at s1;have q0:=((rd (Za HXA.out h0.bel)).1 7).trans HX.out;exact ZA (.int .i64 x) n57_ ⟨_,rfl,rfl,.inl b_⟩
  ·obtain rfl:=Option.some.inj ho
   have d0:=hdep ⟨0,.data⟩ s_ rfl;have s0:=hI.slot 0 _ 51 rfl rfl d0;have d2:=hdep ⟨2,.data⟩ s_ rfl;have s2:=hI.slot 2 _ 53 rfl rfl d2;have f2:V 2=.int .i64 x:=h0.fact 2 d2 n22_;rw [f2] at s2;obtain ⟨b2,f0,hb2⟩:∃b2,V 0=.slice (some ⟨b2,0,none⟩) 3 3/\W.heap[b2]?=some (.cells (Zh [[115,105,109,112,108,101],[111,110,101,115,104,111,116],[110,111,116,105,102,121]]).toArray 9 (0,0)):=h0.fact 0 d0 n22_;rw [f0] at s0;refine Zcp 193 #[.slice (some ⟨b2,0,none⟩) 3 3,.int .i64 x] (by obtain ⟨y0,z0⟩:=Zi s0;obtain ⟨y1,z1⟩:=Zi s2;clear h0 hB hI hdep hb2;go_simp) (Zjp (some ⟨b2,0,none⟩) 3 [[115,105,109,112,108,101],[111,110,101,115,104,111,116],[110,111,116,105,102,121]] x W (Zf2 hb2) HR.out.1 HR.out.2) ?_;exact m150_
  ·exact m148_
  ·obtain rfl:=Option.some.inj ho
   have d4:=hdep ⟨4,.data⟩ s_ rfl;have s4:=hI.slot 4 _ 55 rfl rfl d4;have f4:V 4=.pointer (some ⟨w.heap.size,7,none⟩):=h0.fact 4 d4 n22_;rw [f4] at s4;have q0:=((rd (Za HXA.out h0.bel)).1 7).trans HX.out;exact ZA (.int .i64 x) n55_ ⟨_,rfl,rfl,.inl b_⟩
  ·obtain rfl:=Option.some.inj ho
   have s:a.tmps[4]?=some (.pointer (some ⟨(w.heap.size+1),0,none⟩)):=(hI.at 4 k_).trans rfl;exact ZA (.pointer (some ⟨(w.heap.size+1),7,none⟩)) n7_ ⟨_,rfl,rfl,.inl b_⟩
  ·obtain rfl:=Option.some.inj ho
   have d6:=hdep ⟨6,.data⟩ s_ rfl;have s6:=hI.slot 6 _ 57 rfl rfl d6;have f6:V 6=.pointer (some ⟨(w.heap.size+1),7,none⟩):=h0.fact 6 d6 n22_;rw [f6] at s6;have q0:=((rd (Za HXB.out h0.bel)).1 7).trans HY.out;exact m152_
  ·obtain rfl:=Option.some.inj ho
   have d5:=hdep ⟨5,.data⟩ s_ rfl;have s5:=hI.slot 5 _ 56 rfl rfl d5;have d7:=hdep ⟨7,.data⟩ s_ rfl;have s7:=hI.slot 7 _ 58 rfl rfl d7;exact m144_
  ·obtain rfl:=Option.some.inj ho
   have d3:=hdep ⟨3,.data⟩ s_ rfl;have s3:=hI.slot 3 _ 54 rfl rfl d3;exact m149_
  ·obtain rfl:=Option.some.inj ho
   have d8:=hdep ⟨8,.data⟩ s_ rfl;have s8:=hI.slot 8 _ 59 rfl rfl d8;exact m151_
 ·intro D V a W hall hI
  have h0:=hI.inv;have e9:V 9=.string ⟨t.toArray⟩:=h0.fact 9 (hall 9 d_) s_;have e10:V 10=.bool q:=h0.fact 10 (hall 10 d_) s_;have s7:=Yc ((hI.slot 9 _ 7 rfl rfl (hall 9 d_)).trans (congrArg some e9));have s8:=Yc ((hI.slot 10 _ 8 rfl rfl (hall 10 d_)).trans (congrArg some e10));have hform:=hI.form [51,52,53,54,55,56,57,58,59,7,8] k_;exact m142_
theorem Zc6(us fs:Array Value)(x y:Bool)(w:World)(hx:us[13]?=some (.bool x))(hy:fs[13]?=some (.bool y)) :
  Calls prog 110 #[.agg us,.agg fs,.string ⟨#[82,101,109,97,105,110,65,102,116,101,114,69,120,105,116]⟩] w fun e w'=>ZM (if x=y then [] else [Qo x]) w e w':=by
 obtain ⟨hxa,hxb,hb0⟩:=YI us fs w;have HXA:=h_ hxa;have HXB:=h_ hxb;have HB:=h_ hb0;have HX:=h_ hx;have HY:=h_ hy;obtain ⟨q,hq,hq1,hq2⟩:=XJ x y (Qo x);rw [hq2];obtain ⟨t,ht⟩:∃t:Str,t=Qo x:=⟨_,rfl⟩;rw [<-ht];have HT:=h_ ht;clear hxa hxb hb0 hx hy hq2 ht;go_enter func110,ntmps110;go_upto_region 14 with fail
 generalize (w.alloc (.cells us 28)).alloc (.cells fs 28)=w1 at HXA HXB HB⊢;refine XA w.heap.size (w.heap.size+1) [62,63,64,65,66,67,68,69,7,8] [.pointer (some ⟨w.heap.size,13,none⟩),.bool x,.string ⟨t.toArray⟩,.pointer (some ⟨w.heap.size,13,none⟩),.bool x,.pointer (some ⟨w.heap.size+1,13,none⟩),.bool y,.bool q,.string ⟨t.toArray⟩,.bool q] ?_ ?_
 ·simp only [List.append_eq,c12_,List.nil_append]
  (iterate 2 refine ZO stO ?_);refine ZO (Yf rfl fun a W hS hF hs=>?_) ?_
  ·have s63:a.tmps[63]?=some (.bool x):=hs 1 _ 63 ⟨⟨1,.data⟩,s_,rfl,rfl⟩ rfl rfl;exact Yo (by obtain ⟨y0,z0⟩:=Zi s63;clear hs hS hF;go_simp) (ZhY x W) n11_
  exact m145_
 ·exact m153_
def Za4(ba bb:Nat)(x y:Int)(t:Str)(q:Bool):Nat->Value->World->Prop
 |0,v,W=>∃b,v=.slice (some ⟨b,0,none⟩) 5 5/\W.heap[b]?=some (.cells (Zh [[110,111],[111,110,45,115,117,99,99,101,115,115],[111,110,45,102,97,105,108,117,114,101],[111,110,45,97,98,110,111,114,109,97,108],[97,108,119,97,121,115]]).toArray 9 (0,0))
 |1,v,_=>v=.pointer (some ⟨ba,14,none⟩)
 |2,v,_=>v=.int .i64 x
 |3,v,_=>v=.string ⟨t.toArray⟩
 |4,v,_=>v=.pointer (some ⟨ba,14,none⟩)
 |5,v,_=>v=.int .i64 x
 |6,v,_=>v=.pointer (some ⟨bb,14,none⟩)
 |7,v,_=>v=.int .i64 y
 |8,v,_=>v=.bool q
 |9,v,_=>v=.string ⟨t.toArray⟩
 |10,v,_=>v=.bool q
 |_,_,_=>True
theorem Za4.mono{ba bb:Nat}{x y:Int}{t:Str}{q:Bool}(j:Nat)(v:Value)(W W':World)(hb:Below W.heap.size W W')(h:Za4 ba bb x y t q j v W):Za4 ba bb x y t q j v W':=by
 exact m146_
theorem ZkM(us fs:Array Value)(x y:Int)(w:World)(hx:us[14]?=some (.int .i64 x))(hy:fs[14]?=some (.int .i64 y))(hr : -9223372036854775808<=x/\x<=9223372036854775807) :
  Calls prog 110 #[.agg us,.agg fs,.string ⟨#[82,101,115,116,97,114,116]⟩] w fun e w'=>ZM (if x=y then [] else [Zan [[110,111],[111,110,45,115,117,99,99,101,115,115],[111,110,45,102,97,105,108,117,114,101],[111,110,45,97,98,110,111,114,109,97,108],[97,108,119,97,121,115]] x]) w e w':=by
 obtain ⟨hxa,hxb,hb0⟩:=YI us fs w;have HXA:=h_ hxa;have HXB:=h_ hxb;have HB:=h_ hb0;have HX:=h_ hx;have HY:=h_ hy;have HR:=h_ hr;obtain ⟨q,hq,hq1,hq2⟩:=XJ x y (Zan [[110,111],[111,110,45,115,117,99,99,101,115,115],[111,110,45,102,97,105,108,117,114,101],[111,110,45,97,98,110,111,114,109,97,108],[97,108,119,97,121,115]] x);rw [hq2];obtain ⟨t,ht⟩:∃t:Str,t=Zan [[110,111],[111,110,45,115,117,99,99,101,115,115],[111,110,45,102,97,105,108,117,114,101],[111,110,45,97,98,110,111,114,109,97,108],[97,108,119,97,121,115]] x:=⟨_,rfl⟩;rw [<-ht];have HT:=h_ ht;clear hxa hxb hb0 hx hy hq2 ht hr;go_enter func110,ntmps110;go_upto_region 16 with fail
 generalize (w.alloc (.cells us 28)).alloc (.cells fs 28)=w1 at HXA HXB HB⊢;refine Zaq (N:=163) w1 (Za4 w.heap.size (w.heap.size+1) x y t q) (fun j=>j) [[],[],[],[],[],[],[],[],[],[],[]] k_ k_ rfl k_ (Ze ⟨1,rfl⟩) Za4.mono ?_ ?_
 ·intro i oo ho D V a W hD hdep hI
  have hi:i<11:=(c6_.1 ho).1;have h0:=hI.inv;have hB:=True.intro;rcases (show i=0\/i=1\/i=2\/i=3\/i=4\/i=5\/i=6\/i=7\/i=8\/i=9\/i=10 by omega) with rfl|rfl|rfl|rfl|rfl|rfl|rfl|rfl|rfl|rfl|rfl
  ·obtain rfl:=Option.some.inj ho
   exact ZA (w':=W.alloc (.cells #[.string ⟨#[110,111]⟩,.string ⟨#[111,110,45,115,117,99,99,101,115,115]⟩,.string ⟨#[111,110,45,102,97,105,108,117,114,101]⟩,.string ⟨#[111,110,45,97,98,110,111,114,109,97,108]⟩,.string ⟨#[97,108,119,97,121,115]⟩] 9)) (.slice (some ⟨W.heap.size,0,none⟩) 5 5) (by clear h0 hB hI hdep;go_simp) ⟨_,rfl,⟨_,rfl,heap_alloc_new _ _⟩,.inl (b_.alloc l_ _)⟩
  ·exact m147_
  ·obtain rfl:=Option.some.inj ho
   have d1:=hdep ⟨1,.data⟩ s_ rfl;have s1:=hI.slot 1 _ 73 rfl rfl d1;have f1:V 1=.pointer (some ⟨w.heap.size,14,none⟩):=h0.fact 1 d1 n22_;rw [f1] at s1;have q0:=((rd (Za HXA.out h0.bel)).1 14).trans HX.out;exact ZA (.int .i64 x) n57_ ⟨_,rfl,rfl,.inl b_⟩
  ·obtain rfl:=Option.some.inj ho
   have d0:=hdep ⟨0,.data⟩ s_ rfl;have s0:=hI.slot 0 _ 72 rfl rfl d0;have d2:=hdep ⟨2,.data⟩ s_ rfl;have s2:=hI.slot 2 _ 74 rfl rfl d2;have f2:V 2=.int .i64 x:=h0.fact 2 d2 n22_;rw [f2] at s2;obtain ⟨b2,f0,hb2⟩:∃b2,V 0=.slice (some ⟨b2,0,none⟩) 5 5/\W.heap[b2]?=some (.cells (Zh [[110,111],[111,110,45,115,117,99,99,101,115,115],[111,110,45,102,97,105,108,117,114,101],[111,110,45,97,98,110,111,114,109,97,108],[97,108,119,97,121,115]]).toArray 9 (0,0)):=h0.fact 0 d0 n22_;rw [f0] at s0;refine Zcp 193 #[.slice (some ⟨b2,0,none⟩) 5 5,.int .i64 x] (by obtain ⟨y0,z0⟩:=Zi s0;obtain ⟨y1,z1⟩:=Zi s2;clear h0 hB hI hdep hb2;go_simp) (Zjp (some ⟨b2,0,none⟩) 5 [[110,111],[111,110,45,115,117,99,99,101,115,115],[111,110,45,102,97,105,108,117,114,101],[111,110,45,97,98,110,111,114,109,97,108],[97,108,119,97,121,115]] x W (Zf2 hb2) HR.out.1 HR.out.2) ?_;exact m150_
  ·exact m147_
  ·obtain rfl:=Option.some.inj ho
   have d4:=hdep ⟨4,.data⟩ s_ rfl;have s4:=hI.slot 4 _ 76 rfl rfl d4;have f4:V 4=.pointer (some ⟨w.heap.size,14,none⟩):=h0.fact 4 d4 n22_;rw [f4] at s4;have q0:=((rd (Za HXA.out h0.bel)).1 14).trans HX.out;exact ZA (.int .i64 x) n55_ ⟨_,rfl,rfl,.inl b_⟩
  ·obtain rfl:=Option.some.inj ho
   have s:a.tmps[4]?=some (.pointer (some ⟨(w.heap.size+1),0,none⟩)):=(hI.at 4 k_).trans rfl;exact ZA (.pointer (some ⟨(w.heap.size+1),14,none⟩)) n7_ ⟨_,rfl,rfl,.inl b_⟩
  ·obtain rfl:=Option.some.inj ho
   have d6:=hdep ⟨6,.data⟩ s_ rfl;have s6:=hI.slot 6 _ 78 rfl rfl d6;have f6:V 6=.pointer (some ⟨(w.heap.size+1),14,none⟩):=h0.fact 6 d6 n22_;rw [f6] at s6;have q0:=((rd (Za HXB.out h0.bel)).1 14).trans HY.out;exact m152_
  ·obtain rfl:=Option.some.inj ho
   have d5:=hdep ⟨5,.data⟩ s_ rfl;have s5:=hI.slot 5 _ 77 rfl rfl d5;have d7:=hdep ⟨7,.data⟩ s_ rfl;have s7:=hI.slot 7 _ 79 rfl rfl d7;exact m144_
  ·obtain rfl:=Option.some.inj ho
   have d3:=hdep ⟨3,.data⟩ s_ rfl;have s3:=hI.slot 3 _ 75 rfl rfl d3;exact m149_
  ·obtain rfl:=Option.some.inj ho
   have d8:=hdep ⟨8,.data⟩ s_ rfl;have s8:=hI.slot 8 _ 80 rfl rfl d8;exact m151_
 ·intro D V a W hall hI
  have h0:=hI.inv;have e9:V 9=.string ⟨t.toArray⟩:=h0.fact 9 (hall 9 d_) s_;have e10:V 10=.bool q:=h0.fact 10 (hall 10 d_) s_;have s7:=Yc ((hI.slot 9 _ 7 rfl rfl (hall 9 d_)).trans (congrArg some e9));have s8:=Yc ((hI.slot 10 _ 8 rfl rfl (hall 10 d_)).trans (congrArg some e10));have hform:=hI.form [72,73,74,75,76,77,78,79,80,7,8] k_;exact m142_
theorem ZgK(us fs:Array Value)(x y:Int)(w:World)(hx:us[15]?=some (.int .i64 x))(hy:fs[15]?=some (.int .i64 y))(hr : -9223372036854775808<=x/\x<=9223372036854775807) :
  Calls prog 110 #[.agg us,.agg fs,.string ⟨#[82,101,115,116,97,114,116,83,101,99]⟩] w fun e w'=>ZM (if x=y then [] else [Yj x]) w e w':=by
 obtain ⟨hxa,hxb,hb0⟩:=YI us fs w;have HXA:=h_ hxa;have HXB:=h_ hxb;have HB:=h_ hb0;have HX:=h_ hx;have HY:=h_ hy;have HR:=h_ hr;obtain ⟨q,hq,hq1,hq2⟩:=XJ x y (Yj x);rw [hq2];obtain ⟨t,ht⟩:∃t:Str,t=Yj x:=⟨_,rfl⟩;rw [<-ht];have HT:=h_ ht;clear hxa hxb hb0 hx hy hq2 ht hr;go_enter func110,ntmps110;go_upto_region 18 with fail
 generalize (w.alloc (.cells us 28)).alloc (.cells fs 28)=w1 at HXA HXB HB⊢;refine XA w.heap.size (w.heap.size+1) [83,84,85,86,87,88,89,90,7,8] [.pointer (some ⟨w.heap.size,15,none⟩),.int .i64 x,.string ⟨t.toArray⟩,.pointer (some ⟨w.heap.size,15,none⟩),.int .i64 x,.pointer (some ⟨w.heap.size+1,15,none⟩),.int .i64 y,.bool q,.string ⟨t.toArray⟩,.bool q] ?_ ?_
 ·simp only [List.append_eq,c12_,List.nil_append]
  (iterate 2 refine ZO stO ?_);refine ZO (Yf rfl fun a W hS hF hs=>?_) ?_
  ·have s84:a.tmps[84]?=some (.int .i64 x):=hs 1 _ 84 ⟨⟨1,.data⟩,s_,rfl,rfl⟩ rfl rfl;exact Yo (by obtain ⟨y0,z0⟩:=Zi s84;clear hs hS hF;go_simp) (Qx x W HR.out.1 HR.out.2) n12_
  exact m145_
 ·exact m153_
theorem Zdj(us fs:Array Value)(x y:Int)(w:World)(hx:us[16]?=some (.int .i64 x))(hy:fs[16]?=some (.int .i64 y))(hr : -9223372036854775808<=x/\x<=9223372036854775807) :
  Calls prog 110 #[.agg us,.agg fs,.string ⟨#[84,105,109,101,111,117,116,83,116,97,114,116,83,101,99]⟩] w fun e w'=>ZM (if x=y then [] else [Yj x]) w e w':=by
 obtain ⟨hxa,hxb,hb0⟩:=YI us fs w;have HXA:=h_ hxa;have HXB:=h_ hxb;have HB:=h_ hb0;have HX:=h_ hx;have HY:=h_ hy;have HR:=h_ hr;obtain ⟨q,hq,hq1,hq2⟩:=XJ x y (Yj x);rw [hq2];obtain ⟨t,ht⟩:∃t:Str,t=Yj x:=⟨_,rfl⟩;rw [<-ht];have HT:=h_ ht;clear hxa hxb hb0 hx hy hq2 ht hr;go_enter func110,ntmps110;go_upto_region 20 with fail
 generalize (w.alloc (.cells us 28)).alloc (.cells fs 28)=w1 at HXA HXB HB⊢;refine XA w.heap.size (w.heap.size+1) [93,94,95,96,97,98,99,100,7,8] [.pointer (some ⟨w.heap.size,16,none⟩),.int .i64 x,.string ⟨t.toArray⟩,.pointer (some ⟨w.heap.size,16,none⟩),.int .i64 x,.pointer (some ⟨w.heap.size+1,16,none⟩),.int .i64 y,.bool q,.string ⟨t.toArray⟩,.bool q] ?_ ?_
 ·simp only [List.append_eq,c12_,List.nil_append]
  (iterate 2 refine ZO stO ?_);refine ZO (Yf rfl fun a W hS hF hs=>?_) ?_
  ·have s94:a.tmps[94]?=some (.int .i64 x):=hs 1 _ 94 ⟨⟨1,.data⟩,s_,rfl,rfl⟩ rfl rfl;exact Yo (by obtain ⟨y0,z0⟩:=Zi s94;clear hs hS hF;go_simp) (Qx x W HR.out.1 HR.out.2) n12_
  exact m145_
 ·exact m153_
theorem ZdQ(us fs:Array Value)(x y:Int)(w:World)(hx:us[17]?=some (.int .i64 x))(hy:fs[17]?=some (.int .i64 y))(hr : -9223372036854775808<=x/\x<=9223372036854775807) :
  Calls prog 110 #[.agg us,.agg fs,.string ⟨#[84,105,109,101,111,117,116,83,116,111,112,83,101,99]⟩] w fun e w'=>ZM (if x=y then [] else [Yj x]) w e w':=by
 obtain ⟨hxa,hxb,hb0⟩:=YI us fs w;have HXA:=h_ hxa;have HXB:=h_ hxb;have HB:=h_ hb0;have HX:=h_ hx;have HY:=h_ hy;have HR:=h_ hr;obtain ⟨q,hq,hq1,hq2⟩:=XJ x y (Yj x);rw [hq2];obtain ⟨t,ht⟩:∃t:Str,t=Yj x:=⟨_,rfl⟩;rw [<-ht];have HT:=h_ ht;clear hxa hxb hb0 hx hy hq2 ht hr;go_enter func110,ntmps110;go_upto_region 22 with fail
 generalize (w.alloc (.cells us 28)).alloc (.cells fs 28)=w1 at HXA HXB HB⊢;refine XA w.heap.size (w.heap.size+1) [103,104,105,106,107,108,109,110,7,8] [.pointer (some ⟨w.heap.size,17,none⟩),.int .i64 x,.string ⟨t.toArray⟩,.pointer (some ⟨w.heap.size,17,none⟩),.int .i64 x,.pointer (some ⟨w.heap.size+1,17,none⟩),.int .i64 y,.bool q,.string ⟨t.toArray⟩,.bool q] ?_ ?_
 ·simp only [List.append_eq,c12_,List.nil_append]
  (iterate 2 refine ZO stO ?_);refine ZO (Yf rfl fun a W hS hF hs=>?_) ?_
  ·have s104:a.tmps[104]?=some (.int .i64 x):=hs 1 _ 104 ⟨⟨1,.data⟩,s_,rfl,rfl⟩ rfl rfl;exact Yo (by obtain ⟨y0,z0⟩:=Zi s104;clear hs hS hF;go_simp) (Qx x W HR.out.1 HR.out.2) n12_
  exact m145_
 ·exact m153_
theorem Zj8(us fs:Array Value)(x y:Int)(w:World)(hx:us[22]?=some (.int .i64 x))(hy:fs[22]?=some (.int .i64 y))(hr : -9223372036854775808<=x/\x<=9223372036854775807) :
  Calls prog 110 #[.agg us,.agg fs,.string ⟨#[66,97,99,107,108,111,103]⟩] w fun e w'=>ZM (if x=y then [] else [YP x]) w e w':=by
 obtain ⟨hxa,hxb,hb0⟩:=YI us fs w;have HXA:=h_ hxa;have HXB:=h_ hxb;have HB:=h_ hb0;have HX:=h_ hx;have HY:=h_ hy;have HR:=h_ hr;obtain ⟨q,hq,hq1,hq2⟩:=XJ x y (YP x);rw [hq2];obtain ⟨t,ht⟩:∃t:Str,t=YP x:=⟨_,rfl⟩;rw [<-ht];have HT:=h_ ht;clear hxa hxb hb0 hx hy hq2 ht hr;go_enter func110,ntmps110;go_upto_region 24 with fail
 generalize (w.alloc (.cells us 28)).alloc (.cells fs 28)=w1 at HXA HXB HB⊢;refine XA w.heap.size (w.heap.size+1) [113,114,115,116,117,118,119,120,7,8] [.pointer (some ⟨w.heap.size,22,none⟩),.int .i64 x,.string ⟨t.toArray⟩,.pointer (some ⟨w.heap.size,22,none⟩),.int .i64 x,.pointer (some ⟨w.heap.size+1,22,none⟩),.int .i64 y,.bool q,.string ⟨t.toArray⟩,.bool q] ?_ ?_
 ·simp only [List.append_eq,c12_,List.nil_append]
  (iterate 2 refine ZO stO ?_);refine ZO (Yf rfl fun a W hS hF hs=>?_) ?_
  ·have s114:a.tmps[114]?=some (.int .i64 x):=hs 1 _ 114 ⟨⟨1,.data⟩,s_,rfl,rfl⟩ rfl rfl;exact Yo (by obtain ⟨y0,z0⟩:=Zi s114;clear hs hS hF;go_simp) (Zco x W HR.out.1 HR.out.2) n11_
  exact m145_
 ·exact m153_
theorem Zb5(us fs:Array Value)(x y:Str)(w:World)(hx:us[23]?=some (.string ⟨x.toArray⟩))(hy:fs[23]?=some (.string ⟨y.toArray⟩)) :
  Calls prog 110 #[.agg us,.agg fs,.string ⟨#[70,105,108,101,68,101,115,99,114,105,112,116,111,114,78,97,109,101]⟩] w fun e w'=>ZM (if x=y then [] else [x]) w e w':=by
 obtain ⟨hxa,hxb,hb0⟩:=YI us fs w;have HXA:=h_ hxa;have HXB:=h_ hxb;have HB:=h_ hb0;have HX:=h_ hx;have HY:=h_ hy;obtain ⟨q,hq,hq1,hq2⟩:=XJ x y (x);rw [hq2];clear hxa hxb hb0 hx hy hq2;go_enter func110,ntmps110;go_upto_region 26 with fail
 generalize (w.alloc (.cells us 28)).alloc (.cells fs 28)=w1 at HXA HXB HB⊢;refine XA w.heap.size (w.heap.size+1) [123,124,125,126,127,128,129,7,8] [.pointer (some ⟨w.heap.size,23,none⟩),.string ⟨x.toArray⟩,.pointer (some ⟨w.heap.size,23,none⟩),.string ⟨x.toArray⟩,.pointer (some ⟨w.heap.size+1,23,none⟩),.string ⟨y.toArray⟩,.bool q,.string ⟨x.toArray⟩,.bool q] ?_ ?_
 ·exact m143_
 ·exact m156_
theorem Zj6(us fs:Array Value)(x y:Str)(w:World)(hx:us[24]?=some (.string ⟨x.toArray⟩))(hy:fs[24]?=some (.string ⟨y.toArray⟩)) :
  Calls prog 110 #[.agg us,.agg fs,.string ⟨#[83,101,114,118,105,99,101]⟩] w fun e w'=>ZM (if x=y then [] else [x]) w e w':=by
 exact m154_
theorem Zp6(us fs:Array Value)(x y:Str)(w:World)(hx:us[24]?=some (.string ⟨x.toArray⟩))(hy:fs[24]?=some (.string ⟨y.toArray⟩)) :
  Calls prog 110 #[.agg us,.agg fs,.string ⟨#[85,110,105,116]⟩] w fun e w'=>ZM (if x=y then [] else [x]) w e w':=by
 exact m154_
theorem ZgI(us fs:Array Value)(x y:Bool)(w:World)(hx:us[29]?=some (.bool x))(hy:fs[29]?=some (.bool y)) :
  Calls prog 110 #[.agg us,.agg fs,.string ⟨#[80,101,114,115,105,115,116,101,110,116]⟩] w fun e w'=>ZM (if x=y then [] else [Qo x]) w e w':=by
 obtain ⟨hxa,hxb,hb0⟩:=YI us fs w;have HXA:=h_ hxa;have HXB:=h_ hxb;have HB:=h_ hb0;have HX:=h_ hx;have HY:=h_ hy;obtain ⟨q,hq,hq1,hq2⟩:=XJ x y (Qo x);rw [hq2];obtain ⟨t,ht⟩:∃t:Str,t=Qo x:=⟨_,rfl⟩;rw [<-ht];have HT:=h_ ht;clear hxa hxb hb0 hx hy hq2 ht;go_enter func110,ntmps110;go_upto_region 31 with fail
 generalize (w.alloc (.cells us 28)).alloc (.cells fs 28)=w1 at HXA HXB HB⊢;refine XA w.heap.size (w.heap.size+1) [142,143,144,145,146,147,148,149,7,8] [.pointer (some ⟨w.heap.size,29,none⟩),.bool x,.string ⟨t.toArray⟩,.pointer (some ⟨w.heap.size,29,none⟩),.bool x,.pointer (some ⟨w.heap.size+1,29,none⟩),.bool y,.bool q,.string ⟨t.toArray⟩,.bool q] ?_ ?_
 ·simp only [List.append_eq,c12_,List.nil_append]
  (iterate 2 refine ZO stO ?_);refine ZO (Yf rfl fun a W hS hF hs=>?_) ?_
  ·have s143:a.tmps[143]?=some (.bool x):=hs 1 _ 143 ⟨⟨1,.data⟩,s_,rfl,rfl⟩ rfl rfl;exact Yo (by obtain ⟨y0,z0⟩:=Zi s143;clear hs hS hF;go_simp) (ZhY x W) n11_
  exact m145_
 ·exact m153_
theorem Zdb(us fs:Array Value)(x y:Str)(w:World)(hx:us[34]?=some (.string ⟨x.toArray⟩))(hy:fs[34]?=some (.string ⟨y.toArray⟩)) :
  Calls prog 110 #[.agg us,.agg fs,.string ⟨#[68,101,102,97,117,108,116,73,110,115,116,97,110,99,101]⟩] w fun e w'=>ZM (if x=y then [] else [x]) w e w':=by
 obtain ⟨hxa,hxb,hb0⟩:=YI us fs w;have HXA:=h_ hxa;have HXB:=h_ hxb;have HB:=h_ hb0;have HX:=h_ hx;have HY:=h_ hy;obtain ⟨q,hq,hq1,hq2⟩:=XJ x y (x);rw [hq2];clear hxa hxb hb0 hx hy hq2;go_enter func110,ntmps110;go_upto_region 33 with fail
 generalize (w.alloc (.cells us 28)).alloc (.cells fs 28)=w1 at HXA HXB HB⊢;refine XA w.heap.size (w.heap.size+1) [152,153,154,155,156,157,158,7,8] [.pointer (some ⟨w.heap.size,34,none⟩),.string ⟨x.toArray⟩,.pointer (some ⟨w.heap.size,34,none⟩),.string ⟨x.toArray⟩,.pointer (some ⟨w.heap.size+1,34,none⟩),.string ⟨y.toArray⟩,.bool q,.string ⟨x.toArray⟩,.bool q] ?_ ?_
 ·exact m143_
 ·exact m156_
def ownNames:List Str:=[[68,101,115,99,114,105,112,116,105,111,110],[68,101,102,97,117,108,116,68,101,112,101,110,100,101,110,99,105,101,115],[83,116,97,114,116,76,105,109,105,116,73,110,116,101,114,118,97,108,83,101,99],[83,116,97,114,116,76,105,109,105,116,66,117,114,115,116],[84,121,112,101],[82,101,109,97,105,110,65,102,116,101,114,69,120,105,116],[82,101,115,116,97,114,116],[82,101,115,116,97,114,116,83,101,99],[84,105,109,101,111,117,116,83,116,97,114,116,83,101,99],[84,105,109,101,111,117,116,83,116,111,112,83,101,99],[66,97,99,107,108,111,103],[70,105,108,101,68,101,115,99,114,105,112,116,111,114,78,97,109,101],[83,101,114,118,105,99,101],[85,110,105,116],[80,101,114,115,105,115,116,101,110,116],[68,101,102,97,117,108,116,73,110,115,116,97,110,99,101]]
theorem Zql(us fs:Array Value)(s:Str)(w:World)(h:ownNames.contains s=false):Calls prog 110 #[.agg us,.agg fs,.string ⟨s.toArray⟩] w fun e w'=>ZM [] w e w':=by
 have hn:∀x∈ownNames,(s==x)=false:=fun x hx=>by
  rw [c11_];intro e;subst e;rw [List.contains_iff_mem.2 hx] at h;cases h
 have e0:=hn [68,101,115,99,114,105,112,116,105,111,110] d_;have e1:=hn [68,101,102,97,117,108,116,68,101,112,101,110,100,101,110,99,105,101,115] d_;have e2:=hn [83,116,97,114,116,76,105,109,105,116,73,110,116,101,114,118,97,108,83,101,99] d_;have e3:=hn [83,116,97,114,116,76,105,109,105,116,66,117,114,115,116] d_;have e4:=hn [84,121,112,101] d_;have e5:=hn [82,101,109,97,105,110,65,102,116,101,114,69,120,105,116] d_;have e6:=hn [82,101,115,116,97,114,116] d_;have e7:=hn [82,101,115,116,97,114,116,83,101,99] d_;have e8:=hn [84,105,109,101,111,117,116,83,116,97,114,116,83,101,99] d_;have e9:=hn [84,105,109,101,111,117,116,83,116,111,112,83,101,99] d_;have e10:=hn [66,97,99,107,108,111,103] d_;have e11:=hn [70,105,108,101,68,101,115,99,114,105,112,116,111,114,78,97,109,101] d_;have e12:=hn [83,101,114,118,105,99,101] d_;have e13:=hn [85,110,105,116] d_;have e14:=hn [80,101,114,115,105,115,116,101,110,116] d_;have e15:=hn [68,101,102,97,117,108,116,73,110,115,116,97,110,99,101] d_;clear hn h;have HB:=h_ (((Below.refl w.heap.size w).alloc l_ (.cells us 28)).alloc s_ (.cells fs 28));go_enter func110,ntmps110;go_wp2_with fail;go_ret;unfold ZM;exact ⟨none,0,rfl,fun i hi=>absurd hi (Nat.not_lt_zero _),l_,HB.out⟩
theorem Zoo:(Zc.all fun k=>k.list==!(ownNames.contains k.name))=true:=n1_
theorem ZqY:(Zc.all fun k=>k.list||((k.name==[68,101,115,99,114,105,112,116,105,111,110]&&(Zb k.name==2&&(k.form==1||k.form==5)))||(k.name==[68,101,102,97,117,108,116,68,101,112,101,110,100,101,110,99,105,101,115]&&(Zb k.name==3&&(k.form==2)))||(k.name==[83,116,97,114,116,76,105,109,105,116,73,110,116,101,114,118,97,108,83,101,99]&&(Zb k.name==5&&(k.form==4)))||(k.name==[83,116,97,114,116,76,105,109,105,116,66,117,114,115,116]&&(Zb k.name==6&&(k.form==3)))||(k.name==[84,121,112,101]&&(Zb k.name==7&&(k.form==10&&k.words==[[115,105,109,112,108,101],[111,110,101,115,104,111,116],[110,111,116,105,102,121]])))||(k.name==[82,101,109,97,105,110,65,102,116,101,114,69,120,105,116]&&(Zb k.name==13&&(k.form==2)))||(k.name==[82,101,115,116,97,114,116]&&(Zb k.name==14&&(k.form==10&&k.words==[[110,111],[111,110,45,115,117,99,99,101,115,115],[111,110,45,102,97,105,108,117,114,101],[111,110,45,97,98,110,111,114,109,97,108],[97,108,119,97,121,115]])))||(k.name==[82,101,115,116,97,114,116,83,101,99]&&(Zb k.name==15&&(k.form==4)))||(k.name==[84,105,109,101,111,117,116,83,116,97,114,116,83,101,99]&&(Zb k.name==16&&(k.form==4)))||(k.name==[84,105,109,101,111,117,116,83,116,111,112,83,101,99]&&(Zb k.name==17&&(k.form==4)))||(k.name==[66,97,99,107,108,111,103]&&(Zb k.name==22&&(k.form==3)))||(k.name==[70,105,108,101,68,101,115,99,114,105,112,116,111,114,78,97,109,101]&&(Zb k.name==23&&(k.form==1||k.form==5)))||(k.name==[83,101,114,118,105,99,101]&&(Zb k.name==24&&(k.form==1||k.form==5)))||(k.name==[85,110,105,116]&&(Zb k.name==24&&(k.form==1||k.form==5)))||(k.name==[80,101,114,115,105,115,116,101,110,116]&&(Zb k.name==29&&(k.form==2)))||(k.name==[68,101,102,97,117,108,116,73,110,115,116,97,110,99,101]&&(Zb k.name==34&&(k.form==1||k.form==5)))))=true:=n1_
theorem Zty(us fs:Array Value)(u f:UV)(k:ZE)(w:World)(hu:ZV w us u)(hf:ZV w fs f)(tu:ZH u)(tf:ZH f)(hk:k∈Zc)(hr:∀j,-9223372036854775808<=(u j).num/\(u j).num<=9223372036854775807) :
  Calls prog 110 #[.agg us,.agg fs,.string ⟨k.name.toArray⟩] w fun e w'=>ZM (QZ u f k) w e w':=by
 have h0:=c7_.1 Zoo k hk;cases hl:k.list with
 |true=>
  rw [hl] at h0;have e:QZ u f k=[]:=by unfold QZ;rw [if_pos hl]
  rw [e];exact Zql us fs k.name w (by cases h:ownNames.contains k.name with|false=>rfl|true=>rw [h] at h0;cases h0)
 |false=>
  have h1:=c7_.1 ZqY k hk;simp only [hl,Bool.false_or,Bool.or_eq_true,Bool.and_eq_true,beq_iff_eq] at h1;have e:QZ u f k=if u (Zb k.name)=f (Zb k.name) then [] else [Zbx (u (Zb k.name)) k]:=by unfold QZ;rw [if_neg (by rw [hl];decide)]
  rw [e];clear e h0;have str:∀j,j<35->ZK j=.s []->∀n:Str,(∀(x y:Str),us[j]?=some (.string ⟨x.toArray⟩)->fs[j]?=some (.string ⟨y.toArray⟩)->Calls prog 110 #[.agg us,.agg fs,.string ⟨n.toArray⟩] w fun e w'=>ZM (if x=y then [] else [x]) w e w')->(k.form=1\/k.form=5)->
    Calls prog 110 #[.agg us,.agg fs,.string ⟨n.toArray⟩] w fun e w'=>ZM (if u j=f j then [] else [Zbx (u j) k]) w e w':=fun j hj hz n hc hfm=>by
   obtain ⟨v,hv,sv⟩:=YB hu hj;obtain ⟨z,hz',sz⟩:=YB hf hj;obtain ⟨x,ex⟩:=ZoB ((tu j).trans (by rw [hz];rfl));obtain ⟨y,ey⟩:=ZoB ((tf j).trans (by rw [hz];rfl));rw [ex] at sv;rw [ey] at sz;obtain rfl:v=.string ⟨x.toArray⟩:=sv;obtain rfl:z=.string ⟨y.toArray⟩:=sz
   have:=hc x y hv hz'
   rw [ex,ey];have e:Zbx (UC.s x) k=x:=by unfold Zbx;rw [if_pos hfm];rfl
   rw [e];simpa only [UC.s.injEq] using this
  have bol:∀j,j<35->ZK j=.b false->∀n:Str,(∀(x y:Bool),us[j]?=some (.bool x)->fs[j]?=some (.bool y)->Calls prog 110 #[.agg us,.agg fs,.string ⟨n.toArray⟩] w fun e w'=>ZM (if x=y then [] else [Qo x]) w e w')->k.form=2->
    Calls prog 110 #[.agg us,.agg fs,.string ⟨n.toArray⟩] w fun e w'=>ZM (if u j=f j then [] else [Zbx (u j) k]) w e w':=fun j hj hz n hc hfm=>by
   obtain ⟨v,hv,sv⟩:=YB hu hj;obtain ⟨z,hz',sz⟩:=YB hf hj;obtain ⟨x,ex⟩:=Zt8 ((tu j).trans (by rw [hz];rfl));obtain ⟨y,ey⟩:=Zt8 ((tf j).trans (by rw [hz];rfl));rw [ex] at sv;rw [ey] at sz;obtain rfl:v=.bool x:=sv;obtain rfl:z=.bool y:=sz
   have:=hc x y hv hz'
   rw [ex,ey];have e:Zbx (UC.b x) k=Qo x:=by unfold Zbx;rw [if_neg (by rw [hfm];decide),if_pos hfm];rfl
   rw [e];simpa only [UC.b.injEq] using this
  have num:∀j,j<35->ZK j=.n 0->∀(n:Str) (g:Int->Str),(∀(x y:Int),us[j]?=some (.int .i64 x)->fs[j]?=some (.int .i64 y)->(-9223372036854775808<=x/\x<=9223372036854775807)->Calls prog 110 #[.agg us,.agg fs,.string ⟨n.toArray⟩] w fun e w'=>ZM (if x=y then [] else [g x]) w e w')->(∀x,Zbx (UC.n x) k=g x)->
    Calls prog 110 #[.agg us,.agg fs,.string ⟨n.toArray⟩] w fun e w'=>ZM (if u j=f j then [] else [Zbx (u j) k]) w e w':=fun j hj hz n g hc hg=>by
   obtain ⟨v,hv,sv⟩:=YB hu hj;obtain ⟨z,hz',sz⟩:=YB hf hj;obtain ⟨x,ex⟩:=ZtC ((tu j).trans (by rw [hz];rfl));obtain ⟨y,ey⟩:=ZtC ((tf j).trans (by rw [hz];rfl));have hrj:=hr j;rw [ex] at sv hrj;rw [ey] at sz;obtain rfl:v=.int .i64 x:=sv;obtain rfl:z=.int .i64 y:=sz
   have:=hc x y hv hz' hrj
   rw [ex,ey,hg];simpa only [UC.n.injEq] using this
  have hnum:∀m,k.form=m->m≠1->m≠5->m≠2->∀x,Zbx (UC.n x) k=Q7 k x:=fun m hm a1 a5 a2 x=>by
   unfold Zbx;rw [hm,if_neg (by simp [a1,a5]),if_neg a2];rfl
  rcases h1 with ((((((((((((((⟨e,s,g⟩|⟨e,s,g⟩)|⟨e,s,g⟩)|⟨e,s,g⟩)|⟨e,s,g⟩)|⟨e,s,g⟩)|⟨e,s,g⟩)|⟨e,s,g⟩)|⟨e,s,g⟩)|⟨e,s,g⟩)|⟨e,s,g⟩)|⟨e,s,g⟩)|⟨e,s,g⟩)|⟨e,s,g⟩)|⟨e,s,g⟩)|⟨e,s,g⟩
  ·rw [s,e]
   exact str 2 d_ rfl _ (fun x y h1 h2=>ZfQ us fs x y w h1 h2) g
  ·rw [s,e]
   exact bol 3 d_ rfl _ (fun x y h1 h2=>ZbL us fs x y w h1 h2) g
  ·rw [s,e]
   exact num 5 d_ rfl _ Yj (fun x y h1 h2 h3=>ZaW us fs x y w h1 h2 h3) (fun x=>(hnum 4 g d_ d_ d_ x).trans n107_)
  ·rw [s,e]
   exact num 6 d_ rfl _ YP (fun x y h1 h2 h3=>ZcZ us fs x y w h1 h2 h3) (fun x=>(hnum 3 g d_ d_ d_ x).trans (by unfold Q7;rw [g];rfl))
  ·rw [s,e]
   exact num 7 d_ rfl _ (Zan _) (fun x y h1 h2 h3=>ZrI us fs x y w h1 h2 h3) (fun x=>(hnum 10 g.1 d_ d_ d_ x).trans (by unfold Q7 Zan;rw [g.1,g.2];rfl))
  ·rw [s,e]
   exact bol 13 d_ rfl _ (fun x y h1 h2=>Zc6 us fs x y w h1 h2) g
  ·rw [s,e]
   exact num 14 d_ rfl _ (Zan _) (fun x y h1 h2 h3=>ZkM us fs x y w h1 h2 h3) (fun x=>(hnum 10 g.1 d_ d_ d_ x).trans (by unfold Q7 Zan;rw [g.1,g.2];rfl))
  ·rw [s,e]
   exact num 15 d_ rfl _ Yj (fun x y h1 h2 h3=>ZgK us fs x y w h1 h2 h3) (fun x=>(hnum 4 g d_ d_ d_ x).trans n107_)
  ·rw [s,e]
   exact num 16 d_ rfl _ Yj (fun x y h1 h2 h3=>Zdj us fs x y w h1 h2 h3) (fun x=>(hnum 4 g d_ d_ d_ x).trans n107_)
  ·rw [s,e]
   exact num 17 d_ rfl _ Yj (fun x y h1 h2 h3=>ZdQ us fs x y w h1 h2 h3) (fun x=>(hnum 4 g d_ d_ d_ x).trans n107_)
  ·rw [s,e]
   exact num 22 d_ rfl _ YP (fun x y h1 h2 h3=>Zj8 us fs x y w h1 h2 h3) (fun x=>(hnum 3 g d_ d_ d_ x).trans (by unfold Q7;rw [g];rfl))
  ·rw [s,e]
   exact str 23 d_ rfl _ (fun x y h1 h2=>Zb5 us fs x y w h1 h2) g
  ·rw [s,e]
   exact str 24 d_ rfl _ (fun x y h1 h2=>Zj6 us fs x y w h1 h2) g
  ·rw [s,e]
   exact str 24 d_ rfl _ (fun x y h1 h2=>Zp6 us fs x y w h1 h2) g
  ·rw [s,e]
   exact bol 29 d_ rfl _ (fun x y h1 h2=>ZgI us fs x y w h1 h2) g
  ·rw [s,e]
   exact str 34 d_ rfl _ (fun x y h1 h2=>Zdb us fs x y w h1 h2) g
end Go.Proofs.YtmgmbeipbeknaaaGreatDoor
