import Derived.Test.YtmgmbeipbeknaaaGreatDoorRT27
import Derived.Test.YtmgmbeipbeknaaaGreatDoorRT28
import Derived.Test.YtmgmbeipbeknaaaGreatDoorRT39
namespace Go.Proofs.YtmgmbeipbeknaaaGreatDoor
open Go Go.RowKit
set_option linter.unusedVariables false
set_option linter.unusedSimpArgs false
set_option maxHeartbeats 16000000
set_option maxRecDepth 100000
theorem ZhF(c a:Int):((#[.int .i64 c,.int .i64 a]:Array Value).all fun x=>x.oneCell')=true:=n38_
theorem Zjk{w2 w3 w4:World}{cs:Array Value}(h3:w3.heap[w2.heap.size]?=some (.cells Zd 28 (0,0)))(hb3:Below w2.heap.size w2 w3)
  (h4:w4.heap[w2.heap.size]?=some (.cells cs 28 (0,0))) (hf4:Fr (fun k=>k=w2.heap.size) (w3.alloc (.cells #[.int .i64 0,.int .i64 0] 37)) w4) :
  w4.heap[w3.heap.size]?=some (.cells #[.int .i64 0,.int .i64 0] 37 (0,0))/\Below w2.heap.size w2 w4/\w2.heap.size<w3.heap.size:=by
 have hlt:=Zb h3;have hF:=heap_alloc_new w3 (.cells #[.int .i64 0,.int .i64 0] 37);exact ⟨hf4.heap hF o_,(hb3.alloc hb3.size _).trans (hf4.below _ (by have:=hb3.size;simp;omega) (fun k hk e=>by omega)),hlt⟩
theorem Zhn{w2 w3 w4 w5:World}{cs:Array Value}(h4:w4.heap[w2.heap.size]?=some (.cells cs 28 (0,0)))
  (h:w4.heap[w3.heap.size]?=some (.cells #[.int .i64 0,.int .i64 0] 37 (0,0))/\Below w2.heap.size w2 w4/\w2.heap.size<w3.heap.size) (hf5:Fr (fun k=>k=w3.heap.size) w4 w5) :
  w5.heap[w2.heap.size]?=some (.cells cs 28 (0,0))/\Below w2.heap.size w2 w5/\w2.heap.size<w3.heap.size:=
 ⟨hf5.heap h4 o_,h.2.1.trans (hf5.below _ h.2.1.size (fun k hk e=>by omega)),h.2.2⟩
theorem ZdA(nm:Str)(kind:Int):∀(l:List Ln) (u r:UV),Zx u->QL nm kind u l=.ok r->Zx r
 |[],u,r,h,e=>by injection e with e;rw [<-e];exact h
 |x::t,u,r,h,e=>by
  rw [QL] at e;cases hx:Qx nm kind u x with
  |error c=>rw [hx] at e;cases e
  |ok q=>
   rw [hx] at e;obtain ⟨k,hk,v,rfl,-⟩:=Ze8 hx;exact ZdA nm kind t _ r (h.upd _ _ (ZcT nm k hk v _)) e
theorem Zd7(nm:Str)(l:List Ln):Zx (Qu nm l).1:=by
 unfold Qu;split
 ·exact Zx.zero
 ·split
  ·exact Zx.zero
  ·rename_i u hu
   split
   ·exact Zx.zero
   ·exact ZdA nm _ l _ _ (Zx.new nm) hu
theorem Xl{P:Program}{w:World}{ops:Array Oper}{rest:List Oper}{o:Oper}{a:Act}{Q:Exit->Act->World->Prop}(hg:Region.wanted o (yielded ops a.tmps)=true)(t:TypeId)(x:Operand)(b:Nat)(cells:Array Value)(T:TypeId)(d:TypeDesc)(ho:o.op=Op.load t x)
  (hx:a.eval x=.pointer (some ⟨b,0,none⟩)) (hw:w.heap[b]?=some (.cells cells T (0,0))) (hd:P.underlying t=some d) (hr:d.isRow=true) (hi:(P.info? t).map (·.size)=some cells.size)
  (h:wpList P ops Q rest (a.put o.dst (.agg cells)) w):wpList P ops Q (o::rest) a w:=by
 refine wpList_step fun K hK=>?_
 rw [if_pos hg];exact Ye t x b cells T d ho hx hw hd hr hi (hK _ _ h)
theorem ZnS{P:Program}{w:World}{ops:Array Oper}{rest:List Oper}{o:Oper}{a:Act}{Q:Exit->Act->World->Prop}(hg:Region.wanted o (yielded ops a.tmps)=true)(t:TypeId)(parts:Array (Nat×Operand))(vs:Array (Nat×Value))(cells:Array Value)(ho:o.op=Op.build t parts)
  (hv:(parts.map fun x=>(x.1,a.eval x.2))=vs) (hb:(Instr.build t vs).run P w=.ok (.agg cells) w) (h:wpList P ops Q rest (a.put o.dst (.agg cells)) w):wpList P ops Q (o::rest) a w:=by
 refine wpList_step fun K hK=>?_
 rw [if_pos hg];exact Zfi t parts vs cells ho hv hb (hK _ _ h)
open Go.Proofs.Tryz
def ZfX:Array Value:=#[.string ⟨#[]⟩,.string ⟨#[]⟩,.string ⟨#[]⟩,.string ⟨#[]⟩,.string ⟨#[]⟩,.int .i64 0,.int .i64 0,.int .i64 0,.int .i64 0,.int .i64 0,.int .i64 0,.int .i64 0,.int .i64 0,.int .i64 0,.bool false,.bool false,.bool false]
theorem Zsh(x0:Str)(x2:Str)(x23:Str)(x24:Str)(x34:Str)(x1:Int)(x5:Int)(x6:Int)(x7:Int)(x14:Int)(x15:Int)(x16:Int)(x17:Int)(x22:Int)(x3:Bool)(x13:Bool)(x29:Bool):((#[.string ⟨x0.toArray⟩,.string ⟨x2.toArray⟩,.string ⟨x23.toArray⟩,.string ⟨x24.toArray⟩,.string ⟨x34.toArray⟩,.int .i64 x1,.int .i64 x5,.int .i64 x6,.int .i64 x7,.int .i64 x14,.int .i64 x15,.int .i64 x16,.int .i64 x17,.int .i64 x22,.bool x3,.bool x13,.bool x29]:Array Value).all fun x=>x.oneCell')=true:=n38_
theorem Zpx(cs:Array Value)(h35:cs.size=35)(x0:Str)(x2:Str)(x23:Str)(x24:Str)(x34:Str)(x1:Int)(x5:Int)(x6:Int)(x7:Int)(x14:Int)(x15:Int)(x16:Int)(x17:Int)(x22:Int)(x3:Bool)(x13:Bool)(x29:Bool)(w:World)(h0:cs[0]?=some (.string ⟨x0.toArray⟩))(h2:cs[2]?=some (.string ⟨x2.toArray⟩))(h23:cs[23]?=some (.string ⟨x23.toArray⟩))(h24:cs[24]?=some (.string ⟨x24.toArray⟩))(h34:cs[34]?=some (.string ⟨x34.toArray⟩))(h1:cs[1]?=some (.int .i64 x1))(h5:cs[5]?=some (.int .i64 x5))(h6:cs[6]?=some (.int .i64 x6))(h7:cs[7]?=some (.int .i64 x7))(h14:cs[14]?=some (.int .i64 x14))(h15:cs[15]?=some (.int .i64 x15))(h16:cs[16]?=some (.int .i64 x16))(h17:cs[17]?=some (.int .i64 x17))(h22:cs[22]?=some (.int .i64 x22))(h3:cs[3]?=some (.bool x3))(h13:cs[13]?=some (.bool x13))(h29:cs[29]?=some (.bool x29)) :
  Calls prog 31 #[.agg cs] w fun e w'=>e=.returned (.agg #[.string ⟨x0.toArray⟩,.string ⟨x2.toArray⟩,.string ⟨x23.toArray⟩,.string ⟨x24.toArray⟩,.string ⟨x34.toArray⟩,.int .i64 x1,.int .i64 x5,.int .i64 x6,.int .i64 x7,.int .i64 x14,.int .i64 x15,.int .i64 x16,.int .i64 x17,.int .i64 x22,.bool x3,.bool x13,.bool x29])/\Below w.heap.size w w':=by
 have hB1:Below w.heap.size w (w.alloc (.cells cs 28)):=b_.alloc l_ _;have hz:(w.alloc (.cells cs 28)).heap.size=w.heap.size+1:=s_;have hB2:Below (w.alloc (.cells cs 28)).heap.size (w.alloc (.cells cs 28)) ((w.alloc (.cells cs 28)).alloc (.cells ZfX 59)):=b_.alloc l_ _;have hga:=Za (heap_alloc_new w (.cells cs 28)) hB2;have hgb:=heap_alloc_new (w.alloc (.cells cs 28)) (.cells ZfX 59);rw [hz] at hgb;have HB:=h_ (Below.more hB1 hB2);obtain ⟨w2,hw2⟩:=e_ ((w.alloc (.cells cs 28)).alloc (.cells ZfX 59));rw [<-hw2] at hga hgb HB;have HGB:=h_ hgb;have HW2:=h_ hw2;have hc:=(rd hga).1;have k0:=(hc 0).trans h0;have k2:=(hc 2).trans h2;have k23:=(hc 23).trans h23;have k24:=(hc 24).trans h24;have k34:=(hc 34).trans h34;have k1:=(hc 1).trans h1;have k5:=(hc 5).trans h5;have k6:=(hc 6).trans h6;have k7:=(hc 7).trans h7;have k14:=(hc 14).trans h14;have k15:=(hc 15).trans h15;have k16:=(hc 16).trans h16;have k17:=(hc 17).trans h17;have k22:=(hc 22).trans h22;have k3:=(hc 3).trans h3;have k13:=(hc 13).trans h13;have k29:=(hc 29).trans h29;clear hB1 hB2 hz hga hgb hw2 hc h0 h2 h23 h24 h34 h1 h5 h6 h7 h14 h15 h16 h17 h22 h3 h13 h29;go_enter func31,ntmps31;go_upto_region 1 with fail
 unfold ZfX at HW2;rw [<-HW2.out];clear HW2;go_wp2_with (refine Yi rfl 59 _ _ (w.heap.size+1) #[.string ⟨x0.toArray⟩,.string ⟨x2.toArray⟩,.string ⟨x23.toArray⟩,.string ⟨x24.toArray⟩,.string ⟨x34.toArray⟩,.int .i64 x1,.int .i64 x5,.int .i64 x6,.int .i64 x7,.int .i64 x14,.int .i64 x15,.int .i64 x16,.int .i64 x17,.int .i64 x22,.bool x3,.bool x13,.bool x29] ZfX 59 rfl rfl rfl HGB.out rfl rfl (Zsh x0 x2 x23 x24 x34 x1 x5 x6 x7 x14 x15 x16 x17 x22 x3 x13 x29) ?_;intro w4 h4 hf4);refine Js 2 59 (w.heap.size+1) (.agg #[.string ⟨x0.toArray⟩,.string ⟨x2.toArray⟩,.string ⟨x23.toArray⟩,.string ⟨x24.toArray⟩,.string ⟨x34.toArray⟩,.int .i64 x1,.int .i64 x5,.int .i64 x6,.int .i64 x7,.int .i64 x14,.int .i64 x15,.int .i64 x16,.int .i64 x17,.int .i64 x22,.bool x3,.bool x13,.bool x29]) rfl rfl rfl (Xe 59 _ rfl rfl rfl h4) ⟨rfl,HB.out.trans (hf4.below _ HB.out.size (fun k hk e=>by omega))⟩
theorem Zre{p:Prop}[Decidable p](q c:Bool)(X:Result Bool)(w:World)(hq:q=true↔p)(h:X=.ok c w):(if p then X else .ok false w)=.ok (q&&c) w:=by
 by_cases e:p
 ·rw [if_pos e,h,hq.2 e];rfl
 ·rw [if_neg e,Bool.eq_false_iff.2 (fun h=>e (hq.1 h))];rfl
theorem Zo9{p:Prop}[Decidable p](q:Bool)(w:World)(hq:q=true↔p):(if p then Result.ok true w else .ok false w)=.ok q w:=by
 by_cases e:p
 ·rw [if_pos e,hq.2 e]
 ·rw [if_neg e,Bool.eq_false_iff.2 (fun h=>e (hq.1 h))]
theorem ZsY(x0:Str)(x2:Str)(x23:Str)(x24:Str)(x34:Str)(x1:Int)(x5:Int)(x6:Int)(x7:Int)(x14:Int)(x15:Int)(x16:Int)(x17:Int)(x22:Int)(x3:Bool)(x13:Bool)(x29:Bool)(y0:Str)(y2:Str)(y23:Str)(y24:Str)(y34:Str)(y1:Int)(y5:Int)(y6:Int)(y7:Int)(y14:Int)(y15:Int)(y16:Int)(y17:Int)(y22:Int)(y3:Bool)(y13:Bool)(y29:Bool)(w:World)(r:Bool)(hr:((x0==y0)&&((x2==y2)&&((x23==y23)&&((x24==y24)&&((x34==y34)&&((x1==y1)&&((x5==y5)&&((x6==y6)&&((x7==y7)&&((x14==y14)&&((x15==y15)&&((x16==y16)&&((x17==y17)&&((x22==y22)&&((x3==y3)&&((x13==y13)&&(x29==y29)))))))))))))))))=r):(Op.equalIn 10000 59 (.agg #[.string ⟨x0.toArray⟩,.string ⟨x2.toArray⟩,.string ⟨x23.toArray⟩,.string ⟨x24.toArray⟩,.string ⟨x34.toArray⟩,.int .i64 x1,.int .i64 x5,.int .i64 x6,.int .i64 x7,.int .i64 x14,.int .i64 x15,.int .i64 x16,.int .i64 x17,.int .i64 x22,.bool x3,.bool x13,.bool x29]) (.agg #[.string ⟨y0.toArray⟩,.string ⟨y2.toArray⟩,.string ⟨y23.toArray⟩,.string ⟨y24.toArray⟩,.string ⟨y34.toArray⟩,.int .i64 y1,.int .i64 y5,.int .i64 y6,.int .i64 y7,.int .i64 y14,.int .i64 y15,.int .i64 y16,.int .i64 y17,.int .i64 y22,.bool y3,.bool y13,.bool y29])).run prog w=.ok r w:=by
 have u3:=underlying3;have u9:=underlying9;have u4:=underlying4;have a3:=isAgg3;have z3:=sizeOf3;have a9:=isAgg9;have z9:=sizeOf9;have a4:=isAgg4;have z4:=sizeOf4;have hS:prog.underlying 59=some (.struct (prog.fieldsOf 59)):=k_;have hp:prog.stoodInHeld 59=false:=k_;rw [show (10000:Nat)=9999+1 from rfl,run_equalIn_agg w 9999 59 _ _ hS hp];simp only [Program.fieldsOf,underlying59];have HR:=h_ hr;clear hr;go_simp;rw [<-HR.out];repeat (first|exact Zo9 _ _ beq_iff_eq|refine Zre _ _ _ _ beq_iff_eq ?_)
theorem Zl3(x0:Str)(x2:Str)(x23:Str)(x24:Str)(x34:Str)(x1:Int)(x5:Int)(x6:Int)(x7:Int)(x14:Int)(x15:Int)(x16:Int)(x17:Int)(x22:Int)(x3:Bool)(x13:Bool)(x29:Bool)(y0:Str)(y2:Str)(y23:Str)(y24:Str)(y34:Str)(y1:Int)(y5:Int)(y6:Int)(y7:Int)(y14:Int)(y15:Int)(y16:Int)(y17:Int)(y22:Int)(y3:Bool)(y13:Bool)(y29:Bool)(w:World)(r:Bool)(hr:((x0==y0)&&((x2==y2)&&((x23==y23)&&((x24==y24)&&((x34==y34)&&((x1==y1)&&((x5==y5)&&((x6==y6)&&((x7==y7)&&((x14==y14)&&((x15==y15)&&((x16==y16)&&((x17==y17)&&((x22==y22)&&((x3==y3)&&((x13==y13)&&(x29==y29)))))))))))))))))=r):(binOp .eql 59 (.agg #[.string ⟨x0.toArray⟩,.string ⟨x2.toArray⟩,.string ⟨x23.toArray⟩,.string ⟨x24.toArray⟩,.string ⟨x34.toArray⟩,.int .i64 x1,.int .i64 x5,.int .i64 x6,.int .i64 x7,.int .i64 x14,.int .i64 x15,.int .i64 x16,.int .i64 x17,.int .i64 x22,.bool x3,.bool x13,.bool x29]) (.agg #[.string ⟨y0.toArray⟩,.string ⟨y2.toArray⟩,.string ⟨y23.toArray⟩,.string ⟨y24.toArray⟩,.string ⟨y34.toArray⟩,.int .i64 y1,.int .i64 y5,.int .i64 y6,.int .i64 y7,.int .i64 y14,.int .i64 y15,.int .i64 y16,.int .i64 y17,.int .i64 y22,.bool y3,.bool y13,.bool y29])).run prog w=.ok (.bool r) w:=by
 rw [run_eql_struct,ZsY x0 x2 x23 x24 x34 x1 x5 x6 x7 x14 x15 x16 x17 x22 x3 x13 x29 y0 y2 y23 y24 y34 y1 y5 y6 y7 y14 y15 y16 y17 y22 y3 y13 y29 w r hr];rfl
theorem Zrq:prog.eqGuardType prog.depth 59=false:=k_
theorem Zif(op:BinOp)(x y:Operand)(xs ys:Array Value)(w:World):(eqGuard op 59 x y (.agg xs) (.agg ys)).run prog w=.ok () w:=run_eqGuard_agg w op _ x y xs ys Zrq
end Go.Proofs.YtmgmbeipbeknaaaGreatDoor
