import Derived.Test.YtgoooebfhdbbkaaGreatDoorUM8
import Derived.Test.YtgoooebfhdbbkaaGreatDoorUM22
import Derived.Test.YtgoooebfhdbbkaaGreatDoorUM27
import Derived.Test.YtgoooebfhdbbkaaGreatDoorUM29
namespace Go.Proofs.YtgoooebfhdbbkaaGreatDoor
open Go.Proofs.Tryz
open Go Go.RowKit
set_option linter.unusedVariables false
set_option linter.unusedSimpArgs false
set_option maxHeartbeats 16000000
set_option maxRecDepth 100000
theorem m93_{p:Prop}(h:p:=by intro w3 w4 h3 hb3 hf4;have hne:w.heap.size≠w2.heap.size:=o_;have e3:=(hb3.block _ hl1).trans h1'.out;have e4:w4.heap[w.heap.size]?=_:=(hf4.block _ (Zg e3) hne).trans e3;refine ⟨e4,?_⟩;refine hb12.out.trans ?_;exact (hb3.mono o_).trans (hf4.below _ (Nat.le_of_lt (Nat.lt_of_lt_of_le hl1 hb3.size)) (fun k hk e=>by omega))):p:=h
theorem m94_{p:Prop}(h:p:=by have hb:=hz2.out _ _ h3 hb3 hf4;refine X8 2 30 w.heap.size _ rfl rfl rfl (YI 30 _ rfl rfl rfl h9) ⟨rfl,?_⟩;exact hb.2.trans (hf9.below _ hb.2.size (fun k hk e=>by omega))):p:=h
def Zf:Array Value:=#[.string ⟨#[]⟩,.int .i64 0,.string ⟨#[]⟩,.bool false,.slice none 0 0,.int .i64 0,.int .i64 0,.int .i64 0,.slice none 0 0,.slice none 0 0,.slice none 0 0,.slice none 0 0,.slice none 0 0,.bool false,.int .i64 0,.int .i64 0,.int .i64 0,.int .i64 0,.slice none 0 0,.slice none 0 0,.slice none 0 0,.slice none 0 0,.int .i64 0,.string ⟨#[]⟩,.string ⟨#[]⟩,.slice none 0 0,.slice none 0 0,.slice none 0 0,.slice none 0 0,.bool false,.slice none 0 0,.slice none 0 0,.slice none 0 0,.slice none 0 0,.string ⟨#[]⟩]
def ZbK(s:Str)(k:Int):Array Value:=#[.string ⟨s.toArray⟩,.int .i64 k,.string ⟨#[]⟩,.bool true,.slice none 0 0,.int .i64 10,.int .i64 5,.int .i64 0,.slice none 0 0,.slice none 0 0,.slice none 0 0,.slice none 0 0,.slice none 0 0,.bool false,.int .i64 0,.int .i64 0,.int .i64 0,.int .i64 0,.slice none 0 0,.slice none 0 0,.slice none 0 0,.slice none 0 0,.int .i64 0,.string ⟨#[]⟩,.string ⟨#[]⟩,.slice none 0 0,.slice none 0 0,.slice none 0 0,.slice none 0 0,.bool false,.slice none 0 0,.slice none 0 0,.slice none 0 0,.slice none 0 0,.string ⟨#[]⟩]
def ZmT(s:Str):Array Value:=#[.string ⟨s.toArray⟩,.int .i64 1,.string ⟨#[]⟩,.bool true,.slice none 0 0,.int .i64 10,.int .i64 5,.int .i64 1,.slice none 0 0,.slice none 0 0,.slice none 0 0,.slice none 0 0,.slice none 0 0,.bool false,.int .i64 1,.int .i64 0,.int .i64 90,.int .i64 90,.slice none 0 0,.slice none 0 0,.slice none 0 0,.slice none 0 0,.int .i64 0,.string ⟨#[]⟩,.string ⟨#[]⟩,.slice none 0 0,.slice none 0 0,.slice none 0 0,.slice none 0 0,.bool false,.slice none 0 0,.slice none 0 0,.slice none 0 0,.slice none 0 0,.string ⟨#[]⟩]
def ZmM(s:Str):Array Value:=#[.string ⟨s.toArray⟩,.int .i64 2,.string ⟨#[]⟩,.bool true,.slice none 0 0,.int .i64 10,.int .i64 5,.int .i64 0,.slice none 0 0,.slice none 0 0,.slice none 0 0,.slice none 0 0,.slice none 0 0,.bool false,.int .i64 0,.int .i64 0,.int .i64 0,.int .i64 0,.slice none 0 0,.slice none 0 0,.slice none 0 0,.slice none 0 0,.int .i64 16,.string ⟨#[]⟩,.string ⟨#[]⟩,.slice none 0 0,.slice none 0 0,.slice none 0 0,.slice none 0 0,.bool false,.slice none 0 0,.slice none 0 0,.slice none 0 0,.slice none 0 0,.string ⟨#[]⟩]
def Zpl:UC->Value
 |.s x=>.string ⟨x.toArray⟩
 |.n x=>.int .i64 x
 |.b x=>.bool x
 |_=>.slice none 0 0
def Yh(u:UV):Array Value:=((List.range 35).map fun j=>Zpl (u j)).toArray
theorem ZiB(w:World)(c:UC)(h:c.len=0):Yg w (fun _=>False) c (Zpl c):=by
 have hn:∀g,(Value.slice none 0 0).ownBlock=some g->False:=fun g hg=>by simp [Value.ownBlock] at hg
 cases c with
 |s x=>rfl
 |n x=>rfl
 |b x=>rfl
 |ss l=>obtain rfl:l=[]:=List.eq_nil_of_length_eq_zero h;exact ⟨World.ownsRow_nil _ _ _ _,hn⟩
 |ns l=>obtain rfl:l=[]:=List.eq_nil_of_length_eq_zero h;exact ⟨World.ownsRow_nil _ _ _ _,hn⟩
 |rs l=>obtain rfl:l=[]:=List.eq_nil_of_length_eq_zero h;exact ⟨World.ownsRow_nil _ _ _ _,hn⟩
 |ps l=>obtain rfl:l=[]:=List.eq_nil_of_length_eq_zero h;exact ⟨World.ownsRow_nil _ _ _ _,hn⟩
 |cs l=>obtain rfl:l=[]:=List.eq_nil_of_length_eq_zero h;exact ⟨[],rfl,World.ownsRow_nil _ _ _ _,hn,fun i h1 h2=>absurd h1 s_⟩
theorem ZnY:Yh ZV=Zf:=rfl
theorem ZmD(s:Str)(h:Zw s=0):Yh (Yw s)=Zf:=by unfold Yw;rw [if_pos h];rfl
theorem ZdF(s:Str)(k:Nat)(h:Zw s=k)(h0:k≠0)(h1:k≠1)(h2:k≠2):Yh (Yw s)=ZbK s k:=by
 unfold Yw;rw [h,if_neg h0];simp only;rw [if_neg h1,if_neg h2];rfl
theorem Zi6(s:Str)(h:Zw s=1):Yh (Yw s)=ZmT s:=by
 unfold Yw;rw [h,if_neg d_];simp only;rw [if_pos d_];rfl
theorem Zj5(s:Str)(h:Zw s=2):Yh (Yw s)=ZmM s:=by
 unfold Yw;rw [h,if_neg d_];simp only;rw [if_neg d_,if_pos d_];rfl
theorem Zz(w:World):(Instr.alloc 30 true (.tuple #[])).run prog w=.ok (.pointer (some ⟨w.heap.size,0,none⟩)) (w.alloc (.cells Zf 30)):=rfl
theorem J9(s:Str)(k:Int)(w:World):(Instr.build 30 #[(0,.string ⟨s.toArray⟩),(1,.int .i64 k),(3,.bool true),(5,.int .i64 10),(6,.int .i64 5)]).run prog w=.ok (.agg (ZbK s k)) w:=
 run_build w _ _ _ rfl
theorem Yq(w:World):(Instr.build 30 #[]).run prog w=.ok (.agg Zf) w:=run_build w _ _ _ rfl
theorem Zdr:(Zf.all fun x=>x.oneCell')=true:=n86_
theorem Q0(s:Str)(k:Int):((ZbK s k).all fun x=>x.oneCell')=true:=n86_
theorem ZhI(s:Str):((ZmT s).all fun x=>x.oneCell')=true:=n86_
theorem Zhv(s:Str):((ZmM s).all fun x=>x.oneCell')=true:=n86_
theorem Zrv(s:Str)(w:World)(hs:s.length<4294967281)(hm:ZA w)(hk:Zw s=0) :
  Calls prog 8 #[.string ⟨s.toArray⟩] w fun e w'=>e=.returned (.agg (Yh (Yw s)))/\Below w.heap.size w w':=by
 rw [ZmD s hk];have HK:=h_ (fun w' (h:Below w.heap.size w w')=>show Calls prog 22 #[.string ⟨s.toArray⟩] w' fun e w''=>e=.returned (.int .i64 0)/\Below w'.heap.size w' w'' from JA ⟨s.toArray⟩ w' n65_ (hm.below h) 0 hk);have HB:=h_ (J9 s 0);clear hk;have Z0:=h_ (Q0 s 0);have Z1:=h_ Zdr;go_enter func8,ntmps8;go_wp2_with (refine Yx rfl _ Zf rfl (Zz _) ?_;intro w1 h1 hb1);refine (HK.out _ hb1).mono ?_;rintro e w2 ⟨rfl,hb2⟩;have hb12:=h_ (Below.more hb1 hb2);have h1':=h_ ((hb2.block _ (Zg h1)).trans h1);have hl1:w.heap.size<w2.heap.size:=Zg h1'.out;have hz2:∀w3 w4:World,w3.heap[w2.heap.size]?=some (.cells Zf 30 (0,0))->Below w2.heap.size w2 w3->Fr (fun x=>x=w2.heap.size) w3 w4->w4.heap[w.heap.size]?=some (.cells Zf 30 (0,0))/\Below w.heap.size w w4:=by
  exact m93_
 replace hz2:=h_ hz2;have HZ:=h_ (show (ZbK s 0).size=35 from rfl);clear hb1 hb2 h1;go_wp2_with (first
  |(refine YS rfl _ #[] #[] _ rfl s_ (Yq _) ?_)
  |(refine YS rfl _ _ #[(0,.string ⟨s.toArray⟩),(1,.int .i64 0),(3,.bool true),(5,.int .i64 10),(6,.int .i64 5)] _ rfl n92_ (HB.out _) ?_)
  |(refine Yx rfl _ Zf rfl (Zz _) ?_;intro w3 h3 hb3)
  |(refine ZL rfl 30 _ _ w2.heap.size (ZbK s 0) Zf 30 rfl rfl rfl h3 rfl rfl Z0.out ?_;intro w4 h4 hf4;have hc1:w4.cell? ⟨w2.heap.size,1,none⟩=some (.int .i64 0):=(rd h4).1 1)
  |(refine QU rfl 3 _ _ w2.heap.size _ .i64 _ _ _ rfl rfl rfl h4 n133_ _ rfl rfl ?_;intro w5 h5 hf5;replace h4:=h5;replace hf4:=hf4.trans hf5)
  |(refine Js rfl 30 _ w2.heap.size _ 30 _ rfl rfl h4 rfl rfl rfl ?_)
  |(refine ZL rfl 30 _ _ w.heap.size Zf Zf 30 rfl rfl rfl (hz2.out _ _ h3 hb3 hf4).1 rfl rfl Z1.out ?_;intro w9 h9 hf9))
 ·exact m94_
theorem Zrg(s:Str)(w:World)(hs:s.length<4294967281)(hm:ZA w)(hk:Zw s=1) :
  Calls prog 8 #[.string ⟨s.toArray⟩] w fun e w'=>e=.returned (.agg (Yh (Yw s)))/\Below w.heap.size w w':=by
 rw [Zi6 s hk];have HK:=h_ (fun w' (h:Below w.heap.size w w')=>show Calls prog 22 #[.string ⟨s.toArray⟩] w' fun e w''=>e=.returned (.int .i64 1)/\Below w'.heap.size w' w'' from JA ⟨s.toArray⟩ w' n65_ (hm.below h) 1 hk);have HB:=h_ (J9 s 1);clear hk;have Z0:=h_ (Q0 s 1);have Z1:=h_ (ZhI s);go_enter func8,ntmps8;go_wp2_with (refine Yx rfl _ Zf rfl (Zz _) ?_;intro w1 h1 hb1);refine (HK.out _ hb1).mono ?_;rintro e w2 ⟨rfl,hb2⟩;have hb12:=h_ (Below.more hb1 hb2);have h1':=h_ ((hb2.block _ (Zg h1)).trans h1);have hl1:w.heap.size<w2.heap.size:=Zg h1'.out;have hz2:∀w3 w4:World,w3.heap[w2.heap.size]?=some (.cells Zf 30 (0,0))->Below w2.heap.size w2 w3->Fr (fun x=>x=w2.heap.size) w3 w4->w4.heap[w.heap.size]?=some (.cells Zf 30 (0,0))/\Below w.heap.size w w4:=by
  exact m93_
 replace hz2:=h_ hz2;have HZ:=h_ (show (ZbK s 1).size=35 from rfl);clear hb1 hb2 h1;go_wp2_with (first
  |(refine YS rfl _ #[] #[] _ rfl s_ (Yq _) ?_)
  |(refine YS rfl _ _ #[(0,.string ⟨s.toArray⟩),(1,.int .i64 1),(3,.bool true),(5,.int .i64 10),(6,.int .i64 5)] _ rfl n92_ (HB.out _) ?_)
  |(refine Yx rfl _ Zf rfl (Zz _) ?_;intro w3 h3 hb3)
  |(refine ZL rfl 30 _ _ w2.heap.size (ZbK s 1) Zf 30 rfl rfl rfl h3 rfl rfl Z0.out ?_;intro w4 h4 hf4;have hc1:w4.cell? ⟨w2.heap.size,1,none⟩=some (.int .i64 1):=(rd h4).1 1)
  |(refine QU rfl 3 _ _ w2.heap.size _ .i64 _ _ _ rfl rfl rfl h4 n133_ _ rfl rfl ?_;intro w5 h5 hf5;replace h4:=h5;replace hf4:=hf4.trans hf5)
  |(refine Js rfl 30 _ w2.heap.size _ 30 _ rfl rfl h4 rfl rfl rfl ?_)
  |(refine ZL rfl 30 _ _ w.heap.size (ZmT s) Zf 30 rfl rfl rfl (hz2.out _ _ h3 hb3 hf4).1 rfl rfl Z1.out ?_;intro w9 h9 hf9))
 ·exact m94_
theorem Zrc(s:Str)(w:World)(hs:s.length<4294967281)(hm:ZA w)(hk:Zw s=2) :
  Calls prog 8 #[.string ⟨s.toArray⟩] w fun e w'=>e=.returned (.agg (Yh (Yw s)))/\Below w.heap.size w w':=by
 rw [Zj5 s hk];have HK:=h_ (fun w' (h:Below w.heap.size w w')=>show Calls prog 22 #[.string ⟨s.toArray⟩] w' fun e w''=>e=.returned (.int .i64 2)/\Below w'.heap.size w' w'' from JA ⟨s.toArray⟩ w' n65_ (hm.below h) 2 hk);have HB:=h_ (J9 s 2);clear hk;have Z0:=h_ (Q0 s 2);have Z1:=h_ (Zhv s);go_enter func8,ntmps8;go_wp2_with (refine Yx rfl _ Zf rfl (Zz _) ?_;intro w1 h1 hb1);refine (HK.out _ hb1).mono ?_;rintro e w2 ⟨rfl,hb2⟩;have hb12:=h_ (Below.more hb1 hb2);have h1':=h_ ((hb2.block _ (Zg h1)).trans h1);have hl1:w.heap.size<w2.heap.size:=Zg h1'.out;have hz2:∀w3 w4:World,w3.heap[w2.heap.size]?=some (.cells Zf 30 (0,0))->Below w2.heap.size w2 w3->Fr (fun x=>x=w2.heap.size) w3 w4->w4.heap[w.heap.size]?=some (.cells Zf 30 (0,0))/\Below w.heap.size w w4:=by
  exact m93_
 replace hz2:=h_ hz2;have HZ:=h_ (show (ZbK s 2).size=35 from rfl);clear hb1 hb2 h1;go_wp2_with (first
  |(refine YS rfl _ #[] #[] _ rfl s_ (Yq _) ?_)
  |(refine YS rfl _ _ #[(0,.string ⟨s.toArray⟩),(1,.int .i64 2),(3,.bool true),(5,.int .i64 10),(6,.int .i64 5)] _ rfl n92_ (HB.out _) ?_)
  |(refine Yx rfl _ Zf rfl (Zz _) ?_;intro w3 h3 hb3)
  |(refine ZL rfl 30 _ _ w2.heap.size (ZbK s 2) Zf 30 rfl rfl rfl h3 rfl rfl Z0.out ?_;intro w4 h4 hf4;have hc1:w4.cell? ⟨w2.heap.size,1,none⟩=some (.int .i64 2):=(rd h4).1 1)
  |(refine QU rfl 3 _ _ w2.heap.size _ .i64 _ _ _ rfl rfl rfl h4 n133_ _ rfl rfl ?_;intro w5 h5 hf5;replace h4:=h5;replace hf4:=hf4.trans hf5)
  |(refine Js rfl 30 _ w2.heap.size _ 30 _ rfl rfl h4 rfl rfl rfl ?_)
  |(refine ZL rfl 30 _ _ w.heap.size (ZmM s) Zf 30 rfl rfl rfl (hz2.out _ _ h3 hb3 hf4).1 rfl rfl Z1.out ?_;intro w9 h9 hf9))
 ·exact m94_
theorem Zq7(s:Str)(w:World)(hs:s.length<4294967281)(hm:ZA w)(hk:Zw s=3) :
  Calls prog 8 #[.string ⟨s.toArray⟩] w fun e w'=>e=.returned (.agg (Yh (Yw s)))/\Below w.heap.size w w':=by
 rw [ZdF s 3 hk d_ d_ d_];have HK:=h_ (fun w' (h:Below w.heap.size w w')=>show Calls prog 22 #[.string ⟨s.toArray⟩] w' fun e w''=>e=.returned (.int .i64 3)/\Below w'.heap.size w' w'' from JA ⟨s.toArray⟩ w' n65_ (hm.below h) 3 hk);have HB:=h_ (J9 s 3);clear hk;have Z0:=h_ (Q0 s 3);have Z1:=h_ (Q0 s 3);go_enter func8,ntmps8;go_wp2_with (refine Yx rfl _ Zf rfl (Zz _) ?_;intro w1 h1 hb1);refine (HK.out _ hb1).mono ?_;rintro e w2 ⟨rfl,hb2⟩;have hb12:=h_ (Below.more hb1 hb2);have h1':=h_ ((hb2.block _ (Zg h1)).trans h1);have hl1:w.heap.size<w2.heap.size:=Zg h1'.out;have hz2:∀w3 w4:World,w3.heap[w2.heap.size]?=some (.cells Zf 30 (0,0))->Below w2.heap.size w2 w3->Fr (fun x=>x=w2.heap.size) w3 w4->w4.heap[w.heap.size]?=some (.cells Zf 30 (0,0))/\Below w.heap.size w w4:=by
  exact m93_
 replace hz2:=h_ hz2;have HZ:=h_ (show (ZbK s 3).size=35 from rfl);clear hb1 hb2 h1;go_wp2_with (first
  |(refine YS rfl _ #[] #[] _ rfl s_ (Yq _) ?_)
  |(refine YS rfl _ _ #[(0,.string ⟨s.toArray⟩),(1,.int .i64 3),(3,.bool true),(5,.int .i64 10),(6,.int .i64 5)] _ rfl n92_ (HB.out _) ?_)
  |(refine Yx rfl _ Zf rfl (Zz _) ?_;intro w3 h3 hb3)
  |(refine ZL rfl 30 _ _ w2.heap.size (ZbK s 3) Zf 30 rfl rfl rfl h3 rfl rfl Z0.out ?_;intro w4 h4 hf4;have hc1:w4.cell? ⟨w2.heap.size,1,none⟩=some (.int .i64 3):=(rd h4).1 1)
  |(refine QU rfl 3 _ _ w2.heap.size _ .i64 _ _ _ rfl rfl rfl h4 n133_ _ rfl rfl ?_;intro w5 h5 hf5;replace h4:=h5;replace hf4:=hf4.trans hf5)
  |(refine Js rfl 30 _ w2.heap.size _ 30 _ rfl rfl h4 rfl rfl rfl ?_)
  |(refine ZL rfl 30 _ _ w.heap.size (ZbK s 3) Zf 30 rfl rfl rfl (hz2.out _ _ h3 hb3 hf4).1 rfl rfl Z1.out ?_;intro w9 h9 hf9))
 ·exact m94_
theorem Zrh(s:Str)(w:World)(hs:s.length<4294967281)(hm:ZA w)(hk:Zw s=4) :
  Calls prog 8 #[.string ⟨s.toArray⟩] w fun e w'=>e=.returned (.agg (Yh (Yw s)))/\Below w.heap.size w w':=by
 rw [ZdF s 4 hk d_ d_ d_];have HK:=h_ (fun w' (h:Below w.heap.size w w')=>show Calls prog 22 #[.string ⟨s.toArray⟩] w' fun e w''=>e=.returned (.int .i64 4)/\Below w'.heap.size w' w'' from JA ⟨s.toArray⟩ w' n65_ (hm.below h) 4 hk);have HB:=h_ (J9 s 4);clear hk;have Z0:=h_ (Q0 s 4);have Z1:=h_ (Q0 s 4);go_enter func8,ntmps8;go_wp2_with (refine Yx rfl _ Zf rfl (Zz _) ?_;intro w1 h1 hb1);refine (HK.out _ hb1).mono ?_;rintro e w2 ⟨rfl,hb2⟩;have hb12:=h_ (Below.more hb1 hb2);have h1':=h_ ((hb2.block _ (Zg h1)).trans h1);have hl1:w.heap.size<w2.heap.size:=Zg h1'.out;have hz2:∀w3 w4:World,w3.heap[w2.heap.size]?=some (.cells Zf 30 (0,0))->Below w2.heap.size w2 w3->Fr (fun x=>x=w2.heap.size) w3 w4->w4.heap[w.heap.size]?=some (.cells Zf 30 (0,0))/\Below w.heap.size w w4:=by
  exact m93_
 replace hz2:=h_ hz2;have HZ:=h_ (show (ZbK s 4).size=35 from rfl);clear hb1 hb2 h1;go_wp2_with (first
  |(refine YS rfl _ #[] #[] _ rfl s_ (Yq _) ?_)
  |(refine YS rfl _ _ #[(0,.string ⟨s.toArray⟩),(1,.int .i64 4),(3,.bool true),(5,.int .i64 10),(6,.int .i64 5)] _ rfl n92_ (HB.out _) ?_)
  |(refine Yx rfl _ Zf rfl (Zz _) ?_;intro w3 h3 hb3)
  |(refine ZL rfl 30 _ _ w2.heap.size (ZbK s 4) Zf 30 rfl rfl rfl h3 rfl rfl Z0.out ?_;intro w4 h4 hf4;have hc1:w4.cell? ⟨w2.heap.size,1,none⟩=some (.int .i64 4):=(rd h4).1 1)
  |(refine QU rfl 3 _ _ w2.heap.size _ .i64 _ _ _ rfl rfl rfl h4 n133_ _ rfl rfl ?_;intro w5 h5 hf5;replace h4:=h5;replace hf4:=hf4.trans hf5)
  |(refine Js rfl 30 _ w2.heap.size _ 30 _ rfl rfl h4 rfl rfl rfl ?_)
  |(refine ZL rfl 30 _ _ w.heap.size (ZbK s 4) Zf 30 rfl rfl rfl (hz2.out _ _ h3 hb3 hf4).1 rfl rfl Z1.out ?_;intro w9 h9 hf9))
 ·exact m94_
theorem ZiG(s:Str)(w:World)(hs:s.length<4294967281)(hm:ZA w) :
  Calls prog 8 #[.string ⟨s.toArray⟩] w fun e w'=>e=.returned (.agg (Yh (Yw s)))/\Below w.heap.size w w':=by
 have h4:=Zcf s;obtain h|h|h|h|h:Zw s=0\/Zw s=1\/Zw s=2\/Zw s=3\/Zw s=4:=o_
 ·exact Zrv s w hs hm h
 ·exact Zrg s w hs hm h
 ·exact Zrc s w hs hm h
 ·exact Zq7 s w hs hm h
 ·exact Zrh s w hs hm h
theorem Zhy{w:World}{U:Nat}(u:UV)(h:∀j,(u j).len=0)(hb:w.heap[U]?=some (.cells (Yh u) 30 (0,0))):YL w U (Yh u) (fun _ _=>False) u:=by
 refine ⟨hb,by simp [Yh],fun j v hv=>?_,fun _ _ _ e=>e.elim,fun _ e=>e,fun _ _ e=>e.elim⟩;have hj:j<35:=by have:=(Array.getElem?_eq_some_iff.1 hv).1;simpa [Yh] using this
 have:v=Zpl (u j):=by
  simp only [Yh,List.getElem?_toArray,List.getElem?_map,List.getElem?_range hj,Option.map_some] at hv;injection hv with hv;exact hv.symm
 rw [this];exact ZiB w _ (h j)
theorem Za4(j:Nat):(ZV j).len=0:=by
 unfold ZV;(repeat' split);all_goals rfl
theorem JO(s:Str)(j:Nat):(Yw s j).len=0:=by
 have hu:∀(u:UV) (i:Nat) (c:UC),(∀j,(u j).len=0)->c.len=0->∀j,((u.upd i c) j).len=0:=fun u i c h1 h2 j=>by
  unfold UV.upd;split
  ·exact h2
  ·exact h1 j
 unfold Yw;split
 ·exact Za4 j
 ·simp only
  split
  ·exact hu _ _ _ (hu _ _ _ (hu _ _ _ (hu _ _ _ (hu _ _ _ (hu _ _ _ (hu _ _ _ (hu _ _ _ (hu _ _ _ Za4 rfl) rfl) rfl) rfl) rfl) rfl) rfl) rfl) rfl j
  ·split
   ·exact hu _ _ _ (hu _ _ _ (hu _ _ _ (hu _ _ _ (hu _ _ _ (hu _ _ _ Za4 rfl) rfl) rfl) rfl) rfl) rfl j
   ·exact hu _ _ _ (hu _ _ _ (hu _ _ _ (hu _ _ _ (hu _ _ _ Za4 rfl) rfl) rfl) rfl) rfl j
theorem J4(a b:ByteArray)(h:a.size+b.size<4611686018427387904):Op.stringOp .add a b=pure (.string (a++b)):=by
 have:¬((a.size+b.size:Nat):Int)>IntKind.i64.max:=n74_
 simp only [Op.stringOp,if_neg this]
theorem Zee(s:ByteArray)(w:World)(c:Zo2)(hc:ofS s.data.toList=c):Calls prog 23 #[.string s] w fun e w'=>e=.returned (.agg #[.int .i64 c.kind,.string ⟨c.pre.toArray⟩,.string ⟨c.inst.toArray⟩,.bool c.at_])/\Below w.heap.size w w':=by
 subst hc;by_cases h:s.size<=60
 ·exact Zpc s w h
 ·have hz:ofS s.data.toList=ZfE:=by
   have hl:¬s.data.toList.length<=60:=n60_
   have:Zw s.data.toList=0:=by unfold Zw;rw [if_neg (fun q=>hl q.1)]
   unfold ofS;rw [if_pos this]
  rw [hz];exact ZpS s w o_
theorem Zeq(a b c d:Value)(h:a.cells=#[a])(W:World):(Instr.field 57 (.agg #[a,b,c,d]) 0).run prog W=.ok a W:=by
 first|rfl|simp [Instr.field,go_sem,h]
theorem Zhl(s:ByteArray)(w:World)(b:Bool)(hb:decide (Zw s.data.toList≠0)=b) :
  Calls prog 50 #[.string s] w fun e w'=>e=.returned (.bool b)/\Below w.heap.size w w':=by
 have HO:=h_ (Zee s w _ rfl);have hk:=Zd2 s.data.toList;have hb':decide (0<(ofS s.data.toList).kind)=b:=by
  rw [<-hb,hk];by_cases h:Zw s.data.toList=0
  ·rw [h];rfl
  ·simp [h];omega
 generalize ofS s.data.toList=c at HO hb';clear hb hk;have hfl:=Zeq (.int .i64 c.kind) (.string ⟨c.pre.toArray⟩) (.string ⟨c.inst.toArray⟩) (.bool c.at_) rfl;go_enter func50,ntmps50;go_wp2_with (refine HO.out.mono ?_;rintro e w' ⟨rfl,hb1⟩);go_ret;exact ⟨rfl,hb1⟩
theorem m111_{p:Prop}(h:p:=by go_wp2_with fail;go_ret2;exact ⟨n10_,HB1.out.trans (HB.out.mono HB1.out.size)⟩):p:=h
theorem Ym{w:World}{b:Nat}{x0 x1 x2 x3:Value}{T:TypeId}(h:w.heap[b]?=some (.cells #[x0,x1,x2,x3] T (0,0))) :
  w.cell? ⟨b,0,none⟩=some x0/\w.cell? ⟨b,1,none⟩=some x1/\w.cell? ⟨b,2,none⟩=some x2/\w.cell? ⟨b,3,none⟩=some x3:=
 ⟨n33_,n33_,n33_,n33_⟩
def Zgt(r:Option Str):Except Int Str:=match r with|none=>.error 14|some t=>.ok t
theorem ZqP{u:Str}(h:Zw u≠0):((u.length:Int)-((Yt (Zw u)).length:Int))-1=((ZG u).1.length:Int):=by
 have:=congrArg List.length (QT h).1
 simp at this;omega
theorem Zbo(a b:Str):(⟨a.toArray⟩:ByteArray)++⟨b.toArray⟩=⟨(a++b).toArray⟩:=by
 apply Yb;simp [ByteArray.data_append]
theorem Znr(s:ByteArray)(u:Str)(w:World)(hs:s.size<=200000000)(r:Except Int Str)(hr:XL s.data.toList u=r) :
  Calls prog 33 #[.string s,.string ⟨u.toArray⟩] w fun e w'=>e=.returned (ZjV r)/\Below w.heap.size w w':=by
 have HOF:=h_ (Zee ⟨u.toArray⟩ w (ofS u) rfl);unfold XL at hr;by_cases hk:Zw u=0
 ·rw [if_pos hk] at hr
  have HR:=h_ hr;have hz:(ofS u).kind=0:=by unfold ofS;rw [if_pos hk];rfl
  rw [hz] at HOF;clear hr hk hz;go_enter func33,ntmps33;go_wp2_with fail;refine HOF.out.mono ?_;rintro e w1 ⟨rfl,hb⟩;have HB:=h_ (hb.alloc hb.size (.cells #[.int .i64 0,.string ⟨(ofS u).pre.toArray⟩,.string ⟨(ofS u).inst.toArray⟩,.bool (ofS u).at_] 57));clear hb;go_wp2_with fail;go_ret2;exact ⟨n4_,HB.out⟩
 ·rw [if_neg hk] at hr
  have hr2:Zgt (gone [] (QW u (s.data.toList.drop 0)))=r:=by rw [Zdo,List.drop_zero,<-hr];rfl
  have HQ0:=h_ hr2;have hkk:(ofS u).kind=Zw u:=by unfold ofS;rw [if_neg hk]
  have hk4:Zw u<=4:=by unfold Zw;split;exact Zcv _;omega
  have h60:=(QT hk).2;obtain ⟨ol1,ol2⟩:=Zii u;have hcl:=ZqP hk;obtain ⟨P,hP⟩:=e_ ((ofS u).pre);obtain ⟨I,hI⟩:=e_ ((ofS u).inst);obtain ⟨A,hA⟩:=e_ ((ofS u).at_);rw [hkk,<-hP,<-hI,<-hA] at HOF;obtain ⟨kd,hkd⟩:=e_ (Zw u);rw [<-hkd] at HOF hcl;have HSF:=h_ (fun W=>ZaL (kd:Int) W (Yt kd) (ZdE kd));obtain ⟨hd,hhd⟩:=e_ ((ZG u).1);have hq:hd.length<=60:=by have:=Qw u;rw [<-hhd] at this;omega
  rw [<-hhd] at hcl;have k0:((kd:Int)==0)=false:=n3_;have x2:(⟨u.toArray⟩:ByteArray).extract 0 hd.length=⟨hd.toArray⟩:=Zkh _ 0 _ _ (by
   rw [Lib.extract_data,Nat.sub_zero,List.drop_zero];show u.take hd.length=hd
   conv=>lhs;arg 2;rw [(QT hk).1,<-hhd]
   exact List.take_left)
  have hS37:YE u 37=some [37]:=rfl;have hS110:YE u 110=some u:=rfl;have hS78:YE u 78=some hd:=by rw [hhd];rfl
  have hS112:YE u 112=some P:=by rw [hP];rfl
  have hS105:YE u 105=some I:=by rw [hI];rfl
  have hS73:YE u 73=some ((ZM I).getD I):=by rw [hI];rfl
  have hSno:∀d:UInt8,d≠37->d≠110->d≠78->d≠112->d≠105->d≠73->YE u d=none:=by
   intro d h1 h2 h3 h4 h5 h6;unfold YE;rw [if_neg h1,if_neg h2,if_neg h3,if_neg h4,if_neg h5,if_neg h6]
  have hil:I.length<=60:=by rw [hI];omega
  have hpl:P.length<=60:=by rw [hP];omega
  obtain ⟨un,hun⟩:∃q,ZM I=q:=⟨_,rfl⟩;have hunl:(un.getD I).length<=60:=by
   cases un with
   |none=>exact hil
   |some t=>have:=Zag _ _ _ l_ hun;simp only [Option.getD_some];omega
  have HUE:=h_ (fun W=>ZlB ⟨I.toArray⟩ W (by show I.toArray.size<=_;simp;omega) un hun);rw [hun] at hS73;obtain ⟨SF,hSF⟩:∃SF:ByteArray,SF=⟨(Yt kd).toArray⟩:=⟨_,rfl⟩;have hsz:SF.size=(Yt kd).length:=by rw [hSF];show (Yt kd).toArray.size=_;simp
  rw [<-hsz] at hcl;rw [<-hSF] at HSF;obtain ⟨U0,hU0⟩:∃U0:ByteArray,U0=⟨u.toArray⟩:=⟨_,rfl⟩;have huz:U0.size=u.length:=by rw [hU0];show u.toArray.size=_;simp
  rw [<-hU0] at HOF x2⊢;have e1:(U0.size:Int)-(SF.size:Int)-1=(hd.length:Int):=by rw [huz];exact hcl
  have e0:hd.length<=U0.size:=by
   have:=Qw u;rw [<-hhd] at this;omega
  have hU60:U0.size<=60:=o_;have hu60:u.length<=60:=o_;have X2:=h_ x2;have E1:=h_ e1;have E0:=h_ e0;have HU0:=h_ hU0;have H37:=h_ hS37;have H110:=h_ hS110;have H78:=h_ hS78;have H112:=h_ hS112;have H105:=h_ hS105;have H73:=h_ hS73;have HNO:=h_ hSno;have hSFz:SF.size<=7:=by rw [hsz];exact Zfs kd
  clear hr hr2 hk hkk hk4 h60 ol1 ol2 hcl hP hI hA hkd hhd x2 hS37 hS110 hS78 hS112 hS105 hS73 hSno hun hSF hsz hU0 huz e1 e0;go_enter func33,ntmps33;go_wp2_with fail;refine HOF.out.mono ?_;rintro e w1 ⟨rfl,hb⟩;have hb1:=hb.alloc hb.size (.cells #[.int .i64 kd,.string ⟨P.toArray⟩,.string ⟨I.toArray⟩,.bool A] 57);have hx1:=heap_alloc_new w1 (.cells #[.int .i64 kd,.string ⟨P.toArray⟩,.string ⟨I.toArray⟩,.bool A] 57);obtain ⟨R,hR⟩:=e_ w1.heap.size;obtain ⟨c0,-,-,-⟩:=Ym hx1;have HB1:=h_ hb1;have HX1:=h_ hx1;clear hb hb1 hx1;go_wp2_with fail;clear c0;rw [<-hR] at HX1⊢;clear hR;generalize (w1.alloc (.cells #[.int .i64 kd,.string ⟨P.toArray⟩,.string ⟨I.toArray⟩,.bool A] 57))=w2 at *;go_loopg [7,8] (s.size+1) (fun f v i wr=>∃(k:Nat) (acc:Str),v=.string ⟨acc.toArray⟩/\i=.int .i64 k/\k<=s.size/\s.size-k<f/\acc.length<=k*61/\Hid (Zgt (gone acc (QW u (s.data.toList.drop k)))=r)/\Hid (Below w2.heap.size w2 wr))
  case atStart=>exact ⟨0,[],rfl,rfl,o_,o_,s_,HQ0,h_ b_⟩
  case round=>
   obtain ⟨k,acc,rfl,rfl,hkl,hfu,hacc,HQ,HB⟩:=hrel;clear HQ0;have haccz:(⟨acc.toArray⟩:ByteArray).size=acc.length:=by show acc.toArray.size=_;simp
   by_cases hlt:k<s.size
   ·have hz:(k:Int)<(s.size:Int):=o_
    have hd1:=drop_cons s k hlt;obtain ⟨t,ht⟩:=e_ (s.data.toList.drop (k+1));rw [<-ht] at hd1;have HD:=h_ hd1;have HT:=h_ ht;clear hd1 ht;by_cases h37:s[k]=37
    ·have q37:((s[k].toNat:Int)!=37)=false:=by rw [h37];rfl
     by_cases hlt2:k+1<s.size
     ·have i2:(k:Int)+1<(s.size:Int):=o_
      have i3:((k:Int)+1==(s.size:Int))=false:=n3_;have HD2:=h_ (show t=s[k+1]::s.data.toList.drop (k+2) by rw [HT.out];exact drop_cons s (k+1) hlt2);have HST:=h_ (fun x (h:YE u s[k+1]=some x)=>show Zgt (gone (acc++x) (QW u (s.data.toList.drop (k+2))))=r by rw [<-HQ.out,HD.out,HD2.out,h37,ZeP u _ x _ _ h]);have HBAD:=h_ (fun (h:YE u s[k+1]=none)=>show r=.error 14 by rw [<-HQ.out,HD.out,HD2.out,h37,ZjP u _ _ _ h];rfl);clear HQ HD HD2 HT h37;obtain ⟨d,hdd⟩:=e_ (s[k+1]);have hx1:=Za HX1.out HB.out;obtain ⟨c0,c1,c2,-⟩:=Ym hx1;clear hx1;by_cases d1:d=37
      ·have g1:((s[k+1].toNat:Int)==37)=true:=by rw [<-hdd,d1];rfl
       have HN:=h_ (HST.out [37] (by rw [<-hdd,d1];exact H37.out));clear hdd d1;have hcat:=ZaS ⟨acc.toArray⟩ (⟨#[37]⟩:ByteArray) n44_;have hcl:Value.string ((⟨acc.toArray⟩:ByteArray)++(⟨#[37]⟩:ByteArray))=.string ⟨(acc++[37]).toArray⟩:=by
        (try rw [HU0.out]);exact congrArg Value.string (Zbo acc [37])
       have HCL:=h_ hcl;clear hcl;go_wp2_with fail;go_roundg (s.size-k)
       case measure=>omega
       case rel=>exact ⟨k+2,acc++[37],HCL.out,n14_,o_,o_,n2_,HN,HB⟩
      have g1:((s[k+1].toNat:Int)==37)=false:=by rw [<-hdd,beq_eq_false_iff_ne];intro e;exact d1 (UInt8.toNat_inj.1 (by show d.toNat=37;omega))
      by_cases d2:d=110
      ·have g2:((s[k+1].toNat:Int)==110)=true:=by rw [<-hdd,d2];rfl
       have HN:=h_ (HST.out u (by rw [<-hdd,d2];exact H110.out));clear hdd d2;have hcat:=ZaS ⟨acc.toArray⟩ U0 n44_;have hcl:Value.string ((⟨acc.toArray⟩:ByteArray)++U0)=.string ⟨(acc++u).toArray⟩:=by
        (try rw [HU0.out]);exact congrArg Value.string (Zbo acc u)
       have HCL:=h_ hcl;clear hcl;go_wp2_with fail;go_roundg (s.size-k)
       case measure=>omega
       case rel=>exact ⟨k+2,acc++u,HCL.out,n14_,o_,o_,n2_,HN,HB⟩
      have g2:((s[k+1].toNat:Int)==110)=false:=by rw [<-hdd,beq_eq_false_iff_ne];intro e;exact d2 (UInt8.toNat_inj.1 (by show d.toNat=110;omega))
      by_cases d3:d=78
      ·have g3:((s[k+1].toNat:Int)==78)=true:=by rw [<-hdd,d3];rfl
       have HN:=h_ (HST.out hd (by rw [<-hdd,d3];exact H78.out));clear hdd d3;have e1:=E1.out;have e0:=E0.out;have e2:SF.size<=U0.size:=o_;have n1:IntKind.i64.wrap ((U0.size:Int)-(SF.size:Int))=(U0.size:Int)-(SF.size:Int):=IntWalk.i64_in _ o_;have n2:IntKind.i64.wrap ((U0.size:Int)-(SF.size:Int)-1)=(hd.length:Int):=by rw [e1];exact IntWalk.i64_in _ o_
       have n4:(hd.length:Int)<=(U0.size:Int):=o_;clear e1 e0;have hcat:=ZaS ⟨acc.toArray⟩ (U0.extract 0 hd.length) (by rw [haccz,ByteArray.size_extract];omega);have HCL:=h_ (show Value.string ((⟨acc.toArray⟩:ByteArray)++U0.extract 0 hd.length)=.string ⟨(acc++hd).toArray⟩ by rw [X2.out];exact congrArg Value.string (Zbo acc hd));go_wp2_with fail;refine (HSF.out _).mono ?_;rintro e wr ⟨rfl,rfl⟩;go_wp2_with fail;go_roundg (s.size-k)
       case measure=>omega
       case rel=>exact ⟨k+2,acc++hd,HCL.out,n14_,o_,o_,n2_,HN,HB⟩
      have g3:((s[k+1].toNat:Int)==78)=false:=by rw [<-hdd,beq_eq_false_iff_ne];intro e;exact d3 (UInt8.toNat_inj.1 (by show d.toNat=78;omega))
      by_cases d4:d=112
      ·have g4:((s[k+1].toNat:Int)==112)=true:=by rw [<-hdd,d4];rfl
       have HN:=h_ (HST.out P (by rw [<-hdd,d4];exact H112.out));clear hdd d4;have hcat:=ZaS ⟨acc.toArray⟩ (⟨P.toArray⟩:ByteArray) n44_;have hcl:Value.string ((⟨acc.toArray⟩:ByteArray)++(⟨P.toArray⟩:ByteArray))=.string ⟨(acc++P).toArray⟩:=by
        (try rw [HU0.out]);exact congrArg Value.string (Zbo acc P)
       have HCL:=h_ hcl;clear hcl;go_wp2_with fail;go_roundg (s.size-k)
       case measure=>omega
       case rel=>exact ⟨k+2,acc++P,HCL.out,n14_,o_,o_,n2_,HN,HB⟩
      have g4:((s[k+1].toNat:Int)==112)=false:=by rw [<-hdd,beq_eq_false_iff_ne];intro e;exact d4 (UInt8.toNat_inj.1 (by show d.toNat=112;omega))
      by_cases d5:d=105
      ·have g5:((s[k+1].toNat:Int)==105)=true:=by rw [<-hdd,d5];rfl
       have HN:=h_ (HST.out I (by rw [<-hdd,d5];exact H105.out));clear hdd d5;have hcat:=ZaS ⟨acc.toArray⟩ (⟨I.toArray⟩:ByteArray) n44_;have hcl:Value.string ((⟨acc.toArray⟩:ByteArray)++(⟨I.toArray⟩:ByteArray))=.string ⟨(acc++I).toArray⟩:=by
        (try rw [HU0.out]);exact congrArg Value.string (Zbo acc I)
       have HCL:=h_ hcl;clear hcl;go_wp2_with fail;go_roundg (s.size-k)
       case measure=>omega
       case rel=>exact ⟨k+2,acc++I,HCL.out,n14_,o_,o_,n2_,HN,HB⟩
      have g5:((s[k+1].toNat:Int)==105)=false:=by rw [<-hdd,beq_eq_false_iff_ne];intro e;exact d5 (UInt8.toNat_inj.1 (by show d.toNat=105;omega))
      by_cases d6:d=73
      ·have g6:((s[k+1].toNat:Int)==73)=true:=by rw [<-hdd,d6];rfl
       have HN:=h_ (HST.out (un.getD I) (by rw [<-hdd,d6];exact H73.out));clear hdd d6;have HCC:=h_ (fun V (h:Below wr.heap.size wr V)=>Ym (Za (Za HX1.out HB.out) h));clear c0 c1;cases un with
       |none=>
        simp only [Option.getD_none] at HN hunl;simp only [Option.getD_none,Option.isSome_none] at HUE;have hcat:=ZaS ⟨acc.toArray⟩ (⟨I.toArray⟩:ByteArray) (by rw [haccz];simp only [ByteArray.size];simp;omega);have HCL:=h_ (show Value.string ((⟨acc.toArray⟩:ByteArray)++⟨I.toArray⟩)=.string ⟨(acc++I).toArray⟩ from congrArg Value.string (Zbo acc I));go_wp2_with fail;refine (HUE.out wr).mono ?_;rintro e w3 ⟨rfl,hb3⟩;obtain ⟨c0,c1,c2,-⟩:=HCC.out w3 hb3;have HB3:=h_ (HB.out.trans (hb3.mono HB.out.size));clear hb3;go_wp2_with fail;go_roundg (s.size-k)
        case measure=>omega
        case rel=>exact ⟨k+2,acc++I,HCL.out,n14_,o_,o_,n2_,HN,HB3⟩
       |some t=>
        simp only [Option.getD_some] at HN hunl;simp only [Option.getD_some,Option.isSome_some] at HUE;have hcat:=ZaS ⟨acc.toArray⟩ (⟨t.toArray⟩:ByteArray) (by rw [haccz];simp only [ByteArray.size];simp;omega);have HCL:=h_ (show Value.string ((⟨acc.toArray⟩:ByteArray)++⟨t.toArray⟩)=.string ⟨(acc++t).toArray⟩ from congrArg Value.string (Zbo acc t));go_wp2_with fail;refine (HUE.out wr).mono ?_;rintro e w3 ⟨rfl,hb3⟩;obtain ⟨c0,c1,c2,-⟩:=HCC.out w3 hb3;have HB3:=h_ (HB.out.trans (hb3.mono HB.out.size));clear hb3;go_wp2_with fail;go_roundg (s.size-k)
        case measure=>omega
        case rel=>exact ⟨k+2,acc++t,HCL.out,n14_,o_,o_,n2_,HN,HB3⟩
      have g6:((s[k+1].toNat:Int)==73)=false:=by rw [<-hdd,beq_eq_false_iff_ne];intro e;exact d6 (UInt8.toNat_inj.1 (by show d.toNat=73;omega))
      have HR:=h_ (HBAD.out (by rw [<-hdd];exact HNO.out d d1 d2 d3 d4 d5 d6));clear hdd d1 d2 d3 d4 d5 d6;exact m111_
     ·have i3:((k:Int)+1==(s.size:Int))=true:=n54_
      have HR:=h_ (show r=.error 14 by rw [<-HQ.out,HD.out,HT.out,h37,List.drop_eq_nil_of_le n2_,Zkd];rfl);clear h37;exact m111_
    ·have q37:((s[k].toNat:Int)!=37)=true:=by rw [bne_iff_ne];intro e;exact h37 (UInt8.toNat_inj.1 (by show s[k].toNat=37;omega))
     have HN:=h_ (show Zgt (gone (acc++[s[k]]) (QW u (s.data.toList.drop (k+1))))=r by rw [<-HQ.out,HD.out,ZhM u _ _ _ h37,HT.out]);have hcat:=ZaS ⟨acc.toArray⟩ (s.extract k (k+1)) (by rw [haccz,ByteArray.size_extract];omega);have HCA:=h_ (Zi8 acc s k hlt);have i2:(k:Int)+1<=(s.size:Int):=o_;clear h37;go_wp2_with fail;go_roundg (s.size-k)
     case measure=>omega
     case rel=>exact ⟨k+1,acc++[s[k]],by rw [HCA.out],n14_,o_,o_,n2_,HN,HB⟩
   ·have hz:¬((k:Int)<(s.size:Int)):=o_
    have HR:=h_ (show r=.ok acc by rw [<-HQ.out,List.drop_eq_nil_of_le n2_];simp [QW,gone,Zgt]);exact m111_
theorem ZfC(s:Str)(w:World)(fin:Array Value)(k:Int)(hk:(Zw s:Int)=k)(hc:(k=0/\fin=Zf)\/(k=1/\fin=ZmT s)\/(k=2/\fin=ZmM s)\/(k=3/\fin=ZbK s 3)\/(k=4/\fin=ZbK s 4)) :
  Calls prog 9 #[.string ⟨s.toArray⟩] w fun e w'=>e=.returned (.agg fin)/\Below w.heap.size w w':=by
 have HOF:=h_ (fun W=>Zee ⟨s.toArray⟩ W (ofS s) rfl);have hkk:((ofS s).kind:Int)=k:=by rw [Zd2 s];exact hk
 rw [hkk] at HOF;generalize (ofS s).pre=P at *;generalize (ofS s).inst=I at *;generalize (ofS s).at_=A at *;have hfl:=Zeq (.int .i64 k) (.string ⟨P.toArray⟩) (.string ⟨I.toArray⟩) (.bool A) rfl;have HB:=h_ (fun w=>J9 s k w);have Z0:=h_ (Q0 s k);have Z1:=h_ (show (fin.all fun x=>x.oneCell')=true by rcases hc with ⟨_,rfl⟩|⟨_,rfl⟩|⟨_,rfl⟩|⟨_,rfl⟩|⟨_,rfl⟩<;>first|exact Zdr|exact ZhI s|exact Zhv s|exact Q0 s _);have HZ:=h_ (show (ZbK s k).size=35 from rfl);clear hk hkk;rcases hc with ⟨rfl,rfl⟩|hc
 ·go_enter func9,ntmps9
  go_wp2_with (refine Yx rfl _ Zf rfl (Zz _) ?_;intro w1 h1 hb1);refine (HOF.out _).mono ?_;rintro e w2 ⟨rfl,hb2⟩;have hb12:=h_ (Below.more hb1 hb2);have h1':=(hb2.block _ (Zg h1)).trans h1;clear hb1 hb2 h1;go_wp2_with (first
   |(refine YS rfl _ #[] #[] _ rfl s_ (Yq _) ?_)
   |(refine ZL rfl 30 _ _ w.heap.size Zf Zf 30 rfl rfl rfl h1' rfl rfl Z1.out ?_;intro w9 h9 hf9))
  refine X8 2 30 w.heap.size _ rfl rfl rfl (YI 30 _ rfl rfl rfl h9) ⟨rfl,?_⟩;exact hb12.out.trans (hf9.below _ hb12.out.size (fun k hk e=>by omega))
 ·rcases hc with ⟨rfl,rfl⟩|⟨rfl,rfl⟩|⟨rfl,rfl⟩|⟨rfl,rfl⟩
  all_goals
   go_enter func9,ntmps9;go_wp2_with (refine Yx rfl _ Zf rfl (Zz _) ?_;intro w1 h1 hb1);refine (HOF.out _).mono ?_;rintro e w2 ⟨rfl,hb2⟩;have hb12:=h_ (Below.more hb1 hb2);have h1':=h_ ((hb2.block _ (Zg h1)).trans h1);have hl1:w.heap.size<w2.heap.size:=Zg h1'.out;have hz2:∀w3 w4:World,w3.heap[w2.heap.size]?=some (.cells Zf 30 (0,0))->Below w2.heap.size w2 w3->Fr (fun x=>x=w2.heap.size) w3 w4->w4.heap[w.heap.size]?=some (.cells Zf 30 (0,0))/\Below w.heap.size w w4:=by
    intro w3 w4 h3 hb3 hf4;have hne:w.heap.size≠w2.heap.size:=o_;have e3:=(hb3.block _ hl1).trans h1'.out;have e4:w4.heap[w.heap.size]?=_:=(hf4.block _ (Zg e3) hne).trans e3;refine ⟨e4,?_⟩;refine hb12.out.trans ?_;exact (hb3.mono o_).trans (hf4.below _ (Nat.le_of_lt (Nat.lt_of_lt_of_le hl1 hb3.size)) (fun k hk e=>by omega))
   replace hz2:=h_ hz2;clear hb1 hb2 h1;go_wp2_with (first
    |(refine YS rfl _ _ _ _ rfl n92_ (HB.out _) ?_)
    |(refine Yx rfl _ Zf rfl (Zz _) ?_;intro w3 h3 hb3)
    |(refine ZL rfl 30 _ _ w2.heap.size _ Zf 30 rfl rfl rfl h3 rfl rfl Z0.out ?_;intro w4 h4 hf4)
    |(refine QU rfl 3 _ _ w2.heap.size _ .i64 _ _ _ rfl rfl rfl h4 n133_ _ rfl rfl ?_;intro w5 h5 hf5;replace h4:=h5;replace hf4:=hf4.trans hf5)
    |(refine Js rfl 30 _ w2.heap.size _ 30 _ rfl rfl h4 rfl rfl rfl ?_)
    |(refine ZL rfl 30 _ _ w.heap.size _ Zf 30 rfl rfl rfl (hz2.out _ _ h3 hb3 hf4).1 rfl rfl Z1.out ?_;intro w9 h9 hf9))
   have hb:=hz2.out _ _ h3 hb3 hf4;refine X8 2 30 w.heap.size _ rfl rfl rfl (YI 30 _ rfl rfl rfl h9) ⟨rfl,?_⟩;exact hb.2.trans (hf9.below _ hb.2.size (fun k hk e=>by omega))
theorem Zkj(s:Str)(w:World):Calls prog 9 #[.string ⟨s.toArray⟩] w fun e w'=>e=.returned (.agg (Yh (Yw s)))/\Below w.heap.size w w':=by
 have h4:=Zcf s;obtain h|h|h|h|h:Zw s=0\/Zw s=1\/Zw s=2\/Zw s=3\/Zw s=4:=o_
 ·exact ZfC s w _ 0 n81_ (.inl ⟨rfl,ZmD s h⟩)
 ·exact ZfC s w _ 1 n81_ (.inr (.inl ⟨rfl,Zi6 s h⟩))
 ·exact ZfC s w _ 2 n81_ (.inr (.inr (.inl ⟨rfl,Zj5 s h⟩)))
 ·exact ZfC s w _ 3 n81_ (.inr (.inr (.inr (.inl ⟨rfl,ZdF s 3 h d_ d_ d_⟩))))
 ·exact ZfC s w _ 4 n81_ (.inr (.inr (.inr (.inr ⟨rfl,ZdF s 4 h d_ d_ d_⟩))))
theorem m237_{p:Prop}(h:p:=by
  repeat (first
   |still_step
   |(refine wpStill_step (fun K hK=>?_);go_simp;(with_reducible refine ⟨_,Calls.still_of (HS.out _),hK _ ?_⟩);clear hK K))
  refine wpStill_nil ?_;go_wp2_with fail;go_ret;exact ⟨by rw [<-HT.out];rfl,HB2.out⟩):p:=h
theorem Zpt(k:Nat)(P I:ByteArray)(f:Bool)(w:World)(hP:P.size<1000000)(hI:I.size<1000000)(T:ByteArray)(hT:T.data.toList=(if f then P.data.toList++64::I.data.toList else P.data.toList)++46::Yt k) :
  Calls prog 51 #[.agg #[.int .i64 k,.string P,.string I,.bool f]] w fun e w'=>e=.returned (.string T)/\Below w.heap.size w w':=by
 obtain ⟨F,hF⟩:∃F:ByteArray,F=⟨(Yt k).toArray⟩:=⟨_,rfl⟩;have HS:=h_ (fun W=>ZaL (k:Int) W (Yt k) (ZdE k));rw [<-hF] at HS;have hFz:F.size<=7:=by rw [hF];show (Yt k).toArray.size<=7;simpa using Zfs k
 have hFd:F.data.toList=Yt k:=by rw [hF]
 have HB:=h_ ((Below.refl w.heap.size w).alloc l_ (.cells #[.int .i64 k,.string P,.string I,.bool f] 57));obtain ⟨cc,-,-,hlt⟩:=rd (heap_alloc_new w (.cells #[.int .i64 k,.string P,.string I,.bool f] 57));have c0:=cc 0;have c1:=cc 1;have c2:=cc 2;have c3:=cc 3;simp only [List.getElem?_toArray,List.getElem?_cons_zero,List.getElem?_cons_succ] at c0 c1 c2 c3;clear cc hF;cases f with
 |true=>
  have e1:P.size+1<2000000:=o_;have HT:=h_ (show ((P++(⟨#[64]⟩:ByteArray))++I++(⟨#[46]⟩:ByteArray))++F=T by
   apply Yb;rw [hT,<-hFd];simp [ByteArray.data_append])
  clear hT hFd;go_enter func51,ntmps51;go_wp2_with fail;generalize w.alloc (.cells #[.int .i64 k,.string P,.string I,.bool true] 57)=w1 at *;refine ZdC k_ k_ (fun w2 hw2=>?_);have d0:w2.cell? ⟨w.heap.size,0,none⟩=some (.int .i64 k):=by rw [hw2];exact c0
  have d1:w2.cell? ⟨w.heap.size,1,none⟩=some (.string P):=by rw [hw2];exact c1
  have d2:w2.cell? ⟨w.heap.size,2,none⟩=some (.string I):=by rw [hw2];exact c2
  have HB2:=h_ (show Below w.heap.size w w2 by rw [hw2];exact HB.out.trans (Zb ⟨1,rfl⟩));clear hw2 c0 c1 c2 c3;have a1:=J4 P ⟨#[64]⟩ (by rw [show (⟨#[64]⟩:ByteArray).size=1 from rfl];omega);have z1:(P++(⟨#[64]⟩:ByteArray)).size=P.size+1:=by rw [ByteArray.size_append];rfl
  have a2:=J4 (P++⟨#[64]⟩) I o_;have z2:((P++(⟨#[64]⟩:ByteArray))++I).size=P.size+1+I.size:=by rw [ByteArray.size_append,z1]
  have a3:=J4 (P++⟨#[64]⟩++I) ⟨#[46]⟩ (by rw [z2,show (⟨#[46]⟩:ByteArray).size=1 from rfl];omega);have z3:(((P++(⟨#[64]⟩:ByteArray))++I)++(⟨#[46]⟩:ByteArray)).size=P.size+1+I.size+1:=by rw [ByteArray.size_append,z2];rfl
  have a4:=J4 (P++⟨#[64]⟩++I++⟨#[46]⟩) F (by rw [z3];omega);clear z1 z2 z3;exact m237_
 |false=>
  have HT:=h_ (show (P++(⟨#[46]⟩:ByteArray))++F=T by
   apply Yb;rw [hT,<-hFd];simp [ByteArray.data_append])
  clear hT hFd;go_enter func51,ntmps51;go_wp2_with fail;generalize w.alloc (.cells #[.int .i64 k,.string P,.string I,.bool false] 57)=w1 at *;refine ZdC k_ k_ (fun w2 hw2=>?_);have d0:w2.cell? ⟨w.heap.size,0,none⟩=some (.int .i64 k):=by rw [hw2];exact c0
  have d1:w2.cell? ⟨w.heap.size,1,none⟩=some (.string P):=by rw [hw2];exact c1
  have HB2:=h_ (show Below w.heap.size w w2 by rw [hw2];exact HB.out.trans (Zb ⟨1,rfl⟩));clear hw2 c0 c1 c2 c3;have a1:=J4 P ⟨#[46]⟩ (by rw [show (⟨#[46]⟩:ByteArray).size=1 from rfl];omega);have z1:(P++(⟨#[46]⟩:ByteArray)).size=P.size+1:=by rw [ByteArray.size_append];rfl
  have a2:=J4 (P++⟨#[46]⟩) F o_;clear z1;exact m237_
theorem Zkm(s:ByteArray)(k:Nat)(h1:1<=k)(h4:k<=4)(w:World)(t:Str)(ht:ZdU s.data.toList k=t)(hz:s.size<1000000) :
  Calls prog 25 #[.string s,.int .i64 k] w fun e w'=>e=.returned (.string ⟨t.toArray⟩)/\Below w.heap.size w w':=by
 have HO:=h_ (Zee s w _ rfl);have hk:=Zd2 s.data.toList;have hsuf:(Yt k)≠[]:=by
  match k,h1,h4 with
  |1,_,_=>decide
  |2,_,_=>decide
  |3,_,_=>decide
  |4,_,_=>decide
 have hmk:=fun h=>ZkR (s:=s.data.toList) h k
 have hcl:=(Qw s.data.toList).1;have hal:=ZaX (ZG s.data.toList).1;have hl:s.data.toList.length=s.size:=s_;unfold ZdU at ht;by_cases h0:Zw s.data.toList=0
 ·rw [if_neg (fun q=>q.1 h0)] at ht
  subst ht;have e0:ofS s.data.toList=ZfE:=by unfold ofS;rw [if_pos h0]
  rw [e0] at HO;unfold ZfE at HO;clear hmk hk hal hcl h0 e0 hsuf;go_enter func25,ntmps25;go_wp2_with (refine HO.out.mono ?_;rintro e w' ⟨rfl,hb1⟩);go_ret;exact ⟨rfl,hb1.alloc hb1.size _⟩
 ·obtain ⟨PB,hPB⟩:∃PB:ByteArray,PB=⟨(ofS s.data.toList).pre.toArray⟩:=⟨_,rfl⟩
  obtain ⟨IB,hIB⟩:∃IB:ByteArray,IB=⟨(ofS s.data.toList).inst.toArray⟩:=⟨_,rfl⟩;obtain ⟨T,hT⟩:∃T:ByteArray,T=⟨((ZG s.data.toList).1++46::Yt k).toArray⟩:=⟨_,rfl⟩;have hof:ofS s.data.toList=⟨Zw s.data.toList,(cutAt (ZG s.data.toList).1).1,(cutAt (ZG s.data.toList).1).2.1,(cutAt (ZG s.data.toList).1).2.2⟩:=by unfold ofS;rw [if_neg h0]
  have zP:PB.size<1000000:=by rw [hPB];show (ofS s.data.toList).pre.toArray.size<_;rw [hof];simp;omega
  have zI:IB.size<1000000:=by rw [hIB];show (ofS s.data.toList).inst.toArray.size<_;rw [hof];simp;omega
  have hmk':=hmk h0;unfold Zoz at hmk';have HM:=h_ (fun W=>Zpt k PB IB (ofS s.data.toList).at_ W zP zI T (by rw [hT,hPB,hIB];exact hmk'.symm));rw [<-hPB,<-hIB] at HO;rw [hk] at HO;have HY:=h_ (fun W b hb=>Zhl T W b hb);have hTd:T.data.toList=(ZG s.data.toList).1++46::Yt k:=by rw [hT]
  rw [hTd] at HY;have k0:((Zw s.data.toList:Int)==0)=false:=n3_;obtain ⟨F,hF⟩:∃F:ByteArray,F=⟨(Yt k).toArray⟩:=⟨_,rfl⟩;have HS:=h_ (fun W=>ZaL (k:Int) W (Yt k) (ZdE k));rw [<-hF] at HS;have hFn:F.size≠0:=by
   rw [hF];show (Yt k).toArray.size≠0;simpa using hsuf
  obtain ⟨n1,n2,n3,n4⟩:=QX hFn;generalize (ofS s.data.toList).at_=fl at *;generalize Zw s.data.toList=kd at *;clear hmk hmk' hk hal hcl hPB hIB hof hsuf hF hl;cases hmy:decide (Zw ((ZG s.data.toList).1++46::Yt k)≠0) with
  |false=>
   rw [if_neg (by rintro ⟨_,q⟩;simp at hmy;exact q hmy)] at ht;subst ht;have HY2:=h_ (fun W=>HY.out W false hmy);clear hmy HY hT hTd;go_enter func25,ntmps25;go_wp2_with fail;refine HO.out.mono ?_;rintro e w2 ⟨rfl,hb2⟩;have HC:=h_ (heap_alloc_new w2 (.cells #[.int .i64 k,.string PB,.string IB,.bool fl] 57));have HB2:=h_ (hb2.alloc hb2.size (.cells #[.int .i64 k,.string PB,.string IB,.bool fl] 57));clear hb2;go_wp2_with ((with_reducible refine (HS.out _).mono ?_);rintro e w' ⟨rfl,rfl⟩);generalize w2.alloc (.cells #[.int .i64 k,.string PB,.string IB,.bool fl] 57)=w3 at *;refine (HM.out _).mono ?_;rintro e w4 ⟨rfl,hb4⟩;have HB4:=h_ (Below.more HB2.out hb4);have HC4:=h_ ((hb4.block _ (Zg HC.out)).trans HC.out);clear hb4;go_wp2_with fail;refine (HY2.out _).mono ?_;rintro e w5 ⟨rfl,hb5⟩;have HB5:=h_ (Below.more HB4.out hb5);have hC5:=(hb5.block _ (Zg HC4.out)).trans HC4.out;clear hb5;obtain ⟨cc,-,-,-⟩:=rd hC5;have c0:=cc 0;have c1:=cc 1;have c2:=cc 2;have c3:=cc 3;simp only [List.getElem?_toArray,List.getElem?_cons_zero,List.getElem?_cons_succ] at c0 c1 c2 c3;clear cc hC5;go_wp2_with fail;go_ret;exact ⟨rfl,HB5.out⟩
  |true=>
   rw [if_pos ⟨h0,by simpa using hmy⟩] at ht;subst ht;have HY2:=h_ (fun W=>HY.out W true hmy);have HT:=h_ hT;clear hmy HY hT hTd;go_enter func25,ntmps25;go_wp2_with fail;refine HO.out.mono ?_;rintro e w2 ⟨rfl,hb2⟩;have HC:=h_ (heap_alloc_new w2 (.cells #[.int .i64 k,.string PB,.string IB,.bool fl] 57));have HB2:=h_ (hb2.alloc hb2.size (.cells #[.int .i64 k,.string PB,.string IB,.bool fl] 57));clear hb2;go_wp2_with ((with_reducible refine (HS.out _).mono ?_);rintro e w' ⟨rfl,rfl⟩);generalize w2.alloc (.cells #[.int .i64 k,.string PB,.string IB,.bool fl] 57)=w3 at *;refine (HM.out _).mono ?_;rintro e w4 ⟨rfl,hb4⟩;have HB4:=h_ (Below.more HB2.out hb4);have HC4:=h_ ((hb4.block _ (Zg HC.out)).trans HC.out);clear hb4;go_wp2_with fail;refine (HY2.out _).mono ?_;rintro e w5 ⟨rfl,hb5⟩;have HB5:=h_ (Below.more HB4.out hb5);have hC5:=(hb5.block _ (Zg HC4.out)).trans HC4.out;clear hb5;obtain ⟨cc,-,-,-⟩:=rd hC5;have c0:=cc 0;have c1:=cc 1;have c2:=cc 2;have c3:=cc 3;simp only [List.getElem?_toArray,List.getElem?_cons_zero,List.getElem?_cons_succ] at c0 c1 c2 c3;clear cc hC5;go_wp2_with fail;refine (HM.out _).mono ?_;rintro e w6 ⟨rfl,hb6⟩;have HB6:=h_ (Below.more HB5.out hb6);clear hb6;go_wp2_with fail;go_ret;refine ⟨?_,HB6.out⟩;rw [<-HT.out];rfl
end Go.Proofs.YtgoooebfhdbbkaaGreatDoor
