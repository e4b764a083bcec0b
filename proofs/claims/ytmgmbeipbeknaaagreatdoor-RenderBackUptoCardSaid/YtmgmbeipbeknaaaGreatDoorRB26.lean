import Derived.Deep.LoopGhost
import Derived.Lib.SmallJoins
import Derived.IntWalk
import Derived.Deep.QuietTactic
import Derived.BigQuiet
import Derived.Deep.RegionHeld3
import Derived.Test.YtmgmbeipbeknaaaGreatDoorRB2
import Derived.Test.YtmgmbeipbeknaaaGreatDoorRB8
import Derived.Test.YtmgmbeipbeknaaaGreatDoorRB23
namespace Go.Proofs.YtmgmbeipbeknaaaGreatDoor
open Go.Proofs.Tryz
open Go Go.RowKit
set_option linter.all false
set_option maxHeartbeats 16000000
set_option maxRecDepth 100000
theorem m85_{p:Prop}(h:p:=by go_enter func186,ntmps186;go_wp2;go_ret;exact ⟨rfl,rfl⟩):p:=h
theorem Zr3(c:UInt8)(w:World) :
  Calls prog 124 #[.int .u8 c.toNat] w fun e w'=>e=.returned (.bool (Yi c))/\w=w':=by
 go_enter func124,ntmps124;go_wp2;all_goals
  go_ret;refine ⟨ZB ?_,rfl⟩;rw [Zcm,Bool.eq_iff_iff];simp;omega
theorem Zsn(c:UInt8)(w:World) :
  Calls prog 125 #[.int .u8 c.toNat] w fun e w'=>e=.returned (.bool (isDigit c))/\w=w':=by
 go_enter func125,ntmps125;go_wp2;all_goals
  go_ret;refine ⟨ZB ?_,rfl⟩;rw [Zc2,Bool.eq_iff_iff];simp;omega
theorem ZqD(c:UInt8):([58,45,95,46,92]:Str).contains c=decide ((c.toNat:Int)=58\/(c.toNat:Int)=45\/(c.toNat:Int)=95\/(c.toNat:Int)=46\/(c.toNat:Int)=92):=by
 rw [Bool.eq_iff_iff,List.contains_iff_mem];simp [<-UInt8.toNat_inj];omega
theorem Zax(c:UInt8)(w:World)(b:Bool)(hb:Zeb c=b) :
  Calls prog 187 #[.int .u8 c.toNat] w fun e w'=>e=.returned (.bool b)/\w=w':=by
 subst hb;have HL:=h_ (fun W=>Zr3 c W);have HD:=h_ (fun W=>Zsn c W);unfold Zeb;rw [ZqD];have hc:=UInt8.toNat_lt c;generalize Yi c=l at *;generalize isDigit c=d at *;generalize c.toNat=n at *;cases l with
 |true=>
  go_enter func187,ntmps187;go_wp2_with (go_at_call 124;refine (HL.out _).mono ?_;rintro e w' ⟨rfl,rfl⟩);go_ret;exact ⟨rfl,rfl⟩
 |false=>
  cases d with
  |true=>
   go_enter func187,ntmps187;go_wp2_with (first
    |(go_at_call 124;refine (HL.out _).mono ?_;rintro e w' ⟨rfl,rfl⟩)
    |(go_at_call 125;refine (HD.out _).mono ?_;rintro e w' ⟨rfl,rfl⟩))
   go_ret;exact ⟨rfl,rfl⟩
  |false=>
   go_enter func187,ntmps187;go_wp2_with (first
    |(go_at_call 124;refine (HL.out _).mono ?_;rintro e w' ⟨rfl,rfl⟩)
    |(go_at_call 125;refine (HD.out _).mono ?_;rintro e w' ⟨rfl,rfl⟩))
   all_goals
    go_ret;refine ⟨ZB ?_,rfl⟩;rw [Bool.eq_iff_iff];simp;try omega
def Zss(n:Int):Str:=if n=1 then Ze7 else if n=2 then ZgN else if n=3 then Zkg else if n=4 then ZgW else []
theorem ZrN(k:Nat):Zss (k:Int)=X5 k:=by
 unfold Zss X5;by_cases h1:k=1
 ·subst h1;rfl
 by_cases h2:k=2
 ·subst h2;rfl
 by_cases h3:k=3
 ·subst h3;rfl
 by_cases h4:k=4
 ·subst h4;rfl
 rw [if_neg o_,if_neg o_,if_neg o_,if_neg o_,if_neg h1,if_neg h2,if_neg h3,if_neg h4]
theorem ZlF(n:Int)(w:World)(t:Str)(ht:Zss n=t) :
  Calls prog 186 #[.int .i64 n] w fun e w'=>e=.returned (.string ⟨t.toArray⟩)/\w=w':=by
 subst ht;by_cases h1:n=1
 ·subst h1
  exact m85_
 by_cases h2:n=2
 ·subst h2
  clear h1;exact m85_
 by_cases h3:n=3
 ·subst h3
  clear h1 h2;exact m85_
 by_cases h4:n=4
 ·subst h4
  clear h1 h2 h3;exact m85_
 have e:Zss n=[]:=by unfold Zss;rw [if_neg h1,if_neg h2,if_neg h3,if_neg h4]
 rw [e];have q1:(n==1)=false:=n72_;have q2:(n==2)=false:=n73_;have q3:(n==3)=false:=n50_;have q4:(n==4)=false:=n51_;clear e h1 h2 h3 h4;exact m85_
theorem m86_{p:Prop}(h:p:=by intro w3 w4 h3 hb3 hf4;have hne:w.heap.size≠w2.heap.size:=o_;have e3:=(hb3.block _ hl1).trans h1'.out;have e4:w4.heap[w.heap.size]?=_:=(hf4.block _ (Zd e3) hne).trans e3;refine ⟨e4,?_⟩;refine hb12.out.trans ?_;exact (hb3.mono o_).trans (hf4.below _ (Nat.le_of_lt (c16_ hl1 hb3.size)) (fun k hk e=>by omega))):p:=h
theorem m87_{p:Prop}(h:p:=by have hb:=hz2.out _ _ h3 hb3 hf4;refine QI 2 28 w.heap.size _ rfl rfl rfl (Y2 28 _ rfl rfl rfl h9) ⟨rfl,?_⟩;exact hb.2.trans (hf9.below _ hb.2.size (fun k hk e=>by omega))):p:=h
def Zf:Array Value:=#[.string ⟨#[]⟩,.int .i64 0,.string ⟨#[]⟩,.bool false,.slice none 0 0,.int .i64 0,.int .i64 0,.int .i64 0,.slice none 0 0,.slice none 0 0,.slice none 0 0,.slice none 0 0,.slice none 0 0,.bool false,.int .i64 0,.int .i64 0,.int .i64 0,.int .i64 0,.slice none 0 0,.slice none 0 0,.slice none 0 0,.slice none 0 0,.int .i64 0,.string ⟨#[]⟩,.string ⟨#[]⟩,.slice none 0 0,.slice none 0 0,.slice none 0 0,.slice none 0 0,.bool false,.slice none 0 0,.slice none 0 0,.slice none 0 0,.slice none 0 0,.string ⟨#[]⟩]
def ZcP(s:Str)(k:Int):Array Value:=#[.string ⟨s.toArray⟩,.int .i64 k,.string ⟨#[]⟩,.bool true,.slice none 0 0,.int .i64 10,.int .i64 5,.int .i64 0,.slice none 0 0,.slice none 0 0,.slice none 0 0,.slice none 0 0,.slice none 0 0,.bool false,.int .i64 0,.int .i64 0,.int .i64 0,.int .i64 0,.slice none 0 0,.slice none 0 0,.slice none 0 0,.slice none 0 0,.int .i64 0,.string ⟨#[]⟩,.string ⟨#[]⟩,.slice none 0 0,.slice none 0 0,.slice none 0 0,.slice none 0 0,.bool false,.slice none 0 0,.slice none 0 0,.slice none 0 0,.slice none 0 0,.string ⟨#[]⟩]
def Zpy(s:Str):Array Value:=#[.string ⟨s.toArray⟩,.int .i64 1,.string ⟨#[]⟩,.bool true,.slice none 0 0,.int .i64 10,.int .i64 5,.int .i64 1,.slice none 0 0,.slice none 0 0,.slice none 0 0,.slice none 0 0,.slice none 0 0,.bool false,.int .i64 1,.int .i64 0,.int .i64 90,.int .i64 90,.slice none 0 0,.slice none 0 0,.slice none 0 0,.slice none 0 0,.int .i64 0,.string ⟨#[]⟩,.string ⟨#[]⟩,.slice none 0 0,.slice none 0 0,.slice none 0 0,.slice none 0 0,.bool false,.slice none 0 0,.slice none 0 0,.slice none 0 0,.slice none 0 0,.string ⟨#[]⟩]
def Zpj(s:Str):Array Value:=#[.string ⟨s.toArray⟩,.int .i64 2,.string ⟨#[]⟩,.bool true,.slice none 0 0,.int .i64 10,.int .i64 5,.int .i64 0,.slice none 0 0,.slice none 0 0,.slice none 0 0,.slice none 0 0,.slice none 0 0,.bool false,.int .i64 0,.int .i64 0,.int .i64 0,.int .i64 0,.slice none 0 0,.slice none 0 0,.slice none 0 0,.slice none 0 0,.int .i64 16,.string ⟨#[]⟩,.string ⟨#[]⟩,.slice none 0 0,.slice none 0 0,.slice none 0 0,.slice none 0 0,.bool false,.slice none 0 0,.slice none 0 0,.slice none 0 0,.slice none 0 0,.string ⟨#[]⟩]
def ZnK:UC->Value
 |.s x=>.string ⟨x.toArray⟩
 |.n x=>.int .i64 x
 |.b x=>.bool x
 |_=>.slice none 0 0
def Yz(u:UV):Array Value:=((List.range 35).map fun j=>ZnK (u j)).toArray
theorem Zj5(w:World)(c:UC)(h:c.len=0):Y5 w (fun _=>False) c (ZnK c):=by
 have hn:∀g,(Value.slice none 0 0).ownBlock=some g->False:=fun g hg=>by simp [Value.ownBlock] at hg
 cases c with
 |s x=>rfl
 |n x=>rfl
 |b x=>rfl
 |ss l=>obtain rfl:l=[]:=c10_ h;exact ⟨World.ownsRow_nil _ _ _ _,hn⟩
 |ns l=>obtain rfl:l=[]:=c10_ h;exact ⟨World.ownsRow_nil _ _ _ _,hn⟩
 |rs l=>obtain rfl:l=[]:=c10_ h;exact ⟨World.ownsRow_nil _ _ _ _,hn⟩
 |ps l=>obtain rfl:l=[]:=c10_ h;exact ⟨World.ownsRow_nil _ _ _ _,hn⟩
 |cs l=>obtain rfl:l=[]:=c10_ h;exact ⟨[],rfl,World.ownsRow_nil _ _ _ _,hn,fun i h1 h2=>absurd h1 s_⟩
theorem Zqt:Yz ZK=Zf:=rfl
theorem Zpm(s:Str)(h:Zt s=0):Yz (Zw s)=Zf:=by unfold Zw;rw [if_pos h];rfl
theorem ZeN(s:Str)(k:Nat)(h:Zt s=k)(h0:k≠0)(h1:k≠1)(h2:k≠2):Yz (Zw s)=ZcP s k:=by
 unfold Zw;rw [h,if_neg h0];simp only;rw [if_neg h1,if_neg h2];rfl
theorem Zli(s:Str)(h:Zt s=1):Yz (Zw s)=Zpy s:=by
 unfold Zw;rw [h,if_neg d_];simp only;rw [if_pos d_];rfl
theorem Zls(s:Str)(h:Zt s=2):Yz (Zw s)=Zpj s:=by
 unfold Zw;rw [h,if_neg d_];simp only;rw [if_neg d_,if_pos d_];rfl
theorem ZJ(w:World):(Instr.alloc 28 true (.tuple #[])).run prog w=.ok (.pointer (some ⟨w.heap.size,0,none⟩)) (w.alloc (.cells Zf 28)):=rfl
theorem ZaE(s:Str)(k:Int)(w:World):(Instr.build 28 #[(0,.string ⟨s.toArray⟩),(1,.int .i64 k),(3,.bool true),(5,.int .i64 10),(6,.int .i64 5)]).run prog w=.ok (.agg (ZcP s k)) w:=
 run_build w _ _ _ rfl
theorem Xl(w:World):(Instr.build 28 #[]).run prog w=.ok (.agg Zf) w:=run_build w _ _ _ rfl
theorem ZhD:(Zf.all fun x=>x.oneCell')=true:=n54_
theorem Jt(s:Str)(k:Int):((ZcP s k).all fun x=>x.oneCell')=true:=n54_
theorem ZjW(s:Str):((Zpy s).all fun x=>x.oneCell')=true:=n54_
theorem ZjD(s:Str):((Zpj s).all fun x=>x.oneCell')=true:=n54_
theorem ZvI(s:Str)(w:World)(hs:s.length<4294967281)(hm:Zz w)(hk:Zt s=0) :
  Calls prog 17 #[.string ⟨s.toArray⟩] w fun e w'=>e=.returned (.agg (Yz (Zw s)))/\Below w.heap.size w w':=by
 rw [Zpm s hk];have HK:=h_ (fun w' (h:Below w.heap.size w w')=>show Calls prog 37 #[.string ⟨s.toArray⟩] w' fun e w''=>e=.returned (.int .i64 0)/\Below w'.heap.size w' w'' from J2 ⟨s.toArray⟩ w' n41_ (hm.below h) 0 hk);have HB:=h_ (ZaE s 0);clear hk;have Z0:=h_ (Jt s 0);have Z1:=h_ ZhD;go_enter func17,ntmps17;go_wp2_with (refine YW rfl _ Zf rfl (ZJ _) ?_;intro w1 h1 hb1);refine (HK.out _ hb1).mono ?_;rintro e w2 ⟨rfl,hb2⟩;have hb12:=h_ (Below.more hb1 hb2);have h1':=h_ ((hb2.block _ (Zd h1)).trans h1);have hl1:w.heap.size<w2.heap.size:=Zd h1'.out;have hz2:∀w3 w4:World,w3.heap[w2.heap.size]?=some (.cells Zf 28 (0,0))->Below w2.heap.size w2 w3->Fr (fun x=>x=w2.heap.size) w3 w4->w4.heap[w.heap.size]?=some (.cells Zf 28 (0,0))/\Below w.heap.size w w4:=by
  exact m86_
 replace hz2:=h_ hz2;have HZ:=h_ (show (ZcP s 0).size=35 from rfl);clear hb1 hb2 h1;go_wp2_with (first
  |(refine Qg rfl _ #[] #[] _ rfl s_ (Xl _) ?_)
  |(refine Qg rfl _ _ #[(0,.string ⟨s.toArray⟩),(1,.int .i64 0),(3,.bool true),(5,.int .i64 10),(6,.int .i64 5)] _ rfl n75_ (HB.out _) ?_)
  |(refine YW rfl _ Zf rfl (ZJ _) ?_;intro w3 h3 hb3)
  |(refine Yr rfl 28 _ _ w2.heap.size (ZcP s 0) Zf 28 rfl rfl rfl h3 rfl rfl Z0.out ?_;intro w4 h4 hf4;have hc1:w4.cell? ⟨w2.heap.size,1,none⟩=some (.int .i64 0):=(rd h4).1 1)
  |(refine Jf rfl 3 _ _ w2.heap.size _ .i64 _ _ _ rfl rfl rfl h4 n123_ _ rfl rfl ?_;intro w5 h5 hf5;replace h4:=h5;replace hf4:=hf4.trans hf5)
  |(refine QS rfl 28 _ w2.heap.size _ 28 _ rfl rfl h4 rfl rfl rfl ?_)
  |(refine Yr rfl 28 _ _ w.heap.size Zf Zf 28 rfl rfl rfl (hz2.out _ _ h3 hb3 hf4).1 rfl rfl Z1.out ?_;intro w9 h9 hf9))
 ·exact m87_
theorem Zv7(s:Str)(w:World)(hs:s.length<4294967281)(hm:Zz w)(hk:Zt s=1) :
  Calls prog 17 #[.string ⟨s.toArray⟩] w fun e w'=>e=.returned (.agg (Yz (Zw s)))/\Below w.heap.size w w':=by
 rw [Zli s hk];have HK:=h_ (fun w' (h:Below w.heap.size w w')=>show Calls prog 37 #[.string ⟨s.toArray⟩] w' fun e w''=>e=.returned (.int .i64 1)/\Below w'.heap.size w' w'' from J2 ⟨s.toArray⟩ w' n41_ (hm.below h) 1 hk);have HB:=h_ (ZaE s 1);clear hk;have Z0:=h_ (Jt s 1);have Z1:=h_ (ZjW s);go_enter func17,ntmps17;go_wp2_with (refine YW rfl _ Zf rfl (ZJ _) ?_;intro w1 h1 hb1);refine (HK.out _ hb1).mono ?_;rintro e w2 ⟨rfl,hb2⟩;have hb12:=h_ (Below.more hb1 hb2);have h1':=h_ ((hb2.block _ (Zd h1)).trans h1);have hl1:w.heap.size<w2.heap.size:=Zd h1'.out;have hz2:∀w3 w4:World,w3.heap[w2.heap.size]?=some (.cells Zf 28 (0,0))->Below w2.heap.size w2 w3->Fr (fun x=>x=w2.heap.size) w3 w4->w4.heap[w.heap.size]?=some (.cells Zf 28 (0,0))/\Below w.heap.size w w4:=by
  exact m86_
 replace hz2:=h_ hz2;have HZ:=h_ (show (ZcP s 1).size=35 from rfl);clear hb1 hb2 h1;go_wp2_with (first
  |(refine Qg rfl _ #[] #[] _ rfl s_ (Xl _) ?_)
  |(refine Qg rfl _ _ #[(0,.string ⟨s.toArray⟩),(1,.int .i64 1),(3,.bool true),(5,.int .i64 10),(6,.int .i64 5)] _ rfl n75_ (HB.out _) ?_)
  |(refine YW rfl _ Zf rfl (ZJ _) ?_;intro w3 h3 hb3)
  |(refine Yr rfl 28 _ _ w2.heap.size (ZcP s 1) Zf 28 rfl rfl rfl h3 rfl rfl Z0.out ?_;intro w4 h4 hf4;have hc1:w4.cell? ⟨w2.heap.size,1,none⟩=some (.int .i64 1):=(rd h4).1 1)
  |(refine Jf rfl 3 _ _ w2.heap.size _ .i64 _ _ _ rfl rfl rfl h4 n123_ _ rfl rfl ?_;intro w5 h5 hf5;replace h4:=h5;replace hf4:=hf4.trans hf5)
  |(refine QS rfl 28 _ w2.heap.size _ 28 _ rfl rfl h4 rfl rfl rfl ?_)
  |(refine Yr rfl 28 _ _ w.heap.size (Zpy s) Zf 28 rfl rfl rfl (hz2.out _ _ h3 hb3 hf4).1 rfl rfl Z1.out ?_;intro w9 h9 hf9))
 ·exact m87_
theorem Zv0(s:Str)(w:World)(hs:s.length<4294967281)(hm:Zz w)(hk:Zt s=2) :
  Calls prog 17 #[.string ⟨s.toArray⟩] w fun e w'=>e=.returned (.agg (Yz (Zw s)))/\Below w.heap.size w w':=by
 rw [Zls s hk];have HK:=h_ (fun w' (h:Below w.heap.size w w')=>show Calls prog 37 #[.string ⟨s.toArray⟩] w' fun e w''=>e=.returned (.int .i64 2)/\Below w'.heap.size w' w'' from J2 ⟨s.toArray⟩ w' n41_ (hm.below h) 2 hk);have HB:=h_ (ZaE s 2);clear hk;have Z0:=h_ (Jt s 2);have Z1:=h_ (ZjD s);go_enter func17,ntmps17;go_wp2_with (refine YW rfl _ Zf rfl (ZJ _) ?_;intro w1 h1 hb1);refine (HK.out _ hb1).mono ?_;rintro e w2 ⟨rfl,hb2⟩;have hb12:=h_ (Below.more hb1 hb2);have h1':=h_ ((hb2.block _ (Zd h1)).trans h1);have hl1:w.heap.size<w2.heap.size:=Zd h1'.out;have hz2:∀w3 w4:World,w3.heap[w2.heap.size]?=some (.cells Zf 28 (0,0))->Below w2.heap.size w2 w3->Fr (fun x=>x=w2.heap.size) w3 w4->w4.heap[w.heap.size]?=some (.cells Zf 28 (0,0))/\Below w.heap.size w w4:=by
  exact m86_
 replace hz2:=h_ hz2;have HZ:=h_ (show (ZcP s 2).size=35 from rfl);clear hb1 hb2 h1;go_wp2_with (first
  |(refine Qg rfl _ #[] #[] _ rfl s_ (Xl _) ?_)
  |(refine Qg rfl _ _ #[(0,.string ⟨s.toArray⟩),(1,.int .i64 2),(3,.bool true),(5,.int .i64 10),(6,.int .i64 5)] _ rfl n75_ (HB.out _) ?_)
  |(refine YW rfl _ Zf rfl (ZJ _) ?_;intro w3 h3 hb3)
  |(refine Yr rfl 28 _ _ w2.heap.size (ZcP s 2) Zf 28 rfl rfl rfl h3 rfl rfl Z0.out ?_;intro w4 h4 hf4;have hc1:w4.cell? ⟨w2.heap.size,1,none⟩=some (.int .i64 2):=(rd h4).1 1)
  |(refine Jf rfl 3 _ _ w2.heap.size _ .i64 _ _ _ rfl rfl rfl h4 n123_ _ rfl rfl ?_;intro w5 h5 hf5;replace h4:=h5;replace hf4:=hf4.trans hf5)
  |(refine QS rfl 28 _ w2.heap.size _ 28 _ rfl rfl h4 rfl rfl rfl ?_)
  |(refine Yr rfl 28 _ _ w.heap.size (Zpj s) Zf 28 rfl rfl rfl (hz2.out _ _ h3 hb3 hf4).1 rfl rfl Z1.out ?_;intro w9 h9 hf9))
 ·exact m87_
theorem Zv6(s:Str)(w:World)(hs:s.length<4294967281)(hm:Zz w)(hk:Zt s=3) :
  Calls prog 17 #[.string ⟨s.toArray⟩] w fun e w'=>e=.returned (.agg (Yz (Zw s)))/\Below w.heap.size w w':=by
 rw [ZeN s 3 hk d_ d_ d_];have HK:=h_ (fun w' (h:Below w.heap.size w w')=>show Calls prog 37 #[.string ⟨s.toArray⟩] w' fun e w''=>e=.returned (.int .i64 3)/\Below w'.heap.size w' w'' from J2 ⟨s.toArray⟩ w' n41_ (hm.below h) 3 hk);have HB:=h_ (ZaE s 3);clear hk;have Z0:=h_ (Jt s 3);have Z1:=h_ (Jt s 3);go_enter func17,ntmps17;go_wp2_with (refine YW rfl _ Zf rfl (ZJ _) ?_;intro w1 h1 hb1);refine (HK.out _ hb1).mono ?_;rintro e w2 ⟨rfl,hb2⟩;have hb12:=h_ (Below.more hb1 hb2);have h1':=h_ ((hb2.block _ (Zd h1)).trans h1);have hl1:w.heap.size<w2.heap.size:=Zd h1'.out;have hz2:∀w3 w4:World,w3.heap[w2.heap.size]?=some (.cells Zf 28 (0,0))->Below w2.heap.size w2 w3->Fr (fun x=>x=w2.heap.size) w3 w4->w4.heap[w.heap.size]?=some (.cells Zf 28 (0,0))/\Below w.heap.size w w4:=by
  exact m86_
 replace hz2:=h_ hz2;have HZ:=h_ (show (ZcP s 3).size=35 from rfl);clear hb1 hb2 h1;go_wp2_with (first
  |(refine Qg rfl _ #[] #[] _ rfl s_ (Xl _) ?_)
  |(refine Qg rfl _ _ #[(0,.string ⟨s.toArray⟩),(1,.int .i64 3),(3,.bool true),(5,.int .i64 10),(6,.int .i64 5)] _ rfl n75_ (HB.out _) ?_)
  |(refine YW rfl _ Zf rfl (ZJ _) ?_;intro w3 h3 hb3)
  |(refine Yr rfl 28 _ _ w2.heap.size (ZcP s 3) Zf 28 rfl rfl rfl h3 rfl rfl Z0.out ?_;intro w4 h4 hf4;have hc1:w4.cell? ⟨w2.heap.size,1,none⟩=some (.int .i64 3):=(rd h4).1 1)
  |(refine Jf rfl 3 _ _ w2.heap.size _ .i64 _ _ _ rfl rfl rfl h4 n123_ _ rfl rfl ?_;intro w5 h5 hf5;replace h4:=h5;replace hf4:=hf4.trans hf5)
  |(refine QS rfl 28 _ w2.heap.size _ 28 _ rfl rfl h4 rfl rfl rfl ?_)
  |(refine Yr rfl 28 _ _ w.heap.size (ZcP s 3) Zf 28 rfl rfl rfl (hz2.out _ _ h3 hb3 hf4).1 rfl rfl Z1.out ?_;intro w9 h9 hf9))
 ·exact m87_
theorem ZvP(s:Str)(w:World)(hs:s.length<4294967281)(hm:Zz w)(hk:Zt s=4) :
  Calls prog 17 #[.string ⟨s.toArray⟩] w fun e w'=>e=.returned (.agg (Yz (Zw s)))/\Below w.heap.size w w':=by
 rw [ZeN s 4 hk d_ d_ d_];have HK:=h_ (fun w' (h:Below w.heap.size w w')=>show Calls prog 37 #[.string ⟨s.toArray⟩] w' fun e w''=>e=.returned (.int .i64 4)/\Below w'.heap.size w' w'' from J2 ⟨s.toArray⟩ w' n41_ (hm.below h) 4 hk);have HB:=h_ (ZaE s 4);clear hk;have Z0:=h_ (Jt s 4);have Z1:=h_ (Jt s 4);go_enter func17,ntmps17;go_wp2_with (refine YW rfl _ Zf rfl (ZJ _) ?_;intro w1 h1 hb1);refine (HK.out _ hb1).mono ?_;rintro e w2 ⟨rfl,hb2⟩;have hb12:=h_ (Below.more hb1 hb2);have h1':=h_ ((hb2.block _ (Zd h1)).trans h1);have hl1:w.heap.size<w2.heap.size:=Zd h1'.out;have hz2:∀w3 w4:World,w3.heap[w2.heap.size]?=some (.cells Zf 28 (0,0))->Below w2.heap.size w2 w3->Fr (fun x=>x=w2.heap.size) w3 w4->w4.heap[w.heap.size]?=some (.cells Zf 28 (0,0))/\Below w.heap.size w w4:=by
  exact m86_
 replace hz2:=h_ hz2;have HZ:=h_ (show (ZcP s 4).size=35 from rfl);clear hb1 hb2 h1;go_wp2_with (first
  |(refine Qg rfl _ #[] #[] _ rfl s_ (Xl _) ?_)
  |(refine Qg rfl _ _ #[(0,.string ⟨s.toArray⟩),(1,.int .i64 4),(3,.bool true),(5,.int .i64 10),(6,.int .i64 5)] _ rfl n75_ (HB.out _) ?_)
  |(refine YW rfl _ Zf rfl (ZJ _) ?_;intro w3 h3 hb3)
  |(refine Yr rfl 28 _ _ w2.heap.size (ZcP s 4) Zf 28 rfl rfl rfl h3 rfl rfl Z0.out ?_;intro w4 h4 hf4;have hc1:w4.cell? ⟨w2.heap.size,1,none⟩=some (.int .i64 4):=(rd h4).1 1)
  |(refine Jf rfl 3 _ _ w2.heap.size _ .i64 _ _ _ rfl rfl rfl h4 n123_ _ rfl rfl ?_;intro w5 h5 hf5;replace h4:=h5;replace hf4:=hf4.trans hf5)
  |(refine QS rfl 28 _ w2.heap.size _ 28 _ rfl rfl h4 rfl rfl rfl ?_)
  |(refine Yr rfl 28 _ _ w.heap.size (ZcP s 4) Zf 28 rfl rfl rfl (hz2.out _ _ h3 hb3 hf4).1 rfl rfl Z1.out ?_;intro w9 h9 hf9))
 ·exact m87_
theorem Zky(s:Str)(w:World)(hs:s.length<4294967281)(hm:Zz w) :
  Calls prog 17 #[.string ⟨s.toArray⟩] w fun e w'=>e=.returned (.agg (Yz (Zw s)))/\Below w.heap.size w w':=by
 have h4:=J3 s;obtain h|h|h|h|h:Zt s=0\/Zt s=1\/Zt s=2\/Zt s=3\/Zt s=4:=o_
 ·exact ZvI s w hs hm h
 ·exact Zv7 s w hs hm h
 ·exact Zv0 s w hs hm h
 ·exact Zv6 s w hs hm h
 ·exact ZvP s w hs hm h
theorem Zq8{w:World}{U:Nat}(u:UV)(h:∀j,(u j).len=0)(hb:w.heap[U]?=some (.cells (Yz u) 28 (0,0))):Y7 w U (Yz u) (fun _ _=>False) u:=by
 refine ⟨hb,by simp [Yz],fun j v hv=>?_,fun _ _ _ e=>e.elim,fun _ e=>e,fun _ _ e=>e.elim⟩;have hj:j<35:=by have:=(c6_.1 hv).1;simpa [Yz] using this
 have:v=ZnK (u j):=by
  simp only [Yz,c1_,List.getElem?_map,List.getElem?_range hj,Option.map_some] at hv;injection hv with hv;exact hv.symm
 rw [this];exact Zj5 w _ (h j)
theorem ZbS(j:Nat):(ZK j).len=0:=by
 unfold ZK;(repeat' split);all_goals rfl
theorem Zc1(s:Str)(j:Nat):(Zw s j).len=0:=by
 have hu:∀(u:UV) (i:Nat) (c:UC),(∀j,(u j).len=0)->c.len=0->∀j,((u.upd i c) j).len=0:=fun u i c h1 h2 j=>by
  unfold UV.upd;split
  ·exact h2
  ·exact h1 j
 unfold Zw;split
 ·exact ZbS j
 ·simp only
  split
  ·exact hu _ _ _ (hu _ _ _ (hu _ _ _ (hu _ _ _ (hu _ _ _ (hu _ _ _ (hu _ _ _ (hu _ _ _ (hu _ _ _ ZbS rfl) rfl) rfl) rfl) rfl) rfl) rfl) rfl) rfl j
  ·split
   ·exact hu _ _ _ (hu _ _ _ (hu _ _ _ (hu _ _ _ (hu _ _ _ (hu _ _ _ ZbS rfl) rfl) rfl) rfl) rfl) rfl j
   ·exact hu _ _ _ (hu _ _ _ (hu _ _ _ (hu _ _ _ (hu _ _ _ ZbS rfl) rfl) rfl) rfl) rfl j
theorem m172_{p:Prop}(h:p:=by
  have HE3:=h_ (HE2.out.2 hPne);have HE4:=h_ (fun q=>HE2.out.1 (.inr q));rw [<-hAd] at HE3 HE4;clear HE2 hPne hAd;go_wp2_with fail;clear hAB;go_loop [9] (fun i=>∃j:Nat,j<=AB.size/\i=.int .i64 j/\Hid ((AB.data.toList.take j).all Zeb=true)) (fun i=>AB.size-(intOf i).toNat)
  case atStart=>exact ⟨0,Nat.zero_le _,rfl,h_ s_⟩
  case round=>
   obtain ⟨j,hj,rfl,Hall⟩:=hrel;by_cases hjl:j<AB.size
   ·have hjl2:j<AB.data.toList.length:=by simpa using hjl
    have hsn:=Ji AB.data.toList j hjl2;have hgj:AB.data.toList[j]'hjl2=AB[j]:=rfl;rw [hgj] at hsn;have j5:(j:Int)<(AB.size:Int):=o_;cases hnc:Zeb AB[j] with
    |true=>
     have HN:=h_ (show (AB.data.toList.take (j+1)).all Zeb=true by rw [hsn,List.all_append,Hall.out];simp [hnc]);have HC:=h_ (fun W=>Zax AB[j] W true hnc);clear hsn hgj hnc;go_wp2_with (refine (HC.out _).mono ?_;rintro e w' ⟨rfl,rfl⟩);go_round
     case rel=>exact ⟨j+1,o_,n9_,HN⟩
     case measure=>simp [intOf];omega
    |false=>
     have HZ:=h_ (show ofS s.data.toList=ZkB from HE4.out (by
      unfold Jl;rw [List.all_eq_false];exact ⟨AB[j],by rw [<-hgj];exact List.getElem_mem _,by simp [hnc]⟩))
     have HC:=h_ (fun W=>Zax AB[j] W false hnc);clear hsn hgj hnc;go_wp2_with (refine (HC.out _).mono ?_;rintro e w' ⟨rfl,rfl⟩);exact m175_
   ·have HO:=h_ (show ofS s.data.toList=_ from HE3.out (by
     have:=Hall.out
     rw [c9_ n6_] at this;exact this))
    go_wp2_with fail;refine Zai rfl rfl rfl (heap_setCell (heap_setCell (heap_setCell (heap_setCell HI5.out.zero 0 _) 1 _) 2 _) 3 _) ⟨?_,?_⟩
    ·rw [HO.out];rfl
    ·exact m176_):p:=h
theorem m173_{p:Prop}(h:p:=by have hPn:=QH hP0;have HZ:=h_ (show ofS s.data.toList=ZkB from HE2.out.1 (.inl (by rw [hPn])));subst hPn;clear HE2 hP0;go_wp2_with fail;exact m175_):p:=h
theorem m174_{p:Prop}(h:p:=by
  go_wp2_with (go_at_call 186;refine HS.out.mono ?_;rintro e w' ⟨rfl,rfl⟩);go_roundg (gk-1)
  case measure=>omega
  case rel=>exact ⟨k+1,o_,o_,o_,n9_,by rw [R2.out],HI2⟩):p:=h
theorem m175_{p:Prop}(h:p:=by
  refine Zai rfl rfl rfl (heap_setCell (heap_setCell (heap_setCell (heap_setCell HI5.out.zero 0 _) 1 _) 2 _) 3 _) ⟨?_,?_⟩
  ·rw [HZ.out];rfl
  ·exact m176_):p:=h
theorem m176_{p:Prop}(h:p:=by exact (((HI5.out.below.setCell s_ _).setCell s_ _).setCell s_ _).setCell s_ _):p:=h
def cutV(c:ZtU):Array Value:=#[.int .i64 c.kind,.string ⟨c.pre.toArray⟩,.string ⟨c.inst.toArray⟩,.bool c.at_]
structure ZcN(w wr:World)(cs:Array Value):Prop where
 below:Below w.heap.size w wr
 zero:wr.heap[w.heap.size]?=some (.cells #[.int .i64 0,.string ⟨#[]⟩,.string ⟨#[]⟩,.bool false] 133 (0,0))
 cut:wr.heap[w.heap.size+1]?=some (.cells cs 133 (0,0))
theorem ZcN.dn{w wr:World}{cs:Array Value}(h:ZcN w wr cs)(n:Nat):ZcN w (wr.drewN n) cs:=⟨h.below.trans (Ze ⟨n,rfl⟩),h.zero,h.cut⟩
theorem ZcN.set{w wr:World}{cs:Array Value}(h:ZcN w wr cs)(j:Nat)(v:Value):ZcN w (wr.setCell ⟨w.heap.size+1,j,none⟩ v) (cs.setIfInBounds j v):=
 ⟨h.below.setCell s_ _,ZC h.zero s_ _,heap_setCell h.cut j v⟩
theorem Ztg(s:ByteArray)(a b:Nat)(l:Str)(h:(s.extract a b).data.toList=l):s.extract a b=⟨l.toArray⟩:=by
 apply Yu;rw [h]
theorem Zai{w:World}{b:Nat}{x:Act}{R:Ending->World->Prop}{cs:Array Value}(h4:cs.size=4)(hd:x.defers=[])(ha:x.tmps.getD 2 undef=.pointer (some ⟨b,0,none⟩))(hw:w.heap[b]?=some (.cells cs 133 (0,0)))(h:R (.returned (.agg cs)) w) :
  bodyPost prog Tryz.f101 R .ret x w:=
 QI 2 133 b (.agg cs) rfl hd ha (Y2 133 _ rfl rfl (by rw [h4];rfl) hw) h
theorem ZuX(s:ByteArray)(w:World)(h:60<s.size):Calls prog 101 #[.string s] w fun e w'=>e=.returned (.agg (cutV ZkB))/\Below w.heap.size w w':=by
 go_enter func101,ntmps101;go_wp2_with fail;exact Zai rfl rfl rfl (heap_alloc_new _ _) ⟨rfl,b_.alloc l_ _⟩
theorem Zse(s:ByteArray)(w:World)(h:s.size<=60):Calls prog 101 #[.string s] w fun e w'=>e=.returned (.agg (cutV (ofS s.data.toList)))/\Below w.heap.size w w':=by
 obtain ⟨z1,z2⟩:=Zvj s.data.toList;have hin:ZcN w ((w.alloc (.cells #[.int .i64 0,.string ⟨#[]⟩,.string ⟨#[]⟩,.bool false] 133)).alloc (.cells #[.int .i64 0,.string ⟨#[]⟩,.string ⟨#[]⟩,.bool false] 133)) (cutV ⟨kR s.data.toList 1,[],[],false⟩):=by
  rw [z1];refine ⟨(b_.alloc l_ _).alloc s_ _,heap_alloc (heap_alloc_new _ _) _,?_⟩;rw [show w.heap.size+1=(w.alloc (.cells #[.int .i64 0,.string ⟨#[]⟩,.string ⟨#[]⟩,.bool false] 133)).heap.size by simp];exact heap_alloc_new _ _
 have HIN:=h_ hin;clear hin z1;have Z2:=h_ z2;clear z2;go_enter func101,ntmps101;go_wp2_with fail;generalize (w.alloc (.cells #[.int .i64 0,.string ⟨#[]⟩,.string ⟨#[]⟩,.bool false] 133)).alloc (.cells #[.int .i64 0,.string ⟨#[]⟩,.string ⟨#[]⟩,.bool false] 133)=w1 at *;go_loopg [4,5] 6 (fun f rest i wr=>∃k:Nat,1<=k/\k<=5/\5-k<f/\i=.int .i64 k/\rest=.string ⟨(rR s.data.toList k).toArray⟩/\Hid (ZcN w wr (cutV ⟨kR s.data.toList k,[],[],false⟩)))
 case atStart=>exact ⟨1,o_,o_,o_,rfl,by rw [Z2.out],HIN⟩
 case round=>
  obtain ⟨k,h1k,hk5,hf,rfl,rfl,HI⟩:=hrel;by_cases hk4:k<=4
  ·obtain ⟨F,hF⟩:∃F:ByteArray,F=⟨(X5 k).toArray⟩:=⟨_,rfl⟩
   have HS:=h_ (ZlF (k:Int) wr (X5 k) (ZrN k));rw [<-hF] at HS;obtain ⟨E,hE⟩:∃E:ByteArray,(⟨#[46]⟩:ByteArray)++F=E:=⟨_,rfl⟩;have hEd:E.data.toList=46::X5 k:=by rw [<-hE,hF];simp [ByteArray.data_append]
   have hEz:E.size=(X5 k).length+1:=by
    have:E.data.toList.length=E.size:=s_
    rw [<-this,hEd];rfl
   have hsl:=Zpt k;have hsz:s.data.toList.length=s.size:=s_;have hF0:=hF;clear hF;by_cases hmt:(ZX s.data.toList).1≠[]/\kindOf (ZX s.data.toList).2=k
   ·have hs:=ZlB h1k hk4 hmt.1 hmt.2
    obtain ⟨r1,r2⟩:=Zsi h1k hmt.1 hmt.2;obtain ⟨hd,hhd⟩:=e_ ((ZX s.data.toList).1);rw [<-hhd] at hs r2;have hdn:0<hd.length:=List.length_pos_iff.2 (by rw [hhd];exact hmt.1);have hlen:hd.length+E.size=s.size:=by rw [<-hsz,hs,hEz];simp
    have x1:s.extract hd.length s.size=E:=by
     apply Yu;rw [Lib.extract_to_end,hs,hEd];simp
    have x2:s.extract 0 hd.length=⟨hd.toArray⟩:=Ztg s 0 _ _ (by rw [Lib.extract_data,hs];simp);have n1:(s.size:Int)-(E.size:Int)=(hd.length:Int):=o_;have n2:(E.size:Int)<(s.size:Int):=o_;have n3:IntKind.i64.wrap (hd.length:Int)=(hd.length:Int):=IntWalk.i64_in _ o_;have n4:(hd.length:Int)<=(s.size:Int):=o_;have X1:=h_ x1;have X2:=h_ x2;have R1:=h_ r1;have R2:=h_ r2;have hq:hd.length<=s.size:=o_;have hFz:F.size<=7:=by rw [hF0];show (X5 k).toArray.size<=7;simpa using hsl
    clear hs hmt hhd hsz hEd x1 x2 r1 r2 hEz hlen hF0;have h63:s.size<100:=o_;have q1:((s.extract hd.length s.size).toList==E.toList)=true:=by rw [X1.out];simp
    go_wp2_with (go_at_call 186;refine HS.out.mono ?_;rintro e w' ⟨rfl,rfl⟩);have e1:=HI.out.cut;obtain ⟨cc,fc,-,-⟩:=rd e1;have c0:=cc 0;have f0:=fc 0;simp only [cutV,c1_,c2_] at c0;clear cc fc e1;go_region_held3 (fun w'=>w'.frozen? ⟨w.heap.size+1,0,none⟩=false) (go_keep) (first|fail);have hI2:ZcN w ((wr.setCell ⟨w.heap.size+1,0,none⟩ (.int .i64 k)).drew) (cutV ⟨kR s.data.toList (k+1),[],[],false⟩):=by
     rw [R1.out];exact (HI.out.set 0 (.int .i64 k)).dn 1
    have HI2:=h_ hI2;rename_i hHeld;clear hI2 c0 f0 hHeld;generalize (wr.setCell ⟨w.heap.size+1,0,none⟩ (.int .i64 k)).drew=w2 at *;go_wp2_with fail;go_roundg (gk-1)
    case measure=>omega
    case rel=>exact ⟨k+1,o_,o_,o_,n9_,by rw [X2.out,R2.out],HI2⟩
   ·obtain ⟨r1,r2⟩:=ZvY hmt
    have hFz:F.size<=7:=by rw [hF0];show (X5 k).toArray.size<=7;simpa using hsl
    have HI2:=h_ (show ZcN w wr (cutV ⟨kR s.data.toList (k+1),[],[],false⟩) by rw [r1];exact HI.out);have R2:=h_ r2;have h63:s.size<100:=o_;by_cases hlt2:E.size<s.size
    ·obtain ⟨n,hn⟩:∃n,n+E.size=s.size:=⟨s.size-E.size,o_⟩
     have hne:=Zos h1k hk4 hmt n116_ n n116_;have q1:((s.extract n s.size).toList==E.toList)=false:=by
      rw [c11_,ByteArray.toList_eq,ByteArray.toList_eq,Lib.extract_to_end,hEd];exact hne
     have n1:(s.size:Int)-(E.size:Int)=(n:Int):=o_;have n2:(E.size:Int)<(s.size:Int):=o_;have n3:IntKind.i64.wrap (n:Int)=(n:Int):=IntWalk.i64_in _ o_;have n4:(n:Int)<=(s.size:Int):=o_;clear hmt hsz hEd r1 r2 hEz hne hF0 hn;exact m174_
    ·have n2:¬(E.size:Int)<(s.size:Int):=o_
     clear hmt hsz hEd r1 r2 hEz hF0;exact m174_
  ·have hke:k=5:=o_
   subst hke;have hlen60:s.data.toList.length<=60:=n32_;rcases Zvp s.data.toList with ⟨k1,k2⟩|⟨k1,k2,k3⟩
   ·have HZ:=h_ (show ofS s.data.toList=ZkB by unfold ofS;rw [if_pos k2])
    have hI:=HI.out;rw [k1] at hI;obtain ⟨cc,-,-,-⟩:=rd hI.cut;have c0:=cc 0;obtain ⟨dd,ff,-,-⟩:=rd hI.zero;have d0:=dd 0;have d1:=dd 1;have d2:=dd 2;have d3:=dd 3;have f0:=ff 0;have f1:=ff 1;have f2:=ff 2;have f3:=ff 3;simp only [cutV,c1_,c2_,c3_] at c0 d0 d1 d2 d3;have HI2:=h_ hI;clear cc dd ff hI k1 k2;go_wp2_with fail;refine Zai rfl rfl rfl (heap_setCell (heap_setCell (heap_setCell (heap_setCell HI2.out.zero 0 _) 1 _) 2 _) 3 _) ⟨?_,?_⟩
    ·rw [HZ.out];rfl
    ·exact (((HI2.out.below.setCell s_ _).setCell s_ _).setCell s_ _).setCell s_ _
   ·obtain ⟨RB,hRB⟩:∃RB:ByteArray,(⟨(rR s.data.toList 5).toArray⟩:ByteArray)=RB:=⟨_,rfl⟩
    have hRd:RB.data.toList=(ZX s.data.toList).1:=by rw [<-hRB,k3]
    have hRz:RB.size<1000:=by
     have h1:RB.data.toList.length=RB.size:=s_;have h2:=(ZbQ s.data.toList).1;rw [<-hRd,h1] at h2;omega
    have HE:=h_ (fun p i f h=>Zvy hlen60 k1 k2 p i f h);have hI:=HI.out;obtain ⟨kd,hkd⟩:=e_ (kR s.data.toList 5);rw [<-hkd] at hI k1 HE;have HRd:=h_ hRd;rw [hRB];obtain ⟨cc,ff,-,-⟩:=rd hI.cut;have c0:=cc 0;have c1:=cc 1;have f1:=ff 1;simp only [cutV,c1_,c2_,c3_] at c0 c1;have k0:((kd:Int)==0)=false:=n15_;have HI2:=h_ (hI.set 1 (.string RB));clear cc ff hI k1 k2 k3 hRB hRd hkd HI;go_wp2_with fail;generalize wr.setCell ⟨w.heap.size+1,1,none⟩ (.string RB)=w2 at *;have HI3:=h_ (show ZcN w w2 #[.int .i64 kd,.string RB,.string ⟨#[]⟩,.bool false] from HI2.out);clear HI2 c0 c1 f1 k0;go_loop [7] (fun i=>∃k:Nat,k<=RB.size/\i=.int .i64 k/\Hid ((RB.data.toList.take k).contains 64=false)) (fun i=>RB.size-(intOf i).toNat)
    case atStart=>exact ⟨0,Nat.zero_le _,rfl,h_ s_⟩
    case round=>
     clear hk4 h1k hk5 hf;obtain ⟨k,hk,rfl,Hno⟩:=hrel;by_cases hlt:k<RB.size
     ·have hkl:k<RB.data.toList.length:=n31_
      have hsn:=Ji RB.data.toList k hkl;have hgk:RB.data.toList[k]'hkl=RB[k]:=rfl;rw [hgk] at hsn;have i5:(k:Int)<(RB.size:Int):=o_;cases hat:((RB[k].toNat:Int)==64) with
      |true=>
       have hc:RB[k]=64:=by
        rw [<-UInt8.toNat_inj]
        have:=eq_of_beq hat
        have e2:((64:UInt8).toNat:Int)=64:=rfl;omega
       have hs:RB.data.toList=RB.data.toList.take k++64::RB.data.toList.drop (k+1):=by
        conv=>lhs;rw [<-List.take_append_drop k RB.data.toList,List.drop_eq_getElem_cons hkl,hgk,hc]
       have hca:=ZnY (RB.data.toList.take k) (RB.data.toList.drop (k+1)) Hno.out;rw [<-hs,HRd.out] at hca;have HE2:=h_ (HE.out _ _ _ hca);obtain ⟨PB,hPB⟩:∃PB:ByteArray,RB.extract 0 k=PB:=⟨_,rfl⟩;obtain ⟨IB,hIB⟩:∃IB:ByteArray,RB.extract (k+1) RB.size=IB:=⟨_,rfl⟩;have hPd:PB.data.toList=RB.data.toList.take k:=by rw [<-hPB,Lib.extract_data];simp
       have hId:IB.data.toList=RB.data.toList.drop (k+1):=by rw [<-hIB,Lib.extract_to_end]
       have hPz:PB.size<1000:=by
        have h1:PB.data.toList.length=PB.size:=s_;rw [<-h1,hPd,List.length_take];omega
       have hIz:IB.size<1000:=by
        have h1:IB.data.toList.length=IB.size:=s_;have h2:RB.data.toList.length=RB.size:=s_;rw [<-h1,hId,List.length_drop,h2];omega
       rw [HRd.out] at hPd hId;rw [<-hPd,<-hId] at HE2;have HPd:=h_ hPd;have HId:=h_ hId;have i6:IntKind.i64.wrap ((k:Int)+1)=(k:Int)+1:=IntWalk.i64_in _ o_;have i7:0<=(k:Int)+1:=o_;have i8:((k:Int)+1).toNat=k+1:=o_;have i9:(k:Int)+1<=(RB.size:Int):=o_;have i10:(k:Int)<=(RB.size:Int):=o_;obtain ⟨cc,ff,-,-⟩:=rd HI3.out.cut;have f1:=ff 1;have f2:=ff 2;have f3:=ff 3;have c1:=cc 1;have c2:=cc 2;have c3:=cc 3;simp only [c1_,c2_,c3_] at c1 c2 c3;have HPB:=h_ hPB;have HIB:=h_ hIB;clear cc ff hs hca hc hsn hgk hPd hId hPB hIB;go_wp2_with fail;go_region_held3 (fun w'=>w'.frozen? ⟨w.heap.size+1,1,none⟩=false/\w'.frozen? ⟨w.heap.size+1,2,none⟩=false/\w'.frozen? ⟨w.heap.size+1,3,none⟩=false) (go_keep) (first|fail);have hI5:ZcN w (((w2.setCell ⟨w.heap.size+1,3,none⟩ (.bool true)).setCell ⟨w.heap.size+1,1,none⟩ (.string PB)).setCell ⟨w.heap.size+1,2,none⟩ (.string IB)).drew #[.int .i64 kd,.string PB,.string IB,.bool true]:=(((HI3.out.set 3 (.bool true)).set 1 (.string PB)).set 2 (.string IB)).dn 1;have HI5:=h_ hI5;rename_i hHeld;clear hI5 hHeld c1 c2 c3 f1 f2 f3;rw [HPB.out,HIB.out];clear HPB HIB;generalize (((w2.setCell ⟨w.heap.size+1,3,none⟩ (.bool true)).setCell ⟨w.heap.size+1,1,none⟩ (.string PB)).setCell ⟨w.heap.size+1,2,none⟩ (.string IB)).drew=w5 at *;obtain ⟨cc,-,-,-⟩:=rd HI5.out.cut;have c0:=cc 0;have c1:=cc 1;have c2:=cc 2;have c3:=cc 3;obtain ⟨dd,ff,-,-⟩:=rd HI5.out.zero;have d0:=dd 0;have d1:=dd 1;have d2:=dd 2;have d3:=dd 3;have f0:=ff 0;have f1:=ff 1;have f2:=ff 2;have f3:=ff 3;simp only [c1_,c2_,c3_] at c0 c1 c2 c3 d0 d1 d2 d3;clear cc dd ff;by_cases hP0:PB.size=0
       ·exact m173_
       ·obtain ⟨n1,n2,n3,n4⟩:=Xo hP0
        have hPne:PB.data.toList≠[]:=by rw [ByteArray.toList_eq] at n2;exact n2
        obtain ⟨AB,hAB⟩:∃AB:ByteArray,PB++IB=AB:=⟨_,rfl⟩;have hAd:AB.data.toList=PB.data.toList++IB.data.toList:=by rw [<-hAB];simp [ByteArray.data_append]
        have hAz:AB.size<2000:=by
         have h1:AB.size=PB.size+IB.size:=by rw [<-hAB,ByteArray.size_append]
         omega
        exact m172_
      |false=>
       have hc:RB[k]≠64:=by
        intro e;rw [e] at hat;exact absurd hat d_
       have HN:=h_ (show (RB.data.toList.take (k+1)).contains 64=false by
        rw [hsn,List.contains_append,Hno.out];simp;exact fun e=>hc e.symm)
       clear hsn hgk hc;go_wp2_with fail;go_round
       case rel=>exact ⟨k+1,o_,n9_,HN⟩
       case measure=>simp [intOf];omega
     ·have hca:=Zs0 RB.data.toList (by
       have:=Hno.out
       rw [c9_ n6_] at this;exact this)
      rw [HRd.out] at hca;have HE2:=h_ (HE.out _ _ _ hca);rw [<-HRd.out] at HE2;have HI5:=HI3;clear hca HI3 HE;obtain ⟨cc,-,-,-⟩:=rd HI5.out.cut;have c0:=cc 0;have c1:=cc 1;have c2:=cc 2;have c3:=cc 3;obtain ⟨dd,ff,-,-⟩:=rd HI5.out.zero;have d0:=dd 0;have d1:=dd 1;have d2:=dd 2;have d3:=dd 3;have f0:=ff 0;have f1:=ff 1;have f2:=ff 2;have f3:=ff 3;simp only [c1_,c2_,c3_] at c0 c1 c2 c3 d0 d1 d2 d3;clear cc dd ff;by_cases hP0:RB.size=0
      ·exact m173_
      ·obtain ⟨n1,n2,n3,n4⟩:=Xo hP0
       have hPne:RB.data.toList≠[]:=by rw [ByteArray.toList_eq] at n2;exact n2
       obtain ⟨AB,hAB⟩:∃AB:ByteArray,RB++(⟨#[]⟩:ByteArray)=AB:=⟨_,rfl⟩;have hAd:AB.data.toList=RB.data.toList++[]:=by rw [<-hAB];simp [ByteArray.data_append]
       have hAz:AB.size<2000:=by
        have h1:AB.size=RB.size+0:=by rw [<-hAB,ByteArray.size_append];rfl
        omega
       exact m172_
theorem Zvm(s:ByteArray)(w:World)(c:ZtU)(hc:ofS s.data.toList=c):Calls prog 101 #[.string s] w fun e w'=>e=.returned (.agg #[.int .i64 c.kind,.string ⟨c.pre.toArray⟩,.string ⟨c.inst.toArray⟩,.bool c.at_])/\Below w.heap.size w w':=by
 subst hc;by_cases h:s.size<=60
 ·exact Zse s w h
 ·have hz:ofS s.data.toList=ZkB:=by
   have hl:¬s.data.toList.length<=60:=n32_
   have:Zt s.data.toList=0:=by unfold Zt;rw [if_neg (fun q=>hl q.1)]
   unfold ofS;rw [if_pos this]
  rw [hz];exact ZuX s w o_
theorem ZpX(a b c d:Value)(h:a.cells=#[a])(W:World):(Instr.field 133 (.agg #[a,b,c,d]) 0).run prog W=.ok a W:=by
 first|rfl|simp [Instr.field,go_sem,h]
theorem ZhZ(s:Str)(w:World)(fin:Array Value)(k:Int)(hk:(Zt s:Int)=k)(hc:(k=0/\fin=Zf)\/(k=1/\fin=Zpy s)\/(k=2/\fin=Zpj s)\/(k=3/\fin=ZcP s 3)\/(k=4/\fin=ZcP s 4)) :
  Calls prog 50 #[.string ⟨s.toArray⟩] w fun e w'=>e=.returned (.agg fin)/\Below w.heap.size w w':=by
 have HOF:=h_ (fun W=>Zvm ⟨s.toArray⟩ W (ofS s) rfl);have hkk:((ofS s).kind:Int)=k:=by rw [Zr5 s];exact hk
 rw [hkk] at HOF;generalize (ofS s).pre=P at *;generalize (ofS s).inst=I at *;generalize (ofS s).at_=A at *;have hfl:=ZpX (.int .i64 k) (.string ⟨P.toArray⟩) (.string ⟨I.toArray⟩) (.bool A) rfl;have HB:=h_ (fun w=>ZaE s k w);have Z0:=h_ (Jt s k);have Z1:=h_ (show (fin.all fun x=>x.oneCell')=true by rcases hc with ⟨_,rfl⟩|⟨_,rfl⟩|⟨_,rfl⟩|⟨_,rfl⟩|⟨_,rfl⟩<;>first|exact ZhD|exact ZjW s|exact ZjD s|exact Jt s _);have HZ:=h_ (show (ZcP s k).size=35 from rfl);clear hk hkk;rcases hc with ⟨rfl,rfl⟩|hc
 ·go_enter func50,ntmps50
  go_wp2_with (refine YW rfl _ Zf rfl (ZJ _) ?_;intro w1 h1 hb1);refine (HOF.out _).mono ?_;rintro e w2 ⟨rfl,hb2⟩;have hb12:=h_ (Below.more hb1 hb2);have h1':=(hb2.block _ (Zd h1)).trans h1;clear hb1 hb2 h1;go_wp2_with (first
   |(refine Qg rfl _ #[] #[] _ rfl s_ (Xl _) ?_)
   |(refine Yr rfl 28 _ _ w.heap.size Zf Zf 28 rfl rfl rfl h1' rfl rfl Z1.out ?_;intro w9 h9 hf9))
  refine QI 2 28 w.heap.size _ rfl rfl rfl (Y2 28 _ rfl rfl rfl h9) ⟨rfl,?_⟩;exact hb12.out.trans (hf9.below _ hb12.out.size (fun k hk e=>by omega))
 ·rcases hc with ⟨rfl,rfl⟩|⟨rfl,rfl⟩|⟨rfl,rfl⟩|⟨rfl,rfl⟩
  all_goals
   go_enter func50,ntmps50;go_wp2_with (refine YW rfl _ Zf rfl (ZJ _) ?_;intro w1 h1 hb1);refine (HOF.out _).mono ?_;rintro e w2 ⟨rfl,hb2⟩;have hb12:=h_ (Below.more hb1 hb2);have h1':=h_ ((hb2.block _ (Zd h1)).trans h1);have hl1:w.heap.size<w2.heap.size:=Zd h1'.out;have hz2:∀w3 w4:World,w3.heap[w2.heap.size]?=some (.cells Zf 28 (0,0))->Below w2.heap.size w2 w3->Fr (fun x=>x=w2.heap.size) w3 w4->w4.heap[w.heap.size]?=some (.cells Zf 28 (0,0))/\Below w.heap.size w w4:=by
    intro w3 w4 h3 hb3 hf4;have hne:w.heap.size≠w2.heap.size:=o_;have e3:=(hb3.block _ hl1).trans h1'.out;have e4:w4.heap[w.heap.size]?=_:=(hf4.block _ (Zd e3) hne).trans e3;refine ⟨e4,?_⟩;refine hb12.out.trans ?_;exact (hb3.mono o_).trans (hf4.below _ (Nat.le_of_lt (c16_ hl1 hb3.size)) (fun k hk e=>by omega))
   replace hz2:=h_ hz2;clear hb1 hb2 h1;go_wp2_with (first
    |(refine Qg rfl _ _ _ _ rfl n75_ (HB.out _) ?_)
    |(refine YW rfl _ Zf rfl (ZJ _) ?_;intro w3 h3 hb3)
    |(refine Yr rfl 28 _ _ w2.heap.size _ Zf 28 rfl rfl rfl h3 rfl rfl Z0.out ?_;intro w4 h4 hf4)
    |(refine Jf rfl 3 _ _ w2.heap.size _ .i64 _ _ _ rfl rfl rfl h4 n123_ _ rfl rfl ?_;intro w5 h5 hf5;replace h4:=h5;replace hf4:=hf4.trans hf5)
    |(refine QS rfl 28 _ w2.heap.size _ 28 _ rfl rfl h4 rfl rfl rfl ?_)
    |(refine Yr rfl 28 _ _ w.heap.size _ Zf 28 rfl rfl rfl (hz2.out _ _ h3 hb3 hf4).1 rfl rfl Z1.out ?_;intro w9 h9 hf9))
   have hb:=hz2.out _ _ h3 hb3 hf4;refine QI 2 28 w.heap.size _ rfl rfl rfl (Y2 28 _ rfl rfl rfl h9) ⟨rfl,?_⟩;exact hb.2.trans (hf9.below _ hb.2.size (fun k hk e=>by omega))
theorem Ztf(s:Str)(w:World):Calls prog 50 #[.string ⟨s.toArray⟩] w fun e w'=>e=.returned (.agg (Yz (Zw s)))/\Below w.heap.size w w':=by
 have h4:=J3 s;obtain h|h|h|h|h:Zt s=0\/Zt s=1\/Zt s=2\/Zt s=3\/Zt s=4:=o_
 ·exact ZhZ s w _ 0 (by rw [h];rfl) (.inl ⟨rfl,Zpm s h⟩)
 ·exact ZhZ s w _ 1 (by rw [h];rfl) (.inr (.inl ⟨rfl,Zli s h⟩))
 ·exact ZhZ s w _ 2 (by rw [h];rfl) (.inr (.inr (.inl ⟨rfl,Zls s h⟩)))
 ·exact ZhZ s w _ 3 (by rw [h];rfl) (.inr (.inr (.inr (.inl ⟨rfl,ZeN s 3 h d_ d_ d_⟩))))
 ·exact ZhZ s w _ 4 (by rw [h];rfl) (.inr (.inr (.inr (.inr ⟨rfl,ZeN s 4 h d_ d_ d_⟩))))
end Go.Proofs.YtmgmbeipbeknaaaGreatDoor
