import Derived.Test.YtmgmbeipbeknaaaGreatDoorRB5
import Derived.Test.YtmgmbeipbeknaaaGreatDoorRB10
import Derived.Test.YtmgmbeipbeknaaaGreatDoorRB23
namespace Go.Proofs.YtmgmbeipbeknaaaGreatDoor
set_option linter.all false
set_option maxHeartbeats 16000000
theorem m81_{p:Prop}(h:p:=by
  obtain ⟨x,hx,rfl⟩:=Option.map_eq_some_iff.1 h
  have:=Zcj n t x hl' hx
  simp;omega):p:=h
def gone(acc:Str)(r:Option Str):Option Str:=r.map fun x=>acc++x
theorem Zmy(r:Option Str):gone [] r=r:=by cases r<;>rfl
theorem ZcX(acc x:Str)(r:Option Str):gone acc (r.map fun t=>x++t)=gone (acc++x) r:=by
 cases r with
 |none=>rfl
 |some r=>simp [gone]
theorem ZmC(t acc:Str):gone acc (Yd (45::t))=gone (acc++[47]) (Yd t):=by
 have:Yd (45::t)=(Yd t).map fun r=>47::r:=by
  conv=>lhs;unfold Yd
  rw [if_pos rfl]
 rw [this];exact ZcX acc [47] _
theorem ZmI(c:UInt8)(t acc:Str)(h:c≠45)(hk:Zjv c=true):gone acc (Yd (c::t))=gone (acc++[c]) (Yd t):=by
 have:Yd (c::t)=(Yd t).map fun r=>c::r:=by
  conv=>lhs;unfold Yd
  rw [if_neg h,if_pos hk]
 rw [this];exact ZcX acc [c] _
theorem ZmE(a b d:UInt8)(u acc:Str)(h:Jh [a,b]=some d):gone acc (Yd (92::120::a::b::u))=gone (acc++[d]) (Yd u):=by
 have:Yd (92::120::a::b::u)=(Yd u).map fun r=>d::r:=by
  conv=>lhs;unfold Yd
  rw [if_neg d_,if_neg d_];simp only [h]
 rw [this];exact ZcX acc [d] _
theorem ZoR(r acc:Str)(h:Jh r=none):gone acc (Yd (92::120::r))=none:=by
 have:Yd (92::120::r)=none:=by
  conv=>lhs;unfold Yd
  rw [if_neg d_,if_neg d_];match r,h with
  |[],_=>rfl
  |[a],_=>rfl
  |a::b::u,h=>
   have:Jh [a,b]=none:=h
   simp only [this]
 rw [this];rfl
theorem ZlD(c:UInt8)(t acc:Str)(h:c≠45)(hk:Zjv c=false)(hm:¬∃r,c::t=92::120::r):gone acc (Yd (c::t))=none:=by
 have:Yd (c::t)=none:=by
  conv=>lhs;unfold Yd
  rw [if_neg h,if_neg (by rw [hk];decide)];split
  ·rename_i a b u
   exact absurd ⟨_,rfl⟩ hm
  ·rfl
 rw [this];rfl
theorem Znw(r:Str)(d:UInt8)(h:Jh r=some d):∃a b u,r=a::b::u/\Jh [a,b]=some d:=by
 match r,h with
 |a::b::u,h=>exact ⟨a,b,u,rfl,h⟩
theorem ZqU(unit:Str)(c:UInt8)(t acc:Str)(h:c≠37):gone acc (Jp unit (c::t))=gone (acc++[c]) (Jp unit t):=by
 cases t with
 |nil=>simp [Jp,h,gone]
 |cons d t=>rw [Jp,if_neg h];exact ZcX acc [c] _
theorem ZtF(unit acc:Str):gone acc (Jp unit [37])=none:=by simp [Jp,gone]
theorem ZlY(unit:Str)(d:UInt8)(x t acc:Str)(h:Qb unit d=some x):gone acc (Jp unit (37::d::t))=gone (acc++x) (Jp unit t):=by
 rw [Jp,if_pos rfl,h];exact ZcX acc x _
theorem Zsk(unit:Str)(d:UInt8)(t acc:Str)(h:Qb unit d=none):gone acc (Jp unit (37::d::t))=none:=by
 rw [Jp,if_pos rfl,h];rfl
theorem Zcj:∀(n:Nat) (s r:Str),s.length<=n->Yd s=some r->r.length<=s.length
 |_,[],r,_,h=>by injection h with h;subst h;simp
 |0,c::t,r,h,_=>by simp at h
 |n+1,c::t,r,hl,h=>by
  unfold Yd at h;have hl':t.length<=n:=by simpa using hl
  split at h
  ·exact m81_
  ·split at h
   ·exact m81_
   ·split at h
    ·rename_i a b u _ _
     split at h
     ·cases h
     ·obtain ⟨x,hx,rfl⟩:=Option.map_eq_some_iff.1 h
      have:=Zcj n u x (by simp at hl';omega) hx
      simp;omega
    ·cases h
theorem Zpr(s:Str):(ofS s).pre.length<=s.length/\(ofS s).inst.length<=s.length:=by
 unfold ofS;by_cases h:Zt s=0
 ·rw [if_pos h];exact ⟨Nat.zero_le _,Nat.zero_le _⟩
 ·rw [if_neg h]
  have h1:=ZbQ s;have h2:=ZdI (ZX s).1;exact ⟨by simp only;omega,by simp only;omega⟩
theorem ZgE(unit:Str)(d:UInt8)(x:Str)(h:Qb unit d=some x):x.length<=unit.length+1:=by
 have h1:=Zpr unit;have h2:=ZbQ unit;unfold Qb at h;(repeat' split at h);all_goals first|(injection h with h;subst h)|cases h
 ·simp
 ·omega
 ·omega
 ·omega
 ·omega
 ·cases hu:Yd (ofS unit).inst with
  |none=>simp only [Option.getD_none];omega
  |some r=>
   have:=Zcj _ _ _ l_ hu
   simp only [Option.getD_some];omega
theorem Zfo(unit:Str):∀(n:Nat) (s r:Str),s.length<=n->Jp unit s=some r->r.length<=s.length*(unit.length+1)
 |_,[],r,_,h=>by rw [Jp] at h;injection h with h;subst h;simp
 |_,[c],r,_,h=>by
  rw [Jp] at h;split at h
  ·cases h
  ·injection h with h;subst h;simp
 |0,c::d::t,r,h,_=>by simp at h
 |n+1,c::d::t,r,hl,h=>by
  rw [Jp] at h;split at h
  ·split at h
   ·cases h
   ·rename_i x hx
    obtain ⟨y,hy,rfl⟩:=Option.map_eq_some_iff.1 h;have h1:=ZgE unit d x hx;have h2:=Zfo unit n t y (by simp at hl;omega) hy;simp only [c5_,c14_,Nat.add_mul,Nat.one_mul] at *;omega
  ·obtain ⟨y,hy,rfl⟩:=Option.map_eq_some_iff.1 h
   have h2:=Zfo unit n (d::t) y (by simp at hl⊢;omega) hy;simp only [c14_,Nat.add_mul,Nat.one_mul] at *;omega
open Go.Proofs.Tryz
open Go Go.RowKit
set_option maxRecDepth 100000
theorem m82_{p:Prop}(h:p:=by rintro e w1 ⟨rfl,rfl⟩;go_wp2_with fail;go_ret;exact ⟨n14_,rfl⟩):p:=h
theorem ZsN(c:UInt8)(w:World)(r:Bool)(hr:Zjv c=r):Calls prog 251 #[.int .u8 c.toNat] w fun e w'=>e=.returned (.bool r)/\w'=w:=by
 have HL:=h_ (JE c);have HD:=h_ (XM c);unfold Zjv at hr;rw [Xn,Xn,Xn] at hr;simp only [show ((58:UInt8).toNat:Int)=58 from rfl,show ((95:UInt8).toNat:Int)=95 from rfl,show ((46:UInt8).toNat:Int)=46 from rfl] at hr;generalize Yi c=a at *;generalize isDigit c=b at *;cases a with
 |true=>
  have HR:=h_ (show r=true by rw [<-hr];rfl);clear hr;go_enter func251,ntmps251;go_wp2_with fail;refine (HL.out w).mono ?_;exact m82_
 |false=>
  cases b with
  |true=>
   have HR:=h_ (show r=true by rw [<-hr];rfl);clear hr;go_enter func251,ntmps251;go_wp2_with fail;refine (HL.out w).mono ?_;rintro e w1 ⟨rfl,rfl⟩;go_wp2_with fail;refine (HD.out w).mono ?_;exact m82_
  |false=>
   have HR:=h_ hr;clear hr;cases h1:((c.toNat:Int)==58)
   (all_goals cases h2:((c.toNat:Int)==95));(all_goals cases h3:((c.toNat:Int)==46));all_goals
    go_enter func251,ntmps251;go_wp2_with fail;refine (HL.out w).mono ?_;rintro e w1 ⟨rfl,rfl⟩;go_wp2_with fail;refine (HD.out w).mono ?_;rintro e w1 ⟨rfl,rfl⟩;go_wp2_with fail;go_ret;refine ⟨?_,rfl⟩;rw [<-HR.out];simp only [h1,h2,h3];rfl
theorem ZuB(s:ByteArray)(k:Nat):s.extract k s.size=⟨(s.data.toList.drop k).toArray⟩:=by
 apply Yu;rw [Lib.extract_to_end]
theorem Zci(s:ByteArray)(k:Nat):(s.extract k s.size).data.toList=s.data.toList.drop k:=by rw [ZuB]
theorem Zp1(s:ByteArray)(w:World)(hs:s.size<=1000000000)(r:Option Str)(hr:Yd s.data.toList=r) :
  Calls prog 204 #[.string s] w fun e w'=>e=.returned (.tuple #[.string ⟨(r.getD []).toArray⟩,.bool r.isSome])/\Below w.heap.size w w':=by
 have hb0:=Bld.new w;have hB0:Below w.heap.size w (w.alloc (.cells #[.pointer none,.slice none 0 0] 127)):=b_.alloc l_ _;have HS:=h_ (show gone [] (Yd s.data.toList)=r by rw [Zmy];exact hr);clear hr;go_enter func204,ntmps204;go_wp2_with fail;generalize w.alloc (.cells #[.pointer none,.slice none 0 0] 127)=w1 at hb0 hB0⊢;generalize hRn:w.heap.size=R at *;have HRn:=h_ hRn;clear hRn;go_loopg [0] (s.size+1) (fun f v wr=>∃(t:ByteArray) (acc:Str),v=.string t/\t.size<f/\acc.length+t.size<=1000000000/\Hid (gone acc (Yd t.data.toList)=r)/\Bld R (R+1) acc wr/\Below R w wr)
 case atStart=>exact ⟨s,[],rfl,o_,by simpa using hs,HS,hb0,hB0⟩
 case round=>
  obtain ⟨t,acc,rfl,hfu,hacc,HQ,hb,hB⟩:=hrel;have hRl:=hb.lt;have HB:=h_ hB;clear hB hb0 hB0 HS;have HT:=h_ (show t.data.toList.length=t.size by simp);by_cases h0:t.size=0
  ·have ht:=QH h0
   subst ht;have HR:=h_ (show r=some acc by rw [<-HQ.out];simp [Yd,gone]);clear HQ h0;go_wp2_with fail;refine hb.string.mono ?_;rintro e w3 ⟨rfl,hb3,hf3⟩;go_wp2_with fail;go_ret2;exact ⟨n14_,by rw [HRn.out];exact HB.out.trans (hf3.below R o_ o_ o_)⟩
  ·obtain ⟨n1,n2,n3,n4⟩:=Xo h0
   have hd:=drop_cons t 0 n3;rw [List.drop_zero] at hd;have h1le:(1:Int)<=(t.size:Int):=o_;have HD:=h_ hd;have HE:=h_ (show Yd t.data.toList=Yd (t[0]::t.data.toList.drop 1) from congrArg Yd hd);have HPX:=h_ (fun W=>Tryz.strings_HasPrefix t ⟨#[92,120]⟩ W);clear hd;by_cases h45:t[0]=45
   ·have hq:((t[0].toNat:Int)==45)=true:=by rw [h45];rfl
    have HN:=h_ (show gone (acc++[47]) (Yd (t.data.toList.drop 1))=r by rw [<-HQ.out,HE.out,h45,ZmC]);have hln:=HT.out;go_wp2_with fail;refine (hb.writeByte 47 o_).mono ?_;rintro e w3 ⟨rfl,hb3,hf3⟩;go_wp2_with fail;go_roundg t.size
    case measure=>omega
    case rel=>exact ⟨t.extract 1 t.size,acc++[47],rfl,n74_,n81_,by rw [Zci];exact HN,hb3,HB.out.trans (hf3.below R o_ o_ o_)⟩
   ·have hq:((t[0].toNat:Int)==45)=false:=by rw [c11_];intro e;exact h45 (UInt8.toNat_inj.1 (by show t[0].toNat=45;omega))
    obtain ⟨kb,hkb⟩:∃kb,Zjv t[0]=kb:=⟨_,rfl⟩;have HKP:=h_ (fun W=>ZsN t[0] W kb hkb);cases kb with
    |true=>
     have HN:=h_ (show gone (acc++[t[0]]) (Yd (t.data.toList.drop 1))=r by rw [<-HQ.out,HE.out,ZmI _ _ _ h45 hkb]);clear hkb;go_wp2_with fail;refine (HKP.out wr).mono ?_;rintro e wr ⟨rfl,rfl⟩;go_wp2_with fail;refine (hb.writeByte t[0] o_).mono ?_;rintro e w3 ⟨rfl,hb3,hf3⟩;go_wp2_with fail;go_roundg t.size
     case measure=>omega
     case rel=>exact ⟨t.extract 1 t.size,acc++[t[0]],rfl,n74_,n81_,by rw [Zci];exact HN,hb3,HB.out.trans (hf3.below R o_ o_ o_)⟩
    |false=>
     obtain ⟨pb,hpb⟩:∃pb,Lib.hasPrefix t.data.toList [92,120]=pb:=⟨_,rfl⟩;change Hid (∀W,Calls _ _ _ _ fun e w'=>e=.returned (.bool (Lib.hasPrefix t.data.toList [92,120]))/\_) at HPX;rw [hpb] at HPX;cases pb with
     |false=>
      have HN:=h_ (show r=none by
       rw [<-HQ.out,HE.out,ZlD _ _ _ h45 hkb];rintro ⟨q,hq⟩;rw [<-HD.out] at hq;rw [hq] at hpb;simp [Lib.hasPrefix] at hpb)
      clear hkb hpb;go_wp2_with fail;refine (HKP.out wr).mono ?_;rintro e wr ⟨rfl,rfl⟩;go_wp2_with fail;refine (HPX.out wr).mono ?_;rintro e wr ⟨rfl,rfl⟩;go_wp2_with fail;go_ret2;exact ⟨by rw [HN.out];rfl,by rw [HRn.out];exact HB.out⟩
     |true=>
      obtain ⟨q,hq2⟩:∃q,t.data.toList=92::120::q:=by
       match ht:t.data.toList,hpb with
       |a::b::q,h=>simp [Lib.hasPrefix] at h;exact ⟨q,by rw [h.1,h.2]⟩
       |[a],h=>simp [Lib.hasPrefix] at h
       |[],h=>simp [Lib.hasPrefix] at h
      have hts:t.size=q.length+2:=by have:=HT.out;rw [hq2] at this;simp at this;omega
      have hd2:(t.extract 2 t.size).data.toList=q:=by rw [Zci,hq2];rfl
      have HTW:=h_ (fun W=>ZrO (t.extract 2 t.size) W n74_ q hd2);have h2le:(2:Int)<=(t.size:Int):=o_;cases htw:Jh q with
      |none=>
       rw [htw] at HTW;have HN:=h_ (show r=none by rw [<-HQ.out,hq2,ZoR _ _ htw]);clear hkb hpb hq2 hts hd2;go_wp2_with fail;refine (HKP.out wr).mono ?_;rintro e wr ⟨rfl,rfl⟩;go_wp2_with fail;refine (HPX.out wr).mono ?_;rintro e wr ⟨rfl,rfl⟩;go_wp2_with fail;refine (HTW.out _).mono ?_;rintro e w3 ⟨rfl,n3,rfl⟩;go_wp2_with fail;go_ret2;exact ⟨by rw [HN.out];rfl,by rw [HRn.out];exact HB.out.trans (Ze ⟨_,rfl⟩)⟩
      |some d=>
       rw [htw] at HTW;obtain ⟨x1,x2,u,hqu,h12⟩:=Znw q d htw;have HN:=h_ (show gone (acc++[d]) (Yd (t.data.toList.drop 4))=r by rw [<-HQ.out,hq2,hqu,ZmE _ _ _ _ _ h12];rfl);have h4le:(4:Int)<=(t.size:Int):=by rw [hts,hqu];simp;omega
       clear hkb hpb hq2 hts hd2 hqu h12;go_wp2_with fail;refine (HKP.out wr).mono ?_;rintro e wr ⟨rfl,rfl⟩;go_wp2_with fail;refine (HPX.out wr).mono ?_;rintro e wr ⟨rfl,rfl⟩;go_wp2_with fail;refine (HTW.out _).mono ?_;rintro e w3 ⟨rfl,n3,rfl⟩;have hb2:=hb.drewN n3;have HB2:=h_ (HB.out.trans (show Below R wr (wr.drewN n3) from Ze ⟨_,rfl⟩));generalize wr.drewN n3=w2 at *;simp only [Option.getD_some,Option.isSome_some];go_wp2_with fail;refine (hb2.writeByte d o_).mono ?_;rintro e w3 ⟨rfl,hb3,hf3⟩;go_wp2_with fail;go_roundg t.size
       case measure=>omega
       case rel=>exact ⟨t.extract 4 t.size,acc++[d],rfl,n74_,n81_,by rw [Zci];exact HN,hb3,HB2.out.trans (hf3.below R o_ o_ (by have:=hb2.lt;omega))⟩
theorem ZgG(R o B:Nat)(cs:Array Value)(T:Nat)(w:World)(hR:w.heap[R]?=some (.cells cs T (0,0)))(hT:ZqT T cs.size o)
  (p v:Value) (hp:cs[o]?=some p) (hp':p=.pointer none\/p=ZbP R o) (hv:cs[o+1]?=some v)
  (l:List UInt8) (hl:Buf B 5 l v w) (hTe:T≠5) (s:ByteArray) (hlen:l.length+s.size<1099511627776) (hB:B<=w.heap.size) :
  Calls prog 99 #[.pointer (some ⟨R,o,none⟩),.string s] w fun e w'=>e=.returned (.tuple #[.int .i64 s.size,.nilIface])/\Wrote R o B T cs (l++s.data.toList) w w':=by
 obtain ⟨i0,hi,hz0,hz1,hz2⟩:=info_parts infoByte;have hne:=hl.ne hR hTe;go_enter func99,ntmps99;go_wp2_with (go_at_call 185;refine (Zed R o cs T _ hR hT p hp hp').mono ?_);rintro e w1 ⟨rfl,hR1,hf1⟩;have HR:=h_ hR;clear hR;have HR1:=h_ hR1;clear hR1;have hl1:=hl.kept hf1 (fun k hk e=>hne (e ▸ hk));have c1:w1.cell? ⟨R,o+1,none⟩=some v:=by
  rw [(rd HR1.out).1,c13_ o_];exact hv
 go_wp2_with (at_builtin;refine Lib.wpList_append_own_stringF _ rfl _ _ 125 9 rfl B 5 i0 underlying125 underlying9 hi hz0 hz1 hz2 _ _ _ rfl hl1.own s rfl ?c3 ?c4 ?c5 ?_)
 case c3=>unfold maxLen;omega
 case c4=>omega
 case c5=>have:=hf1.size;omega
 intro v' w2 hown' hgrow hnil;have hR2:w2.heap[R]?=some (.cells (cs.setIfInBounds o (ZbP R o)) T (0,0)):=by
  rw [hgrow.block R (Zd HR1.out) (fun e=>hne e.symm)];exact HR1.out
 have HR2:=h_ hR2;clear hR2;have d1:w2.cell? ⟨R,o+1,none⟩=some v:=by
  rw [(rd HR2.out).1,c13_ o_];exact hv
 have d2:=(rd HR2.out).2.1 (o+1);obtain ⟨ao,n',cap,rfl⟩:∃ao n' cap,v'=.slice ao n' cap:=by
  rcases hown'.2 with ⟨hv,_⟩|⟨g,cap,cur,fz,hv,_⟩
  ·exact ⟨_,_,_,hv⟩
  ·exact ⟨_,_,_,hv⟩
 have HG:=h_ (And.intro hgrow (And.intro hnil hown'));clear hgrow hnil hown';go_wp2;go_ret2;obtain ⟨hgrow,hnil,hown'⟩:=HG.out;refine ⟨rfl,Zgv hTe hf1 hl1 (FrB.refl _ _ _ _) hl1.row hgrow HR2.out ?_⟩;by_cases h0:l++s.data.toList=[]
 ·refine .inl ⟨hnil.2 ?_,h0⟩
  simp at h0;refine ⟨?_,?_⟩
  ·rcases hl with ⟨h,_⟩|⟨h,_⟩
   ·exact h
   ·exact absurd h0.1 h
  ·obtain ⟨⟨d⟩⟩:=s
   simp at h0;rw [h0.2];rfl
 ·refine .inr ⟨h0,?_⟩
  rw [Lib.strCells_eq] at hown';rw [Lib.byteCells_append,c5_];exact hown'
theorem Bld.writeString{R B:Nat}{l:List UInt8}{w:World}(h:Bld R B l w)(s:ByteArray)(hlen:l.length+s.size<1099511627776) :
  Calls prog 99 #[.pointer (some ⟨R,0,none⟩),.string s] w fun e w'=>e=.returned (.tuple #[.int .i64 s.size,.nilIface])/\Bld R B (l++s.data.toList) w'/\FrB R B 5 w w':=by
 obtain ⟨p,v,h1,h2,h3,h4,h5⟩:=h;refine (ZgG R 0 B #[p,v] 127 _ h1 Zfl p v rfl h2 rfl l h3 d_ s hlen h5).mono ?_;rintro e w1 ⟨rfl,v',hR1,hb1,hf1⟩;exact ⟨rfl,⟨ZbP R 0,v',hR1,.inr rfl,hb1,h4,n79_⟩,hf1⟩
theorem m83_{p:Prop}(h:p:=by go_enter func128,ntmps128;go_wp2_with fail;refine HP.out.mono ?_;rintro e w1 ⟨rfl,hb1⟩;have HB1:=h_ hb1;clear hb1;go_wp2_with fail;go_ret2;exact ⟨n61_,HB1.out⟩):p:=h
theorem m84_{p:Prop}(h:p:=by go_wp2_with fail;go_ret2;exact ⟨by rw [HS2.out];rfl,HB2.out⟩):p:=h
theorem Zqp(s:Str):(ofS s).pre=(ZcE s).1/\(ofS s).inst=(ZcE s).2.1:=by
 unfold ofS ZcE;split
 ·exact ⟨rfl,rfl⟩
 ·exact ⟨rfl,rfl⟩
theorem ZaC{s:Str}(h:Zt s≠0):s=(ZX s).1++46::X5 (Zt s)/\s.length<=60:=by
 have hu:Zt s=Zt s:=rfl;unfold Zt at h;split at h
 ·rename_i hc
  have hk:Zt s=kindOf (ZX s).2:=by unfold Zt;rw [if_pos hc]
  have h4:=ZfL (ZX s).2;rw [hk];refine ⟨ZlB o_ h4 (fun e=>?_) rfl,hc.1⟩
  have:=hc.2.1
  rw [e] at this;exact this rfl
 ·exact absurd rfl h
theorem ZqC{s:Str}(h:Zt s≠0):Lib.trimSuffix s (46::X5 (Zt s))=(ZX s).1:=by
 obtain ⟨h1,_⟩:=ZaC h;unfold Lib.trimSuffix Lib.hasSuffix;have hs:(46::X5 (Zt s)).isSuffixOf s=true:=by
  rw [List.isSuffixOf_iff_suffix];exact ⟨(ZX s).1,h1.symm⟩
 rw [if_pos hs];have hl:=congrArg List.length h1;rw [c5_] at hl;rw [show s.length-(46::X5 (Zt s)).length=(ZX s).1.length by omega]
 conv=>lhs;arg 2;rw [h1]
 exact List.take_left
def ZkX(u:Str)(c:UInt8):Value:=.tuple #[.string ⟨((Qb u c).getD []).toArray⟩,.bool (Qb u c).isSome]
theorem ZnI(c:UInt8)(u:Str)(w:World)(hu:Zt u≠0)(hm:Zz w) :
  Calls prog 128 #[.int .u8 c.toNat,.string ⟨u.toArray⟩] w fun e w'=>e=.returned (ZkX u c)/\Below w.heap.size w w':=by
 obtain ⟨hf1,hf2⟩:=ZaC hu;obtain ⟨p,i,f,hp⟩:∃p i f,ZcE u=(p,i,f):=⟨_,_,_,rfl⟩;obtain ⟨ho1,ho2⟩:=Zqp u;rw [hp] at ho1 ho2;simp only at ho1 ho2;have hus:(⟨u.toArray⟩:ByteArray).size=u.length:=by show u.toArray.size=_;simp
 have HM:=h_ hm;have HP:=h_ (ZjF ⟨u.toArray⟩ w o_ hm p i f hp);have HK:=h_ (fun W (h:Below w.heap.size w W)=>J2 ⟨u.toArray⟩ W o_ (hm.below h) (Zt u) rfl);have HSF:=h_ (fun W=>ZgZ (Zt u:Nat) W _ (Zl8 _));have hil:i.length<=60:=by have:=(Zpr u).2;rw [ho2] at this;omega
 have HUE:=h_ (fun W=>Zp1 ⟨i.toArray⟩ W (by show i.toArray.size<=_;simp;omega) _ rfl);have HTR:=h_ (fun W=>Tryz.strings_TrimSuffix ⟨u.toArray⟩ ((⟨#[46]⟩:ByteArray)++⟨(X5 (Zt u)).toArray⟩) W o_);have ht:=ZqC hu;change Hid (∀W,Calls _ _ _ _ fun e w'=>e=.returned (.string ⟨(Lib.trimSuffix u ((⟨#[46]⟩:ByteArray)++⟨(X5 (Zt u)).toArray⟩).data.toList).toArray⟩)/\_) at HTR;rw [show ((⟨#[46]⟩:ByteArray)++⟨(X5 (Zt u)).toArray⟩).data.toList=46::X5 (Zt u) by simp [ByteArray.data_append],ht] at HTR;obtain ⟨FS,hFS⟩:∃FS:ByteArray,FS=⟨(X5 (Zt u)).toArray⟩:=⟨_,rfl⟩;have z2:FS.size<=7:=by subst hFS;show (X5 _).toArray.size<=_;simp;exact Zpt _
 rw [<-hFS] at HTR HSF;clear hFS;obtain ⟨q,hq⟩:∃q,Yd i=q:=⟨_,rfl⟩;change Hid (∀W,Calls _ _ _ _ fun e w'=>e=.returned (.tuple #[.string ⟨((Yd i).getD []).toArray⟩,.bool (Yd i).isSome])/\_) at HUE;rw [hq] at HUE;unfold ZkX;have hS:∀r,Qb u c=r->Hid (Qb u c=r):=fun _ h=>h
 have HO1:=h_ ho1;have HO2:=h_ ho2;have HQI:=h_ hq;clear hm hp hil ht hf1 ho1 ho2 hus hq;by_cases h1:c=37
 ·subst h1
  have HS:=hS (some [37]) rfl;exact m83_
 by_cases h2:c=110
 ·subst h2
  have HS:=hS (some u) rfl;exact m83_
 by_cases h3:c=78
 ·subst h3
  have HS:=hS (some (ZX u).1) rfl;go_enter func128,ntmps128;go_wp2_with fail;refine HP.out.mono ?_;rintro e w1 ⟨rfl,hb1⟩;have HB1:=h_ hb1;clear hb1;go_wp2_with fail;refine (HK.out w1 HB1.out).mono ?_;rintro e w2 ⟨rfl,hb2⟩;have HB2:=h_ (HB1.out.trans (hb2.mono HB1.out.size));clear hb2;go_wp2_with fail;refine (HSF.out w2).mono ?_;rintro e w3 ⟨rfl,rfl⟩;go_wp2_with fail;refine (HTR.out w2).mono ?_;rintro e w3 ⟨rfl,rfl⟩;go_wp2_with fail;go_ret2;exact ⟨n61_,HB2.out⟩
 by_cases h4:c=112
 ·subst h4
  have HS:=hS (some p) (by rw [<-HO1.out];rfl);exact m83_
 by_cases h5:c=105
 ·subst h5
  have HS:=hS (some i) (by rw [<-HO2.out];rfl);exact m83_
 by_cases h6:c=73
 ·subst h6
  have HS:=hS (some ((Yd i).getD i)) (by rw [<-HO2.out];rfl);go_enter func128,ntmps128;go_wp2_with fail;refine HP.out.mono ?_;rintro e w1 ⟨rfl,hb1⟩;have HB1:=h_ hb1;clear hb1;go_wp2_with fail;refine (HUE.out w1).mono ?_;rintro e w2 ⟨rfl,hb2⟩;have HB2:=h_ (HB1.out.trans (hb2.mono HB1.out.size));clear hb2;clear hS HUE;cases q with
  |none=>
   have HS2:=h_ (show Qb u 73=some i by rw [HS.out,HQI.out];rfl);simp only [Option.getD_none,Option.isSome_none];exact m84_
  |some t=>
   have HS2:=h_ (show Qb u 73=some t by rw [HS.out,HQI.out];rfl);simp only [Option.getD_some,Option.isSome_some];exact m84_
 ·have HS:=hS none (by unfold Qb;rw [if_neg h1,if_neg h2,if_neg h3,if_neg h4,if_neg h5,if_neg h6])
  have e:∀d:UInt8,c≠d->((c.toNat:Int)==(d.toNat:Int))=false:=fun d h=>by rw [c11_];intro e;exact h (UInt8.toNat_inj.1 o_)
  have e1:((c.toNat:Int)==37)=false:=e 37 h1;have e2:((c.toNat:Int)==110)=false:=e 110 h2;have e3:((c.toNat:Int)==78)=false:=e 78 h3;have e4:((c.toNat:Int)==112)=false:=e 112 h4;have e5:((c.toNat:Int)==105)=false:=e 105 h5;have e6:((c.toNat:Int)==73)=false:=e 73 h6;clear e h1 h2 h3 h4 h5 h6;exact m83_
def ZrW(r:Except Int Str):Value:=match r with
 |.ok t=>.tuple #[.string ⟨t.toArray⟩,.int .i64 0]
 |.error c=>.tuple #[.string ⟨#[]⟩,.int .i64 c]
theorem Zsc(s:ByteArray)(u:Str)(w:World)(hs:s.size<=1000000000)(hul:u.length<4294967281)(hm:Zz w)(r:Except Int Str)(hr:Qq s.data.toList u=r) :
  Calls prog 69 #[.string s,.string ⟨u.toArray⟩] w fun e w'=>e=.returned (ZrW r)/\Below w.heap.size w w':=by
 have hus:(⟨u.toArray⟩:ByteArray).size=u.length:=by show u.toArray.size=_;simp
 have HM:=h_ hm;unfold Qq at hr;by_cases hk:Zt u=0
 ·rw [if_pos hk] at hr
  subst hr;have HMY:=h_ (ZeS ⟨u.toArray⟩ w o_ hm false (by simp [hk]));clear hm hk;go_enter func69,ntmps69;go_wp2_with fail;refine HMY.out.mono ?_;rintro e w1 ⟨rfl,hb1⟩;have HB1:=h_ hb1;clear hb1;go_wp2_with fail;go_ret2;exact ⟨rfl,HB1.out⟩
 ·rw [if_neg hk] at hr
  have HMY:=h_ (ZeS ⟨u.toArray⟩ w o_ hm true (by simp [hk]));obtain ⟨hf1,hf2⟩:=ZaC hk;obtain ⟨res,hres⟩:∃res,Jp u s.data.toList=res:=⟨_,rfl⟩;rw [hres] at hr;have HRS:=h_ hr;have HST:=h_ (fun c W (h:Zz W)=>ZnI c u W hk h);have HSL:=h_ (fun d x=>ZgE u d x);have HQ0:=h_ (show gone [] (Jp u (s.data.toList.drop 0))=res by rw [Zmy,List.drop_zero];exact hres);clear hm hk hf1 hr hres hus;go_enter func69,ntmps69;go_wp2_with fail;refine HMY.out.mono ?_;rintro e w0 ⟨rfl,hb0⟩;have HB0:=h_ hb0;clear hb0 HMY;have hb0:=Bld.new w0;have hB0:Below w0.heap.size w0 (w0.alloc (.cells #[.pointer none,.slice none 0 0] 127)):=b_.alloc l_ _;go_wp2_with fail;generalize w0.alloc (.cells #[.pointer none,.slice none 0 0] 127)=w1 at hb0 hB0⊢;generalize hRn:w0.heap.size=R at *;have HRn:=h_ hRn;clear hRn;go_loopg [7] (s.size+1) (fun f v wr=>∃(k:Nat) (acc:Str),v=.int .i64 k/\k<=s.size/\s.size-k<f/\acc.length<=k*61/\Hid (gone acc (Jp u (s.data.toList.drop k))=res)/\Bld R (R+1) acc wr/\Hid (Below R w0 wr))
  case atStart=>exact ⟨0,[],rfl,o_,o_,s_,HQ0,hb0,hB0⟩
  case round=>
   obtain ⟨k,acc,rfl,hk,hfu,hacc,HQ,hb,HB⟩:=hrel;have hRl:=hb.lt;clear hB0 hb0 HQ0;have HBW:=h_ (show ∀W,Below R w0 W->Below w.heap.size w W from fun W h=>HB0.out.trans (h.mono (by have:=HB0.out.size;have:=HRn.out;omega)));by_cases hlt:k<s.size
   ·have hlk:(k:Int)<(s.size:Int):=o_
    have hd:=drop_cons s k hlt;have hsl:s.data.toList.length=s.size:=s_;by_cases h37:s[k]=37
    ·have hq:((s[k].toNat:Int)!=37)=false:=by rw [h37];rfl
     by_cases hlast:k+1=s.size
     ·have HN:=h_ (show res=none by
       rw [<-HQ.out,hd,h37,show s.data.toList.drop (k+1)=[] from List.drop_eq_nil_of_le o_,ZtF])
      have hl1:(((k:Int)+1)==(s.size:Int))=true:=by rw [beq_iff_eq];omega
      clear hd hsl;go_wp2_with fail;go_ret2;exact ⟨by rw [<-HRS.out,HN.out];rfl,HBW.out _ HB.out⟩
     ·have hlt2:k+1<s.size:=o_
      have hl1:(((k:Int)+1)==(s.size:Int))=false:=n15_;have hl2:((k:Int)+1)<(s.size:Int):=o_;have hd2:=drop_cons s (k+1) hlt2;have hMw:Zz wr:=HM.out.below (HBW.out _ HB.out);have HC:=h_ (HST.out s[k+1] wr hMw);unfold ZkX at HC;cases hsd:Qb u s[k+1] with
      |none=>
       rw [hsd] at HC;have HN:=h_ (show res=none by rw [<-HQ.out,hd,h37,hd2,Zsk _ _ _ _ hsd]);clear hd hd2 hsl hsd;go_wp2_with fail;refine HC.out.mono ?_;rintro e w3 ⟨rfl,hb3⟩;have HB3:=h_ (HB.out.trans (hb3.mono o_));clear hb3;simp only [Option.getD_none,Option.isSome_none];go_wp2_with fail;go_ret2;exact ⟨by rw [<-HRS.out,HN.out];rfl,HBW.out _ HB3.out⟩
      |some x=>
       rw [hsd] at HC;have hxl:=HSL.out _ x hsd;have HN:=h_ (show gone (acc++x) (Jp u (s.data.toList.drop (k+2)))=res by rw [<-HQ.out,hd,h37,hd2,ZlY _ _ _ _ _ hsd]);have hx61:x.length<=61:=o_;clear hd hd2 hsl hsd;go_wp2_with fail;refine HC.out.mono ?_;rintro e w3 ⟨rfl,hb3⟩;have HB3:=h_ (HB.out.trans (hb3.mono o_));have hbb:=hb.below hb3;have hR3:=hbb.lt;clear hb3 hb;simp only [Option.getD_some,Option.isSome_some];go_wp2_with fail;refine (hbb.writeString ⟨x.toArray⟩ (by show _+x.toArray.size<_;simp;omega)).mono ?_;rintro e w4 ⟨rfl,hb4,hf4⟩;go_wp2_with fail;go_roundg (gk-1)
       case measure=>omega
       case rel=>exact ⟨k+2,acc++x,n9_,o_,o_,n6_,HN,hb4,HB3.out.trans (hf4.below R o_ o_ o_)⟩
    ·have hq:((s[k].toNat:Int)!=37)=true:=by rw [bne_iff_ne];intro e;exact h37 (UInt8.toNat_inj.1 (by show s[k].toNat=37;omega))
     have HN:=h_ (show gone (acc++[s[k]]) (Jp u (s.data.toList.drop (k+1)))=res by rw [<-HQ.out,hd,ZqU _ _ _ _ h37]);clear hd hsl;go_wp2_with fail;refine (hb.writeByte s[k] o_).mono ?_;rintro e w3 ⟨rfl,hb3,hf3⟩;go_wp2_with fail;go_roundg (gk-1)
     case measure=>omega
     case rel=>exact ⟨k+1,acc++[s[k]],n9_,o_,o_,n6_,HN,hb3,HB.out.trans (hf3.below R o_ o_ o_)⟩
   ·have hk3:k=s.size:=o_
    subst hk3;have HN:=h_ (show res=some acc by rw [<-HQ.out,List.drop_eq_nil_of_le s_];simp [Jp,gone]);go_wp2_with fail;refine hb.string.mono ?_;rintro e w3 ⟨rfl,hb3,hf3⟩;go_wp2_with fail;go_ret2;exact ⟨by rw [<-HRS.out,HN.out];rfl,HBW.out _ (HB.out.trans (hf3.below R o_ o_ o_))⟩
end Go.Proofs.YtmgmbeipbeknaaaGreatDoor
