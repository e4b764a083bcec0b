import Derived.Lib.SmallJoins
import Derived.Test.YtgoooebfhdbbkaaGreatDoorUM5
import Derived.Test.YtgoooebfhdbbkaaGreatDoorUM14
namespace Go.Proofs.YtgoooebfhdbbkaaGreatDoor
open Go.Proofs.Tryz
open Go Go.RowKit
set_option linter.unusedVariables false
set_option linter.unusedSimpArgs false
set_option maxHeartbeats 16000000
set_option maxRecDepth 100000
theorem m119_{p:Prop}(h:p:=by
  have e0:(ws++(some w0).toList).length=ws.length+1:=s_;rw [e0];have HO2:=h_ (show wr.ownsRow w.heap.size 9 1 (.slice oa (ws.length+1) cap) (ws.length+1) (Ze (ws++[w0])) by simpa using Hown.out);have hl3:ws.length<32:=n31_;clear e0 Hown;obtain ⟨g,rfl⟩:=ZX HO2.out;have HB2:=Hbel;have hwl:w0.length<=k:=hwk;have HR:=h_ (show Z8 f ws (some (w0++[s[k]])) 34 (s.data.toList.drop (k+1))=res by
   rw [<-Hq.out,hdc];skip;have eqq:(s[k]==(34:UInt8))=false:=n6_;simp only [Z8,o1,o2,o3',o4,eqq];simp)
  have hX:(⟨(w0).toArray⟩:ByteArray)++s.extract k (k+1)=⟨(w0++[s[k]]).toArray⟩:=X9 w0 s k hlt;have hk1:(k:Int)+1<=(s.size:Int):=o_;obtain ⟨hset,hcell,hfro,hbg,hglt⟩:=ZU (xs:=Ze ws) (x:=.string ⟨(w0).toArray⟩) n22_ (.string ((⟨(w0).toArray⟩:ByteArray)++s.extract k (k+1)));have HS:=h_ (show (wr.setCell ⟨g,ws.length,none⟩ (.string ((⟨(w0).toArray⟩:ByteArray)++s.extract k (k+1)))).ownsRow w.heap.size 9 1 (.slice (some ⟨g,0,none⟩) (ws.length+1) cap) (ws.length+1) (Ze (ws++[w0++[s[k]]])) by
   rw [Zm,<-hX];exact hset)
  have HB3:=h_ (HB2.out.setCell (p:=⟨g,ws.length,none⟩) hbg (.string ((⟨(w0).toArray⟩:ByteArray)++s.extract k (k+1))));clear hset hX hbg;clear hdc n0;have HX0:=h_ hx;clear hx;exact m132_):p:=h
theorem m120_{p:Prop}(h:p:=by
  have e0:(ws++(some w0).toList).length=ws.length+1:=s_;rw [e0];have HO2:=h_ (show wr.ownsRow w.heap.size 9 1 (.slice oa (ws.length+1) cap) (ws.length+1) (Ze (ws++[w0])) by simpa using Hown.out);have hl3:ws.length<32:=n31_;clear e0 Hown;obtain ⟨g,rfl⟩:=ZX HO2.out;have HB2:=Hbel;have hwl:w0.length<=k:=hwk;have HR:=h_ (show Z8 f ws (some (w0++[s[k]])) 39 (s.data.toList.drop (k+1))=res by
   rw [<-Hq.out,hdc];skip;have eqq:(s[k]==(39:UInt8))=false:=n6_;simp only [Z8,o1,o2,o3',o4,eqq];simp)
  have hX:(⟨(w0).toArray⟩:ByteArray)++s.extract k (k+1)=⟨(w0++[s[k]]).toArray⟩:=X9 w0 s k hlt;have hk1:(k:Int)+1<=(s.size:Int):=o_;obtain ⟨hset,hcell,hfro,hbg,hglt⟩:=ZU (xs:=Ze ws) (x:=.string ⟨(w0).toArray⟩) n22_ (.string ((⟨(w0).toArray⟩:ByteArray)++s.extract k (k+1)));have HS:=h_ (show (wr.setCell ⟨g,ws.length,none⟩ (.string ((⟨(w0).toArray⟩:ByteArray)++s.extract k (k+1)))).ownsRow w.heap.size 9 1 (.slice (some ⟨g,0,none⟩) (ws.length+1) cap) (ws.length+1) (Ze (ws++[w0++[s[k]]])) by
   rw [Zm,<-hX];exact hset)
  have HB3:=h_ (HB2.out.setCell (p:=⟨g,ws.length,none⟩) hbg (.string ((⟨(w0).toArray⟩:ByteArray)++s.extract k (k+1))));clear hset hX hbg;clear hdc n0;have HX0:=h_ hx;clear hx;exact m133_):p:=h
theorem m121_{p:Prop}(h:p:=by
  have t9':=Yu t9;have h32:(32:Int)<=s[k].toNat:=o_;have o1:Yj s[k]=false:=n6_;have o2:Zn s[k]=false:=n6_;have o3':(s[k]==92)=false:=n6_;have o4:ZC s[k]=true:=n6_;by_cases h32n:ws.length=32
  ·exact m130_
  ·have e0:(ws++(none:Option Str).toList).length=ws.length:=s_
   rw [e0];have hown0:wr.ownsRow w.heap.size 9 1 (.slice oa ws.length cap) ws.length (Ze ws):=n118_;have hl3:ws.length<=32:=n82_;clear e0 Hown;have hsz:=Hbel.out.size;have HR:=h_ (show Z8 f ws (some ([]:Str)) s[k] (s.data.toList.drop (k+1))=res by
    rw [<-Hq.out,hdc];have n32:(ws.length==32)=false:=n132_;skip;simp only [Z8,o1,o2,o3',o4,n32];simp)
   have hqs:s[k]=0\/s[k]=39\/s[k]=34:=by rw [hx];decide
   have l32:((ws.length:Int)==32)=false:=n3_;have hl4:ws.length<32:=o_;clear hdc n0;have HX0:=h_ hx;clear hx;go_wp2_with (at_builtin;refine wpList_append_own _ rfl _ _ 28 rfl w.heap.size 9 i0 (.string ⟨#[]⟩) 1 16 underlying28 hi hz0 hz1 hz2 rfl d_ _ _ _ rfl (hown0.alloc _) ⟨wr.heap.size,0,none⟩ 1 1 [.string ⟨#[]⟩] rfl rfl n38_ n30_ n20_ o_ n2_ ?_);intro v' w2 hown' hgrow hnil;have HB2:=h_ ((Hbel.out.alloc hsz _).grown hgrow n2_ (fun g hg=>(hown0.lt g hg).1));have HO2:=h_ (show w2.ownsRow w.heap.size 9 1 v' (ws.length+1) (Ze (ws++[[]])) by rw [Zm];exact hown');clear hgrow hnil hown' hown0;obtain ⟨oa2,cap2,rfl⟩:=ownsRow_form HO2.out;obtain ⟨g,rfl⟩:=ZX HO2.out;go_wp2_with fail;go_roundg f
   case measure=>omega
   case rel=>exact AtR.word (k':=k+1) ws ([]:Str) s[k] rfl o_ o_ HR.out hl4 hqs s_ HO2.out HB2.out):p:=h
theorem m122_{p:Prop}(h:p:=by
  have e0:(ws++(some w0).toList).length=ws.length+1:=s_;rw [e0];have HO2:=h_ (show wr.ownsRow w.heap.size 9 1 (.slice oa (ws.length+1) cap) (ws.length+1) (Ze (ws++[w0])) by simpa using Hown.out);have hl3:ws.length<32:=n31_;clear e0 Hown;obtain ⟨g,rfl⟩:=ZX HO2.out;have HB2:=Hbel;have hwl:w0.length<=k:=hwk;have HR:=h_ (show res=.error 13 by
   rw [<-Hq.out,hdc];skip;simp only [Z8,o1,o2,o3',o4,he];simp)
  have HE:=h_ (show QF (s.data.toList.drop (k+1))=(0,0) by simp [QF,he]);clear he;have hesc:=Xz (s.extract (k+1) s.size) wr n2_;rw [Lib.extract_to_end s (k+1)] at hesc;clear hdc n0;have HX0:=h_ hx;clear hx;exact m131_):p:=h
theorem m123_{p:Prop}(h:p:=by
  have HR:=h_ (show res=.error 1 by rw [<-Hq.out,hdc];simp [Z8,hb]);rw [J6] at hb;have hb:=of_decide_eq_true hb;clear hdc;rcases hb with ⟨h1,h2⟩|h1
  ·have t32:((s[k].toNat:Int)==32)=false:=n3_
   have t9:((s[k].toNat:Int)==9)=false:=n3_;have t9':=Yu t9;clear h2;exact m137_
  ·have t32:((s[k].toNat:Int)==32)=false:=n3_
   have t9:((s[k].toNat:Int)==9)=false:=n3_;have t127:((s[k].toNat:Int)==127)=true:=n54_;have h32:(32:Int)<=s[k].toNat:=o_;clear h1;exact m137_):p:=h
theorem m124_{p:Prop}(h:p:=by
  have t9':=Yu t9;have h32:(32:Int)<=s[k].toNat:=o_;have o1:Yj s[k]=false:=n6_;have o2:Zn s[k]=false:=n6_;have o3':(s[k]==92)=false:=n6_;have o4:ZC s[k]=true:=n6_;have e0:(ws++(some w0).toList).length=ws.length+1:=s_;rw [e0];have HO2:=h_ (show wr.ownsRow w.heap.size 9 1 (.slice oa (ws.length+1) cap) (ws.length+1) (Ze (ws++[w0])) by simpa using Hown.out);have hl3:ws.length<32:=n31_;clear e0 Hown;obtain ⟨g,rfl⟩:=ZX HO2.out;have HB2:=Hbel;have hwl:w0.length<=k:=hwk;have HR:=h_ (show Z8 f ws (some w0) s[k] (s.data.toList.drop (k+1))=res by
   rw [<-Hq.out,hdc];skip;skip;simp only [Z8,o1,o2,o3',o4];simp)
  have hqs:s[k]=0\/s[k]=39\/s[k]=34:=by rw [hx];decide
  clear hdc n0;have HX0:=h_ hx;clear hx;go_wp2_with fail;go_roundg f
  case measure=>omega
  case rel=>exact AtR.word (k':=k+1) ws w0 s[k] rfl o_ o_ HR.out hl3 hqs o_ HO2.out HB2.out):p:=h
theorem m125_{p:Prop}(h:p:=by
  have o1:Yj s[k]=false:=n6_;have o2:Zn s[k]=true:=n6_;have o3':(s[k]==92)=false:=n6_;have o4:ZC s[k]=false:=n6_;have HR:=h_ (show Z8 f (ws++[w0]) none 0 (s.data.toList.drop (k+1))=res by
   rw [<-Hq.out,hdc];simp only [Z8,o1,o2];simp)
  have HO:=h_ (show wr.ownsRow w.heap.size 9 1 (.slice oa (ws.length+1) cap) (ws++[w0]).length (Ze (ws++[w0])) by simpa using Hown.out);have e0:(ws++(some w0).toList).length=ws.length+1:=s_;rw [e0];have hl2:(ws++[w0]).length<=32:=by simpa using hl32
  clear hdc Hown e0 hx n0;go_wp2_with fail;go_roundg f
  case measure=>omega
  case rel=>exact AtR.none (k':=k+1) (ws++[w0]) rfl o_ o_ HR.out hl2 HO.out Hbel.out):p:=h
theorem m126_{p:Prop}(h:p:=by
  have o1:Yj s[k]=false:=n6_;have o2:Zn s[k]=true:=n6_;have o3':(s[k]==92)=false:=n6_;have o4:ZC s[k]=false:=n6_;have HR:=h_ (show Z8 f ws none 0 (s.data.toList.drop (k+1))=res by
   rw [<-Hq.out,hdc];simp only [Z8,o1,o2];simp)
  have HO:=h_ (show wr.ownsRow w.heap.size 9 1 (.slice oa ws.length cap) ws.length (Ze ws) by simpa using Hown.out);have e0:(ws++(none:Option Str).toList).length=ws.length:=s_;rw [e0];have hl2:ws.length<=32:=n82_;clear hdc Hown e0 hx n0;go_wp2_with fail;go_roundg f
  case measure=>omega
  case rel=>exact AtR.none (k':=k+1) ws rfl o_ o_ HR.out hl2 HO.out Hbel.out):p:=h
theorem m127_{p:Prop}(h:p:=by
  cases cur with
  |none=>exact absurd hcs d_
  |some w0=>
   clear hcs;have hdn:s.data.toList.drop k=[]:=by
    exact m134_
   have HR:=h_ (show res=(.error 13) by
    rw [<-Hq.out,hdn];simp [Z8])
   clear hdn;exact m137_):p:=h
theorem m128_{p:Prop}(h:p:=by
  clear hdc n0;have HX0:=h_ hx;clear hx;go_wp2_with fail;go_roundg f
  case measure=>omega
  case rel=>exact AtR.word (k':=k+1) ws w0 0 rfl o_ o_ HR.out hl3 d_ o_ HO2.out HB2.out):p:=h
theorem m129_{p:Prop}(h:p:=by rw [e0];clear e0 Hown;go_wp2_with fail;go_ret2;refine ⟨Hbel.out,?_⟩;rw [HR.out];exact ⟨_,rfl,HO.out⟩):p:=h
theorem m130_{p:Prop}(h:p:=by
  have HR:=h_ (show res=.error (ZaP s[k] (s.data.toList.drop (k+1))) by
   rw [<-Hq.out,hdc];simp only [Z8,o1,o2,h32n];simp [ZaP])
  have e0:(ws++(none:Option Str).toList).length=ws.length:=s_;rw [e0];have l32:((ws.length:Int)==32)=true:=n54_;have hsx:(s.extract k s.size).size=s.size-k:=s_;have hk0:0<(s.extract k s.size).size:=o_;have hc0:(s.extract k s.size)[0]'hk0=s[k]:=n96_;have HW:=h_ (ZaI (s.extract k s.size) wr o_ hk0);have HC0:=h_ hc0;have hdd:(s.extract k s.size).data.toList.drop 1=s.data.toList.drop (k+1):=n76_;have HDD:=h_ hdd;have hk1:(k:Int)<=(s.size:Int):=o_;clear hc0 hdd hsx hdc e0 h32n n0;have HX9:=h_ hx;clear hx;exact m138_):p:=h
theorem m131_{p:Prop}(h:p:=by have HC:=h_ hesc;clear hesc;have hk1:(k:Int)+1<=(s.size:Int):=o_;go_wp2_with fail;refine HC.out.mono ?_;rw [HE.out];rintro e w' ⟨rfl,n,rfl⟩;go_wp2_with fail;go_ret2;exact ⟨HB2.out.trans (Zb (dn _ n)),n10_⟩):p:=h
theorem m132_{p:Prop}(h:p:=by
  go_wp2_with fail;go_region;go_wp2_with fail;go_roundg f
  case measure=>omega
  case rel=>exact AtR.word (k':=k+1) ws (w0++[s[k]]) 34 rfl o_ o_ HR.out hl3 d_ n70_ HS.out n13_):p:=h
theorem m133_{p:Prop}(h:p:=by
  go_wp2_with fail;go_region;go_wp2_with fail;go_roundg f
  case measure=>omega
  case rel=>exact AtR.word (k':=k+1) ws (w0++[s[k]]) 39 rfl o_ o_ HR.out hl3 d_ n70_ HS.out n13_):p:=h
theorem m134_{p:Prop}(h:p:=by
  apply List.drop_eq_nil_of_le
  have:s.data.toList.length=s.size:=rfl
  omega):p:=h
theorem m135_{p:Prop}(h:p:=by have o1:Yj s[k]=false:=n6_;have o2:Zn s[k]=true:=n6_;have o3':(s[k]==92)=false:=n6_;have o4:ZC s[k]=false:=n6_;exact m119_):p:=h
theorem m136_{p:Prop}(h:p:=by have o1:Yj s[k]=false:=n6_;have o2:Zn s[k]=true:=n6_;have o3':(s[k]==92)=false:=n6_;have o4:ZC s[k]=false:=n6_;exact m120_):p:=h
theorem m137_{p:Prop}(h:p:=by go_wp2_with fail;go_ret2;exact ⟨Hbel.out,n10_⟩):p:=h
theorem m138_{p:Prop}(h:p:=by go_wp2_with fail;have H:=HW.out;rw [HC0.out,HDD.out] at H;refine H.mono ?_;rintro e w' ⟨rfl,n,rfl⟩;go_wp2_with fail;go_ret2;exact ⟨Hbel.out.trans (Zb (dn _ n)),n10_⟩):p:=h
theorem ZmO(w:World)(n:Nat)(hn:n=w.heap.size)(q:UInt8) :
  (convert 86 9 (.slice (some ⟨n,0,none⟩) 1 1)).run prog (w.alloc (.cells #[.int .u8 q.toNat] 5))=.ok (.string ⟨#[q]⟩) (w.alloc (.cells #[.int .u8 q.toNat] 5)):=by
 subst hn;rw [run_convert_bytes_string _ _ _ 5 _ _ _ underlying86 underlying5 underlying9];rw [run_bytesToString _ _ _ _ [(q.toNat:Int)] (by
  have hc:(w.alloc (.cells #[.int .u8 q.toNat] 5)).cell? ⟨w.heap.size,0,none⟩=some (.int .u8 q.toNat):=s_;simp [loadCells,loadCellsFrom,Addr.add])]
 simp;rfl
def AtR(s:ByteArray)(w:World)(res:Except Nat (List Str))(f:Nat)(v4 v5 v6 v7:Value)(wr:World):Prop:=
 ∃(k:Nat) (ws:List Str) (cur:Option Str) (q:UInt8),v5=.bool cur.isSome/\v6=.int .u8 q.toNat/\v7=.int .i64 k/\k<=s.size/\s.size-k<f/\
  Z8 f ws cur q (s.data.toList.drop k)=res/\(ws++cur.toList).length<=32/\(q=0\/((q=39\/q=34)/\cur.isSome=true))/\(cur.getD []).length<=k/\
  wr.ownsRow w.heap.size 9 1 v4 (ws++cur.toList).length (Ze (ws++cur.toList))/\Below w.heap.size w wr
theorem ZqX{c:UInt8}{n:Nat}(hn:n<256)(h:(c.toNat:Int)=n):c=UInt8.ofNat n:=by
 apply UInt8.toNat_inj.1;rw [UInt8.toNat_ofNat'];omega
inductive Cls(c:UInt8):Prop where
 |bad (h:Yj c=true)
 |blank (h:c=32\/c=9)
 |back (h:c=92)
 |quote (h:c=39\/c=34)
 |other (h:Yj c=false/\Zn c=false/\c≠92/\ZC c=false)
theorem cls(c:UInt8):Cls c:=by
 cases hb:Yj c with
 |true=>exact .bad hb
 |false=>
  by_cases h1:c=32\/c=9
  ·exact .blank h1
  ·by_cases h2:c=92
   ·exact .back h2
   ·by_cases h3:c=39\/c=34
    ·exact .quote h3
    ·refine .other ⟨hb,?_,h2,?_⟩
     ·simpa [Zn] using h1
     ·simpa [ZC] using h3
theorem X9(w0:Str)(s:ByteArray)(k:Nat)(h:k<s.size):(⟨w0.toArray⟩:ByteArray)++s.extract k (k+1)=⟨(w0++[s[k]]).toArray⟩:=by
 apply Yb;rw [Joins.data_append,Lib.extract_data,drop_cons s k h];simp
theorem JJ(w0:Str)(d:UInt8):(⟨w0.toArray⟩:ByteArray)++⟨#[d]⟩=⟨(w0++[d]).toArray⟩:=by
 apply Yb;rw [Joins.data_append]
theorem below_drewN'{B:Nat}{a w:World}(h:Below B a w)(n:Nat):Below B a (w.drewN n):=⟨h.os,h.tape,h.output,h.size,h.block⟩
theorem ZaK{B:Nat}{a w:World}(h:Below B a w):Below B a w.drew:=⟨h.os,h.tape,h.output,h.size,h.block⟩
theorem AtR.word{s:ByteArray}{w:World}{res:Except Nat (List Str)}{f k':Nat}{v4 v6:Value}{wr:World}(ws:List Str)(x:Str)(q:UInt8)(h6:v6=.int .u8 q.toNat)(hk:k'<=s.size)(hf:s.size-k'<f)
  (hr:Z8 f ws (some x) q (s.data.toList.drop k')=res) (hl:ws.length<32) (hq:q=0\/q=39\/q=34) (hx:x.length<=k') (hown:wr.ownsRow w.heap.size 9 1 v4 (ws.length+1) (Ze (ws++[x]))) (hb:Below w.heap.size w wr) :
  AtR s w res f v4 (.bool true) v6 (.int .i64 ((k':Nat):Int)) wr:=by
 have e:(ws++(some x).toList).length=ws.length+1:=s_;exact ⟨k',ws,some x,q,rfl,h6,rfl,hk,hf,hr,o_,by rcases hq with h|h;exact .inl h;exact .inr ⟨h,rfl⟩,hx,by rw [e];exact hown,hb⟩
theorem AtR.none{s:ByteArray}{w:World}{res:Except Nat (List Str)}{f k':Nat}{v4 v6:Value}{wr:World}(ws:List Str)(h6:v6=.int .u8 ((0:UInt8).toNat:Nat))(hk:k'<=s.size)(hf:s.size-k'<f)
  (hr:Z8 f ws Option.none 0 (s.data.toList.drop k')=res) (hl:ws.length<=32) (hown:wr.ownsRow w.heap.size 9 1 v4 ws.length (Ze ws)) (hb:Below w.heap.size w wr) :
  AtR s w res f v4 (.bool false) v6 (.int .i64 ((k':Nat):Int)) wr:=by
 have e:(ws++(Option.none:Option Str).toList)=ws:=s_;exact ⟨k',ws,Option.none,0,rfl,h6,rfl,hk,hf,hr,by rw [e];exact hl,.inl rfl,s_,by rw [e];exact hown,hb⟩
structure Tst(n:Int)(b32 b9 b127 b92 b39 b34:Bool):Prop where
 t32:(n==32)=b32
 t9:(n==9)=b9
 t127:(n==127)=b127
 t92:(n==92)=b92
 t39:(n==39)=b39
 t34:(n==34)=b34
theorem Zcx{c:UInt8}(h:Yj c=false/\Zn c=false/\c≠92/\ZC c=false):Tst c.toNat false false false false false false/\(32:Int)<=c.toNat:=by
 obtain ⟨h1,h2,h3,h4⟩:=h;rw [J6] at h1;rw [Zfe] at h2;have h1:=of_decide_eq_false h1;have h2:=of_decide_eq_false h2;have h5:(c.toNat:Int)≠92:=fun e=>h3 (ZqX (n:=92) d_ e)
 obtain ⟨h6,h7⟩:=Zf6 h4;refine ⟨⟨?_,?_,?_,?_,h6,h7⟩,?_⟩<;>first|(rw [beq_eq_false_iff_ne];omega)|omega
theorem ZdP(s:ByteArray)(w:World)(hs:s.size<549755813888)(res:Except Nat (List Str))(hres:Z8 (s.size+1) [] none 0 s.data.toList=res) :
  Calls prog 129 #[.string s] w fun e w'=>Zq4 w res e w':=by
 have Hres:=h_ hres;clear hres;obtain ⟨i0,hi,hz0,hz1,hz2⟩:=info_parts ZgL;go_enter func129,ntmps129;go_wp2_with fail;go_loopg [4,5,6,7,8,9,10,11,12] (s.size+1) (fun f v4 v5 v6 v7 _ _ _ _ _ wr=>AtR s w res f v4 v5 v6 v7 wr)
 case atStart=>exact ⟨0,[],none,0,rfl,rfl,rfl,o_,o_,Hres.out,s_,.inl rfl,s_,World.ownsRow_nil _ _ _ _,Below.refl _ _⟩
 case round=>
  obtain ⟨k,ws,cur,q,rfl,rfl,rfl,hk,hfu,hq,hl32,hqq,hwk,hown,hbel⟩:=hrel;have Hq:=h_ hq;clear hq;have Hown:=h_ hown;clear hown;have Hbel:=h_ hbel;clear hbel;obtain ⟨oa,cap,rfl⟩:=ownsRow_form Hown.out;obtain ⟨f,rfl⟩:∃f,gk=f+1:=⟨gk-1,o_⟩;by_cases hlt:k<s.size
  ·have hdc:=drop_cons s k hlt
   rcases hqq with rfl|⟨rfl|rfl,hcs⟩
   ·cases cur with
    |none=>
     cases cls s[k] with
     |bad hb=>
      exact m123_
     |blank hx=>
      rcases hx with hx|hx
      ·have n0:(s[k].toNat:Int)=32:=n6_
       have t32:((s[k].toNat:Int)==32)=true:=n5_;have t9:((s[k].toNat:Int)==9)=false:=n5_;have t127:((s[k].toNat:Int)==127)=false:=n5_;have t92:((s[k].toNat:Int)==92)=false:=n5_;have t39:((s[k].toNat:Int)==39)=false:=n5_;have t34:((s[k].toNat:Int)==34)=false:=n5_;have t9':=Yu t9;have h32:(32:Int)<=s[k].toNat:=o_;exact m126_
      ·have n0:(s[k].toNat:Int)=9:=n6_
       have t32:((s[k].toNat:Int)==32)=false:=n5_;have t9:((s[k].toNat:Int)==9)=true:=n5_;have t127:((s[k].toNat:Int)==127)=false:=n5_;have t92:((s[k].toNat:Int)==92)=false:=n5_;have t39:((s[k].toNat:Int)==39)=false:=n5_;have t34:((s[k].toNat:Int)==34)=false:=n5_;have t9':=Yu t9;have h32:(s[k].toNat:Int)<32:=o_;exact m126_
     |back hx=>
      have n0:(s[k].toNat:Int)=92:=n6_;have t32:((s[k].toNat:Int)==32)=false:=n5_;have t9:((s[k].toNat:Int)==9)=false:=n5_;have t127:((s[k].toNat:Int)==127)=false:=n5_;have t92:((s[k].toNat:Int)==92)=true:=n5_;have t39:((s[k].toNat:Int)==39)=false:=n5_;have t34:((s[k].toNat:Int)==34)=false:=n5_;have t9':=Yu t9;have h32:(32:Int)<=s[k].toNat:=o_;have o1:Yj s[k]=false:=n6_;have o2:Zn s[k]=false:=n6_;have o3':(s[k]==92)=true:=n6_;have o4:ZC s[k]=false:=n6_;by_cases h32n:ws.length=32
      ·exact m130_
      ·cases he:YR (s.data.toList.drop (k+1)) with
       |none=>
        have e0:(ws++(none:Option Str).toList).length=ws.length:=s_;rw [e0];have hown0:wr.ownsRow w.heap.size 9 1 (.slice oa ws.length cap) ws.length (Ze ws):=n118_;have hl3:ws.length<=32:=n82_;clear e0 Hown;have hsz:=Hbel.out.size;have HR:=h_ (show res=.error 13 by
         rw [<-Hq.out,hdc];have n32:(ws.length==32)=false:=n132_;simp only [Z8,o1,o2,o3',o4,he,n32];simp)
        have HE:=h_ (show QF (s.data.toList.drop (k+1))=(0,0) by simp [QF,he]);clear he;have l32:((ws.length:Int)==32)=false:=n3_;have hl4:ws.length<32:=o_;clear hdc n0;have HX0:=h_ hx;clear hx;go_wp2_with (at_builtin;refine wpList_append_own _ rfl _ _ 28 rfl w.heap.size 9 i0 (.string ⟨#[]⟩) 1 16 underlying28 hi hz0 hz1 hz2 rfl d_ _ _ _ rfl (hown0.alloc _) ⟨wr.heap.size,0,none⟩ 1 1 [.string ⟨#[]⟩] rfl rfl n38_ n30_ n20_ o_ n2_ ?_);intro v' w2 hown' hgrow hnil;have HB2:=h_ ((Hbel.out.alloc hsz _).grown hgrow n2_ (fun g hg=>(hown0.lt g hg).1));have HO2:=h_ (show w2.ownsRow w.heap.size 9 1 v' (ws.length+1) (Ze (ws++[[]])) by rw [Zm];exact hown');clear hgrow hnil hown' hown0;obtain ⟨oa2,cap2,rfl⟩:=ownsRow_form HO2.out;obtain ⟨g,rfl⟩:=ZX HO2.out;have hesc:=Xz (s.extract (k+1) s.size) w2 n2_;rw [Lib.extract_to_end s (k+1)] at hesc;exact m131_
       |some dn=>
        obtain ⟨d,n⟩:=dn;have e0:(ws++(none:Option Str).toList).length=ws.length:=s_;rw [e0];have hown0:wr.ownsRow w.heap.size 9 1 (.slice oa ws.length cap) ws.length (Ze ws):=n118_;have hl3:ws.length<=32:=n82_;clear e0 Hown;have hsz:=Hbel.out.size;have HR:=h_ (show Z8 f ws (some (([]:Str)++[d])) 0 (s.data.toList.drop (k+(n+1)))=res by
         rw [<-Hq.out,hdc];have n32:(ws.length==32)=false:=n132_;simp only [Z8,o1,o2,o3',o4,he,n32];simp [List.drop_drop];congr 2;omega)
        have hX:(⟨(([]:Str)).toArray⟩:ByteArray)++(⟨#[d]⟩:ByteArray)=⟨(([]:Str)++[d]).toArray⟩:=JJ ([]:Str) d;have HE:=h_ (show QF (s.data.toList.drop (k+1))=(d,n) by simp [QF,he]);have hle:=(JS he).2.1;rw [Y2] at hle;have hn1:=(JS he).1;have hn0:((n:Int)==0)=false:=n3_;clear he;have l32:((ws.length:Int)==32)=false:=n3_;have hl4:ws.length<32:=o_;clear hdc n0;have HX0:=h_ hx;clear hx;go_wp2_with (at_builtin;refine wpList_append_own _ rfl _ _ 28 rfl w.heap.size 9 i0 (.string ⟨#[]⟩) 1 16 underlying28 hi hz0 hz1 hz2 rfl d_ _ _ _ rfl (hown0.alloc _) ⟨wr.heap.size,0,none⟩ 1 1 [.string ⟨#[]⟩] rfl rfl n38_ n30_ n20_ o_ n2_ ?_);intro v' w2 hown' hgrow hnil;have HB2:=h_ ((Hbel.out.alloc hsz _).grown hgrow n2_ (fun g hg=>(hown0.lt g hg).1));have HO2:=h_ (show w2.ownsRow w.heap.size 9 1 v' (ws.length+1) (Ze (ws++[[]])) by rw [Zm];exact hown');clear hgrow hnil hown' hown0;obtain ⟨oa2,cap2,rfl⟩:=ownsRow_form HO2.out;obtain ⟨g,rfl⟩:=ZX HO2.out;have hesc:=Xz (s.extract (k+1) s.size) w2 n2_;rw [Lib.extract_to_end s (k+1)] at hesc;obtain ⟨hset,hcell,hfro,hbg,hglt⟩:=ZU (xs:=Ze ws) (x:=.string ⟨(([]:Str)).toArray⟩) n22_ (.string ((⟨(([]:Str)).toArray⟩:ByteArray)++(⟨#[d]⟩:ByteArray)));have HS:=h_ (show (w2.setCell ⟨g,ws.length,none⟩ (.string ((⟨(([]:Str)).toArray⟩:ByteArray)++(⟨#[d]⟩:ByteArray)))).ownsRow w.heap.size 9 1 (.slice (some ⟨g,0,none⟩) (ws.length+1) cap2) (ws.length+1) (Ze (ws++[([]:Str)++[d]])) by
         rw [Zm,<-hX];exact hset)
        have HB3:=h_ (HB2.out.setCell (p:=⟨g,ws.length,none⟩) hbg (.string ((⟨(([]:Str)).toArray⟩:ByteArray)++(⟨#[d]⟩:ByteArray))));have hcell':w2.cell? ⟨g,ws.length,none⟩=some (.string ⟨#[]⟩):=hcell;have hA:=fun (j:Nat) (o:Obj)=>ZU (w:=(w2.drewN j).alloc o) (xs:=Ze ws) (x:=.string ⟨(([]:Str)).toArray⟩) (by have:=(show (w2.drewN j).ownsRow w.heap.size 9 1 (.slice (some ⟨g,0,none⟩) (ws.length+1) cap2) (ws.length+1) (Ze (ws++[([]:Str)])) from HO2.out).alloc o;rw [Zm] at this;exact this) (.string ((⟨(([]:Str)).toArray⟩:ByteArray)++(⟨#[d]⟩:ByteArray)))
        have hcl:=fun (j:Nat) (o:Obj)=>(hA j o).2.1
        have hfl:=fun (j:Nat) (o:Obj)=>(hA j o).2.2.1
        have HSA:=h_ (fun (j:Nat) (o:Obj)=>(hA j o).1);have HBA:=h_ (fun (j:Nat) (o:Obj)=>(Below.setCell ((below_drewN' HB2.out j).alloc (show w.heap.size<=(w2.drewN j).heap.size from HB2.out.size) o) (p:=⟨g,ws.length,none⟩) hbg (.string ((⟨(([]:Str)).toArray⟩:ByteArray)++(⟨#[d]⟩:ByteArray)))));clear hA;clear hset hX hbg;have HC:=h_ hesc;clear hesc;have hk1:(k:Int)+1<=(s.size:Int):=o_;have hcv:=fun (j:Nat)=>ZmO (w2.drewN j) w2.heap.size rfl d
        go_wp2_with fail;refine HC.out.mono ?_;rw [HE.out];rintro e w' ⟨rfl,m,rfl⟩;go_wp2_with fail;go_region;go_wp2_with fail;go_roundg f
        case measure=>omega
        case rel=>
         have e2:((k:Int)+n+1)=((k+(n+1):Nat):Int):=o_;rw [e2];exact AtR.word (k':=k+(n+1)) ws (([]:Str)++[d]) 0 rfl o_ o_ HR.out hl4 d_ n70_ n73_ n50_
     |quote hx=>
      rcases hx with hx|hx
      ·have n0:(s[k].toNat:Int)=39:=n6_
       have t32:((s[k].toNat:Int)==32)=false:=n5_;have t9:((s[k].toNat:Int)==9)=false:=n5_;have t127:((s[k].toNat:Int)==127)=false:=n5_;have t92:((s[k].toNat:Int)==92)=false:=n5_;have t39:((s[k].toNat:Int)==39)=true:=n5_;have t34:((s[k].toNat:Int)==34)=false:=n5_;exact m121_
      ·have n0:(s[k].toNat:Int)=34:=n6_
       have t32:((s[k].toNat:Int)==32)=false:=n5_;have t9:((s[k].toNat:Int)==9)=false:=n5_;have t127:((s[k].toNat:Int)==127)=false:=n5_;have t92:((s[k].toNat:Int)==92)=false:=n5_;have t39:((s[k].toNat:Int)==39)=false:=n5_;have t34:((s[k].toNat:Int)==34)=true:=n5_;exact m121_
     |other ho=>
      obtain ⟨tst,h32⟩:=Zcx ho;obtain ⟨t32,t9,t127,t92,t39,t34⟩:=tst;have t9':=Yu t9;obtain ⟨o1,o2,o3,o4⟩:=ho;have o3':(s[k]==92)=false:=by simpa using o3
      by_cases h32n:ws.length=32
      ·have HR:=h_ (show res=.error (ZaP s[k] (s.data.toList.drop (k+1))) by
        rw [<-Hq.out,hdc];simp only [Z8,o1,o2,h32n];simp [ZaP])
       have e0:(ws++(none:Option Str).toList).length=ws.length:=s_;rw [e0];have l32:((ws.length:Int)==32)=true:=n54_;have hsx:(s.extract k s.size).size=s.size-k:=s_;have hk0:0<(s.extract k s.size).size:=o_;have hc0:(s.extract k s.size)[0]'hk0=s[k]:=n96_;have HW:=h_ (ZaI (s.extract k s.size) wr o_ hk0);have HC0:=h_ hc0;have hdd:(s.extract k s.size).data.toList.drop 1=s.data.toList.drop (k+1):=n76_;have HDD:=h_ hdd;have hk1:(k:Int)<=(s.size:Int):=o_;clear hc0 hdd hsx hdc e0 h32n;have HX9:=h_ o3';clear o3';exact m138_
      ·have e0:(ws++(none:Option Str).toList).length=ws.length:=s_
       rw [e0];have hown0:wr.ownsRow w.heap.size 9 1 (.slice oa ws.length cap) ws.length (Ze ws):=n118_;have hl3:ws.length<=32:=n82_;clear e0 Hown;have hsz:=Hbel.out.size;have HR:=h_ (show Z8 f ws (some (([]:Str)++[s[k]])) 0 (s.data.toList.drop (k+1))=res by
        rw [<-Hq.out,hdc];have n32:(ws.length==32)=false:=n132_;skip;simp only [Z8,o1,o2,o3',o4,n32];simp)
       have hX:(⟨(([]:Str)).toArray⟩:ByteArray)++s.extract k (k+1)=⟨(([]:Str)++[s[k]]).toArray⟩:=X9 ([]:Str) s k hlt;have hk1:(k:Int)+1<=(s.size:Int):=o_;have l32:((ws.length:Int)==32)=false:=n3_;have hl4:ws.length<32:=o_;clear hdc;go_wp2_with (at_builtin;refine wpList_append_own _ rfl _ _ 28 rfl w.heap.size 9 i0 (.string ⟨#[]⟩) 1 16 underlying28 hi hz0 hz1 hz2 rfl d_ _ _ _ rfl (hown0.alloc _) ⟨wr.heap.size,0,none⟩ 1 1 [.string ⟨#[]⟩] rfl rfl n38_ n30_ n20_ o_ n2_ ?_);intro v' w2 hown' hgrow hnil;have HB2:=h_ ((Hbel.out.alloc hsz _).grown hgrow n2_ (fun g hg=>(hown0.lt g hg).1));have HO2:=h_ (show w2.ownsRow w.heap.size 9 1 v' (ws.length+1) (Ze (ws++[[]])) by rw [Zm];exact hown');clear hgrow hnil hown' hown0;obtain ⟨oa2,cap2,rfl⟩:=ownsRow_form HO2.out;obtain ⟨g,rfl⟩:=ZX HO2.out;obtain ⟨hset,hcell,hfro,hbg,hglt⟩:=ZU (xs:=Ze ws) (x:=.string ⟨(([]:Str)).toArray⟩) n22_ (.string ((⟨(([]:Str)).toArray⟩:ByteArray)++s.extract k (k+1)));have HS:=h_ (show (w2.setCell ⟨g,ws.length,none⟩ (.string ((⟨(([]:Str)).toArray⟩:ByteArray)++s.extract k (k+1)))).ownsRow w.heap.size 9 1 (.slice (some ⟨g,0,none⟩) (ws.length+1) cap2) (ws.length+1) (Ze (ws++[([]:Str)++[s[k]]])) by
        rw [Zm,<-hX];exact hset)
       have HB3:=h_ (HB2.out.setCell (p:=⟨g,ws.length,none⟩) hbg (.string ((⟨(([]:Str)).toArray⟩:ByteArray)++s.extract k (k+1))));have hcell':w2.cell? ⟨g,ws.length,none⟩=some (.string ⟨#[]⟩):=hcell;clear hset hX hbg;go_wp2_with fail;go_region;go_wp2_with fail;go_roundg f
       case measure=>omega
       case rel=>exact AtR.word (k':=k+1) ws (([]:Str)++[s[k]]) 0 rfl o_ o_ HR.out hl4 d_ n70_ HS.out n13_
    |some w0=>
     cases cls s[k] with
     |bad hb=>
      exact m123_
     |blank hx=>
      rcases hx with hx|hx
      ·have n0:(s[k].toNat:Int)=32:=n6_
       have t32:((s[k].toNat:Int)==32)=true:=n5_;have t9:((s[k].toNat:Int)==9)=false:=n5_;have t127:((s[k].toNat:Int)==127)=false:=n5_;have t92:((s[k].toNat:Int)==92)=false:=n5_;have t39:((s[k].toNat:Int)==39)=false:=n5_;have t34:((s[k].toNat:Int)==34)=false:=n5_;have t9':=Yu t9;have h32:(32:Int)<=s[k].toNat:=o_;exact m125_
      ·have n0:(s[k].toNat:Int)=9:=n6_
       have t32:((s[k].toNat:Int)==32)=false:=n5_;have t9:((s[k].toNat:Int)==9)=true:=n5_;have t127:((s[k].toNat:Int)==127)=false:=n5_;have t92:((s[k].toNat:Int)==92)=false:=n5_;have t39:((s[k].toNat:Int)==39)=false:=n5_;have t34:((s[k].toNat:Int)==34)=false:=n5_;have t9':=Yu t9;have h32:(s[k].toNat:Int)<32:=o_;exact m125_
     |back hx=>
      have n0:(s[k].toNat:Int)=92:=n6_;have t32:((s[k].toNat:Int)==32)=false:=n5_;have t9:((s[k].toNat:Int)==9)=false:=n5_;have t127:((s[k].toNat:Int)==127)=false:=n5_;have t92:((s[k].toNat:Int)==92)=true:=n5_;have t39:((s[k].toNat:Int)==39)=false:=n5_;have t34:((s[k].toNat:Int)==34)=false:=n5_;have t9':=Yu t9;have h32:(32:Int)<=s[k].toNat:=o_;have o1:Yj s[k]=false:=n6_;have o2:Zn s[k]=false:=n6_;have o3':(s[k]==92)=true:=n6_;have o4:ZC s[k]=false:=n6_;cases he:YR (s.data.toList.drop (k+1)) with
      |none=>
       exact m122_
      |some dn=>
       obtain ⟨d,n⟩:=dn;have e0:(ws++(some w0).toList).length=ws.length+1:=s_;rw [e0];have HO2:=h_ (show wr.ownsRow w.heap.size 9 1 (.slice oa (ws.length+1) cap) (ws.length+1) (Ze (ws++[w0])) by simpa using Hown.out);have hl3:ws.length<32:=n31_;clear e0 Hown;obtain ⟨g,rfl⟩:=ZX HO2.out;have HB2:=Hbel;have hwl:w0.length<=k:=hwk;have HR:=h_ (show Z8 f ws (some (w0++[d])) 0 (s.data.toList.drop (k+(n+1)))=res by
        rw [<-Hq.out,hdc];skip;simp only [Z8,o1,o2,o3',o4,he];simp [List.drop_drop];congr 2;omega)
       have hX:(⟨(w0).toArray⟩:ByteArray)++(⟨#[d]⟩:ByteArray)=⟨(w0++[d]).toArray⟩:=JJ w0 d;have HE:=h_ (show QF (s.data.toList.drop (k+1))=(d,n) by simp [QF,he]);have hle:=(JS he).2.1;rw [Y2] at hle;have hn1:=(JS he).1;have hn0:((n:Int)==0)=false:=n3_;clear he;have hesc:=Xz (s.extract (k+1) s.size) wr n2_;rw [Lib.extract_to_end s (k+1)] at hesc;obtain ⟨hset,hcell,hfro,hbg,hglt⟩:=ZU (xs:=Ze ws) (x:=.string ⟨(w0).toArray⟩) n22_ (.string ((⟨(w0).toArray⟩:ByteArray)++(⟨#[d]⟩:ByteArray)));have HS:=h_ (show (wr.setCell ⟨g,ws.length,none⟩ (.string ((⟨(w0).toArray⟩:ByteArray)++(⟨#[d]⟩:ByteArray)))).ownsRow w.heap.size 9 1 (.slice (some ⟨g,0,none⟩) (ws.length+1) cap) (ws.length+1) (Ze (ws++[w0++[d]])) by
        rw [Zm,<-hX];exact hset)
       have HB3:=h_ (HB2.out.setCell (p:=⟨g,ws.length,none⟩) hbg (.string ((⟨(w0).toArray⟩:ByteArray)++(⟨#[d]⟩:ByteArray))));have hA:=fun (j:Nat) (o:Obj)=>ZU (w:=(wr.drewN j).alloc o) (xs:=Ze ws) (x:=.string ⟨(w0).toArray⟩) n23_ (.string ((⟨(w0).toArray⟩:ByteArray)++(⟨#[d]⟩:ByteArray)))
       have hcl:=fun (j:Nat) (o:Obj)=>(hA j o).2.1
       have hfl:=fun (j:Nat) (o:Obj)=>(hA j o).2.2.1
       have HSA:=h_ (fun (j:Nat) (o:Obj)=>(hA j o).1);have HBA:=h_ (fun (j:Nat) (o:Obj)=>(Below.setCell ((below_drewN' HB2.out j).alloc (show w.heap.size<=(wr.drewN j).heap.size from HB2.out.size) o) (p:=⟨g,ws.length,none⟩) hbg (.string ((⟨(w0).toArray⟩:ByteArray)++(⟨#[d]⟩:ByteArray)))));clear hA;clear hset hX hbg;clear hdc n0;have HX0:=h_ hx;clear hx;have HC:=h_ hesc;clear hesc;have hk1:(k:Int)+1<=(s.size:Int):=o_;have hcv:=fun (j:Nat)=>ZmO (wr.drewN j) wr.heap.size rfl d
       go_wp2_with fail;refine HC.out.mono ?_;rw [HE.out];rintro e w' ⟨rfl,m,rfl⟩;go_wp2_with fail;go_region;go_wp2_with fail;go_roundg f
       case measure=>omega
       case rel=>
        have e2:((k:Int)+n+1)=((k+(n+1):Nat):Int):=o_;rw [e2];exact AtR.word (k':=k+(n+1)) ws (w0++[d]) 0 rfl o_ o_ HR.out hl3 d_ n70_ n73_ n50_
     |quote hx=>
      rcases hx with hx|hx
      ·have n0:(s[k].toNat:Int)=39:=n6_
       have t32:((s[k].toNat:Int)==32)=false:=n5_;have t9:((s[k].toNat:Int)==9)=false:=n5_;have t127:((s[k].toNat:Int)==127)=false:=n5_;have t92:((s[k].toNat:Int)==92)=false:=n5_;have t39:((s[k].toNat:Int)==39)=true:=n5_;have t34:((s[k].toNat:Int)==34)=false:=n5_;exact m124_
      ·have n0:(s[k].toNat:Int)=34:=n6_
       have t32:((s[k].toNat:Int)==32)=false:=n5_;have t9:((s[k].toNat:Int)==9)=false:=n5_;have t127:((s[k].toNat:Int)==127)=false:=n5_;have t92:((s[k].toNat:Int)==92)=false:=n5_;have t39:((s[k].toNat:Int)==39)=false:=n5_;have t34:((s[k].toNat:Int)==34)=true:=n5_;exact m124_
     |other ho=>
      obtain ⟨tst,h32⟩:=Zcx ho;obtain ⟨t32,t9,t127,t92,t39,t34⟩:=tst;have t9':=Yu t9;obtain ⟨o1,o2,o3,o4⟩:=ho;have o3':(s[k]==92)=false:=by simpa using o3
      have e0:(ws++(some w0).toList).length=ws.length+1:=s_;rw [e0];have HO2:=h_ (show wr.ownsRow w.heap.size 9 1 (.slice oa (ws.length+1) cap) (ws.length+1) (Ze (ws++[w0])) by simpa using Hown.out);have hl3:ws.length<32:=n31_;clear e0 Hown;obtain ⟨g,rfl⟩:=ZX HO2.out;have HB2:=Hbel;have hwl:w0.length<=k:=hwk;have HR:=h_ (show Z8 f ws (some (w0++[s[k]])) 0 (s.data.toList.drop (k+1))=res by
       rw [<-Hq.out,hdc];skip;skip;simp only [Z8,o1,o2,o3',o4];simp)
      have hX:(⟨(w0).toArray⟩:ByteArray)++s.extract k (k+1)=⟨(w0++[s[k]]).toArray⟩:=X9 w0 s k hlt;have hk1:(k:Int)+1<=(s.size:Int):=o_;obtain ⟨hset,hcell,hfro,hbg,hglt⟩:=ZU (xs:=Ze ws) (x:=.string ⟨(w0).toArray⟩) n22_ (.string ((⟨(w0).toArray⟩:ByteArray)++s.extract k (k+1)));have HS:=h_ (show (wr.setCell ⟨g,ws.length,none⟩ (.string ((⟨(w0).toArray⟩:ByteArray)++s.extract k (k+1)))).ownsRow w.heap.size 9 1 (.slice (some ⟨g,0,none⟩) (ws.length+1) cap) (ws.length+1) (Ze (ws++[w0++[s[k]]])) by
       rw [Zm,<-hX];exact hset)
      have HB3:=h_ (HB2.out.setCell (p:=⟨g,ws.length,none⟩) hbg (.string ((⟨(w0).toArray⟩:ByteArray)++s.extract k (k+1))));clear hset hX hbg;clear hdc;go_wp2_with fail;go_region;go_wp2_with fail;go_roundg f
      case measure=>omega
      case rel=>exact AtR.word (k':=k+1) ws (w0++[s[k]]) 0 rfl o_ o_ HR.out hl3 d_ n70_ HS.out n13_
   ·cases cur with
    |none=>exact absurd hcs d_
    |some w0=>
     clear hcs;cases cls s[k] with
     |bad hb=>
      exact m123_
     |blank hx=>
      rcases hx with hx|hx
      ·have n0:(s[k].toNat:Int)=32:=n6_
       have t32:((s[k].toNat:Int)==32)=true:=n5_;have t9:((s[k].toNat:Int)==9)=false:=n5_;have t127:((s[k].toNat:Int)==127)=false:=n5_;have t92:((s[k].toNat:Int)==92)=false:=n5_;have t39:((s[k].toNat:Int)==39)=false:=n5_;have t34:((s[k].toNat:Int)==34)=false:=n5_;have t9':=Yu t9;have h32:(32:Int)<=s[k].toNat:=o_;exact m136_
      ·have n0:(s[k].toNat:Int)=9:=n6_
       have t32:((s[k].toNat:Int)==32)=false:=n5_;have t9:((s[k].toNat:Int)==9)=true:=n5_;have t127:((s[k].toNat:Int)==127)=false:=n5_;have t92:((s[k].toNat:Int)==92)=false:=n5_;have t39:((s[k].toNat:Int)==39)=false:=n5_;have t34:((s[k].toNat:Int)==34)=false:=n5_;have t9':=Yu t9;have h32:(s[k].toNat:Int)<32:=o_;exact m136_
     |back hx=>
      have n0:(s[k].toNat:Int)=92:=n6_;have t32:((s[k].toNat:Int)==32)=false:=n5_;have t9:((s[k].toNat:Int)==9)=false:=n5_;have t127:((s[k].toNat:Int)==127)=false:=n5_;have t92:((s[k].toNat:Int)==92)=true:=n5_;have t39:((s[k].toNat:Int)==39)=false:=n5_;have t34:((s[k].toNat:Int)==34)=false:=n5_;have t9':=Yu t9;have h32:(32:Int)<=s[k].toNat:=o_;have o1:Yj s[k]=false:=n6_;have o2:Zn s[k]=false:=n6_;have o3':(s[k]==92)=true:=n6_;have o4:ZC s[k]=false:=n6_;cases he:YR (s.data.toList.drop (k+1)) with
      |none=>
       exact m122_
      |some dn=>
       obtain ⟨d,n⟩:=dn;have e0:(ws++(some w0).toList).length=ws.length+1:=s_;rw [e0];have HO2:=h_ (show wr.ownsRow w.heap.size 9 1 (.slice oa (ws.length+1) cap) (ws.length+1) (Ze (ws++[w0])) by simpa using Hown.out);have hl3:ws.length<32:=n31_;clear e0 Hown;obtain ⟨g,rfl⟩:=ZX HO2.out;have HB2:=Hbel;have hwl:w0.length<=k:=hwk;have HR:=h_ (show Z8 f ws (some (w0++[d])) 39 (s.data.toList.drop (k+(n+1)))=res by
        rw [<-Hq.out,hdc];skip;simp only [Z8,o1,o2,o3',o4,he];simp [List.drop_drop];congr 2;omega)
       have hX:(⟨(w0).toArray⟩:ByteArray)++(⟨#[d]⟩:ByteArray)=⟨(w0++[d]).toArray⟩:=JJ w0 d;have HE:=h_ (show QF (s.data.toList.drop (k+1))=(d,n) by simp [QF,he]);have hle:=(JS he).2.1;rw [Y2] at hle;have hn1:=(JS he).1;have hn0:((n:Int)==0)=false:=n3_;clear he;have hesc:=Xz (s.extract (k+1) s.size) wr n2_;rw [Lib.extract_to_end s (k+1)] at hesc;obtain ⟨hset,hcell,hfro,hbg,hglt⟩:=ZU (xs:=Ze ws) (x:=.string ⟨(w0).toArray⟩) n22_ (.string ((⟨(w0).toArray⟩:ByteArray)++(⟨#[d]⟩:ByteArray)));have HS:=h_ (show (wr.setCell ⟨g,ws.length,none⟩ (.string ((⟨(w0).toArray⟩:ByteArray)++(⟨#[d]⟩:ByteArray)))).ownsRow w.heap.size 9 1 (.slice (some ⟨g,0,none⟩) (ws.length+1) cap) (ws.length+1) (Ze (ws++[w0++[d]])) by
        rw [Zm,<-hX];exact hset)
       have HB3:=h_ (HB2.out.setCell (p:=⟨g,ws.length,none⟩) hbg (.string ((⟨(w0).toArray⟩:ByteArray)++(⟨#[d]⟩:ByteArray))));have hA:=fun (j:Nat) (o:Obj)=>ZU (w:=(wr.drewN j).alloc o) (xs:=Ze ws) (x:=.string ⟨(w0).toArray⟩) n23_ (.string ((⟨(w0).toArray⟩:ByteArray)++(⟨#[d]⟩:ByteArray)))
       have hcl:=fun (j:Nat) (o:Obj)=>(hA j o).2.1
       have hfl:=fun (j:Nat) (o:Obj)=>(hA j o).2.2.1
       have HSA:=h_ (fun (j:Nat) (o:Obj)=>(hA j o).1);have HBA:=h_ (fun (j:Nat) (o:Obj)=>(Below.setCell ((below_drewN' HB2.out j).alloc (show w.heap.size<=(wr.drewN j).heap.size from HB2.out.size) o) (p:=⟨g,ws.length,none⟩) hbg (.string ((⟨(w0).toArray⟩:ByteArray)++(⟨#[d]⟩:ByteArray)))));clear hA;clear hset hX hbg;clear hdc n0;have HX0:=h_ hx;clear hx;have HC:=h_ hesc;clear hesc;have hk1:(k:Int)+1<=(s.size:Int):=o_;have hcv:=fun (j:Nat)=>ZmO (wr.drewN j) wr.heap.size rfl d
       go_wp2_with fail;refine HC.out.mono ?_;rw [HE.out];rintro e w' ⟨rfl,m,rfl⟩;go_wp2_with fail;go_region;go_wp2_with fail;go_roundg f
       case measure=>omega
       case rel=>
        have e2:((k:Int)+n+1)=((k+(n+1):Nat):Int):=o_;rw [e2];exact AtR.word (k':=k+(n+1)) ws (w0++[d]) 39 rfl o_ o_ HR.out hl3 d_ n70_ n73_ n50_
     |quote hx=>
      rcases hx with hx|hx
      ·have n0:(s[k].toNat:Int)=39:=n6_
       have t32:((s[k].toNat:Int)==32)=false:=n5_;have t9:((s[k].toNat:Int)==9)=false:=n5_;have t127:((s[k].toNat:Int)==127)=false:=n5_;have t92:((s[k].toNat:Int)==92)=false:=n5_;have t39:((s[k].toNat:Int)==39)=true:=n5_;have t34:((s[k].toNat:Int)==34)=false:=n5_;have t9':=Yu t9;have h32:(32:Int)<=s[k].toNat:=o_;have o1:Yj s[k]=false:=n6_;have o2:Zn s[k]=false:=n6_;have o3':(s[k]==92)=false:=n6_;have o4:ZC s[k]=true:=n6_;have e0:(ws++(some w0).toList).length=ws.length+1:=s_;rw [e0];have HO2:=h_ (show wr.ownsRow w.heap.size 9 1 (.slice oa (ws.length+1) cap) (ws.length+1) (Ze (ws++[w0])) by simpa using Hown.out);have hl3:ws.length<32:=n31_;clear e0 Hown;obtain ⟨g,rfl⟩:=ZX HO2.out;have HB2:=Hbel;have hwl:w0.length<=k:=hwk;have HR:=h_ (show Z8 f ws (some w0) 0 (s.data.toList.drop (k+1))=res by
        rw [<-Hq.out,hdc];skip;have eqq:(s[k]==(39:UInt8))=true:=n6_;simp only [Z8,o1,o2,o3',o4,eqq];simp)
       exact m128_
      ·have n0:(s[k].toNat:Int)=34:=n6_
       have t32:((s[k].toNat:Int)==32)=false:=n5_;have t9:((s[k].toNat:Int)==9)=false:=n5_;have t127:((s[k].toNat:Int)==127)=false:=n5_;have t92:((s[k].toNat:Int)==92)=false:=n5_;have t39:((s[k].toNat:Int)==39)=false:=n5_;have t34:((s[k].toNat:Int)==34)=true:=n5_;have t9':=Yu t9;have h32:(32:Int)<=s[k].toNat:=o_;have o1:Yj s[k]=false:=n6_;have o2:Zn s[k]=false:=n6_;have o3':(s[k]==92)=false:=n6_;have o4:ZC s[k]=true:=n6_;exact m120_
     |other ho=>
      obtain ⟨tst,h32⟩:=Zcx ho;obtain ⟨t32,t9,t127,t92,t39,t34⟩:=tst;have t9':=Yu t9;obtain ⟨o1,o2,o3,o4⟩:=ho;have o3':(s[k]==92)=false:=by simpa using o3
      have e0:(ws++(some w0).toList).length=ws.length+1:=s_;rw [e0];have HO2:=h_ (show wr.ownsRow w.heap.size 9 1 (.slice oa (ws.length+1) cap) (ws.length+1) (Ze (ws++[w0])) by simpa using Hown.out);have hl3:ws.length<32:=n31_;clear e0 Hown;obtain ⟨g,rfl⟩:=ZX HO2.out;have HB2:=Hbel;have hwl:w0.length<=k:=hwk;have HR:=h_ (show Z8 f ws (some (w0++[s[k]])) 39 (s.data.toList.drop (k+1))=res by
       rw [<-Hq.out,hdc];skip;have eqq:(s[k]==(39:UInt8))=false:=by rw [QG];exact t39
       simp only [Z8,o1,o2,o3',o4,eqq];simp)
      have hX:(⟨(w0).toArray⟩:ByteArray)++s.extract k (k+1)=⟨(w0++[s[k]]).toArray⟩:=X9 w0 s k hlt;have hk1:(k:Int)+1<=(s.size:Int):=o_;obtain ⟨hset,hcell,hfro,hbg,hglt⟩:=ZU (xs:=Ze ws) (x:=.string ⟨(w0).toArray⟩) n22_ (.string ((⟨(w0).toArray⟩:ByteArray)++s.extract k (k+1)));have HS:=h_ (show (wr.setCell ⟨g,ws.length,none⟩ (.string ((⟨(w0).toArray⟩:ByteArray)++s.extract k (k+1)))).ownsRow w.heap.size 9 1 (.slice (some ⟨g,0,none⟩) (ws.length+1) cap) (ws.length+1) (Ze (ws++[w0++[s[k]]])) by
       rw [Zm,<-hX];exact hset)
      have HB3:=h_ (HB2.out.setCell (p:=⟨g,ws.length,none⟩) hbg (.string ((⟨(w0).toArray⟩:ByteArray)++s.extract k (k+1))));clear hset hX hbg;clear hdc;exact m133_
   ·cases cur with
    |none=>exact absurd hcs d_
    |some w0=>
     clear hcs;cases cls s[k] with
     |bad hb=>
      exact m123_
     |blank hx=>
      rcases hx with hx|hx
      ·have n0:(s[k].toNat:Int)=32:=n6_
       have t32:((s[k].toNat:Int)==32)=true:=n5_;have t9:((s[k].toNat:Int)==9)=false:=n5_;have t127:((s[k].toNat:Int)==127)=false:=n5_;have t92:((s[k].toNat:Int)==92)=false:=n5_;have t39:((s[k].toNat:Int)==39)=false:=n5_;have t34:((s[k].toNat:Int)==34)=false:=n5_;have t9':=Yu t9;have h32:(32:Int)<=s[k].toNat:=o_;exact m135_
      ·have n0:(s[k].toNat:Int)=9:=n6_
       have t32:((s[k].toNat:Int)==32)=false:=n5_;have t9:((s[k].toNat:Int)==9)=true:=n5_;have t127:((s[k].toNat:Int)==127)=false:=n5_;have t92:((s[k].toNat:Int)==92)=false:=n5_;have t39:((s[k].toNat:Int)==39)=false:=n5_;have t34:((s[k].toNat:Int)==34)=false:=n5_;have t9':=Yu t9;have h32:(s[k].toNat:Int)<32:=o_;exact m135_
     |back hx=>
      have n0:(s[k].toNat:Int)=92:=n6_;have t32:((s[k].toNat:Int)==32)=false:=n5_;have t9:((s[k].toNat:Int)==9)=false:=n5_;have t127:((s[k].toNat:Int)==127)=false:=n5_;have t92:((s[k].toNat:Int)==92)=true:=n5_;have t39:((s[k].toNat:Int)==39)=false:=n5_;have t34:((s[k].toNat:Int)==34)=false:=n5_;have t9':=Yu t9;have h32:(32:Int)<=s[k].toNat:=o_;have o1:Yj s[k]=false:=n6_;have o2:Zn s[k]=false:=n6_;have o3':(s[k]==92)=true:=n6_;have o4:ZC s[k]=false:=n6_;cases he:YR (s.data.toList.drop (k+1)) with
      |none=>
       exact m122_
      |some dn=>
       obtain ⟨d,n⟩:=dn;have e0:(ws++(some w0).toList).length=ws.length+1:=s_;rw [e0];have HO2:=h_ (show wr.ownsRow w.heap.size 9 1 (.slice oa (ws.length+1) cap) (ws.length+1) (Ze (ws++[w0])) by simpa using Hown.out);have hl3:ws.length<32:=n31_;clear e0 Hown;obtain ⟨g,rfl⟩:=ZX HO2.out;have HB2:=Hbel;have hwl:w0.length<=k:=hwk;have HR:=h_ (show Z8 f ws (some (w0++[d])) 34 (s.data.toList.drop (k+(n+1)))=res by
        rw [<-Hq.out,hdc];skip;simp only [Z8,o1,o2,o3',o4,he];simp [List.drop_drop];congr 2;omega)
       have hX:(⟨(w0).toArray⟩:ByteArray)++(⟨#[d]⟩:ByteArray)=⟨(w0++[d]).toArray⟩:=JJ w0 d;have HE:=h_ (show QF (s.data.toList.drop (k+1))=(d,n) by simp [QF,he]);have hle:=(JS he).2.1;rw [Y2] at hle;have hn1:=(JS he).1;have hn0:((n:Int)==0)=false:=n3_;clear he;have hesc:=Xz (s.extract (k+1) s.size) wr n2_;rw [Lib.extract_to_end s (k+1)] at hesc;obtain ⟨hset,hcell,hfro,hbg,hglt⟩:=ZU (xs:=Ze ws) (x:=.string ⟨(w0).toArray⟩) n22_ (.string ((⟨(w0).toArray⟩:ByteArray)++(⟨#[d]⟩:ByteArray)));have HS:=h_ (show (wr.setCell ⟨g,ws.length,none⟩ (.string ((⟨(w0).toArray⟩:ByteArray)++(⟨#[d]⟩:ByteArray)))).ownsRow w.heap.size 9 1 (.slice (some ⟨g,0,none⟩) (ws.length+1) cap) (ws.length+1) (Ze (ws++[w0++[d]])) by
        rw [Zm,<-hX];exact hset)
       have HB3:=h_ (HB2.out.setCell (p:=⟨g,ws.length,none⟩) hbg (.string ((⟨(w0).toArray⟩:ByteArray)++(⟨#[d]⟩:ByteArray))));have hA:=fun (j:Nat) (o:Obj)=>ZU (w:=(wr.drewN j).alloc o) (xs:=Ze ws) (x:=.string ⟨(w0).toArray⟩) n23_ (.string ((⟨(w0).toArray⟩:ByteArray)++(⟨#[d]⟩:ByteArray)))
       have hcl:=fun (j:Nat) (o:Obj)=>(hA j o).2.1
       have hfl:=fun (j:Nat) (o:Obj)=>(hA j o).2.2.1
       have HSA:=h_ (fun (j:Nat) (o:Obj)=>(hA j o).1);have HBA:=h_ (fun (j:Nat) (o:Obj)=>(Below.setCell ((below_drewN' HB2.out j).alloc (show w.heap.size<=(wr.drewN j).heap.size from HB2.out.size) o) (p:=⟨g,ws.length,none⟩) hbg (.string ((⟨(w0).toArray⟩:ByteArray)++(⟨#[d]⟩:ByteArray)))));clear hA;clear hset hX hbg;clear hdc n0;have HX0:=h_ hx;clear hx;have HC:=h_ hesc;clear hesc;have hk1:(k:Int)+1<=(s.size:Int):=o_;have hcv:=fun (j:Nat)=>ZmO (wr.drewN j) wr.heap.size rfl d
       go_wp2_with fail;refine HC.out.mono ?_;rw [HE.out];rintro e w' ⟨rfl,m,rfl⟩;go_wp2_with fail;go_region;go_wp2_with fail;go_roundg f
       case measure=>omega
       case rel=>
        have e2:((k:Int)+n+1)=((k+(n+1):Nat):Int):=o_;rw [e2];exact AtR.word (k':=k+(n+1)) ws (w0++[d]) 34 rfl o_ o_ HR.out hl3 d_ n70_ n73_ n50_
     |quote hx=>
      rcases hx with hx|hx
      ·have n0:(s[k].toNat:Int)=39:=n6_
       have t32:((s[k].toNat:Int)==32)=false:=n5_;have t9:((s[k].toNat:Int)==9)=false:=n5_;have t127:((s[k].toNat:Int)==127)=false:=n5_;have t92:((s[k].toNat:Int)==92)=false:=n5_;have t39:((s[k].toNat:Int)==39)=true:=n5_;have t34:((s[k].toNat:Int)==34)=false:=n5_;have t9':=Yu t9;have h32:(32:Int)<=s[k].toNat:=o_;have o1:Yj s[k]=false:=n6_;have o2:Zn s[k]=false:=n6_;have o3':(s[k]==92)=false:=n6_;have o4:ZC s[k]=true:=n6_;exact m119_
      ·have n0:(s[k].toNat:Int)=34:=n6_
       have t32:((s[k].toNat:Int)==32)=false:=n5_;have t9:((s[k].toNat:Int)==9)=false:=n5_;have t127:((s[k].toNat:Int)==127)=false:=n5_;have t92:((s[k].toNat:Int)==92)=false:=n5_;have t39:((s[k].toNat:Int)==39)=false:=n5_;have t34:((s[k].toNat:Int)==34)=true:=n5_;have t9':=Yu t9;have h32:(32:Int)<=s[k].toNat:=o_;have o1:Yj s[k]=false:=n6_;have o2:Zn s[k]=false:=n6_;have o3':(s[k]==92)=false:=n6_;have o4:ZC s[k]=true:=n6_;have e0:(ws++(some w0).toList).length=ws.length+1:=s_;rw [e0];have HO2:=h_ (show wr.ownsRow w.heap.size 9 1 (.slice oa (ws.length+1) cap) (ws.length+1) (Ze (ws++[w0])) by simpa using Hown.out);have hl3:ws.length<32:=n31_;clear e0 Hown;obtain ⟨g,rfl⟩:=ZX HO2.out;have HB2:=Hbel;have hwl:w0.length<=k:=hwk;have HR:=h_ (show Z8 f ws (some w0) 0 (s.data.toList.drop (k+1))=res by
        rw [<-Hq.out,hdc];skip;have eqq:(s[k]==(34:UInt8))=true:=n6_;simp only [Z8,o1,o2,o3',o4,eqq];simp)
       exact m128_
     |other ho=>
      obtain ⟨tst,h32⟩:=Zcx ho;obtain ⟨t32,t9,t127,t92,t39,t34⟩:=tst;have t9':=Yu t9;obtain ⟨o1,o2,o3,o4⟩:=ho;have o3':(s[k]==92)=false:=by simpa using o3
      have e0:(ws++(some w0).toList).length=ws.length+1:=s_;rw [e0];have HO2:=h_ (show wr.ownsRow w.heap.size 9 1 (.slice oa (ws.length+1) cap) (ws.length+1) (Ze (ws++[w0])) by simpa using Hown.out);have hl3:ws.length<32:=n31_;clear e0 Hown;obtain ⟨g,rfl⟩:=ZX HO2.out;have HB2:=Hbel;have hwl:w0.length<=k:=hwk;have HR:=h_ (show Z8 f ws (some (w0++[s[k]])) 34 (s.data.toList.drop (k+1))=res by
       rw [<-Hq.out,hdc];skip;have eqq:(s[k]==(34:UInt8))=false:=by rw [QG];exact t34
       simp only [Z8,o1,o2,o3',o4,eqq];simp)
      have hX:(⟨(w0).toArray⟩:ByteArray)++s.extract k (k+1)=⟨(w0++[s[k]]).toArray⟩:=X9 w0 s k hlt;have hk1:(k:Int)+1<=(s.size:Int):=o_;obtain ⟨hset,hcell,hfro,hbg,hglt⟩:=ZU (xs:=Ze ws) (x:=.string ⟨(w0).toArray⟩) n22_ (.string ((⟨(w0).toArray⟩:ByteArray)++s.extract k (k+1)));have HS:=h_ (show (wr.setCell ⟨g,ws.length,none⟩ (.string ((⟨(w0).toArray⟩:ByteArray)++s.extract k (k+1)))).ownsRow w.heap.size 9 1 (.slice (some ⟨g,0,none⟩) (ws.length+1) cap) (ws.length+1) (Ze (ws++[w0++[s[k]]])) by
       rw [Zm,<-hX];exact hset)
      have HB3:=h_ (HB2.out.setCell (p:=⟨g,ws.length,none⟩) hbg (.string ((⟨(w0).toArray⟩:ByteArray)++s.extract k (k+1))));clear hset hX hbg;clear hdc;exact m132_
  ·have hke:k=s.size:=o_
   rcases hqq with rfl|⟨rfl|rfl,hcs⟩
   ·cases cur with
    |none=>
     have hdn:s.data.toList.drop k=[]:=by
      exact m134_
     have HR:=h_ (show res=(.ok (ws)) by
      rw [<-Hq.out,hdn];simp [Z8])
     clear hdn;have e0:(ws++(none:Option Str).toList).length=(ws).length:=s_;have HO:=h_ (show wr.ownsRow w.heap.size 9 1 (.slice oa (ws).length cap) (ws).length (Ze (ws)) by simpa using Hown.out);exact m129_
    |some w0=>
     have hdn:s.data.toList.drop k=[]:=by
      exact m134_
     have HR:=h_ (show res=(.ok (ws++[w0])) by
      rw [<-Hq.out,hdn];simp [Z8])
     clear hdn;have e0:(ws++(some w0:Option Str).toList).length=(ws++[w0]).length:=s_;have HO:=h_ (show wr.ownsRow w.heap.size 9 1 (.slice oa (ws++[w0]).length cap) (ws++[w0]).length (Ze (ws++[w0])) by simpa using Hown.out);exact m129_
   ·exact m127_
   ·exact m127_
end Go.Proofs.YtgoooebfhdbbkaaGreatDoor
