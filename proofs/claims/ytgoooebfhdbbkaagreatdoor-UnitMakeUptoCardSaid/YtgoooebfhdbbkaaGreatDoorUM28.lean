import Derived.Deep.LoopGhost
import Derived.Test.YtgoooebfhdbbkaaGreatDoorUM4
import Derived.Test.YtgoooebfhdbbkaaGreatDoorUM8
import Derived.Test.YtgoooebfhdbbkaaGreatDoorUM9
import Derived.Test.YtgoooebfhdbbkaaGreatDoorUM11
namespace Go.Proofs.YtgoooebfhdbbkaaGreatDoor
set_option linter.unusedVariables false
set_option linter.unusedSimpArgs false
set_option maxHeartbeats 16000000
def ZbR(p:UInt8->Bool):Str->Str->List Str
 |[],cur=>if cur.isEmpty then [] else [cur]
 |c::t,cur=>if p c=true then (if cur.isEmpty then ZbR p t [] else cur::ZbR p t []) else ZbR p t (cur++[c])
theorem Yd(by_:Str)(h:by_=[32]):∀(s cur:Str),ZbR (fun c=>by_.contains c) s cur=Za5 s cur
 |[],cur=>rfl
 |c::t,cur=>by
  have h1:=Yd by_ h t [];have h2:=Yd by_ h t (cur++[c]);unfold ZbR Za5;by_cases hc:c=32
  ·subst hc
   rw [if_pos (by simp [h]),if_pos rfl,h1]
  ·rw [if_neg (by simp [h,hc]),if_neg hc,h2]
def Zhg(cur:Str):List Str:=if cur.isEmpty then [] else [cur]
theorem ZoS(p:UInt8->Bool)(c:UInt8)(t cur:Str)(h:p c=true):ZbR p (c::t) cur=Zhg cur++ZbR p t []:=by
 rw [ZbR,if_pos h];unfold Zhg;split<;>simp
theorem Zqc(p:UInt8->Bool)(c:UInt8)(t cur:Str)(h:p c=false):ZbR p (c::t) cur=ZbR p t (cur++[c]):=by
 rw [ZbR,if_neg (by simp [h])]
open Go.Proofs.Tryz
open Go Go.RowKit
set_option maxRecDepth 100000
theorem m102_{p:Prop}(h:p:=by
  cases cur with
  |nil=>
   have HR2:=h_ (show done=rows from by have h:=HD2.out;simpa [Zhg] using h);go_wp2_with fail;go_roundg 1
   case measure=>omega
   case rel=>exact ⟨s.size+1,done,[],o_,n14_,rfl,o_,o_,s_,HO2,fun h=>by omega,fun _=>HR2.out,HB2⟩
  |cons a t=>
   have hsz:(⟨(a::t).toArray⟩:ByteArray).size≠0:=n29_;obtain ⟨n1,n2,n3,n4⟩:=QX hsz;have HR2:=h_ (show done++[a::t]=rows from by have h:=HD2.out;simpa [Zhg] using h);have HXS:=h_ (show (⟨(a::t).toArray⟩:ByteArray).data.toList=a::t from rfl);generalize (⟨(a::t).toArray⟩:ByteArray)=X at *;have hown0:=HO2.out;have hsz2:=HB2.out.size;go_wp2_with (at_builtin;refine wpList_append_own _ rfl _ _ 28 rfl w.heap.size 9 i0 (.string ⟨#[]⟩) 1 16 underlying28 hi hz0 hz1 hz2 rfl d_ _ _ _ rfl (hown0.alloc _) ⟨wx.heap.size,0,none⟩ 1 1 [.string X] rfl rfl n38_ n30_ n20_ o_ n2_ ?_);intro v' w3 hown' hgrow hnil;have HB3:=h_ ((HB2.out.alloc hsz2 _).grown hgrow n2_ (fun g hg=>(hown0.lt g hg).1));have HO3:=h_ (show w3.ownsRow w.heap.size 9 1 v' (done++[a::t]).length (Ze (done++[a::t])) by
    rw [Zm,List.length_append,<-HXS.out];exact hown')
   clear hgrow hnil hown' hown0 HO2 HB2;go_wp2_with fail;go_roundg 1
   case measure=>omega
   case rel=>exact ⟨s.size+1,done++[a::t],[],o_,n14_,rfl,o_,n2_,s_,HO3,fun h=>by omega,fun _=>HR2.out,HB3⟩):p:=h
theorem m103_{p:Prop}(h:p:=by
  go_wp2_with fail;go_quiet (fail);go_wp2;go_roundg (b.size-n)
  case measure=>omega
  case rel=>exact ⟨n+1,true,_,o_,n14_,rfl,o_,rfl,by simpa using HG2⟩):p:=h
theorem Zka:(prog.info? 9).map (fun i=>(i.zero,i.size,i.bytes))=some (some (.string ⟨#[]⟩),1,16):=k_
def YJ(w:World)(rows:List Str)(e:Ending)(w':World):Prop:=
 Below w.heap.size w w'/\∃v,e=.returned v/\w'.ownsRow w.heap.size 9 1 v rows.length (Ze rows)
theorem Zi8(cur:Str)(s:ByteArray)(k:Nat)(h:k<s.size):(⟨cur.toArray⟩:ByteArray)++s.extract k (k+1)=⟨(cur++[s[k]]).toArray⟩:=by
 apply Yb;rw [ByteArray.data_append,Array.toList_append,Lib.extract_data,drop_cons s k h,show k+1-k=1 by omega];simp
theorem Zn7(b:ByteArray)(n:Nat)(h:n<b.size)(c:UInt8):(b.data.toList.take (n+1)).contains c=((b.data.toList.take n).contains c||(c==b[n])):=by
 have h':n<b.data.toList.length:=n60_;rw [List.take_succ_eq_append_getElem h']
 have:b.data.toList[n]=b[n]:=by simp;rfl
 rw [this];rw [Bool.eq_iff_iff];simp
theorem ZaS(a b:ByteArray)(h:a.size+b.size<4611686018427387904):Op.stringOp .add a b=pure (.string (a++b)):=by
 have:¬((a.size+b.size:Nat):Int)>IntKind.i64.max:=n74_
 simp only [Op.stringOp,if_neg this]
theorem ZN(s b:ByteArray)(w:World)(hs:s.size<=1000000000)(hb:b.size<=1000000)(rows:List Str)(hrows:ZbR (fun c=>b.data.toList.contains c) s.data.toList []=rows) :
  Calls prog 35 #[.string s,.string b] w fun e w'=>YJ w rows e w':=by
 have HRows:=h_ hrows;clear hrows;obtain ⟨i0,hi,hz0,hz1,hz2⟩:=info_parts Zka;go_enter func35,ntmps35;go_wp2_with fail;go_loopg [5,6,7] (s.size+2) (fun f v wd i wr=>∃(k:Nat) (done:List Str) (cur:Str),k<=s.size+1/\i=.int .i64 k/\wd=.string ⟨cur.toArray⟩/\s.size+1-k<f/\done.length<=k/\cur.length<=k/\Hid (wr.ownsRow w.heap.size 9 1 v done.length (Ze done))/\
  Hid (k<=s.size->done++ZbR (fun c=>b.data.toList.contains c) (s.data.toList.drop k) cur=rows)/\Hid (k=s.size+1->done=rows)/\Hid (Below w.heap.size w wr))
 case atStart=>exact ⟨0,[],[],o_,rfl,rfl,o_,s_,s_,World.ownsRow_nil _ _ _ _,fun _=>by rw [List.drop_zero];exact HRows.out,fun h=>by omega,Below.refl _ _⟩
 case round=>
  obtain ⟨k,done,cur,hk,rfl,rfl,hfu,hdl,hcl,Hown,Hq,Hn,HB⟩:=hrel;obtain ⟨oa,cap,rfl⟩:=ownsRow_form Hown.out;have hlen:s.data.toList.length=s.size:=s_;by_cases hle:k<=s.size
  ·have hz:(k:Int)<=(s.size:Int):=o_
   by_cases hlt:k<s.size
   ·have hne:((k:Int)==(s.size:Int))=false:=n2_
    have hltz:(k:Int)<(s.size:Int):=o_;obtain ⟨c,hc⟩:=e_ (s[k]);have hd:s.data.toList.drop k=c::s.data.toList.drop (k+1):=by rw [hc];exact drop_cons s k hlt
    have HD:=h_ (Hq.out hle);have HC:=h_ hc;clear Hq Hn hc;rw [hd] at HD;go_wp2_with fail;go_loopg [8,9] (b.size+1) (fun f ap j wx=>∃(n:Nat) (g:Bool) (m:Nat),n<=b.size/\j=.int .i64 n/\ap=.bool g/\b.size-n<f/\wx=wr.drewN m/\Hid (g=(b.data.toList.take n).contains c))
    case atStart=>exact ⟨0,false,0,o_,rfl,rfl,o_,rfl,rfl⟩
    case round=>
     obtain ⟨n,g,m,hn,rfl,rfl,hfu2,rfl,HG⟩:=hrel;by_cases hln:n<b.size
     ·have hlnz:(n:Int)<(b.size:Int):=o_
      have e1:((s[k].toNat:Int)==(b[n].toNat:Int))=(c==b[n]):=by rw [HC.out,QG]
      have HG2:=h_ (show (g||(c==b[n]))=(b.data.toList.take (n+1)).contains c by rw [Zn7 b n hln,HG.out]);clear HD HG hd;cases g with
      |true=>
       exact m103_
      |false=>
       cases hq:(c==b[n]) with
       |true=>
        rw [hq] at e1 HG2;exact m103_
       |false=>
        rw [hq] at e1 HG2;go_wp2_with fail;go_quiet (fail);go_wp2;go_roundg (b.size-n)
        case measure=>omega
        case rel=>exact ⟨n+1,false,_,o_,n14_,rfl,o_,rfl,by simpa using HG2⟩
     ·have hlnz:¬((n:Int)<(b.size:Int)):=o_
      obtain rfl:n=b.size:=o_;have HG2:=h_ (show g=b.data.toList.contains c by rw [HG.out,List.take_of_length_le s_]);have HB2:=h_ (HB.out.trans (show Below w.heap.size wr (wr.drewN m) from Zb ⟨m,rfl⟩));have HO2:=h_ (show (wr.drewN m).ownsRow w.heap.size 9 1 (.slice oa done.length cap) done.length (Ze done) from Hown.out);clear HG HB Hown hd;generalize wr.drewN m=w2 at *;cases g with
      |false=>
       have HD2:=h_ (show done++ZbR (fun c=>b.data.toList.contains c) (s.data.toList.drop (k+1)) (cur++[c])=rows by rw [<-HD.out,Zqc _ _ _ _ HG2.out.symm]);have HX:=h_ (Zi8 cur s k hlt);have hcat:=ZaS (⟨cur.toArray⟩:ByteArray) (s.extract k (k+1)) (by
        have:(⟨cur.toArray⟩:ByteArray).size=cur.length:=n29_
        have h2:(s.extract k (k+1)).size<=s.size:=n2_;omega)
       clear HD;go_wp2_with fail;go_roundg (s.size+1-(k+1)+1)
       case measure=>omega
       case rel=>exact ⟨k+1,done,cur++[c],o_,n14_,by rw [HX.out,<-HC.out],o_,o_,n2_,HO2,fun _=>HD2.out,fun h=>by omega,HB2⟩
      |true=>
       have HD2:=h_ (show done++Zhg cur++ZbR (fun c=>b.data.toList.contains c) (s.data.toList.drop (k+1)) []=rows by rw [<-HD.out,ZoS _ _ _ _ HG2.out.symm,List.append_assoc]);clear HD;cases cur with
       |nil=>
        have HR2:=h_ (show done++ZbR (fun c=>b.data.toList.contains c) (s.data.toList.drop (k+1)) []=rows from by have h:=HD2.out;simpa [Zhg] using h);go_wp2_with fail;go_roundg (s.size+1-(k+1)+1)
        case measure=>omega
        case rel=>exact ⟨k+1,done,[],o_,n14_,rfl,o_,o_,s_,HO2,fun _=>HR2.out,fun h=>by omega,HB2⟩
       |cons a t=>
        have hsz:(⟨(a::t).toArray⟩:ByteArray).size≠0:=n29_;obtain ⟨n1,n2,n3,n4⟩:=QX hsz;have HR2:=h_ (show done++[a::t]++ZbR (fun c=>b.data.toList.contains c) (s.data.toList.drop (k+1)) []=rows from by have h:=HD2.out;simpa [Zhg] using h);have HXS:=h_ (show (⟨(a::t).toArray⟩:ByteArray).data.toList=a::t from rfl);generalize (⟨(a::t).toArray⟩:ByteArray)=X at *;have hown0:=HO2.out;have hsz2:=HB2.out.size;go_wp2_with (at_builtin;refine wpList_append_own _ rfl _ _ 28 rfl w.heap.size 9 i0 (.string ⟨#[]⟩) 1 16 underlying28 hi hz0 hz1 hz2 rfl d_ _ _ _ rfl (hown0.alloc _) ⟨w2.heap.size,0,none⟩ 1 1 [.string X] rfl rfl n38_ n30_ n20_ o_ n2_ ?_);intro v' w3 hown' hgrow hnil;have HB3:=h_ ((HB2.out.alloc hsz2 _).grown hgrow n2_ (fun g hg=>(hown0.lt g hg).1));have HO3:=h_ (show w3.ownsRow w.heap.size 9 1 v' (done++[a::t]).length (Ze (done++[a::t])) by
         rw [Zm,List.length_append,<-HXS.out];exact hown')
        clear hgrow hnil hown' hown0 HO2 HB2;go_wp2_with fail;go_roundg (s.size+1-(k+1)+1)
        case measure=>omega
        case rel=>exact ⟨k+1,done++[a::t],[],o_,n14_,rfl,o_,n2_,s_,HO3,fun _=>HR2.out,fun h=>by omega,HB3⟩
   ·have hltz:¬((k:Int)<(s.size:Int)):=o_
    obtain rfl:k=s.size:=o_;have HD2:=h_ (show done++Zhg cur=rows by
     have h:=Hq.out l_;rw [List.drop_eq_nil_of_le s_] at h;exact h)
    have HO2:=h_ Hown.out;have HB2:=h_ HB.out;clear Hq Hn Hown HB hlt hle;go_wp2_with fail;go_loopg [8,9] 2 (fun f ap j wx=>ap=.bool true/\j=.int .i64 0/\wx=wr/\0<f)
    case atStart=>exact ⟨rfl,rfl,rfl,o_⟩
    case round=>
     obtain ⟨rfl,rfl,rfl,hf0⟩:=hrel;obtain ⟨wx,hwx⟩:=e_ wr;subst hwx;by_cases hb0:0<b.size
     ·have hb1:(0:Int)<(b.size:Int):=o_
      exact m102_
     ·have hb1:¬((0:Int)<(b.size:Int)):=o_
      exact m102_
  ·have hz:¬((k:Int)<=(s.size:Int)):=o_
   have HR:=h_ (Hn.out o_);clear Hq Hn;go_wp2_with fail;go_ret;exact ⟨HB.out,_,rfl,by rw [<-HR.out];exact Hown.out⟩
theorem m223_{p:Prop}(h:p:=by go_enter func168,ntmps168;go_wp2_with fail;go_ret;exact ⟨rfl,rfl⟩):p:=h
def ZiN(s:Str):Int:=if s==ZI then 2 else if s==YZ then 4 else if s==XI then 8 else 30
theorem ZlV(s:Str)(w:World)(r:Int)(hr:ZiN s=r):Calls prog 168 #[.string ⟨s.toArray⟩] w fun e w'=>e=.returned (.int .i64 r)/\w'=w:=by
 unfold ZiN at hr;cases h1:(s==ZI) with
 |true=>
  rw [h1] at hr;obtain rfl:(2:Int)=r:=hr;exact m223_
 |false=>
  rw [h1] at hr;cases h2:(s==YZ) with
  |true=>
   rw [h2] at hr;obtain rfl:(4:Int)=r:=hr;exact m223_
  |false=>
   rw [h2] at hr;cases h3:(s==XI) with
   |true=>
    rw [h3] at hr;obtain rfl:(8:Int)=r:=hr;exact m223_
   |false=>
    rw [h3] at hr;obtain rfl:(30:Int)=r:=hr;exact m223_
theorem Zh1{w:World}{B B' e size n:Nat}{v:Value}{xs:List Value}(h:w.ownsRow B e size v n xs)(hB:B'<=B):w.ownsRow B' e size v n xs:=by
 refine ⟨h.1,?_⟩;rcases h.2 with hn|⟨g,cap,cur,rfl,hb,rest⟩
 ·exact .inl hn
 ·exact .inr ⟨g,cap,cur,rfl,Nat.le_trans hB hb,rest⟩
theorem Znd{α:Type}(l:List α)(k:Nat)(h:k<l.length):l.take (k+1)=l.take k++[l[k]]:=List.take_succ_eq_append_getElem h
theorem Yo(sec names:Str)(form:Int)(list:Bool)(ns:List Str)(w:World)(hns:Zc names=ns)(hl:names.length<=1000000)(kd:Int)(hkd:ZiN sec=kd) :
  Calls prog 127 #[.string ⟨sec.toArray⟩,.string ⟨names.toArray⟩,.int .i64 form,.bool list] w fun e w'=>∃v,e=.returned v/\w'.ownsRow w.heap.size 66 6 v ns.length (Zy Zv (ns.map (YM sec kd form list)))/\Below w.heap.size w w':=by
 obtain ⟨i0,hi0,hz0,hz1,hz2⟩:=info_parts ZdR;have hnl:ns.length<=1000001:=by
  have:=Z4 names []
  rw [<-hns];unfold Zc;omega
 have HBK:=h_ (ZN ⟨names.toArray⟩ ⟨#[32]⟩ w (by show names.toArray.size<=_;simp;omega) d_ ns (by rw [<-hns];exact Yd [32] rfl names []));have HKD:=h_ (fun W=>ZlV sec W kd hkd);clear hns hkd;go_enter func127,ntmps127;go_wp2_with fail;refine HBK.out.mono ?_;rintro e w1 ⟨hb1,v,rfl,hown⟩;obtain ⟨oa,cap,rfl,hrow⟩:=ZlH hown;have HB1:=h_ hb1;have HR:=h_ hrow;clear hb1 hrow hown HBK;go_wp2_with fail;go_loopg [9,15] (ns.length+1) (fun f v i wr=>∃k:Nat,k<=ns.length/\i=.int .i64 k/\ns.length-k<f/\Hid (wr.ownsRow w1.heap.size 66 6 v k (Zy Zv ((ns.take k).map (YM sec kd form list))))/\Hid (Below w1.heap.size w1 wr))
 case atStart=>exact ⟨0,o_,rfl,o_,World.ownsRow_nil _ _ _ _,Below.refl _ _⟩
 case round=>
  obtain ⟨k,hk,rfl,hfu,Hown,HB⟩:=hrel;obtain ⟨oa2,cap2,rfl⟩:=ownsRow_form Hown.out;by_cases hlt:k<ns.length
  ·have hz:(k:Int)<(ns.length:Int):=o_
   obtain ⟨n,hn⟩:=e_ (ns[k]);obtain ⟨b,o,rfl,d0⟩:=(HR.out.below HB.out) k hlt;rw [<-hn] at d0;have HS:=h_ (show (ns.take (k+1)).map (YM sec kd form list)=(ns.take k).map (YM sec kd form list)++[YM sec kd form list n] by rw [Znd ns k hlt,List.map_append,hn];rfl);clear hn;let W1:=wr.alloc (.cells (Zv (YM sec kd form list n)).toArray 66);have hB1:Below wr.heap.size wr W1:=b_.alloc l_ _;have hbl:=ZB.of_own (enc:=Zv) (k:=6) (l:=[YM sec kd form list n]) (oa:=some ⟨wr.heap.size,0,none⟩) (cap:=1) (fun _=>rfl) (ZgB wr (.string ⟨sec.toArray⟩) (.string ⟨n.toArray⟩) (.int .i64 form) (.bool list) (.int .i64 kd) (.slice none 0 0) 66);obtain ⟨v',w3,hrun,hown3,hgrow⟩:=Xu (P:=prog) w1.heap.size 98 98 66 i0 (.agg #[.string ⟨#[]⟩,.string ⟨#[]⟩,.int .i64 0,.bool false,.int .i64 0,.slice none 0 0]) 6 80 underlying98 hi0 hz0 hz1 hz2 n19_ d_ _ _ _ (Zp Hown.out hB1) (some ⟨wr.heap.size,0,none⟩) 1 1 (Zy Zv [YM sec kd form list n]) rfl (ZB.flat (enc:=Zv) (k:=6) (fun _=>rfl) o_ hbl) (XC ZdG _) n20_ o_ (Nat.le_trans HB.out.size hB1.size);have HRUN:=h_ hrun;have HB3:=h_ ((HB.out.trans (hB1.mono HB.out.size)).grown hgrow (Nat.le_trans HB.out.size hB1.size) (fun g hg=>(Hown.out.lt g hg).1));have HO3:=h_ (show w3.ownsRow w1.heap.size 66 6 v' (k+1) (Zy Zv ((ns.take (k+1)).map (YM sec kd form list))) by rw [HS.out,ZH];exact hown3);obtain ⟨oa3,cap3,rfl⟩:=ownsRow_form HO3.out;clear hrun hown3 hgrow hbl hB1 HS;unfold Zv YM at *;go_wp2_with fail;refine (HKD.out _).mono ?_;rintro e w2 ⟨rfl,rfl⟩;go_wp2_with (at_builtin;refine wpList_append_run rfl _ _ 98 rfl HRUN.out rfl rfl ?_);go_roundg (ns.length-k)
   case measure=>omega
   case rel=>exact ⟨k+1,o_,n14_,o_,HO3,HB3⟩
  ·have hz:¬((k:Int)<(ns.length:Int)):=o_
   obtain rfl:k=ns.length:=o_;have HO:=h_ (show wr.ownsRow w1.heap.size 66 6 (.slice oa2 ns.length cap2) ns.length (Zy Zv (ns.map (YM sec kd form list))) by
    have h:=Hown.out;rw [List.take_length] at h;exact h)
   clear Hown;go_wp2_with fail;go_ret;exact ⟨_,rfl,Zh1 HO.out HB1.out.size,HB1.out.trans (HB.out.mono HB1.out.size)⟩
theorem ZeN(sec name words:Str)(ws:List Str)(w:World)(hn1:Zc name=[name])(hws:Zc words=ws)(hl:name.length<=1000000)(hl2:words.length<=1000000)(kd:Int)(hkd:ZiN sec=kd) :
  Calls prog 128 #[.string ⟨sec.toArray⟩,.string ⟨name.toArray⟩,.string ⟨words.toArray⟩] w fun e w'=>∃v wa wc,e=.returned v/\w'.ownsRow w.heap.size 66 6 v 1 (Zy Zv [⟨sec,name,10,false,kd,wa,ws.length,wc⟩])/\
   w'.ownsRow w.heap.size 9 1 (.slice wa ws.length wc) ws.length (Ze ws)/\Below w.heap.size w w':=by
 have HR:=h_ (Yo sec name 10 false [name] w hn1 hl kd hkd);have HBK:=h_ (fun W=>ZN ⟨words.toArray⟩ ⟨#[32]⟩ W (by show words.toArray.size<=_;simp;omega) d_ ws (by rw [<-hws];exact Yd [32] rfl words []));clear hn1 hws hkd;go_enter func128,ntmps128;go_wp2_with fail;refine HR.out.mono ?_;rintro e w1 ⟨v,rfl,hown,hb1⟩;obtain ⟨g,cap,rfl,-,-,-⟩:=Zhk hown s_;have HO:=h_ hown;have HB1:=h_ hb1;clear hown hb1 HR;go_wp2_with fail;refine (HBK.out w1).mono ?_;rintro e w2 ⟨hb2,v2,rfl,hown2⟩;obtain ⟨wa,wc,rfl⟩:=ownsRow_form hown2;have ho:=Zp HO.out hb2;obtain ⟨hset,⟨x5,hx5⟩,hf5,hg1,hg2,⟨s5,hs5⟩⟩:=ZcW ho 5 (by simp [Zy,Zv]) (.slice wa ws.length wc);have HS:=h_ hset;have HO2:=h_ (show (w2.setCell ⟨g,5,none⟩ (.slice wa ws.length wc)).ownsRow w.heap.size 9 1 (.slice wa ws.length wc) ws.length (Ze ws) from
  ZJ (M:=fun k=>k=g) (Zh1 hown2 HB1.out.size) (Fr.setCell (M:=fun k=>k=g) (p:=⟨g,5,none⟩) (Fr.refl _ _) (fun _=>rfl) _) (fun k hk hr=>by
   rintro rfl;have h3:=(ZaH ho) k rfl;obtain ⟨_,cs,fz,h4⟩:=h3;obtain ⟨cs2,fz2,h5⟩:=hr;rw [h4] at h5;simp at h5))
 have HB2:=h_ ((HB1.out.trans (hb2.mono HB1.out.size)).setCell (p:=⟨g,5,none⟩) hg1 (.slice wa ws.length wc));clear hset ho hown2 hb2 HO HB1 HBK;go_wp2_with fail;go_ret;exact ⟨.slice (some ⟨g,0,none⟩) 1 cap,wa,wc,rfl,HS.out,HO2.out,HB2.out⟩
end Go.Proofs.YtgoooebfhdbbkaaGreatDoor
