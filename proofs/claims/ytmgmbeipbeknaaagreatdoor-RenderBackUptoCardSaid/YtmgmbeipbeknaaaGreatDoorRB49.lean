import Derived.Deep.LoopGhost
import Derived.Test.YtmgmbeipbeknaaaGreatDoorRB2
import Derived.Test.YtmgmbeipbeknaaaGreatDoorRB8
import Derived.Test.YtmgmbeipbeknaaaGreatDoorRB9
import Derived.Test.YtmgmbeipbeknaaaGreatDoorRB11
namespace Go.Proofs.YtmgmbeipbeknaaaGreatDoor
set_option linter.all false
set_option maxHeartbeats 16000000
def ZcV(p:UInt8->Bool):Str->Str->List Str
 |[],cur=>if cur.isEmpty then [] else [cur]
 |c::t,cur=>if p c=true then (if cur.isEmpty then ZcV p t [] else cur::ZcV p t []) else ZcV p t (cur++[c])
theorem Zfd(by_:Str)(h:by_=[32]):∀(s cur:Str),ZcV (fun c=>by_.contains c) s cur=Jy s cur
 |[],cur=>rfl
 |c::t,cur=>by
  have h1:=Zfd by_ h t [];have h2:=Zfd by_ h t (cur++[c]);unfold ZcV Jy;by_cases hc:c=32
  ·subst hc
   rw [if_pos (by simp [h]),if_pos rfl,h1]
  ·rw [if_neg (by simp [h,hc]),if_neg hc,h2]
def Zjc(cur:Str):List Str:=if cur.isEmpty then [] else [cur]
theorem ZsW(p:UInt8->Bool)(c:UInt8)(t cur:Str)(h:p c=true):ZcV p (c::t) cur=Zjc cur++ZcV p t []:=by
 rw [ZcV,if_pos h];unfold Zjc;split<;>simp
theorem Zt0(p:UInt8->Bool)(c:UInt8)(t cur:Str)(h:p c=false):ZcV p (c::t) cur=ZcV p t (cur++[c]):=by
 rw [ZcV,if_neg (by simp [h])]
open Go.Proofs.Tryz
open Go Go.RowKit
set_option maxRecDepth 100000
theorem m177_{p:Prop}(h:p:=by
  cases cur with
  |nil=>
   have HR2:=h_ (show done=rows from by have h:=HD2.out;simpa [Zjc] using h);go_wp2_with fail;go_roundg 1
   case measure=>omega
   case rel=>exact ⟨s.size+1,done,[],o_,n9_,rfl,o_,o_,s_,HO2,fun h=>by omega,fun _=>HR2.out,HB2⟩
  |cons a t=>
   have hsz:(⟨(a::t).toArray⟩:ByteArray).size≠0:=n17_;obtain ⟨n1,n2,n3,n4⟩:=Xo hsz;have HR2:=h_ (show done++[a::t]=rows from by have h:=HD2.out;simpa [Zjc] using h);have HXS:=h_ (show (⟨(a::t).toArray⟩:ByteArray).data.toList=a::t from rfl);generalize (⟨(a::t).toArray⟩:ByteArray)=X at *;have hown0:=HO2.out;have hsz2:=HB2.out.size;go_wp2_with (at_builtin;refine wpList_append_own _ rfl _ _ 26 rfl w.heap.size 9 i0 (.string ⟨#[]⟩) 1 16 underlying26 hi hz0 hz1 hz2 rfl d_ _ _ _ rfl (hown0.alloc _) ⟨wx.heap.size,0,none⟩ 1 1 [.string X] rfl rfl (by exact cell_one_new _ _ _) n88_ n23_ o_ n6_ ?_);intro v' w3 hown' hgrow hnil;have HB3:=h_ ((HB2.out.alloc hsz2 _).grown hgrow n6_ (fun g hg=>(hown0.lt g hg).1));have HO3:=h_ (show w3.ownsRow w.heap.size 9 1 v' (done++[a::t]).length (Zh (done++[a::t])) by
    rw [Xc,c5_,<-HXS.out];exact hown')
   clear hgrow hnil hown' hown0 HO2 HB2;go_wp2_with fail;go_roundg 1
   case measure=>omega
   case rel=>exact ⟨s.size+1,done++[a::t],[],o_,n9_,rfl,o_,n6_,s_,HO3,fun h=>by omega,fun _=>HR2.out,HB3⟩):p:=h
theorem m178_{p:Prop}(h:p:=by
  go_wp2_with fail;go_quiet (fail);go_wp2;go_roundg (b.size-n)
  case measure=>omega
  case rel=>exact ⟨n+1,true,_,o_,n9_,rfl,o_,rfl,by simpa using HG2⟩):p:=h
theorem Zsx:(prog.info? 9).map (fun i=>(i.zero,i.size,i.bytes))=some (some (.string ⟨#[]⟩),1,16):=k_
def Zub(w:World)(rows:List Str)(e:Ending)(w':World):Prop:=
 Below w.heap.size w w'/\∃v,e=.returned v/\w'.ownsRow w.heap.size 9 1 v rows.length (Zh rows)
theorem ZtI(cur:Str)(s:ByteArray)(k:Nat)(h:k<s.size):(⟨cur.toArray⟩:ByteArray)++s.extract k (k+1)=⟨(cur++[s[k]]).toArray⟩:=by
 apply Yu;rw [ByteArray.data_append,Array.toList_append,Lib.extract_data,drop_cons s k h,show k+1-k=1 by omega];simp
theorem Zqi(b:ByteArray)(n:Nat)(h:n<b.size)(c:UInt8):(b.data.toList.take (n+1)).contains c=((b.data.toList.take n).contains c||(c==b[n])):=by
 have h':n<b.data.toList.length:=n32_;rw [c4_ h']
 have:b.data.toList[n]=b[n]:=by simp;rfl
 rw [this];rw [Bool.eq_iff_iff];simp
theorem Zvh(a b:ByteArray)(h:a.size+b.size<4611686018427387904):Op.stringOp .add a b=pure (.string (a++b)):=by
 have:¬((a.size+b.size:Nat):Int)>IntKind.i64.max:=n58_
 simp only [Op.stringOp,if_neg this]
theorem Zf4(s b:ByteArray)(w:World)(hs:s.size<=1000000000)(hb:b.size<=1000000)(rows:List Str)(hrows:ZcV (fun c=>b.data.toList.contains c) s.data.toList []=rows) :
  Calls prog 113 #[.string s,.string b] w fun e w'=>Zub w rows e w':=by
 have HRows:=h_ hrows;clear hrows;obtain ⟨i0,hi,hz0,hz1,hz2⟩:=info_parts Zsx;go_enter func113,ntmps113;go_wp2_with fail;go_loopg [5,6,7] (s.size+2) (fun f v wd i wr=>∃(k:Nat) (done:List Str) (cur:Str),k<=s.size+1/\i=.int .i64 k/\wd=.string ⟨cur.toArray⟩/\s.size+1-k<f/\done.length<=k/\cur.length<=k/\Hid (wr.ownsRow w.heap.size 9 1 v done.length (Zh done))/\
  Hid (k<=s.size->done++ZcV (fun c=>b.data.toList.contains c) (s.data.toList.drop k) cur=rows)/\Hid (k=s.size+1->done=rows)/\Hid (Below w.heap.size w wr))
 case atStart=>exact ⟨0,[],[],o_,rfl,rfl,o_,s_,s_,World.ownsRow_nil _ _ _ _,fun _=>by rw [List.drop_zero];exact HRows.out,fun h=>by omega,Below.refl _ _⟩
 case round=>
  obtain ⟨k,done,cur,hk,rfl,rfl,hfu,hdl,hcl,Hown,Hq,Hn,HB⟩:=hrel;obtain ⟨oa,cap,rfl⟩:=ownsRow_form Hown.out;have hlen:s.data.toList.length=s.size:=s_;by_cases hle:k<=s.size
  ·have hz:(k:Int)<=(s.size:Int):=o_
   by_cases hlt:k<s.size
   ·have hne:((k:Int)==(s.size:Int))=false:=n6_
    have hltz:(k:Int)<(s.size:Int):=o_;obtain ⟨c,hc⟩:=e_ (s[k]);have hd:s.data.toList.drop k=c::s.data.toList.drop (k+1):=by rw [hc];exact drop_cons s k hlt
    have HD:=h_ (Hq.out hle);have HC:=h_ hc;clear Hq Hn hc;rw [hd] at HD;go_wp2_with fail;go_loopg [8,9] (b.size+1) (fun f ap j wx=>∃(n:Nat) (g:Bool) (m:Nat),n<=b.size/\j=.int .i64 n/\ap=.bool g/\b.size-n<f/\wx=wr.drewN m/\Hid (g=(b.data.toList.take n).contains c))
    case atStart=>exact ⟨0,false,0,o_,rfl,rfl,o_,rfl,rfl⟩
    case round=>
     obtain ⟨n,g,m,hn,rfl,rfl,hfu2,rfl,HG⟩:=hrel;by_cases hln:n<b.size
     ·have hlnz:(n:Int)<(b.size:Int):=o_
      have e1:((s[k].toNat:Int)==(b[n].toNat:Int))=(c==b[n]):=by rw [HC.out,Xn]
      have HG2:=h_ (show (g||(c==b[n]))=(b.data.toList.take (n+1)).contains c by rw [Zqi b n hln,HG.out]);clear HD HG hd;cases g with
      |true=>
       exact m178_
      |false=>
       cases hq:(c==b[n]) with
       |true=>
        rw [hq] at e1 HG2;exact m178_
       |false=>
        rw [hq] at e1 HG2;go_wp2_with fail;go_quiet (fail);go_wp2;go_roundg (b.size-n)
        case measure=>omega
        case rel=>exact ⟨n+1,false,_,o_,n9_,rfl,o_,rfl,by simpa using HG2⟩
     ·have hlnz:¬((n:Int)<(b.size:Int)):=o_
      obtain rfl:n=b.size:=o_;have HG2:=h_ (show g=b.data.toList.contains c by rw [HG.out,c9_ s_]);have HB2:=h_ (HB.out.trans (show Below w.heap.size wr (wr.drewN m) from Ze ⟨m,rfl⟩));have HO2:=h_ (show (wr.drewN m).ownsRow w.heap.size 9 1 (.slice oa done.length cap) done.length (Zh done) from Hown.out);clear HG HB Hown hd;generalize wr.drewN m=w2 at *;cases g with
      |false=>
       have HD2:=h_ (show done++ZcV (fun c=>b.data.toList.contains c) (s.data.toList.drop (k+1)) (cur++[c])=rows by rw [<-HD.out,Zt0 _ _ _ _ HG2.out.symm]);have HX:=h_ (ZtI cur s k hlt);have hcat:=Zvh (⟨cur.toArray⟩:ByteArray) (s.extract k (k+1)) (by
        have:(⟨cur.toArray⟩:ByteArray).size=cur.length:=n17_
        have h2:(s.extract k (k+1)).size<=s.size:=n6_;omega)
       clear HD;go_wp2_with fail;go_roundg (s.size+1-(k+1)+1)
       case measure=>omega
       case rel=>exact ⟨k+1,done,cur++[c],o_,n9_,by rw [HX.out,<-HC.out],o_,o_,n6_,HO2,fun _=>HD2.out,fun h=>by omega,HB2⟩
      |true=>
       have HD2:=h_ (show done++Zjc cur++ZcV (fun c=>b.data.toList.contains c) (s.data.toList.drop (k+1)) []=rows by rw [<-HD.out,ZsW _ _ _ _ HG2.out.symm,List.append_assoc]);clear HD;cases cur with
       |nil=>
        have HR2:=h_ (show done++ZcV (fun c=>b.data.toList.contains c) (s.data.toList.drop (k+1)) []=rows from by have h:=HD2.out;simpa [Zjc] using h);go_wp2_with fail;go_roundg (s.size+1-(k+1)+1)
        case measure=>omega
        case rel=>exact ⟨k+1,done,[],o_,n9_,rfl,o_,o_,s_,HO2,fun _=>HR2.out,fun h=>by omega,HB2⟩
       |cons a t=>
        have hsz:(⟨(a::t).toArray⟩:ByteArray).size≠0:=n17_;obtain ⟨n1,n2,n3,n4⟩:=Xo hsz;have HR2:=h_ (show done++[a::t]++ZcV (fun c=>b.data.toList.contains c) (s.data.toList.drop (k+1)) []=rows from by have h:=HD2.out;simpa [Zjc] using h);have HXS:=h_ (show (⟨(a::t).toArray⟩:ByteArray).data.toList=a::t from rfl);generalize (⟨(a::t).toArray⟩:ByteArray)=X at *;have hown0:=HO2.out;have hsz2:=HB2.out.size;go_wp2_with (at_builtin;refine wpList_append_own _ rfl _ _ 26 rfl w.heap.size 9 i0 (.string ⟨#[]⟩) 1 16 underlying26 hi hz0 hz1 hz2 rfl d_ _ _ _ rfl (hown0.alloc _) ⟨w2.heap.size,0,none⟩ 1 1 [.string X] rfl rfl (by exact cell_one_new _ _ _) n88_ n23_ o_ n6_ ?_);intro v' w3 hown' hgrow hnil;have HB3:=h_ ((HB2.out.alloc hsz2 _).grown hgrow n6_ (fun g hg=>(hown0.lt g hg).1));have HO3:=h_ (show w3.ownsRow w.heap.size 9 1 v' (done++[a::t]).length (Zh (done++[a::t])) by
         rw [Xc,c5_,<-HXS.out];exact hown')
        clear hgrow hnil hown' hown0 HO2 HB2;go_wp2_with fail;go_roundg (s.size+1-(k+1)+1)
        case measure=>omega
        case rel=>exact ⟨k+1,done++[a::t],[],o_,n9_,rfl,o_,n6_,s_,HO3,fun _=>HR2.out,fun h=>by omega,HB3⟩
   ·have hltz:¬((k:Int)<(s.size:Int)):=o_
    obtain rfl:k=s.size:=o_;have HD2:=h_ (show done++Zjc cur=rows by
     have h:=Hq.out l_;rw [List.drop_eq_nil_of_le s_] at h;exact h)
    have HO2:=h_ Hown.out;have HB2:=h_ HB.out;clear Hq Hn Hown HB hlt hle;go_wp2_with fail;go_loopg [8,9] 2 (fun f ap j wx=>ap=.bool true/\j=.int .i64 0/\wx=wr/\0<f)
    case atStart=>exact ⟨rfl,rfl,rfl,o_⟩
    case round=>
     obtain ⟨rfl,rfl,rfl,hf0⟩:=hrel;obtain ⟨wx,hwx⟩:=e_ wr;subst hwx;by_cases hb0:0<b.size
     ·have hb1:(0:Int)<(b.size:Int):=o_
      exact m177_
     ·have hb1:¬((0:Int)<(b.size:Int)):=o_
      exact m177_
  ·have hz:¬((k:Int)<=(s.size:Int)):=o_
   have HR:=h_ (Hn.out o_);clear Hq Hn;go_wp2_with fail;go_ret;exact ⟨HB.out,_,rfl,by rw [<-HR.out];exact Hown.out⟩
theorem m179_{p:Prop}(h:p:=by go_enter func188,ntmps188;go_wp2_with fail;go_ret;exact ⟨rfl,rfl⟩):p:=h
def Zkx(s:Str):Int:=if s==Zn then 2 else if s==YL then 4 else if s==Xb then 8 else 30
theorem ZnG(s:Str)(w:World)(r:Int)(hr:Zkx s=r):Calls prog 188 #[.string ⟨s.toArray⟩] w fun e w'=>e=.returned (.int .i64 r)/\w'=w:=by
 unfold Zkx at hr;cases h1:(s==Zn) with
 |true=>
  rw [h1] at hr;obtain rfl:(2:Int)=r:=hr;exact m179_
 |false=>
  rw [h1] at hr;cases h2:(s==YL) with
  |true=>
   rw [h2] at hr;obtain rfl:(4:Int)=r:=hr;exact m179_
  |false=>
   rw [h2] at hr;cases h3:(s==Xb) with
   |true=>
    rw [h3] at hr;obtain rfl:(8:Int)=r:=hr;exact m179_
   |false=>
    rw [h3] at hr;obtain rfl:(30:Int)=r:=hr;exact m179_
theorem ZjU{w:World}{B B' e size n:Nat}{v:Value}{xs:List Value}(h:w.ownsRow B e size v n xs)(hB:B'<=B):w.ownsRow B' e size v n xs:=by
 refine ⟨h.1,?_⟩;rcases h.2 with hn|⟨g,cap,cur,rfl,hb,rest⟩
 ·exact .inl hn
 ·exact .inr ⟨g,cap,cur,rfl,Nat.le_trans hB hb,rest⟩
theorem Zrn{α:Type}(l:List α)(k:Nat)(h:k<l.length):l.take (k+1)=l.take k++[l[k]]:=c4_ h
theorem YD(sec names:Str)(form:Int)(list:Bool)(ns:List Str)(w:World)(hns:Zg names=ns)(hl:names.length<=1000000)(kd:Int)(hkd:Zkx sec=kd) :
  Calls prog 102 #[.string ⟨sec.toArray⟩,.string ⟨names.toArray⟩,.int .i64 form,.bool list] w fun e w'=>∃v,e=.returned v/\w'.ownsRow w.heap.size 82 6 v ns.length (Zx Zm (ns.map (YZ sec kd form list)))/\Below w.heap.size w w':=by
 obtain ⟨i0,hi0,hz0,hz1,hz2⟩:=info_parts Zfj;have hnl:ns.length<=1000001:=by
  have:=QB names []
  rw [<-hns];unfold Zg;omega
 have HBK:=h_ (Zf4 ⟨names.toArray⟩ ⟨#[32]⟩ w (by show names.toArray.size<=_;simp;omega) d_ ns (by rw [<-hns];exact Zfd [32] rfl names []));have HKD:=h_ (fun W=>ZnG sec W kd hkd);clear hns hkd;go_enter func102,ntmps102;go_wp2_with fail;refine HBK.out.mono ?_;rintro e w1 ⟨hb1,v,rfl,hown⟩;obtain ⟨oa,cap,rfl,hrow⟩:=ZoI hown;have HB1:=h_ hb1;have HR:=h_ hrow;clear hb1 hrow hown HBK;go_wp2_with fail;go_loopg [9,15] (ns.length+1) (fun f v i wr=>∃k:Nat,k<=ns.length/\i=.int .i64 k/\ns.length-k<f/\Hid (wr.ownsRow w1.heap.size 82 6 v k (Zx Zm ((ns.take k).map (YZ sec kd form list))))/\Hid (Below w1.heap.size w1 wr))
 case atStart=>exact ⟨0,o_,rfl,o_,World.ownsRow_nil _ _ _ _,Below.refl _ _⟩
 case round=>
  obtain ⟨k,hk,rfl,hfu,Hown,HB⟩:=hrel;obtain ⟨oa2,cap2,rfl⟩:=ownsRow_form Hown.out;by_cases hlt:k<ns.length
  ·have hz:(k:Int)<(ns.length:Int):=o_
   obtain ⟨n,hn⟩:=e_ (ns[k]);obtain ⟨b,o,rfl,d0⟩:=(HR.out.below HB.out) k hlt;rw [<-hn] at d0;have HS:=h_ (show (ns.take (k+1)).map (YZ sec kd form list)=(ns.take k).map (YZ sec kd form list)++[YZ sec kd form list n] by rw [Zrn ns k hlt,List.map_append,hn];rfl);clear hn;let W1:=wr.alloc (.cells (Zm (YZ sec kd form list n)).toArray 82);have hB1:Below wr.heap.size wr W1:=b_.alloc l_ _;have hbl:=ZG.of_own (enc:=Zm) (k:=6) (l:=[YZ sec kd form list n]) (oa:=some ⟨wr.heap.size,0,none⟩) (cap:=1) (fun _=>rfl) (Zh2 wr (.string ⟨sec.toArray⟩) (.string ⟨n.toArray⟩) (.int .i64 form) (.bool list) (.int .i64 kd) (.slice none 0 0) 82);obtain ⟨v',w3,hrun,hown3,hgrow⟩:=Xh (P:=prog) w1.heap.size 79 79 82 i0 (.agg #[.string ⟨#[]⟩,.string ⟨#[]⟩,.int .i64 0,.bool false,.int .i64 0,.slice none 0 0]) 6 80 underlying79 hi0 hz0 hz1 hz2 n18_ d_ _ _ _ (Zo Hown.out hB1) (some ⟨wr.heap.size,0,none⟩) 1 1 (Zx Zm [YZ sec kd form list n]) rfl (ZG.flat (enc:=Zm) (k:=6) (fun _=>rfl) o_ hbl) (Y1 ZeO _) n23_ o_ (Nat.le_trans HB.out.size hB1.size);have HRUN:=h_ hrun;have HB3:=h_ ((HB.out.trans (hB1.mono HB.out.size)).grown hgrow (Nat.le_trans HB.out.size hB1.size) (fun g hg=>(Hown.out.lt g hg).1));have HO3:=h_ (show w3.ownsRow w1.heap.size 82 6 v' (k+1) (Zx Zm ((ns.take (k+1)).map (YZ sec kd form list))) by rw [HS.out,ZT];exact hown3);obtain ⟨oa3,cap3,rfl⟩:=ownsRow_form HO3.out;clear hrun hown3 hgrow hbl hB1 HS;unfold Zm YZ at *;go_wp2_with fail;refine (HKD.out _).mono ?_;rintro e w2 ⟨rfl,rfl⟩;go_wp2_with (at_builtin;refine wpList_append_run rfl _ _ 79 rfl HRUN.out rfl rfl ?_);go_roundg (ns.length-k)
   case measure=>omega
   case rel=>exact ⟨k+1,o_,n9_,o_,HO3,HB3⟩
  ·have hz:¬((k:Int)<(ns.length:Int)):=o_
   obtain rfl:k=ns.length:=o_;have HO:=h_ (show wr.ownsRow w1.heap.size 82 6 (.slice oa2 ns.length cap2) ns.length (Zx Zm (ns.map (YZ sec kd form list))) by
    have h:=Hown.out;rw [List.take_length] at h;exact h)
   clear Hown;go_wp2_with fail;go_ret;exact ⟨_,rfl,ZjU HO.out HB1.out.size,HB1.out.trans (HB.out.mono HB1.out.size)⟩
theorem Zgi(sec name words:Str)(ws:List Str)(w:World)(hn1:Zg name=[name])(hws:Zg words=ws)(hl:name.length<=1000000)(hl2:words.length<=1000000)(kd:Int)(hkd:Zkx sec=kd) :
  Calls prog 103 #[.string ⟨sec.toArray⟩,.string ⟨name.toArray⟩,.string ⟨words.toArray⟩] w fun e w'=>∃v wa wc,e=.returned v/\w'.ownsRow w.heap.size 82 6 v 1 (Zx Zm [⟨sec,name,10,false,kd,wa,ws.length,wc⟩])/\
   w'.ownsRow w.heap.size 9 1 (.slice wa ws.length wc) ws.length (Zh ws)/\Below w.heap.size w w':=by
 have HR:=h_ (YD sec name 10 false [name] w hn1 hl kd hkd);have HBK:=h_ (fun W=>Zf4 ⟨words.toArray⟩ ⟨#[32]⟩ W (by show words.toArray.size<=_;simp;omega) d_ ws (by rw [<-hws];exact Zfd [32] rfl words []));clear hn1 hws hkd;go_enter func103,ntmps103;go_wp2_with fail;refine HR.out.mono ?_;rintro e w1 ⟨v,rfl,hown,hb1⟩;obtain ⟨g,cap,rfl,-,-,-⟩:=Zjz hown s_;have HO:=h_ hown;have HB1:=h_ hb1;clear hown hb1 HR;go_wp2_with fail;refine (HBK.out w1).mono ?_;rintro e w2 ⟨hb2,v2,rfl,hown2⟩;obtain ⟨wa,wc,rfl⟩:=ownsRow_form hown2;have ho:=Zo HO.out hb2;obtain ⟨hset,⟨x5,hx5⟩,hf5,hg1,hg2,⟨s5,hs5⟩⟩:=Zer ho 5 (by simp [Zx,Zm]) (.slice wa ws.length wc);have HS:=h_ hset;have HO2:=h_ (show (w2.setCell ⟨g,5,none⟩ (.slice wa ws.length wc)).ownsRow w.heap.size 9 1 (.slice wa ws.length wc) ws.length (Zh ws) from
  Z4 (M:=fun k=>k=g) (ZjU hown2 HB1.out.size) (Fr.setCell (M:=fun k=>k=g) (p:=⟨g,5,none⟩) (Fr.refl _ _) (fun _=>rfl) _) (fun k hk hr=>by
   rintro rfl;have h3:=(X7 ho) k rfl;obtain ⟨_,cs,fz,h4⟩:=h3;obtain ⟨cs2,fz2,h5⟩:=hr;rw [h4] at h5;simp at h5))
 have HB2:=h_ ((HB1.out.trans (hb2.mono HB1.out.size)).setCell (p:=⟨g,5,none⟩) hg1 (.slice wa ws.length wc));clear hset ho hown2 hb2 HO HB1 HBK;go_wp2_with fail;go_ret;exact ⟨.slice (some ⟨g,0,none⟩) 1 cap,wa,wc,rfl,HS.out,HO2.out,HB2.out⟩
theorem Yh(w0 w1 w2:World)(vs kvs:List ZQ)(ks ks2:List ZE)(oa oa2:Option Addr)(cap cap2 n:Nat)(hown:w1.ownsRow w0.heap.size 82 6 (.slice oa vs.length cap) vs.length (Zx Zm vs))(hk:ZY w1 vs ks)(hb:Below w0.heap.size w0 w1)
  (hn:n=kvs.length) (hown2:w2.ownsRow w1.heap.size 82 6 (.slice oa2 n cap2) n (Zx Zm kvs)) (hb2:Below w1.heap.size w1 w2) (hk2:ZY w2 kvs ks2) (hs:ks.length+ks2.length<=1000) :
  ∃vs3 oa3 cap3 w3,(Builtin.append_ #[79,79] 79 #[.slice oa vs.length cap,.slice oa2 n cap2]).run prog w2=.ok (.slice oa3 vs3.length cap3) w3/\
   w3.ownsRow w0.heap.size 82 6 (.slice oa3 vs3.length cap3) vs3.length (Zx Zm vs3)/\ZY w3 vs3 (ks++ks2)/\Below w0.heap.size w0 w3:=by
 subst hn;obtain ⟨i0,hi0,hz0,hz1,hz2⟩:=info_parts Zfj;have l1:=hk.1;have l2:=hk2.1;have hB2:=hb.trans (hb2.mono hb.size);have ho:=Zo hown hb2;obtain ⟨v',w3,hrun,hown3,hgrow⟩:=Xh (P:=prog) w0.heap.size 79 79 82 i0 (.agg #[.string ⟨#[]⟩,.string ⟨#[]⟩,.int .i64 0,.bool false,.int .i64 0,.slice none 0 0]) 6 80 underlying79 hi0 hz0 hz1 hz2 n18_ d_ _ _ _ ho oa2 kvs.length cap2 (Zx Zm kvs) (by rw [XB (enc:=Zm) (k:=6) (fun _=>rfl)])
  (ZG.flat (enc:=Zm) (k:=6) (fun _=>rfl) o_ (ZG.of_own (enc:=Zm) (k:=6) (fun _=>rfl) hown2)) (Y1 ZeO _) n23_ o_ hB2.size
 rw [<-ZT,<-c5_] at hown3;obtain ⟨oa3,cap3,rfl⟩:=ownsRow_form hown3;have hbg:Below w0.heap.size w0 w3:=hB2.grown hgrow hB2.size (fun g hg=>(ho.lt g hg).1);refine ⟨vs++kvs,oa3,cap3,w3,hrun,hown3,?_,hbg⟩;have hkeep:∀(B:Nat) (v:Value) (n:Nat) (xs:List Value),w2.ownsRow B 9 1 v n xs->w3.ownsRow B 9 1 v n xs:=by
  intro B v n xs h;refine World.ownsRow.kept h hgrow ?_;rcases h.2 with ⟨rfl,_⟩|⟨g,cp,cur,rfl,_,hg,_⟩
  ·exact .inl rfl
  ·refine .inr (fun e=>?_)
   obtain ⟨_,cs,fz,h4⟩:=X7 ho g e.symm;rw [hg] at h4;simp at h4
 have hkv:∀{a:List ZQ} {b:List ZE},ZY w2 a b->ZY w3 a b:=fun q=>⟨q.1,fun i h1 h2=>{ q.2 i h1 h2 with ww:=(q.2 i h1 h2).ww.imp id fun ⟨B,z⟩=>⟨B,hkeep _ _ _ _ z⟩ }⟩
 exact ZY.append (hkv (hk.below hb2)) (hkv hk2)
theorem Zrf(w:World):Calls prog 51 #[] w fun e w'=>Zsb w e w':=by
 have HO:=h_ (World.ownsRow_nil w w.heap.size 82 6:w.ownsRow w.heap.size 82 6 (.slice none ([]:List ZQ).length 0) ([]:List ZQ).length (Zx Zm []));have HK:=h_ (ZY.nil w);have HB:=h_ (Below.refl w.heap.size w);obtain ⟨w0,hw0⟩:=e_ w;rw [<-hw0] at HO HK HB⊢;have HW:=h_ hw0;clear hw0;go_enter func51,ntmps51;go_wp2_with fail;have HR:=h_ (YD Z7 [68,101,115,99,114,105,112,116,105,111,110] 1 false Zdq w0 n1_ d_ 30 d_);refine HR.out.mono ?_;rintro e u1 ⟨v,rfl,ho,hb⟩;obtain ⟨oa2,cap2,rfl⟩:=ownsRow_form ho;obtain ⟨vs3,oa3,cap3,w1,hrun,ho3,hk3,hb3⟩:=Yh w0 w0 u1 _ _ _ _ _ oa2 _ cap2 _ HO.out HK.out HB.out n18_ ho hb (ZY.plain _ Z7 30 1 false Zdq) d_;clear HO HK HB HR ho hb;have HO:=h_ ho3;have HK:=h_ hk3;have HB:=h_ hb3;have HRUN:=h_ hrun;clear ho3 hk3 hb3 hrun;go_wp2_with (at_builtin;refine wpList_append_run rfl _ _ 79 rfl HRUN.out rfl rfl ?_);clear HRUN;have HR:=h_ (YD Z7 [68,101,102,97,117,108,116,68,101,112,101,110,100,101,110,99,105,101,115] 2 false ZcT w1 n1_ d_ 30 d_);refine HR.out.mono ?_;rintro e u2 ⟨v,rfl,ho,hb⟩;obtain ⟨oa2,cap2,rfl⟩:=ownsRow_form ho;obtain ⟨vs3,oa3,cap3,w2,hrun,ho3,hk3,hb3⟩:=Yh w0 w1 u2 _ _ _ _ _ oa2 _ cap2 _ HO.out HK.out HB.out n18_ ho hb (ZY.plain _ Z7 30 2 false ZcT) d_;clear HO HK HB HR ho hb;have HO:=h_ ho3;have HK:=h_ hk3;have HB:=h_ hb3;have HRUN:=h_ hrun;clear ho3 hk3 hb3 hrun;go_wp2_with (at_builtin;refine wpList_append_run rfl _ _ 79 rfl HRUN.out rfl rfl ?_);clear HRUN;have HR:=h_ (YD Z7 [82,101,113,117,105,114,101,115,32,87,97,110,116,115,32,82,101,113,117,105,115,105,116,101,32,66,105,110,100,115,84,111,32,80,97,114,116,79,102,32,67,111,110,102,108,105,99,116,115,32,66,101,102,111,114,101,32,65,102,116,101,114,32,79,110,70,97,105,108,117,114,101] 6 true Zdc w2 n1_ d_ 30 d_);refine HR.out.mono ?_;rintro e u3 ⟨v,rfl,ho,hb⟩;obtain ⟨oa2,cap2,rfl⟩:=ownsRow_form ho;obtain ⟨vs3,oa3,cap3,w3,hrun,ho3,hk3,hb3⟩:=Yh w0 w2 u3 _ _ _ _ _ oa2 _ cap2 _ HO.out HK.out HB.out n18_ ho hb (ZY.plain _ Z7 30 6 true Zdc) d_;clear HO HK HB HR ho hb;have HO:=h_ ho3;have HK:=h_ hk3;have HB:=h_ hb3;have HRUN:=h_ hrun;clear ho3 hk3 hb3 hrun;go_wp2_with (at_builtin;refine wpList_append_run rfl _ _ 79 rfl HRUN.out rfl rfl ?_);clear HRUN;have HR:=h_ (YD Z7 [83,116,97,114,116,76,105,109,105,116,73,110,116,101,114,118,97,108,83,101,99] 4 false Zdx w3 n1_ d_ 30 d_);refine HR.out.mono ?_;rintro e u4 ⟨v,rfl,ho,hb⟩;obtain ⟨oa2,cap2,rfl⟩:=ownsRow_form ho;obtain ⟨vs3,oa3,cap3,w4,hrun,ho3,hk3,hb3⟩:=Yh w0 w3 u4 _ _ _ _ _ oa2 _ cap2 _ HO.out HK.out HB.out n18_ ho hb (ZY.plain _ Z7 30 4 false Zdx) d_;clear HO HK HB HR ho hb;have HO:=h_ ho3;have HK:=h_ hk3;have HB:=h_ hb3;have HRUN:=h_ hrun;clear ho3 hk3 hb3 hrun;go_wp2_with (at_builtin;refine wpList_append_run rfl _ _ 79 rfl HRUN.out rfl rfl ?_);clear HRUN;have HR:=h_ (YD Z7 [83,116,97,114,116,76,105,109,105,116,66,117,114,115,116] 3 false Zdv w4 n1_ d_ 30 d_);refine HR.out.mono ?_;rintro e u5 ⟨v,rfl,ho,hb⟩;obtain ⟨oa2,cap2,rfl⟩:=ownsRow_form ho;obtain ⟨vs3,oa3,cap3,w5,hrun,ho3,hk3,hb3⟩:=Yh w0 w4 u5 _ _ _ _ _ oa2 _ cap2 _ HO.out HK.out HB.out n18_ ho hb (ZY.plain _ Z7 30 3 false Zdv) d_;clear HO HK HB HR ho hb;have HO:=h_ ho3;have HK:=h_ hk3;have HB:=h_ hb3;have HRUN:=h_ hrun;clear ho3 hk3 hb3 hrun;go_wp2_with (at_builtin;refine wpList_append_run rfl _ _ 79 rfl HRUN.out rfl rfl ?_);clear HRUN;have HR:=h_ (Zgi Zn Zhx [115,105,109,112,108,101,32,111,110,101,115,104,111,116,32,110,111,116,105,102,121] Zaf w5 n1_ n1_ d_ d_ 2 d_);refine HR.out.mono ?_;rintro e u6 ⟨v,wa,wc,rfl,ho,hws,hb⟩;obtain ⟨oa2,cap2,rfl⟩:=ownsRow_form ho;obtain ⟨vs3,oa3,cap3,w6,hrun,ho3,hk3,hb3⟩:=Yh w0 w5 u6 _ _ _ _ _ oa2 _ cap2 _ HO.out HK.out HB.out n18_ ho hb (ZY.one (k:=⟨Zn,Zhx,10,false,2,Zaf⟩) ⟨rfl,rfl,rfl,rfl,rfl,rfl,.inr ⟨_,hws⟩⟩) d_;clear HO HK HB HR ho hb hws;have HO:=h_ ho3;have HK:=h_ hk3;have HB:=h_ hb3;have HRUN:=h_ hrun;clear ho3 hk3 hb3 hrun;go_wp2_with (at_builtin;refine wpList_append_run rfl _ _ 79 rfl HRUN.out rfl rfl ?_);clear HRUN;have HR:=h_ (YD Zn [69,120,101,99,83,116,97,114,116,80,114,101,32,69,120,101,99,83,116,97,114,116,32,69,120,101,99,83,116,97,114,116,80,111,115,116,32,69,120,101,99,83,116,111,112,32,69,120,101,99,82,101,108,111,97,100] 7 true Zah w6 n1_ d_ 2 d_);refine HR.out.mono ?_;rintro e u7 ⟨v,rfl,ho,hb⟩;obtain ⟨oa2,cap2,rfl⟩:=ownsRow_form ho;obtain ⟨vs3,oa3,cap3,w7,hrun,ho3,hk3,hb3⟩:=Yh w0 w6 u7 _ _ _ _ _ oa2 _ cap2 _ HO.out HK.out HB.out n18_ ho hb (ZY.plain _ Zn 2 7 true Zah) d_;clear HO HK HB HR ho hb;have HO:=h_ ho3;have HK:=h_ hk3;have HB:=h_ hb3;have HRUN:=h_ hrun;clear ho3 hk3 hb3 hrun;go_wp2_with (at_builtin;refine wpList_append_run rfl _ _ 79 rfl HRUN.out rfl rfl ?_);clear HRUN;have HR:=h_ (YD Zn [82,101,109,97,105,110,65,102,116,101,114,69,120,105,116] 2 false Zad w7 n1_ d_ 2 d_);refine HR.out.mono ?_;rintro e u8 ⟨v,rfl,ho,hb⟩;obtain ⟨oa2,cap2,rfl⟩:=ownsRow_form ho;obtain ⟨vs3,oa3,cap3,w8,hrun,ho3,hk3,hb3⟩:=Yh w0 w7 u8 _ _ _ _ _ oa2 _ cap2 _ HO.out HK.out HB.out n18_ ho hb (ZY.plain _ Zn 2 2 false Zad) d_;clear HO HK HB HR ho hb;have HO:=h_ ho3;have HK:=h_ hk3;have HB:=h_ hb3;have HRUN:=h_ hrun;clear ho3 hk3 hb3 hrun;go_wp2_with (at_builtin;refine wpList_append_run rfl _ _ 79 rfl HRUN.out rfl rfl ?_);clear HRUN;have HR:=h_ (Zgi Zn ZaK [110,111,32,111,110,45,115,117,99,99,101,115,115,32,111,110,45,102,97,105,108,117,114,101,32,111,110,45,97,98,110,111,114,109,97,108,32,97,108,119,97,121,115] Zak w8 n1_ n1_ d_ d_ 2 d_);refine HR.out.mono ?_;rintro e u9 ⟨v,wa,wc,rfl,ho,hws,hb⟩;obtain ⟨oa2,cap2,rfl⟩:=ownsRow_form ho;obtain ⟨vs3,oa3,cap3,w9,hrun,ho3,hk3,hb3⟩:=Yh w0 w8 u9 _ _ _ _ _ oa2 _ cap2 _ HO.out HK.out HB.out n18_ ho hb (ZY.one (k:=⟨Zn,ZaK,10,false,2,Zak⟩) ⟨rfl,rfl,rfl,rfl,rfl,rfl,.inr ⟨_,hws⟩⟩) d_;clear HO HK HB HR ho hb hws;have HO:=h_ ho3;have HK:=h_ hk3;have HB:=h_ hb3;have HRUN:=h_ hrun;clear ho3 hk3 hb3 hrun;go_wp2_with (at_builtin;refine wpList_append_run rfl _ _ 79 rfl HRUN.out rfl rfl ?_);clear HRUN;have HR:=h_ (YD Zn [82,101,115,116,97,114,116,83,101,99,32,84,105,109,101,111,117,116,83,116,97,114,116,83,101,99,32,84,105,109,101,111,117,116,83,116,111,112,83,101,99] 4 false J5 w9 n1_ d_ 2 d_)
 refine HR.out.mono ?_;rintro e u10 ⟨v,rfl,ho,hb⟩;obtain ⟨oa2,cap2,rfl⟩:=ownsRow_form ho;obtain ⟨vs3,oa3,cap3,w10,hrun,ho3,hk3,hb3⟩:=Yh w0 w9 u10 _ _ _ _ _ oa2 _ cap2 _ HO.out HK.out HB.out n18_ ho hb (ZY.plain _ Zn 2 4 false J5) d_;clear HO HK HB HR ho hb;have HO:=h_ ho3;have HK:=h_ hk3;have HB:=h_ hb3;have HRUN:=h_ hrun;clear ho3 hk3 hb3 hrun;go_wp2_with (at_builtin;refine wpList_append_run rfl _ _ 79 rfl HRUN.out rfl rfl ?_);clear HRUN;have HR:=h_ (YD Zn [83,117,99,99,101,115,115,69,120,105,116,83,116,97,116,117,115] 11 true Zam w10 n1_ d_ 2 d_);refine HR.out.mono ?_;rintro e u11 ⟨v,rfl,ho,hb⟩;obtain ⟨oa2,cap2,rfl⟩:=ownsRow_form ho;obtain ⟨vs3,oa3,cap3,w11,hrun,ho3,hk3,hb3⟩:=Yh w0 w10 u11 _ _ _ _ _ oa2 _ cap2 _ HO.out HK.out HB.out n18_ ho hb (ZY.plain _ Zn 2 11 true Zam) d_;clear HO HK HB HR ho hb;have HO:=h_ ho3;have HK:=h_ hk3;have HB:=h_ hb3;have HRUN:=h_ hrun;clear ho3 hk3 hb3 hrun;go_wp2_with (at_builtin;refine wpList_append_run rfl _ _ 79 rfl HRUN.out rfl rfl ?_);clear HRUN;have HR:=h_ (YD Zn [69,110,118,105,114,111,110,109,101,110,116] 8 true J4 w11 n1_ d_ 2 d_);refine HR.out.mono ?_;rintro e u12 ⟨v,rfl,ho,hb⟩;obtain ⟨oa2,cap2,rfl⟩:=ownsRow_form ho;obtain ⟨vs3,oa3,cap3,w12,hrun,ho3,hk3,hb3⟩:=Yh w0 w11 u12 _ _ _ _ _ oa2 _ cap2 _ HO.out HK.out HB.out n18_ ho hb (ZY.plain _ Zn 2 8 true J4) d_;clear HO HK HB HR ho hb;have HO:=h_ ho3;have HK:=h_ hk3;have HB:=h_ hb3;have HRUN:=h_ hrun;clear ho3 hk3 hb3 hrun;go_wp2_with (at_builtin;refine wpList_append_run rfl _ _ 79 rfl HRUN.out rfl rfl ?_);clear HRUN;have HR:=h_ (YD Zn [83,111,99,107,101,116,115] 6 true J9 w12 n1_ d_ 2 d_);refine HR.out.mono ?_;rintro e u13 ⟨v,rfl,ho,hb⟩;obtain ⟨oa2,cap2,rfl⟩:=ownsRow_form ho;obtain ⟨vs3,oa3,cap3,w13,hrun,ho3,hk3,hb3⟩:=Yh w0 w12 u13 _ _ _ _ _ oa2 _ cap2 _ HO.out HK.out HB.out n18_ ho hb (ZY.plain _ Zn 2 6 true J9) d_;clear HO HK HB HR ho hb;have HO:=h_ ho3;have HK:=h_ hk3;have HB:=h_ hb3;have HRUN:=h_ hrun;clear ho3 hk3 hb3 hrun;go_wp2_with (at_builtin;refine wpList_append_run rfl _ _ 79 rfl HRUN.out rfl rfl ?_);clear HRUN;have HR:=h_ (YD YL [76,105,115,116,101,110,83,116,114,101,97,109] 11 true ZaX w13 n1_ d_ 4 d_);refine HR.out.mono ?_;rintro e u14 ⟨v,rfl,ho,hb⟩;obtain ⟨oa2,cap2,rfl⟩:=ownsRow_form ho;obtain ⟨vs3,oa3,cap3,w14,hrun,ho3,hk3,hb3⟩:=Yh w0 w13 u14 _ _ _ _ _ oa2 _ cap2 _ HO.out HK.out HB.out n18_ ho hb (ZY.plain _ YL 4 11 true ZaX) d_;clear HO HK HB HR ho hb;have HO:=h_ ho3;have HK:=h_ hk3;have HB:=h_ hb3;have HRUN:=h_ hrun;clear ho3 hk3 hb3 hrun;go_wp2_with (at_builtin;refine wpList_append_run rfl _ _ 79 rfl HRUN.out rfl rfl ?_);clear HRUN;have HR:=h_ (YD YL [66,97,99,107,108,111,103] 3 false Zbb w14 n1_ d_ 4 d_);refine HR.out.mono ?_;rintro e u15 ⟨v,rfl,ho,hb⟩;obtain ⟨oa2,cap2,rfl⟩:=ownsRow_form ho;obtain ⟨vs3,oa3,cap3,w15,hrun,ho3,hk3,hb3⟩:=Yh w0 w14 u15 _ _ _ _ _ oa2 _ cap2 _ HO.out HK.out HB.out n18_ ho hb (ZY.plain _ YL 4 3 false Zbb) d_;clear HO HK HB HR ho hb;have HO:=h_ ho3;have HK:=h_ hk3;have HB:=h_ hb3;have HRUN:=h_ hrun;clear ho3 hk3 hb3 hrun;go_wp2_with (at_builtin;refine wpList_append_run rfl _ _ 79 rfl HRUN.out rfl rfl ?_);clear HRUN;have HR:=h_ (YD YL [70,105,108,101,68,101,115,99,114,105,112,116,111,114,78,97,109,101] 1 false ZaV w15 n1_ d_ 4 d_);refine HR.out.mono ?_;rintro e u16 ⟨v,rfl,ho,hb⟩;obtain ⟨oa2,cap2,rfl⟩:=ownsRow_form ho;obtain ⟨vs3,oa3,cap3,w16,hrun,ho3,hk3,hb3⟩:=Yh w0 w15 u16 _ _ _ _ _ oa2 _ cap2 _ HO.out HK.out HB.out n18_ ho hb (ZY.plain _ YL 4 1 false ZaV) d_;clear HO HK HB HR ho hb;have HO:=h_ ho3;have HK:=h_ hk3;have HB:=h_ hb3;have HRUN:=h_ hrun;clear ho3 hk3 hb3 hrun;go_wp2_with (at_builtin;refine wpList_append_run rfl _ _ 79 rfl HRUN.out rfl rfl ?_);clear HRUN;have HR:=h_ (YD YL [83,101,114,118,105,99,101] 5 false ZaR w16 n1_ d_ 4 d_);refine HR.out.mono ?_;rintro e u17 ⟨v,rfl,ho,hb⟩;obtain ⟨oa2,cap2,rfl⟩:=ownsRow_form ho;obtain ⟨vs3,oa3,cap3,w17,hrun,ho3,hk3,hb3⟩:=Yh w0 w16 u17 _ _ _ _ _ oa2 _ cap2 _ HO.out HK.out HB.out n18_ ho hb (ZY.plain _ YL 4 5 false ZaR) d_;clear HO HK HB HR ho hb;have HO:=h_ ho3;have HK:=h_ hk3;have HB:=h_ hb3;have HRUN:=h_ hrun;clear ho3 hk3 hb3 hrun;go_wp2_with (at_builtin;refine wpList_append_run rfl _ _ 79 rfl HRUN.out rfl rfl ?_);clear HRUN;have HR:=h_ (YD Xb [79,110,66,111,111,116,83,101,99,32,79,110,65,99,116,105,118,101,83,101,99,32,79,110,85,110,105,116,73,110,97,99,116,105,118,101,83,101,99] 4 true Zb9 w17 n1_ d_ 8 d_);refine HR.out.mono ?_;rintro e u18 ⟨v,rfl,ho,hb⟩;obtain ⟨oa2,cap2,rfl⟩:=ownsRow_form ho;obtain ⟨vs3,oa3,cap3,w18,hrun,ho3,hk3,hb3⟩:=Yh w0 w17 u18 _ _ _ _ _ oa2 _ cap2 _ HO.out HK.out HB.out n18_ ho hb (ZY.plain _ Xb 8 4 true Zb9) d_;clear HO HK HB HR ho hb;have HO:=h_ ho3;have HK:=h_ hk3;have HB:=h_ hb3;have HRUN:=h_ hrun;clear ho3 hk3 hb3 hrun;go_wp2_with (at_builtin;refine wpList_append_run rfl _ _ 79 rfl HRUN.out rfl rfl ?_);clear HRUN;have HR:=h_ (YD Xb [79,110,67,97,108,101,110,100,97,114] 9 true ZbU w18 n1_ d_ 8 d_);refine HR.out.mono ?_;rintro e u19 ⟨v,rfl,ho,hb⟩;obtain ⟨oa2,cap2,rfl⟩:=ownsRow_form ho;obtain ⟨vs3,oa3,cap3,w19,hrun,ho3,hk3,hb3⟩:=Yh w0 w18 u19 _ _ _ _ _ oa2 _ cap2 _ HO.out HK.out HB.out n18_ ho hb (ZY.plain _ Xb 8 9 true ZbU) d_;clear HO HK HB HR ho hb;have HO:=h_ ho3;have HK:=h_ hk3;have HB:=h_ hb3;have HRUN:=h_ hrun;clear ho3 hk3 hb3 hrun;go_wp2_with (at_builtin;refine wpList_append_run rfl _ _ 79 rfl HRUN.out rfl rfl ?_);clear HRUN;have HR:=h_ (YD Xb [80,101,114,115,105,115,116,101,110,116] 2 false ZbW w19 n1_ d_ 8 d_);refine HR.out.mono ?_;rintro e u20 ⟨v,rfl,ho,hb⟩;obtain ⟨oa2,cap2,rfl⟩:=ownsRow_form ho;obtain ⟨vs3,oa3,cap3,w20,hrun,ho3,hk3,hb3⟩:=Yh w0 w19 u20 _ _ _ _ _ oa2 _ cap2 _ HO.out HK.out HB.out n18_ ho hb (ZY.plain _ Xb 8 2 false ZbW) d_;clear HO HK HB HR ho hb;have HO:=h_ ho3;have HK:=h_ hk3;have HB:=h_ hb3;have HRUN:=h_ hrun;clear ho3 hk3 hb3 hrun;go_wp2_with (at_builtin;refine wpList_append_run rfl _ _ 79 rfl HRUN.out rfl rfl ?_);clear HRUN;have HR:=h_ (YD Xb [85,110,105,116] 5 false ZbX w20 n1_ d_ 8 d_);refine HR.out.mono ?_;rintro e u21 ⟨v,rfl,ho,hb⟩;obtain ⟨oa2,cap2,rfl⟩:=ownsRow_form ho
 obtain ⟨vs3,oa3,cap3,w21,hrun,ho3,hk3,hb3⟩:=Yh w0 w20 u21 _ _ _ _ _ oa2 _ cap2 _ HO.out HK.out HB.out n18_ ho hb (ZY.plain _ Xb 8 5 false ZbX) d_;clear HO HK HB HR ho hb;have HO:=h_ ho3;have HK:=h_ hk3;have HB:=h_ hb3;have HRUN:=h_ hrun;clear ho3 hk3 hb3 hrun;go_wp2_with (at_builtin;refine wpList_append_run rfl _ _ 79 rfl HRUN.out rfl rfl ?_);clear HRUN;have HR:=h_ (YD QV [87,97,110,116,101,100,66,121,32,82,101,113,117,105,114,101,100,66,121,32,65,108,105,97,115,32,65,108,115,111] 6 true Zag w21 n1_ d_ 30 d_);refine HR.out.mono ?_;rintro e u22 ⟨v,rfl,ho,hb⟩;obtain ⟨oa2,cap2,rfl⟩:=ownsRow_form ho;obtain ⟨vs3,oa3,cap3,w22,hrun,ho3,hk3,hb3⟩:=Yh w0 w21 u22 _ _ _ _ _ oa2 _ cap2 _ HO.out HK.out HB.out n18_ ho hb (ZY.plain _ QV 30 6 true Zag) d_;clear HO HK HB HR ho hb;have HO:=h_ ho3;have HK:=h_ hk3;have HB:=h_ hb3;have HRUN:=h_ hrun;clear ho3 hk3 hb3 hrun;go_wp2_with (at_builtin;refine wpList_append_run rfl _ _ 79 rfl HRUN.out rfl rfl ?_);clear HRUN;have HR:=h_ (YD QV [68,101,102,97,117,108,116,73,110,115,116,97,110,99,101] 1 false Zae w22 n1_ d_ 30 d_);refine HR.out.mono ?_;rintro e u23 ⟨v,rfl,ho,hb⟩;obtain ⟨oa2,cap2,rfl⟩:=ownsRow_form ho;obtain ⟨vs3,oa3,cap3,w23,hrun,ho3,hk3,hb3⟩:=Yh w0 w22 u23 _ _ _ _ _ oa2 _ cap2 _ HO.out HK.out HB.out n18_ ho hb (ZY.plain _ QV 30 1 false Zae) d_;clear HO HK HB HR ho hb;have HO:=h_ ho3;have HK:=h_ hk3;have HB:=h_ hb3;have HRUN:=h_ hrun;clear ho3 hk3 hb3 hrun;go_wp2_with (at_builtin;refine wpList_append_run rfl _ _ 79 rfl HRUN.out rfl rfl ?_);clear HRUN;go_ret;have hk:=HK.out;have e:(((((((((((((((((((((((([]:List ZE)++keysOf Z7 30 1 false Zdq)++keysOf Z7 30 2 false ZcT)++keysOf Z7 30 6 true Zdc)++keysOf Z7 30 4 false Zdx)++keysOf Z7 30 3 false Zdv)++[⟨Zn,Zhx,10,false,2,Zaf⟩])++keysOf Zn 2 7 true Zah)++keysOf Zn 2 2 false Zad)++[⟨Zn,ZaK,10,false,2,Zak⟩])++keysOf Zn 2 4 false J5)++keysOf Zn 2 11 true Zam)++keysOf Zn 2 8 true J4)++keysOf Zn 2 6 true J9)++keysOf YL 4 11 true ZaX)++keysOf YL 4 3 false Zbb)++keysOf YL 4 1 false ZaV)++keysOf YL 4 5 false ZaR)++keysOf Xb 8 4 true Zb9)++keysOf Xb 8 9 true ZbU)++keysOf Xb 8 2 false ZbW)++keysOf Xb 8 5 false ZbX)++keysOf QV 30 6 true Zag)++keysOf QV 30 1 false Zae)=Zc:=d_;rw [e] at hk;have hl:vs3.length=42:=hk.1.trans Xz;obtain rfl:=HW.out;refine ⟨oa3,cap3,vs3,by rw [hl];rfl,ZG.of_own (enc:=Zm) (k:=6) (fun _=>rfl) HO.out,hk,HB.out⟩
end Go.Proofs.YtmgmbeipbeknaaaGreatDoor
