import Derived.Deep.LoopGhost
import Derived.Lib.SmallJoins
import Derived.Test.YtmgmbeipbeknaaaGreatDoorRB28
import Derived.Test.YtmgmbeipbeknaaaGreatDoorRB40
namespace Go.Proofs.YtmgmbeipbeknaaaGreatDoor
set_option linter.all false
set_option maxHeartbeats 16000000
def Jq(l:Str):Str:=(l.reverse.dropWhile Zj).reverse
theorem Zg9(c:UInt8)(t:Str):Jq (c::t)=if (t.reverse.dropWhile Zj).isEmpty then (if Zj c then [] else [c]) else c::Jq t:=by
 unfold Jq;rw [List.reverse_cons,List.dropWhile_append];split
 ·by_cases h:Zj c
  ·simp [h]
  ·simp [h]
 ·simp
theorem Zdt:∀(l:Str),Jq (l.dropWhile Zj)=trimS l
 |[]=>rfl
 |c::t=>by
  have ih:=Zdt t;have hs:trimS (c::t)=(Jq (c::t)).dropWhile Zj:=rfl;have hs':trimS t=(Jq t).dropWhile Zj:=rfl;rw [hs,List.dropWhile_cons];cases hc:Zj c with
  |true=>
   rw [if_pos rfl,ih,Zg9,hs'];split
   ·rename_i h
    have:Jq t=[]:=by unfold Jq;rw [List.isEmpty_iff.1 h];rfl
    simp [this]
   ·rw [List.dropWhile_cons,if_pos hc]
  |false=>
   rw [if_neg s_,Zg9];split
   ·simp [hc]
   ·rw [List.dropWhile_cons,if_neg (by simp [hc])]
theorem Ziu{l:Str}(h:∀c,l.getLast?=some c->Zj c=false):Jq l=l:=by
 unfold Jq;rw [Zku (l:=l.reverse) (by
  intro c t e;apply h
  have:l=t.reverse++[c]:=by rw [<-List.reverse_reverse l,e];simp
  rw [this];simp)]
 exact List.reverse_reverse l
theorem ZhH{l:Str}{c:UInt8}(h:l.getLast?=some c)(hc:Zj c=true):Jq l=Jq l.dropLast:=by
 obtain ⟨t,rfl⟩:=List.getLast?_eq_some_iff.1 h;unfold Jq;simp [hc]
open Go.Proofs.Tryz
open Go Go.RowKit
set_option maxRecDepth 100000
theorem m182_{p:Prop}(h:p:=by
  obtain ⟨y,rfl,hfy,hys,Hy,rfl⟩:=hrel;have i1:((y.size:Int)-1).toNat=y.size-1:=o_;have key:((∃h0:y.size-1<y.size,Zj y[y.size-1]=true)\/(∃h0:y.size-1<y.size,Zj y[y.size-1]=false))\/y.size=0:=by
   by_cases h0:y.size-1<y.size
   ·left
    cases h:Zj y[y.size-1]
    ·exact .inr ⟨h0,h⟩
    ·exact .inl ⟨h0,h⟩
   ·right;omega
  rcases key with (⟨h0,hb⟩|⟨h0,hb⟩)|h0
  ·obtain ⟨n1,n2,n3,n4⟩:=Xo (s:=y) o_
   have i2:0<=(y.size:Int)-1:=o_;have i3:(y.size:Int)-1<(y.size:Int):=o_;have i4:(y.size:Int)-1<=(y.size:Int):=o_;have HN:=h_ (show Jq (y.extract 0 (y.size-1)).data.toList=t by
    rw [<-Hy.out,Zk6,<-ZhH (Zfb y h0) hb])
   have HB:=h_ hb;clear hb;go_wp2_with (go_at_call 123;refine (JP _ _).mono ?_;rintro e w' ⟨rfl,rfl⟩;rw [HB.out]);go_roundg y.size
   case measure=>omega
   case rel=>exact ⟨y.extract 0 (y.size-1),rfl,n6_,n6_,HN,rfl⟩
  ·obtain ⟨n1,n2,n3,n4⟩:=Xo (s:=y) o_
   have i2:0<=(y.size:Int)-1:=o_;have i3:(y.size:Int)-1<(y.size:Int):=o_;have HN:=h_ (show y.data.toList=t by
    rw [<-Hy.out,Ziu (fun c hc=>by rw [Zfb y h0] at hc;injection hc with hc;subst hc;exact hb)])
   have HB:=h_ hb;clear hb;go_wp2_with (go_at_call 123;refine (JP _ _).mono ?_;rintro e w' ⟨rfl,rfl⟩;rw [HB.out]);exact m186_
  ·have hy:=QH h0
   subst hy;have HN:=h_ (show ([]:Str)=t by rw [<-Hy.out];rfl);clear i1 h0;go_wp2_with fail;exact m186_):p:=h
theorem m183_{p:Prop}(h:p:=by
  go_roundg (s.size-k)
  case measure=>omega
  case rel=>exact ⟨k+1,o_,n9_,o_,HT,rfl⟩):p:=h
theorem m184_{p:Prop}(h:p:=by
  subst this;have HT:=h_ (show b=true by
   have:=hall.out
   rw [c9_ s_] at this;rw [<-HB.out,this])
  go_wp2_with fail;exact m185_):p:=h
theorem m185_{p:Prop}(h:p:=by go_ret;exact ⟨ZB HT.out.symm,rfl⟩):p:=h
theorem m186_{p:Prop}(h:p:=by go_ret;exact ⟨Zbg (congrArg Value.string (by rw [<-HN.out])),rfl⟩):p:=h
theorem JP(c:UInt8)(w:World) :
  Calls prog 123 #[.int .u8 c.toNat] w fun e w'=>e=.returned (.bool (Zj c))/\w=w':=by
 go_enter func123,ntmps123;go_wp2;all_goals
  go_ret;refine ⟨ZB ?_,rfl⟩;rw [Zf6,Bool.eq_iff_iff];simp;try omega
theorem Zbo(c:UInt8)(w:World) :
  Calls prog 124 #[.int .u8 c.toNat] w fun e w'=>e=.returned (.bool (Yi c))/\w=w':=by
 go_enter func124,ntmps124;go_wp2;all_goals
  go_ret;refine ⟨ZB ?_,rfl⟩;rw [Zcm,Bool.eq_iff_iff];simp;omega
theorem Zhk(c:UInt8)(w:World) :
  Calls prog 125 #[.int .u8 c.toNat] w fun e w'=>e=.returned (.bool (isDigit c))/\w=w':=by
 go_enter func125,ntmps125;go_wp2;all_goals
  go_ret;refine ⟨ZB ?_,rfl⟩;rw [Zc2,Bool.eq_iff_iff];simp;omega
theorem Zr2(x:ByteArray):(x.extract 1 x.size).data.toList=x.data.toList.drop 1:=Lib.extract_to_end x 1
theorem Zfb(x:ByteArray)(h:x.size-1<x.size):x.data.toList.getLast?=some x[x.size-1]:=by
 rw [List.getLast?_eq_getElem?]
 have:x.data.toList.length=x.size:=s_
 rw [this,List.getElem?_eq_getElem o_];rfl
theorem Zk6(x:ByteArray):(x.extract 0 (x.size-1)).data.toList=x.data.toList.dropLast:=by
 rw [Lib.extract_data,List.dropLast_eq_take];simp
theorem Zry(s:ByteArray)(w:World)(h63:s.size<=9223372036854775807)(t:Str)(ht:trimS s.data.toList=t) :
  Calls prog 64 #[.string s] w fun e w'=>e=.returned (.string ⟨t.toArray⟩)/\w=w':=by
 have HT:=h_ ht;clear ht;go_enter func64,ntmps64;go_wp2_with fail;go_loopg [0] (s.size+1) (fun f v wr=>∃x:ByteArray,v=.string x/\x.size<f/\x.size<=s.size/\Hid (x.data.toList.dropWhile Zj=s.data.toList.dropWhile Zj)/\w=wr)
 case atStart=>exact ⟨s,rfl,o_,o_,rfl,rfl⟩
 case round=>
  obtain ⟨x,rfl,hfu,hxs,Hx,rfl⟩:=hrel;have key:((∃h0:0<x.size,Zj x[0]=true)\/(∃h0:0<x.size,Zj x[0]=false))\/x.size=0:=by
   by_cases h0:0<x.size
   ·left
    cases h:Zj x[0]
    ·exact .inr ⟨h0,h⟩
    ·exact .inl ⟨h0,h⟩
   ·right;omega
  rcases key with (⟨h0,hb⟩|⟨h0,hb⟩)|h0
  ·obtain ⟨n1,n2,n3,n4⟩:=Xo (s:=x) o_
   have HN:=h_ (show (x.extract 1 x.size).data.toList.dropWhile Zj=s.data.toList.dropWhile Zj by
    rw [<-Hx.out,Zr2]
    have:=drop_cons x 0 h0
    rw [List.drop_zero] at this;rw [this,List.dropWhile_cons,if_pos hb,List.drop_succ_cons,List.drop_zero])
   have HB:=h_ hb;clear hb;go_wp2_with (go_at_call 123;refine (JP _ _).mono ?_;rintro e w' ⟨rfl,rfl⟩;rw [HB.out]);go_roundg x.size
   case measure=>omega
   case rel=>exact ⟨x.extract 1 x.size,rfl,n6_,n6_,HN,rfl⟩
  ·obtain ⟨n1,n2,n3,n4⟩:=Xo (s:=x) o_
   have HX:=h_ (show Jq x.data.toList=t by
    rw [<-HT.out,<-Zdt,<-Hx.out]
    have:=drop_cons x 0 h0
    rw [List.drop_zero] at this;rw [this,List.dropWhile_cons,if_neg (by simp [hb])])
   have HB:=h_ hb;clear hb;go_wp2_with (go_at_call 123;refine (JP _ _).mono ?_;rintro e w' ⟨rfl,rfl⟩;rw [HB.out]);go_loopg [0] (x.size+1) (fun f v wr=>∃y:ByteArray,v=.string y/\y.size<f/\y.size<=s.size/\Hid (Jq y.data.toList=t)/\w=wr)
   case atStart=>exact ⟨x,rfl,o_,o_,HX.out,rfl⟩
   case round=>
    exact m182_
  ·have hx:=QH h0
   subst hx;have HX:=h_ (show Jq (⟨#[]⟩:ByteArray).data.toList=t by
    rw [<-HT.out,<-Zdt,<-Hx.out];rfl)
   clear h0;go_wp2_with fail;go_loopg [0] (0+1) (fun f v wr=>∃y:ByteArray,v=.string y/\y.size<f/\y.size<=s.size/\Hid (Jq y.data.toList=t)/\w=wr)
   case atStart=>exact ⟨⟨#[]⟩,rfl,d_,Nat.zero_le _,HX.out,rfl⟩
   case round=>
    exact m182_
theorem Zu7{c:UInt8}{n:Nat}(hn:n<256):((c.toNat:Int)==(n:Int))=(c==UInt8.ofNat n):=by
 rw [Bool.eq_iff_iff];simp only [beq_iff_eq,<-UInt8.toNat_inj];rw [UInt8.toNat_ofNat_of_lt' hn];omega
theorem Zfs(s:ByteArray)(k:Nat)(h:k<s.size):s.data.toList[k]' n32_=s[k]:=rfl
theorem Zox(s:ByteArray)(w:World)(h63:s.size<=9223372036854775807)(b:Bool)(hb:ZbC s.data.toList=b) :
  Calls prog 66 #[.string s] w fun e w'=>e=.returned (.bool b)/\w=w':=by
 have HB:=h_ hb;clear hb;go_enter func66,ntmps66;go_wp2_with fail;go_loopg [3] (s.size+1) (fun f i wr=>∃k:Nat,k<=s.size/\i=.int .i64 k/\s.size-k<f/\Hid (ZbC (s.data.toList.take k)=true)/\w=wr)
 case atStart=>exact ⟨0,Nat.zero_le _,rfl,o_,rfl,rfl⟩
 case round=>
  obtain ⟨k,hk,rfl,hfu,hall,rfl⟩:=hrel;by_cases hlt:k<s.size
  ·have hsn:=Ji s.data.toList k n31_
   rw [Zfs s k hlt] at hsn;have hbi:=ZjX s[k];cases hp:Jz s[k] with
   |false=>
    have HT:=h_ (show ZbC (s.data.toList.take (k+1))=true by
     rw [hsn];have:=hall.out;unfold ZbC at *;rw [List.all_append,this];simp [hp])
    rw [hp] at hbi;replace hbi:=of_decide_eq_false hbi.symm;clear hsn hp;by_cases h32:(s[k].toNat:Int)<32
    ·have h9:((s[k].toNat:Int)==9)=true:=by rw [beq_iff_eq];omega
     have h9n:((s[k].toNat:Int)!=9)=false:=by rw [bne_eq_false_iff_eq];omega
     have h127:((s[k].toNat:Int)==127)=false:=n15_;have h127n:((s[k].toNat:Int)!=127)=true:=n118_;have q32:decide ((s[k].toNat:Int)<32)=true:=by simpa using h32
     clear hbi h32;go_wp2_with fail;exact m183_
    ·have h127:((s[k].toNat:Int)==127)=false:=n15_
     have h127n:((s[k].toNat:Int)!=127)=true:=n118_;have q32:decide ((s[k].toNat:Int)<32)=false:=by simpa using h32
     clear hbi h32;go_wp2_with fail;exact m183_
   |true=>
    have HT:=h_ (show b=false by
     rw [<-HB.out];unfold ZbC;rw [List.all_eq_false];exact ⟨s[k],by rw [<-Zfs s k hlt];exact List.getElem_mem _,by simp [hp]⟩)
    rw [hp] at hbi;replace hbi:=of_decide_eq_true hbi.symm;clear hsn hp;by_cases h32:(s[k].toNat:Int)<32
    ·by_cases hn9:(s[k].toNat:Int)=9
     ·omega
     ·have h9:((s[k].toNat:Int)==9)=false:=n15_
      have h9n:((s[k].toNat:Int)!=9)=true:=n118_;have q32:decide ((s[k].toNat:Int)<32)=true:=by simpa using h32
      clear hbi hn9 h32;go_wp2_with fail;exact m185_
    ·have h127:((s[k].toNat:Int)==127)=true:=by rw [beq_iff_eq];omega
     have h127n:((s[k].toNat:Int)!=127)=false:=by rw [bne_eq_false_iff_eq];omega
     have q32:decide ((s[k].toNat:Int)<32)=false:=by simpa using h32
     clear hbi h32;go_wp2_with fail;exact m185_
  ·have:k=s.size:=o_
   exact m184_
def ofC(d:Bool)(c:UInt8):Bool:=Yi c||(d&&isDigit c)
theorem ZpD(s:ByteArray)(n:Int)(d:Bool)(w:World)(h63:s.size<=9223372036854775807)(b:Bool)(hb:JC s.data.toList n (ofC d)=b) :
  Calls prog 67 #[.string s,.int .i64 n,.bool d] w fun e w'=>e=.returned (.bool b)/\w=w':=by
 have hlen:s.data.toList.length=s.size:=s_;by_cases h0:s.size=0
 ·have:=QH h0
  subst this
  have:b=false:=hb.symm
  subst this;clear hb h0 hlen;go_enter func67,ntmps67;go_wp2;go_ret;exact ⟨rfl,rfl⟩
 ·obtain ⟨n1,n2,n3,n4⟩:=Xo h0
  have hne:s.data.toList.isEmpty=false:=by rw [<-ByteArray.toList_eq];exact n1
  unfold JC at hb;rw [hne,hlen] at hb;clear hne hlen;have h1:¬(s.size:Int)<1:=o_;by_cases hn:(s.size:Int)<=n
  ·have hd:decide ((s.size:Int)<=n)=true:=by simpa using hn
   rw [hd] at hb;simp only [Bool.not_false,Bool.true_and] at hb;have HB:=h_ hb;have hn':¬n<(s.size:Int):=o_;clear hb hd;go_enter func67,ntmps67;go_wp2_with fail;go_loopg [7] (s.size+1) (fun f i wr=>∃k:Nat,k<=s.size/\i=.int .i64 k/\s.size-k<f/\Hid ((s.data.toList.take k).all (ofC d)=true)/\w=wr)
   case atStart=>exact ⟨0,Nat.zero_le _,rfl,o_,rfl,rfl⟩
   case round=>
    obtain ⟨k,hk,rfl,hfu,hall,rfl⟩:=hrel;by_cases hlt:k<s.size
    ·have hsn:=Ji s.data.toList k n31_
     rw [Zfs s k hlt] at hsn;cases hp:ofC d s[k] with
     |true=>
      have HT:=h_ (show (s.data.toList.take (k+1)).all (ofC d)=true by
       rw [hsn,List.all_append,hall.out];simp [hp])
      clear hsn;unfold ofC at hp;cases hl:Yi s[k] with
      |true=>
       have HL:=h_ hl;clear hl hp;go_wp2_with (go_at_call 124;refine (Zbo _ _).mono ?_;rintro e w' ⟨rfl,rfl⟩;rw [HL.out]);exact m183_
      |false=>
       rw [hl] at hp;simp only [Bool.false_or,Bool.and_eq_true] at hp;obtain ⟨hd1,hd2⟩:=hp;subst hd1;have HL:=h_ hl;clear hl;have HD:=h_ hd2;clear hd2;go_wp2_with (first
        |(go_at_call 124;refine (Zbo _ _).mono ?_;rintro e w' ⟨rfl,rfl⟩;rw [HL.out])
        |(go_at_call 125;refine (Zhk _ _).mono ?_;rintro e w' ⟨rfl,rfl⟩;rw [HD.out]))
       exact m183_
     |false=>
      have HT:=h_ (show b=false by
       rw [<-HB.out,List.all_eq_false];exact ⟨s[k],by rw [<-Zfs s k hlt];exact List.getElem_mem _,by simp [hp]⟩)
      clear hsn;unfold ofC at hp;rw [Bool.or_eq_false_iff] at hp;obtain ⟨hl,hp⟩:=hp;have HL:=h_ hl;clear hl;cases d with
      |false=>
       clear hp;go_wp2_with (go_at_call 124;refine (Zbo _ _).mono ?_;rintro e w' ⟨rfl,rfl⟩;rw [HL.out]);exact m185_
      |true=>
       simp only [Bool.true_and] at hp;have HD:=h_ hp;clear hp;go_wp2_with (first
        |(go_at_call 124;refine (Zbo _ _).mono ?_;rintro e w' ⟨rfl,rfl⟩;rw [HL.out])
        |(go_at_call 125;refine (Zhk _ _).mono ?_;rintro e w' ⟨rfl,rfl⟩;rw [HD.out]))
       exact m185_
    ·have:k=s.size:=o_
     exact m184_
  ·have hd:decide ((s.size:Int)<=n)=false:=by simpa using hn
   rw [hd] at hb
   have:b=false:=hb.symm
   subst this;have hn':n<(s.size:Int):=o_;clear hb hd;go_enter func67,ntmps67;go_wp2;go_ret;exact ⟨rfl,rfl⟩
theorem ZqX(s:ByteArray)(w:World)(h63:s.size<=9223372036854775807)(b:Bool)(hb:Zbt s.data.toList=b) :
  Calls prog 67 #[.string s,.int .i64 20,.bool false] w fun e w'=>e=.returned (.bool b)/\w=w':=by
 refine ZpD s 20 false w h63 b ?_;rw [<-hb,<-Zh8]
 have:ofC false=Yi:=by funext c;simp [ofC]
 rw [this]
theorem Zs9(s:ByteArray)(w:World)(h63:s.size<=9223372036854775807)(b:Bool)(hb:ZfS s.data.toList=b) :
  Calls prog 67 #[.string s,.int .i64 40,.bool true] w fun e w'=>e=.returned (.bool b)/\w=w':=by
 refine ZpD s 40 true w h63 b ?_;rw [<-hb,<-Zjm]
 have:ofC true=fun c=>Yi c||isDigit c:=by funext c;simp [ofC]
 rw [this]
theorem m187_{p:Prop}(h:p:=by
  have H2:=Zmq ka o_ _ h2;clear h2;have H3:=ZgX va o_ _ h3;clear h3;go_enter func54,ntmps54;go_wp2_with (first
   |(go_at_call 67;with_reducible refine (H1.out _).mono ?_;rintro e w' ⟨rfl,rfl⟩)
   |(go_at_call 67;with_reducible refine (H2.out _).mono ?_;rintro e w' ⟨rfl,rfl⟩)
   |(go_at_call 66;with_reducible refine (H3.out _).mono ?_;rintro e w' ⟨rfl,rfl⟩)
   |(go_at_call 64;with_reducible refine (HTv.out _).mono ?_;rintro e w' ⟨rfl,rfl⟩))
  go_ret;exact ⟨rfl,HB.out⟩):p:=h
theorem ZeZ{x:ByteArray}(h:x.size-1<x.size):Zds x.data.toList=(x[x.size-1]==92):=by
 unfold Zds;rw [Zfb x h];rfl
theorem ZfG(s:ByteArray)(h63:s.size<=9223372036854775807)(b:Bool)(hb:Zbt s.data.toList=b) :
  Hid (∀w,Calls prog 67 #[.string s,.int .i64 20,.bool false] w fun e w'=>e=.returned (.bool b)/\w=w'):=h_ fun w=>ZqX s w h63 b hb
theorem Zmq(s:ByteArray)(h63:s.size<=9223372036854775807)(b:Bool)(hb:ZfS s.data.toList=b) :
  Hid (∀w,Calls prog 67 #[.string s,.int .i64 40,.bool true] w fun e w'=>e=.returned (.bool b)/\w=w'):=h_ fun w=>Zs9 s w h63 b hb
theorem ZgX(s:ByteArray)(h63:s.size<=9223372036854775807)(b:Bool)(hb:ZbC s.data.toList=b) :
  Hid (∀w,Calls prog 66 #[.string s] w fun e w'=>e=.returned (.bool b)/\w=w'):=h_ fun w=>Zox s w h63 b hb
theorem Zvv(s y:ByteArray)(h63:s.size<=9223372036854775807)(hy:y=⟨(trimS s.data.toList).toArray⟩) :
  Hid (∀w,Calls prog 64 #[.string s] w fun e w'=>e=.returned (.string y)/\w=w'):=h_ fun w=>by rw [hy];exact Zry s w h63 _ rfl
theorem Zj4(sa ka va:ByteArray)(n:Int)(w:World)(hs:sa.size<=1000000000)(hk:ka.size<=1000000000)(hv:va.size<=1000000000)(b:Bool)(hb:YT ⟨sa.data.toList,ka.data.toList,va.data.toList,n⟩=b) :
  Calls prog 54 #[.agg #[.string sa,.string ka,.string va,.int .i64 n]] w fun e w'=>e=.returned (.bool b)/\Below w.heap.size w w':=by
 obtain ⟨y,hy⟩:∃y:ByteArray,y=⟨(trimS va.data.toList).toArray⟩:=⟨_,rfl⟩;have hyl:y.data.toList=trimS va.data.toList:=by rw [hy]
 have hlk:ka.data.toList.length=ka.size:=s_;have hlv:va.data.toList.length=va.size:=s_;have hc:=Zpl _ _ _ n b hb;have HB:=h_ (show Below w.heap.size w (w.alloc (.cells #[.string sa,.string ka,.string va,.int .i64 n] 53)) from b_.alloc l_ _);have heq:∀q,(trimS va.data.toList==va.data.toList)=q->(y.toList==va.toList)=q:=by
  intro q hq;rw [<-hq,ByteArray.toList_eq,ByteArray.toList_eq,hyl]
 have HTv:=Zvv va y o_ hy;have Hy:=h_ hy;clear hy hyl hb;cases hc with
 |sec h1 hb=>
  subst hb;have H1:=ZfG sa o_ _ h1;clear h1 heq hlk hlv;go_enter func54,ntmps54;go_wp2_with (go_at_call 67;with_reducible refine (H1.out _).mono ?_;rintro e w' ⟨rfl,rfl⟩);go_ret;exact ⟨rfl,HB.out⟩
 |key h1 h2 hb=>
  subst hb;have H1:=ZfG sa o_ _ h1;clear h1 heq hlk hlv;have H2:=Zmq ka o_ _ h2;clear h2;go_enter func54,ntmps54;go_wp2_with (first
   |(go_at_call 67;with_reducible refine (H1.out _).mono ?_;rintro e w' ⟨rfl,rfl⟩)
   |(go_at_call 67;with_reducible refine (H2.out _).mono ?_;rintro e w' ⟨rfl,rfl⟩))
  go_ret;exact ⟨rfl,HB.out⟩
 |good h1 h2 h3 hb=>
  subst hb;have H1:=ZfG sa o_ _ h1;clear h1 heq hlk hlv;have H2:=Zmq ka o_ _ h2;clear h2;have H3:=ZgX va o_ _ h3;clear h3;go_enter func54,ntmps54;go_wp2_with (first
   |(go_at_call 67;with_reducible refine (H1.out _).mono ?_;rintro e w' ⟨rfl,rfl⟩)
   |(go_at_call 67;with_reducible refine (H2.out _).mono ?_;rintro e w' ⟨rfl,rfl⟩)
   |(go_at_call 66;with_reducible refine (H3.out _).mono ?_;rintro e w' ⟨rfl,rfl⟩))
  go_ret;exact ⟨rfl,HB.out⟩
 |trim h1 h2 h3 h4 hb=>
  subst hb;have q4:=heq _ h4;have H1:=ZfG sa o_ _ h1;clear h1 heq hlk hlv h4;exact m187_
 |back h1 h2 h3 h4 h5 hb=>
  subst hb;have q4:=heq _ h4;have hz:va.size-1<va.size:=by
   rcases Nat.eq_zero_or_pos va.size with h|h
   ·have:=QH h;subst this;cases h5
   ·omega
  obtain ⟨n1,n2,n3,n4⟩:=Xo (s:=va) o_;have i1:((va.size:Int)-1).toNat=va.size-1:=o_;have i2:0<=(va.size:Int)-1:=o_;have i3:(va.size:Int)-1<(va.size:Int):=o_;have e92:((va[va.size-1].toNat:Int)==92)=true:=by rw [<-(ZeZ hz).symm.trans h5];exact Zu7 d_
  have e92':((va[va.size-1].toNat:Int)!=92)=false:=by simp [bne,e92]
  have H1:=ZfG sa o_ _ h1;clear h1 heq hlk hlv h4 h5;exact m187_
 |len h1 h2 h3 h4 h5 h6=>
  have q4:=heq _ h4;rw [hlk,hlv] at h6;have H6:=h_ h6;clear h6;have H1:=ZfG sa o_ _ h1;clear h1 heq hlk hlv h4;have H2:=Zmq ka o_ _ h2;clear h2;have H3:=ZgX va o_ _ h3;clear h3;have key:va.size=0\/∃hz:va.size-1<va.size,((va[va.size-1].toNat:Int)==92)=false:=by
   rcases Nat.eq_zero_or_pos va.size with h|h
   ·exact .inl h
   ·exact .inr ⟨o_,by rw [<-(ZeZ o_).symm.trans h5];exact Zu7 d_⟩
  clear h5;rcases key with h0|⟨hz,e92⟩
  ·have:=QH h0
   subst this
   have:y=⟨#[]⟩:=by rw [Hy.out];rfl
   subst this;clear h0 q4;go_enter func54,ntmps54;go_wp2_with (first
    |(go_at_call 67;with_reducible refine (H1.out _).mono ?_;rintro e w' ⟨rfl,rfl⟩)
    |(go_at_call 67;with_reducible refine (H2.out _).mono ?_;rintro e w' ⟨rfl,rfl⟩)
    |(go_at_call 66;with_reducible refine (H3.out _).mono ?_;rintro e w' ⟨rfl,rfl⟩)
    |(go_at_call 64;with_reducible refine (HTv.out _).mono ?_;rintro e w' ⟨rfl,rfl⟩))
   go_ret;refine ⟨ZB ?_,HB.out⟩;rw [<-H6.out,decide_eq_decide];show _↔ka.size+1+0<=400;omega
  ·obtain ⟨n1,n2,n3,n4⟩:=Xo (s:=va) o_
   have i1:((va.size:Int)-1).toNat=va.size-1:=o_;have i2:0<=(va.size:Int)-1:=o_;have i3:(va.size:Int)-1<(va.size:Int):=o_;have e92':((va[va.size-1].toNat:Int)!=92)=true:=by simp [bne,e92]
   go_enter func54,ntmps54;go_wp2_with (first
    |(go_at_call 67;with_reducible refine (H1.out _).mono ?_;rintro e w' ⟨rfl,rfl⟩)
    |(go_at_call 67;with_reducible refine (H2.out _).mono ?_;rintro e w' ⟨rfl,rfl⟩)
    |(go_at_call 66;with_reducible refine (H3.out _).mono ?_;rintro e w' ⟨rfl,rfl⟩)
    |(go_at_call 64;with_reducible refine (HTv.out _).mono ?_;rintro e w' ⟨rfl,rfl⟩))
   go_ret;refine ⟨ZB ?_,HB.out⟩;rw [<-H6.out,decide_eq_decide];omega
theorem Zul{l:List Ln}{k:Nat}(h:0<k)(hk:k<=l.length):Yq none (l.take k)≠[]:=by
 cases l with
 |nil=>simp at hk;omega
 |cons x r=>
  cases k with
  |zero=>omega
  |succ k=>simp [Yq,ZaP]
theorem Zn6(oa:Option Addr)(cap:Nat)(l:List Ln)(w:World)(h:ZaO w oa l)(hl:l.length<=100000000)(hx:∀x∈l,JY x)(hn:∀x∈l,x.sec≠[])(hw:(Xj l).length<=1000000000) :
  Calls prog 55 #[.slice oa l.length cap] w fun e w'=>ZuZ w l e w':=by
 have HX:=h_ hx;clear hx;have HN:=h_ hn;clear hn;have HR:=h_ h;clear h;go_enter func55,ntmps55;go_wp2_with fail;go_loopg [3,4,9] (l.length+1) (fun f sv qv i wr=>∃(k:Nat) (sb qb:ByteArray),k<=l.length/\i=.int .i64 k/\sv=.string sb/\qv=.string qb/\l.length-k<f/\sb.size<=(Xj l).length/\Hid (sb.data.toList=Yq none (l.take k))/\
  Hid (∀h0:0<k,∃hk:k-1<l.length,qb.data.toList=(l[k-1]'hk).sec)/\Hid (k=0->qb=⟨#[]⟩)/\Hid (Below w.heap.size w wr))
 case atStart=>exact ⟨0,⟨#[]⟩,⟨#[]⟩,o_,rfl,rfl,rfl,o_,Nat.zero_le _,rfl,(fun h=>absurd h o_),(fun _=>rfl),Below.refl _ _⟩
 case round=>
  obtain ⟨k,sb,qb,hk,rfl,rfl,rfl,hfu,hsl,HS,HQ,HQ0,HB⟩:=hrel;have hsz:=HB.out.size;by_cases hlt:k<l.length
  ·obtain ⟨bb,o,rfl,c0,c1,c2,c3⟩:=(HR.out.below HB.out l_) k hlt
   have hxk:=HX.out l[k] (List.getElem_mem _);have hnk:=HN.out l[k] (List.getElem_mem _);have hlen:=Xg l (k+1);obtain ⟨sx,hsx⟩:∃sx:ByteArray,sx=⟨l[k].sec.toArray⟩:=⟨_,rfl⟩;obtain ⟨kx,hkx⟩:∃kx:ByteArray,kx=⟨l[k].key.toArray⟩:=⟨_,rfl⟩;obtain ⟨vx,hvx⟩:∃vx:ByteArray,vx=⟨l[k].val.toArray⟩:=⟨_,rfl⟩;have zs:sx.size<=1000000000:=by rw [hsx];exact hxk.sec
   have zk:kx.size<=1000000000:=by rw [hkx];exact hxk.key
   have zv:vx.size<=1000000000:=by rw [hvx];exact hxk.val
   have hs0:sx.size≠0:=by
    rw [hsx];intro e;exact hnk (c10_ e)
   obtain ⟨n1,n2,n3,n4⟩:=Xo hs0;rw [<-hsx] at c0;rw [<-hkx] at c1;rw [<-hvx] at c2;have HSx:=h_ hsx;clear hsx;have HKx:=h_ hkx;clear hkx;have HVx:=h_ hvx;clear hvx;generalize l[k].at_=xat at c3;have HB3:=h_ (HB.out.trans ((show Below wr.heap.size wr (wr.alloc (.cells #[.string sx,.string kx,.string vx,.int .i64 xat] 53)) from b_.alloc l_ _).mono hsz));have HQ1:=h_ (show ∀h0:0<k+1,∃hk:k+1-1<l.length,sx.data.toList=(l[k+1-1]'hk).sec from fun _=>⟨o_,by rw [HSx.out];simp⟩);have hlb:∀y:ByteArray,y.data.toList=Yq none (l.take (k+1))->y.size<=(Xj l).length:=by
    intro y hy
    have:y.data.toList.length=y.size:=s_
    rw [<-this,hy];exact hlen
   have HLb:=h_ hlb;clear hlb hlen hnk hxk;by_cases h0:k=0
   ·have hq0:=HQ0.out h0
    subst hq0;have hs1:sb.data.toList=[]:=by rw [HS.out,h0];simp [Yq]
    have:sb=⟨#[]⟩:=Yu hs1
    subst this;clear hs1;subst h0;simp only [Nat.zero_mul,Nat.add_zero] at c0 c1 c2 c3;have HT:=h_ (show (((⟨#[]⟩:ByteArray)++((⟨#[91]⟩++sx)++⟨#[93,10]⟩))++(((kx++(⟨#[61]⟩:ByteArray))++vx)++⟨#[10]⟩)).data.toList=Yq none (l.take (0+1)) by
     rw [ZaA hlt,dif_pos rfl,Joins.data_append,Joins.data_append,JI kx vx l[0] (by rw [HKx.out]) (by rw [HVx.out]),Joins.data_append,Joins.data_append,HSx.out];simp [ZaP,Yq])
    go_wp2_with fail;go_roundg (l.length-0)
    case measure=>omega
    case rel=>exact ⟨0+1,_,sx,o_,n9_,rfl,rfl,o_,HLb.out _ HT.out,HT,HQ1,(fun h=>absurd h o_),HB3⟩
   ·obtain ⟨hk1,hqb⟩:=HQ.out o_
    have hsb0:sb.size≠0:=by
     intro e
     have:=QH e
     subst this;exact Zul (by omega:0<k) hk HS.out.symm
    obtain ⟨m1,m2,m3,m4⟩:=Xo hsb0;have HQb:=h_ hqb;clear hqb;cases hq:(sx.toList==qb.toList) with
    |true=>
     have hq':(sx.toList !=qb.toList)=false:=by simp [bne,hq]
     have HT:=h_ (show (sb++(((kx++(⟨#[61]⟩:ByteArray))++vx)++⟨#[10]⟩)).data.toList=Yq none (l.take (k+1)) by
      have e:l[k].sec=(l[k-1]'hk1).sec:=by
       have h1:=eq_of_beq hq;rw [ByteArray.toList_eq,ByteArray.toList_eq,HSx.out,HQb.out] at h1;exact h1
      rw [ZaA hlt,dif_neg h0,if_pos e,Joins.data_append,JI kx vx l[k] (by rw [HKx.out]) (by rw [HVx.out]),HS.out];simp)
     have HQ2:=h_ (show ∀h0:0<k+1,∃hk:k+1-1<l.length,qb.data.toList=(l[k+1-1]'hk).sec from fun _=>⟨o_,by
      have h1:=eq_of_beq hq;rw [ByteArray.toList_eq,ByteArray.toList_eq] at h1;rw [<-h1,HSx.out];simp⟩)
     go_wp2_with fail;go_roundg (l.length-k)
     case measure=>omega
     case rel=>exact ⟨k+1,_,qb,o_,n9_,rfl,rfl,o_,HLb.out _ HT.out,HT,HQ2,(fun h=>absurd h o_),HB3⟩
    |false=>
     have hq':(sx.toList !=qb.toList)=true:=by simp [bne,hq]
     have HT:=h_ (show (((sb++(⟨#[10]⟩:ByteArray))++((⟨#[91]⟩++sx)++⟨#[93,10]⟩))++(((kx++(⟨#[61]⟩:ByteArray))++vx)++⟨#[10]⟩)).data.toList=Yq none (l.take (k+1)) by
      have e:¬l[k].sec=(l[k-1]'hk1).sec:=by
       intro h1;rw [c11_] at hq;apply hq;rw [ByteArray.toList_eq,ByteArray.toList_eq,HSx.out,HQb.out];exact h1
      rw [ZaA hlt,dif_neg h0,if_neg e,Joins.data_append,JI kx vx l[k] (by rw [HKx.out]) (by rw [HVx.out]),Joins.data_append,Joins.data_append,Joins.data_append,Joins.data_append,HS.out,HSx.out];simp [ZaP])
     go_wp2_with fail;go_roundg (l.length-k)
     case measure=>omega
     case rel=>exact ⟨k+1,_,sx,o_,n9_,rfl,rfl,o_,HLb.out _ HT.out,HT,HQ1,(fun h=>absurd h o_),HB3⟩
  ·have:k=l.length:=o_
   subst this;have HT:=h_ (show sb=⟨(Xj l).toArray⟩ by
    apply Yu;rw [HS.out,List.take_length];rfl)
   go_wp2_with fail;go_ret;exact ⟨by rw [<-HT.out];rfl,HB.out⟩
def ZgJ:List Ln->Nat
 |[]=>0
 |x::r=>x.key.length+x.val.length+2+ZgJ r
theorem Zp2(l:List Ln)(x:Ln):ZgJ (l++[x])=ZgJ l+(x.key.length+x.val.length+2):=by
 induction l with
 |nil=>simp [ZgJ]
 |cons a r ih=>simp only [c12_,ZgJ,ih];omega
theorem ZfF:∀(l:List Ln) (p:Option Str),ZgJ l<=(Yq p l).length
 |[],p=>by simp [ZgJ]
 |x::r,none=>by have:=ZfF r (some x.sec);simp [ZgJ,Yq,ZbD];omega
 |x::r,some s=>by have:=ZfF r (some x.sec);simp [ZgJ,Yq,ZbD];omega
theorem Zjd(oa:Option Addr)(cap:Nat)(l:List Ln)(w:World)(h:ZaO w oa l)(hl:l.length<=100000000)(hx:∀x∈l,JY x)(hw:l.all YT=true->(Xj l).length<=1000000000)(b:Bool)(hb:Zcc l=b) :
  Calls prog 22 #[.slice oa l.length cap] w fun e w'=>e=.returned (.bool b)/\Below w.heap.size w w':=by
 have HX:=h_ hx;clear hx;have HR:=h_ h;clear h;have Hb:=h_ hb;clear hb;have HW:=h_ hw;clear hw;go_enter func22,ntmps22;go_wp2_with fail;go_loopg [3,8] (l.length+1) (fun f nv i wr=>∃(k nn:Nat),k<=l.length/\i=.int .i64 k/\nv=.int .i64 nn/\l.length-k<f/\nn<=20000/\Hid (nn=ZgJ (l.take k))/\Hid ((l.take k).all YT=true)/\Hid (Below w.heap.size w wr))
 case atStart=>exact ⟨0,0,o_,rfl,rfl,o_,o_,rfl,rfl,Below.refl _ _⟩
 case round=>
  obtain ⟨k,nn,hk,rfl,rfl,hfu,hnn,Hn,Ha,HB⟩:=hrel;have hsz:=HB.out.size;by_cases hlt:k<l.length
  ·obtain ⟨bb,o,rfl,c0,c1,c2,c3⟩:=(HR.out.below HB.out l_) k hlt
   have hxk:=HX.out l[k] (List.getElem_mem _);obtain ⟨sx,hsx⟩:∃sx:ByteArray,sx=⟨l[k].sec.toArray⟩:=⟨_,rfl⟩;obtain ⟨kx,hkx⟩:∃kx:ByteArray,kx=⟨l[k].key.toArray⟩:=⟨_,rfl⟩;obtain ⟨vx,hvx⟩:∃vx:ByteArray,vx=⟨l[k].val.toArray⟩:=⟨_,rfl⟩;have zs:sx.size<=1000000000:=by rw [hsx];exact hxk.sec
   have zk:kx.size<=1000000000:=by rw [hkx];exact hxk.key
   have zv:vx.size<=1000000000:=by rw [hvx];exact hxk.val
   obtain ⟨m,hm⟩:∃m,YT l[k]=m:=⟨_,rfl⟩;have HC:=fun w=>h_ (Zj4 sx kx vx l[k].at_ w zs zk zv m (by rw [hsx,hkx,hvx];exact hm))
   have hsum:ZgJ (l.take (k+1))=nn+(kx.size+vx.size+2):=by
    rw [c4_ hlt,Zp2,<-Hn.out,hkx,hvx];rfl
   have hle:ZgJ (l.take (k+1))<=(Xj l).length:=Nat.le_trans (ZfF _ none) (Xg l (k+1));rw [hsum] at hle;rw [<-hsx] at c0;rw [<-hkx] at c1;rw [<-hvx] at c2;have HSum:=h_ hsum;clear hsum;clear hsx hkx hvx hxk;generalize l[k].at_=xat at *;have HB3:=h_ (HB.out.trans ((show Below wr.heap.size wr (wr.alloc (.cells #[.string sx,.string kx,.string vx,.int .i64 xat] 53)) from b_.alloc l_ _).mono hsz));have hP3:=heap_alloc_new wr (.cells #[.string sx,.string kx,.string vx,.int .i64 xat] 53);cases m with
   |false=>
    have HR2:=h_ (show b=false by
     rw [<-Hb.out];unfold Zcc
     have:l.all YT=false:=by rw [List.all_eq_false];exact ⟨l[k],List.getElem_mem _,by simp [hm]⟩
     rw [this];rfl)
    clear hm hP3;go_wp2_with fail;refine (HC _).out.mono ?_;rintro e w3 ⟨rfl,hb3⟩;have HB4:=h_ (HB3.out.trans (hb3.mono HB3.out.size));clear hb3;go_wp2_with fail;go_ret;exact ⟨n101_,HB4.out⟩
   |true=>
    have HA:=h_ (show (l.take (k+1)).all YT=true by
     rw [c4_ hlt,List.all_append,Ha.out];simp [hm])
    clear hm;go_wp2_with fail;generalize hw3:wr.alloc (.cells #[.string sx,.string kx,.string vx,.int .i64 xat] 53)=w3 at *;clear hw3;generalize hPn:wr.heap.size=P at *;clear hPn;refine (HC _).out.mono ?_;rintro e w4 ⟨rfl,hb4⟩;have hP4:=(Fr.of_below hb4 (fun _=>False)).heap hP3 (fun e=>e);have HB4:=h_ (HB3.out.trans (hb4.mono HB3.out.size));clear hb4 hP3;have d1:w4.cell? ⟨P,1,none⟩=some (.string kx):=by rw [(rd hP4).1];rfl
    have d2:w4.cell? ⟨P,2,none⟩=some (.string vx):=by rw [(rd hP4).1];rfl
    clear hP4 c0 c1 c2 c3;by_cases hbig:nn+(kx.size+vx.size+2)<=20000
    ·have hb1:¬(20000:Int)<(nn:Int)+((kx.size:Int)+(vx.size:Int)+2):=o_
     go_wp2_with fail;go_roundg (l.length-k)
     case measure=>omega
     case rel=>exact ⟨k+1,nn+(kx.size+vx.size+2),o_,n9_,n9_,o_,hbig,HSum.out.symm,HA,HB4⟩
    ·have hb1:(20000:Int)<(nn:Int)+((kx.size:Int)+(vx.size:Int)+2):=o_
     have HR2:=h_ (show b=false by
      rw [<-Hb.out];unfold Zcc;rw [Bool.and_eq_false_iff];right;rw [decide_eq_false_iff_not];omega)
     go_wp2_with fail;go_ret;exact ⟨n101_,HB4.out⟩
  ·have:k=l.length:=o_
   subst this;have ha:=Ha.out;rw [List.take_length] at ha;have HR2:=h_ (show b=decide ((Xj l).length<=20000) by
    rw [<-Hb.out];unfold Zcc;rw [ha];rfl)
   have HT:=h_ (Zn6 oa cap l wr (HR.out.below HB.out l_) hl HX.out (fun x hx e=>by
    have:=(ZuY ha x hx).sec
    rw [e] at this;cases this) (HW.out ha))
   clear ha;go_wp2_with fail;refine HT.out.mono ?_;rintro e w3 ⟨rfl,hb3⟩;have HB3:=h_ (HB.out.trans (hb3.mono HB.out.size));clear hb3;generalize Xj l=s at *;go_wp2_with fail;go_ret;refine ⟨ZB ?_,HB3.out⟩;rw [HR2.out,decide_eq_decide];show ((s.length:Int)<=20000)↔_;omega
end Go.Proofs.YtmgmbeipbeknaaaGreatDoor
