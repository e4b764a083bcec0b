import Derived.Lib.IndexMore
import Derived.Test.YtgoooebfhdbbkaaGreatDoorUM2
import Derived.Test.YtgoooebfhdbbkaaGreatDoorUM30
import Derived.Test.YtgoooebfhdbbkaaGreatDoorUM31
import Derived.Test.YtgoooebfhdbbkaaGreatDoorUM34
namespace Go.Proofs.YtgoooebfhdbbkaaGreatDoor
open Go.Proofs.Tryz
open Go Go.RowKit
set_option linter.unusedVariables false
set_option linter.unusedSimpArgs false
set_option maxHeartbeats 16000000
set_option maxRecDepth 100000
theorem m113_{p:Prop}(h:p:=by have HN:=h_ (show (u.drop (k+1)).all Zfn=r by rw [<-HAL.out];rfl);clear HAL hl hg;go_wp2_with fail;refine (HL.out _).mono ?_;rintro e w2 ⟨rfl,rfl⟩;go_wp2_with fail;refine (HG.out _).mono ?_;rintro e w2 ⟨rfl,rfl⟩;exact m117_):p:=h
theorem m114_{p:Prop}(h:p:=by go_wp2_with fail;go_ret;exact ⟨n36_,HB.out⟩):p:=h
theorem m115_{p:Prop}(h:p:=by clear HR hlen HU;go_enter func132,ntmps132;go_wp2;go_ret;exact ⟨n36_,Below.refl _ _⟩):p:=h
theorem m116_{p:Prop}(h:p:=by have hkl:k<u.length:=o_;rw [List.drop_eq_getElem_cons hkl];congr 1;simp [HU.out];rfl):p:=h
theorem m117_{p:Prop}(h:p:=by
  go_wp2_with fail;go_roundg (s.size-k)
  case measure=>omega
  case rel=>exact ⟨k+1,o_,o_,n14_,HN,HB⟩):p:=h
def Ji:Str->Nat->Int
 |[],_=>-1
 |c::t,i=>if c=61 then (i:Int) else Ji t (i+1)
theorem ZeM(s:ByteArray)(w:World)(h63:s.size<=1000000000)(r:Int)(hr:Ji s.data.toList 0=r) :
  Calls prog 131 #[.string s] w fun e w'=>e=.returned (.int .i64 r)/\Below w.heap.size w w':=by
 have hlen:s.data.toList.length=s.size:=s_;obtain ⟨u,hu⟩:=e_ s.data.toList;rw [<-hu] at hr hlen;have HR:=h_ hr;have HU:=h_ hu;clear hr hu;go_enter func131,ntmps131;go_wp2;go_loopg [3] (s.size+1) (fun f s3 wr=>∃k:Nat,k<=s.size/\s.size-k<f/\s3=.int .i64 k/\Hid (Ji (u.drop k) k=r)/\Hid (Below w.heap.size w wr))
 case atStart=>exact ⟨0,o_,o_,rfl,HR,Below.refl _ _⟩
 case round=>
  obtain ⟨k,hk,hf,rfl,HA,HB⟩:=hrel;by_cases hlt:k<s.size
  ·have hltz:(k:Int)<(s.size:Int):=o_
   have hd:u.drop k=s[k]::u.drop (k+1):=by
    exact m116_
   cases hq:((s[k].toNat:Int)==61) with
   |true=>
    have HN:=h_ (show (k:Int)=r by
     rw [<-HA.out,hd,Ji,if_pos];apply UInt8.toNat_inj.1
     have:=eq_of_beq hq
     show s[k].toNat=61;omega)
    clear hd HA;exact m114_
   |false=>
    have HN:=h_ (show Ji (u.drop (k+1)) (k+1)=r by
     rw [<-HA.out,hd,Ji,if_neg];intro e;rw [e] at hq;simp at hq)
    clear hd HA;exact m117_
  ·have hltz:¬(k:Int)<(s.size:Int):=o_
   have HN:=h_ (show -1=r by
    rw [<-HA.out,List.drop_of_length_le o_];rfl)
   clear HA;exact m114_
theorem Zp3(c:UInt8):Zfn c=(Yp c||(isDigit c||(c.toNat:Int)==95)):=by
 unfold Zfn
 have:(([95]:Str).contains c)=((c.toNat:Int)==95):=by
  rw [Bool.eq_iff_iff];simp [<-UInt8.toNat_inj];omega
 simp only [List.any_cons,List.any_nil,this,Bool.or_false]
theorem ZjF(s:ByteArray)(w:World)(h63:s.size<=1000000000)(r:Bool)(hr:Zgj s.data.toList=r) :
  Calls prog 132 #[.string s] w fun e w'=>e=.returned (.bool r)/\Below w.heap.size w w':=by
 have hlen:s.data.toList.length=s.size:=s_;obtain ⟨u,hu⟩:=e_ s.data.toList;rw [<-hu] at hr hlen;have HR:=h_ hr;have HU:=h_ hu;clear hr hu;by_cases h1:s.size<1
 ·have hz:(s.size:Int)<1:=o_
  have HN:=h_ (show false=r by
   rw [<-HR.out,List.eq_nil_of_length_eq_zero (by omega:u.length=0)];rfl)
  exact m115_
 ·have hz:¬(s.size:Int)<1:=o_
  by_cases h5:60<s.size
  ·have hz5:(s.size:Int)>60:=o_
   have HN:=h_ (show false=r by
    rw [<-HR.out];unfold Zgj;rw [decide_eq_false o_];simp)
   exact m115_
  ·have hz5:¬(s.size:Int)>60:=o_
   have h0:0<s.size:=o_;have hh:u.headD 0=s[0]:=by
    have hkl:0<u.length:=o_;rw [List.headD_eq_head?_getD,List.head?_eq_getElem?,List.getElem?_eq_getElem hkl];simp [HU.out];rfl
   have hvb:Zgj u=(u.all Zfn&&!(isDigit s[0])):=by
    unfold Zgj;rw [hh,decide_eq_true o_];cases u with
    |nil=>simp at hlen;omega
    |cons a t=>simp
   have HD0:=h_ (fun V=>Zae s[0] V);cases hd0:isDigit s[0] with
   |true=>
    rw [hd0] at HD0;have HN:=h_ (show false=r by rw [<-HR.out,hvb,hd0];simp);clear HR hlen HU hh hvb hd0;go_enter func132,ntmps132;go_wp2_with fail;refine (HD0.out _).mono ?_;rintro e w1 ⟨rfl,rfl⟩;go_wp2_with fail;go_ret;exact ⟨n36_,Below.refl _ _⟩
   |false=>
    rw [hd0] at HD0;have HA0:=h_ (show (u.drop 0).all Zfn=r by rw [<-HR.out,hvb,hd0];simp);clear HR hh hvb hd0;go_enter func132,ntmps132;go_wp2_with fail;refine (HD0.out _).mono ?_;rintro e w1 ⟨rfl,rfl⟩;go_wp2_with fail;go_loopg [3] (s.size+1) (fun f s3 wr=>∃k:Nat,k<=s.size/\s.size-k<f/\s3=.int .i64 k/\Hid ((u.drop k).all Zfn=r)/\Hid (Below w.heap.size w wr))
    case atStart=>exact ⟨0,o_,o_,rfl,HA0,Below.refl _ _⟩
    case round=>
     obtain ⟨k,hk,hf,rfl,HA,HB⟩:=hrel;by_cases hlt:k<s.size
     ·have hltz:(k:Int)<(s.size:Int):=o_
      have hd:u.drop k=s[k]::u.drop (k+1):=by
       exact m116_
      have HAL:=h_ (show ((Yp s[k]||(isDigit s[k]||(s[k].toNat:Int)==95))&&(u.drop (k+1)).all Zfn)=r by
       rw [<-HA.out,hd,List.all_cons,Zp3])
      have HL:=h_ (fun V=>ZgU s[k] V);have HG:=h_ (fun V=>Zae s[k] V);clear hd HA;cases hl:Yp s[k] with
      |true=>
       rw [hl] at HL HAL;have HN:=h_ (show (u.drop (k+1)).all Zfn=r by rw [<-HAL.out];rfl);clear HAL hl;go_wp2_with fail;refine (HL.out _).mono ?_;rintro e w2 ⟨rfl,rfl⟩;exact m117_
      |false=>
       rw [hl] at HL HAL;cases hg:isDigit s[k] with
       |true=>
        rw [hg] at HG HAL;exact m113_
       |false=>
        rw [hg] at HG HAL;cases hq:((s[k].toNat:Int)==95) with
        |true=>
         rw [hq] at HAL;have hq2:((s[k].toNat:Int)!=95)=false:=by rw [bne,hq];rfl
         exact m113_
        |false=>
         rw [hq] at HAL;have hq2:((s[k].toNat:Int)!=95)=true:=by rw [bne,hq];rfl
         have HN:=h_ (show false=r by rw [<-HAL.out];rfl);clear HAL hl hg;go_wp2_with fail;refine (HL.out _).mono ?_;rintro e w2 ⟨rfl,rfl⟩;go_wp2_with fail;refine (HG.out _).mono ?_;rintro e w2 ⟨rfl,rfl⟩;exact m114_
     ·have hltz:¬(k:Int)<(s.size:Int):=o_
      have HN:=h_ (show true=r by
       rw [<-HA.out,List.drop_of_length_le o_];rfl)
      clear HA;exact m114_
theorem m118_{p:Prop}(h:p:=by go_enter func15,ntmps15;go_wp2_with fail;refine (HO.out _).mono ?_;rintro e w1 ⟨rfl,hb1⟩;have HB1:=h_ hb1;clear hb1;go_wp2_with fail;refine (HO.out _).mono ?_;rintro e w2 ⟨rfl,hb2⟩;have HB2:=h_ (HB1.out.trans (hb2.mono HB1.out.size));clear hb2 HO HB1;go_wp2_with fail;go_ret;exact ⟨n10_,HB2.out⟩):p:=h
theorem Zmg(a b c d:Value)(h:d.cells=#[d])(W:World):(Instr.field 57 (.agg #[a,b,c,d]) 3).run prog W=.ok d W:=by
 first|rfl|simp [Instr.field,go_sem,h]
theorem Zmk(a b c d:Value)(h:c.cells=#[c])(W:World):(Instr.field 57 (.agg #[a,b,c,d]) 2).run prog W=.ok c W:=by
 first|rfl|simp [Instr.field,go_sem,h]
theorem Zhr(s:ByteArray)(w:World)(b:Bool)(hb:((ofS s.data.toList).at_&&(ofS s.data.toList).inst.isEmpty)=b) :
  Calls prog 15 #[.string s] w fun e w'=>e=.returned (.bool b)/\Below w.heap.size w w':=by
 have HO:=h_ (fun W=>Zee s W _ rfl);obtain ⟨⟨k,pre,inst,at_⟩,hc⟩:=e_ (ofS s.data.toList);rw [<-hc] at HO hb;simp only at HO hb;clear hc;have h3:=Zmg (.int .i64 k) (.string ⟨pre.toArray⟩) (.string ⟨inst.toArray⟩) (.bool at_) rfl;have h2:=Zmk (.int .i64 k) (.string ⟨pre.toArray⟩) (.string ⟨inst.toArray⟩) (.bool at_) rfl;cases at_ with
 |false=>
  have HR:=h_ (show b=false by rw [<-hb];rfl);clear hb;go_enter func15,ntmps15;go_wp2_with fail;refine (HO.out _).mono ?_;rintro e w1 ⟨rfl,hb1⟩;have HB1:=h_ hb1;clear hb1 HO;go_wp2_with fail;go_ret;exact ⟨n10_,HB1.out⟩
 |true=>
  have HR:=h_ (show b=inst.isEmpty by rw [<-hb];simp);clear hb;cases inst with
  |nil=>
   exact m118_
  |cons c t=>
   have hsz:(⟨(c::t).toArray⟩:ByteArray).size≠0:=n29_;obtain ⟨n1,n2,n3,n4⟩:=QX hsz;generalize (⟨(c::t).toArray⟩:ByteArray)=q at *;exact m118_
def Zpw(s:Str):Bool:=decide (Zw s≠0)&&!((ofS s).at_&&(ofS s).inst.isEmpty)
theorem Zgh(s:ByteArray)(w:World)(r:Bool)(hr:Zpw s.data.toList=r) :
  Calls prog 166 #[.string s] w fun e w'=>e=.returned (.bool r)/\Below w.heap.size w w':=by
 obtain ⟨m,hm⟩:∃m,decide (Zw s.data.toList≠0)=m:=⟨_,rfl⟩;obtain ⟨t,ht⟩:∃t,((ofS s.data.toList).at_&&(ofS s.data.toList).inst.isEmpty)=t:=⟨_,rfl⟩;have HM:=h_ (fun V=>Zhl s V m hm);have HT:=h_ (fun V=>Zhr s V t ht);have HR:=h_ (show (m&&!t)=r by rw [<-hr,<-hm,<-ht];rfl);clear hm ht hr;cases m with
 |false=>
  have HN:=h_ (show false=r from HR.out);clear HR;go_enter func166,ntmps166;go_wp2_with fail;refine (HM.out _).mono ?_;rintro e w1 ⟨rfl,hb1⟩;go_wp2_with fail;go_ret;exact ⟨n36_,hb1⟩
 |true=>
  have HN:=h_ (show (!t)=r from HR.out);clear HR;go_enter func166,ntmps166;go_wp2_with fail;refine (HM.out _).mono ?_;rintro e w1 ⟨rfl,hb1⟩;have HB1:=h_ hb1;clear hb1;go_wp2_with fail;refine (HT.out _).mono ?_;rintro e w2 ⟨rfl,hb2⟩;have HB2:=h_ (HB1.out.trans (hb2.mono HB1.out.size));clear hb2;go_wp2_with fail;go_ret;exact ⟨n36_,HB2.out⟩
theorem Zbr:∀(l:Str) (i:Nat),Ji l i=if Go.Lib.index l [61] = -1 then -1 else Go.Lib.index l [61]+i
 |[],i=>rfl
 |c::t,i=>by
  have hg:=Go.Lib.index_ge t [61];rw [Ji,Go.Lib.index];by_cases h:c=61
  ·subst h
   simp [List.isPrefixOf]
  ·have hp:([61]:Str).isPrefixOf (c::t)=false:=by
    simp [List.isPrefixOf];exact fun e=>h e.symm
   rw [if_neg h,hp,Zbr t (i+1)];by_cases h2:Go.Lib.index t [61] = -1
   ·simp [h2]
   ·have h3:(Go.Lib.index t [61]==-1)=false:=n80_
    simp only [h3,if_neg h2];rw [if_neg n2_];simp;omega
theorem Zdg:∀(l:Str) (i:Nat),Ji l i = -1\/∃n:Nat,Ji l i=n/\i<=n/\n<i+l.length
 |[],i=>.inl rfl
 |c::t,i=>by
  rw [Ji];by_cases h:c=61
  ·rw [if_pos h];exact .inr ⟨i,rfl,l_,s_⟩
  ·rw [if_neg h]
   rcases Zdg t (i+1) with h1|⟨n,h1,h2,h3⟩
   ·exact .inl h1
   ·exact .inr ⟨n,h1,o_,n2_⟩
theorem ZqZ(w:Str)(h:Ji w 0 = -1):(Go.Lib.cut w [61]).2.2=false:=by
 rw [Zbr] at h;have hg:=Go.Lib.index_ge w [61]
 have:Go.Lib.index w [61] = -1:=by
  by_cases h2:Go.Lib.index w [61] = -1
  ·exact h2
  ·rw [if_neg h2] at h;omega
 unfold Go.Lib.cut;rw [this];rfl
theorem Zqa(w:Str)(i:Nat)(h:Ji w 0=i):Go.Lib.cut w [61]=(w.take i,w.drop (i+1),true):=by
 rw [Zbr] at h;have hg:=Go.Lib.index_ge w [61];have h2:Go.Lib.index w [61]=i:=by
  by_cases h2:Go.Lib.index w [61] = -1
  ·rw [if_pos h2] at h;omega
  ·rw [if_neg h2] at h;simpa using h
 unfold Go.Lib.cut;rw [h2,if_pos o_];simp
end Go.Proofs.YtgoooebfhdbbkaaGreatDoor
