import Derived.Deep.LoopGhost
import Derived.Deep.RegionHeld3
import Derived.Test.YtmgmbeipbeknaaaGreatDoorRF13
namespace Go.Proofs.YtmgmbeipbeknaaaGreatDoor
open Go.Proofs.Tryz
open Go Go.RowKit
set_option linter.unusedVariables false
set_option linter.unusedSimpArgs false
set_option maxHeartbeats 16000000
set_option maxRecDepth 100000
def Zru(r:List UInt8):Value:=match Qw r with
 |some (d,n)=>.tuple #[.int .u8 d.toNat,.int .i64 ((n+1:Nat):Int)]
 |none=>.tuple #[.int .u8 0,.int .i64 0]
theorem ZlN(s:ByteArray)(h:2<=s.size):s.data.toList=s[0]::s[1]::s.data.toList.drop 2:=by
 obtain ⟨⟨d⟩⟩:=s;match d,h with
 |a::b::r,_=>rfl
 |[],h=>exact absurd h d_
 |[a],h=>exact absurd (show 2<=1 from h) d_
theorem ZkA(s:ByteArray)(w:World)(h1:1<=s.size)(h63:s.size<=9223372036854775807) :
  Calls prog 331 #[.string s] w fun e w'=>e=.returned (Zru (s.data.toList.drop 1))/\∃n,w'=w.drewN n:=by
 by_cases h:s.size<2
 ·have hl:s.data.toList.drop 1=[]:=List.drop_eq_nil_of_le (by simpa using (by omega:s.size<=1))
  rw [hl];go_enter func331,ntmps331;go_wp2;go_ret2;exact ⟨rfl,0,rfl⟩
 ·have h2:(1:Int)<(s.size:Int):=o_
  have h2':2<=s.size:=o_;have hsp:=ZlN s h2';rw [hsp];simp only [List.drop_succ_cons,List.drop_zero];generalize hc:s[1]=c at *;have Hc:=h_ hc;clear hc;have Hsp:=h_ hsp;clear hsp;have hx:(s.extract 2 s.size).data.toList=s.data.toList.drop 2:=Lib.extract_to_end s 2;have hxs:(s.extract 2 s.size).size<=9223372036854775807:=n6_;have HX:=h_ hx;clear hx;generalize hr:s.data.toList.drop 2=r at *;have Hr:=h_ hr;clear hr;go_enter func331,ntmps331;go_wp2_with (go_at_call 252;refine (ZpW _ _ hxs r HX.out).mono ?_;rintro e w' ⟨rfl,n,rfl⟩);all_goals
   go_ret2;refine ⟨Zh9 ?_,by first|exact dn0 _|exact dn _ _⟩;have hc':=Hc.out;subst hc';simp only [Zru,Qw,QI]
   first
    |(simp [*];done)
    |(cases ht:Qd r with
      |none=>simp_all
      |some d=>
       by_cases hd:d=0
       ·subst hd;simp_all
       ·have hd':d.toNat≠0:=fun e=>hd (UInt8.toNat_inj.1 e)
        simp_all)
def Rdr(R B:Nat)(s:ByteArray)(k:Nat)(bs:List UInt8)(w:World):Prop:=
 ∃p v,w.heap[R]?=some (.cells #[.string s,.int .i64 k,p,v] 241 (0,0))/\(p=.pointer none\/p=Zak R 2)/\Buf B 5 bs v w/\R<B/\B<=w.heap.size
theorem Zkm:Znj 241 4 2:=⟨k_,d_⟩
theorem Rdr.frame{R B:Nat}{s:ByteArray}{k:Nat}{bs:List UInt8}{w w':World}{M:Nat->Prop}(h:Rdr R B s k bs w)(hf:Fr M w w')(hR:¬M R)(hB:∀i,B<=i->Zbu 5 w i->¬M i):Rdr R B s k bs w':=by
 obtain ⟨p,v,h1,h2,h3,h4,h5⟩:=h;exact ⟨p,v,hf.heap h1 hR,h2,h3.kept hf (fun i hi=>hB i (h3.row i hi).1 (h3.row i hi).2),h4,by have:=hf.size;omega⟩
theorem Rdr.drewN{R B:Nat}{s:ByteArray}{k:Nat}{bs:List UInt8}{w:World}(h:Rdr R B s k bs w)(n:Nat):Rdr R B s k bs (w.drewN n):=h
theorem Rdr.rd{R B:Nat}{s:ByteArray}{k:Nat}{bs:List UInt8}{w:World}(h:Rdr R B s k bs w) :
  w.cell? ⟨R,0,none⟩=some (.string s)/\w.cell? ⟨R,1,none⟩=some (.int .i64 k)/\w.frozen? ⟨R,1,none⟩=false:=by
 obtain ⟨p,v,h1,h2,h3,h4,h5⟩:=h;obtain ⟨a,b,_,_⟩:=YtmgmbeipbeknaaaGreatDoor.rd h1;exact ⟨by rw [a];rfl,by rw [a];rfl,b 1⟩
theorem YI(R B:Nat)(s:ByteArray)(k:Nat)(bs:List UInt8)(w:World)(h:Rdr R B s k bs w) :
  Calls prog 261 #[.pointer (some ⟨R,0,none⟩)] w fun e w'=>e=.returned (.bool (decide (s.size<=k)))/\∃n,w'=w.drewN n:=by
 obtain ⟨c0,c1,f1⟩:=h.rd;go_enter func261,ntmps261;go_wp2;go_quiet (fail);go_wp2;go_ret;exact ⟨rfl,dn _ _⟩
theorem Rdr.moved{R B:Nat}{s:ByteArray}{k:Nat}{bs:List UInt8}{w:World}(h:Rdr R B s k bs w)(k':Nat):Rdr R B s k' bs (w.setCell ⟨R,1,none⟩ (.int .i64 k')):=by
 obtain ⟨p,v,h1,h2,h3,h4,h5⟩:=h;exact ⟨p,v,heap_setCell h1 1 _,h2,h3.setCell (h3.ne h1 d_) _,h4,by simpa using h5⟩
theorem Rdr.write{R B:Nat}{s:ByteArray}{k:Nat}{bs:List UInt8}{w:World}(h:Rdr R B s k bs w)(c:UInt8)(hlen:bs.length<1099511627776) :
  Calls prog 127 #[.pointer (some ⟨R,2,none⟩),.int .u8 c.toNat] w fun e w'=>e=.returned .nilIface/\Rdr R B s k (bs++[c]) w'/\FrB R B 5 w w':=by
 obtain ⟨p,v,h1,h2,h3,h4,h5⟩:=h;refine (Zcf R 2 B #[.string s,.int .i64 k,p,v] 241 _ h1 Zkm p v rfl h2 rfl bs h3 d_ hlen h5 c).mono ?_;rintro e w1 ⟨rfl,v',hR1,hb1,hf1⟩;exact ⟨rfl,⟨Zak R 2,v',hR1,.inr rfl,hb1,h4,n55_⟩,hf1⟩
theorem one_le{l:List UInt8}{d:UInt8}{n:Nat}(h:Xc l=.ok (d,n)):1<=n/\n<=l.length:=by
 match l with
 |[]=>simp [Xc] at h
 |c::r=>
  simp only [Xc] at h;split at h
  ·cases h
  ·split at h
   ·match r with
    |[]=>simp [Qw] at h
    |a::r' =>
     simp only [Qw] at h;split at h
     ·rename_i x hx
      rename_i d' n';cases h
      split at hx
      ·cases hx;simp
      ·split at hx
       ·cases hx;simp
       ·split at hx
        ·cases hx;simp
        ·split at hx
         ·cases hx;simp
         ·split at hx
          ·split at hx
           ·rename_i d'' h2
            split at hx
            ·cases hx
            ·cases hx
             match r',h2 with
             |_::_::_,_=>simp
             |[],h2=>simp [Qd] at h2
             |[_],h2=>simp [Qd] at h2
           ·cases hx
          ·cases hx
     ·cases h
   ·cases h;simp
theorem ZqU(R B:Nat)(s:ByteArray)(k:Nat)(bs:List UInt8)(w:World)(h:Rdr R B s k bs w)(hk:k<s.size)(hs:s.size<549755813888)(hb:QU s[k]=true) :
  Calls prog 306 #[.pointer (some ⟨R,0,none⟩)] w fun e w'=>e=.returned (.int .i64 1)/\∃n,w'=w.drewN n:=by
 obtain ⟨c0,c1,f1⟩:=h.rd;have HB:=h_ hb;clear hb;go_enter func306,ntmps306;go_wp2;go_quiet (fail);go_wp2_with (go_at_call 167;refine (Zdb _ _).mono ?_;rintro e w' ⟨rfl,rfl⟩;rw [HB.out]);go_ret;exact ⟨rfl,dn _ _⟩
theorem Znp(R B:Nat)(s:ByteArray)(k:Nat)(bs:List UInt8)(w:World)(h:Rdr R B s k bs w)(hk:k<s.size)(hs:s.size<549755813888)(hbs:bs.length<=k)(hb:QU s[k]=false)(h92:((s[k].toNat:Int)==92)=false) :
  Calls prog 306 #[.pointer (some ⟨R,0,none⟩)] w fun e w'=>e=.returned (.int .i64 0)/\Rdr R B s (k+1) (bs++[s[k]]) w'/\FrB R B 5 w w':=by
 obtain ⟨c0,c1,f1⟩:=h.rd;have HB:=h_ hb;clear hb;go_enter func306,ntmps306;go_wp2;go_quiet (fail);go_wp2_with (first
  |(go_at_call 167;refine (Zdb _ _).mono ?_;rintro e w' ⟨rfl,rfl⟩;rw [HB.out])
  |(go_at_call 127;refine (Rdr.write (by exact h.drewN _) s[k] o_).mono ?_))
 rintro e w1 ⟨rfl,hr1,hf1⟩;obtain ⟨d0,d1,g1⟩:=hr1.rd;go_wp2;go_ret;exact ⟨rfl,hr1.moved _,(FrB.trans (FrB.drewN (FrB.refl _ _ _ _) _) hf1).setCell _ _⟩
def ZkL(r:List UInt8):UInt8×Nat:=match Qw r with
 |some (d,n)=>(d,n+1)
 |none=>(0,0)
theorem ZgR(s:ByteArray)(w:World)(h1:1<=s.size)(h63:s.size<=9223372036854775807)(l:List UInt8)(hl:s.data.toList.drop 1=l) :
  Calls prog 331 #[.string s] w fun e w'=>e=.returned (.tuple #[.int .u8 (ZkL l).1.toNat,.int .i64 ((ZkL l).2:Nat)])/\∃n,w'=w.drewN n:=by
 refine (ZkA s w h1 h63).mono ?_;rintro e w' ⟨rfl,hw⟩;refine ⟨?_,hw⟩;rw [hl];unfold Zru ZkL;rcases Qw l with _|⟨d,n⟩<;>rfl
end Go.Proofs.YtmgmbeipbeknaaaGreatDoor
