import Derived.Deep.LoopGhost
import Derived.Deep.RegionHeld3
import Derived.Test.YtgoooebfhdbbkaaGreatDoorUM5
namespace Go.Proofs.YtgoooebfhdbbkaaGreatDoor
open Go.Proofs.Tryz
open Go Go.RowKit
set_option linter.unusedVariables false
set_option linter.unusedSimpArgs false
set_option maxHeartbeats 16000000
set_option maxRecDepth 100000
def ZqS(r:List UInt8):Value:=match YR r with
 |some (d,n)=>.tuple #[.int .u8 d.toNat,.int .i64 ((n+1:Nat):Int)]
 |none=>.tuple #[.int .u8 0,.int .i64 0]
theorem Zk5(s:ByteArray)(h:2<=s.size):s.data.toList=s[0]::s[1]::s.data.toList.drop 2:=by
 obtain ⟨⟨d⟩⟩:=s;match d,h with
 |a::b::r,_=>rfl
 |[],h=>exact absurd h d_
 |[a],h=>exact absurd (show 2<=1 from h) d_
theorem Zms(s:ByteArray)(w:World)(h1:1<=s.size)(h63:s.size<=9223372036854775807) :
  Calls prog 226 #[.string s] w fun e w'=>e=.returned (ZqS (s.data.toList.drop 1))/\∃n,w'=w.drewN n:=by
 by_cases h:s.size<2
 ·have hl:s.data.toList.drop 1=[]:=List.drop_eq_nil_of_le (by simpa using (by omega:s.size<=1))
  rw [hl];go_enter func226,ntmps226;go_wp2;go_ret2;exact ⟨rfl,0,rfl⟩
 ·have h2:(1:Int)<(s.size:Int):=o_
  have h2':2<=s.size:=o_;have hsp:=Zk5 s h2';rw [hsp];simp only [List.drop_succ_cons,List.drop_zero];generalize hc:s[1]=c at *;have Hc:=h_ hc;clear hc;have Hsp:=h_ hsp;clear hsp;have hx:(s.extract 2 s.size).data.toList=s.data.toList.drop 2:=Lib.extract_to_end s 2;have hxs:(s.extract 2 s.size).size<=9223372036854775807:=n2_;have HX:=h_ hx;clear hx;generalize hr:s.data.toList.drop 2=r at *;have Hr:=h_ hr;clear hr;go_enter func226,ntmps226;go_wp2_with (go_at_call 143;refine (Zpe _ _ hxs r HX.out).mono ?_;rintro e w' ⟨rfl,n,rfl⟩);all_goals
   go_ret2;refine ⟨JZ ?_,by first|exact dn0 _|exact dn _ _⟩;have hc':=Hc.out;subst hc';simp only [ZqS,YR,QG]
   first
    |(simp [*];done)
    |(cases ht:Xv r with
      |none=>simp_all
      |some d=>
       by_cases hd:d=0
       ·subst hd;simp_all
       ·have hd':d.toNat≠0:=fun e=>hd (UInt8.toNat_inj.1 e)
        simp_all)
def Rdr(R B:Nat)(s:ByteArray)(k:Nat)(bs:List UInt8)(w:World):Prop:=
 ∃p v,w.heap[R]?=some (.cells #[.string s,.int .i64 k,p,v] 183 (0,0))/\(p=.pointer none\/p=Za2 R 2)/\Buf B 5 bs v w/\R<B/\B<=w.heap.size
theorem Zkk:Zny 183 4 2:=⟨k_,d_⟩
theorem Rdr.frame{R B:Nat}{s:ByteArray}{k:Nat}{bs:List UInt8}{w w':World}{M:Nat->Prop}(h:Rdr R B s k bs w)(hf:Fr M w w')(hR:¬M R)(hB:∀i,B<=i->ZbX 5 w i->¬M i):Rdr R B s k bs w':=by
 obtain ⟨p,v,h1,h2,h3,h4,h5⟩:=h;exact ⟨p,v,hf.heap h1 hR,h2,h3.kept hf (fun i hi=>hB i (h3.row i hi).1 (h3.row i hi).2),h4,by have:=hf.size;omega⟩
theorem Rdr.drewN{R B:Nat}{s:ByteArray}{k:Nat}{bs:List UInt8}{w:World}(h:Rdr R B s k bs w)(n:Nat):Rdr R B s k bs (w.drewN n):=h
theorem Rdr.rd{R B:Nat}{s:ByteArray}{k:Nat}{bs:List UInt8}{w:World}(h:Rdr R B s k bs w) :
  w.cell? ⟨R,0,none⟩=some (.string s)/\w.cell? ⟨R,1,none⟩=some (.int .i64 k)/\w.frozen? ⟨R,1,none⟩=false:=by
 obtain ⟨p,v,h1,h2,h3,h4,h5⟩:=h;obtain ⟨a,b,_,_⟩:=YtgoooebfhdbbkaaGreatDoor.rd h1;exact ⟨by rw [a];rfl,by rw [a];rfl,b 1⟩
theorem Xi(R B:Nat)(s:ByteArray)(k:Nat)(bs:List UInt8)(w:World)(h:Rdr R B s k bs w) :
  Calls prog 155 #[.pointer (some ⟨R,0,none⟩)] w fun e w'=>e=.returned (.bool (decide (s.size<=k)))/\∃n,w'=w.drewN n:=by
 obtain ⟨c0,c1,f1⟩:=h.rd;go_enter func155,ntmps155;go_wp2;go_quiet (fail);go_wp2;go_ret;exact ⟨rfl,dn _ _⟩
theorem Rdr.moved{R B:Nat}{s:ByteArray}{k:Nat}{bs:List UInt8}{w:World}(h:Rdr R B s k bs w)(k':Nat):Rdr R B s k' bs (w.setCell ⟨R,1,none⟩ (.int .i64 k')):=by
 obtain ⟨p,v,h1,h2,h3,h4,h5⟩:=h;exact ⟨p,v,heap_setCell h1 1 _,h2,h3.setCell (h3.ne h1 d_) _,h4,by simpa using h5⟩
theorem Rdr.write{R B:Nat}{s:ByteArray}{k:Nat}{bs:List UInt8}{w:World}(h:Rdr R B s k bs w)(c:UInt8)(hlen:bs.length<1099511627776) :
  Calls prog 52 #[.pointer (some ⟨R,2,none⟩),.int .u8 c.toNat] w fun e w'=>e=.returned .nilIface/\Rdr R B s k (bs++[c]) w'/\FrB R B 5 w w':=by
 obtain ⟨p,v,h1,h2,h3,h4,h5⟩:=h;refine (ZcS R 2 B #[.string s,.int .i64 k,p,v] 183 _ h1 Zkk p v rfl h2 rfl bs h3 d_ hlen h5 c).mono ?_;rintro e w1 ⟨rfl,v',hR1,hb1,hf1⟩;exact ⟨rfl,⟨Za2 R 2,v',hR1,.inr rfl,hb1,h4,n99_⟩,hf1⟩
theorem one_le{l:List UInt8}{d:UInt8}{n:Nat}(h:YH l=.ok (d,n)):1<=n/\n<=l.length:=by
 match l with
 |[]=>simp [YH] at h
 |c::r=>
  simp only [YH] at h;split at h
  ·cases h
  ·split at h
   ·match r with
    |[]=>simp [YR] at h
    |a::r' =>
     simp only [YR] at h;split at h
     ·rename_i x hx
      rename_i d' n';cases h
      split at hx
      ·cases hx;simp
      ·split at hx
       ·cases hx;simp
       ·split at hx
        ·cases hx;simp
        ·split at hx
         ·cases hx;simp
         ·split at hx
          ·split at hx
           ·rename_i d'' h2
            split at hx
            ·cases hx
            ·cases hx
             match r',h2 with
             |_::_::_,_=>simp
             |[],h2=>simp [Xv] at h2
             |[_],h2=>simp [Xv] at h2
           ·cases hx
          ·cases hx
     ·cases h
   ·cases h;simp
theorem ZpO(R B:Nat)(s:ByteArray)(k:Nat)(bs:List UInt8)(w:World)(h:Rdr R B s k bs w)(hk:k<s.size)(hs:s.size<549755813888)(hb:Yj s[k]=true) :
  Calls prog 197 #[.pointer (some ⟨R,0,none⟩)] w fun e w'=>e=.returned (.int .i64 1)/\∃n,w'=w.drewN n:=by
 obtain ⟨c0,c1,f1⟩:=h.rd;have HB:=h_ hb;clear hb;go_enter func197,ntmps197;go_wp2;go_quiet (fail);go_wp2_with (go_at_call 225;refine (Zfr _ _).mono ?_;rintro e w' ⟨rfl,rfl⟩;rw [HB.out]);go_ret;exact ⟨rfl,dn _ _⟩
theorem Znn(R B:Nat)(s:ByteArray)(k:Nat)(bs:List UInt8)(w:World)(h:Rdr R B s k bs w)(hk:k<s.size)(hs:s.size<549755813888)(hbs:bs.length<=k)(hb:Yj s[k]=false)(h92:((s[k].toNat:Int)==92)=false) :
  Calls prog 197 #[.pointer (some ⟨R,0,none⟩)] w fun e w'=>e=.returned (.int .i64 0)/\Rdr R B s (k+1) (bs++[s[k]]) w'/\FrB R B 5 w w':=by
 obtain ⟨c0,c1,f1⟩:=h.rd;have HB:=h_ hb;clear hb;go_enter func197,ntmps197;go_wp2;go_quiet (fail);go_wp2_with (first
  |(go_at_call 225;refine (Zfr _ _).mono ?_;rintro e w' ⟨rfl,rfl⟩;rw [HB.out])
  |(go_at_call 52;refine (Rdr.write (by exact h.drewN _) s[k] o_).mono ?_))
 rintro e w1 ⟨rfl,hr1,hf1⟩;obtain ⟨d0,d1,g1⟩:=hr1.rd;go_wp2;go_ret;exact ⟨rfl,hr1.moved _,(FrB.trans (FrB.drewN (FrB.refl _ _ _ _) _) hf1).setCell _ _⟩
def Zmr(r:List UInt8):UInt8×Nat:=match YR r with
 |some (d,n)=>(d,n+1)
 |none=>(0,0)
theorem Zhq(s:ByteArray)(w:World)(h1:1<=s.size)(h63:s.size<=9223372036854775807)(l:List UInt8)(hl:s.data.toList.drop 1=l) :
  Calls prog 226 #[.string s] w fun e w'=>e=.returned (.tuple #[.int .u8 (Zmr l).1.toNat,.int .i64 ((Zmr l).2:Nat)])/\∃n,w'=w.drewN n:=by
 refine (Zms s w h1 h63).mono ?_;rintro e w' ⟨rfl,hw⟩;refine ⟨?_,hw⟩;rw [hl];unfold ZqS Zmr;rcases YR l with _|⟨d,n⟩<;>rfl
theorem Zjs(R B:Nat)(s:ByteArray)(k:Nat)(bs:List UInt8)(w:World)(h:Rdr R B s k bs w)(hk:k<s.size)(hs:s.size<549755813888)(hb:Yj s[k]=false)(h92:((s[k].toNat:Int)==92)=true)
  (he:YR (s.data.toList.drop (k+1))=none) :
  Calls prog 197 #[.pointer (some ⟨R,0,none⟩)] w fun e w'=>e=.returned (.int .i64 13)/\∃n,w'=w.drewN n:=by
 obtain ⟨c0,c1,f1⟩:=h.rd;have HB:=h_ hb;clear hb;have hx:(s.extract k s.size).data.toList.drop 1=s.data.toList.drop (k+1):=by rw [Lib.extract_to_end s k,List.drop_drop]
 have hz:1<=(s.extract k s.size).size:=n2_;have hz':(s.extract k s.size).size<=9223372036854775807:=n2_;have hk':(k:Int)<=(s.size:Int):=o_;have HX:=h_ hx;clear hx;have HP:=h_ (show Zmr (s.data.toList.drop (k+1))=(0,0) by simp [Zmr,he]);clear he;go_enter func197,ntmps197;go_wp2;go_quiet (fail);go_wp2_with (go_at_call 225;refine (Zfr _ _).mono ?_;rintro e w' ⟨rfl,rfl⟩;rw [HB.out]);have hq:=h.drewN nq;have HW:=h_ (dn w nq);generalize w.drewN nq=w2 at hq HW⊢;clear c0 c1 f1 h;obtain ⟨c0,c1,f1⟩:=hq.rd;go_quiet ((go_at_call 226;exact Calls.quiet_of (Zhq _ _ hz hz' _ HX.out)));rw [HP.out];go_wp2;go_ret;exact ⟨rfl,Xp HW.out⟩
theorem ZlL(R B:Nat)(s:ByteArray)(k:Nat)(bs:List UInt8)(w:World)(h:Rdr R B s k bs w)(hk:k<s.size)(hs:s.size<549755813888)(hbs:bs.length<=k)(hb:Yj s[k]=false)(h92:((s[k].toNat:Int)==92)=true)
  (d:UInt8) (n:Nat) (he:YR (s.data.toList.drop (k+1))=some (d,n)) (hn:k+(n+1)<=s.size) :
  Calls prog 197 #[.pointer (some ⟨R,0,none⟩)] w fun e w'=>e=.returned (.int .i64 0)/\Rdr R B s (k+(n+1)) (bs++[d]) w'/\FrB R B 5 w w':=by
 obtain ⟨c0,c1,f1⟩:=h.rd;have HB:=h_ hb;clear hb;have hx:(s.extract k s.size).data.toList.drop 1=s.data.toList.drop (k+1):=by rw [Lib.extract_to_end s k,List.drop_drop]
 have hz:1<=(s.extract k s.size).size:=n2_;have hz':(s.extract k s.size).size<=9223372036854775807:=n2_;have hk':(k:Int)<=(s.size:Int):=o_;have HX:=h_ hx;clear hx;have HP:=h_ (show Zmr (s.data.toList.drop (k+1))=(d,n+1) by simp [Zmr,he]);clear he;have hn0:(((n+1:Nat):Int)==0)=false:=n3_;go_enter func197,ntmps197;go_wp2;go_quiet (fail);go_wp2_with (go_at_call 225;refine (Zfr _ _).mono ?_;rintro e w' ⟨rfl,rfl⟩;rw [HB.out]);have hq:=h.drewN nq;have HW:=h_ (dn w nq);generalize w.drewN nq=w2 at hq HW⊢;clear c0 c1 f1 h;obtain ⟨c0,c1,f1⟩:=hq.rd;go_quiet ((go_at_call 226;exact Calls.quiet_of (Zhq _ _ hz hz' _ HX.out)));rw [HP.out];go_wp2_with ((go_at_call 52;refine (Rdr.write (by exact hq.drewN _) d o_).mono ?_));rintro e w1 ⟨rfl,hr1,hf1⟩;obtain ⟨d0,d1,g1⟩:=hr1.rd;go_wp2;go_ret;refine ⟨rfl,hr1.moved (k+(n+1)),(FrB.trans (FrB.of_dn (Xp HW.out)) hf1).setCell _ _⟩
theorem Zik(R B:Nat)(s:ByteArray)(k:Nat)(bs:List UInt8)(w:World)(h:Rdr R B s k bs w)(hk:k<s.size)(hs:s.size<549755813888)(c:Nat)(ho:YH (s.data.toList.drop k)=.error c) :
  Calls prog 197 #[.pointer (some ⟨R,0,none⟩)] w fun e w'=>e=.returned (.int .i64 c)/\∃n,w'=w.drewN n:=by
 rw [drop_cons s k hk] at ho;simp only [YH] at ho;by_cases hb:Yj s[k]=true
 ·rw [if_pos hb] at ho
  cases ho
  exact ZpO R B s k bs w h hk hs hb
 ·rw [if_neg hb] at ho
  by_cases h92:s[k]=92
  ·rw [if_pos h92] at ho
   cases he:YR (s.data.toList.drop (k+1)) with
   |none=>
    rw [he] at ho;cases ho
    exact Zjs R B s k bs w h hk hs (by simpa using hb) (by rw [h92];rfl) he
   |some x=>rw [he] at ho;cases ho
  ·rw [if_neg h92] at ho;cases ho
theorem ZrB{c:UInt8}(h:¬c=92):((c.toNat:Int)==92)=false:=by
 rw [beq_eq_false_iff_ne];intro e;exact h (UInt8.toNat_inj.1 (by have:c.toNat=92:=o_;rw [this];rfl))
theorem ZkS(R B:Nat)(s:ByteArray)(k:Nat)(bs:List UInt8)(w:World)(h:Rdr R B s k bs w)(hk:k<s.size)(hs:s.size<549755813888)(hbs:bs.length<=k)(d:UInt8)(n:Nat)(ho:YH (s.data.toList.drop k)=.ok (d,n)) :
  Calls prog 197 #[.pointer (some ⟨R,0,none⟩)] w fun e w'=>e=.returned (.int .i64 0)/\Rdr R B s (k+n) (bs++[d]) w'/\FrB R B 5 w w':=by
 have hle:=(one_le ho).2;rw [List.length_drop] at hle;have hsz:s.data.toList.length=s.size:=s_;rw [drop_cons s k hk] at ho;simp only [YH] at ho;by_cases hb:Yj s[k]=true
 ·rw [if_pos hb] at ho;cases ho
 ·rw [if_neg hb] at ho
  by_cases h92:s[k]=92
  ·rw [if_pos h92] at ho
   cases he:YR (s.data.toList.drop (k+1)) with
   |none=>rw [he] at ho;cases ho
   |some x=>
    obtain ⟨d',n'⟩:=x;rw [he] at ho;cases ho
    exact ZlL R B s k bs w h hk hs hbs (by simpa using hb) (by rw [h92];rfl) _ _ he o_
  ·rw [if_neg h92] at ho
   cases ho
   exact Znn R B s k bs w h hk hs hbs (by simpa using hb) (ZrB h92)
theorem m16_{p:Prop}(h:p:=by go_ret;exact ZiY.err (hfr.trans (FrB.drewN (FrB.refl _ _ _ _) _)) HR.out):p:=h
def ZiY(R B:Nat)(s:ByteArray)(w:World)(res:Except Nat (Str×Str))(e:Ending)(w':World):Prop:=
 FrB R B 5 w w'/\match res with
 |.error c=>e=.returned (.int .i64 c)
 |.ok (bs,r)=>e=.returned (.int .i64 0)/\∃k,s.data.toList.drop k=r/\k<=s.size/\bs.length<=k/\Rdr R B s k bs w'
theorem Y2(s:ByteArray)(k:Nat):(s.data.toList.drop k).length=s.size-k:=s_
theorem Zrq{a b:UInt8}(h:¬a=b):((a.toNat:Int)!=(b.toNat:Int))=true:=by
 rw [bne_iff_ne];intro e;exact h (UInt8.toNat_inj.1 o_)
theorem Zru{a b:UInt8}(h:a=b):((a.toNat:Int)!=(b.toNat:Int))=false:=by
 subst h;simp
theorem Zaz{l:List UInt8}{c:Nat}(hl:l≠[])(h:YH l=.error c):((c:Int)!=0)=true:=by
 match l,hl with
 |a::r,_=>
  simp only [YH] at h;split at h
  ·cases h;rfl
  ·split at h
   ·split at h
    ·cases h
    ·cases h;rfl
   ·cases h
theorem ZiY.err{R B:Nat}{s:ByteArray}{w w':World}{res:Except Nat (Str×Str)}{c:Nat}(hf:FrB R B 5 w w')(h:res=.error c):ZiY R B s w res (.returned (.int .i64 c)) w':=by
 subst h;exact ⟨hf,rfl⟩
theorem ZiY.ok{R B:Nat}{s:ByteArray}{w w':World}{res:Except Nat (Str×Str)}{bs:Str}{k:Nat}(hf:FrB R B 5 w w')(h:res=.ok (bs,s.data.toList.drop k))(hk:k<=s.size)(hb:bs.length<=k)(hr:Rdr R B s k bs w') :
  ZiY R B s w res (.returned (.int .i64 0)) w':=by
 subst h;exact ⟨hf,rfl,k,rfl,hk,hb,hr⟩
theorem Zha{q:UInt8}{f:Nat}{s:ByteArray}{j:Nat}{cs:Str}(hf:s.size-j<f)(hlt:j<s.size)(h:s[j]=q):Ye q f (s.data.toList.drop j) cs=.ok (cs,s.data.toList.drop (j+1)):=by
 obtain ⟨f,rfl⟩:∃f',f=f'+1:=⟨f-1,o_⟩;rw [drop_cons s j hlt];simp [Ye,h]
theorem Zkg{q:UInt8}{f:Nat}{s:ByteArray}{j:Nat}{cs:Str}(hf:s.size-j<f)(hlt:s.size<=j):Ye q f (s.data.toList.drop j) cs=.error 13:=by
 obtain ⟨f,rfl⟩:∃f',f=f'+1:=⟨f-1,o_⟩;rw [List.drop_eq_nil_of_le n42_];rfl
theorem ZkB{q:UInt8}{f:Nat}{s:ByteArray}{j:Nat}{cs:Str}{c:Nat}(hf:s.size-j<f)(hlt:j<s.size)(h:¬s[j]=q)(ho:YH (s.data.toList.drop j)=.error c):Ye q f (s.data.toList.drop j) cs=.error c:=by
 obtain ⟨f,rfl⟩:∃f',f=f'+1:=⟨f-1,o_⟩;rw [drop_cons s j hlt] at ho⊢;simp only [Ye,h,if_false,ho]
theorem Zlk{q:UInt8}{f:Nat}{s:ByteArray}{j:Nat}{cs:Str}{d:UInt8}{n:Nat}(hf:s.size-j<f)(hlt:j<s.size)(h:¬s[j]=q)(ho:YH (s.data.toList.drop j)=.ok (d,n)) :
  Ye q f (s.data.toList.drop j) cs=Ye q (f-1) (s.data.toList.drop (j+n)) (cs++[d]):=by
 obtain ⟨f,rfl⟩:∃f',f=f'+1:=⟨f-1,o_⟩;have e:s.data.toList.drop (j+n)=(s.data.toList.drop j).drop n:=by rw [List.drop_drop]
 rw [e];rw [drop_cons s j hlt] at ho⊢;simp only [Ye,h,if_false,ho,Nat.add_sub_cancel]
theorem Zmb(R B:Nat)(s:ByteArray)(k:Nat)(bs:List UInt8)(w:World)(h:Rdr R B s k bs w)(hk:k<s.size)(hs:s.size<549755813888)(hbs:bs.length<=k)(q:UInt8)(res:Except Nat (Str×Str))
  (F:Nat) (hF:s.size-(k+1)<F) (hres:Ye q F (s.data.toList.drop (k+1)) bs=res) :
  Calls prog 200 #[.pointer (some ⟨R,0,none⟩),.int .u8 q.toNat] w fun e w'=>ZiY R B s w res e w':=by
 obtain ⟨c0,c1,f1⟩:=h.rd;go_enter func200,ntmps200;have h':=h.moved (k+1);have Hres:=h_ hres;clear hres;go_wp2;have hf':FrB R B 5 w (w.setCell ⟨R,1,none⟩ (.int .i64 ((k:Int)+1))):=FrB.setCell (FrB.refl _ _ _ _) _ _;have h'':Rdr R B s (k+1) bs (w.setCell ⟨R,1,none⟩ (.int .i64 ((k:Int)+1))):=h';generalize w.setCell ⟨R,1,none⟩ (.int .i64 ((k:Int)+1))=w2 at hf' h''⊢;clear c0 c1 f1 h h';go_loopg [5] F (fun f _ wr=>∃(j:Nat) (cs:List UInt8),Rdr R B s j cs wr/\j<=s.size/\cs.length<=j/\s.size-j<f/\Hid (Ye q f (s.data.toList.drop j) cs=res)/\FrB R B 5 w wr)
 case atStart=>exact ⟨k+1,bs,h'',o_,o_,o_,Hres,hf'⟩
 case round=>
  obtain ⟨j,cs,hr,hj,hcs,hfu,Hq,hfr⟩:=hrel;obtain ⟨c0,c1,f1⟩:=hr.rd;by_cases hlt:j<s.size
  ·have hd:decide (s.size<=j)=false:=n42_
   by_cases hqq:s[j]=q
   ·have hne:=Zru hqq
    have HR:=h_ (Hq.out.symm.trans (Zha (cs:=cs) hfu hlt hqq));clear hqq;go_wp2_with fail;go_quiet ((go_at_call 155;exact Calls.quiet_of (Xi R B s j cs _ hr)));go_wp2_with (go_at_call 155;refine (Xi R B s j cs _ n78_).mono ?_;rintro e w' ⟨rfl,n,rfl⟩);go_ret;exact ZiY.ok (hfr.trans (FrB.setCell (FrB.drewN (FrB.refl _ _ _ _) _) 1 _)) HR.out o_ o_ ((hr.moved (j+1)).drewN _)
   ·have hne:=Zrq hqq
    cases ho:YH (s.data.toList.drop j) with
    |error c=>
     have HR:=h_ (Hq.out.symm.trans (ZkB (cs:=cs) hfu hlt hqq ho));have hc0:=Zaz (by rw [drop_cons s j hlt];simp) ho;have Ho:=h_ ho;clear ho hqq;go_wp2_with fail;go_quiet ((go_at_call 155;exact Calls.quiet_of (Xi R B s j cs _ hr)));go_wp2_with (go_at_call 197;refine (Zik R B s j cs _ n78_ hlt hs c Ho.out).mono ?_;rintro e w' ⟨rfl,n,rfl⟩);exact m16_
    |ok x=>
     obtain ⟨d,n⟩:=x;have HR:=h_ ((Zlk (cs:=cs) hfu hlt hqq ho).symm.trans Hq.out);have hle:=one_le ho;rw [Y2] at hle;have Ho:=h_ ho;clear ho hqq;go_wp2_with fail;go_quiet ((go_at_call 155;exact Calls.quiet_of (Xi R B s j cs _ hr)));go_wp2_with (go_at_call 197;refine (ZkS R B s j cs _ n78_ hlt hs hcs d n Ho.out).mono ?_;rintro e w' ⟨rfl,hr2,hf2⟩);go_roundg (gk-1)
     case measure=>omega
     case rel=>exact ⟨j+n,cs++[d],hr2,o_,n2_,o_,HR,(hfr.drewN _).trans hf2⟩
  ·have hd:decide (s.size<=j)=true:=n42_
   have hge:s.size<=j:=o_;have HR:=h_ (Hq.out.symm.trans (Zkg (cs:=cs) hfu hge));go_wp2_with fail;go_quiet ((go_at_call 155;exact Calls.quiet_of (Xi R B s j cs _ hr)));go_wp2_with (go_at_call 155;refine (Xi R B s j cs _ n78_).mono ?_;rintro e w' ⟨rfl,n,rfl⟩);exact m16_
end Go.Proofs.YtgoooebfhdbbkaaGreatDoor
