import Derived.Deep.LoopGhost
import Derived.Deep.RegionHeld3
import Derived.Test.YtmgmbeipbeknaaaGreatDoorRB5
namespace Go.Proofs.YtmgmbeipbeknaaaGreatDoor
open Go.Proofs.Tryz
open Go Go.RowKit
set_option linter.all false
set_option maxHeartbeats 16000000
set_option maxRecDepth 100000
def ZvC(r:List UInt8):Value:=match JB r with
 |some (d,n)=>.tuple #[.int .u8 d.toNat,.int .i64 ((n+1:Nat):Int)]
 |none=>.tuple #[.int .u8 0,.int .i64 0]
theorem ZoY(s:ByteArray)(h:2<=s.size):s.data.toList=s[0]::s[1]::s.data.toList.drop 2:=by
 obtain ⟨⟨d⟩⟩:=s;match d,h with
 |a::b::r,_=>rfl
 |[],h=>exact absurd h d_
 |[a],h=>exact absurd (show 2<=1 from h) d_
theorem Zot(s:ByteArray)(w:World)(h1:1<=s.size)(h63:s.size<=9223372036854775807) :
  Calls prog 331 #[.string s] w fun e w'=>e=.returned (ZvC (s.data.toList.drop 1))/\∃n,w'=w.drewN n:=by
 by_cases h:s.size<2
 ·have hl:s.data.toList.drop 1=[]:=List.drop_eq_nil_of_le (by simpa using (by omega:s.size<=1))
  rw [hl];go_enter func331,ntmps331;go_wp2;go_ret2;exact ⟨rfl,0,rfl⟩
 ·have h2:(1:Int)<(s.size:Int):=o_
  have h2':2<=s.size:=o_;have hsp:=ZoY s h2';rw [hsp];simp only [List.drop_succ_cons,List.drop_zero];generalize hc:s[1]=c at *;have Hc:=h_ hc;clear hc;have Hsp:=h_ hsp;clear hsp;have hx:(s.extract 2 s.size).data.toList=s.data.toList.drop 2:=Lib.extract_to_end s 2;have hxs:(s.extract 2 s.size).size<=9223372036854775807:=n6_;have HX:=h_ hx;clear hx;generalize hr:s.data.toList.drop 2=r at *;have Hr:=h_ hr;clear hr;go_enter func331,ntmps331;go_wp2_with (go_at_call 252;refine (ZrO _ _ hxs r HX.out).mono ?_;rintro e w' ⟨rfl,n,rfl⟩);all_goals
   go_ret2;refine ⟨Zbg ?_,by first|exact dn0 _|exact dn _ _⟩;have hc':=Hc.out;subst hc';simp only [ZvC,JB,Xn]
   first
    |(simp [*];done)
    |(cases ht:Jh r with
      |none=>simp_all
      |some d=>
       by_cases hd:d=0
       ·subst hd;simp_all
       ·have hd':d.toNat≠0:=fun e=>hd (UInt8.toNat_inj.1 e)
        simp_all)
def Rdr(R B:Nat)(s:ByteArray)(k:Nat)(bs:List UInt8)(w:World):Prop:=
 ∃p v,w.heap[R]?=some (.cells #[.string s,.int .i64 k,p,v] 241 (0,0))/\(p=.pointer none\/p=ZbP R 2)/\Buf B 5 bs v w/\R<B/\B<=w.heap.size
theorem Znl:ZqT 241 4 2:=⟨k_,d_⟩
theorem Rdr.frame{R B:Nat}{s:ByteArray}{k:Nat}{bs:List UInt8}{w w':World}{M:Nat->Prop}(h:Rdr R B s k bs w)(hf:Fr M w w')(hR:¬M R)(hB:∀i,B<=i->Zdw 5 w i->¬M i):Rdr R B s k bs w':=by
 obtain ⟨p,v,h1,h2,h3,h4,h5⟩:=h;exact ⟨p,v,hf.heap h1 hR,h2,h3.kept hf (fun i hi=>hB i (h3.row i hi).1 (h3.row i hi).2),h4,by have:=hf.size;omega⟩
theorem Rdr.drewN{R B:Nat}{s:ByteArray}{k:Nat}{bs:List UInt8}{w:World}(h:Rdr R B s k bs w)(n:Nat):Rdr R B s k bs (w.drewN n):=h
theorem Rdr.rd{R B:Nat}{s:ByteArray}{k:Nat}{bs:List UInt8}{w:World}(h:Rdr R B s k bs w) :
  w.cell? ⟨R,0,none⟩=some (.string s)/\w.cell? ⟨R,1,none⟩=some (.int .i64 k)/\w.frozen? ⟨R,1,none⟩=false:=by
 obtain ⟨p,v,h1,h2,h3,h4,h5⟩:=h;obtain ⟨a,b,_,_⟩:=YtmgmbeipbeknaaaGreatDoor.rd h1;exact ⟨by rw [a];rfl,by rw [a];rfl,b 1⟩
theorem Xr(R B:Nat)(s:ByteArray)(k:Nat)(bs:List UInt8)(w:World)(h:Rdr R B s k bs w) :
  Calls prog 261 #[.pointer (some ⟨R,0,none⟩)] w fun e w'=>e=.returned (.bool (decide (s.size<=k)))/\∃n,w'=w.drewN n:=by
 obtain ⟨c0,c1,f1⟩:=h.rd;go_enter func261,ntmps261;go_wp2;go_quiet (fail);go_wp2;go_ret;exact ⟨rfl,dn _ _⟩
theorem Rdr.moved{R B:Nat}{s:ByteArray}{k:Nat}{bs:List UInt8}{w:World}(h:Rdr R B s k bs w)(k':Nat):Rdr R B s k' bs (w.setCell ⟨R,1,none⟩ (.int .i64 k')):=by
 obtain ⟨p,v,h1,h2,h3,h4,h5⟩:=h;exact ⟨p,v,heap_setCell h1 1 _,h2,h3.setCell (h3.ne h1 d_) _,h4,by simpa using h5⟩
theorem Rdr.write{R B:Nat}{s:ByteArray}{k:Nat}{bs:List UInt8}{w:World}(h:Rdr R B s k bs w)(c:UInt8)(hlen:bs.length<1099511627776) :
  Calls prog 127 #[.pointer (some ⟨R,2,none⟩),.int .u8 c.toNat] w fun e w'=>e=.returned .nilIface/\Rdr R B s k (bs++[c]) w'/\FrB R B 5 w w':=by
 obtain ⟨p,v,h1,h2,h3,h4,h5⟩:=h;refine (ZdX R 2 B #[.string s,.int .i64 k,p,v] 241 _ h1 Znl p v rfl h2 rfl bs h3 d_ hlen h5 c).mono ?_;rintro e w1 ⟨rfl,v',hR1,hb1,hf1⟩;exact ⟨rfl,⟨ZbP R 2,v',hR1,.inr rfl,hb1,h4,n79_⟩,hf1⟩
theorem one_le{l:List UInt8}{d:UInt8}{n:Nat}(h:XZ l=.ok (d,n)):1<=n/\n<=l.length:=by
 match l with
 |[]=>simp [XZ] at h
 |c::r=>
  simp only [XZ] at h;split at h
  ·cases h
  ·split at h
   ·match r with
    |[]=>simp [JB] at h
    |a::r' =>
     simp only [JB] at h;split at h
     ·rename_i x hx
      rename_i d' n';cases h
      split at hx
      ·cases hx;simp
      ·split at hx
       ·cases hx;simp
       ·split at hx
        ·cases hx;simp
        ·split at hx
         ·cases hx;simp
         ·split at hx
          ·split at hx
           ·rename_i d'' h2
            split at hx
            ·cases hx
            ·cases hx
             match r',h2 with
             |_::_::_,_=>simp
             |[],h2=>simp [Jh] at h2
             |[_],h2=>simp [Jh] at h2
           ·cases hx
          ·cases hx
     ·cases h
   ·cases h;simp
theorem Zuu(R B:Nat)(s:ByteArray)(k:Nat)(bs:List UInt8)(w:World)(h:Rdr R B s k bs w)(hk:k<s.size)(hs:s.size<549755813888)(hb:Jz s[k]=true) :
  Calls prog 306 #[.pointer (some ⟨R,0,none⟩)] w fun e w'=>e=.returned (.int .i64 1)/\∃n,w'=w.drewN n:=by
 obtain ⟨c0,c1,f1⟩:=h.rd;have HB:=h_ hb;clear hb;go_enter func306,ntmps306;go_wp2;go_quiet (fail);go_wp2_with (go_at_call 167;refine (Ze1 _ _).mono ?_;rintro e w' ⟨rfl,rfl⟩;rw [HB.out]);go_ret;exact ⟨rfl,dn _ _⟩
theorem ZqA(R B:Nat)(s:ByteArray)(k:Nat)(bs:List UInt8)(w:World)(h:Rdr R B s k bs w)(hk:k<s.size)(hs:s.size<549755813888)(hbs:bs.length<=k)(hb:Jz s[k]=false)(h92:((s[k].toNat:Int)==92)=false) :
  Calls prog 306 #[.pointer (some ⟨R,0,none⟩)] w fun e w'=>e=.returned (.int .i64 0)/\Rdr R B s (k+1) (bs++[s[k]]) w'/\FrB R B 5 w w':=by
 obtain ⟨c0,c1,f1⟩:=h.rd;have HB:=h_ hb;clear hb;go_enter func306,ntmps306;go_wp2;go_quiet (fail);go_wp2_with (first
  |(go_at_call 167;refine (Ze1 _ _).mono ?_;rintro e w' ⟨rfl,rfl⟩;rw [HB.out])
  |(go_at_call 127;refine (Rdr.write (by exact h.drewN _) s[k] o_).mono ?_))
 rintro e w1 ⟨rfl,hr1,hf1⟩;obtain ⟨d0,d1,g1⟩:=hr1.rd;go_wp2;go_ret;exact ⟨rfl,hr1.moved _,(FrB.trans (FrB.drewN (FrB.refl _ _ _ _) _) hf1).setCell _ _⟩
def ZoF(r:List UInt8):UInt8×Nat:=match JB r with
 |some (d,n)=>(d,n+1)
 |none=>(0,0)
theorem ZjZ(s:ByteArray)(w:World)(h1:1<=s.size)(h63:s.size<=9223372036854775807)(l:List UInt8)(hl:s.data.toList.drop 1=l) :
  Calls prog 331 #[.string s] w fun e w'=>e=.returned (.tuple #[.int .u8 (ZoF l).1.toNat,.int .i64 ((ZoF l).2:Nat)])/\∃n,w'=w.drewN n:=by
 refine (Zot s w h1 h63).mono ?_;rintro e w' ⟨rfl,hw⟩;refine ⟨?_,hw⟩;rw [hl];unfold ZvC ZoF;rcases JB l with _|⟨d,n⟩<;>rfl
theorem ZmU(R B:Nat)(s:ByteArray)(k:Nat)(bs:List UInt8)(w:World)(h:Rdr R B s k bs w)(hk:k<s.size)(hs:s.size<549755813888)(hb:Jz s[k]=false)(h92:((s[k].toNat:Int)==92)=true)
  (he:JB (s.data.toList.drop (k+1))=none) :
  Calls prog 306 #[.pointer (some ⟨R,0,none⟩)] w fun e w'=>e=.returned (.int .i64 13)/\∃n,w'=w.drewN n:=by
 obtain ⟨c0,c1,f1⟩:=h.rd;have HB:=h_ hb;clear hb;have hx:(s.extract k s.size).data.toList.drop 1=s.data.toList.drop (k+1):=by rw [Lib.extract_to_end s k,List.drop_drop]
 have hz:1<=(s.extract k s.size).size:=n6_;have hz':(s.extract k s.size).size<=9223372036854775807:=n6_;have hk':(k:Int)<=(s.size:Int):=o_;have HX:=h_ hx;clear hx;have HP:=h_ (show ZoF (s.data.toList.drop (k+1))=(0,0) by simp [ZoF,he]);clear he;go_enter func306,ntmps306;go_wp2;go_quiet (fail);go_wp2_with (go_at_call 167;refine (Ze1 _ _).mono ?_;rintro e w' ⟨rfl,rfl⟩;rw [HB.out]);have hq:=h.drewN nq;have HW:=h_ (dn w nq);generalize w.drewN nq=w2 at hq HW⊢;clear c0 c1 f1 h;obtain ⟨c0,c1,f1⟩:=hq.rd;go_quiet ((go_at_call 331;exact Calls.quiet_of (ZjZ _ _ hz hz' _ HX.out)));rw [HP.out];go_wp2;go_ret;exact ⟨rfl,QA HW.out⟩
theorem ZoN(R B:Nat)(s:ByteArray)(k:Nat)(bs:List UInt8)(w:World)(h:Rdr R B s k bs w)(hk:k<s.size)(hs:s.size<549755813888)(hbs:bs.length<=k)(hb:Jz s[k]=false)(h92:((s[k].toNat:Int)==92)=true)
  (d:UInt8) (n:Nat) (he:JB (s.data.toList.drop (k+1))=some (d,n)) (hn:k+(n+1)<=s.size) :
  Calls prog 306 #[.pointer (some ⟨R,0,none⟩)] w fun e w'=>e=.returned (.int .i64 0)/\Rdr R B s (k+(n+1)) (bs++[d]) w'/\FrB R B 5 w w':=by
 obtain ⟨c0,c1,f1⟩:=h.rd;have HB:=h_ hb;clear hb;have hx:(s.extract k s.size).data.toList.drop 1=s.data.toList.drop (k+1):=by rw [Lib.extract_to_end s k,List.drop_drop]
 have hz:1<=(s.extract k s.size).size:=n6_;have hz':(s.extract k s.size).size<=9223372036854775807:=n6_;have hk':(k:Int)<=(s.size:Int):=o_;have HX:=h_ hx;clear hx;have HP:=h_ (show ZoF (s.data.toList.drop (k+1))=(d,n+1) by simp [ZoF,he]);clear he;have hn0:(((n+1:Nat):Int)==0)=false:=n15_;go_enter func306,ntmps306;go_wp2;go_quiet (fail);go_wp2_with (go_at_call 167;refine (Ze1 _ _).mono ?_;rintro e w' ⟨rfl,rfl⟩;rw [HB.out]);have hq:=h.drewN nq;have HW:=h_ (dn w nq);generalize w.drewN nq=w2 at hq HW⊢;clear c0 c1 f1 h;obtain ⟨c0,c1,f1⟩:=hq.rd;go_quiet ((go_at_call 331;exact Calls.quiet_of (ZjZ _ _ hz hz' _ HX.out)));rw [HP.out];go_wp2_with ((go_at_call 127;refine (Rdr.write (by exact hq.drewN _) d o_).mono ?_));rintro e w1 ⟨rfl,hr1,hf1⟩;obtain ⟨d0,d1,g1⟩:=hr1.rd;go_wp2;go_ret;refine ⟨rfl,hr1.moved (k+(n+1)),(FrB.trans (FrB.of_dn (QA HW.out)) hf1).setCell _ _⟩
theorem ZkO(R B:Nat)(s:ByteArray)(k:Nat)(bs:List UInt8)(w:World)(h:Rdr R B s k bs w)(hk:k<s.size)(hs:s.size<549755813888)(c:Nat)(ho:XZ (s.data.toList.drop k)=.error c) :
  Calls prog 306 #[.pointer (some ⟨R,0,none⟩)] w fun e w'=>e=.returned (.int .i64 c)/\∃n,w'=w.drewN n:=by
 rw [drop_cons s k hk] at ho;simp only [XZ] at ho;by_cases hb:Jz s[k]=true
 ·rw [if_pos hb] at ho
  cases ho
  exact Zuu R B s k bs w h hk hs hb
 ·rw [if_neg hb] at ho
  by_cases h92:s[k]=92
  ·rw [if_pos h92] at ho
   cases he:JB (s.data.toList.drop (k+1)) with
   |none=>
    rw [he] at ho;cases ho
    exact ZmU R B s k bs w h hk hs (by simpa using hb) (by rw [h92];rfl) he
   |some x=>rw [he] at ho;cases ho
  ·rw [if_neg h92] at ho;cases ho
theorem Zwk{c:UInt8}(h:¬c=92):((c.toNat:Int)==92)=false:=by
 rw [c11_];intro e;exact h (UInt8.toNat_inj.1 (by have:c.toNat=92:=o_;rw [this];rfl))
theorem Zom(R B:Nat)(s:ByteArray)(k:Nat)(bs:List UInt8)(w:World)(h:Rdr R B s k bs w)(hk:k<s.size)(hs:s.size<549755813888)(hbs:bs.length<=k)(d:UInt8)(n:Nat)(ho:XZ (s.data.toList.drop k)=.ok (d,n)) :
  Calls prog 306 #[.pointer (some ⟨R,0,none⟩)] w fun e w'=>e=.returned (.int .i64 0)/\Rdr R B s (k+n) (bs++[d]) w'/\FrB R B 5 w w':=by
 have hle:=(one_le ho).2;rw [List.length_drop] at hle;have hsz:s.data.toList.length=s.size:=s_;rw [drop_cons s k hk] at ho;simp only [XZ] at ho;by_cases hb:Jz s[k]=true
 ·rw [if_pos hb] at ho;cases ho
 ·rw [if_neg hb] at ho
  by_cases h92:s[k]=92
  ·rw [if_pos h92] at ho
   cases he:JB (s.data.toList.drop (k+1)) with
   |none=>rw [he] at ho;cases ho
   |some x=>
    obtain ⟨d',n'⟩:=x;rw [he] at ho;cases ho
    exact ZoN R B s k bs w h hk hs hbs (by simpa using hb) (by rw [h92];rfl) _ _ he o_
  ·rw [if_neg h92] at ho
   cases ho
   exact ZqA R B s k bs w h hk hs hbs (by simpa using hb) (Zwk h92)
theorem m16_{p:Prop}(h:p:=by go_ret;exact Zke.err (hfr.trans (FrB.drewN (FrB.refl _ _ _ _) _)) HR.out):p:=h
def Zke(R B:Nat)(s:ByteArray)(w:World)(res:Except Nat (Str×Str))(e:Ending)(w':World):Prop:=
 FrB R B 5 w w'/\match res with
 |.error c=>e=.returned (.int .i64 c)
 |.ok (bs,r)=>e=.returned (.int .i64 0)/\∃k,s.data.toList.drop k=r/\k<=s.size/\bs.length<=k/\Rdr R B s k bs w'
theorem Qk(s:ByteArray)(k:Nat):(s.data.toList.drop k).length=s.size-k:=s_
theorem Zv5{a b:UInt8}(h:¬a=b):((a.toNat:Int)!=(b.toNat:Int))=true:=by
 rw [bne_iff_ne];intro e;exact h (UInt8.toNat_inj.1 o_)
theorem ZvV{a b:UInt8}(h:a=b):((a.toNat:Int)!=(b.toNat:Int))=false:=by
 subst h;simp
theorem Za5{l:List UInt8}{c:Nat}(hl:l≠[])(h:XZ l=.error c):((c:Int)!=0)=true:=by
 match l,hl with
 |a::r,_=>
  simp only [XZ] at h;split at h
  ·cases h;rfl
  ·split at h
   ·split at h
    ·cases h
    ·cases h;rfl
   ·cases h
theorem Zke.err{R B:Nat}{s:ByteArray}{w w':World}{res:Except Nat (Str×Str)}{c:Nat}(hf:FrB R B 5 w w')(h:res=.error c):Zke R B s w res (.returned (.int .i64 c)) w':=by
 subst h;exact ⟨hf,rfl⟩
theorem Zke.ok{R B:Nat}{s:ByteArray}{w w':World}{res:Except Nat (Str×Str)}{bs:Str}{k:Nat}(hf:FrB R B 5 w w')(h:res=.ok (bs,s.data.toList.drop k))(hk:k<=s.size)(hb:bs.length<=k)(hr:Rdr R B s k bs w') :
  Zke R B s w res (.returned (.int .i64 0)) w':=by
 subst h;exact ⟨hf,rfl,k,rfl,hk,hb,hr⟩
theorem ZiK{q:UInt8}{f:Nat}{s:ByteArray}{j:Nat}{cs:Str}(hf:s.size-j<f)(hlt:j<s.size)(h:s[j]=q):Ym q f (s.data.toList.drop j) cs=.ok (cs,s.data.toList.drop (j+1)):=by
 obtain ⟨f,rfl⟩:∃f',f=f'+1:=⟨f-1,o_⟩;rw [drop_cons s j hlt];simp [Ym,h]
theorem Zlb{q:UInt8}{f:Nat}{s:ByteArray}{j:Nat}{cs:Str}(hf:s.size-j<f)(hlt:s.size<=j):Ym q f (s.data.toList.drop j) cs=.error 13:=by
 obtain ⟨f,rfl⟩:∃f',f=f'+1:=⟨f-1,o_⟩;rw [List.drop_eq_nil_of_le n31_];rfl
theorem Zml{q:UInt8}{f:Nat}{s:ByteArray}{j:Nat}{cs:Str}{c:Nat}(hf:s.size-j<f)(hlt:j<s.size)(h:¬s[j]=q)(ho:XZ (s.data.toList.drop j)=.error c):Ym q f (s.data.toList.drop j) cs=.error c:=by
 obtain ⟨f,rfl⟩:∃f',f=f'+1:=⟨f-1,o_⟩;rw [drop_cons s j hlt] at ho⊢;simp only [Ym,h,if_false,ho]
theorem ZoA{q:UInt8}{f:Nat}{s:ByteArray}{j:Nat}{cs:Str}{d:UInt8}{n:Nat}(hf:s.size-j<f)(hlt:j<s.size)(h:¬s[j]=q)(ho:XZ (s.data.toList.drop j)=.ok (d,n)) :
  Ym q f (s.data.toList.drop j) cs=Ym q (f-1) (s.data.toList.drop (j+n)) (cs++[d]):=by
 obtain ⟨f,rfl⟩:∃f',f=f'+1:=⟨f-1,o_⟩;have e:s.data.toList.drop (j+n)=(s.data.toList.drop j).drop n:=by rw [List.drop_drop]
 rw [e];rw [drop_cons s j hlt] at ho⊢;simp only [Ym,h,if_false,ho,Nat.add_sub_cancel]
theorem Zn4(R B:Nat)(s:ByteArray)(k:Nat)(bs:List UInt8)(w:World)(h:Rdr R B s k bs w)(hk:k<s.size)(hs:s.size<549755813888)(hbs:bs.length<=k)(q:UInt8)(res:Except Nat (Str×Str))
  (F:Nat) (hF:s.size-(k+1)<F) (hres:Ym q F (s.data.toList.drop (k+1)) bs=res) :
  Calls prog 309 #[.pointer (some ⟨R,0,none⟩),.int .u8 q.toNat] w fun e w'=>Zke R B s w res e w':=by
 obtain ⟨c0,c1,f1⟩:=h.rd;go_enter func309,ntmps309;have h':=h.moved (k+1);have Hres:=h_ hres;clear hres;go_wp2;have hf':FrB R B 5 w (w.setCell ⟨R,1,none⟩ (.int .i64 ((k:Int)+1))):=FrB.setCell (FrB.refl _ _ _ _) _ _;have h'':Rdr R B s (k+1) bs (w.setCell ⟨R,1,none⟩ (.int .i64 ((k:Int)+1))):=h';generalize w.setCell ⟨R,1,none⟩ (.int .i64 ((k:Int)+1))=w2 at hf' h''⊢;clear c0 c1 f1 h h';go_loopg [5] F (fun f _ wr=>∃(j:Nat) (cs:List UInt8),Rdr R B s j cs wr/\j<=s.size/\cs.length<=j/\s.size-j<f/\Hid (Ym q f (s.data.toList.drop j) cs=res)/\FrB R B 5 w wr)
 case atStart=>exact ⟨k+1,bs,h'',o_,o_,o_,Hres,hf'⟩
 case round=>
  obtain ⟨j,cs,hr,hj,hcs,hfu,Hq,hfr⟩:=hrel;obtain ⟨c0,c1,f1⟩:=hr.rd;by_cases hlt:j<s.size
  ·have hd:decide (s.size<=j)=false:=n31_
   by_cases hqq:s[j]=q
   ·have hne:=ZvV hqq
    have HR:=h_ (Hq.out.symm.trans (ZiK (cs:=cs) hfu hlt hqq));clear hqq;go_wp2_with fail;go_quiet ((go_at_call 261;exact Calls.quiet_of (Xr R B s j cs _ hr)));go_wp2_with (go_at_call 261;refine (Xr R B s j cs _ n63_).mono ?_;rintro e w' ⟨rfl,n,rfl⟩);go_ret;exact Zke.ok (hfr.trans (FrB.setCell (FrB.drewN (FrB.refl _ _ _ _) _) 1 _)) HR.out o_ o_ ((hr.moved (j+1)).drewN _)
   ·have hne:=Zv5 hqq
    cases ho:XZ (s.data.toList.drop j) with
    |error c=>
     have HR:=h_ (Hq.out.symm.trans (Zml (cs:=cs) hfu hlt hqq ho));have hc0:=Za5 (by rw [drop_cons s j hlt];simp) ho;have Ho:=h_ ho;clear ho hqq;go_wp2_with fail;go_quiet ((go_at_call 261;exact Calls.quiet_of (Xr R B s j cs _ hr)));go_wp2_with (go_at_call 306;refine (ZkO R B s j cs _ n63_ hlt hs c Ho.out).mono ?_;rintro e w' ⟨rfl,n,rfl⟩);exact m16_
    |ok x=>
     obtain ⟨d,n⟩:=x;have HR:=h_ ((ZoA (cs:=cs) hfu hlt hqq ho).symm.trans Hq.out);have hle:=one_le ho;rw [Qk] at hle;have Ho:=h_ ho;clear ho hqq;go_wp2_with fail;go_quiet ((go_at_call 261;exact Calls.quiet_of (Xr R B s j cs _ hr)));go_wp2_with (go_at_call 306;refine (Zom R B s j cs _ n63_ hlt hs hcs d n Ho.out).mono ?_;rintro e w' ⟨rfl,hr2,hf2⟩);go_roundg (gk-1)
     case measure=>omega
     case rel=>exact ⟨j+n,cs++[d],hr2,o_,n6_,o_,HR,(hfr.drewN _).trans hf2⟩
  ·have hd:decide (s.size<=j)=true:=n31_
   have hge:s.size<=j:=o_;have HR:=h_ (Hq.out.symm.trans (Zlb (cs:=cs) hfu hge));go_wp2_with fail;go_quiet ((go_at_call 261;exact Calls.quiet_of (Xr R B s j cs _ hr)));go_wp2_with (go_at_call 261;refine (Xr R B s j cs _ n63_).mono ?_;rintro e w' ⟨rfl,n,rfl⟩);exact m16_
end Go.Proofs.YtmgmbeipbeknaaaGreatDoor
