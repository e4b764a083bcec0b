import Derived.Test.YtmgmbeipbeknaaaGreatDoorRT10
namespace Go.Proofs.YtmgmbeipbeknaaaGreatDoor
open Go.Proofs.Tryz
open Go Go.RowKit
set_option linter.unusedVariables false
set_option linter.unusedSimpArgs false
set_option maxHeartbeats 16000000
set_option maxRecDepth 100000
theorem ZjR(R B:Nat)(s:ByteArray)(k:Nat)(bs:List UInt8)(w:World)(h:Rdr R B s k bs w)(hk:k<s.size)(hs:s.size<549755813888)(hb:XW s[k]=false)(h92:((s[k].toNat:Int)==92)=true)
  (he:QG (s.data.toList.drop (k+1))=none) :
  Calls prog 306 #[.pointer (some ⟨R,0,none⟩)] w fun e w'=>e=.returned (.int .i64 13)/\∃n,w'=w.drewN n:=by
 obtain ⟨c0,c1,f1⟩:=h.rd;have HB:=h_ hb;clear hb;have hx:(s.extract k s.size).data.toList.drop 1=s.data.toList.drop (k+1):=by rw [Lib.extract_to_end s k,List.drop_drop]
 have hz:1<=(s.extract k s.size).size:=n5_;have hz':(s.extract k s.size).size<=9223372036854775807:=n5_;have hk':(k:Int)<=(s.size:Int):=o_;have HX:=h_ hx;clear hx;have HP:=h_ (show Zl2 (s.data.toList.drop (k+1))=(0,0) by simp [Zl2,he]);clear he;go_enter func306,ntmps306;go_wp2;go_quiet (fail);go_wp2_with (go_at_call 167;refine (Zc2 _ _).mono ?_;rintro e w' ⟨rfl,rfl⟩;rw [HB.out]);have hq:=h.drewN nq;have HW:=h_ (dn w nq);generalize w.drewN nq=w2 at hq HW⊢;clear c0 c1 f1 h;obtain ⟨c0,c1,f1⟩:=hq.rd;go_quiet ((go_at_call 331;exact Calls.quiet_of (Zhe _ _ hz hz' _ HX.out)));rw [HP.out];go_wp2;go_ret;exact ⟨rfl,Y3 HW.out⟩
theorem Zlv(R B:Nat)(s:ByteArray)(k:Nat)(bs:List UInt8)(w:World)(h:Rdr R B s k bs w)(hk:k<s.size)(hs:s.size<549755813888)(hbs:bs.length<=k)(hb:XW s[k]=false)(h92:((s[k].toNat:Int)==92)=true)
  (d:UInt8) (n:Nat) (he:QG (s.data.toList.drop (k+1))=some (d,n)) (hn:k+(n+1)<=s.size) :
  Calls prog 306 #[.pointer (some ⟨R,0,none⟩)] w fun e w'=>e=.returned (.int .i64 0)/\Rdr R B s (k+(n+1)) (bs++[d]) w'/\FrB R B 5 w w':=by
 obtain ⟨c0,c1,f1⟩:=h.rd;have HB:=h_ hb;clear hb;have hx:(s.extract k s.size).data.toList.drop 1=s.data.toList.drop (k+1):=by rw [Lib.extract_to_end s k,List.drop_drop]
 have hz:1<=(s.extract k s.size).size:=n5_;have hz':(s.extract k s.size).size<=9223372036854775807:=n5_;have hk':(k:Int)<=(s.size:Int):=o_;have HX:=h_ hx;clear hx;have HP:=h_ (show Zl2 (s.data.toList.drop (k+1))=(d,n+1) by simp [Zl2,he]);clear he;have hn0:(((n+1:Nat):Int)==0)=false:=n12_;go_enter func306,ntmps306;go_wp2;go_quiet (fail);go_wp2_with (go_at_call 167;refine (Zc2 _ _).mono ?_;rintro e w' ⟨rfl,rfl⟩;rw [HB.out]);have hq:=h.drewN nq;have HW:=h_ (dn w nq);generalize w.drewN nq=w2 at hq HW⊢;clear c0 c1 f1 h;obtain ⟨c0,c1,f1⟩:=hq.rd;go_quiet ((go_at_call 331;exact Calls.quiet_of (Zhe _ _ hz hz' _ HX.out)));rw [HP.out];go_wp2_with ((go_at_call 127;refine (Rdr.write (by exact hq.drewN _) d o_).mono ?_));rintro e w1 ⟨rfl,hr1,hf1⟩;obtain ⟨d0,d1,g1⟩:=hr1.rd;go_wp2;go_ret;refine ⟨rfl,hr1.moved (k+(n+1)),(FrB.trans (FrB.of_dn (Y3 HW.out)) hf1).setCell _ _⟩
theorem Zis(R B:Nat)(s:ByteArray)(k:Nat)(bs:List UInt8)(w:World)(h:Rdr R B s k bs w)(hk:k<s.size)(hs:s.size<549755813888)(c:Nat)(ho:Xa (s.data.toList.drop k)=.error c) :
  Calls prog 306 #[.pointer (some ⟨R,0,none⟩)] w fun e w'=>e=.returned (.int .i64 c)/\∃n,w'=w.drewN n:=by
 rw [drop_cons s k hk] at ho;simp only [Xa] at ho;by_cases hb:XW s[k]=true
 ·rw [if_pos hb] at ho
  cases ho
  exact ZrE R B s k bs w h hk hs hb
 ·rw [if_neg hb] at ho
  by_cases h92:s[k]=92
  ·rw [if_pos h92] at ho
   cases he:QG (s.data.toList.drop (k+1)) with
   |none=>
    rw [he] at ho;cases ho
    exact ZjR R B s k bs w h hk hs (by simpa using hb) (by rw [h92];rfl) he
   |some x=>rw [he] at ho;cases ho
  ·rw [if_neg h92] at ho;cases ho
theorem ZsW{c:UInt8}(h:¬c=92):((c.toNat:Int)==92)=false:=by
 rw [beq_eq_false_iff_ne];intro e;exact h (UInt8.toNat_inj.1 (by have:c.toNat=92:=o_;rw [this];rfl))
theorem Zl6(R B:Nat)(s:ByteArray)(k:Nat)(bs:List UInt8)(w:World)(h:Rdr R B s k bs w)(hk:k<s.size)(hs:s.size<549755813888)(hbs:bs.length<=k)(d:UInt8)(n:Nat)(ho:Xa (s.data.toList.drop k)=.ok (d,n)) :
  Calls prog 306 #[.pointer (some ⟨R,0,none⟩)] w fun e w'=>e=.returned (.int .i64 0)/\Rdr R B s (k+n) (bs++[d]) w'/\FrB R B 5 w w':=by
 have hle:=(one_le ho).2;rw [List.length_drop] at hle;have hsz:s.data.toList.length=s.size:=s_;rw [drop_cons s k hk] at ho;simp only [Xa] at ho;by_cases hb:XW s[k]=true
 ·rw [if_pos hb] at ho;cases ho
 ·rw [if_neg hb] at ho
  by_cases h92:s[k]=92
  ·rw [if_pos h92] at ho
   cases he:QG (s.data.toList.drop (k+1)) with
   |none=>rw [he] at ho;cases ho
   |some x=>
    obtain ⟨d',n'⟩:=x;rw [he] at ho;cases ho
    exact Zlv R B s k bs w h hk hs hbs (by simpa using hb) (by rw [h92];rfl) _ _ he o_
  ·rw [if_neg h92] at ho
   cases ho
   exact Zn8 R B s k bs w h hk hs hbs (by simpa using hb) (ZsW h92)
theorem m6_{p:Prop}(h:p:=by go_ret;exact ZiK.err (hfr.trans (FrB.drewN (FrB.refl _ _ _ _) _)) HR.out):p:=h
def ZiK(R B:Nat)(s:ByteArray)(w:World)(res:Except Nat (Str×Str))(e:Ending)(w':World):Prop:=
 FrB R B 5 w w'/\match res with
 |.error c=>e=.returned (.int .i64 c)
 |.ok (bs,r)=>e=.returned (.int .i64 0)/\∃k,s.data.toList.drop k=r/\k<=s.size/\bs.length<=k/\Rdr R B s k bs w'
theorem Xn(s:ByteArray)(k:Nat):(s.data.toList.drop k).length=s.size-k:=s_
theorem Zsy{a b:UInt8}(h:¬a=b):((a.toNat:Int)!=(b.toNat:Int))=true:=by
 rw [bne_iff_ne];intro e;exact h (UInt8.toNat_inj.1 o_)
theorem ZsS{a b:UInt8}(h:a=b):((a.toNat:Int)!=(b.toNat:Int))=false:=by
 subst h;simp
theorem JL{l:List UInt8}{c:Nat}(hl:l≠[])(h:Xa l=.error c):((c:Int)!=0)=true:=by
 match l,hl with
 |a::r,_=>
  simp only [Xa] at h;split at h
  ·cases h;rfl
  ·split at h
   ·split at h
    ·cases h
    ·cases h;rfl
   ·cases h
theorem ZiK.err{R B:Nat}{s:ByteArray}{w w':World}{res:Except Nat (Str×Str)}{c:Nat}(hf:FrB R B 5 w w')(h:res=.error c):ZiK R B s w res (.returned (.int .i64 c)) w':=by
 subst h;exact ⟨hf,rfl⟩
theorem ZiK.ok{R B:Nat}{s:ByteArray}{w w':World}{res:Except Nat (Str×Str)}{bs:Str}{k:Nat}(hf:FrB R B 5 w w')(h:res=.ok (bs,s.data.toList.drop k))(hk:k<=s.size)(hb:bs.length<=k)(hr:Rdr R B s k bs w') :
  ZiK R B s w res (.returned (.int .i64 0)) w':=by
 subst h;exact ⟨hf,rfl,k,rfl,hk,hb,hr⟩
theorem Zgs{q:UInt8}{f:Nat}{s:ByteArray}{j:Nat}{cs:Str}(hf:s.size-j<f)(hlt:j<s.size)(h:s[j]=q):ZU q f (s.data.toList.drop j) cs=.ok (cs,s.data.toList.drop (j+1)):=by
 obtain ⟨f,rfl⟩:∃f',f=f'+1:=⟨f-1,o_⟩;rw [drop_cons s j hlt];simp [ZU,h]
theorem Zj7{q:UInt8}{f:Nat}{s:ByteArray}{j:Nat}{cs:Str}(hf:s.size-j<f)(hlt:s.size<=j):ZU q f (s.data.toList.drop j) cs=.error 13:=by
 obtain ⟨f,rfl⟩:∃f',f=f'+1:=⟨f-1,o_⟩;rw [List.drop_eq_nil_of_le n24_];rfl
theorem ZjD{q:UInt8}{f:Nat}{s:ByteArray}{j:Nat}{cs:Str}{c:Nat}(hf:s.size-j<f)(hlt:j<s.size)(h:¬s[j]=q)(ho:Xa (s.data.toList.drop j)=.error c):ZU q f (s.data.toList.drop j) cs=.error c:=by
 obtain ⟨f,rfl⟩:∃f',f=f'+1:=⟨f-1,o_⟩;rw [drop_cons s j hlt] at ho⊢;simp only [ZU,h,if_false,ho]
theorem Zk3{q:UInt8}{f:Nat}{s:ByteArray}{j:Nat}{cs:Str}{d:UInt8}{n:Nat}(hf:s.size-j<f)(hlt:j<s.size)(h:¬s[j]=q)(ho:Xa (s.data.toList.drop j)=.ok (d,n)) :
  ZU q f (s.data.toList.drop j) cs=ZU q (f-1) (s.data.toList.drop (j+n)) (cs++[d]):=by
 obtain ⟨f,rfl⟩:∃f',f=f'+1:=⟨f-1,o_⟩;have e:s.data.toList.drop (j+n)=(s.data.toList.drop j).drop n:=by rw [List.drop_drop]
 rw [e];rw [drop_cons s j hlt] at ho⊢;simp only [ZU,h,if_false,ho,Nat.add_sub_cancel]
theorem ZmI(R B:Nat)(s:ByteArray)(k:Nat)(bs:List UInt8)(w:World)(h:Rdr R B s k bs w)(hk:k<s.size)(hs:s.size<549755813888)(hbs:bs.length<=k)(q:UInt8)(res:Except Nat (Str×Str))
  (F:Nat) (hF:s.size-(k+1)<F) (hres:ZU q F (s.data.toList.drop (k+1)) bs=res) :
  Calls prog 309 #[.pointer (some ⟨R,0,none⟩),.int .u8 q.toNat] w fun e w'=>ZiK R B s w res e w':=by
 obtain ⟨c0,c1,f1⟩:=h.rd;go_enter func309,ntmps309;have h':=h.moved (k+1);have Hres:=h_ hres;clear hres;go_wp2;have hf':FrB R B 5 w (w.setCell ⟨R,1,none⟩ (.int .i64 ((k:Int)+1))):=FrB.setCell (FrB.refl _ _ _ _) _ _;have h'':Rdr R B s (k+1) bs (w.setCell ⟨R,1,none⟩ (.int .i64 ((k:Int)+1))):=h';generalize w.setCell ⟨R,1,none⟩ (.int .i64 ((k:Int)+1))=w2 at hf' h''⊢;clear c0 c1 f1 h h';go_loopg [5] F (fun f _ wr=>∃(j:Nat) (cs:List UInt8),Rdr R B s j cs wr/\j<=s.size/\cs.length<=j/\s.size-j<f/\Hid (ZU q f (s.data.toList.drop j) cs=res)/\FrB R B 5 w wr)
 case atStart=>exact ⟨k+1,bs,h'',o_,o_,o_,Hres,hf'⟩
 case round=>
  obtain ⟨j,cs,hr,hj,hcs,hfu,Hq,hfr⟩:=hrel;obtain ⟨c0,c1,f1⟩:=hr.rd;by_cases hlt:j<s.size
  ·have hd:decide (s.size<=j)=false:=n24_
   by_cases hqq:s[j]=q
   ·have hne:=ZsS hqq
    have HR:=h_ (Hq.out.symm.trans (Zgs (cs:=cs) hfu hlt hqq));clear hqq;go_wp2_with fail;go_quiet ((go_at_call 261;exact Calls.quiet_of (YG R B s j cs _ hr)));go_wp2_with (go_at_call 261;refine (YG R B s j cs _ n41_).mono ?_;rintro e w' ⟨rfl,n,rfl⟩);go_ret;exact ZiK.ok (hfr.trans (FrB.setCell (FrB.drewN (FrB.refl _ _ _ _) _) 1 _)) HR.out o_ o_ ((hr.moved (j+1)).drewN _)
   ·have hne:=Zsy hqq
    cases ho:Xa (s.data.toList.drop j) with
    |error c=>
     have HR:=h_ (Hq.out.symm.trans (ZjD (cs:=cs) hfu hlt hqq ho));have hc0:=JL (by rw [drop_cons s j hlt];simp) ho;have Ho:=h_ ho;clear ho hqq;go_wp2_with fail;go_quiet ((go_at_call 261;exact Calls.quiet_of (YG R B s j cs _ hr)));go_wp2_with (go_at_call 306;refine (Zis R B s j cs _ n41_ hlt hs c Ho.out).mono ?_;rintro e w' ⟨rfl,n,rfl⟩);exact m6_
    |ok x=>
     obtain ⟨d,n⟩:=x;have HR:=h_ ((Zk3 (cs:=cs) hfu hlt hqq ho).symm.trans Hq.out);have hle:=one_le ho;rw [Xn] at hle;have Ho:=h_ ho;clear ho hqq;go_wp2_with fail;go_quiet ((go_at_call 261;exact Calls.quiet_of (YG R B s j cs _ hr)));go_wp2_with (go_at_call 306;refine (Zl6 R B s j cs _ n41_ hlt hs hcs d n Ho.out).mono ?_;rintro e w' ⟨rfl,hr2,hf2⟩);go_roundg (gk-1)
     case measure=>omega
     case rel=>exact ⟨j+n,cs++[d],hr2,o_,n5_,o_,HR,(hfr.drewN _).trans hf2⟩
  ·have hd:decide (s.size<=j)=true:=n24_
   have hge:s.size<=j:=o_;have HR:=h_ (Hq.out.symm.trans (Zj7 (cs:=cs) hfu hge));go_wp2_with fail;go_quiet ((go_at_call 261;exact Calls.quiet_of (YG R B s j cs _ hr)));go_wp2_with (go_at_call 261;refine (YG R B s j cs _ n41_).mono ?_;rintro e w' ⟨rfl,n,rfl⟩);exact m6_
end Go.Proofs.YtmgmbeipbeknaaaGreatDoor
