import Derived.Test.YtmgmbeipbeknaaaGreatDoorRF14
namespace Go.Proofs.YtmgmbeipbeknaaaGreatDoor
open Go.Proofs.Tryz
open Go Go.RowKit
set_option linter.unusedVariables false
set_option linter.unusedSimpArgs false
set_option maxHeartbeats 16000000
set_option maxRecDepth 100000
theorem ZjZ(R B:Nat)(s:ByteArray)(k:Nat)(bs:List UInt8)(w:World)(h:Rdr R B s k bs w)(hk:k<s.size)(hs:s.size<549755813888)(hb:QU s[k]=false)(h92:((s[k].toNat:Int)==92)=true)
  (he:Qw (s.data.toList.drop (k+1))=none) :
  Calls prog 306 #[.pointer (some ⟨R,0,none⟩)] w fun e w'=>e=.returned (.int .i64 13)/\∃n,w'=w.drewN n:=by
 obtain ⟨c0,c1,f1⟩:=h.rd;have HB:=h_ hb;clear hb;have hx:(s.extract k s.size).data.toList.drop 1=s.data.toList.drop (k+1):=by rw [Lib.extract_to_end s k,List.drop_drop]
 have hz:1<=(s.extract k s.size).size:=n6_;have hz':(s.extract k s.size).size<=9223372036854775807:=n6_;have hk':(k:Int)<=(s.size:Int):=o_;have HX:=h_ hx;clear hx;have HP:=h_ (show ZkL (s.data.toList.drop (k+1))=(0,0) by simp [ZkL,he]);clear he;go_enter func306,ntmps306;go_wp2;go_quiet (fail);go_wp2_with (go_at_call 167;refine (Zdb _ _).mono ?_;rintro e w' ⟨rfl,rfl⟩;rw [HB.out]);have hq:=h.drewN nq;have HW:=h_ (dn w nq);generalize w.drewN nq=w2 at hq HW⊢;clear c0 c1 f1 h;obtain ⟨c0,c1,f1⟩:=hq.rd;go_quiet ((go_at_call 331;exact Calls.quiet_of (ZgR _ _ hz hz' _ HX.out)));rw [HP.out];go_wp2;go_ret;exact ⟨rfl,XE HW.out⟩
theorem Zl3(R B:Nat)(s:ByteArray)(k:Nat)(bs:List UInt8)(w:World)(h:Rdr R B s k bs w)(hk:k<s.size)(hs:s.size<549755813888)(hbs:bs.length<=k)(hb:QU s[k]=false)(h92:((s[k].toNat:Int)==92)=true)
  (d:UInt8) (n:Nat) (he:Qw (s.data.toList.drop (k+1))=some (d,n)) (hn:k+(n+1)<=s.size) :
  Calls prog 306 #[.pointer (some ⟨R,0,none⟩)] w fun e w'=>e=.returned (.int .i64 0)/\Rdr R B s (k+(n+1)) (bs++[d]) w'/\FrB R B 5 w w':=by
 obtain ⟨c0,c1,f1⟩:=h.rd;have HB:=h_ hb;clear hb;have hx:(s.extract k s.size).data.toList.drop 1=s.data.toList.drop (k+1):=by rw [Lib.extract_to_end s k,List.drop_drop]
 have hz:1<=(s.extract k s.size).size:=n6_;have hz':(s.extract k s.size).size<=9223372036854775807:=n6_;have hk':(k:Int)<=(s.size:Int):=o_;have HX:=h_ hx;clear hx;have HP:=h_ (show ZkL (s.data.toList.drop (k+1))=(d,n+1) by simp [ZkL,he]);clear he;have hn0:(((n+1:Nat):Int)==0)=false:=n11_;go_enter func306,ntmps306;go_wp2;go_quiet (fail);go_wp2_with (go_at_call 167;refine (Zdb _ _).mono ?_;rintro e w' ⟨rfl,rfl⟩;rw [HB.out]);have hq:=h.drewN nq;have HW:=h_ (dn w nq);generalize w.drewN nq=w2 at hq HW⊢;clear c0 c1 f1 h;obtain ⟨c0,c1,f1⟩:=hq.rd;go_quiet ((go_at_call 331;exact Calls.quiet_of (ZgR _ _ hz hz' _ HX.out)));rw [HP.out];go_wp2_with ((go_at_call 127;refine (Rdr.write (by exact hq.drewN _) d o_).mono ?_));rintro e w1 ⟨rfl,hr1,hf1⟩;obtain ⟨d0,d1,g1⟩:=hr1.rd;go_wp2;go_ret;refine ⟨rfl,hr1.moved (k+(n+1)),(FrB.trans (FrB.of_dn (XE HW.out)) hf1).setCell _ _⟩
theorem ZhV(R B:Nat)(s:ByteArray)(k:Nat)(bs:List UInt8)(w:World)(h:Rdr R B s k bs w)(hk:k<s.size)(hs:s.size<549755813888)(c:Nat)(ho:Xc (s.data.toList.drop k)=.error c) :
  Calls prog 306 #[.pointer (some ⟨R,0,none⟩)] w fun e w'=>e=.returned (.int .i64 c)/\∃n,w'=w.drewN n:=by
 rw [drop_cons s k hk] at ho;simp only [Xc] at ho;by_cases hb:QU s[k]=true
 ·rw [if_pos hb] at ho
  cases ho
  exact ZqU R B s k bs w h hk hs hb
 ·rw [if_neg hb] at ho
  by_cases h92:s[k]=92
  ·rw [if_pos h92] at ho
   cases he:Qw (s.data.toList.drop (k+1)) with
   |none=>
    rw [he] at ho;cases ho
    exact ZjZ R B s k bs w h hk hs (by simpa using hb) (by rw [h92];rfl) he
   |some x=>rw [he] at ho;cases ho
  ·rw [if_neg h92] at ho;cases ho
theorem Zsf{c:UInt8}(h:¬c=92):((c.toNat:Int)==92)=false:=by
 rw [beq_eq_false_iff_ne];intro e;exact h (UInt8.toNat_inj.1 (by have:c.toNat=92:=o_;rw [this];rfl))
theorem ZlZ(R B:Nat)(s:ByteArray)(k:Nat)(bs:List UInt8)(w:World)(h:Rdr R B s k bs w)(hk:k<s.size)(hs:s.size<549755813888)(hbs:bs.length<=k)(d:UInt8)(n:Nat)(ho:Xc (s.data.toList.drop k)=.ok (d,n)) :
  Calls prog 306 #[.pointer (some ⟨R,0,none⟩)] w fun e w'=>e=.returned (.int .i64 0)/\Rdr R B s (k+n) (bs++[d]) w'/\FrB R B 5 w w':=by
 have hle:=(one_le ho).2;rw [List.length_drop] at hle;have hsz:s.data.toList.length=s.size:=s_;rw [drop_cons s k hk] at ho;simp only [Xc] at ho;by_cases hb:QU s[k]=true
 ·rw [if_pos hb] at ho;cases ho
 ·rw [if_neg hb] at ho
  by_cases h92:s[k]=92
  ·rw [if_pos h92] at ho
   cases he:Qw (s.data.toList.drop (k+1)) with
   |none=>rw [he] at ho;cases ho
   |some x=>
    obtain ⟨d',n'⟩:=x;rw [he] at ho;cases ho
    exact Zl3 R B s k bs w h hk hs hbs (by simpa using hb) (by rw [h92];rfl) _ _ he o_
  ·rw [if_neg h92] at ho
   cases ho
   exact Znp R B s k bs w h hk hs hbs (by simpa using hb) (Zsf h92)
theorem m16_{p:Prop}(h:p:=by go_ret;exact Zh4.err (hfr.trans (FrB.drewN (FrB.refl _ _ _ _) _)) HR.out):p:=h
def Zh4(R B:Nat)(s:ByteArray)(w:World)(res:Except Nat (Str×Str))(e:Ending)(w':World):Prop:=
 FrB R B 5 w w'/\match res with
 |.error c=>e=.returned (.int .i64 c)
 |.ok (bs,r)=>e=.returned (.int .i64 0)/\∃k,s.data.toList.drop k=r/\k<=s.size/\bs.length<=k/\Rdr R B s k bs w'
theorem Xn(s:ByteArray)(k:Nat):(s.data.toList.drop k).length=s.size-k:=s_
theorem Zr0{a b:UInt8}(h:¬a=b):((a.toNat:Int)!=(b.toNat:Int))=true:=by
 rw [bne_iff_ne];intro e;exact h (UInt8.toNat_inj.1 o_)
theorem ZrG{a b:UInt8}(h:a=b):((a.toNat:Int)!=(b.toNat:Int))=false:=by
 subst h;simp
theorem Jv{l:List UInt8}{c:Nat}(hl:l≠[])(h:Xc l=.error c):((c:Int)!=0)=true:=by
 match l,hl with
 |a::r,_=>
  simp only [Xc] at h;split at h
  ·cases h;rfl
  ·split at h
   ·split at h
    ·cases h
    ·cases h;rfl
   ·cases h
theorem Zh4.err{R B:Nat}{s:ByteArray}{w w':World}{res:Except Nat (Str×Str)}{c:Nat}(hf:FrB R B 5 w w')(h:res=.error c):Zh4 R B s w res (.returned (.int .i64 c)) w':=by
 subst h;exact ⟨hf,rfl⟩
theorem Zh4.ok{R B:Nat}{s:ByteArray}{w w':World}{res:Except Nat (Str×Str)}{bs:Str}{k:Nat}(hf:FrB R B 5 w w')(h:res=.ok (bs,s.data.toList.drop k))(hk:k<=s.size)(hb:bs.length<=k)(hr:Rdr R B s k bs w') :
  Zh4 R B s w res (.returned (.int .i64 0)) w':=by
 subst h;exact ⟨hf,rfl,k,rfl,hk,hb,hr⟩
theorem Zgg{q:UInt8}{f:Nat}{s:ByteArray}{j:Nat}{cs:Str}(hf:s.size-j<f)(hlt:j<s.size)(h:s[j]=q):ZX q f (s.data.toList.drop j) cs=.ok (cs,s.data.toList.drop (j+1)):=by
 obtain ⟨f,rfl⟩:∃f',f=f'+1:=⟨f-1,o_⟩;rw [drop_cons s j hlt];simp [ZX,h]
theorem Zjv{q:UInt8}{f:Nat}{s:ByteArray}{j:Nat}{cs:Str}(hf:s.size-j<f)(hlt:s.size<=j):ZX q f (s.data.toList.drop j) cs=.error 13:=by
 obtain ⟨f,rfl⟩:∃f',f=f'+1:=⟨f-1,o_⟩;rw [List.drop_eq_nil_of_le n24_];rfl
theorem Zkc{q:UInt8}{f:Nat}{s:ByteArray}{j:Nat}{cs:Str}{c:Nat}(hf:s.size-j<f)(hlt:j<s.size)(h:¬s[j]=q)(ho:Xc (s.data.toList.drop j)=.error c):ZX q f (s.data.toList.drop j) cs=.error c:=by
 obtain ⟨f,rfl⟩:∃f',f=f'+1:=⟨f-1,o_⟩;rw [drop_cons s j hlt] at ho⊢;simp only [ZX,h,if_false,ho]
theorem Zl2{q:UInt8}{f:Nat}{s:ByteArray}{j:Nat}{cs:Str}{d:UInt8}{n:Nat}(hf:s.size-j<f)(hlt:j<s.size)(h:¬s[j]=q)(ho:Xc (s.data.toList.drop j)=.ok (d,n)) :
  ZX q f (s.data.toList.drop j) cs=ZX q (f-1) (s.data.toList.drop (j+n)) (cs++[d]):=by
 obtain ⟨f,rfl⟩:∃f',f=f'+1:=⟨f-1,o_⟩;have e:s.data.toList.drop (j+n)=(s.data.toList.drop j).drop n:=by rw [List.drop_drop]
 rw [e];rw [drop_cons s j hlt] at ho⊢;simp only [ZX,h,if_false,ho,Nat.add_sub_cancel]
theorem ZlX(R B:Nat)(s:ByteArray)(k:Nat)(bs:List UInt8)(w:World)(h:Rdr R B s k bs w)(hk:k<s.size)(hs:s.size<549755813888)(hbs:bs.length<=k)(q:UInt8)(res:Except Nat (Str×Str))
  (F:Nat) (hF:s.size-(k+1)<F) (hres:ZX q F (s.data.toList.drop (k+1)) bs=res) :
  Calls prog 309 #[.pointer (some ⟨R,0,none⟩),.int .u8 q.toNat] w fun e w'=>Zh4 R B s w res e w':=by
 obtain ⟨c0,c1,f1⟩:=h.rd;go_enter func309,ntmps309;have h':=h.moved (k+1);have Hres:=h_ hres;clear hres;go_wp2;have hf':FrB R B 5 w (w.setCell ⟨R,1,none⟩ (.int .i64 ((k:Int)+1))):=FrB.setCell (FrB.refl _ _ _ _) _ _;have h'':Rdr R B s (k+1) bs (w.setCell ⟨R,1,none⟩ (.int .i64 ((k:Int)+1))):=h';generalize w.setCell ⟨R,1,none⟩ (.int .i64 ((k:Int)+1))=w2 at hf' h''⊢;clear c0 c1 f1 h h';go_loopg [5] F (fun f _ wr=>∃(j:Nat) (cs:List UInt8),Rdr R B s j cs wr/\j<=s.size/\cs.length<=j/\s.size-j<f/\Hid (ZX q f (s.data.toList.drop j) cs=res)/\FrB R B 5 w wr)
 case atStart=>exact ⟨k+1,bs,h'',o_,o_,o_,Hres,hf'⟩
 case round=>
  obtain ⟨j,cs,hr,hj,hcs,hfu,Hq,hfr⟩:=hrel;obtain ⟨c0,c1,f1⟩:=hr.rd;by_cases hlt:j<s.size
  ·have hd:decide (s.size<=j)=false:=n24_
   by_cases hqq:s[j]=q
   ·have hne:=ZrG hqq
    have HR:=h_ (Hq.out.symm.trans (Zgg (cs:=cs) hfu hlt hqq));clear hqq;go_wp2_with fail;go_quiet ((go_at_call 261;exact Calls.quiet_of (YI R B s j cs _ hr)));go_wp2_with (go_at_call 261;refine (YI R B s j cs _ n45_).mono ?_;rintro e w' ⟨rfl,n,rfl⟩);go_ret;exact Zh4.ok (hfr.trans (FrB.setCell (FrB.drewN (FrB.refl _ _ _ _) _) 1 _)) HR.out o_ o_ ((hr.moved (j+1)).drewN _)
   ·have hne:=Zr0 hqq
    cases ho:Xc (s.data.toList.drop j) with
    |error c=>
     have HR:=h_ (Hq.out.symm.trans (Zkc (cs:=cs) hfu hlt hqq ho));have hc0:=Jv (by rw [drop_cons s j hlt];simp) ho;have Ho:=h_ ho;clear ho hqq;go_wp2_with fail;go_quiet ((go_at_call 261;exact Calls.quiet_of (YI R B s j cs _ hr)));go_wp2_with (go_at_call 306;refine (ZhV R B s j cs _ n45_ hlt hs c Ho.out).mono ?_;rintro e w' ⟨rfl,n,rfl⟩);exact m16_
    |ok x=>
     obtain ⟨d,n⟩:=x;have HR:=h_ ((Zl2 (cs:=cs) hfu hlt hqq ho).symm.trans Hq.out);have hle:=one_le ho;rw [Xn] at hle;have Ho:=h_ ho;clear ho hqq;go_wp2_with fail;go_quiet ((go_at_call 261;exact Calls.quiet_of (YI R B s j cs _ hr)));go_wp2_with (go_at_call 306;refine (ZlZ R B s j cs _ n45_ hlt hs hcs d n Ho.out).mono ?_;rintro e w' ⟨rfl,hr2,hf2⟩);go_roundg (gk-1)
     case measure=>omega
     case rel=>exact ⟨j+n,cs++[d],hr2,o_,n6_,o_,HR,(hfr.drewN _).trans hf2⟩
  ·have hd:decide (s.size<=j)=true:=n24_
   have hge:s.size<=j:=o_;have HR:=h_ (Hq.out.symm.trans (Zjv (cs:=cs) hfu hge));go_wp2_with fail;go_quiet ((go_at_call 261;exact Calls.quiet_of (YI R B s j cs _ hr)));go_wp2_with (go_at_call 261;refine (YI R B s j cs _ n45_).mono ?_;rintro e w' ⟨rfl,n,rfl⟩);exact m16_
end Go.Proofs.YtmgmbeipbeknaaaGreatDoor
