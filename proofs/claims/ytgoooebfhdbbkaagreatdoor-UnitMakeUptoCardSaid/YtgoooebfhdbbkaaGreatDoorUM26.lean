import Derived.Test.YtgoooebfhdbbkaaGreatDoorUM22
import Derived.Test.YtgoooebfhdbbkaaGreatDoorUM25
namespace Go.Proofs.YtgoooebfhdbbkaaGreatDoor
set_option linter.unusedVariables false
set_option linter.unusedSimpArgs false
set_option maxHeartbeats 16000000
def Zgi(u v:UV):Prop:=∀j,j≠0->u j=v j
theorem Zgi.upd{u v:UV}(h:Zgi u v)(i:Nat)(c:UC):Zgi (u.upd i c) (v.upd i c):=by
 intro j hj;unfold UV.upd;by_cases e:j=i
 ·rw [if_pos e,if_pos e]
 ·rw [if_neg e,if_neg e];exact h j hj
theorem Zgi.whole{u v:UV}(h:Zgi u v)(kind:Int):QH kind u=QH kind v:=by
 unfold QH;rw [h 7 d_,h 9 d_,h 21 d_,h 25 d_,h 26 d_,h 27 d_,h 28 d_]
def ZkE(i:Nat)(c:UC):Bool:=if i=4 then decide (64<c.len) else Xe.contains i&&decide (16<c.len)
def okU(u:UV):Prop:=∀j,ZkE j (u j)=false
theorem Zn0(u:UV):Za6 u=false↔okU u:=by
 unfold Za6 okU;rw [Bool.or_eq_false_iff];constructor
 ·rintro ⟨h4,hl⟩ j
  unfold ZkE;split
  ·rename_i e;rw [e];exact h4
  ·cases hc:Xe.contains j with
   |false=>rfl
   |true=>
    have:=List.any_eq_false.1 hl j n79_
    simpa using this
 ·intro h
  refine ⟨by have:=h 4;unfold ZkE at this;rw [if_pos rfl] at this;exact this,?_⟩;rw [List.any_eq_false];intro j hj
  have:=h j
  unfold ZkE at this;have hne:j≠4:=by rintro rfl;revert hj;decide
  rw [if_neg hne,show Xe.contains j=true from by simpa using hj] at this;simpa using this
theorem Zh0(name:Str)(kind:Int)(u:UV)(x:Ln)(e:Int)(h:XO name kind u x=.error e):e≠0:=by
 unfold XO at h;cases hs:XL x.val name with
 |error c=>
  rw [hs] at h;injection h with h
  subst h;unfold XL at hs;split at hs
  ·injection hs with hs;subst hs;decide
  ·split at hs
   ·injection hs with hs;subst hs;decide
   ·cases hs
 |ok v=>
  rw [hs] at h;simp only at h;by_cases h0:lnS kind { x with val:=v }≠0
  ·rw [if_pos h0] at h
   injection h with h
   subst h;exact h0
  ·rw [if_neg h0] at h
   cases hk:findKey x.sec x.key with
   |none=>rw [hk] at h;injection h with h;subst h;decide
   |some k=>
    rw [hk] at h;simp only at h;split at h
    ·injection h with h;subst h;decide
    ·split at h
     ·injection h with h;subst h;decide
     ·cases h
open Go.Proofs.Tryz
open Go Go.RowKit
set_option maxRecDepth 100000
theorem m84_{p:Prop}(h:p:=by (repeat' (first|exact Z9.zero|refine Z9.upd ?_ _ _ ?_));all_goals rfl):p:=h
def UC.tag:UC->Nat|.s _=>0|.n _=>1|.b _=>2|.ss _=>3|.ns _=>4|.rs _=>5|.cs _=>6|.ps _=>7
def Z9(u:UV):Prop:=∀j,(u j).tag=(ZV j).tag
theorem Z9.zero:Z9 ZV:=fun _=>rfl
theorem Z9.upd{u:UV}(h:Z9 u)(i:Nat)(c:UC)(hc:c.tag=(ZV i).tag):Z9 (u.upd i c):=by
 intro j;unfold UV.upd;split
 ·rename_i e;rw [e];exact hc
 ·exact h j
theorem Z9.new(s:Str):Z9 (Yw s):=by
 unfold Yw;split
 ·exact Z9.zero
 ·simp only
  split
  ·exact m84_
  ·split
   ·exact m84_
   ·exact m84_
theorem ZqC{c:UC}(h:c.tag=0):∃x,c=.s x:=n37_
theorem Zko{c:UC}(h:c.tag=1):∃x,c=.n x:=n37_
theorem Zri{c:UC}(h:c.tag=2):∃x,c=.b x:=n37_
theorem Zgq{c:UC}(h:c.tag=3):∃x,c=.ss x:=n37_
theorem ZfV{c:UC}(h:c.tag=4):∃x,c=.ns x:=n37_
theorem Zlp{c:UC}(h:c.tag=5):∃x,c=.rs x:=n37_
theorem Zk4{c:UC}(h:c.tag=6):∃x,c=.cs x:=n37_
theorem Zl3{c:UC}(h:c.tag=7):∃x,c=.ps x:=n37_
theorem Zrl:∀k∈Zx,k.form=1->(k.name,Zt k.name)∈Jk/\(ZV (Zt k.name)).tag=0:=n12_
theorem Zq9:∀k∈Zx,k.form=2->(k.name,Zt k.name)∈Za0/\(ZV (Zt k.name)).tag=2:=n12_
theorem Zrw:∀k∈Zx,k.form=3->(k.name,Zt k.name)∈Xr/\(ZV (Zt k.name)).tag=1:=n12_
theorem ZqQ:∀k∈Zx,k.form=10->(k.name,Zt k.name)∈Xr/\(ZV (Zt k.name)).tag=1:=n12_
theorem Zrn:∀k∈Zx,k.form=5->(k.name,Zt k.name)∈Jk/\(ZV (Zt k.name)).tag=0:=n12_
theorem Zrk:∀k∈Zx,k.form=7->(k.name,Zt k.name)∈ZaA/\(ZV (Zt k.name)).tag=6:=n12_
theorem Zre:∀k∈Zx,k.form=8->Zt k.name=19:=n12_
theorem Zrp:∀k∈Zx,k.form=9->(k.name,Zt k.name)∈QM/\(ZV (Zt k.name)).tag=3:=n12_
theorem ZqW:∀k∈Zx,k.form=11->(k.name,Zt k.name)∈XT/\(ZV (Zt k.name)).tag=4/\(k.name !=[76,105,115,116,101,110,83,116,114,101,97,109])=!(Zt k.name==21):=n12_
theorem Zrf:∀k∈Zx,k.form=4->(k.list=true/\(k.name,Zt k.name)∈XT/\(ZV (Zt k.name)).tag=4)\/(k.list=false/\(k.name,Zt k.name)∈Xr/\(ZV (Zt k.name)).tag=1):=n12_
theorem Zrb:∀k∈Zx,k.form=6->(Y6 k.name=0/\(k.name,Zt k.name)∈QM/\(ZV (Zt k.name)).tag=3)\/(0<Y6 k.name/\Zt k.name=4):=n12_
theorem Zew:∀k∈Zx,Zt k.name<35/\Zt k.name≠0/\Zt k.name≠1:=n12_
theorem Zrm:∀k∈Zx,k.form=1\/k.form=2\/k.form=3\/k.form=10\/k.form=5\/k.form=7\/k.form=8\/k.form=9\/k.form=11\/k.form=4\/k.form=6:=n12_
theorem Zry:∀k∈Zx,Zt k.name<35/\Zt k.name≠0/\Zt k.name≠1/\(
  (k.form=1/\(k.name,Zt k.name)∈Jk/\(ZV (Zt k.name)).tag=0)\/(k.form=2/\(k.name,Zt k.name)∈Za0/\(ZV (Zt k.name)).tag=2)\/
  (k.form=3/\(k.name,Zt k.name)∈Xr/\(ZV (Zt k.name)).tag=1)\/(k.form=10/\(k.name,Zt k.name)∈Xr/\(ZV (Zt k.name)).tag=1)\/
  (k.form=5/\(k.name,Zt k.name)∈Jk/\(ZV (Zt k.name)).tag=0)\/(k.form=7/\(k.name,Zt k.name)∈ZaA/\(ZV (Zt k.name)).tag=6)\/
  (k.form=8/\Zt k.name=19)\/(k.form=9/\(k.name,Zt k.name)∈QM/\(ZV (Zt k.name)).tag=3)\/
  (k.form=11/\(k.name,Zt k.name)∈XT/\(ZV (Zt k.name)).tag=4/\(k.name !=[76,105,115,116,101,110,83,116,114,101,97,109])=!(Zt k.name==21))\/
  (k.form=4/\k.list=true/\(k.name,Zt k.name)∈XT/\(ZV (Zt k.name)).tag=4)\/(k.form=4/\k.list=false/\(k.name,Zt k.name)∈Xr/\(ZV (Zt k.name)).tag=1)\/
  (k.form=6/\Y6 k.name=0/\(k.name,Zt k.name)∈QM/\(ZV (Zt k.name)).tag=3)\/(k.form=6/\0<Y6 k.name/\Zt k.name=4)):=by
 intro k hk;obtain ⟨a,b,c⟩:=Zew k hk;refine ⟨a,b,c,?_⟩;rcases Zrm k hk with f|f|f|f|f|f|f|f|f|f|f
 ·exact .inl ⟨f,Zrl k hk f⟩
 ·exact .inr (.inl ⟨f,Zq9 k hk f⟩)
 ·exact .inr (.inr (.inl ⟨f,Zrw k hk f⟩))
 ·exact .inr (.inr (.inr (.inl ⟨f,ZqQ k hk f⟩)))
 ·exact .inr (.inr (.inr (.inr (.inl ⟨f,Zrn k hk f⟩))))
 ·exact .inr (.inr (.inr (.inr (.inr (.inl ⟨f,Zrk k hk f⟩)))))
 ·exact .inr (.inr (.inr (.inr (.inr (.inr (.inl ⟨f,Zre k hk f⟩))))))
 ·exact .inr (.inr (.inr (.inr (.inr (.inr (.inr (.inl ⟨f,Zrp k hk f⟩)))))))
 ·exact .inr (.inr (.inr (.inr (.inr (.inr (.inr (.inr (.inl ⟨f,ZqW k hk f⟩))))))))
 ·rcases Zrf k hk f with h|h
  ·exact .inr (.inr (.inr (.inr (.inr (.inr (.inr (.inr (.inr (.inl ⟨f,h⟩)))))))))
  ·exact .inr (.inr (.inr (.inr (.inr (.inr (.inr (.inr (.inr (.inr (.inl ⟨f,h⟩))))))))))
 ·rcases Zrb k hk f with h|h
  ·exact .inr (.inr (.inr (.inr (.inr (.inr (.inr (.inr (.inr (.inr (.inr (.inl ⟨f,h⟩)))))))))))
  ·exact .inr (.inr (.inr (.inr (.inr (.inr (.inr (.inr (.inr (.inr (.inr (.inr ⟨f,h⟩)))))))))))
theorem ZiX(nm:Str)(k:Yn)(v:Str)(c:UC)(h:k.form=1\/k.form=5):ZY nm k v c=.s v:=by unfold ZY;rw [if_pos h]
theorem ZqE(nm:Str)(k:Yn)(v:Str)(c:UC)(f:k.form=2):ZY nm k v c=.b (Zch v):=by
 unfold ZY;rw [if_neg n8_,if_pos f]
theorem ZqB(nm:Str)(k:Yn)(v:Str)(c:UC)(f:k.form=3):ZY nm k v c=.n (Ql v).1:=by
 unfold ZY;rw [if_neg n8_,if_neg n8_,if_pos f]
theorem ZpI(nm:Str)(k:Yn)(v:Str)(c:UC)(f:k.form=10):ZY nm k v c=.n (QI k.words v 0+1):=by
 unfold ZY;rw [if_neg n8_,if_neg n8_,if_neg n8_,if_pos f]
theorem ZqG(nm:Str)(k:Yn)(v:Str)(c:UC)(f:k.form=7):ZY nm k v c=.cs (QE c.cmds v ((Xw v).getD (false,[]))):=by
 unfold ZY;rw [if_neg n8_,if_neg n8_,if_neg n8_,if_neg n8_,if_pos f]
theorem ZqJ(nm:Str)(k:Yn)(v:Str)(c:UC)(f:k.form=8):ZY nm k v c=.ps (Y5 (if v=[] then [] else c.prs) (ZaW v).1):=by
 unfold ZY;rw [if_neg n8_,if_neg n8_,if_neg n8_,if_neg n8_,if_neg n8_,if_pos f]
theorem ZqI(nm:Str)(k:Yn)(v:Str)(c:UC)(f:k.form=9):ZY nm k v c=.ss (QE c.strs v v):=by
 unfold ZY;rw [if_neg n8_,if_neg n8_,if_neg n8_,if_neg n8_,if_neg n8_,if_neg n8_,if_pos f]
theorem Zod(nm:Str)(k:Yn)(v:Str)(c:UC)(f:k.form=11):ZY nm k v c=.ns (JQ c.nums (numsOf v)):=by
 unfold ZY;rw [if_neg n8_,if_neg n8_,if_neg n8_,if_neg n8_,if_neg n8_,if_neg n8_,if_neg n8_,if_pos f];rfl
theorem ZoF(nm:Str)(k:Yn)(v:Str)(c:UC)(f:k.form=4)(g:k.list=true):ZY nm k v c=.ns (QE c.nums v (YT v).1):=by
 unfold ZY;rw [if_neg n8_,if_neg n8_,if_neg n8_,if_neg n8_,if_neg n8_,if_neg n8_,if_neg n8_,if_neg n8_,if_pos f,if_pos g]
theorem Zpk(nm:Str)(k:Yn)(v:Str)(c:UC)(f:k.form=4)(g:k.list=false):ZY nm k v c=.n (YT v).1:=by
 unfold ZY;rw [if_neg n8_,if_neg n8_,if_neg n8_,if_neg n8_,if_neg n8_,if_neg n8_,if_neg n8_,if_neg n8_,if_pos f,if_neg (by rw [g];decide)]
theorem Zpi(nm:Str)(k:Yn)(v:Str)(c:UC)(f:k.form=6)(g:Y6 k.name=0):ZY nm k v c=.ss (JQ c.strs (Zc v)):=by
 unfold ZY;rw [if_neg n8_,if_neg n8_,if_neg n8_,if_neg n8_,if_neg n8_,if_neg n8_,if_neg n8_,if_neg n8_,if_neg n8_,if_pos g]
theorem ZoH(nm:Str)(k:Yn)(v:Str)(c:UC)(f:k.form=6)(g:0<Y6 k.name):ZY nm k v c=.rs (ZR nm (Y6 k.name:Nat) (if v=[] then c.rels.filter (fun r=>r.1 !=(Y6 k.name:Nat)) else c.rels) (Zc v)):=by
 unfold ZY;rw [if_neg n8_,if_neg n8_,if_neg n8_,if_neg n8_,if_neg n8_,if_neg n8_,if_neg n8_,if_neg n8_,if_neg n8_,if_neg o_]
theorem Zro(k:Yn)(v:Str)(f:k.form=5):JR k v=(k.name !=[83,101,114,118,105,99,101]||Zw v==1):=by unfold JR;rw [if_pos f]
theorem ZqR(k:Yn)(v:Str)(f:k.form=11):JR k v=(k.name !=[76,105,115,116,101,110,83,116,114,101,97,109]||!((Zc v).any fun w=>(Ql w).1==0)):=by unfold JR;rw [if_neg n8_,if_pos f]
theorem Zaw(k:Yn)(v:Str)(h5:k.form≠5)(h11:k.form≠11):JR k v=true:=by unfold JR;rw [if_neg h5,if_neg h11]
theorem Zar(name:Str)(k:Yn)(hk:k∈Zx)(v:Str)(c:UC):(ZY name k v c).tag=(ZV (Zt k.name)).tag:=by
 obtain ⟨_,_,_,h⟩:=Zry k hk;rcases h with ⟨f,_,t⟩|⟨f,_,t⟩|⟨f,_,t⟩|⟨f,_,t⟩|⟨f,_,t⟩|⟨f,_,t⟩|⟨f,t⟩|⟨f,_,t⟩|⟨f,_,t,_⟩|⟨f,g,_,t⟩|⟨f,g,_,t⟩|⟨f,g,_,t⟩|⟨f,g,t⟩
 ·rw [ZiX _ _ _ _ (.inl f),t];rfl
 ·rw [ZqE _ _ _ _ f,t];rfl
 ·rw [ZqB _ _ _ _ f,t];rfl
 ·rw [ZpI _ _ _ _ f,t];rfl
 ·rw [ZiX _ _ _ _ (.inr f),t];rfl
 ·rw [ZqG _ _ _ _ f,t];rfl
 ·rw [ZqJ _ _ _ _ f,t];rfl
 ·rw [ZqI _ _ _ _ f,t];rfl
 ·rw [Zod _ _ _ _ f,t];rfl
 ·rw [ZoF _ _ _ _ f g,t];rfl
 ·rw [Zpk _ _ _ _ f g,t];rfl
 ·rw [Zpi _ _ _ _ f g,t];rfl
 ·rw [ZoH _ _ _ _ f g,t];rfl
theorem Zp7(U:Nat)(cs:Array Value)(F:Nat->Nat->Prop)(u:UV)(w:World)(hU:YL w U cs F u)(hT:Z9 u)(hlen:∀j,(u j).len<=100000)(hM:ZA w)(nm:Str)(h0:u 0=.s nm)(k:Yn)(hk:k∈Zx)(kv:ZT)(hkv:ZaC w kv k)
  (val:Str) (hval:val.length<=100000000) :
  Calls prog 30 #[.pointer (some ⟨U,0,none⟩),.agg (Zv kv).toArray,.string ⟨val.toArray⟩] w fun e w'=>e=.returned (.bool (JR k val))/\Zh w w' U cs (Zt k.name) (F (Zt k.name)) (ZY nm k val (u (Zt k.name))):=by
 obtain ⟨hs35,hs0,hs1,h⟩:=Zry k hk;have hj:∃v,cs[Zt k.name]?=some v:=⟨_,Array.getElem?_eq_getElem (by rw [hU.size];exact hs35)⟩;obtain ⟨v,hj⟩:=hj;have hv:=hU.fld _ v hj;have hFU:=hU.notU (Zt k.name);have hF:∀i,F (Zt k.name) i->i<w.heap.size:=fun i hi=>(hU.lt _ i hi).2
 have ht:=hT (Zt k.name);have hl:=hlen (Zt k.name);have hc0:∃v0,cs[0]?=some v0:=⟨_,Array.getElem?_eq_getElem (by rw [hU.size];decide)⟩;obtain ⟨v0,hc0⟩:=hc0;have hv0:=hU.fld _ v0 hc0;rw [h0] at hv0;have hv0':v0=.string ⟨nm.toArray⟩:=hv0;subst hv0';have hn:kv.name=k.name:=hkv.name;have hform:kv.form=k.form:=hkv.form;have hlist:kv.list=k.list:=hkv.list;rcases h with ⟨f,m,t⟩|⟨f,m,t⟩|⟨f,m,t⟩|⟨f,m,t⟩|⟨f,m,t⟩|⟨f,m,t⟩|⟨f,t⟩|⟨f,m,t⟩|⟨f,m,t,hls⟩|⟨f,g,m,t⟩|⟨f,g,m,t⟩|⟨f,g,m,t⟩|⟨f,g,t⟩
 ·rw [ZiX _ _ _ _ (.inl f),Zaw _ _ n8_ n8_]
  exact Zog U _ cs _ v w hU.box hj hFU hF hM kv (hform.trans f) (fun W=>by rw [hn];exact ZdS U W _ m) val hval
 ·rw [ZqE _ _ _ _ f,Zaw _ _ n8_ n8_]
  exact Zow U _ cs _ v w hU.box hj hFU hF hM kv (hform.trans f) (fun W=>by rw [hn];exact ZiW U W _ m) val hval
 ·rw [ZqB _ _ _ _ f,Zaw _ _ n8_ n8_]
  exact Zp1 U _ cs _ v w hU.box hj hFU hF hM kv (hform.trans f) (fun W=>by rw [hn];exact Zac U W _ m) val hval
 ·rw [ZpI _ _ _ _ f,Zaw _ _ n8_ n8_]
  exact ZoJ U _ cs _ v w hU.box hj hFU hF hM kv (hform.trans f) k.words hkv.wl (Nat.le_trans (Zd9 k hk) d_) hkv.row (fun W=>by rw [hn];exact Zac U W _ m) val hval
 ·rw [ZiX _ _ _ _ (.inr f),Zro _ _ f]
  have:=ZoM U _ cs _ v w hU.box hj hFU hF hM kv (hform.trans f) ⟨nm.toArray⟩ hc0 (fun W=>by rw [hn];exact ZdS U W _ m) val hval
  rw [hn] at this;exact this
 ·rw [ZqG _ _ _ _ f,Zaw _ _ n8_ n8_]
  obtain ⟨l,hc⟩:=Zk4 (ht.trans t);rw [hc] at hv hl⊢;exact Zol U _ cs _ v w hU.box hj hFU hF hM kv (hform.trans f) l hv hl (fun W=>by rw [hn];exact Zg0 U W _ m) val hval
 ·rw [ZqJ _ _ _ _ f,Zaw _ _ n8_ n8_]
  rw [t] at hj hv hFU hF ht hl⊢;obtain ⟨l,hc⟩:=Zl3 ht;rw [hc] at hv hl⊢;exact ZpJ U cs _ v w hU.box hj hFU hF hM kv (hform.trans f) l hv hl val hval
 ·rw [ZqI _ _ _ _ f,Zaw _ _ n8_ n8_]
  obtain ⟨l,hc⟩:=Zgq (ht.trans t);rw [hc] at hv hl⊢;exact Zp4 U _ cs _ v w hU.box hj hFU hF hM kv (hform.trans f) l hv hl (fun W=>by rw [hn];exact ZcP U W _ m) val hval
 ·rw [Zod _ _ _ _ f,ZqR _ _ f,hls]
  obtain ⟨l,hc⟩:=ZfV (ht.trans t);rw [hc] at hv hl⊢;exact ZoP U _ cs _ v w hU.box hj hFU hF hM kv (hform.trans f) l hv hl (fun W=>by rw [hn];exact ZbH U W _ m) val hval
 ·rw [ZoF _ _ _ _ f g,Zaw _ _ n8_ n8_]
  obtain ⟨l,hc⟩:=ZfV (ht.trans t);rw [hc] at hv hl⊢;exact ZiI U _ cs _ v w hU.box hj hFU hF hM kv (hform.trans f) l hv hl (hlist.trans g) (fun W=>by rw [hn];exact ZbH U W _ m) val hval
 ·rw [Zpk _ _ _ _ f g,Zaw _ _ n8_ n8_]
  obtain ⟨n0,hc⟩:=Zko (ht.trans t);rw [hc] at hv;exact ZkG U _ cs _ v w hU.box hj hFU hF hM kv (hform.trans f) ⟨n0,hv⟩ (hlist.trans g) (fun W=>by rw [hn];exact Zac U W _ m) val hval
 ·rw [Zpi _ _ _ _ f g,Zaw _ _ n8_ n8_]
  obtain ⟨l,hc⟩:=Zgq (ht.trans t);rw [hc] at hv hl⊢;have hR:∀W,Calls prog 119 #[.string ⟨kv.name.toArray⟩] W fun e w'=>e=.returned (.int .i64 0)/\w'=W:=fun W=>by
   have:=Ze3 W k.name (ZhZ k hk f)
   rw [g] at this;rw [hn];exact this
  exact Zns U _ cs _ v w hU.box hj hFU hF hM kv (hform.trans f) l hv hl hR (fun W=>by rw [hn];exact ZcP U W _ m) val hval
 ·rw [ZoH _ _ _ _ f g,Zaw _ _ n8_ n8_]
  rw [t] at hj hv hFU hF ht hl⊢;obtain ⟨l,hc⟩:=Zlp ht;rw [hc] at hv hl⊢;exact ZpE U cs _ v w hU.box hj hFU hF hM kv (hform.trans f) l hv hl nm hc0 (Y6 k.name:Nat) n3_ (fun W=>by rw [hn];exact Ze3 W k.name (ZhZ k hk f)) val hval
theorem Yg.len{w:World}{F:Nat->Prop}:∀{c:UC} {v:Value},Yg w F c v->3<=c.tag->∃oa cap,v=.slice oa c.len cap
 |.s _,_,_,h=>absurd h (by simp [UC.tag])
 |.n _,_,_,h=>absurd h (by simp [UC.tag])
 |.b _,_,_,h=>absurd h (by simp [UC.tag])
 |.ss _,_,h,_=>ownsRow_form h.1
 |.ns _,_,h,_=>ownsRow_form h.1
 |.rs _,_,h,_=>ownsRow_form h.1
 |.ps _,_,h,_=>ownsRow_form h.1
 |.cs _,_,h,_=>by obtain ⟨_,_,h,_⟩:=h;exact ownsRow_form h
theorem ZmB:∀i∈Xe,3<=(ZV i).tag/\i<35:=n12_
def Zl7(cs:Array Value)(u:UV):Prop:=∀i∈Xe,∃oa cap,cs[i]?=some (.slice oa (u i).len cap)
theorem YL.lens{w:World}{U:Nat}{cs:Array Value}{F:Nat->Nat->Prop}{u:UV}(h:YL w U cs F u)(hT:Z9 u):Zl7 cs u:=by
 intro i hi;obtain ⟨h3,h35⟩:=ZmB i hi;have hj:cs[i]?=some (cs[i]'(by rw [h.size];exact h35)):=Array.getElem?_eq_getElem (by rw [h.size];exact h35);obtain ⟨oa,cap,e⟩:=(h.fld i _ hj).len (by rw [hT i];exact h3);exact ⟨oa,cap,by rw [hj,e]⟩
theorem ZkO:∀(l:List Int) (m k:Int),decide (k<l.foldl max m)=(decide (k<m)||l.any fun x=>decide (k<x))
 |[],m,k=>by rw [List.any_nil,Bool.or_false];rfl
 |x::t,m,k=>by
  rw [List.foldl_cons,ZkO t,List.any_cons,<-Bool.or_assoc];congr 1;rw [<-Bool.decide_or];apply decide_eq_decide.2;omega
theorem Zn1(l:List Int)(k:Int)(h:l≠[]):decide (k<Lib.maxOf l)=l.any fun x=>decide (k<x):=by
 unfold Lib.maxOf;rw [ZkO];cases l with
 |nil=>exact absurd rfl h
 |cons a t=>simp
def Q7(u:UV):List Int:=Xe.map fun i=>((u i).len:Int)
theorem Zle(cs:Array Value)(u:UV)(w:World)(hL:Zl7 cs u) :
  Calls prog 32 #[.agg cs] w fun e w'=>∃A,e=.returned (.slice (some ⟨A,0,none⟩) 17 17)/\(∀j,j<(Q7 u).length->w'.cell? ⟨A,0+j,none⟩=some (.int .i64 ((Q7 u).getD j 0)))/\Below w.heap.size w w':=by
 have hB:=(Below.refl w.heap.size w).alloc l_ (.cells cs 30);have hb:=(rd (heap_alloc_new w (.cells cs 30))).1;have HB:=h_ hB;obtain ⟨o8,p8,q8⟩:=hL 8 d_;have k8:=(hb 8).trans q8;obtain ⟨o9,p9,q9⟩:=hL 9 d_;have k9:=(hb 9).trans q9;obtain ⟨o10,p10,q10⟩:=hL 10 d_;have k10:=(hb 10).trans q10;obtain ⟨o11,p11,q11⟩:=hL 11 d_;have k11:=(hb 11).trans q11;obtain ⟨o12,p12,q12⟩:=hL 12 d_;have k12:=(hb 12).trans q12;obtain ⟨o18,p18,q18⟩:=hL 18 d_;have k18:=(hb 18).trans q18;obtain ⟨o19,p19,q19⟩:=hL 19 d_;have k19:=(hb 19).trans q19;obtain ⟨o20,p20,q20⟩:=hL 20 d_;have k20:=(hb 20).trans q20;obtain ⟨o21,p21,q21⟩:=hL 21 d_;have k21:=(hb 21).trans q21;obtain ⟨o25,p25,q25⟩:=hL 25 d_;have k25:=(hb 25).trans q25;obtain ⟨o26,p26,q26⟩:=hL 26 d_;have k26:=(hb 26).trans q26;obtain ⟨o27,p27,q27⟩:=hL 27 d_;have k27:=(hb 27).trans q27;obtain ⟨o28,p28,q28⟩:=hL 28 d_;have k28:=(hb 28).trans q28;obtain ⟨o30,p30,q30⟩:=hL 30 d_;have k30:=(hb 30).trans q30;obtain ⟨o31,p31,q31⟩:=hL 31 d_;have k31:=(hb 31).trans q31;obtain ⟨o32,p32,q32⟩:=hL 32 d_;have k32:=(hb 32).trans q32;obtain ⟨o33,p33,q33⟩:=hL 33 d_;have k33:=(hb 33).trans q33;have HLN:=h_ (show Q7 u=[((u 8).len:Int),((u 9).len:Int),((u 10).len:Int),((u 11).len:Int),((u 12).len:Int),((u 18).len:Int),((u 19).len:Int),((u 20).len:Int),((u 21).len:Int),((u 25).len:Int),((u 26).len:Int),((u 27).len:Int),((u 28).len:Int),((u 30).len:Int),((u 31).len:Int),((u 32).len:Int),((u 33).len:Int)] from rfl);generalize (u 8).len=n8 at *;generalize (u 9).len=n9 at *;generalize (u 10).len=n10 at *;generalize (u 11).len=n11 at *;generalize (u 12).len=n12 at *;generalize (u 18).len=n18 at *;generalize (u 19).len=n19 at *;generalize (u 20).len=n20 at *;generalize (u 21).len=n21 at *;generalize (u 25).len=n25 at *;generalize (u 26).len=n26 at *;generalize (u 27).len=n27 at *;generalize (u 28).len=n28 at *;generalize (u 30).len=n30 at *;generalize (u 31).len=n31 at *;generalize (u 32).len=n32 at *;generalize (u 33).len=n33 at *;clear hL hb hB q8 q9 q10 q11 q12 q18 q19 q20 q21 q25 q26 q27 q28 q30 q31 q32 q33;go_enter func32,ntmps32;go_wp2_with fail;go_ret;have hn:=heap_alloc_new (w.alloc (.cells cs 30)) (.cells #[.int .i64 n8,.int .i64 n9,.int .i64 n10,.int .i64 n11,.int .i64 n12,.int .i64 n18,.int .i64 n19,.int .i64 n20,.int .i64 n21,.int .i64 n25,.int .i64 n26,.int .i64 n27,.int .i64 n28,.int .i64 n30,.int .i64 n31,.int .i64 n32,.int .i64 n33] 3);refine ⟨_,rfl,fun j hj=>?_,HB.out.alloc HB.out.size _⟩;rw [HLN.out] at hj⊢;have hz:(w.alloc (.cells cs 30)).heap.size=w.heap.size+1:=s_;rw [hz] at hn;rw [(rd hn).1,Nat.zero_add];have hj17:j<17:=hj;match j,hj17 with
 |0,_=>rfl
 |1,_=>rfl
 |2,_=>rfl
 |3,_=>rfl
 |4,_=>rfl
 |5,_=>rfl
 |6,_=>rfl
 |7,_=>rfl
 |8,_=>rfl
 |9,_=>rfl
 |10,_=>rfl
 |11,_=>rfl
 |12,_=>rfl
 |13,_=>rfl
 |14,_=>rfl
 |15,_=>rfl
 |16,_=>rfl
 |n+17,h=>omega
end Go.Proofs.YtgoooebfhdbbkaaGreatDoor
