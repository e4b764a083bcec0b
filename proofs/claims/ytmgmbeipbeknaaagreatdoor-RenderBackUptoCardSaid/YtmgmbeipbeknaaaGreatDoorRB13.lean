import Derived.Test.YtmgmbeipbeknaaaGreatDoorRB12
namespace Go.Proofs.YtmgmbeipbeknaaaGreatDoor
open Go.Proofs.Tryz
open Go Go.RowKit
set_option linter.all false
set_option maxHeartbeats 16000000
set_option maxRecDepth 100000
theorem m17_{p:Prop}(h:p:=by go_wp2_with (go_at_call 100;refine (Rdr.string n63_).mono ?_;rintro e w' ⟨rfl,hr2,hf2⟩);go_ret2;exact ZkQ.ok ((hfr.drewN _).trans hf2) HR.out o_ o_ hr2):p:=h
theorem m18_{p:Prop}(h:p:=by obtain ⟨f,rfl⟩:∃f',f=f'+1:=⟨f-1,o_⟩;rw [<-Qk] at ho;rw [drop_cons s j hlt];simp [YN,h,hq] at ho⊢;rw [ho]):p:=h
def ZkQ(R B:Nat)(s:ByteArray)(w:World)(res:Except Nat (Str×Str))(e:Ending)(w':World):Prop:=
 FrB R B 5 w w'/\match res with
 |.error c=>e=.returned (.tuple #[.string ⟨#[]⟩,.int .i64 c])
 |.ok (bs,r)=>e=.returned (.tuple #[.string ⟨bs.toArray⟩,.int .i64 0])/\∃k cs,s.data.toList.drop k=r/\k<=s.size/\cs.length<=k/\Rdr R B s k cs w'
theorem ZkQ.err{R B:Nat}{s:ByteArray}{w w':World}{res:Except Nat (Str×Str)}{c:Nat}(hf:FrB R B 5 w w')(h:res=.error c):ZkQ R B s w res (.returned (.tuple #[.string ⟨#[]⟩,.int .i64 c])) w':=by
 subst h;exact ⟨hf,rfl⟩
theorem ZkQ.ok{R B:Nat}{s:ByteArray}{w w':World}{res:Except Nat (Str×Str)}{bs cs:Str}{k:Nat}(hf:FrB R B 5 w w')(h:res=.ok (bs,s.data.toList.drop k))(hk:k<=s.size)(hb:cs.length<=k)(hr:Rdr R B s k cs w') :
  ZkQ R B s w res (.returned (.tuple #[.string ⟨bs.toArray⟩,.int .i64 0])) w':=by
 subst h;exact ⟨hf,rfl,k,cs,rfl,hk,hb,hr⟩
theorem Rdr.reset{R B:Nat}{s:ByteArray}{k:Nat}{bs:List UInt8}{w:World}(h:Rdr R B s k bs w) :
  Calls prog 307 #[.pointer (some ⟨R,2,none⟩)] w fun e w'=>e=.returned (.tuple #[])/\Rdr R B s k [] w'/\Fr (·=R) w w':=by
 obtain ⟨p,v,h1,h2,h3,h4,h5⟩:=h;refine (Zqg R 2 _ _ w h1 (by show 3<4;decide) p v rfl rfl).mono ?_;rintro e w1 ⟨rfl,hR1,hf1⟩;exact ⟨rfl,⟨.pointer none,.slice none 0 0,hR1,.inl rfl,.inl ⟨rfl,rfl⟩,h4,n79_⟩,hf1⟩
theorem Rdr.string{R B:Nat}{s:ByteArray}{k:Nat}{bs:List UInt8}{w:World}(h:Rdr R B s k bs w) :
  Calls prog 100 #[.pointer (some ⟨R,2,none⟩)] w fun e w'=>e=.returned (.string ⟨bs.toArray⟩)/\Rdr R B s k bs w'/\FrB R B 5 w w':=by
 obtain ⟨p,v,h1,h2,h3,h4,h5⟩:=h;refine (Zic R 2 B _ _ w h1 v rfl bs h3 d_).mono ?_;rintro e w1 ⟨rfl,hR1,hb1,hf1⟩;exact ⟨rfl,⟨p,v,hR1,h2,hb1,h4,n79_⟩,hf1⟩
theorem Zjq(R B P C:Nat)(s:ByteArray)(k:Nat)(bs:List UInt8)(w:World)(h:Rdr R B s k bs w)(hk:k<s.size)(hs:s.size<549755813888)(hbs:bs.length<=k)(q:UInt8)(res:Except Nat (Str×Str))
  (hP:w.cell? ⟨P,0,none⟩=some (.pointer (some ⟨R,0,none⟩))) (hC:w.cell? ⟨C,0,none⟩=some (.int .u8 q.toNat))
  (F:Nat) (hF:s.size-(k+1)<F) (hres:Ym q F (s.data.toList.drop (k+1)) bs=res) :
  Calls prog 308 #[.pointer (some ⟨P,0,none⟩),.pointer (some ⟨C,0,none⟩)] w fun e w'=>Zke R B s w res e w':=by
 have H:=h_ (Zn4 R B s k bs w h hk hs hbs q res F hF hres);clear hres;go_enter func308,ntmps308;go_wp2_with (go_at_call 309;refine H.out.mono ?_);intro e w' ho;obtain ⟨hf,ho⟩:=ho;cases res with
 |error c=>
  cases ho
  go_wp2;go_ret;exact ⟨hf,rfl⟩
 |ok x=>
  obtain ⟨cs,r⟩:=x;obtain ⟨rfl,hr⟩:=ho;have HR:=h_ hr;clear hr;go_wp2;go_ret;exact ⟨hf,rfl,HR.out⟩
theorem ZlZ{c:UInt8}(h:Y0 c=false):((c.toNat:Int)==39)=false/\((c.toNat:Int)==34)=false:=by
 simp only [Y0,Xn,Bool.or_eq_false_iff] at h;exact h
theorem ZhE{c:UInt8}(h:Y0 c=true):((c.toNat:Int)==39)=true\/(((c.toNat:Int)==39)=false/\((c.toNat:Int)==34)=true):=by
 simp only [Y0,Xn,Bool.or_eq_true] at h;rcases h with h|h
 ·exact .inl h
 ·cases h':((c.toNat:Int)==39) with
  |true=>exact .inl rfl
  |false=>exact .inr ⟨rfl,h⟩
theorem ZbI{q:UInt8}{c:Nat}:∀{f:Nat} {l bs:Str},l.length<f->Ym q f l bs=.error c->((c:Int)!=0)=true
 |0,_,_,h,_=>absurd h o_
 |f+1,[],_,_,h=>by cases h;rfl
 |f+1,a::r,bs,hl,h=>by
  simp only [Ym] at h;split at h
  ·cases h
  ·split at h
   ·rename_i ho
    cases h
    exact Za5 s_ ho
   ·rename_i d n ho
    have:=one_le ho
    exact ZbI n20_ h
theorem ZaM{q:UInt8}{bs' r':Str}:∀{f:Nat} {l bs:Str},Ym q f l bs=.ok (bs',r')->r'.length<l.length
 |0,_,_,h=>n82_
 |f+1,[],_,h=>n82_
 |f+1,a::r,bs,h=>by
  simp only [Ym] at h;split at h
  ·cases h;simp
  ·split at h
   ·cases h
   ·rename_i d n ho
    have h1:=one_le ho
    have:=ZaM h
    simp at *;omega
theorem ZrF{f:Nat}{s:ByteArray}{j:Nat}{cs:Str}(hf:s.size-j<f)(hlt:s.size<=j):YN f (s.data.toList.drop j) cs=.ok (cs,s.data.toList.drop j):=by
 obtain ⟨f,rfl⟩:∃f',f=f'+1:=⟨f-1,o_⟩;rw [List.drop_eq_nil_of_le n31_];rfl
theorem Zl2{f:Nat}{s:ByteArray}{j:Nat}{cs:Str}(hf:s.size-j<f)(hlt:j<s.size)(h:Zj s[j]=true):YN f (s.data.toList.drop j) cs=.ok (cs,s.data.toList.drop j):=by
 obtain ⟨f,rfl⟩:∃f',f=f'+1:=⟨f-1,o_⟩;rw [drop_cons s j hlt];simp [YN,h]
theorem ZiP{f:Nat}{s:ByteArray}{j:Nat}{cs:Str}{c:Nat}(hf:s.size-j<f)(hlt:j<s.size)(h:Zj s[j]=false)(hq:Y0 s[j]=false)(ho:XZ (s.data.toList.drop j)=.error c):YN f (s.data.toList.drop j) cs=.error c:=by
 obtain ⟨f,rfl⟩:∃f',f=f'+1:=⟨f-1,o_⟩;rw [drop_cons s j hlt] at ho⊢;simp [YN,h,hq,ho]
theorem Zkr{f:Nat}{s:ByteArray}{j:Nat}{cs:Str}{d:UInt8}{n:Nat}(hf:s.size-j<f)(hlt:j<s.size)(h:Zj s[j]=false)(hq:Y0 s[j]=false)(ho:XZ (s.data.toList.drop j)=.ok (d,n)) :
  YN f (s.data.toList.drop j) cs=YN (f-1) (s.data.toList.drop (j+n)) (cs++[d]):=by
 obtain ⟨f,rfl⟩:∃f',f=f'+1:=⟨f-1,o_⟩;have e:s.data.toList.drop (j+n)=(s.data.toList.drop j).drop n:=by rw [List.drop_drop]
 rw [e];rw [drop_cons s j hlt] at ho⊢;simp [YN,h,hq,ho]
theorem ZmR{f:Nat}{s:ByteArray}{j:Nat}{cs:Str}{c:Nat}(hf:s.size-j<f)(hlt:j<s.size)(h:Zj s[j]=false)(hq:Y0 s[j]=true)(ho:Ym s[j] (s.size-(j+1)+1) (s.data.toList.drop (j+1)) cs=.error c):YN f (s.data.toList.drop j) cs=.error c:=by
 exact m18_
theorem ZnR{f:Nat}{s:ByteArray}{j:Nat}{cs ds r:Str}(hf:s.size-j<f)(hlt:j<s.size)(h:Zj s[j]=false)(hq:Y0 s[j]=true)(ho:Ym s[j] (s.size-(j+1)+1) (s.data.toList.drop (j+1)) cs=.ok (ds,r)) :
  YN f (s.data.toList.drop j) cs=YN (f-1) r ds:=by
 exact m18_
theorem Zme(R B:Nat)(s:ByteArray)(k:Nat)(bs:List UInt8)(w:World)(h:Rdr R B s k bs w)(hk:k<=s.size)(hs:s.size<549755813888)(res:Except Nat (Str×Str))
  (hres:YN (s.size-k+1) (s.data.toList.drop k) []=res) :
  Calls prog 263 #[.pointer (some ⟨R,0,none⟩)] w fun e w'=>ZkQ R B s w res e w':=by
 have Hres:=h_ hres;clear hres;have hB:B<=w.heap.size:=by obtain ⟨_,_,_,_,_,_,h⟩:=h;exact h
 have hRlt:R<w.heap.size:=by obtain ⟨_,_,h,_⟩:=h;exact Zd h
 have h0:Rdr R B s k bs (w.alloc (.cells #[.pointer (some ⟨R,0,none⟩)] 239)):=h.frame (M:=fun _=>False) (Fr.alloc (Fr.refl _ _) _) (fun e=>e) (fun _ _ _ e=>e);go_enter func263,ntmps263;go_wp2_with (go_at_call 307;refine (Rdr.reset (by exact h0)).mono ?_);rintro e w1 ⟨rfl,hr1,hf1⟩;have hP1:w1.heap[w.heap.size]?=some (.cells #[.pointer (some ⟨R,0,none⟩)] 239 (0,0)):=hf1.heap (heap_alloc_new w _) o_;have hfB:FrB R B 5 w w1:=((FrB.refl R B 5 w).alloc _).trans (hf1.mono (fun i _ h=>.inl h));generalize hPn:w.heap.size=P at *;have HPn:=h_ hPn;clear hPn;go_wp2_with fail;go_loopg [4] (s.size-k+1) (fun f _ wr=>∃(j:Nat) (cs:List UInt8),Rdr R B s j cs wr/\j<=s.size/\cs.length<=j/\s.size-j<f/\Hid (YN f (s.data.toList.drop j) cs=res)/\FrB R B 5 w wr/\Hid (wr.heap[P]?=some (.cells #[.pointer (some ⟨R,0,none⟩)] 239 (0,0))))
 case atStart=>exact ⟨k,[],hr1,hk,s_,o_,Hres,hfB,hP1⟩
 case round=>
  obtain ⟨j,cs,hr,hj,hcs,hfu,Hq,hfr,HP⟩:=hrel;obtain ⟨c0,c1,f1⟩:=hr.rd;have cP:wr.cell? ⟨P,0,none⟩=some (.pointer (some ⟨R,0,none⟩)):=(rd HP.out).1 0;by_cases hlt:j<s.size
  ·have hd:decide (s.size<=j)=false:=n31_
   have hge:¬s.size<=j:=o_;cases hbl:Zj s[j] with
   |true=>
    have HR:=h_ (Hq.out.symm.trans (Zl2 (cs:=cs) hfu hlt hbl));have HBl:=h_ hbl;clear hbl;go_wp2_with fail;go_quiet ((first
     |(go_at_call 261;exact Calls.quiet_of (Xr R B s j cs _ hr))
     |(go_at_call 305;exact JD (HBl.out ▸ ZaD s[j] _))))
    exact m17_
   |false=>
    have HBl:=h_ hbl;clear hbl;cases hqu:Y0 s[j] with
    |false=>
     obtain ⟨h39,h34⟩:=ZlZ hqu;go_wp2_with fail;go_quiet ((first
      |(go_at_call 261;exact Calls.quiet_of (Xr R B s j cs _ hr))
      |(go_at_call 305;exact JD (HBl.out ▸ ZaD s[j] _))))
     go_wp2_with fail;have hq2:=hr.drewN nq;have HP2:=h_ (show (wr.drewN nq).heap[P]?=_ from HP.out);have hf2:=hfr.drewN nq;generalize wr.drewN nq=w2 at hq2 HP2 hf2⊢;clear c0 c1 f1 cP hr HP hfr;obtain ⟨c0,c1,f1⟩:=hq2.rd;have cP:w2.cell? ⟨P,0,none⟩=some (.pointer (some ⟨R,0,none⟩)):=(rd HP2.out).1 0;have hPl:=Zd HP2.out;have hRl:R<w2.heap.size:=n86_;go_region;go_wp2_with fail;have hq3:Rdr R B s j cs (w2.alloc (.cells #[.int .u8 s[j].toNat] 5)).drew:=hq2.frame (M:=fun _=>False) (Fr.drew (Fr.alloc (Fr.refl _ _) _)) (fun e=>e) (fun _ _ _ e=>e);have HP3:=h_ (show (w2.alloc (.cells #[.int .u8 s[j].toNat] 5)).drew.heap[P]?=_ from heap_alloc HP2.out _);have hf3:=(hf2.alloc (.cells #[.int .u8 s[j].toNat] 5)).drew;generalize (w2.alloc (.cells #[.int .u8 s[j].toNat] 5)).drew=w3 at hq3 HP3 hf3⊢;clear c0 c1 f1 cP hq2 HP2 hf2;cases ho:XZ (s.data.toList.drop j) with
     |error c=>
      have HR:=h_ (Hq.out.symm.trans (ZiP (cs:=cs) hfu hlt HBl.out hqu ho));have hc0:=Za5 (by rw [drop_cons s j hlt];simp) ho;have Ho:=h_ ho;clear ho hqu;refine (ZkO R B s j cs _ hq3 hlt hs c Ho.out).mono ?_;rintro e w' ⟨rfl,n,rfl⟩;go_wp2_with fail;go_ret2;exact ZkQ.err (hf3.drewN _) HR.out
     |ok x=>
      obtain ⟨d,n⟩:=x;have HR:=h_ ((Zkr (cs:=cs) hfu hlt HBl.out hqu ho).symm.trans Hq.out);have hle:=one_le ho;rw [Qk] at hle;have Ho:=h_ ho;clear ho hqu;refine (Zom R B s j cs _ hq3 hlt hs hcs d n Ho.out).mono ?_;rintro e w' ⟨rfl,hr4,hf4⟩;have HP4:=h_ (hf4.heap HP3.out o_ d_);go_wp2_with fail;go_roundg (gk-1)
      case measure=>omega
      case rel=>exact ⟨j+n,cs++[d],hr4,o_,n6_,o_,HR,hf3.trans hf4,HP4⟩
    |true=>
     cases ho:Ym s[j] (s.size-(j+1)+1) (s.data.toList.drop (j+1)) cs with
     |error c=>
      have HR:=h_ (Hq.out.symm.trans (ZmR (cs:=cs) hfu hlt HBl.out hqu ho));have hc0:=ZbI (by rw [Qk];omega) ho;have Ho:=h_ ho;clear ho;rcases ZhE hqu with h39|⟨h39,h34⟩
      all_goals
       go_wp2_with fail;go_quiet ((first
        |(go_at_call 261;exact Calls.quiet_of (Xr R B s j cs _ hr))
        |(go_at_call 305;exact JD (HBl.out ▸ ZaD s[j] _))))
       go_wp2_with fail;have hq2:=hr.drewN nq;have HP2:=h_ (show (wr.drewN nq).heap[P]?=_ from HP.out);have hf2:=hfr.drewN nq;generalize wr.drewN nq=w2 at hq2 HP2 hf2⊢;clear c0 c1 f1 cP hr HP hfr;obtain ⟨c0,c1,f1⟩:=hq2.rd;have cP:w2.cell? ⟨P,0,none⟩=some (.pointer (some ⟨R,0,none⟩)):=(rd HP2.out).1 0;have hPl:=Zd HP2.out;have hRl:R<w2.heap.size:=n86_;go_region;go_wp2_with fail;have hq3:Rdr R B s j cs (w2.alloc (.cells #[.int .u8 s[j].toNat] 5)).drew:=hq2.frame (M:=fun _=>False) (Fr.drew (Fr.alloc (Fr.refl _ _) _)) (fun e=>e) (fun _ _ _ e=>e);have HP3:=h_ (show (w2.alloc (.cells #[.int .u8 s[j].toNat] 5)).drew.heap[P]?=_ from heap_alloc HP2.out _);have HC3:=h_ (show (w2.alloc (.cells #[.int .u8 s[j].toNat] 5)).drew.heap[w2.heap.size]?=_ from heap_alloc_new w2 _);have hf3:=(hf2.alloc (.cells #[.int .u8 s[j].toNat] 5)).drew;generalize (w2.alloc (.cells #[.int .u8 s[j].toNat] 5)).drew=w3 at hq3 HP3 HC3 hf3⊢;clear c0 c1 f1 cP hq2 HP2 hf2;have cP3:w3.cell? ⟨P,0,none⟩=some (.pointer (some ⟨R,0,none⟩)):=(rd HP3.out).1 0;have cC3:w3.cell? ⟨w2.heap.size,0,none⟩=some (.int .u8 s[j].toNat):=(rd HC3.out).1 0;refine (Zjq R B P w2.heap.size s j cs _ hq3 hlt hs hcs s[j] _ cP3 cC3 _ o_ Ho.out).mono ?_;intro e w' hO;obtain ⟨hf4,rfl⟩:=hO;go_wp2_with fail;go_ret2;exact ZkQ.err (hf3.trans hf4) HR.out
     |ok x=>
      obtain ⟨ds,r⟩:=x;have HR:=h_ ((ZnR (cs:=cs) hfu hlt HBl.out hqu ho).symm.trans Hq.out);have hlr:=ZaM ho;have Ho:=h_ ho;clear ho;rcases ZhE hqu with h39|⟨h39,h34⟩
      all_goals
       go_wp2_with fail;go_quiet ((first
        |(go_at_call 261;exact Calls.quiet_of (Xr R B s j cs _ hr))
        |(go_at_call 305;exact JD (HBl.out ▸ ZaD s[j] _))))
       go_wp2_with fail;have hq2:=hr.drewN nq;have HP2:=h_ (show (wr.drewN nq).heap[P]?=_ from HP.out);have hf2:=hfr.drewN nq;generalize wr.drewN nq=w2 at hq2 HP2 hf2⊢;clear c0 c1 f1 cP hr HP hfr;obtain ⟨c0,c1,f1⟩:=hq2.rd;have cP:w2.cell? ⟨P,0,none⟩=some (.pointer (some ⟨R,0,none⟩)):=(rd HP2.out).1 0;have hPl:=Zd HP2.out;have hRl:R<w2.heap.size:=n86_;go_region;go_wp2_with fail;have hq3:Rdr R B s j cs (w2.alloc (.cells #[.int .u8 s[j].toNat] 5)).drew:=hq2.frame (M:=fun _=>False) (Fr.drew (Fr.alloc (Fr.refl _ _) _)) (fun e=>e) (fun _ _ _ e=>e);have HP3:=h_ (show (w2.alloc (.cells #[.int .u8 s[j].toNat] 5)).drew.heap[P]?=_ from heap_alloc HP2.out _);have HC3:=h_ (show (w2.alloc (.cells #[.int .u8 s[j].toNat] 5)).drew.heap[w2.heap.size]?=_ from heap_alloc_new w2 _);have hf3:=(hf2.alloc (.cells #[.int .u8 s[j].toNat] 5)).drew;generalize (w2.alloc (.cells #[.int .u8 s[j].toNat] 5)).drew=w3 at hq3 HP3 HC3 hf3⊢;clear c0 c1 f1 cP hq2 HP2 hf2;have cP3:w3.cell? ⟨P,0,none⟩=some (.pointer (some ⟨R,0,none⟩)):=(rd HP3.out).1 0;have cC3:w3.cell? ⟨w2.heap.size,0,none⟩=some (.int .u8 s[j].toNat):=(rd HC3.out).1 0;refine (Zjq R B P w2.heap.size s j cs _ hq3 hlt hs hcs s[j] _ cP3 cC3 _ o_ Ho.out).mono ?_;intro e w' hO;obtain ⟨hf4,rfl,j',rfl,hj',hds,hr4⟩:=hO;have HP4:=h_ (hf4.heap HP3.out o_ d_);have hjj:s.size-j'<gk-1:=by rw [Qk] at hlr;rw [Qk] at hlr;omega
       go_wp2_with fail;go_roundg (gk-1)
       case measure=>omega
       case rel=>exact ⟨j',ds,hr4,o_,o_,hjj,HR,hf3.trans hf4,HP4⟩
  ·have hd:decide (s.size<=j)=true:=n31_
   have hge:s.size<=j:=o_;have HR:=h_ (Hq.out.symm.trans (ZrF (cs:=cs) hfu hge));go_wp2_with fail;go_quiet ((go_at_call 261;exact Calls.quiet_of (Xr R B s j cs _ hr)));exact m17_
end Go.Proofs.YtmgmbeipbeknaaaGreatDoor
