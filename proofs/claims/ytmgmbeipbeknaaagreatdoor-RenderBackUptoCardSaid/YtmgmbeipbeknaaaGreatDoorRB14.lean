import Derived.Deep.LoopGhost
import Derived.Test.YtmgmbeipbeknaaaGreatDoorRB1
import Derived.Test.YtmgmbeipbeknaaaGreatDoorRB2
import Derived.Test.YtmgmbeipbeknaaaGreatDoorRB8
import Derived.Test.YtmgmbeipbeknaaaGreatDoorRB9
import Derived.Test.YtmgmbeipbeknaaaGreatDoorRB13
namespace Go.Proofs.YtmgmbeipbeknaaaGreatDoor
open Go.Proofs.Tryz
open Go Go.RowKit
set_option linter.all false
set_option maxHeartbeats 16000000
set_option maxRecDepth 100000
theorem m19_{p:Prop}(h:p:=by go_ret2;have hRl:R<wr.heap.size:=n89_;refine ⟨?_,n14_⟩;rw [HRn.out];exact Hbel.out.trans (((FrB.drewN (FrB.refl R (R+1) _ wr) n).trans hf3).below R o_ o_ o_)):p:=h
theorem m20_{p:Prop}(h:p:=by obtain ⟨f,rfl⟩:∃f',f=f'+1:=⟨f-1,o_⟩;simp only [Y3];rw [<-hd];rw [<-Qk] at hn;rw [drop_cons s j h] at hn⊢;simp [h32] at hn⊢;rw [hn]):p:=h
theorem m21_{p:Prop}(h:p:=by
  split at h
  ·cases h
  ·rename_i d n ho
   have h1:=one_le ho
   have:=Zff h
   simp at *;omega):p:=h
theorem m22_{p:Prop}(h:p:=by go_wp2_with fail;go_end0;exact ⟨rfl,hfr.drewN _,j,hkj,hj,HR.out,hr.drewN _⟩):p:=h
def Zv8(R B:Nat)(s:ByteArray)(k:Nat)(bs:Str)(w:World)(e:Ending)(w':World):Prop:=
 e=.returned (.tuple #[])/\FrB R B 5 w w'/\∃j,k<=j/\j<=s.size/\s.data.toList.drop j=(s.data.toList.drop k).dropWhile Zj/\Rdr R B s j bs w'
theorem Zhj(R B:Nat)(s:ByteArray)(k:Nat)(bs:List UInt8)(w:World)(h:Rdr R B s k bs w)(hk:k<=s.size)(hs:s.size<549755813888) :
  Calls prog 260 #[.pointer (some ⟨R,0,none⟩)] w fun e w'=>Zv8 R B s k bs w e w':=by
 go_enter func260,ntmps260;go_wp2_with fail;go_loopg [2] (s.size-k+1) (fun f _ wr=>∃j:Nat,Rdr R B s j bs wr/\k<=j/\j<=s.size/\s.size-j<f/\Hid ((s.data.toList.drop j).dropWhile Zj=(s.data.toList.drop k).dropWhile Zj)/\FrB R B 5 w wr)
 case atStart=>exact ⟨k,h,o_,hk,o_,rfl,FrB.refl _ _ _ _⟩
 case round=>
  obtain ⟨j,hr,hkj,hj,hfu,Hq,hfr⟩:=hrel;obtain ⟨c0,c1,f1⟩:=hr.rd;by_cases hlt:j<s.size
  ·have hd:decide (s.size<=j)=false:=n31_
   have hge:¬s.size<=j:=o_;cases hbl:Zj s[j] with
   |true=>
    have HR:=h_ (show (s.data.toList.drop (j+1)).dropWhile Zj=(s.data.toList.drop k).dropWhile Zj by
     rw [<-Hq.out,drop_cons s j hlt,List.dropWhile_cons,if_pos hbl])
    have HBl:=h_ hbl;clear hbl;go_wp2_with fail;go_quiet ((first
     |(go_at_call 261;exact Calls.quiet_of (Xr R B s j bs _ hr))
     |(go_at_call 305;exact JD (HBl.out ▸ ZaD s[j] _))))
    go_wp2_with fail;go_roundg (gk-1)
    case measure=>omega
    case rel=>exact ⟨j+1,(hr.moved (j+1)).drewN _,o_,o_,o_,HR,hfr.trans (FrB.setCell (FrB.drewN (FrB.refl _ _ _ _) _) 1 _)⟩
   |false=>
    have HR:=h_ (show s.data.toList.drop j=(s.data.toList.drop k).dropWhile Zj by
     rw [<-Hq.out,drop_cons s j hlt,List.dropWhile_cons,if_neg (by simp [hbl])])
    have HBl:=h_ hbl;clear hbl;go_wp2_with fail;go_quiet ((first
     |(go_at_call 261;exact Calls.quiet_of (Xr R B s j bs _ hr))
     |(go_at_call 305;exact JD (HBl.out ▸ ZaD s[j] _))))
    exact m22_
  ·have hd:decide (s.size<=j)=true:=n31_
   have hge:s.size<=j:=o_;have HR:=h_ (show s.data.toList.drop j=(s.data.toList.drop k).dropWhile Zj by
    rw [<-Hq.out,List.drop_eq_nil_of_le (by simpa using hge)];rfl)
   go_wp2_with fail;go_quiet ((go_at_call 261;exact Calls.quiet_of (Xr R B s j bs _ hr)));exact m22_
theorem Zol(R B:Nat)(s:ByteArray)(k:Nat)(bs:List UInt8)(w:World)(h:Rdr R B s k bs w)(hk:k<s.size)(hs:s.size<549755813888)(hbs:bs.length<=k) :
  Calls prog 262 #[.pointer (some ⟨R,0,none⟩)] w fun e w'=>e=.returned (.int .i64 (JZ (s.data.toList.drop k)))/\FrB R B 5 w w':=by
 obtain ⟨c0,c1,f1⟩:=h.rd;cases hqu:Y0 s[k] with
 |true=>
  have HR:=h_ (show JZ (s.data.toList.drop k)=2 by rw [drop_cons s k hk];simp [JZ,hqu]);rcases ZhE hqu with h39|⟨h39,h34⟩
  all_goals
   have n39:=Zap h39;(try have n34:=Zap h34);go_enter func262,ntmps262;go_wp2_with fail;go_quiet (fail);go_wp2_with fail;go_ret;exact ⟨Zfp n14_,(FrB.refl _ _ _ _).drewN _⟩
 |false=>
  obtain ⟨h39,h34⟩:=ZlZ hqu;have n39:=Zap h39;have n34:=Zap h34;cases ho:XZ (s.data.toList.drop k) with
  |error c=>
   have HR:=h_ (show JZ (s.data.toList.drop k)=c by rw [drop_cons s k hk] at ho⊢;simp [JZ,hqu,ho]);have hc0:=Za5 (by rw [drop_cons s k hk];simp) ho;have Ho:=h_ ho;clear ho;go_enter func262,ntmps262;go_wp2_with fail;go_quiet (fail);go_wp2_with (go_at_call 306;refine (ZkO R B s k bs _ (by exact h.drewN _) hk hs c Ho.out).mono ?_;rintro e w' ⟨rfl,n,rfl⟩);go_ret;exact ⟨Zfp (by rw [HR.out]),(FrB.refl _ _ _ _).drewN _⟩
  |ok x=>
   obtain ⟨d,n⟩:=x;have HR:=h_ (show JZ (s.data.toList.drop k)=2 by rw [drop_cons s k hk] at ho⊢;simp [JZ,hqu,ho]);have Ho:=h_ ho;clear ho;go_enter func262,ntmps262;go_wp2_with fail;go_quiet (fail);go_wp2_with (go_at_call 306;refine (Zom R B s k bs _ (by exact h.drewN _) hk hs hbs d n Ho.out).mono ?_;rintro e w' ⟨rfl,hr2,hf2⟩);go_ret;exact ⟨Zfp n14_,((FrB.refl _ _ _ _).drewN _).trans hf2⟩
theorem dropWhile_dropWhile{p:UInt8->Bool}(l:Str):(l.dropWhile p).dropWhile p=l.dropWhile p:=by
 induction l with
 |nil=>rfl
 |cons a l ih=>
  by_cases h:p a=true
  ·rw [List.dropWhile_cons,if_pos h,ih]
  ·rw [List.dropWhile_cons,if_neg h,List.dropWhile_cons,if_neg h]
theorem ZjM(f:Nat)(l:Str)(out:List Str):Y3 f (l.dropWhile Zj) out=Y3 f l out:=by
 cases f with
 |zero=>rfl
 |succ f=>simp only [Y3,dropWhile_dropWhile]
theorem Zod{f:Nat}{s:ByteArray}{j:Nat}{out:List Str}(hf:s.size-j<f)(h:s.size<=j):Y3 f (s.data.toList.drop j) out=.ok out:=by
 obtain ⟨f,rfl⟩:∃f',f=f'+1:=⟨f-1,o_⟩;rw [List.drop_eq_nil_of_le n32_];rfl
theorem Zla{f:Nat}{s:ByteArray}{j:Nat}{out:List Str}(hf:s.size-j<f)(h:j<s.size)(hd:s.data.toList.drop j=(s.data.toList.drop j).dropWhile Zj)(h32:out.length=32):Y3 f (s.data.toList.drop j) out=.error (JZ (s.data.toList.drop j)):=by
 obtain ⟨f,rfl⟩:∃f',f=f'+1:=⟨f-1,o_⟩;simp only [Y3];rw [<-hd,drop_cons s j h];simp [h32]
theorem Zow{f:Nat}{s:ByteArray}{j:Nat}{out:List Str}{c:Nat}(hf:s.size-j<f)(h:j<s.size)(hd:s.data.toList.drop j=(s.data.toList.drop j).dropWhile Zj)(h32:¬out.length=32)
  (hn:YN (s.size-j+1) (s.data.toList.drop j) []=.error c):Y3 f (s.data.toList.drop j) out=.error c:=by
 exact m20_
theorem Zrs{f:Nat}{s:ByteArray}{j:Nat}{out:List Str}{x r:Str}(hf:s.size-j<f)(h:j<s.size)(hd:s.data.toList.drop j=(s.data.toList.drop j).dropWhile Zj)(h32:¬out.length=32)
  (hn:YN (s.size-j+1) (s.data.toList.drop j) []=.ok (x,r)):Y3 f (s.data.toList.drop j) out=Y3 (f-1) r (out++[x]):=by
 exact m20_
theorem Zff{x r:Str}:∀{f:Nat} {l bs:Str},YN f l bs=.ok (x,r)->r.length<=l.length
 |0,_,_,h=>n82_
 |f+1,[],_,h=>by cases h;simp
 |f+1,a::l,bs,h=>by
  simp only [YN] at h;split at h
  ·cases h;simp
  ·split at h
   ·split at h
    ·cases h
    ·rename_i hq
     have h1:=ZaM hq;have h2:=Zff h;simp at *;omega
   ·exact m21_
theorem Zqb{x r:Str}{f:Nat}{a:UInt8}{l bs:Str}(ha:Zj a=false)(h:YN f (a::l) bs=.ok (x,r)):r.length<=l.length:=by
 cases f with
 |zero=>cases h
 |succ f=>
  simp only [YN] at h;split at h
  ·rename_i h';rw [ha] at h';cases h'
  ·split at h
   ·split at h
    ·cases h
    ·rename_i hq
     have h1:=ZaM hq;have h2:=Zff h;omega
   ·exact m21_
theorem Zqq{s:ByteArray}{j:Nat}(h:j<s.size)(hd:s.data.toList.drop j=(s.data.toList.drop j).dropWhile Zj):Zj s[j]=false:=by
 cases hb:Zj s[j] with
 |false=>rfl
 |true=>
  rw [drop_cons s j h,List.dropWhile_cons,if_pos hb] at hd
  have:=List.dropWhile_sublist (l:=s.data.toList.drop (j+1)) Zj
  have:=this.length_le
  rw [<-hd] at this;simp at this;omega
theorem Zdi{c:Nat}:∀{f:Nat} {l bs:Str},l.length<f->YN f l bs=.error c->((c:Int)!=0)=true
 |0,_,_,h,_=>absurd h o_
 |f+1,[],_,_,h=>n82_
 |f+1,a::l,bs,hl,h=>by
  simp only [YN] at h;split at h
  ·cases h
  ·split at h
   ·split at h
    ·rename_i hq
     cases h
     exact ZbI o_ hq
    ·rename_i hq
     have h1:=ZaM hq;exact Zdi n20_ h
   ·split at h
    ·rename_i ho
     cases h
     exact Za5 s_ ho
    ·rename_i d n ho
     have h1:=one_le ho;exact Zdi n20_ h
def Zwf(w:World)(res:Except Nat (List Str))(e:Ending)(w':World):Prop:=
 Below w.heap.size w w'/\match res with
 |.error c=>e=.returned (.tuple #[.slice none 0 0,.int .i64 c])
 |.ok l=>∃v,e=.returned (.tuple #[v,.int .i64 0])/\w'.ownsRow w.heap.size 9 1 v l.length (Zh l)
theorem Zjr(s:ByteArray)(w:World)(hs:s.size<549755813888)(res:Except Nat (List Str))(hres:split s.data.toList=res) :
  Calls prog 207 #[.string s] w fun e w'=>Zwf w res e w':=by
 have Hres:=h_ hres;clear hres;obtain ⟨i0,hi,hz0,hz1,hz2⟩:=info_parts Zg2;go_enter func207,ntmps207;have hr0:Rdr w.heap.size (w.heap.size+1) s 0 [] (w.alloc (.cells #[.string s,.int .i64 0,.pointer none,.slice none 0 0] 241)):=
  ⟨.pointer none,.slice none 0 0,heap_alloc_new w _,.inl rfl,.inl ⟨rfl,rfl⟩,o_,s_⟩
 have hb0:Below w.heap.size w (w.alloc (.cells #[.string s,.int .i64 0,.pointer none,.slice none 0 0] 241)):=b_.alloc l_ _;go_wp2_with fail;generalize w.alloc (.cells #[.string s,.int .i64 0,.pointer none,.slice none 0 0] 241)=w1 at hr0 hb0⊢;generalize hRn:w.heap.size=R at *;have HRn:=h_ hRn;clear hRn;refine (Zhj R (R+1) s 0 [] _ hr0 o_ hs).mono ?_;rintro e w2 ⟨rfl,hf2,j0,-,hj0,hd0,hr2⟩;have hb2:Below R w w2:=hb0.trans (hf2.below R o_ o_ (by obtain ⟨_,_,h,_⟩:=hr0;have:=Zd h;omega));have HD0:=h_ hd0;clear hd0;go_wp2_with fail;go_loopg [5,6,7] (s.size+1) (fun f v _ _ wr=>∃(j:Nat) (cs:List UInt8) (out:List Str),Rdr R (R+1) s j cs wr/\j<=s.size/\cs.length<=j/\s.size-j<f/\Hid (s.data.toList.drop j=(s.data.toList.drop j).dropWhile Zj)/\Hid (Y3 f (s.data.toList.drop j) out=res)/\
  out.length<=32/\Hid (wr.ownsRow R 9 1 v out.length (Zh out))/\Hid (Below R w wr))
 case atStart=>
  refine ⟨j0,[],[],hr2,hj0,s_,o_,?_,?_,s_,World.ownsRow_nil _ _ _ _,hb2⟩
  ·show _=_
   rw [HD0.out,dropWhile_dropWhile]
  ·have h1:=HD0.out
   have h2:=Hres.out;unfold split at h2;show Y3 _ _ _=_;rw [h1,ZjM];simpa using h2
 case round=>
  obtain ⟨j,cs,out,hr,hj,hcs,hfu,Hd,Hq,hol,Hown,Hbel⟩:=hrel;obtain ⟨c0,c1,f1⟩:=hr.rd;obtain ⟨oa,cap,rfl⟩:=ownsRow_form Hown.out;by_cases hlt:j<s.size
  ·have hd:decide (s.size<=j)=false:=n31_
   have hge:¬s.size<=j:=o_;by_cases h32:out.length=32
   ·have h32':((out.length:Int)==32)=true:=by simp [h32]
    have HR:=h_ (Hq.out.symm.trans (Zla hfu hlt Hd.out h32));clear h32;go_wp2_with (first
     |(go_at_call 261;refine (Xr R (R+1) s j cs _ (by exact hr)).mono ?_;rintro e w' ⟨rfl,n,rfl⟩)
     |(go_at_call 262;refine (Zol R (R+1) s j cs _ n63_ hlt hs hcs).mono ?_;rintro e w' ⟨rfl,hf3⟩))
    exact m19_
   ·have h32':((out.length:Int)==32)=false:=n15_
    cases hn:YN (s.size-j+1) (s.data.toList.drop j) [] with
    |error c=>
     have HR:=h_ (Hq.out.symm.trans (Zow hfu hlt Hd.out h32 hn));have hc0:=Zdi (by rw [Qk];omega) hn;have HN:=h_ hn;clear hn h32;go_wp2_with (first
      |(go_at_call 261;refine (Xr R (R+1) s j cs _ (by exact hr)).mono ?_;rintro e w' ⟨rfl,n,rfl⟩)
      |(go_at_call 263;refine (Zme R (R+1) s j cs _ n63_ hj hs _ HN.out).mono ?_;rintro e w' ⟨hf3,rfl⟩))
     exact m19_
    |ok x=>
     obtain ⟨x,r⟩:=x;have HR:=h_ ((Zrs hfu hlt Hd.out h32 hn).symm.trans Hq.out);have hlr:r.length<=s.size-(j+1):=by
      have h1:=hn;rw [drop_cons s j hlt] at h1
      have:=Zqb (Zqq hlt Hd.out) h1
      rw [Qk] at this;exact this
     have hol':out.length<32:=o_;have HN:=h_ hn;clear hn h32;go_wp2_with (first
      |(go_at_call 261;refine (Xr R (R+1) s j cs _ (by exact hr)).mono ?_;rintro e w' ⟨rfl,n,rfl⟩)
      |(go_at_call 263;refine (Zme R (R+1) s j cs _ n63_ hj hs _ HN.out).mono ?_))
     rintro e w3 ⟨hf3,rfl,j',cs',rfl,hj',hcs',hr3⟩;have hRl:R<wr.heap.size:=n89_;have hf4:=(FrB.drewN (FrB.refl R (R+1) _ wr) n).trans hf3;have hown3:w3.ownsRow R 9 1 (.slice oa out.length cap) out.length (Zh out):=by
      obtain ⟨p,v,h1,_⟩:=hr;exact Zf5 Hown.out hf4 d_ h1 d_
     have HB3:=h_ (Hbel.out.trans (hf4.below R o_ o_ o_));have hsz3:R<w3.heap.size:=by have:=hf4.size;omega
     rw [Qk] at hlr;clear Hown Hbel hf3 hf4 c0 c1 f1 hr;go_wp2_with (at_builtin;refine wpList_append_own _ rfl _ _ 26 rfl R 9 i0 (.string ⟨#[]⟩) 1 16 underlying26 hi hz0 hz1 hz2 rfl d_ _ _ _ rfl (hown3.alloc _) ⟨w3.heap.size,0,none⟩ 1 1 [.string ⟨x.toArray⟩] rfl rfl ?c1 ?c2 ?c3 ?c4 ?c5 ?_)
     case c1=>exact cell_one_new _ _ _
     case c2=>simp [Value.oneCell']
     case c3=>unfold maxLen;omega
     case c4=>omega
     case c5=>simp;omega
     intro v' w4 hown' hgrow hnil;have hR4:Fr (fun k=>(Value.slice oa out.length cap).ownBlock=some k) w3 w4:=(Fr.alloc (Fr.refl _ _) _).grown hgrow (fun k hk _=>hk);have hRown:(Value.slice oa out.length cap).ownBlock≠some R:=by
      intro e;obtain ⟨p,v,h1,_⟩:=hr3;rcases hown3.2 with ⟨h,_⟩|⟨g,_,_,h,_,hg,_⟩
      ·rw [h] at e;simp [Value.ownBlock] at e
      ·rw [h] at e;simp [Value.ownBlock] at e;subst e;rw [h1] at hg;simp at hg
     have hr4:Rdr R (R+1) s j' cs' w4:=hr3.frame hR4 hRown (by
      rintro i hi ⟨cs2,fz2,h2⟩ e;rcases hown3.2 with ⟨h,_⟩|⟨g,_,_,h,_,hg,_⟩
      ·rw [h] at e;simp [Value.ownBlock] at e
      ·rw [h] at e;simp [Value.ownBlock] at e;subst e;rw [h2] at hg;simp at hg)
     have HB4:=h_ (HB3.out.trans (Fr.below hR4 R o_ (fun k hk e=>by have:=hown3.lt k e;omega)));have HO4:=h_ (show w4.ownsRow R 9 1 v' (out++[x]).length (Zh (out++[x])) by rw [Xc,c5_];exact hown');clear hgrow hnil hown' hR4 hRown hown3 HB3;obtain ⟨ao,n',cap',rfl⟩:∃ao n' cap,v'=.slice ao n' cap:=by
      obtain ⟨oa,cap,h⟩:=ownsRow_form HO4.out;exact ⟨_,_,_,h⟩
     go_wp2_with ((go_at_call 260;refine (Zhj R (R+1) s j' cs' _ (by exact hr4) hj' hs).mono ?_));rintro e w5 ⟨rfl,hf5,j5,hj5,hj5',hd5,hr5⟩;have hsz4:R<w4.heap.size:=by obtain ⟨_,_,h,_⟩:=hr4;exact Zd h
     have HO5:=h_ (show w5.ownsRow R 9 1 (.slice ao n' cap') (out++[x]).length (Zh (out++[x])) by
      obtain ⟨p,v,h1,_⟩:=hr4;exact Zf5 HO4.out hf5 d_ h1 d_)
     have HB5:=h_ (HB4.out.trans (hf5.below R o_ o_ o_));have HD5:=h_ hd5;clear hd5;go_wp2_with fail;go_roundg (gk-1)
     case measure=>omega
     case rel=>
      refine ⟨j5,cs',out++[x],hr5,hj5',o_,o_,?_,?_,n6_,HO5,HB5⟩
      ·show _=_
       rw [HD5.out,dropWhile_dropWhile]
      ·show Y3 _ _ _=_
       rw [HD5.out,ZjM];exact HR.out
  ·have hd:decide (s.size<=j)=true:=n31_
   have hge:s.size<=j:=o_;have HR:=h_ (Hq.out.symm.trans (Zod hfu hge));go_wp2_with (go_at_call 261;refine (Xr R (R+1) s j cs _ (by exact hr)).mono ?_;rintro e w' ⟨rfl,n,rfl⟩);go_ret2;refine ⟨?_,by rw [HR.out];exact ⟨_,rfl,by rw [HRn.out];exact Hown.out⟩⟩;rw [HRn.out];exact Hbel.out.trans ⟨rfl,rfl,rfl,l_,fun _ _=>rfl⟩
theorem m23_{p:Prop}(h:p:=by
  go_wp2_with fail;refine bodyPost_ret (v:=.tuple #[.agg #[.bool false,.slice none 0 0],.bool false]) ?_ rfl ⟨?_,rfl⟩
  ·exact m26_
  ·exact m25_):p:=h
theorem m24_{p:Prop}(h:p:=by go_wp2_with fail;obtain ⟨rfl,rfl⟩:=HQ.out;go_ret2;exact ⟨HB1.out,_,rfl,World.ownsRow_nil _ _ _ _⟩):p:=h
theorem m25_{p:Prop}(h:p:=by exact (HB1.out.setCell l_ _).setCell l_ _):p:=h
theorem m26_{p:Prop}(h:p:=by simp [results,results140,go_sem,c0,c1]):p:=h
theorem Zuo(s:ByteArray)(w:World)(h63:s.size<=9223372036854775807)(b:Bool)(hb:Zfy s.data.toList=b) :
  Calls prog 264 #[.string s] w fun e w'=>e=.returned (.bool b)/\Below w.heap.size w w':=by
 obtain ⟨q,hq⟩:∃q,JC s.data.toList 60 Zui=q:=⟨_,rfl⟩;have hb2:(q&&!(isDigit (s.data.toList.headD 0)))=b:=by
  rw [<-hb,<-hq];unfold Zfy JC;congr 3;rw [decide_eq_decide];omega
 let w1:=w.alloc (.cells #[.string ⟨#[95]⟩] 9);let w2:=w1.alloc (.cells #[.func (.func 153) #[] #[],.func (.func 154) #[] #[],.func (.func 224) #[] #[.pointer (some ⟨w.heap.size,0,none⟩)]] 148);let w3:=w2.alloc (.cells #[.slice (some ⟨w.heap.size+1,0,none⟩) 3 3] 217);have hB:Below w.heap.size w w3:=((b_.alloc l_ _).alloc s_ _).alloc n6_ _;have z1:w1.heap.size=w.heap.size+1:=by simp [w1]
 have z2:w2.heap.size=w.heap.size+1+1:=by simp [w2,z1]
 have HA:∀w':World,w'=w3->Calls prog 170 #[.string s,.int .i64 60,.func (.func 223) #[] #[.pointer (some ⟨w.heap.size+1+1,0,none⟩)]] w' fun e w''=>e=.returned (.bool q)/\w'=w'':=by
  intro w' hw';have h0:w'.heap[w.heap.size]?=some (.cells #[.string ⟨#[95]⟩] 9 (0,0)):=by
   rw [hw'];exact heap_alloc (heap_alloc (heap_alloc_new w _) _) _
  have h2:w'.heap[w.heap.size+1]?=some (.cells #[.func (.func 153) #[] #[],.func (.func 154) #[] #[],.func (.func 224) #[] #[.pointer (some ⟨w.heap.size,0,none⟩)]] 148 (0,0)):=by
   rw [hw',<-z1];exact heap_alloc (heap_alloc_new w1 _) _
  have h1:w'.cell? ⟨w.heap.size+1+1,0,none⟩=some (.slice (some ⟨w.heap.size+1,0,none⟩) 3 3):=by
   have h0:w'.heap[w.heap.size+1+1]?=some (.cells #[.slice (some ⟨w.heap.size+1,0,none⟩) 3 3] 217 (0,0)):=by
    rw [hw',<-z2];exact heap_alloc_new w2 _
   rw [(rd h0).1];rfl
  obtain ⟨hc,_⟩:=rd h2;have hs:w'.cell? ⟨w.heap.size,0,none⟩=some (.string ⟨#[95]⟩):=by rw [(rd h0).1];rfl
  refine Za1 s 60 223 #[] _ Zui q w' h63 ZdB (fun c=>?_) hq;refine (Zh7 c (w.heap.size+1+1) (w.heap.size+1) 3 [Yi,isDigit,fun c=>([95]:Str).contains c] w' h1 s_ ?_).mono ?_
  ·intro i hi
   match i,hi with
   |0,_=>exact ⟨_,hc 0,_,_,_,rfl,JW,fun c=>JE c w'⟩
   |1,_=>exact ⟨_,hc 1,_,_,_,rfl,Qd,fun c=>XM c w'⟩
   |2,_=>exact ⟨_,hc 2,_,_,_,rfl,ZhF,fun c=>Zpg c w.heap.size _ w' hs _ rfl⟩
   |n+3,hi=>exact absurd hi s_
  ·rintro e w'' ⟨rfl,rfl⟩
   exact ⟨rfl,rfl⟩
 have HH:=h_ HA;have HB:=h_ hB;clear HA hB hb;cases q with
 |false=>
  obtain rfl:false=b:=by simpa using hb2
  clear hq hb2;go_enter func264,ntmps264;go_wp2_with (first
   |(go_at_call 155;refine (Zoq _ _).mono ?_;rintro e w' ⟨rfl,rfl⟩)
   |(go_at_call 152;refine (ZgT _ _ _ _).mono ?_;rintro e w' ⟨rfl,rfl⟩)
   |(go_at_call 170;refine ((HH.out _ (by simp [w1,w2,w3])).mono ?_);rintro e w' ⟨rfl,rfl⟩))
  go_ret;exact ⟨rfl,HB.out⟩
 |true=>
  obtain ⟨h0,-,-⟩:=ZeJ (n:=60) hq;have hlt:0<s.size:=by
   have:s.data.toList.length=s.size:=s_
   have h1:s.data.toList.length≠0:=fun e=>h0 (c10_ e)
   omega
  have hlz:(0:Int)<(s.size:Int):=o_;have hhd:s.data.toList.headD 0=s[0]:=by
   have:=drop_cons s 0 hlt
   rw [List.drop_zero] at this;rw [this];rfl
  have HR:=h_ (show (!isDigit s[0])=b by rw [<-hb2,hhd];simp);have HD:=h_ (fun W=>XM s[0] W);clear hq hb2 h0 hhd;go_enter func264,ntmps264;go_wp2_with (first
   |(go_at_call 155;refine (Zoq _ _).mono ?_;rintro e w' ⟨rfl,rfl⟩)
   |(go_at_call 152;refine (ZgT _ _ _ _).mono ?_;rintro e w' ⟨rfl,rfl⟩)
   |(go_at_call 154;refine (HD.out _).mono ?_;rintro e w' ⟨rfl,rfl⟩)
   |(go_at_call 170;refine ((HH.out _ (by simp [w1,w2,w3])).mono ?_);rintro e w' ⟨rfl,rfl⟩))
  go_ret;exact ⟨n67_,HB.out⟩
theorem ZmT{w:World}{B B' e size n:Nat}{v:Value}{xs:List Value}(h:w.ownsRow B e size v n xs)(hB:B'<=B):w.ownsRow B' e size v n xs:=by
 refine ⟨h.1,?_⟩;rcases h.2 with hn|⟨g,cap,cur,rfl,hb,rest⟩
 ·exact .inl hn
 ·exact .inr ⟨g,cap,cur,rfl,Nat.le_trans hB hb,rest⟩
def ZgU(w:World)(s:Str)(e:Ending)(w':World):Prop:=
 Below w.heap.size w w'/\match XU s with
 |none=>e=.returned (.tuple #[.agg #[.bool false,.slice none 0 0],.bool false])
 |some (d,l)=>∃wa wc,e=.returned (.tuple #[.agg #[.bool d,.slice wa l.length wc],.bool true])/\w'.ownsRow w.heap.size 9 1 (.slice wa l.length wc) l.length (Zh l)
theorem Zlf(s:Str):(Lib.trimPrefix s [45]).length<=s.length:=by
 unfold Lib.trimPrefix;split<;>simp
theorem ZmO(s:ByteArray)(w:World)(hs:s.size<=1000000000):Calls prog 140 #[.string s] w fun e w'=>ZgU w s.data.toList e w':=by
 have HCP:=h_ (fun W=>Tryz.strings_CutPrefix s ⟨#[45]⟩ W);have hlen:s.data.toList.length=s.size:=s_;have htl:=Zlf s.data.toList;unfold ZgU XU;simp only at HCP;obtain ⟨r,hr⟩:=e_ (Lib.trimPrefix s.data.toList [45]);obtain ⟨d,hd⟩:=e_ (Lib.hasPrefix s.data.toList [45]);change Hid (∀W,Calls _ _ _ _ fun e w'=>e=.returned (.tuple #[.string ⟨(Lib.trimPrefix s.data.toList [45]).toArray⟩,.bool (Lib.hasPrefix s.data.toList [45])])/\_) at HCP;rw [<-hr,<-hd] at HCP⊢;rw [<-hr] at htl;have hrl:r.length<=1000000000:=o_;clear hr hd htl hlen hs;let w0:=w.alloc (.cells #[.bool false,.slice none 0 0] 49);have hB0:Below w.heap.size w w0:=b_.alloc l_ _;have h0:w0.heap[w.heap.size]?=some (.cells #[.bool false,.slice none 0 0] 49 (0,0)):=heap_alloc_new w _;have HB0:=h_ hB0;have H0:=h_ h0;clear hB0 h0;obtain ⟨res,hres⟩:∃res,split r=res:=⟨_,rfl⟩;have HSP:=h_ (fun W=>Zjr ⟨r.toArray⟩ W n35_ res hres);rw [hres];clear hres;go_enter func140,ntmps140;go_wp2_with fail;refine (HCP.out _).mono ?_;rintro e w1 ⟨rfl,rfl⟩;go_wp2_with fail;refine (HSP.out w0).mono ?_;rintro e w1 ⟨hb1,he⟩;have HB1:=h_ (HB0.out.trans (hb1.mono HB0.out.size));have H1:=h_ (Za H0.out hb1);have hz0:w0.heap.size=w.heap.size+1:=by simp [w0]
 have HZ:=h_ (show w.heap.size<=w0.heap.size by omega);clear hb1 HB0 H0 HCP HSP hz0;obtain ⟨cc,fc,sc,lc⟩:=rd H1.out;have c0:=cc 0;have c1:=cc 1;have f0:=fc 0;have f1:=fc 1;simp only [c1_,c2_,c3_] at c0 c1;clear cc fc sc;cases res with
 |error c=>
  obtain rfl:=he;by_cases hc0:(c:Int)=0
  ·rw [hc0]
   exact m23_
  ·have hc1:((c:Int)!=0)=true:=by simpa using hc0
   exact m23_
 |ok l=>
  obtain ⟨v,rfl,hown⟩:=he;obtain ⟨oa,cap,rfl⟩:=ownsRow_form hown;have hrow:=Zp.of_own hown;have HO:=h_ (ZmT hown HZ.out);clear hown;cases l with
  |nil=>
   simp only [List.length_nil];exact m23_
  |cons x t=>
   obtain ⟨b,o,rfl,d0⟩:=hrow 0 s_;simp only [List.getElem_cons_zero,Nat.add_zero] at d0;have hpos:((x::t).length:Int)≠0:=n85_;have hpos1:(((x::t).length:Int)==0)=false:=n90_;have hpos2:(0:Int)<((x::t).length:Int):=o_;have hpos3:0<(x::t).length:=s_;by_cases hx:x=[]
   ·subst hx
    generalize (([]:Str)::t).length=n at *;go_wp2_with fail;refine bodyPost_ret (v:=.tuple #[.agg #[.bool false,.slice none 0 0],.bool false]) ?_ rfl ⟨?_,?_⟩
    ·exact m26_
    ·exact m25_
    ·simp only [if_true]
   ·have hxe:List.isEmpty x=false:=by cases x with|nil=>exact absurd rfl hx|cons a u=>rfl
    clear hrow;go_wp2_with fail;refine bodyPost_ret (v:=.tuple #[.agg #[.bool d,.slice (some ⟨b,o,none⟩) (x::t).length cap],.bool true]) ?_ rfl ⟨?_,?_⟩
    ·exact m26_
    ·exact m25_
    ·refine ⟨some ⟨b,o,none⟩,cap,rfl,?_⟩
     refine Z4 HO.out (M:=fun k=>k=w.heap.size) (Fr.setCell (M:=fun k=>k=w.heap.size) (p:=⟨w.heap.size,1,none⟩) (Fr.setCell (M:=fun k=>k=w.heap.size) (p:=⟨w.heap.size,0,none⟩) (Fr.refl _ _) (fun _=>rfl) _) (fun _=>rfl) _) (fun k hk hr=>?_);rintro rfl;obtain ⟨cs,fz,h5⟩:=hr;rw [H1.out] at h5;simp at h5
def Qu(p:Str×Str):List Value:=[.string ⟨p.1.toArray⟩,.string ⟨p.2.toArray⟩]
theorem Zsj(k:Str×Str):∀v∈Qu k,v.oneCell'=true:=by intro v hv;simp [Qu] at hv;rcases hv with rfl|rfl<;>rfl
theorem Zll:(prog.info? 64).map (fun i=>(i.zero,i.size,i.bytes))=some (some (.agg #[.string ⟨#[]⟩,.string ⟨#[]⟩]),2,32):=k_
theorem ZoQ(w:World)(a b:Value)(T:TypeId):(w.alloc (.cells #[a,b] T)).ownsRow w.heap.size T 2 (.slice (some ⟨w.heap.size,0,none⟩) 1 1) 1 [a,b]:=
 ⟨rfl,.inr ⟨w.heap.size,1,#[a,b],rfl,l_,heap_alloc_new _ _,l_,d_,rfl,rfl⟩⟩
theorem ZpR(l:Str)(c:Str):(Lib.cut l c).1.length<=l.length/\(Lib.cut l c).2.1.length<=l.length:=by
 unfold Lib.cut;split
 ·exact ⟨by rw [List.length_take];exact Nat.min_le_right _ _,by rw [List.length_drop];omega⟩
 ·simp
theorem ZpK(s:ByteArray)(w:World)(hs:s.size<=1000000000)(hM:Zz w)(ps:List (Str×Str))(b:Bool)(hps:Zay s.data.toList=(ps,b)) :
  Calls prog 208 #[.string s] w fun e w'=>Below w.heap.size w w'/\∃v,e=.returned (.tuple #[v,.bool b])/\w'.ownsRow w.heap.size 64 2 v ps.length (Zx Qu ps):=by
 obtain ⟨i0,hi0,hz0,hz1,hz2⟩:=info_parts Zll;obtain ⟨res,hres⟩:∃res,split s.data.toList=res:=⟨_,rfl⟩;have HSP:=h_ (Zjr s w o_ res hres);have HLS:=h_ (fun l (h:res=.ok l)=>show l.length<=32/\∀x∈l,x.length<=s.size from by have:=Zbm s.data.toList l (by rw [hres,h]);simpa using this);unfold Zay at hps;rw [hres] at hps;have HP:=h_ hps;have HM:=h_ hM;clear hres hps hM;go_enter func208,ntmps208;go_wp2_with fail;refine HSP.out.mono ?_;rintro e w1 ⟨hb1,he⟩;have HB1:=h_ hb1;clear hb1 HSP;cases res with
 |error c=>
  obtain rfl:=he;have HQ:=h_ (show ps=[]/\b=false from by have h:=HP.out;simp at h;exact ⟨h.1,h.2⟩);go_wp2_with fail;go_loopg [6,19] 2 (fun f v i wr=>v=.slice none 0 0/\i=.int .i64 0/\wr=w1/\0<f)
  case atStart=>exact ⟨rfl,rfl,rfl,o_⟩
  case round=>
   obtain ⟨rfl,rfl,rfl,hfu⟩:=hrel;by_cases hc0:(c:Int)=0
   ·rw [hc0]
    exact m24_
   ·have hc1:((c:Int)==0)=false:=by simpa using hc0
    exact m24_
 |ok l=>
  obtain ⟨v,rfl,hown⟩:=he;obtain ⟨oa,cap,rfl⟩:=ownsRow_form hown;have HR:=h_ (Zp.of_own hown);obtain ⟨hl1,hl2⟩:=HLS.out l rfl;have HL2:=h_ hl2;have hll:l.length<=32:=hl1;clear hown hl2;go_wp2_with fail;go_loopg [6,19] (l.length+1) (fun f v i wr=>∃(k:Nat) (done:List (Str×Str)),k<=l.length/\i=.int .i64 k/\l.length-k<f/\done.length=k/\Hid (wr.ownsRow w1.heap.size 64 2 v done.length (Zx Qu done))/\Hid (JG l=(JG (l.drop k)).map fun r=>done++r)/\Hid (Below w1.heap.size w1 wr))
  case atStart=>exact ⟨0,[],o_,rfl,o_,rfl,World.ownsRow_nil _ _ _ _,(show JG l=(JG (l.drop 0)).map fun r=>[]++r from by rw [List.drop_zero];cases JG l<;>simp),Below.refl _ _⟩
  case round=>
   obtain ⟨_,done,hk,rfl,hfu,rfl,Hown,HE,HB⟩:=hrel;obtain ⟨oa2,cap2,rfl⟩:=ownsRow_form Hown.out;by_cases hlt:done.length<l.length
   ·have hz:(done.length:Int)<(l.length:Int):=o_
    obtain ⟨x,hx⟩:=e_ (l[done.length]);obtain ⟨b4,o4,rfl,d0⟩:=(HR.out.below HB.out) done.length hlt;rw [<-hx] at d0;have hd:l.drop done.length=x::l.drop (done.length+1):=n76_;have hxl:x.length<=s.size:=by rw [hx];exact HL2.out _ (List.getElem_mem hlt)
    have hM2:Zz wr:=(HM.out.below HB1.out).below HB.out;obtain ⟨m,hm⟩:=hM2;have HCUT:=h_ (fun W (h:W.cell? ⟨0,0,none⟩=some (.int .i64 m))=>Tryz.strings_Cut ⟨x.toArray⟩ ⟨#[61]⟩ m W (by show x.toArray.size<_;simp;omega) h);change Hid (∀W,_->Calls _ _ _ _ fun e w'=>e=.returned (.tuple #[.string ⟨(Lib.cut x [61]).1.toArray⟩,.string ⟨(Lib.cut x [61]).2.1.toArray⟩,.bool (Lib.cut x [61]).2.2])/\_) at HCUT;have hE:=HE.out;rw [hd] at hE;rw [show JG (x::l.drop (done.length+1))=if (Go.Lib.cut x [61]).2.2=true/\Zfy (Go.Lib.cut x [61]).1=true then (JG (l.drop (done.length+1))).map fun r=>((Go.Lib.cut x [61]).1,(Go.Lib.cut x [61]).2.1)::r else none from rfl] at hE;have hcl:=ZpR x [61];obtain ⟨c1,c2,q,hcut⟩:∃c1 c2 q,Lib.cut x [61]=(c1,c2,q):=⟨_,_,_,rfl⟩;rw [hcut] at HCUT hE hcl;simp only at hcl hE;clear hcut hx hd HE;cases q with
    |false=>
     have hE2:JG l=none:=by rw [hE];simp
     have HQ:=h_ (show ps=[]/\b=false from by have h:=HP.out;simp only [hE2] at h;simp at h;exact ⟨h.1,h.2⟩);clear hE hE2;go_wp2_with fail;refine (HCUT.out _ hm).mono ?_;rintro e w2 ⟨rfl,n2,rfl⟩;have HB2:=h_ (HB.out.trans (show Below w1.heap.size wr (wr.drewN n2) from Ze ⟨_,rfl⟩));generalize wr.drewN n2=w2 at *;go_wp2_with fail;obtain ⟨rfl,rfl⟩:=HQ.out;go_ret2;exact ⟨HB1.out.trans (HB2.out.mono HB1.out.size),_,rfl,World.ownsRow_nil _ _ _ _⟩
    |true=>
     obtain ⟨y,hy⟩:∃y,Zfy c1=y:=⟨_,rfl⟩;have HVR:=h_ (fun W=>Zuo ⟨c1.toArray⟩ W (by show c1.toArray.size<=_;simp;omega) y hy);cases y with
     |false=>
      have hE2:JG l=none:=by rw [hE,hy];simp
      have HQ:=h_ (show ps=[]/\b=false from by have h:=HP.out;simp only [hE2] at h;simp at h;exact ⟨h.1,h.2⟩);clear hE hE2;go_wp2_with fail;refine (HCUT.out _ hm).mono ?_;rintro e w2 ⟨rfl,n2,rfl⟩;have HB2:=h_ (HB.out.trans (show Below w1.heap.size wr (wr.drewN n2) from Ze ⟨_,rfl⟩));generalize wr.drewN n2=w2 at *;go_wp2_with fail;refine (HVR.out _).mono ?_;rintro e w3 ⟨rfl,hb3⟩;have HB3:=h_ (HB2.out.trans (hb3.mono HB2.out.size));clear hb3;go_wp2_with fail;obtain ⟨rfl,rfl⟩:=HQ.out;go_ret2;exact ⟨HB1.out.trans (HB3.out.mono HB1.out.size),_,rfl,World.ownsRow_nil _ _ _ _⟩
     |true=>
      have HE2:=h_ (show JG l=(JG (l.drop (done.length+1))).map fun r=>(done++[(c1,c2)])++r from by
       rw [hE,hy];cases JG (l.drop (done.length+1))<;>simp)
      clear hE;go_wp2_with fail;refine (HCUT.out _ hm).mono ?_;rintro e w2 ⟨rfl,n2,rfl⟩;have HB2:=h_ (HB.out.trans (show Below w1.heap.size wr (wr.drewN n2) from Ze ⟨_,rfl⟩));have HO2:=h_ (Zo Hown.out (show Below wr.heap.size wr (wr.drewN n2) from Ze ⟨_,rfl⟩));generalize wr.drewN n2=w2 at *;go_wp2_with fail;refine (HVR.out _).mono ?_;rintro e w3 ⟨rfl,hb3⟩;have HB3:=h_ (HB2.out.trans (hb3.mono HB2.out.size));have HO3:=h_ (Zo HO2.out hb3);clear hb3;let W1:=w3.alloc (.cells (Qu (c1,c2)).toArray 64);have hB1:Below w3.heap.size w3 W1:=b_.alloc l_ _;have hbl:=ZG.of_own (enc:=Qu) (k:=2) (l:=[(c1,c2)]) (oa:=some ⟨w3.heap.size,0,none⟩) (cap:=1) (fun _=>rfl) (ZoQ w3 (.string ⟨c1.toArray⟩) (.string ⟨c2.toArray⟩) 64);obtain ⟨v',w4,hrun,hown4,hgrow⟩:=Xh (P:=prog) w1.heap.size 25 25 64 i0 (.agg #[.string ⟨#[]⟩,.string ⟨#[]⟩]) 2 32 underlying25 hi0 hz0 hz1 hz2 n18_ d_ _ _ _ (Zo HO3.out hB1) (some ⟨w3.heap.size,0,none⟩) 1 1 (Zx Qu [(c1,c2)]) rfl (ZG.flat (enc:=Qu) (k:=2) (fun _=>rfl) o_ hbl) (Y1 Zsj _) n23_ o_ (Nat.le_trans HB3.out.size hB1.size);have HRUN:=h_ hrun;have HB4:=h_ ((HB3.out.trans (hB1.mono HB3.out.size)).grown hgrow (Nat.le_trans HB3.out.size hB1.size) (fun g hg=>(HO3.out.lt g hg).1));have HO4:=h_ (show w4.ownsRow w1.heap.size 64 2 v' (done++[(c1,c2)]).length (Zx Qu (done++[(c1,c2)])) by rw [ZT,c5_];exact hown4);clear hrun hown4 hgrow hbl hB1;unfold Qu at *;go_wp2_with (at_builtin;refine wpList_append_run rfl _ _ 25 rfl HRUN.out rfl rfl ?_);obtain ⟨oa3,cap3,rfl⟩:=ownsRow_form HO4.out;go_roundg (l.length-done.length)
      case measure=>omega
      case rel=>exact ⟨done.length+1,done++[(c1,c2)],o_,n9_,o_,s_,HO4,HE2,HB4⟩
   ·have hz:¬((done.length:Int)<(l.length:Int)):=o_
    have hE:JG l=some done:=by rw [HE.out,List.drop_eq_nil_of_le o_];simp [JG]
    have HQ:=h_ (show ps=done/\b=decide (0<done.length) from by have h:=HP.out;simp only [hE] at h;simp at h;exact ⟨h.1.symm,by rw [<-h.2]⟩);clear hE HE;have HO2:=h_ (ZmT Hown.out HB1.out.size);by_cases h0:0<done.length
    ·have h1:(0:Int)<(done.length:Int):=o_
     have h2:(done.length:Int)>0:=o_;go_wp2_with fail;obtain ⟨rfl,rfl⟩:=HQ.out;go_ret2;refine ⟨HB1.out.trans (HB.out.mono HB1.out.size),_,by rw [decide_eq_true h0];rfl,HO2.out⟩
    ·have h1:¬(0:Int)<(done.length:Int):=o_
     have h2:¬(done.length:Int)>0:=o_;go_wp2_with fail;obtain ⟨rfl,rfl⟩:=HQ.out;go_ret2;refine ⟨HB1.out.trans (HB.out.mono HB1.out.size),_,by rw [decide_eq_false h0];rfl,HO2.out⟩
end Go.Proofs.YtmgmbeipbeknaaaGreatDoor
