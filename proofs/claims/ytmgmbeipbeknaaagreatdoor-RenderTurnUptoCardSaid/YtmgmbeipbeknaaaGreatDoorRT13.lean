import Derived.Test.YtmgmbeipbeknaaaGreatDoorRT12
namespace Go.Proofs.YtmgmbeipbeknaaaGreatDoor
open Go.Proofs.Tryz
open Go Go.RowKit
set_option linter.unusedVariables false
set_option linter.unusedSimpArgs false
set_option maxHeartbeats 16000000
set_option maxRecDepth 100000
theorem m9_{p:Prop}(h:p:=by go_ret2;have hRl:R<wr.heap.size:=n63_;refine ⟨?_,n10_⟩;rw [HRn.out];exact Hbel.out.trans (((FrB.drewN (FrB.refl R (R+1) _ wr) n).trans hf3).below R o_ o_ o_)):p:=h
theorem m10_{p:Prop}(h:p:=by obtain ⟨f,rfl⟩:∃f',f=f'+1:=⟨f-1,o_⟩;simp only [Yx];rw [<-hd];rw [<-Xn] at hn;rw [drop_cons s j h] at hn⊢;simp [h32] at hn⊢;rw [hn]):p:=h
theorem m11_{p:Prop}(h:p:=by
  split at h
  ·cases h
  ·rename_i d n ho
   have h1:=one_le ho
   have:=Zdr h
   simp at *;omega):p:=h
theorem m12_{p:Prop}(h:p:=by go_wp2_with fail;go_end0;exact ⟨rfl,hfr.drewN _,j,hkj,hj,HR.out,hr.drewN _⟩):p:=h
def ZsC(R B:Nat)(s:ByteArray)(k:Nat)(bs:Str)(w:World)(e:Ending)(w':World):Prop:=
 e=.returned (.tuple #[])/\FrB R B 5 w w'/\∃j,k<=j/\j<=s.size/\s.data.toList.drop j=(s.data.toList.drop k).dropWhile Zg/\Rdr R B s j bs w'
theorem Ze9(R B:Nat)(s:ByteArray)(k:Nat)(bs:List UInt8)(w:World)(h:Rdr R B s k bs w)(hk:k<=s.size)(hs:s.size<549755813888) :
  Calls prog 260 #[.pointer (some ⟨R,0,none⟩)] w fun e w'=>ZsC R B s k bs w e w':=by
 go_enter func260,ntmps260;go_wp2_with fail;go_loopg [2] (s.size-k+1) (fun f _ wr=>∃j:Nat,Rdr R B s j bs wr/\k<=j/\j<=s.size/\s.size-j<f/\Hid ((s.data.toList.drop j).dropWhile Zg=(s.data.toList.drop k).dropWhile Zg)/\FrB R B 5 w wr)
 case atStart=>exact ⟨k,h,o_,hk,o_,rfl,FrB.refl _ _ _ _⟩
 case round=>
  obtain ⟨j,hr,hkj,hj,hfu,Hq,hfr⟩:=hrel;obtain ⟨c0,c1,f1⟩:=hr.rd;by_cases hlt:j<s.size
  ·have hd:decide (s.size<=j)=false:=n24_
   have hge:¬s.size<=j:=o_;cases hbl:Zg s[j] with
   |true=>
    have HR:=h_ (show (s.data.toList.drop (j+1)).dropWhile Zg=(s.data.toList.drop k).dropWhile Zg by
     rw [<-Hq.out,drop_cons s j hlt,List.dropWhile_cons,if_pos hbl])
    have HBl:=h_ hbl;clear hbl;go_wp2_with fail;go_quiet ((first
     |(go_at_call 261;exact Calls.quiet_of (YG R B s j bs _ hr))
     |(go_at_call 305;exact QU (HBl.out ▸ Jw s[j] _))))
    go_wp2_with fail;go_roundg (gk-1)
    case measure=>omega
    case rel=>exact ⟨j+1,(hr.moved (j+1)).drewN _,o_,o_,o_,HR,hfr.trans (FrB.setCell (FrB.drewN (FrB.refl _ _ _ _) _) 1 _)⟩
   |false=>
    have HR:=h_ (show s.data.toList.drop j=(s.data.toList.drop k).dropWhile Zg by
     rw [<-Hq.out,drop_cons s j hlt,List.dropWhile_cons,if_neg (by simp [hbl])])
    have HBl:=h_ hbl;clear hbl;go_wp2_with fail;go_quiet ((first
     |(go_at_call 261;exact Calls.quiet_of (YG R B s j bs _ hr))
     |(go_at_call 305;exact QU (HBl.out ▸ Jw s[j] _))))
    exact m12_
  ·have hd:decide (s.size<=j)=true:=n24_
   have hge:s.size<=j:=o_;have HR:=h_ (show s.data.toList.drop j=(s.data.toList.drop k).dropWhile Zg by
    rw [<-Hq.out,List.drop_eq_nil_of_le (by simpa using hge)];rfl)
   go_wp2_with fail;go_quiet ((go_at_call 261;exact Calls.quiet_of (YG R B s j bs _ hr)));exact m12_
theorem Zmg(R B:Nat)(s:ByteArray)(k:Nat)(bs:List UInt8)(w:World)(h:Rdr R B s k bs w)(hk:k<s.size)(hs:s.size<549755813888)(hbs:bs.length<=k) :
  Calls prog 262 #[.pointer (some ⟨R,0,none⟩)] w fun e w'=>e=.returned (.int .i64 (QY (s.data.toList.drop k)))/\FrB R B 5 w w':=by
 obtain ⟨c0,c1,f1⟩:=h.rd;cases hqu:Yq s[k] with
 |true=>
  have HR:=h_ (show QY (s.data.toList.drop k)=2 by rw [drop_cons s k hk];simp [QY,hqu]);rcases Zf3 hqu with h39|⟨h39,h34⟩
  all_goals
   have n39:=Zar h39;(try have n34:=Zar h34);go_enter func262,ntmps262;go_wp2_with fail;go_quiet (fail);go_wp2_with fail;go_ret;exact ⟨Zc5 n10_,(FrB.refl _ _ _ _).drewN _⟩
 |false=>
  obtain ⟨h39,h34⟩:=Zkm hqu;have n39:=Zar h39;have n34:=Zar h34;cases ho:Xa (s.data.toList.drop k) with
  |error c=>
   have HR:=h_ (show QY (s.data.toList.drop k)=c by rw [drop_cons s k hk] at ho⊢;simp [QY,hqu,ho]);have hc0:=JL (by rw [drop_cons s k hk];simp) ho;have Ho:=h_ ho;clear ho;go_enter func262,ntmps262;go_wp2_with fail;go_quiet (fail);go_wp2_with (go_at_call 306;refine (Zis R B s k bs _ (by exact h.drewN _) hk hs c Ho.out).mono ?_;rintro e w' ⟨rfl,n,rfl⟩);go_ret;exact ⟨Zc5 (by rw [HR.out]),(FrB.refl _ _ _ _).drewN _⟩
  |ok x=>
   obtain ⟨d,n⟩:=x;have HR:=h_ (show QY (s.data.toList.drop k)=2 by rw [drop_cons s k hk] at ho⊢;simp [QY,hqu,ho]);have Ho:=h_ ho;clear ho;go_enter func262,ntmps262;go_wp2_with fail;go_quiet (fail);go_wp2_with (go_at_call 306;refine (Zl6 R B s k bs _ (by exact h.drewN _) hk hs hbs d n Ho.out).mono ?_;rintro e w' ⟨rfl,hr2,hf2⟩);go_ret;exact ⟨Zc5 n10_,((FrB.refl _ _ _ _).drewN _).trans hf2⟩
theorem dropWhile_dropWhile{p:UInt8->Bool}(l:Str):(l.dropWhile p).dropWhile p=l.dropWhile p:=by
 induction l with
 |nil=>rfl
 |cons a l ih=>
  by_cases h:p a=true
  ·rw [List.dropWhile_cons,if_pos h,ih]
  ·rw [List.dropWhile_cons,if_neg h,List.dropWhile_cons,if_neg h]
theorem ZhG(f:Nat)(l:Str)(out:List Str):Yx f (l.dropWhile Zg) out=Yx f l out:=by
 cases f with
 |zero=>rfl
 |succ f=>simp only [Yx,dropWhile_dropWhile]
theorem Zmu{f:Nat}{s:ByteArray}{j:Nat}{out:List Str}(hf:s.size-j<f)(h:s.size<=j):Yx f (s.data.toList.drop j) out=.ok out:=by
 obtain ⟨f,rfl⟩:∃f',f=f'+1:=⟨f-1,o_⟩;rw [List.drop_eq_nil_of_le n42_];rfl
theorem ZkN{f:Nat}{s:ByteArray}{j:Nat}{out:List Str}(hf:s.size-j<f)(h:j<s.size)(hd:s.data.toList.drop j=(s.data.toList.drop j).dropWhile Zg)(h32:out.length=32):Yx f (s.data.toList.drop j) out=.error (QY (s.data.toList.drop j)):=by
 obtain ⟨f,rfl⟩:∃f',f=f'+1:=⟨f-1,o_⟩;simp only [Yx];rw [<-hd,drop_cons s j h];simp [h32]
theorem Zl8{f:Nat}{s:ByteArray}{j:Nat}{out:List Str}{c:Nat}(hf:s.size-j<f)(h:j<s.size)(hd:s.data.toList.drop j=(s.data.toList.drop j).dropWhile Zg)(h32:¬out.length=32)
  (hn:Yd (s.size-j+1) (s.data.toList.drop j) []=.error c):Yx f (s.data.toList.drop j) out=.error c:=by
 exact m10_
theorem Zn0{f:Nat}{s:ByteArray}{j:Nat}{out:List Str}{x r:Str}(hf:s.size-j<f)(h:j<s.size)(hd:s.data.toList.drop j=(s.data.toList.drop j).dropWhile Zg)(h32:¬out.length=32)
  (hn:Yd (s.size-j+1) (s.data.toList.drop j) []=.ok (x,r)):Yx f (s.data.toList.drop j) out=Yx (f-1) r (out++[x]):=by
 exact m10_
theorem Zdr{x r:Str}:∀{f:Nat} {l bs:Str},Yd f l bs=.ok (x,r)->r.length<=l.length
 |0,_,_,h=>n90_
 |f+1,[],_,h=>by cases h;simp
 |f+1,a::l,bs,h=>by
  simp only [Yd] at h;split at h
  ·cases h;simp
  ·split at h
   ·split at h
    ·cases h
    ·rename_i hq
     have h1:=JR hq;have h2:=Zdr h;simp at *;omega
   ·exact m11_
theorem Zoc{x r:Str}{f:Nat}{a:UInt8}{l bs:Str}(ha:Zg a=false)(h:Yd f (a::l) bs=.ok (x,r)):r.length<=l.length:=by
 cases f with
 |zero=>cases h
 |succ f=>
  simp only [Yd] at h;split at h
  ·rename_i h';rw [ha] at h';cases h'
  ·split at h
   ·split at h
    ·cases h
    ·rename_i hq
     have h1:=JR hq;have h2:=Zdr h;omega
   ·exact m11_
theorem ZnO{s:ByteArray}{j:Nat}(h:j<s.size)(hd:s.data.toList.drop j=(s.data.toList.drop j).dropWhile Zg):Zg s[j]=false:=by
 cases hb:Zg s[j] with
 |false=>rfl
 |true=>
  rw [drop_cons s j h,List.dropWhile_cons,if_pos hb] at hd
  have:=List.dropWhile_sublist (l:=s.data.toList.drop (j+1)) Zg
  have:=this.length_le
  rw [<-hd] at this;simp at this;omega
theorem Zb1{c:Nat}:∀{f:Nat} {l bs:Str},l.length<f->Yd f l bs=.error c->((c:Int)!=0)=true
 |0,_,_,h,_=>absurd h o_
 |f+1,[],_,_,h=>n90_
 |f+1,a::l,bs,hl,h=>by
  simp only [Yd] at h;split at h
  ·cases h
  ·split at h
   ·split at h
    ·rename_i hq
     cases h
     exact Zas o_ hq
    ·rename_i hq
     have h1:=JR hq;exact Zb1 n14_ h
   ·split at h
    ·rename_i ho
     cases h
     exact JL s_ ho
    ·rename_i d n ho
     have h1:=one_le ho;exact Zb1 n14_ h
def Zs5(w:World)(res:Except Nat (List Str))(e:Ending)(w':World):Prop:=
 Below w.heap.size w w'/\match res with
 |.error c=>e=.returned (.tuple #[.slice none 0 0,.int .i64 c])
 |.ok l=>∃v,e=.returned (.tuple #[v,.int .i64 0])/\w'.ownsRow w.heap.size 9 1 v l.length (Zj l)
theorem ZhH(s:ByteArray)(w:World)(hs:s.size<549755813888)(res:Except Nat (List Str))(hres:split s.data.toList=res) :
  Calls prog 207 #[.string s] w fun e w'=>Zs5 w res e w':=by
 have Hres:=h_ hres;clear hres;obtain ⟨i0,hi,hz0,hz1,hz2⟩:=info_parts ZfH;go_enter func207,ntmps207;have hr0:Rdr w.heap.size (w.heap.size+1) s 0 [] (w.alloc (.cells #[.string s,.int .i64 0,.pointer none,.slice none 0 0] 241)):=
  ⟨.pointer none,.slice none 0 0,heap_alloc_new w _,.inl rfl,.inl ⟨rfl,rfl⟩,o_,s_⟩
 have hb0:Below w.heap.size w (w.alloc (.cells #[.string s,.int .i64 0,.pointer none,.slice none 0 0] 241)):=b_.alloc l_ _;go_wp2_with fail;generalize w.alloc (.cells #[.string s,.int .i64 0,.pointer none,.slice none 0 0] 241)=w1 at hr0 hb0⊢;generalize hRn:w.heap.size=R at *;have HRn:=h_ hRn;clear hRn;refine (Ze9 R (R+1) s 0 [] _ hr0 o_ hs).mono ?_;rintro e w2 ⟨rfl,hf2,j0,-,hj0,hd0,hr2⟩;have hb2:Below R w w2:=hb0.trans (hf2.below R o_ o_ (by obtain ⟨_,_,h,_⟩:=hr0;have:=Zb h;omega));have HD0:=h_ hd0;clear hd0;go_wp2_with fail;go_loopg [5,6,7] (s.size+1) (fun f v _ _ wr=>∃(j:Nat) (cs:List UInt8) (out:List Str),Rdr R (R+1) s j cs wr/\j<=s.size/\cs.length<=j/\s.size-j<f/\Hid (s.data.toList.drop j=(s.data.toList.drop j).dropWhile Zg)/\Hid (Yx f (s.data.toList.drop j) out=res)/\
  out.length<=32/\Hid (wr.ownsRow R 9 1 v out.length (Zj out))/\Hid (Below R w wr))
 case atStart=>
  refine ⟨j0,[],[],hr2,hj0,s_,o_,?_,?_,s_,World.ownsRow_nil _ _ _ _,hb2⟩
  ·show _=_
   rw [HD0.out,dropWhile_dropWhile]
  ·have h1:=HD0.out
   have h2:=Hres.out;unfold split at h2;show Yx _ _ _=_;rw [h1,ZhG];simpa using h2
 case round=>
  obtain ⟨j,cs,out,hr,hj,hcs,hfu,Hd,Hq,hol,Hown,Hbel⟩:=hrel;obtain ⟨c0,c1,f1⟩:=hr.rd;obtain ⟨oa,cap,rfl⟩:=ownsRow_form Hown.out;by_cases hlt:j<s.size
  ·have hd:decide (s.size<=j)=false:=n24_
   have hge:¬s.size<=j:=o_;by_cases h32:out.length=32
   ·have h32':((out.length:Int)==32)=true:=by simp [h32]
    have HR:=h_ (Hq.out.symm.trans (ZkN hfu hlt Hd.out h32));clear h32;go_wp2_with (first
     |(go_at_call 261;refine (YG R (R+1) s j cs _ (by exact hr)).mono ?_;rintro e w' ⟨rfl,n,rfl⟩)
     |(go_at_call 262;refine (Zmg R (R+1) s j cs _ n41_ hlt hs hcs).mono ?_;rintro e w' ⟨rfl,hf3⟩))
    exact m9_
   ·have h32':((out.length:Int)==32)=false:=n12_
    cases hn:Yd (s.size-j+1) (s.data.toList.drop j) [] with
    |error c=>
     have HR:=h_ (Hq.out.symm.trans (Zl8 hfu hlt Hd.out h32 hn));have hc0:=Zb1 (by rw [Xn];omega) hn;have HN:=h_ hn;clear hn h32;go_wp2_with (first
      |(go_at_call 261;refine (YG R (R+1) s j cs _ (by exact hr)).mono ?_;rintro e w' ⟨rfl,n,rfl⟩)
      |(go_at_call 263;refine (Zi4 R (R+1) s j cs _ n41_ hj hs _ HN.out).mono ?_;rintro e w' ⟨hf3,rfl⟩))
     exact m9_
    |ok x=>
     obtain ⟨x,r⟩:=x;have HR:=h_ ((Zn0 hfu hlt Hd.out h32 hn).symm.trans Hq.out);have hlr:r.length<=s.size-(j+1):=by
      have h1:=hn;rw [drop_cons s j hlt] at h1
      have:=Zoc (ZnO hlt Hd.out) h1
      rw [Xn] at this;exact this
     have hol':out.length<32:=o_;have HN:=h_ hn;clear hn h32;go_wp2_with (first
      |(go_at_call 261;refine (YG R (R+1) s j cs _ (by exact hr)).mono ?_;rintro e w' ⟨rfl,n,rfl⟩)
      |(go_at_call 263;refine (Zi4 R (R+1) s j cs _ n41_ hj hs _ HN.out).mono ?_))
     rintro e w3 ⟨hf3,rfl,j',cs',rfl,hj',hcs',hr3⟩;have hRl:R<wr.heap.size:=n63_;have hf4:=(FrB.drewN (FrB.refl R (R+1) _ wr) n).trans hf3;have hown3:w3.ownsRow R 9 1 (.slice oa out.length cap) out.length (Zj out):=by
      obtain ⟨p,v,h1,_⟩:=hr;exact Zex Hown.out hf4 d_ h1 d_
     have HB3:=h_ (Hbel.out.trans (hf4.below R o_ o_ o_));have hsz3:R<w3.heap.size:=by have:=hf4.size;omega
     rw [Xn] at hlr;clear Hown Hbel hf3 hf4 c0 c1 f1 hr;go_wp2_with (at_builtin;refine wpList_append_own _ rfl _ _ 26 rfl R 9 i0 (.string ⟨#[]⟩) 1 16 underlying26 hi hz0 hz1 hz2 rfl d_ _ _ _ rfl (hown3.alloc _) ⟨w3.heap.size,0,none⟩ 1 1 [.string ⟨x.toArray⟩] rfl rfl ?c1 ?c2 ?c3 ?c4 ?c5 ?_)
     case c1=>exact cell_one_new _ _ _
     case c2=>simp [Value.oneCell']
     case c3=>unfold maxLen;omega
     case c4=>omega
     case c5=>simp;omega
     intro v' w4 hown' hgrow hnil;have hR4:Fr (fun k=>(Value.slice oa out.length cap).ownBlock=some k) w3 w4:=(Fr.alloc (Fr.refl _ _) _).grown hgrow (fun k hk _=>hk);have hRown:(Value.slice oa out.length cap).ownBlock≠some R:=by
      intro e;obtain ⟨p,v,h1,_⟩:=hr3;rcases hown3.2 with ⟨h,_⟩|⟨g,_,_,h,_,hg,_⟩
      ·rw [h] at e;simp [Value.ownBlock] at e
      ·rw [h] at e;simp [Value.ownBlock] at e;subst e;rw [h1] at hg;simp at hg
     have hr4:Rdr R (R+1) s j' cs' w4:=hr3.frame hR4 hRown (by
      rintro i hi ⟨cs2,fz2,h2⟩ e;rcases hown3.2 with ⟨h,_⟩|⟨g,_,_,h,_,hg,_⟩
      ·rw [h] at e;simp [Value.ownBlock] at e
      ·rw [h] at e;simp [Value.ownBlock] at e;subst e;rw [h2] at hg;simp at hg)
     have HB4:=h_ (HB3.out.trans (Fr.below hR4 R o_ (fun k hk e=>by have:=hown3.lt k e;omega)));have HO4:=h_ (show w4.ownsRow R 9 1 v' (out++[x]).length (Zj (out++[x])) by rw [XO,List.length_append];exact hown');clear hgrow hnil hown' hR4 hRown hown3 HB3;obtain ⟨ao,n',cap',rfl⟩:∃ao n' cap,v'=.slice ao n' cap:=by
      obtain ⟨oa,cap,h⟩:=ownsRow_form HO4.out;exact ⟨_,_,_,h⟩
     go_wp2_with ((go_at_call 260;refine (Ze9 R (R+1) s j' cs' _ (by exact hr4) hj' hs).mono ?_));rintro e w5 ⟨rfl,hf5,j5,hj5,hj5',hd5,hr5⟩;have hsz4:R<w4.heap.size:=by obtain ⟨_,_,h,_⟩:=hr4;exact Zb h
     have HO5:=h_ (show w5.ownsRow R 9 1 (.slice ao n' cap') (out++[x]).length (Zj (out++[x])) by
      obtain ⟨p,v,h1,_⟩:=hr4;exact Zex HO4.out hf5 d_ h1 d_)
     have HB5:=h_ (HB4.out.trans (hf5.below R o_ o_ o_));have HD5:=h_ hd5;clear hd5;go_wp2_with fail;go_roundg (gk-1)
     case measure=>omega
     case rel=>
      refine ⟨j5,cs',out++[x],hr5,hj5',o_,o_,?_,?_,n5_,HO5,HB5⟩
      ·show _=_
       rw [HD5.out,dropWhile_dropWhile]
      ·show Yx _ _ _=_
       rw [HD5.out,ZhG];exact HR.out
  ·have hd:decide (s.size<=j)=true:=n24_
   have hge:s.size<=j:=o_;have HR:=h_ (Hq.out.symm.trans (Zmu hfu hge));go_wp2_with (go_at_call 261;refine (YG R (R+1) s j cs _ (by exact hr)).mono ?_;rintro e w' ⟨rfl,n,rfl⟩);go_ret2;refine ⟨?_,by rw [HR.out];exact ⟨_,rfl,by rw [HRn.out];exact Hown.out⟩⟩;rw [HRn.out];exact Hbel.out.trans ⟨rfl,rfl,rfl,l_,fun _ _=>rfl⟩
end Go.Proofs.YtmgmbeipbeknaaaGreatDoor
