import Derived.Test.YtgoooebfhdbbkaaGreatDoorProg
import Derived.Deep.QuietTactic
import Derived.BigQuiet
import Derived.BigRegion
import Derived.Lib.Hide
import Derived.Lib.IndexMore
import Derived.Lib.CutLaws
import Derived.Test.YtgoooebfhdbbkaaGreatDoorUM1
namespace Go.Proofs.YtgoooebfhdbbkaaGreatDoor
set_option linter.unusedVariables false
set_option linter.unusedSimpArgs false
set_option maxHeartbeats 16000000
abbrev Str:=List UInt8
def hexOf(c:UInt8):Option Nat:=
 if 48<=c/\c<=57 then some (c.toNat-48) else if 97<=c/\c<=102 then some (c.toNat-87) else none
def Xv:Str->Option UInt8
 |a::b::_=>match hexOf a,hexOf b with
  |some x,some y=>some (UInt8.ofNat (16*x+y))
  |_,_=>none
 |_=>none
def Yj(c:UInt8):Bool:=(c<32&&c !=9)||c==127
def Zn(c:UInt8):Bool:=c==32||c==9
def ZC(c:UInt8):Bool:=c==39||c==34
def YR:Str->Option (UInt8×Nat)
 |c::r=>
  if c==92||c==34||c==39 then some (c,1)
  else if c==110 then some (10,1)
  else if c==116 then some (9,1)
  else if c==115 then some (32,1)
  else if c==120 then
   match Xv r with
   |some d=>if d=0 then none else some (d,3)
   |none=>none
  else none
 |[]=>none
def YH:Str->Except Nat (UInt8×Nat)
 |[]=>.error 0
 |c::r=>
  if Yj c then .error 1
  else if c=92 then
   match YR r with
   |some (d,n)=>.ok (d,n+1)
   |none=>.error 13
  else .ok (c,1)
def Ye(q:UInt8):Nat->Str->Str->Except Nat (Str×Str)
 |0,_,_=>.error 0
 |_+1,[],_=>.error 13
 |f+1,c::r,bs=>
  if c=q then .ok (bs,r)
  else match YH (c::r) with
   |.error e=>.error e
   |.ok (d,n)=>Ye q f ((c::r).drop n) (bs++[d])
def YD:Nat->Str->Str->Except Nat (Str×Str)
 |0,_,_=>.error 0
 |_+1,[],bs=>.ok (bs,[])
 |f+1,c::r,bs=>
  if Zn c then .ok (bs,c::r)
  else if ZC c then
   match Ye c (r.length+1) r bs with
   |.error e=>.error e
   |.ok (bs',r')=>YD f r' bs'
  else match YH (c::r) with
   |.error e=>.error e
   |.ok (d,n)=>YD f ((c::r).drop n) (bs++[d])
def Q5(l:Str):Nat:=
 match l with
 |[]=>2
 |c::r=>if ZC c then 2 else match YH (c::r) with
  |.error e=>e
  |.ok _=>2
def Y0:Nat->Str->List Str->Except Nat (List Str)
 |0,_,_=>.error 0
 |f+1,l,out=>
  match l.dropWhile Zn with
  |[]=>.ok out
  |c::r=>
   if out.length=32 then .error (Q5 (c::r))
   else match YD (r.length+2) (c::r) [] with
    |.error e=>.error e
    |.ok (w,r')=>Y0 f r' (out++[w])
def split(l:Str):Except Nat (List Str):=Y0 (l.length+1) l []
def Zpv(w:Str):Bool:=
 match w with
 |[]=>false
 |c::_=>c !=45&&w.all fun c=>32<c&&c<127&&c !=39&&c !=34&&c !=92
def hexDigit(n:Nat):UInt8:=if n<10 then UInt8.ofNat (48+n) else UInt8.ofNat (87+n)
def Zp5(c:UInt8):Str:=[hexDigit (c.toNat / 16),hexDigit (c.toNat % 16)]
def X7(c:UInt8):Str:=
 if c==34||c==92 then [92,c] else if 32<=c&&c<127 then [c] else 92::120::Zp5 c
def ZoR(w:Str):Str:=34::(w.flatMap X7++[34])
def Zkx(w:Str):Str:=if Zpv w then w else ZoR w
def Zd6(sep:Str):List Str->Str
 |[]=>[]
 |[a]=>a
 |a::b::r=>a++sep++Zd6 sep (b::r)
def join(l:List Str):Str:=
 if 32<l.length then [] else if l.any (fun w=>w.contains 0) then [] else Zd6 [32] (l.map Zkx)
theorem QR{p:UInt8->Bool}(h:(List.range 256).all (fun n=>p (UInt8.ofNat n))=true):∀c,p c=true:=by
 intro c;have h':=List.all_eq_true.1 h c.toNat (List.mem_range.2 (UInt8.toNat_lt c))
 rwa [UInt8.ofNat_toNat] at h'
def Yp(c:UInt8):Bool:=(97<=c&&c<=122)||(65<=c&&c<=90)
def isDigit(c:UInt8):Bool:=48<=c&&c<=57
structure Ln where
 sec:Str
 key:Str
 val:Str
 at_:Int
deriving DecidableEq
open Go.Proofs.Tryz
open Go Go.RowKit
theorem Zqi(c:UInt8):((c.toNat:Int).toNat.toUInt8)=c:=s_
theorem Zfe(c:UInt8):Zn c=decide ((c.toNat:Int)=32\/(c.toNat:Int)=9):=by
 rw [Bool.eq_iff_iff];simp [Zn,<-UInt8.toNat_inj];omega
theorem J6(c:UInt8):Yj c=decide (((c.toNat:Int)<32/\(c.toNat:Int)≠9)\/(c.toNat:Int)=127):=by
 rw [Bool.eq_iff_iff];simp [Yj,<-UInt8.toNat_inj,UInt8.lt_iff_toNat_lt];omega
theorem Yb{a b:ByteArray}(h:a.data.toList=b.data.toList):a=b:=by
 obtain ⟨⟨a⟩⟩:=a;obtain ⟨⟨b⟩⟩:=b;simp at h;rw [h]
theorem Zco(l:List UInt8)(k:Nat)(h:k<l.length):l.take (k+1)=l.take k++[l[k]]:=by
 rw [List.take_succ_eq_append_getElem h]
theorem ZpM(s:ByteArray)(f:FuncId)(fr cap:Array Value)(p:UInt8->Bool)(w:World)(h63:s.size<=9223372036854775807)
  (HE:∀args w,(callFunc f args).run prog w=.ok (.enter f args) w)
  (H:∀c:UInt8,Calls prog f (fr.push (.int .u8 c.toNat)++cap) w fun e w'=>e=.returned (.bool (p c))/\w=w') :
  Calls prog 93 #[.string s,.func (.func f) fr cap] w fun e w'=>e=.returned (.bool (s.data.toList.all p))/\w=w':=by
 have HH:=h_ H;clear H;go_enter func93,ntmps93;go_wp2;go_loop [5,8] (fun _ i=>∃k:Nat,k<=s.size/\i=.int .i64 k/\Hid ((s.data.toList.take k).all p=true)) (fun _ i=>s.size-(intOf i).toNat)
 case atStart=>exact ⟨0,Nat.zero_le _,rfl,by simp [Hid]⟩
 case round=>
  obtain ⟨k,hk,rfl,hall⟩:=hrel;by_cases hlt:k<s.size
  ·have hsn:=Zco s.data.toList k n42_
   have hgk:s.data.toList[k]' n42_=s[k]:=rfl;rw [hgk] at hsn;cases hp:p s[k] with
   |true=>
    have HT:=h_ (show (s.data.toList.take (k+1)).all p=true by rw [hsn,List.all_append,hall.out];simp [hp]);have HP:=h_ hp;clear hsn hgk hp;go_wp2_with (refine (HH.out s[k]).mono ?_;rintro e w' ⟨rfl,rfl⟩;rw [HP.out]);go_round
    case rel=>exact ⟨k+1,o_,n14_,HT⟩
    case measure=>simp [intOf];omega
   |false=>
    have HT:=h_ (show s.data.toList.all p=false by
     rw [List.all_eq_false];exact ⟨s[k],by rw [<-hgk];exact List.getElem_mem _,by simp [hp]⟩)
    have HP:=h_ hp;clear hsn hgk hp;go_wp2_with (refine (HH.out s[k]).mono ?_;rintro e w' ⟨rfl,rfl⟩;rw [HP.out]);go_ret;exact ⟨Y3 HT.out.symm,rfl⟩
  ·go_wp2
   go_ret
   have:k=s.size:=o_
   subst this
   have:=hall.out
   rw [List.take_of_length_le s_] at this;refine ⟨Y3 ?_,rfl⟩;exact this.symm.trans (Array.all_toList )
theorem m13_{p:Prop}(h:p:=by
  split at h
  ·cases h
  ·rename_i d n ho
   have h1:=Qo ho
   have:=Zbu h
   simp at *;omega):p:=h
theorem JS{r:Str}{d:UInt8}{n:Nat}(h:YR r=some (d,n)):1<=n/\n<=r.length/\d≠0:=by
 match r with
 |[]=>simp [YR] at h
 |a::r' =>
  simp only [YR] at h;split at h
  ·rename_i ha;cases h
   refine ⟨o_,s_,?_⟩;intro e;subst e;simp at ha
  ·split at h
   ·cases h;simp
   ·split at h
    ·cases h;simp
    ·split at h
     ·cases h;simp
     ·split at h
      ·split at h
       ·rename_i d'' h2
        split at h
        ·cases h
        ·rename_i hd
         cases h
         match r',h2 with
         |_::_::_,_=>exact ⟨o_,s_,hd⟩
         |[],h2=>simp [Xv] at h2
         |[_],h2=>simp [Xv] at h2
       ·cases h
      ·cases h
theorem Zld{r:Str}{d:UInt8}{n:Nat}(t:Str)(h:YR r=some (d,n)):YR (r++t)=some (d,n):=by
 match r with
 |[]=>simp [YR] at h
 |a::r' =>
  simp only [YR,List.cons_append] at h⊢;split
  ·rename_i ha;rw [if_pos ha] at h;exact h
  ·rename_i ha;rw [if_neg ha] at h
   split
   ·rename_i hb;rw [if_pos hb] at h;exact h
   ·rename_i hb;rw [if_neg hb] at h
    split
    ·rename_i hc;rw [if_pos hc] at h;exact h
    ·rename_i hc;rw [if_neg hc] at h
     split
     ·rename_i hd;rw [if_pos hd] at h;exact h
     ·rename_i hd;rw [if_neg hd] at h
      split
      ·rename_i he;rw [if_pos he] at h
       match r',h with
       |x::y::r2,h=>exact h
       |[],h=>simp [Xv] at h
       |[x],h=>simp [Xv] at h
      ·rename_i he;rw [if_neg he] at h;cases h
theorem Qo{l:Str}{d:UInt8}{n:Nat}(h:YH l=.ok (d,n)):1<=n/\n<=l.length/\d≠0:=by
 match l with
 |[]=>simp [YH] at h
 |c::r=>
  simp only [YH] at h;split at h
  ·cases h
  ·rename_i hb
   split at h
   ·split at h
    ·rename_i he
     cases h
     have:=JS he
     exact ⟨o_,n2_,this.2.2⟩
    ·cases h
   ·cases h
    refine ⟨o_,s_,?_⟩;intro e;subst e;simp [Yj] at hb
theorem Zdd{l:Str}{d:UInt8}{n:Nat}(t:Str)(h:YH l=.ok (d,n)):YH (l++t)=.ok (d,n):=by
 match l with
 |[]=>simp [YH] at h
 |c::r=>
  simp only [YH,List.cons_append] at h⊢;split
  ·rename_i hb;rw [if_pos hb] at h;cases h
  ·rename_i hb;rw [if_neg hb] at h
   split
   ·rename_i h92;rw [if_pos h92] at h
    split at h
    ·rename_i he
     rw [Zld t he];exact h
    ·cases h
   ·rename_i h92;rw [if_neg h92] at h;exact h
def Quoted(q:UInt8)(l bs:Str):Except Nat (Str×Str):=Ye q (l.length+1) l bs
def Next(l bs:Str):Except Nat (Str×Str):=YD (l.length+1) l bs
def Xd(l:Str)(out:List Str):Except Nat (List Str):=Y0 (l.length+1) l out
theorem Zey(q:UInt8):∀(f g:Nat) (l bs:Str),l.length<f->l.length<g->Ye q f l bs=Ye q g l bs
 |0,_,_,_,h,_=>absurd h o_
 |_+1,0,_,_,_,h=>absurd h o_
 |f+1,g+1,[],bs,_,_=>rfl
 |f+1,g+1,c::r,bs,hf,hg=>by
  simp only [Ye];split
  ·rfl
  ·split
   ·rfl
   ·rename_i d n ho
    have:=Qo ho
    exact Zey q f g _ _ n24_ n24_
theorem Zlh(q:UInt8)(bs:Str):Quoted q [] bs=.error 13:=rfl
theorem Qq(q:UInt8)(r bs:Str):Quoted q (q::r) bs=.ok (bs,r):=by
 simp [Quoted,Ye]
theorem Zat{q c:UInt8}{r bs:Str}{e:Nat}(hc:c≠q)(ho:YH (c::r)=.error e):Quoted q (c::r) bs=.error e:=by
 simp [Quoted,Ye,hc,ho]
theorem Jl{q c:UInt8}{r bs:Str}{d:UInt8}{n:Nat}(hc:c≠q)(ho:YH (c::r)=.ok (d,n)):Quoted q (c::r) bs=Quoted q ((c::r).drop n) (bs++[d]):=by
 have:=Qo ho
 simp only [Quoted,Ye,hc,if_false,ho];exact Zey q _ _ _ _ n24_ (by simp at *)
theorem Y9{q:UInt8}{bs' r':Str}:∀{f:Nat} {l bs:Str},Ye q f l bs=.ok (bs',r')->r'.length<l.length
 |0,_,_,h=>n135_
 |f+1,[],_,h=>n135_
 |f+1,a::r,bs,h=>by
  simp only [Ye] at h;split at h
  ·cases h;simp
  ·split at h
   ·cases h
   ·rename_i d n ho
    have h1:=Qo ho
    have:=Y9 h
    simp at *;omega
theorem Zcr:∀(f g:Nat) (l bs:Str),l.length<f->l.length<g->YD f l bs=YD g l bs
 |0,_,_,_,h,_=>absurd h o_
 |_+1,0,_,_,_,h=>absurd h o_
 |f+1,g+1,[],bs,_,_=>rfl
 |f+1,g+1,c::r,bs,hf,hg=>by
  simp only [YD];split
  ·rfl
  ·split
   ·split
    ·rfl
    ·rename_i hq
     have:=Y9 hq
     exact Zcr f g _ _ n24_ n24_
   ·split
    ·rfl
    ·rename_i d n ho
     have:=Qo ho
     exact Zcr f g _ _ n24_ n24_
theorem Zgl(bs:Str):Next [] bs=.ok (bs,[]):=rfl
theorem Jj{c:UInt8}(r bs:Str)(h:Zn c=true):Next (c::r) bs=.ok (bs,c::r):=by simp [Next,YD,h]
theorem Q8{c:UInt8}{r bs:Str}{e:Nat}(h:Zn c=false)(hq:ZC c=true)(hQ:Quoted c r bs=.error e):Next (c::r) bs=.error e:=by
 unfold Quoted at hQ;simp [Next,YD,h,hq,hQ]
theorem XV{c:UInt8}{r bs bs' r':Str}(h:Zn c=false)(hq:ZC c=true)(hQ:Quoted c r bs=.ok (bs',r')):Next (c::r) bs=Next r' bs':=by
 have:=Y9 hQ
 unfold Quoted at hQ;simp only [Next,YD,h,hq,hQ,Bool.false_eq_true,if_false,if_true];exact Zcr _ _ _ _ n24_ o_
theorem QY{c:UInt8}{r bs:Str}{e:Nat}(h:Zn c=false)(hq:ZC c=false)(ho:YH (c::r)=.error e):Next (c::r) bs=.error e:=by
 simp [Next,YD,h,hq,ho]
theorem Qg{c:UInt8}{r bs:Str}{d:UInt8}{n:Nat}(h:Zn c=false)(hq:ZC c=false)(ho:YH (c::r)=.ok (d,n)):Next (c::r) bs=Next ((c::r).drop n) (bs++[d]):=by
 have:=Qo ho
 simp only [Next,YD,h,hq,ho,Bool.false_eq_true,if_false];exact Zcr _ _ _ _ n24_ (by simp at *)
theorem Zbu{x r:Str}:∀{f:Nat} {l bs:Str},YD f l bs=.ok (x,r)->r.length<=l.length
 |0,_,_,h=>n135_
 |f+1,[],_,h=>by cases h;simp
 |f+1,a::l,bs,h=>by
  simp only [YD] at h;split at h
  ·cases h;simp
  ·split at h
   ·split at h
    ·cases h
    ·rename_i hq
     have h1:=Y9 hq;have h2:=Zbu h;simp at *;omega
   ·exact m13_
theorem QS{x r:Str}{f:Nat}{a:UInt8}{l bs:Str}(ha:Zn a=false)(h:YD f (a::l) bs=.ok (x,r)):r.length<=l.length:=by
 cases f with
 |zero=>cases h
 |succ f=>
  simp only [YD] at h;split at h
  ·rename_i h';rw [ha] at h';cases h'
  ·split at h
   ·split at h
    ·cases h
    ·rename_i hq
     have h1:=Y9 hq;have h2:=Zbu h;omega
   ·exact m13_
theorem Qh{l r:Str}{c:UInt8}(h:l.dropWhile Zn=c::r):Zn c=false:=by
 induction l with
 |nil=>cases h
 |cons a l ih=>
  rw [List.dropWhile_cons] at h;split at h
  ·exact ih h
  ·rename_i ha;cases h;simpa using ha
theorem X5(l:Str):(l.dropWhile Zn).length<=l.length:=(List.dropWhile_sublist Zn).length_le
theorem ZcU:∀(f g:Nat) (l:Str) (out:List Str),l.length<f->l.length<g->Y0 f l out=Y0 g l out
 |0,_,_,_,h,_=>absurd h o_
 |_+1,0,_,_,_,h=>absurd h o_
 |f+1,g+1,l,out,hf,hg=>by
  have hd:=X5 l;simp only [Y0];split
  ·rfl
  ·rename_i c r hcr
   split
   ·rfl
   ·split
    ·rfl
    ·rename_i w r' hn
     have h1:=QS (Qh hcr) hn;rw [hcr] at hd;exact ZcU f g _ _ n24_ n24_
theorem Zbl{l:Str}{out:List Str}(h:l.dropWhile Zn=[]):Xd l out=.ok out:=by simp [Xd,Y0,h]
theorem ZaM{l:Str}{out:List Str}{c:UInt8}{r:Str}(h:l.dropWhile Zn=c::r)(h32:out.length=32):Xd l out=.error (Q5 (c::r)):=by simp [Xd,Y0,h,h32]
theorem Zbv{l:Str}{out:List Str}{c:UInt8}{r:Str}{e:Nat}(h:l.dropWhile Zn=c::r)(h32:out.length≠32)(hn:Next (c::r) []=.error e):Xd l out=.error e:=by
 unfold Next at hn;simp only [List.length_cons] at hn;simp [Xd,Y0,h,h32,hn]
theorem Jq{l:Str}{out:List Str}{c:UInt8}{r w r':Str}(h:l.dropWhile Zn=c::r)(h32:out.length≠32)(hn:Next (c::r) []=.ok (w,r')):Xd l out=Xd r' (out++[w]):=by
 have h1:=QS (Qh h) hn;have hd:=X5 l;rw [h] at hd;unfold Next at hn;simp only [List.length_cons] at hn;simp only [Xd,Y0,h,h32,if_false,hn];exact ZcU l.length (r'.length+1) r' _ (by simp at hd;omega) o_
theorem ZcB(l:Str)(out:List Str):Xd (l.dropWhile Zn) out=Xd l out:=by
 have e:(l.dropWhile Zn).dropWhile Zn=l.dropWhile Zn:=by
  induction l with
  |nil=>rfl
  |cons a l ih=>
   by_cases h:Zn a=true
   ·rw [List.dropWhile_cons,if_pos h,ih]
   ·rw [List.dropWhile_cons,if_neg h,List.dropWhile_cons,if_neg h]
 have hd:=X5 l;unfold Xd;rw [ZcU ((l.dropWhile Zn).length+1) (l.length+1) _ _ o_ o_];simp only [Y0,e]
theorem ZcI{q:UInt8}(t:Str):∀{f:Nat} {l bs bs' r':Str},l.length<f->Quoted q l bs=.ok (bs',r')->Quoted q (l++t) bs=.ok (bs',r'++t)
 |0,_,_,_,_,h,_=>absurd h o_
 |f+1,[],_,_,_,_,h=>n135_
 |f+1,c::r,bs,bs',r',hf,h=>by
  by_cases hc:c=q
  ·subst hc
   rw [Qq] at h;cases h
   rw [List.cons_append,Qq]
  ·cases ho:YH (c::r) with
   |error e=>rw [Zat hc ho] at h;cases h
   |ok x=>
    obtain ⟨d,n⟩:=x;rw [Jl hc ho] at h;have h1:=Qo ho;have ho':=Zdd t ho;rw [List.cons_append] at ho'⊢;rw [Jl hc ho'];have e:(c::(r++t)).drop n=(c::r).drop n++t:=by
     rw [<-List.cons_append,List.drop_append_of_le_length h1.2.1]
    rw [e];exact ZcI t (f:=f) n24_ h
theorem ZbO(t:Str):∀{f:Nat} {l bs w r':Str},l.length<f->Next l bs=.ok (w,r')->Next (l++32::t) bs=.ok (w,r'++32::t)
 |0,_,_,_,_,h,_=>absurd h o_
 |f+1,[],bs,_,_,_,h=>by
  cases h
  rw [List.nil_append,Jj _ _ rfl];try rfl
 |f+1,c::r,bs,w,r',hf,h=>by
  cases hb:Zn c with
  |true=>
   rw [Jj _ _ hb] at h;cases h
   rw [List.cons_append,Jj _ _ hb]
  |false=>
   cases hq:ZC c with
   |true=>
    cases hQ:Quoted c r bs with
    |error e=>rw [Q8 hb hq hQ] at h;cases h
    |ok x=>
     obtain ⟨bs',r2⟩:=x;rw [XV hb hq hQ] at h;have h2:r2.length<r.length:=Y9 hQ;have hQ':=ZcI (32::t) (f:=r.length+1) o_ hQ;rw [List.cons_append,XV hb hq hQ'];exact ZbO t (f:=f) n24_ h
   |false=>
    cases ho:YH (c::r) with
    |error e=>rw [QY hb hq ho] at h;cases h
    |ok x=>
     obtain ⟨d,n⟩:=x;rw [Qg hb hq ho] at h;have h1:=Qo ho;have ho':=Zdd (32::t) ho;rw [List.cons_append] at ho'⊢;rw [Qg hb hq ho'];have e:(c::(r++32::t)).drop n=(c::r).drop n++32::t:=by
      rw [<-List.cons_append,List.drop_append_of_le_length h1.2.1]
     rw [e];exact ZbO t (f:=f) n24_ h
theorem dropWhile_append{l t:Str}{c:UInt8}{r:Str}(h:l.dropWhile Zn=c::r):(l++t).dropWhile Zn=c::(r++t):=by
 induction l with
 |nil=>cases h
 |cons a l ih=>
  rw [List.dropWhile_cons] at h;rw [List.cons_append,List.dropWhile_cons];split
  ·rename_i ha;rw [if_pos ha] at h;exact ih h
  ·rename_i ha;rw [if_neg ha] at h;cases h;rfl
theorem Zb7{l t:Str}(h:l.dropWhile Zn=[]):(l++32::t).dropWhile Zn=t.dropWhile Zn:=by
 induction l with
 |nil=>rfl
 |cons a l ih=>
  rw [List.dropWhile_cons] at h;split at h
  ·rename_i ha
   rw [List.cons_append,List.dropWhile_cons,if_pos ha];exact ih h
  ·cases h
theorem ZcG(t:Str):∀{f:Nat} {l:Str} {out x:List Str},l.length<f->Xd l out=.ok x->Xd (l++32::t) out=Xd t x
 |0,_,_,_,h,_=>absurd h o_
 |f+1,l,out,x,hf,h=>by
  cases hd:l.dropWhile Zn with
  |nil=>
   rw [Zbl hd] at h;cases h
   rw [<-ZcB (l++32::t),Zb7 hd,ZcB]
  |cons c r=>
   by_cases h32:out.length=32
   ·rw [ZaM hd h32] at h;cases h
   ·cases hn:Next (c::r) [] with
    |error e=>rw [Zbv hd h32 hn] at h;cases h
    |ok y=>
     obtain ⟨w,r'⟩:=y;rw [Jq hd h32 hn] at h;have hl:=X5 l;rw [hd] at hl;have h1:r'.length<=r.length:=QS (Qh hd) hn;have hn':=ZbO t (f:=(c::r).length+1) o_ hn;rw [List.cons_append] at hn';rw [Jq (dropWhile_append hd) h32 hn'];exact ZcG t (f:=f) n24_ h
theorem Zdi(l:Str):split l=Xd l []:=rfl
theorem ZcZ{c:UInt8}(r:Str)(hb:Yj c=false)(h:c≠92):YH (c::r)=.ok (c,1):=by simp [YH,hb,h]
theorem Zg3(c:UInt8)(h:c≠0):YH (X7 c)=.ok (c,(X7 c).length)/\∃a r,X7 c=a::r/\a≠34:=by
 have:=QR (p:=fun c=>c==0||((match YH (X7 c) with|.ok (d,n)=>d==c&&n==(X7 c).length|.error _=>false)&&(match X7 c with|a::_=>a !=34|[]=>false))) n12_ c
 have h0:(c==0)=false:=n60_;rw [h0,Bool.false_or,Bool.and_eq_true] at this;obtain ⟨h1,h2⟩:=this;constructor
 ·split at h1
  ·rename_i d n ho
   rw [Bool.and_eq_true] at h1;rw [eq_of_beq h1.1,eq_of_beq h1.2] at ho;exact ho
  ·cases h1
 ·split at h2
  ·rename_i a r hq
   exact ⟨a,r,hq,n80_⟩
  ·cases h2
theorem Zkq{c:UInt8}(h:c≠0)(t bs:Str):Quoted 34 (X7 c++t) bs=Quoted 34 t (bs++[c]):=by
 obtain ⟨ho,a,r,hq,ha⟩:=Zg3 c h;have ho':=Zdd t ho;rw [hq] at ho'⊢;rw [List.cons_append] at ho'⊢;rw [Jl ha ho'];congr 1;rw [<-List.cons_append,List.drop_left]
theorem ZfM:∀(w t bs:Str),w.contains 0=false->Quoted 34 (w.flatMap X7++34::t) bs=.ok (bs++w,t)
 |[],t,bs,_=>by rw [List.flatMap_nil,List.nil_append,Qq];simp
 |c::w,t,bs,h=>by
  have hc:c≠0:=by intro e;subst e;simp at h
  have hw:w.contains 0=false:=by
   rw [List.contains_cons,Bool.or_eq_false_iff] at h;exact h.2
  rw [List.flatMap_cons,List.append_assoc,Zkq hc,ZfM w t _ hw];simp
theorem ZgC(c:UInt8)(h:(32<c&&c<127&&c !=39&&c !=34&&c !=92)=true):Yj c=false/\c≠92/\Zn c=false/\ZC c=false:=by
 have:=QR (p:=fun c=>!(32<c&&c<127&&c !=39&&c !=34&&c !=92)||(!Yj c&&c !=92&&!Zn c&&!ZC c)) n12_ c
 rw [h] at this;simpa [and_assoc] using this
theorem Zgx:∀(w bs:Str),(∀c∈w,(32<c&&c<127&&c !=39&&c !=34&&c !=92)=true)->Next w bs=.ok (bs++w,[])
 |[],bs,_=>by rw [Zgl];simp
 |c::w,bs,h=>by
  obtain ⟨h1,h2,h3,h4⟩:=ZgC c (h c s_);rw [Qg h3 h4 (ZcZ _ h1 h2),List.drop_succ_cons,List.drop_zero,Zgx w _ (fun c hc=>h c (by simp [hc]))];simp
theorem ZeI{w:Str}(h0:w.contains 0=false){out:List Str}(h32:out.length≠32):Xd (Zkx w) out=.ok (out++[w]):=by
 unfold Zkx;split
 ·rename_i hp
  match w,hp with
  |c::r,hp=>
   simp only [Zpv,Bool.and_eq_true] at hp;have hall:=List.all_eq_true.1 hp.2;obtain ⟨h1,h2,h3,h4⟩:=ZgC c (hall c s_);rw [Jq (c:=c) (r:=r) (w:=c::r) (r':=[]) (by rw [List.dropWhile_cons,if_neg (by simp [h3])]) h32 (Zgx _ [] (fun c hc=>hall c hc))];rfl
 ·unfold ZoR
  rw [Jq (c:=34) (r:=w.flatMap X7++[34]) (w:=w) (r':=[]) rfl h32 (by
   rw [XV rfl rfl (ZfM w [] [] h0),Zgl];simp)]
  rfl
theorem ZeX:∀(l:List Str) (out:List Str),l.any (fun w=>w.contains 0)=false->out.length+l.length<=32->Xd (Zd6 [32] (l.map Zkx)) out=.ok (out++l)
 |[],out,_,_=>by simp only [List.map_nil,Zd6,List.append_nil];rfl
 |[w],out,h,hl=>by
  simp only [List.map_cons,List.map_nil,Zd6];exact ZeI n60_ (by simp at hl;omega)
 |a::b::r,out,h,hl=>by
  simp only [List.any_cons,Bool.or_eq_false_iff] at h;simp only [List.map_cons,Zd6];rw [List.append_assoc,List.singleton_append,ZcG _ (f:=(Zkx a).length+1) o_ (ZeI h.1 (by simp at hl;omega))];have ih:=ZeX (b::r) (out++[a]) (by simp only [List.any_cons,Bool.or_eq_false_iff];exact h.2) (by simp at hl⊢;omega);simp only [List.map_cons] at ih;rw [ih];simp
theorem ZlJ(l:List Str)(h0:l.any (fun w=>w.contains 0)=false)(hl:l.length<=32):split (join l)=.ok l:=by
 unfold join;rw [if_neg o_,h0,Zdi];simp only [Bool.false_eq_true,if_false];rw [ZeX l [] h0 (by simpa using hl)];simp
theorem ZeF{q:UInt8}:∀{f:Nat} {l bs bs' r':Str},l.length<f->Quoted q l bs=.ok (bs',r')->bs.contains 0=false->bs'.contains 0=false
 |0,_,_,_,_,h,_,_=>absurd h o_
 |f+1,[],_,_,_,_,h,_=>n135_
 |f+1,c::r,bs,bs',r',hf,h,hz=>by
  by_cases hc:c=q
  ·subst hc;rw [Qq] at h;cases h;exact hz
  ·cases ho:YH (c::r) with
   |error e=>rw [Zat hc ho] at h;cases h
   |ok x=>
    obtain ⟨d,n⟩:=x;rw [Jl hc ho] at h;have h1:=Qo ho;refine ZeF (f:=f) n24_ h ?_;have h3:¬0=d:=fun e=>h1.2.2 e.symm
    simpa [h3] using hz
theorem Zea:∀{f:Nat} {l bs w r':Str},l.length<f->Next l bs=.ok (w,r')->bs.contains 0=false->w.contains 0=false
 |0,_,_,_,_,h,_,_=>absurd h o_
 |f+1,[],_,_,_,_,h,hz=>by cases h;exact hz
 |f+1,c::r,bs,w,r',hf,h,hz=>by
  cases hb:Zn c with
  |true=>rw [Jj _ _ hb] at h;cases h;exact hz
  |false=>
   cases hq:ZC c with
   |true=>
    cases hQ:Quoted c r bs with
    |error e=>rw [Q8 hb hq hQ] at h;cases h
    |ok x=>
     obtain ⟨bs',r2⟩:=x;rw [XV hb hq hQ] at h;have h2:r2.length<r.length:=Y9 hQ;exact Zea (f:=f) n24_ h (ZeF (f:=r.length+1) o_ hQ hz)
   |false=>
    cases ho:YH (c::r) with
    |error e=>rw [QY hb hq ho] at h;cases h
    |ok x=>
     obtain ⟨d,n⟩:=x;rw [Qg hb hq ho] at h;have h1:=Qo ho;refine Zea (f:=f) n24_ h ?_;have h3:¬0=d:=fun e=>h1.2.2 e.symm
     simpa [h3] using hz
theorem ZeK:∀{f:Nat} {l:Str} {out x:List Str},l.length<f->Xd l out=.ok x->out.any (fun w=>w.contains 0)=false->out.length<=32->x.any (fun w=>w.contains 0)=false/\x.length<=32
 |0,_,_,_,h,_,_,_=>absurd h o_
 |f+1,l,out,x,hf,h,hz,hl=>by
  cases hd:l.dropWhile Zn with
  |nil=>rw [Zbl hd] at h;cases h;exact ⟨hz,hl⟩
  |cons c r=>
   by_cases h32:out.length=32
   ·rw [ZaM hd h32] at h;cases h
   ·cases hn:Next (c::r) [] with
    |error e=>rw [Zbv hd h32 hn] at h;cases h
    |ok y=>
     obtain ⟨w,r'⟩:=y;rw [Jq hd h32 hn] at h;have hdl:=X5 l;rw [hd] at hdl;have h1:r'.length<=r.length:=QS (Qh hd) hn;have hw:=Zea (f:=(c::r).length+1) o_ hn rfl;exact ZeK (f:=f) n24_ h (by rw [List.any_append,hz];simp only [List.any_cons,hw];rfl) n2_
theorem Zly{s:Str}{l:List Str}(h:split s=.ok l):split (join l)=.ok l/\l.length<=32:=by
 rw [Zdi] at h;obtain ⟨h1,h2⟩:=ZeK (f:=s.length+1) o_ h rfl s_;exact ⟨ZlJ l h1 h2,h2⟩
theorem ZeZ{q:UInt8}:∀{f:Nat} {l bs bs' r':Str},l.length<f->Quoted q l bs=.ok (bs',r')->bs'.length+r'.length<=bs.length+l.length
 |0,_,_,_,_,h,_=>absurd h o_
 |f+1,[],_,_,_,_,h=>n135_
 |f+1,c::r,bs,bs',r',hf,h=>by
  by_cases hc:c=q
  ·subst hc;rw [Qq] at h;cases h;simp
  ·cases ho:YH (c::r) with
   |error e=>rw [Zat hc ho] at h;cases h
   |ok x=>
    obtain ⟨d,n⟩:=x;rw [Jl hc ho] at h;have h1:=Qo ho
    have:=ZeZ (f:=f) n24_ h
    simp at *;omega
theorem Zem:∀{f:Nat} {l bs w r':Str},l.length<f->Next l bs=.ok (w,r')->w.length+r'.length<=bs.length+l.length
 |0,_,_,_,_,h,_=>absurd h o_
 |f+1,[],_,_,_,_,h=>by cases h;simp
 |f+1,c::r,bs,w,r',hf,h=>by
  cases hb:Zn c with
  |true=>rw [Jj _ _ hb] at h;cases h;simp
  |false=>
   cases hq:ZC c with
   |true=>
    cases hQ:Quoted c r bs with
    |error e=>rw [Q8 hb hq hQ] at h;cases h
    |ok x=>
     obtain ⟨bs',r2⟩:=x;rw [XV hb hq hQ] at h;have h2:r2.length<r.length:=Y9 hQ;have h3:=ZeZ (f:=r.length+1) o_ hQ
     have:=Zem (f:=f) n24_ h
     simp at *;omega
   |false=>
    cases ho:YH (c::r) with
    |error e=>rw [QY hb hq ho] at h;cases h
    |ok x=>
     obtain ⟨d,n⟩:=x;rw [Qg hb hq ho] at h;have h1:=Qo ho
     have:=Zem (f:=f) n24_ h
     simp at *;omega
theorem Zfc{m:Nat}:∀{f:Nat} {l:Str} {out x:List Str},l.length<f->l.length<=m->Xd l out=.ok x->(∀w∈out,w.length<=m)->∀w∈x,w.length<=m
 |0,_,_,_,h,_,_,_=>absurd h o_
 |f+1,l,out,x,hf,hm,h,ho=>by
  cases hd:l.dropWhile Zn with
  |nil=>rw [Zbl hd] at h;cases h;exact ho
  |cons c r=>
   by_cases h32:out.length=32
   ·rw [ZaM hd h32] at h;cases h
   ·cases hn:Next (c::r) [] with
    |error e=>rw [Zbv hd h32 hn] at h;cases h
    |ok y=>
     obtain ⟨w,r'⟩:=y;rw [Jq hd h32 hn] at h;have hdl:=X5 l;rw [hd] at hdl;have h1:r'.length<=r.length:=QS (Qh hd) hn;have h2:=Zem (f:=(c::r).length+1) o_ hn;refine Zfc (f:=f) n24_ n24_ h ?_;intro z hz;rcases List.mem_append.1 hz with hz|hz
     ·exact ho z hz
     ·simp at hz;subst hz;simp at *;omega
theorem ZlP{s:Str}{l:List Str}(h:split s=.ok l):∀w∈l,w.length<=s.length:=by
 rw [Zdi] at h;exact Zfc (f:=s.length+1) o_ l_ h s_
def Xw(s:Str):Option (Bool×List Str):=
 match split (Go.Lib.trimPrefix s [45]) with
 |.ok (x::t)=>if x=[] then none else some (Go.Lib.hasPrefix s [45],x::t)
 |_=>none
def Zfn(c:UInt8):Bool:=([Yp,isDigit,fun c=>([95]:Str).contains c]:List (UInt8->Bool)).any fun p=>p c
def Zgj(s:Str):Bool:=(!s.isEmpty&&decide (s.length<=60)&&s.all Zfn)&&!(isDigit (s.headD 0))
def Qm:List Str->Option (List (Str×Str))
 |[]=>some []
 |w::t=>if (Go.Lib.cut w [61]).2.2=true/\Zgj (Go.Lib.cut w [61]).1=true then (Qm t).map fun r=>((Go.Lib.cut w [61]).1,(Go.Lib.cut w [61]).2.1)::r else none
def ZaW(s:Str):List (Str×Str)×Bool:=
 match split s with
 |.error _=>([],false)
 |.ok l=>match Qm l with
  |none=>([],false)
  |some ps=>(ps,decide (0<ps.length))
theorem Zcg(s:Str)(l:List Str)(h:split s=.ok l):l.length<=32/\∀x∈l,x.length<=s.length:=⟨(Zly h).2,ZlP h⟩
set_option maxRecDepth 100000
theorem Zfr(c:UInt8)(w:World) :
  Calls prog 225 #[.int .u8 c.toNat] w fun e w'=>e=.returned (.bool (Yj c))/\w=w':=by
 go_enter func225,ntmps225;go_wp2;all_goals
  go_ret;refine ⟨Y3 ?_,rfl⟩;rw [J6,Bool.eq_iff_iff];simp;omega
def Z8:Nat->List Str->Option Str->UInt8->Str->Except Nat (List Str)
 |0,_,_,_,_=>.error 0
 |_+1,out,cur,q,[]=>if q=0 then .ok (out++cur.toList) else .error 13
 |f+1,out,cur,q,c::r=>
  if Yj c then .error 1
  else if Zn c&&q==0 then Z8 f (out++cur.toList) none q r
  else if cur.isNone&&out.length==32 then .error (if c==92&&(YR r).isNone then 13 else 2)
  else if c==92 then
   match YR r with
   |none=>.error 13
   |some (d,n)=>Z8 f out (some (cur.getD []++[d])) q (r.drop n)
  else if q==0&&ZC c then Z8 f out (some (cur.getD [])) c r
  else if q !=0&&c==q then Z8 f out (some (cur.getD [])) 0 r
  else Z8 f out (some (cur.getD []++[c])) q r
theorem J5:∀(f g:Nat) (out:List Str) (cur:Option Str) (q:UInt8) (l:Str),l.length<f->l.length<g->Z8 f out cur q l=Z8 g out cur q l
 |0,_,_,_,_,_,h,_=>absurd h o_
 |_+1,0,_,_,_,_,_,h=>absurd h o_
 |f+1,g+1,out,cur,q,[],_,_=>rfl
 |f+1,g+1,out,cur,q,c::r,hf,hg=>by
  have h1:r.length<f:=by simp at hf;omega
  have h2:r.length<g:=by simp at hg;omega
  simp only [Z8];rw [J5 f g _ none q r h1 h2,J5 f g _ (some (cur.getD [])) c r h1 h2,J5 f g _ (some (cur.getD [])) 0 r h1 h2,J5 f g _ (some (cur.getD []++[c])) q r h1 h2];split
  ·rfl
  ·split
   ·rfl
   ·split
    ·rfl
    ·split
     ·split
      ·rfl
      ·rename_i d n _
       exact J5 f g _ _ q _ n2_ n2_
     ·rfl
def Ref(out:List Str)(cur:Option Str)(q:UInt8)(l:Str):Except Nat (List Str):=Z8 (l.length+1) out cur q l
theorem Zfw(out:List Str)(cur:Option Str)(q:UInt8):Ref out cur q []=if q=0 then .ok (out++cur.toList) else .error 13:=rfl
theorem JF(out:List Str)(cur:Option Str)(q c:UInt8)(r:Str):Ref out cur q (c::r) =
  if Yj c then .error 1
  else if Zn c&&q==0 then Ref (out++cur.toList) none q r
  else if cur.isNone&&out.length==32 then .error (if c==92&&(YR r).isNone then 13 else 2)
  else if c==92 then
   match YR r with
   |none=>.error 13
   |some (d,n)=>Ref out (some (cur.getD []++[d])) q (r.drop n)
  else if q==0&&ZC c then Ref out (some (cur.getD [])) c r
  else if q !=0&&c==q then Ref out (some (cur.getD [])) 0 r
  else Ref out (some (cur.getD []++[c])) q r:=by
 simp only [Ref,Z8,List.length_cons];split
 ·rfl
 ·split
  ·rfl
  ·split
   ·rfl
   ·split
    ·split
     ·rfl
     ·exact J5 _ _ _ _ _ _ n2_ s_
    ·rfl
theorem Zay(c:UInt8)(h:ZC c=true):Yj c=false/\c≠92/\Zn c=false/\c≠0:=by
 have:=QR (p:=fun c=>!ZC c||(!Yj c&&c !=92&&!Zn c&&c !=0)) n12_ c
 rw [h] at this;simpa [and_assoc] using this
theorem ZgO(c:UInt8)(h:Zn c=true):Yj c=false/\c≠92/\ZC c=false:=by
 have:=QR (p:=fun c=>!Zn c||(!Yj c&&c !=92&&!ZC c)) n12_ c
 rw [h] at this;simpa [and_assoc] using this
theorem Zdf(out:List Str){q:UInt8}(hq:ZC q=true):∀{f:Nat} {l:Str} (w:Str),l.length<f->
  Ref out (some w) q l=match Quoted q l w with
   |.error e=>.error e
   |.ok (w',r)=>Ref out (some w') 0 r
 |0,_,_,h=>absurd h o_
 |f+1,[],w,_=>by
  rw [Zfw,if_neg (Zay q hq).2.2.2,Zlh]
 |f+1,c::r,w,hf=>by
  have hq0:=(Zay q hq).2.2.2;have hq0':(q==0)=false:=by simpa using hq0
  rw [JF];simp only [hq0',Bool.and_false,Bool.false_and,Option.isNone_some,Bool.false_eq_true,if_false,Option.getD_some];by_cases hc:c=q
  ·subst hc
   obtain ⟨h1,h2,_,_⟩:=Zay c hq;have h92:(c==92)=false:=n80_;rw [Qq];simp [h1,h92,hq0]
  ·have hcq:(c==q)=false:=n79_
   cases hb:Yj c with
   |true=>
    have ho:YH (c::r)=.error 1:=by simp [YH,hb]
    rw [Zat hc ho];simp
   |false=>
    by_cases h92:c=92
    ·subst h92
     cases he:YR r with
     |none=>
      have ho:YH (92::r)=.error 13:=by simp [YH,he,hb]
      rw [Zat hc ho];simp
     |some x=>
      obtain ⟨d,n⟩:=x;have ho:YH (92::r)=.ok (d,n+1):=by simp [YH,he,hb]
      have hle:=(JS he).2.1;rw [Jl hc ho];simp only [Bool.false_eq_true,if_false,beq_self_eq_true,if_true,List.drop_succ_cons];exact Zdf out hq (f:=f) _ n24_
    ·have ho:YH (c::r)=.ok (c,1):=ZcZ r hb h92
     have h92':(c==92)=false:=by simpa using h92
     rw [Jl hc ho];simp only [Bool.false_eq_true,if_false,h92',hcq,Bool.and_false,List.drop_succ_cons,List.drop_zero];exact Zdf out hq (f:=f) _ n24_
theorem Zdv(out:List Str):∀{f:Nat} {l:Str} (w:Str),l.length<f->
  Ref out (some w) 0 l=match Next l w with
   |.error e=>.error e
   |.ok (w',r)=>Ref (out++[w']) none 0 r
 |0,_,_,h=>absurd h o_
 |f+1,[],w,_=>by rw [Zfw,Zgl];simp [Zfw]
 |f+1,c::r,w,hf=>by
  cases hb:Zn c with
  |true=>
   obtain ⟨h1,h2,h3⟩:=ZgO c hb;rw [Jj _ _ hb];simp only [JF,h1,hb];simp
  |false=>
   cases hq:ZC c with
   |true=>
    obtain ⟨h1,h2,_,_⟩:=Zay c hq;have h92:(c==92)=false:=n80_;rw [JF];simp only [h1,hb,h92,hq,Bool.false_and,Option.isNone_some,Bool.false_eq_true,if_false,Option.getD_some,beq_self_eq_true,Bool.and_self,if_true];rw [Zdf out hq (f:=r.length+1) w o_];cases hQ:Quoted c r w with
    |error e=>rw [Q8 hb hq hQ]
    |ok x=>
     obtain ⟨w',r'⟩:=x;have h2:r'.length<r.length:=Y9 hQ;rw [XV hb hq hQ];exact Zdv out (f:=f) w' n24_
   |false=>
    rw [JF];simp only [hb,hq,Bool.false_and,Option.isNone_some,Bool.false_eq_true,if_false,Option.getD_some,Bool.and_false,bne_self_eq_false];cases hbad:Yj c with
    |true=>
     have ho:YH (c::r)=.error 1:=by simp [YH,hbad]
     rw [QY hb hq ho];simp
    |false=>
     by_cases h92:c=92
     ·subst h92
      cases he:YR r with
      |none=>
       have ho:YH (92::r)=.error 13:=by simp [YH,he,hbad]
       rw [QY hb hq ho];simp
      |some x=>
       obtain ⟨d,n⟩:=x;have ho:YH (92::r)=.ok (d,n+1):=by simp [YH,he,hbad]
       have hle:=(JS he).2.1;rw [Qg hb hq ho];simp only [Bool.false_eq_true,if_false,beq_self_eq_true,if_true,List.drop_succ_cons];exact Zdv out (f:=f) _ n24_
     ·have ho:YH (c::r)=.ok (c,1):=ZcZ r hbad h92
      have h92':(c==92)=false:=by simpa using h92
      rw [Qg hb hq ho];simp only [Bool.false_eq_true,if_false,h92',List.drop_succ_cons,List.drop_zero];exact Zdv out (f:=f) _ n24_
theorem Zei:∀{f:Nat} {l:Str} (out:List Str),l.length<f->out.length<=32->Ref out none 0 l=Xd l out
 |0,_,_,h,_=>absurd h o_
 |f+1,[],out,_,_=>by rw [Zfw,Zbl rfl];simp
 |f+1,c::r,out,hf,ho=>by
  cases hb:Zn c with
  |true=>
   obtain ⟨h1,h2,h3⟩:=ZgO c hb;have e:Xd (c::r) out=Xd r out:=by
    rw [<-ZcB (c::r),List.dropWhile_cons,if_pos hb,ZcB]
   rw [e,JF];simp only [h1,hb];simp only [Bool.false_eq_true,if_false,beq_self_eq_true,Bool.and_self,if_true,Option.toList_none,List.append_nil];exact Zei (f:=f) out n24_ ho
  |false=>
   have hd:(c::r).dropWhile Zn=c::r:=by rw [List.dropWhile_cons,if_neg (by simp [hb])]
   by_cases h32:out.length=32
   ·rw [ZaM hd h32,JF]
    simp only [hb,h32,Bool.false_and,Option.isNone_none,beq_self_eq_true,Bool.and_self,if_true,Bool.false_eq_true,if_false];unfold Q5;cases hq:ZC c with
    |true=>
     obtain ⟨h1,h2,_,_⟩:=Zay c hq;simp [h1,h2,hq]
    |false=>
     cases hbad:Yj c with
     |true=>simp [YH,hbad,hq]
     |false=>
      by_cases h92:c=92
      ·subst h92
       cases he:YR r with
       |none=>simp [YH,he,hbad,hq]
       |some x=>simp [YH,he,hbad,hq]
      ·simp [YH,hbad,h92,hq]
   ·have e:Ref out none 0 (c::r)=Ref out (some []) 0 (c::r):=by
     rw [JF,JF];have h32':(out.length==32)=false:=by simpa using h32
     simp only [hb,h32',Bool.false_and,Bool.and_false,Option.isNone_some,Option.getD_none,Option.getD_some,Bool.false_eq_true,if_false]
    rw [e,Zdv out (f:=(c::r).length+1) [] o_];cases hn:Next (c::r) [] with
    |error e=>rw [Zbv hd h32 hn]
    |ok x=>
     obtain ⟨w,r'⟩:=x;have h1:r'.length<=r.length:=QS hb hn;rw [Jq hd h32 hn];exact Zei (f:=f) (out++[w]) n24_ n2_
theorem ZhN(l:Str):Z8 (l.length+1) [] none 0 l=split l:=by
 rw [Zdi];exact Zei (f:=l.length+1) [] o_ s_
end Go.Proofs.YtgoooebfhdbbkaaGreatDoor
