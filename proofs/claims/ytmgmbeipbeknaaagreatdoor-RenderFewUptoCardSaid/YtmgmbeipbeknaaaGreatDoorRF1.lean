import Derived.Lib.IndexMore
import Derived.Lib.CutLaws
import Derived.Test.YtmgmbeipbeknaaaGreatDoorRF0
namespace Go.Proofs.YtmgmbeipbeknaaaGreatDoor
set_option linter.unusedVariables false
set_option linter.unusedSimpArgs false
set_option maxHeartbeats 16000000
abbrev Str:=List UInt8
def hexOf(c:UInt8):Option Nat:=
 if 48<=c/\c<=57 then some (c.toNat-48) else if 97<=c/\c<=102 then some (c.toNat-87) else none
def Qd:Str->Option UInt8
 |a::b::_=>match hexOf a,hexOf b with
  |some x,some y=>some (UInt8.ofNat (16*x+y))
  |_,_=>none
 |_=>none
def QU(c:UInt8):Bool:=(c<32&&c !=9)||c==127
def Zm(c:UInt8):Bool:=c==32||c==9
def Yr(c:UInt8):Bool:=c==39||c==34
def Qw:Str->Option (UInt8×Nat)
 |c::r=>
  if c==92||c==34||c==39 then some (c,1)
  else if c==110 then some (10,1)
  else if c==116 then some (9,1)
  else if c==115 then some (32,1)
  else if c==120 then
   match Qd r with
   |some d=>if d=0 then none else some (d,3)
   |none=>none
  else none
 |[]=>none
def Xc:Str->Except Nat (UInt8×Nat)
 |[]=>.error 0
 |c::r=>
  if QU c then .error 1
  else if c=92 then
   match Qw r with
   |some (d,n)=>.ok (d,n+1)
   |none=>.error 13
  else .ok (c,1)
def ZX(q:UInt8):Nat->Str->Str->Except Nat (Str×Str)
 |0,_,_=>.error 0
 |_+1,[],_=>.error 13
 |f+1,c::r,bs=>
  if c=q then .ok (bs,r)
  else match Xc (c::r) with
   |.error e=>.error e
   |.ok (d,n)=>ZX q f ((c::r).drop n) (bs++[d])
def Yh:Nat->Str->Str->Except Nat (Str×Str)
 |0,_,_=>.error 0
 |_+1,[],bs=>.ok (bs,[])
 |f+1,c::r,bs=>
  if Zm c then .ok (bs,c::r)
  else if Yr c then
   match ZX c (r.length+1) r bs with
   |.error e=>.error e
   |.ok (bs',r')=>Yh f r' bs'
  else match Xc (c::r) with
   |.error e=>.error e
   |.ok (d,n)=>Yh f ((c::r).drop n) (bs++[d])
def QN(l:Str):Nat:=
 match l with
 |[]=>2
 |c::r=>if Yr c then 2 else match Xc (c::r) with
  |.error e=>e
  |.ok _=>2
def Yw:Nat->Str->List Str->Except Nat (List Str)
 |0,_,_=>.error 0
 |f+1,l,out=>
  match l.dropWhile Zm with
  |[]=>.ok out
  |c::r=>
   if out.length=32 then .error (QN (c::r))
   else match Yh (r.length+2) (c::r) [] with
    |.error e=>.error e
    |.ok (w,r')=>Yw f r' (out++[w])
def split(l:Str):Except Nat (List Str):=Yw (l.length+1) l []
def Za5(w:Str):Bool:=
 match w with
 |[]=>false
 |c::_=>c !=45&&w.all fun c=>32<c&&c<127&&c !=39&&c !=34&&c !=92
def hexDigit(n:Nat):UInt8:=if n<10 then UInt8.ofNat (48+n) else UInt8.ofNat (87+n)
def XH(c:UInt8):Str:=[hexDigit (c.toNat / 16),hexDigit (c.toNat % 16)]
def ZG(c:UInt8):Str:=
 if c==34||c==92 then [92,c] else if 32<=c&&c<127 then [c] else 92::120::XH c
def Zbn(w:Str):Str:=34::(w.flatMap ZG++[34])
def YG(w:Str):Str:=if Za5 w then w else Zbn w
def Yq(sep:Str):List Str->Str
 |[]=>[]
 |[a]=>a
 |a::b::r=>a++sep++Yq sep (b::r)
def join(l:List Str):Str:=
 if 32<l.length then [] else if l.any (fun w=>w.contains 0) then [] else Yq [32] (l.map YG)
theorem Jk{p:UInt8->Bool}(h:(List.range 256).all (fun n=>p (UInt8.ofNat n))=true):∀c,p c=true:=by
 intro c;have h':=List.all_eq_true.1 h c.toNat (List.mem_range.2 (UInt8.toNat_lt c))
 rwa [UInt8.ofNat_toNat] at h'
def Yd(c:UInt8):Bool:=(97<=c&&c<=122)||(65<=c&&c<=90)
def isDigit(c:UInt8):Bool:=48<=c&&c<=57
def trimS(l:Str):Str:=(l.reverse.dropWhile Zm).reverse.dropWhile Zm
def ZeU(l:Str):Bool:=l.all fun c=>!QU c
def ZbB(l:Str):Bool:=!l.isEmpty&&decide (l.length<=20)&&l.all Yd
def Zgx(l:Str):Bool:=!l.isEmpty&&decide (l.length<=40)&&l.all fun c=>Yd c||isDigit c
def Zfx(s:Str):Bool:=s.getLast?==some 92
structure Ln where
 sec:Str
 key:Str
 val:Str
 at_:Int
deriving DecidableEq
def Jc(l:Ln):Bool:=ZbB l.sec&&Zgx l.key&&ZeU l.val&&(trimS l.val==l.val)&&!Zfx l.val&&decide (l.key.length+1+l.val.length<=400)
def Zeo(sec:Str):Str:=91::sec++[93,10]
def Zep(l:Ln):Str:=l.key++61::l.val++[10]
def YQ:Option Str->List Ln->Str
 |_,[]=>[]
 |none,l::r=>Zeo l.sec++Zep l++YQ (some l.sec) r
 |some s,l::r=>(if l.sec=s then [] else 10::Zeo l.sec)++Zep l++YQ (some l.sec) r
def Q5(l:List Ln):Str:=YQ none l
def Zht(l:List Ln):Bool:=l.all Jc&&decide ((Q5 l).length<=20000)
def Zh2(l:List Ln):Str:=if Zht l then Q5 l else []
def ZrA(a b:Ln):Prop:=a.sec=b.sec/\a.key=b.key/\a.val=b.val
theorem m13_{p:Prop}(h:p:=by
  split at h
  ·cases h
  ·rename_i d n ho
   have h1:=XL ho
   have:=ZaC h
   simp at *;omega):p:=h
theorem Zrl{r:Str}{d:UInt8}{n:Nat}(h:Qw r=some (d,n)):1<=n/\n<=r.length/\d≠0:=by
 match r with
 |[]=>simp [Qw] at h
 |a::r' =>
  simp only [Qw] at h;split at h
  ·rename_i ha;cases h
   refine ⟨o_,s_,?_⟩;intro e;subst e;simp at ha
  ·split at h
   ·cases h;simp
   ·split at h
    ·cases h;simp
    ·split at h
     ·cases h;simp
     ·split at h
      ·split at h
       ·rename_i d'' h2
        split at h
        ·cases h
        ·rename_i hd
         cases h
         match r',h2 with
         |_::_::_,_=>exact ⟨o_,s_,hd⟩
         |[],h2=>simp [Qd] at h2
         |[_],h2=>simp [Qd] at h2
       ·cases h
      ·cases h
theorem ZlT{r:Str}{d:UInt8}{n:Nat}(t:Str)(h:Qw r=some (d,n)):Qw (r++t)=some (d,n):=by
 match r with
 |[]=>simp [Qw] at h
 |a::r' =>
  simp only [Qw,List.cons_append] at h⊢;split
  ·rename_i ha;rw [if_pos ha] at h;exact h
  ·rename_i ha;rw [if_neg ha] at h
   split
   ·rename_i hb;rw [if_pos hb] at h;exact h
   ·rename_i hb;rw [if_neg hb] at h
    split
    ·rename_i hc;rw [if_pos hc] at h;exact h
    ·rename_i hc;rw [if_neg hc] at h
     split
     ·rename_i hd;rw [if_pos hd] at h;exact h
     ·rename_i hd;rw [if_neg hd] at h
      split
      ·rename_i he;rw [if_pos he] at h
       match r',h with
       |x::y::r2,h=>exact h
       |[],h=>simp [Qd] at h
       |[x],h=>simp [Qd] at h
      ·rename_i he;rw [if_neg he] at h;cases h
theorem XL{l:Str}{d:UInt8}{n:Nat}(h:Xc l=.ok (d,n)):1<=n/\n<=l.length/\d≠0:=by
 match l with
 |[]=>simp [Xc] at h
 |c::r=>
  simp only [Xc] at h;split at h
  ·cases h
  ·rename_i hb
   split at h
   ·split at h
    ·rename_i he
     cases h
     have:=Zrl he
     exact ⟨o_,n6_,this.2.2⟩
    ·cases h
   ·cases h
    refine ⟨o_,s_,?_⟩;intro e;subst e;simp [QU] at hb
theorem Zcx{l:Str}{d:UInt8}{n:Nat}(t:Str)(h:Xc l=.ok (d,n)):Xc (l++t)=.ok (d,n):=by
 match l with
 |[]=>simp [Xc] at h
 |c::r=>
  simp only [Xc,List.cons_append] at h⊢;split
  ·rename_i hb;rw [if_pos hb] at h;cases h
  ·rename_i hb;rw [if_neg hb] at h
   split
   ·rename_i h92;rw [if_pos h92] at h
    split at h
    ·rename_i he
     rw [ZlT t he];exact h
    ·cases h
   ·rename_i h92;rw [if_neg h92] at h;exact h
def Quoted(q:UInt8)(l bs:Str):Except Nat (Str×Str):=ZX q (l.length+1) l bs
def Next(l bs:Str):Except Nat (Str×Str):=Yh (l.length+1) l bs
def YV(l:Str)(out:List Str):Except Nat (List Str):=Yw (l.length+1) l out
theorem Zem(q:UInt8):∀(f g:Nat) (l bs:Str),l.length<f->l.length<g->ZX q f l bs=ZX q g l bs
 |0,_,_,_,h,_=>absurd h o_
 |_+1,0,_,_,_,h=>absurd h o_
 |f+1,g+1,[],bs,_,_=>rfl
 |f+1,g+1,c::r,bs,hf,hg=>by
  simp only [ZX];split
  ·rfl
  ·split
   ·rfl
   ·rename_i d n ho
    have:=XL ho
    exact Zem q f g _ _ n12_ n12_
theorem Qu(q:UInt8)(r bs:Str):Quoted q (q::r) bs=.ok (bs,r):=by
 simp [Quoted,ZX]
theorem ZcF{q c:UInt8}{r bs:Str}{e:Nat}(hc:c≠q)(ho:Xc (c::r)=.error e):Quoted q (c::r) bs=.error e:=by
 simp [Quoted,ZX,hc,ho]
theorem Zaj{q c:UInt8}{r bs:Str}{d:UInt8}{n:Nat}(hc:c≠q)(ho:Xc (c::r)=.ok (d,n)):Quoted q (c::r) bs=Quoted q ((c::r).drop n) (bs++[d]):=by
 have:=XL ho
 simp only [Quoted,ZX,hc,if_false,ho];exact Zem q _ _ _ _ n12_ (by simp at *)
theorem YP{q:UInt8}{bs' r':Str}:∀{f:Nat} {l bs:Str},ZX q f l bs=.ok (bs',r')->r'.length<l.length
 |0,_,_,h=>n61_
 |f+1,[],_,h=>n61_
 |f+1,a::r,bs,h=>by
  simp only [ZX] at h;split at h
  ·cases h;simp
  ·split at h
   ·cases h
   ·rename_i d n ho
    have h1:=XL ho
    have:=YP h
    simp at *;omega
theorem ZbK:∀(f g:Nat) (l bs:Str),l.length<f->l.length<g->Yh f l bs=Yh g l bs
 |0,_,_,_,h,_=>absurd h o_
 |_+1,0,_,_,_,h=>absurd h o_
 |f+1,g+1,[],bs,_,_=>rfl
 |f+1,g+1,c::r,bs,hf,hg=>by
  simp only [Yh];split
  ·rfl
  ·split
   ·split
    ·rfl
    ·rename_i hq
     have:=YP hq
     exact ZbK f g _ _ n12_ n12_
   ·split
    ·rfl
    ·rename_i d n ho
     have:=XL ho
     exact ZbK f g _ _ n12_ n12_
theorem ZjL(bs:Str):Next [] bs=.ok (bs,[]):=rfl
theorem Jt{c:UInt8}(r bs:Str)(h:Zm c=true):Next (c::r) bs=.ok (bs,c::r):=by simp [Next,Yh,h]
theorem JC{c:UInt8}{r bs:Str}{e:Nat}(h:Zm c=false)(hq:Yr c=true)(hQ:Quoted c r bs=.error e):Next (c::r) bs=.error e:=by
 unfold Quoted at hQ;simp [Next,Yh,h,hq,hQ]
theorem XW{c:UInt8}{r bs bs' r':Str}(h:Zm c=false)(hq:Yr c=true)(hQ:Quoted c r bs=.ok (bs',r')):Next (c::r) bs=Next r' bs':=by
 have:=YP hQ
 unfold Quoted at hQ;simp only [Next,Yh,h,hq,hQ,Bool.false_eq_true,if_false,if_true];exact ZbK _ _ _ _ n12_ o_
theorem ZaH{c:UInt8}{r bs:Str}{e:Nat}(h:Zm c=false)(hq:Yr c=false)(ho:Xc (c::r)=.error e):Next (c::r) bs=.error e:=by
 simp [Next,Yh,h,hq,ho]
theorem Q0{c:UInt8}{r bs:Str}{d:UInt8}{n:Nat}(h:Zm c=false)(hq:Yr c=false)(ho:Xc (c::r)=.ok (d,n)):Next (c::r) bs=Next ((c::r).drop n) (bs++[d]):=by
 have:=XL ho
 simp only [Next,Yh,h,hq,ho,Bool.false_eq_true,if_false];exact ZbK _ _ _ _ n12_ (by simp at *)
theorem ZaC{x r:Str}:∀{f:Nat} {l bs:Str},Yh f l bs=.ok (x,r)->r.length<=l.length
 |0,_,_,h=>n61_
 |f+1,[],_,h=>by cases h;simp
 |f+1,a::l,bs,h=>by
  simp only [Yh] at h;split at h
  ·cases h;simp
  ·split at h
   ·split at h
    ·cases h
    ·rename_i hq
     have h1:=YP hq;have h2:=ZaC h;simp at *;omega
   ·exact m13_
theorem Qh{x r:Str}{f:Nat}{a:UInt8}{l bs:Str}(ha:Zm a=false)(h:Yh f (a::l) bs=.ok (x,r)):r.length<=l.length:=by
 cases f with
 |zero=>cases h
 |succ f=>
  simp only [Yh] at h;split at h
  ·rename_i h';rw [ha] at h';cases h'
  ·split at h
   ·split at h
    ·cases h
    ·rename_i hq
     have h1:=YP hq;have h2:=ZaC h;omega
   ·exact m13_
theorem Y3{l r:Str}{c:UInt8}(h:l.dropWhile Zm=c::r):Zm c=false:=by
 induction l with
 |nil=>cases h
 |cons a l ih=>
  rw [List.dropWhile_cons] at h;split at h
  ·exact ih h
  ·rename_i ha;cases h;simpa using ha
theorem YW(l:Str):(l.dropWhile Zm).length<=l.length:=(List.dropWhile_sublist Zm).length_le
theorem Zco:∀(f g:Nat) (l:Str) (out:List Str),l.length<f->l.length<g->Yw f l out=Yw g l out
 |0,_,_,_,h,_=>absurd h o_
 |_+1,0,_,_,_,h=>absurd h o_
 |f+1,g+1,l,out,hf,hg=>by
  have hd:=YW l;simp only [Yw];split
  ·rfl
  ·rename_i c r hcr
   split
   ·rfl
   ·split
    ·rfl
    ·rename_i w r' hn
     have h1:=Qh (Y3 hcr) hn;rw [hcr] at hd;exact Zco f g _ _ n12_ n12_
theorem ZaF{l:Str}{out:List Str}(h:l.dropWhile Zm=[]):YV l out=.ok out:=by simp [YV,Yw,h]
theorem JV{l:Str}{out:List Str}{c:UInt8}{r:Str}(h:l.dropWhile Zm=c::r)(h32:out.length=32):YV l out=.error (QN (c::r)):=by simp [YV,Yw,h,h32]
theorem ZaL{l:Str}{out:List Str}{c:UInt8}{r:Str}{e:Nat}(h:l.dropWhile Zm=c::r)(h32:out.length≠32)(hn:Next (c::r) []=.error e):YV l out=.error e:=by
 unfold Next at hn;simp only [List.length_cons] at hn;simp [YV,Yw,h,h32,hn]
theorem QB{l:Str}{out:List Str}{c:UInt8}{r w r':Str}(h:l.dropWhile Zm=c::r)(h32:out.length≠32)(hn:Next (c::r) []=.ok (w,r')):YV l out=YV r' (out++[w]):=by
 have h1:=Qh (Y3 h) hn;have hd:=YW l;rw [h] at hd;unfold Next at hn;simp only [List.length_cons] at hn;simp only [YV,Yw,h,h32,if_false,hn];exact Zco l.length (r'.length+1) r' _ (by simp at hd;omega) o_
theorem ZgT(l:Str)(out:List Str):YV (l.dropWhile Zm) out=YV l out:=by
 have e:(l.dropWhile Zm).dropWhile Zm=l.dropWhile Zm:=by
  induction l with
  |nil=>rfl
  |cons a l ih=>
   by_cases h:Zm a=true
   ·rw [List.dropWhile_cons,if_pos h,ih]
   ·rw [List.dropWhile_cons,if_neg h,List.dropWhile_cons,if_neg h]
 have hd:=YW l;unfold YV;rw [Zco ((l.dropWhile Zm).length+1) (l.length+1) _ _ o_ o_];simp only [Yw,e]
theorem Zb5{q:UInt8}(t:Str):∀{f:Nat} {l bs bs' r':Str},l.length<f->Quoted q l bs=.ok (bs',r')->Quoted q (l++t) bs=.ok (bs',r'++t)
 |0,_,_,_,_,h,_=>absurd h o_
 |f+1,[],_,_,_,_,h=>n61_
 |f+1,c::r,bs,bs',r',hf,h=>by
  by_cases hc:c=q
  ·subst hc
   rw [Qu] at h;cases h
   rw [List.cons_append,Qu]
  ·cases ho:Xc (c::r) with
   |error e=>rw [ZcF hc ho] at h;cases h
   |ok x=>
    obtain ⟨d,n⟩:=x;rw [Zaj hc ho] at h;have h1:=XL ho;have ho':=Zcx t ho;rw [List.cons_append] at ho'⊢;rw [Zaj hc ho'];have e:(c::(r++t)).drop n=(c::r).drop n++t:=by
     rw [<-List.cons_append,List.drop_append_of_le_length h1.2.1]
    rw [e];exact Zb5 t (f:=f) n12_ h
theorem Zbe(t:Str):∀{f:Nat} {l bs w r':Str},l.length<f->Next l bs=.ok (w,r')->Next (l++32::t) bs=.ok (w,r'++32::t)
 |0,_,_,_,_,h,_=>absurd h o_
 |f+1,[],bs,_,_,_,h=>by
  cases h
  rw [List.nil_append,Jt _ _ rfl];try rfl
 |f+1,c::r,bs,w,r',hf,h=>by
  cases hb:Zm c with
  |true=>
   rw [Jt _ _ hb] at h;cases h
   rw [List.cons_append,Jt _ _ hb]
  |false=>
   cases hq:Yr c with
   |true=>
    cases hQ:Quoted c r bs with
    |error e=>rw [JC hb hq hQ] at h;cases h
    |ok x=>
     obtain ⟨bs',r2⟩:=x;rw [XW hb hq hQ] at h;have h2:r2.length<r.length:=YP hQ;have hQ':=Zb5 (32::t) (f:=r.length+1) o_ hQ;rw [List.cons_append,XW hb hq hQ'];exact Zbe t (f:=f) n12_ h
   |false=>
    cases ho:Xc (c::r) with
    |error e=>rw [ZaH hb hq ho] at h;cases h
    |ok x=>
     obtain ⟨d,n⟩:=x;rw [Q0 hb hq ho] at h;have h1:=XL ho;have ho':=Zcx (32::t) ho;rw [List.cons_append] at ho'⊢;rw [Q0 hb hq ho'];have e:(c::(r++32::t)).drop n=(c::r).drop n++32::t:=by
      rw [<-List.cons_append,List.drop_append_of_le_length h1.2.1]
     rw [e];exact Zbe t (f:=f) n12_ h
theorem dropWhile_append{l t:Str}{c:UInt8}{r:Str}(h:l.dropWhile Zm=c::r):(l++t).dropWhile Zm=c::(r++t):=by
 induction l with
 |nil=>cases h
 |cons a l ih=>
  rw [List.dropWhile_cons] at h;rw [List.cons_append,List.dropWhile_cons];split
  ·rename_i ha;rw [if_pos ha] at h;exact ih h
  ·rename_i ha;rw [if_neg ha] at h;cases h;rfl
theorem ZbA{l t:Str}(h:l.dropWhile Zm=[]):(l++32::t).dropWhile Zm=t.dropWhile Zm:=by
 induction l with
 |nil=>rfl
 |cons a l ih=>
  rw [List.dropWhile_cons] at h;split at h
  ·rename_i ha
   rw [List.cons_append,List.dropWhile_cons,if_pos ha];exact ih h
  ·cases h
theorem Zcc(t:Str):∀{f:Nat} {l:Str} {out x:List Str},l.length<f->YV l out=.ok x->YV (l++32::t) out=YV t x
 |0,_,_,_,h,_=>absurd h o_
 |f+1,l,out,x,hf,h=>by
  cases hd:l.dropWhile Zm with
  |nil=>
   rw [ZaF hd] at h;cases h
   rw [<-ZgT (l++32::t),ZbA hd,ZgT]
  |cons c r=>
   by_cases h32:out.length=32
   ·rw [JV hd h32] at h;cases h
   ·cases hn:Next (c::r) [] with
    |error e=>rw [ZaL hd h32 hn] at h;cases h
    |ok y=>
     obtain ⟨w,r'⟩:=y;rw [QB hd h32 hn] at h;have hl:=YW l;rw [hd] at hl;have h1:r'.length<=r.length:=Qh (Y3 hd) hn;have hn':=Zbe t (f:=(c::r).length+1) o_ hn;rw [List.cons_append] at hn';rw [QB (dropWhile_append hd) h32 hn'];exact Zcc t (f:=f) n12_ h
theorem Zbv(l:Str):split l=YV l []:=rfl
theorem Zlk{c:UInt8}(r:Str)(hb:QU c=false)(h:c≠92):Xc (c::r)=.ok (c,1):=by simp [Xc,hb,h]
theorem ZgD(c:UInt8)(h:c≠0):Xc (ZG c)=.ok (c,(ZG c).length)/\∃a r,ZG c=a::r/\a≠34:=by
 have:=Jk (p:=fun c=>c==0||((match Xc (ZG c) with|.ok (d,n)=>d==c&&n==(ZG c).length|.error _=>false)&&(match ZG c with|a::_=>a !=34|[]=>false))) n4_ c
 have h0:(c==0)=false:=n27_;rw [h0,Bool.false_or,Bool.and_eq_true] at this;obtain ⟨h1,h2⟩:=this;constructor
 ·split at h1
  ·rename_i d n ho
   rw [Bool.and_eq_true] at h1;rw [eq_of_beq h1.1,eq_of_beq h1.2] at ho;exact ho
  ·cases h1
 ·split at h2
  ·rename_i a r hq
   exact ⟨a,r,hq,n41_⟩
  ·cases h2
theorem ZjP{c:UInt8}(h:c≠0)(t bs:Str):Quoted 34 (ZG c++t) bs=Quoted 34 t (bs++[c]):=by
 obtain ⟨ho,a,r,hq,ha⟩:=ZgD c h;have ho':=Zcx t ho;rw [hq] at ho'⊢;rw [List.cons_append] at ho'⊢;rw [Zaj ha ho'];congr 1;rw [<-List.cons_append,List.drop_left]
theorem Zfm:∀(w t bs:Str),w.contains 0=false->Quoted 34 (w.flatMap ZG++34::t) bs=.ok (bs++w,t)
 |[],t,bs,_=>by rw [List.flatMap_nil,List.nil_append,Qu];simp
 |c::w,t,bs,h=>by
  have hc:c≠0:=by intro e;subst e;simp at h
  have hw:w.contains 0=false:=by
   rw [List.contains_cons,Bool.or_eq_false_iff] at h;exact h.2
  rw [List.flatMap_cons,List.append_assoc,ZjP hc,Zfm w t _ hw];simp
theorem ZfT(c:UInt8)(h:(32<c&&c<127&&c !=39&&c !=34&&c !=92)=true):QU c=false/\c≠92/\Zm c=false/\Yr c=false:=by
 have:=Jk (p:=fun c=>!(32<c&&c<127&&c !=39&&c !=34&&c !=92)||(!QU c&&c !=92&&!Zm c&&!Yr c)) n4_ c
 rw [h] at this;simpa [and_assoc] using this
theorem Zf9:∀(w bs:Str),(∀c∈w,(32<c&&c<127&&c !=39&&c !=34&&c !=92)=true)->Next w bs=.ok (bs++w,[])
 |[],bs,_=>by rw [ZjL];simp
 |c::w,bs,h=>by
  obtain ⟨h1,h2,h3,h4⟩:=ZfT c (h c s_);rw [Q0 h3 h4 (Zlk _ h1 h2),List.drop_succ_cons,List.drop_zero,Zf9 w _ (fun c hc=>h c (by simp [hc]))];simp
theorem ZdP{w:Str}(h0:w.contains 0=false){out:List Str}(h32:out.length≠32):YV (YG w) out=.ok (out++[w]):=by
 unfold YG;split
 ·rename_i hp
  match w,hp with
  |c::r,hp=>
   simp only [Za5,Bool.and_eq_true] at hp;have hall:=List.all_eq_true.1 hp.2;obtain ⟨h1,h2,h3,h4⟩:=ZfT c (hall c s_);rw [QB (c:=c) (r:=r) (w:=c::r) (r':=[]) (by rw [List.dropWhile_cons,if_neg (by simp [h3])]) h32 (Zf9 _ [] (fun c hc=>hall c hc))];rfl
 ·unfold Zbn
  rw [QB (c:=34) (r:=w.flatMap ZG++[34]) (w:=w) (r':=[]) rfl h32 (by
   rw [XW rfl rfl (Zfm w [] [] h0),ZjL];simp)]
  rfl
theorem Zef:∀(l:List Str) (out:List Str),l.any (fun w=>w.contains 0)=false->out.length+l.length<=32->YV (Yq [32] (l.map YG)) out=.ok (out++l)
 |[],out,_,_=>by simp only [List.map_nil,Yq,List.append_nil];rfl
 |[w],out,h,hl=>by
  simp only [List.map_cons,List.map_nil,Yq];exact ZdP n27_ (by simp at hl;omega)
 |a::b::r,out,h,hl=>by
  simp only [List.any_cons,Bool.or_eq_false_iff] at h;simp only [List.map_cons,Yq];rw [List.append_assoc,List.singleton_append,Zcc _ (f:=(YG a).length+1) o_ (ZdP h.1 (by simp at hl;omega))];have ih:=Zef (b::r) (out++[a]) (by simp only [List.any_cons,Bool.or_eq_false_iff];exact h.2) (by simp at hl⊢;omega);simp only [List.map_cons] at ih;rw [ih];simp
theorem ZeQ(l:List Str)(h0:l.any (fun w=>w.contains 0)=false)(hl:l.length<=32):split (join l)=.ok l:=by
 unfold join;rw [if_neg o_,h0,Zbv];simp only [Bool.false_eq_true,if_false];rw [Zef l [] h0 (by simpa using hl)];simp
theorem Zej{q:UInt8}:∀{f:Nat} {l bs bs' r':Str},l.length<f->Quoted q l bs=.ok (bs',r')->bs.contains 0=false->bs'.contains 0=false
 |0,_,_,_,_,h,_,_=>absurd h o_
 |f+1,[],_,_,_,_,h,_=>n61_
 |f+1,c::r,bs,bs',r',hf,h,hz=>by
  by_cases hc:c=q
  ·subst hc;rw [Qu] at h;cases h;exact hz
  ·cases ho:Xc (c::r) with
   |error e=>rw [ZcF hc ho] at h;cases h
   |ok x=>
    obtain ⟨d,n⟩:=x;rw [Zaj hc ho] at h;have h1:=XL ho;refine Zej (f:=f) n12_ h ?_;have h3:¬0=d:=fun e=>h1.2.2 e.symm
    simpa [h3] using hz
theorem Zdx:∀{f:Nat} {l bs w r':Str},l.length<f->Next l bs=.ok (w,r')->bs.contains 0=false->w.contains 0=false
 |0,_,_,_,_,h,_,_=>absurd h o_
 |f+1,[],_,_,_,_,h,hz=>by cases h;exact hz
 |f+1,c::r,bs,w,r',hf,h,hz=>by
  cases hb:Zm c with
  |true=>rw [Jt _ _ hb] at h;cases h;exact hz
  |false=>
   cases hq:Yr c with
   |true=>
    cases hQ:Quoted c r bs with
    |error e=>rw [JC hb hq hQ] at h;cases h
    |ok x=>
     obtain ⟨bs',r2⟩:=x;rw [XW hb hq hQ] at h;have h2:r2.length<r.length:=YP hQ;exact Zdx (f:=f) n12_ h (Zej (f:=r.length+1) o_ hQ hz)
   |false=>
    cases ho:Xc (c::r) with
    |error e=>rw [ZaH hb hq ho] at h;cases h
    |ok x=>
     obtain ⟨d,n⟩:=x;rw [Q0 hb hq ho] at h;have h1:=XL ho;refine Zdx (f:=f) n12_ h ?_;have h3:¬0=d:=fun e=>h1.2.2 e.symm
     simpa [h3] using hz
theorem Zbr:∀{f:Nat} {l:Str} {out x:List Str},l.length<f->YV l out=.ok x->out.any (fun w=>w.contains 0)=false->out.length<=32->x.any (fun w=>w.contains 0)=false/\x.length<=32
 |0,_,_,_,h,_,_,_=>absurd h o_
 |f+1,l,out,x,hf,h,hz,hl=>by
  cases hd:l.dropWhile Zm with
  |nil=>rw [ZaF hd] at h;cases h;exact ⟨hz,hl⟩
  |cons c r=>
   by_cases h32:out.length=32
   ·rw [JV hd h32] at h;cases h
   ·cases hn:Next (c::r) [] with
    |error e=>rw [ZaL hd h32 hn] at h;cases h
    |ok y=>
     obtain ⟨w,r'⟩:=y;rw [QB hd h32 hn] at h;have hdl:=YW l;rw [hd] at hdl;have h1:r'.length<=r.length:=Qh (Y3 hd) hn;have hw:=Zdx (f:=(c::r).length+1) o_ hn rfl;exact Zbr (f:=f) n12_ h (by rw [List.any_append,hz];simp only [List.any_cons,hw];rfl) n6_
theorem ZlC{s:Str}{l:List Str}(h:split s=.ok l):split (join l)=.ok l/\l.length<=32:=by
 rw [Zbv] at h;obtain ⟨h1,h2⟩:=Zbr (f:=s.length+1) o_ h rfl s_;exact ⟨ZeQ l h1 h2,h2⟩
theorem Zea{q:UInt8}:∀{f:Nat} {l bs bs' r':Str},l.length<f->Quoted q l bs=.ok (bs',r')->bs'.length+r'.length<=bs.length+l.length
 |0,_,_,_,_,h,_=>absurd h o_
 |f+1,[],_,_,_,_,h=>n61_
 |f+1,c::r,bs,bs',r',hf,h=>by
  by_cases hc:c=q
  ·subst hc;rw [Qu] at h;cases h;simp
  ·cases ho:Xc (c::r) with
   |error e=>rw [ZcF hc ho] at h;cases h
   |ok x=>
    obtain ⟨d,n⟩:=x;rw [Zaj hc ho] at h;have h1:=XL ho
    have:=Zea (f:=f) n12_ h
    simp at *;omega
theorem ZbN:∀{f:Nat} {l bs w r':Str},l.length<f->Next l bs=.ok (w,r')->w.length+r'.length<=bs.length+l.length
 |0,_,_,_,_,h,_=>absurd h o_
 |f+1,[],_,_,_,_,h=>by cases h;simp
 |f+1,c::r,bs,w,r',hf,h=>by
  cases hb:Zm c with
  |true=>rw [Jt _ _ hb] at h;cases h;simp
  |false=>
   cases hq:Yr c with
   |true=>
    cases hQ:Quoted c r bs with
    |error e=>rw [JC hb hq hQ] at h;cases h
    |ok x=>
     obtain ⟨bs',r2⟩:=x;rw [XW hb hq hQ] at h;have h2:r2.length<r.length:=YP hQ;have h3:=Zea (f:=r.length+1) o_ hQ
     have:=ZbN (f:=f) n12_ h
     simp at *;omega
   |false=>
    cases ho:Xc (c::r) with
    |error e=>rw [ZaH hb hq ho] at h;cases h
    |ok x=>
     obtain ⟨d,n⟩:=x;rw [Q0 hb hq ho] at h;have h1:=XL ho
     have:=ZbN (f:=f) n12_ h
     simp at *;omega
theorem ZdT{m:Nat}:∀{f:Nat} {l:Str} {out x:List Str},l.length<f->l.length<=m->YV l out=.ok x->(∀w∈out,w.length<=m)->∀w∈x,w.length<=m
 |0,_,_,_,h,_,_,_=>absurd h o_
 |f+1,l,out,x,hf,hm,h,ho=>by
  cases hd:l.dropWhile Zm with
  |nil=>rw [ZaF hd] at h;cases h;exact ho
  |cons c r=>
   by_cases h32:out.length=32
   ·rw [JV hd h32] at h;cases h
   ·cases hn:Next (c::r) [] with
    |error e=>rw [ZaL hd h32 hn] at h;cases h
    |ok y=>
     obtain ⟨w,r'⟩:=y;rw [QB hd h32 hn] at h;have hdl:=YW l;rw [hd] at hdl;have h1:r'.length<=r.length:=Qh (Y3 hd) hn;have h2:=ZbN (f:=(c::r).length+1) o_ hn;refine ZdT (f:=f) n12_ n12_ h ?_;intro z hz;rcases List.mem_append.1 hz with hz|hz
     ·exact ho z hz
     ·simp at hz;subst hz;simp at *;omega
theorem Zk0{s:Str}{l:List Str}(h:split s=.ok l):∀w∈l,w.length<=s.length:=by
 rw [Zbv] at h;exact ZdT (f:=s.length+1) o_ l_ h s_
def XZ(s:Str):Option (Bool×List Str):=
 match split (Go.Lib.trimPrefix s [45]) with
 |.ok (x::t)=>if x=[] then none else some (Go.Lib.hasPrefix s [45],x::t)
 |_=>none
def Zrx(c:UInt8):Bool:=([Yd,isDigit,fun c=>([95]:Str).contains c]:List (UInt8->Bool)).any fun p=>p c
def ZgA(s:Str):Bool:=(!s.isEmpty&&decide (s.length<=60)&&s.all Zrx)&&!(isDigit (s.headD 0))
def X9:List Str->Option (List (Str×Str))
 |[]=>some []
 |w::t=>if (Go.Lib.cut w [61]).2.2=true/\ZgA (Go.Lib.cut w [61]).1=true then (X9 t).map fun r=>((Go.Lib.cut w [61]).1,(Go.Lib.cut w [61]).2.1)::r else none
def Jd(s:Str):List (Str×Str)×Bool:=
 match split s with
 |.error _=>([],false)
 |.ok l=>match X9 l with
  |none=>([],false)
  |some ps=>(ps,decide (0<ps.length))
theorem ZjC:∀(l:List Str) ps,X9 l=some ps->ps.length=l.length
 |[],ps,h=>by simp [X9] at h;subst h;rfl
 |w::t,ps,h=>by
  unfold X9 at h;split at h
  ·cases hr:X9 t with
   |none=>rw [hr] at h;simp at h
   |some r=>rw [hr] at h;simp at h;subst h;simp [ZjC t r hr]
  ·simp at h
theorem JO(s:Str)(l:List Str)(h:split s=.ok l):l.length<=32/\∀x∈l,x.length<=s.length:=⟨(ZlC h).2,Zk0 h⟩
end Go.Proofs.YtmgmbeipbeknaaaGreatDoor
