import Derived.Lib.IndexMore
import Derived.Lib.CutLaws
import Derived.Deep.LoopGhost
import Derived.Test.YtmgmbeipbeknaaaGreatDoorRT2
import Derived.Test.YtmgmbeipbeknaaaGreatDoorRT6
import Derived.Test.YtmgmbeipbeknaaaGreatDoorRT8
import Derived.Test.YtmgmbeipbeknaaaGreatDoorRT9
import Derived.Test.YtmgmbeipbeknaaaGreatDoorRT13
namespace Go.Proofs.YtmgmbeipbeknaaaGreatDoor
set_option linter.unusedVariables false
set_option linter.unusedSimpArgs false
set_option maxHeartbeats 16000000
theorem m2_{p:Prop}(h:p:=by
  split at h
  ·cases h
  ·rename_i d n ho
   have h1:=XL ho
   have:=Za1 h
   simp at *;omega):p:=h
theorem Zsc{r:Str}{d:UInt8}{n:Nat}(h:QG r=some (d,n)):1<=n/\n<=r.length/\d≠0:=by
 match r with
 |[]=>simp [QG] at h
 |a::r' =>
  simp only [QG] at h;split at h
  ·rename_i ha;cases h
   refine ⟨o_,s_,?_⟩;intro e;subst e;simp at ha
  ·split at h
   ·cases h;simp
   ·split at h
    ·cases h;simp
    ·split at h
     ·cases h;simp
     ·split at h
      ·split at h
       ·rename_i d'' h2
        split at h
        ·cases h
        ·rename_i hd
         cases h
         match r',h2 with
         |_::_::_,_=>exact ⟨o_,s_,hd⟩
         |[],h2=>simp [Qj] at h2
         |[_],h2=>simp [Qj] at h2
       ·cases h
      ·cases h
theorem ZlB{r:Str}{d:UInt8}{n:Nat}(t:Str)(h:QG r=some (d,n)):QG (r++t)=some (d,n):=by
 match r with
 |[]=>simp [QG] at h
 |a::r' =>
  simp only [QG,List.cons_append] at h⊢;split
  ·rename_i ha;rw [if_pos ha] at h;exact h
  ·rename_i ha;rw [if_neg ha] at h
   split
   ·rename_i hb;rw [if_pos hb] at h;exact h
   ·rename_i hb;rw [if_neg hb] at h
    split
    ·rename_i hc;rw [if_pos hc] at h;exact h
    ·rename_i hc;rw [if_neg hc] at h
     split
     ·rename_i hd;rw [if_pos hd] at h;exact h
     ·rename_i hd;rw [if_neg hd] at h
      split
      ·rename_i he;rw [if_pos he] at h
       match r',h with
       |x::y::r2,h=>exact h
       |[],h=>simp [Qj] at h
       |[x],h=>simp [Qj] at h
      ·rename_i he;rw [if_neg he] at h;cases h
theorem XL{l:Str}{d:UInt8}{n:Nat}(h:Xa l=.ok (d,n)):1<=n/\n<=l.length/\d≠0:=by
 match l with
 |[]=>simp [Xa] at h
 |c::r=>
  simp only [Xa] at h;split at h
  ·cases h
  ·rename_i hb
   split at h
   ·split at h
    ·rename_i he
     cases h
     have:=Zsc he
     exact ⟨o_,n5_,this.2.2⟩
    ·cases h
   ·cases h
    refine ⟨o_,s_,?_⟩;intro e;subst e;simp [XW] at hb
theorem ZcP{l:Str}{d:UInt8}{n:Nat}(t:Str)(h:Xa l=.ok (d,n)):Xa (l++t)=.ok (d,n):=by
 match l with
 |[]=>simp [Xa] at h
 |c::r=>
  simp only [Xa,List.cons_append] at h⊢;split
  ·rename_i hb;rw [if_pos hb] at h;cases h
  ·rename_i hb;rw [if_neg hb] at h
   split
   ·rename_i h92;rw [if_pos h92] at h
    split at h
    ·rename_i he
     rw [ZlB t he];exact h
    ·cases h
   ·rename_i h92;rw [if_neg h92] at h;exact h
def Quoted(q:UInt8)(l bs:Str):Except Nat (Str×Str):=ZU q (l.length+1) l bs
def Next(l bs:Str):Except Nat (Str×Str):=Yd (l.length+1) l bs
def Y8(l:Str)(out:List Str):Except Nat (List Str):=Yx (l.length+1) l out
theorem ZeF(q:UInt8):∀(f g:Nat) (l bs:Str),l.length<f->l.length<g->ZU q f l bs=ZU q g l bs
 |0,_,_,_,h,_=>absurd h o_
 |_+1,0,_,_,_,h=>absurd h o_
 |f+1,g+1,[],bs,_,_=>rfl
 |f+1,g+1,c::r,bs,hf,hg=>by
  simp only [ZU];split
  ·rfl
  ·split
   ·rfl
   ·rename_i d n ho
    have:=XL ho
    exact ZeF q f g _ _ n14_ n14_
theorem Qw(q:UInt8)(r bs:Str):Quoted q (q::r) bs=.ok (bs,r):=by
 simp [Quoted,ZU]
theorem ZcR{q c:UInt8}{r bs:Str}{e:Nat}(hc:c≠q)(ho:Xa (c::r)=.error e):Quoted q (c::r) bs=.error e:=by
 simp [Quoted,ZU,hc,ho]
theorem ZaE{q c:UInt8}{r bs:Str}{d:UInt8}{n:Nat}(hc:c≠q)(ho:Xa (c::r)=.ok (d,n)):Quoted q (c::r) bs=Quoted q ((c::r).drop n) (bs++[d]):=by
 have:=XL ho
 simp only [Quoted,ZU,hc,if_false,ho];exact ZeF q _ _ _ _ n14_ (by simp at *)
theorem YM{q:UInt8}{bs' r':Str}:∀{f:Nat} {l bs:Str},ZU q f l bs=.ok (bs',r')->r'.length<l.length
 |0,_,_,h=>n90_
 |f+1,[],_,h=>n90_
 |f+1,a::r,bs,h=>by
  simp only [ZU] at h;split at h
  ·cases h;simp
  ·split at h
   ·cases h
   ·rename_i d n ho
    have h1:=XL ho
    have:=YM h
    simp at *;omega
theorem Zb8:∀(f g:Nat) (l bs:Str),l.length<f->l.length<g->Yd f l bs=Yd g l bs
 |0,_,_,_,h,_=>absurd h o_
 |_+1,0,_,_,_,h=>absurd h o_
 |f+1,g+1,[],bs,_,_=>rfl
 |f+1,g+1,c::r,bs,hf,hg=>by
  simp only [Yd];split
  ·rfl
  ·split
   ·split
    ·rfl
    ·rename_i hq
     have:=YM hq
     exact Zb8 f g _ _ n14_ n14_
   ·split
    ·rfl
    ·rename_i d n ho
     have:=XL ho
     exact Zb8 f g _ _ n14_ n14_
theorem Zje(bs:Str):Next [] bs=.ok (bs,[]):=rfl
theorem JN{c:UInt8}(r bs:Str)(h:Zg c=true):Next (c::r) bs=.ok (bs,c::r):=by simp [Next,Yd,h]
theorem JW{c:UInt8}{r bs:Str}{e:Nat}(h:Zg c=false)(hq:Yq c=true)(hQ:Quoted c r bs=.error e):Next (c::r) bs=.error e:=by
 unfold Quoted at hQ;simp [Next,Yd,h,hq,hQ]
theorem X9{c:UInt8}{r bs bs' r':Str}(h:Zg c=false)(hq:Yq c=true)(hQ:Quoted c r bs=.ok (bs',r')):Next (c::r) bs=Next r' bs':=by
 have:=YM hQ
 unfold Quoted at hQ;simp only [Next,Yd,h,hq,hQ,Bool.false_eq_true,if_false,if_true];exact Zb8 _ _ _ _ n14_ o_
theorem ZaO{c:UInt8}{r bs:Str}{e:Nat}(h:Zg c=false)(hq:Yq c=false)(ho:Xa (c::r)=.error e):Next (c::r) bs=.error e:=by
 simp [Next,Yd,h,hq,ho]
theorem Jg{c:UInt8}{r bs:Str}{d:UInt8}{n:Nat}(h:Zg c=false)(hq:Yq c=false)(ho:Xa (c::r)=.ok (d,n)):Next (c::r) bs=Next ((c::r).drop n) (bs++[d]):=by
 have:=XL ho
 simp only [Next,Yd,h,hq,ho,Bool.false_eq_true,if_false];exact Zb8 _ _ _ _ n14_ (by simp at *)
theorem Za1{x r:Str}:∀{f:Nat} {l bs:Str},Yd f l bs=.ok (x,r)->r.length<=l.length
 |0,_,_,h=>n90_
 |f+1,[],_,h=>by cases h;simp
 |f+1,a::l,bs,h=>by
  simp only [Yd] at h;split at h
  ·cases h;simp
  ·split at h
   ·split at h
    ·cases h
    ·rename_i hq
     have h1:=YM hq;have h2:=Za1 h;simp at *;omega
   ·exact m2_
theorem Jd{x r:Str}{f:Nat}{a:UInt8}{l bs:Str}(ha:Zg a=false)(h:Yd f (a::l) bs=.ok (x,r)):r.length<=l.length:=by
 cases f with
 |zero=>cases h
 |succ f=>
  simp only [Yd] at h;split at h
  ·rename_i h';rw [ha] at h';cases h'
  ·split at h
   ·split at h
    ·cases h
    ·rename_i hq
     have h1:=YM hq;have h2:=Za1 h;omega
   ·exact m2_
theorem XF{l r:Str}{c:UInt8}(h:l.dropWhile Zg=c::r):Zg c=false:=by
 induction l with
 |nil=>cases h
 |cons a l ih=>
  rw [List.dropWhile_cons] at h;split at h
  ·exact ih h
  ·rename_i ha;cases h;simpa using ha
theorem Xt(l:Str):(l.dropWhile Zg).length<=l.length:=(List.dropWhile_sublist Zg).length_le
theorem ZcQ:∀(f g:Nat) (l:Str) (out:List Str),l.length<f->l.length<g->Yx f l out=Yx g l out
 |0,_,_,_,h,_=>absurd h o_
 |_+1,0,_,_,_,h=>absurd h o_
 |f+1,g+1,l,out,hf,hg=>by
  have hd:=Xt l;simp only [Yx];split
  ·rfl
  ·rename_i c r hcr
   split
   ·rfl
   ·split
    ·rfl
    ·rename_i w r' hn
     have h1:=Jd (XF hcr) hn;rw [hcr] at hd;exact ZcQ f g _ _ n14_ n14_
theorem ZcD{l:Str}{out:List Str}(h:l.dropWhile Zg=[]):Y8 l out=.ok out:=by simp [Y8,Yx,h]
theorem ZbC{l:Str}{out:List Str}{c:UInt8}{r:Str}(h:l.dropWhile Zg=c::r)(h32:out.length=32):Y8 l out=.error (QY (c::r)):=by simp [Y8,Yx,h,h32]
theorem ZcY{l:Str}{out:List Str}{c:UInt8}{r:Str}{e:Nat}(h:l.dropWhile Zg=c::r)(h32:out.length≠32)(hn:Next (c::r) []=.error e):Y8 l out=.error e:=by
 unfold Next at hn;simp only [List.length_cons] at hn;simp [Y8,Yx,h,h32,hn]
theorem Jt{l:Str}{out:List Str}{c:UInt8}{r w r':Str}(h:l.dropWhile Zg=c::r)(h32:out.length≠32)(hn:Next (c::r) []=.ok (w,r')):Y8 l out=Y8 r' (out++[w]):=by
 have h1:=Jd (XF h) hn;have hd:=Xt l;rw [h] at hd;unfold Next at hn;simp only [List.length_cons] at hn;simp only [Y8,Yx,h,h32,if_false,hn];exact ZcQ l.length (r'.length+1) r' _ (by simp at hd;omega) o_
theorem ZgU(l:Str)(out:List Str):Y8 (l.dropWhile Zg) out=Y8 l out:=by
 have e:(l.dropWhile Zg).dropWhile Zg=l.dropWhile Zg:=by
  induction l with
  |nil=>rfl
  |cons a l ih=>
   by_cases h:Zg a=true
   ·rw [List.dropWhile_cons,if_pos h,ih]
   ·rw [List.dropWhile_cons,if_neg h,List.dropWhile_cons,if_neg h]
 have hd:=Xt l;unfold Y8;rw [ZcQ ((l.dropWhile Zg).length+1) (l.length+1) _ _ o_ o_];simp only [Yx,e]
theorem Zco{q:UInt8}(t:Str):∀{f:Nat} {l bs bs' r':Str},l.length<f->Quoted q l bs=.ok (bs',r')->Quoted q (l++t) bs=.ok (bs',r'++t)
 |0,_,_,_,_,h,_=>absurd h o_
 |f+1,[],_,_,_,_,h=>n90_
 |f+1,c::r,bs,bs',r',hf,h=>by
  by_cases hc:c=q
  ·subst hc
   rw [Qw] at h;cases h
   rw [List.cons_append,Qw]
  ·cases ho:Xa (c::r) with
   |error e=>rw [ZcR hc ho] at h;cases h
   |ok x=>
    obtain ⟨d,n⟩:=x;rw [ZaE hc ho] at h;have h1:=XL ho;have ho':=ZcP t ho;rw [List.cons_append] at ho'⊢;rw [ZaE hc ho'];have e:(c::(r++t)).drop n=(c::r).drop n++t:=by
     rw [<-List.cons_append,List.drop_append_of_le_length h1.2.1]
    rw [e];exact Zco t (f:=f) n14_ h
theorem Zbp(t:Str):∀{f:Nat} {l bs w r':Str},l.length<f->Next l bs=.ok (w,r')->Next (l++32::t) bs=.ok (w,r'++32::t)
 |0,_,_,_,_,h,_=>absurd h o_
 |f+1,[],bs,_,_,_,h=>by
  cases h
  rw [List.nil_append,JN _ _ rfl];try rfl
 |f+1,c::r,bs,w,r',hf,h=>by
  cases hb:Zg c with
  |true=>
   rw [JN _ _ hb] at h;cases h
   rw [List.cons_append,JN _ _ hb]
  |false=>
   cases hq:Yq c with
   |true=>
    cases hQ:Quoted c r bs with
    |error e=>rw [JW hb hq hQ] at h;cases h
    |ok x=>
     obtain ⟨bs',r2⟩:=x;rw [X9 hb hq hQ] at h;have h2:r2.length<r.length:=YM hQ;have hQ':=Zco (32::t) (f:=r.length+1) o_ hQ;rw [List.cons_append,X9 hb hq hQ'];exact Zbp t (f:=f) n14_ h
   |false=>
    cases ho:Xa (c::r) with
    |error e=>rw [ZaO hb hq ho] at h;cases h
    |ok x=>
     obtain ⟨d,n⟩:=x;rw [Jg hb hq ho] at h;have h1:=XL ho;have ho':=ZcP (32::t) ho;rw [List.cons_append] at ho'⊢;rw [Jg hb hq ho'];have e:(c::(r++32::t)).drop n=(c::r).drop n++32::t:=by
      rw [<-List.cons_append,List.drop_append_of_le_length h1.2.1]
     rw [e];exact Zbp t (f:=f) n14_ h
theorem dropWhile_append{l t:Str}{c:UInt8}{r:Str}(h:l.dropWhile Zg=c::r):(l++t).dropWhile Zg=c::(r++t):=by
 induction l with
 |nil=>cases h
 |cons a l ih=>
  rw [List.dropWhile_cons] at h;rw [List.cons_append,List.dropWhile_cons];split
  ·rename_i ha;rw [if_pos ha] at h;exact ih h
  ·rename_i ha;rw [if_neg ha] at h;cases h;rfl
theorem Zb2{l t:Str}(h:l.dropWhile Zg=[]):(l++32::t).dropWhile Zg=t.dropWhile Zg:=by
 induction l with
 |nil=>rfl
 |cons a l ih=>
  rw [List.dropWhile_cons] at h;split at h
  ·rename_i ha
   rw [List.cons_append,List.dropWhile_cons,if_pos ha];exact ih h
  ·cases h
theorem Zcz(t:Str):∀{f:Nat} {l:Str} {out x:List Str},l.length<f->Y8 l out=.ok x->Y8 (l++32::t) out=Y8 t x
 |0,_,_,_,h,_=>absurd h o_
 |f+1,l,out,x,hf,h=>by
  cases hd:l.dropWhile Zg with
  |nil=>
   rw [ZcD hd] at h;cases h
   rw [<-ZgU (l++32::t),Zb2 hd,ZgU]
  |cons c r=>
   by_cases h32:out.length=32
   ·rw [ZbC hd h32] at h;cases h
   ·cases hn:Next (c::r) [] with
    |error e=>rw [ZcY hd h32 hn] at h;cases h
    |ok y=>
     obtain ⟨w,r'⟩:=y;rw [Jt hd h32 hn] at h;have hl:=Xt l;rw [hd] at hl;have h1:r'.length<=r.length:=Jd (XF hd) hn;have hn':=Zbp t (f:=(c::r).length+1) o_ hn;rw [List.cons_append] at hn';rw [Jt (dropWhile_append hd) h32 hn'];exact Zcz t (f:=f) n14_ h
theorem Zfm(l:Str):split l=Y8 l []:=rfl
theorem Zl1{c:UInt8}(r:Str)(hb:XW c=false)(h:c≠92):Xa (c::r)=.ok (c,1):=by simp [Xa,hb,h]
theorem ZgJ(c:UInt8)(h:c≠0):Xa (ZA c)=.ok (c,(ZA c).length)/\∃a r,ZA c=a::r/\a≠34:=by
 have:=Ju (p:=fun c=>c==0||((match Xa (ZA c) with|.ok (d,n)=>d==c&&n==(ZA c).length|.error _=>false)&&(match ZA c with|a::_=>a !=34|[]=>false))) n4_ c
 have h0:(c==0)=false:=n42_;rw [h0,Bool.false_or,Bool.and_eq_true] at this;obtain ⟨h1,h2⟩:=this;constructor
 ·split at h1
  ·rename_i d n ho
   rw [Bool.and_eq_true] at h1;rw [eq_of_beq h1.1,eq_of_beq h1.2] at ho;exact ho
  ·cases h1
 ·split at h2
  ·rename_i a r hq
   exact ⟨a,r,hq,n91_⟩
  ·cases h2
theorem Zkh{c:UInt8}(h:c≠0)(t bs:Str):Quoted 34 (ZA c++t) bs=Quoted 34 t (bs++[c]):=by
 obtain ⟨ho,a,r,hq,ha⟩:=ZgJ c h;have ho':=ZcP t ho;rw [hq] at ho'⊢;rw [List.cons_append] at ho'⊢;rw [ZaE ha ho'];congr 1;rw [<-List.cons_append,List.drop_left]
theorem ZfQ:∀(w t bs:Str),w.contains 0=false->Quoted 34 (w.flatMap ZA++34::t) bs=.ok (bs++w,t)
 |[],t,bs,_=>by rw [List.flatMap_nil,List.nil_append,Qw];simp
 |c::w,t,bs,h=>by
  have hc:c≠0:=n66_;have hw:w.contains 0=false:=by
   rw [List.contains_cons,Bool.or_eq_false_iff] at h;exact h.2
  rw [List.flatMap_cons,List.append_assoc,Zkh hc,ZfQ w t _ hw];simp
theorem ZfF(c:UInt8)(h:(32<c&&c<127&&c !=39&&c !=34&&c !=92)=true):XW c=false/\c≠92/\Zg c=false/\Yq c=false:=by
 have:=Ju (p:=fun c=>!(32<c&&c<127&&c !=39&&c !=34&&c !=92)||(!XW c&&c !=92&&!Zg c&&!Yq c)) n4_ c
 rw [h] at this;simpa [and_assoc] using this
theorem ZfV:∀(w bs:Str),(∀c∈w,(32<c&&c<127&&c !=39&&c !=34&&c !=92)=true)->Next w bs=.ok (bs++w,[])
 |[],bs,_=>by rw [Zje];simp
 |c::w,bs,h=>by
  obtain ⟨h1,h2,h3,h4⟩:=ZfF c (h c s_);rw [Jg h3 h4 (Zl1 _ h1 h2),List.drop_succ_cons,List.drop_zero,ZfV w _ (fun c hc=>h c (by simp [hc]))];simp
theorem Zen{w:Str}(h0:w.contains 0=false){out:List Str}(h32:out.length≠32):Y8 (Y6 w) out=.ok (out++[w]):=by
 unfold Y6;split
 ·rename_i hp
  match w,hp with
  |c::r,hp=>
   simp only [ZbQ,Bool.and_eq_true] at hp;have hall:=List.all_eq_true.1 hp.2;obtain ⟨h1,h2,h3,h4⟩:=ZfF c (hall c s_);rw [Jt (c:=c) (r:=r) (w:=c::r) (r':=[]) (by rw [List.dropWhile_cons,if_neg (by simp [h3])]) h32 (ZfV _ [] (fun c hc=>hall c hc))];rfl
 ·unfold ZbB
  rw [Jt (c:=34) (r:=w.flatMap ZA++[34]) (w:=w) (r':=[]) rfl h32 (by
   rw [X9 rfl rfl (ZfQ w [] [] h0),Zje];simp)]
  rfl
theorem ZeL:∀(l:List Str) (out:List Str),l.any (fun w=>w.contains 0)=false->out.length+l.length<=32->Y8 (YB [32] (l.map Y6)) out=.ok (out++l)
 |[],out,_,_=>by simp only [List.map_nil,YB,List.append_nil];rfl
 |[w],out,h,hl=>by
  simp only [List.map_cons,List.map_nil,YB];exact Zen n42_ (by simp at hl;omega)
 |a::b::r,out,h,hl=>by
  simp only [List.any_cons,Bool.or_eq_false_iff] at h;simp only [List.map_cons,YB];rw [List.append_assoc,List.singleton_append,Zcz _ (f:=(Y6 a).length+1) o_ (Zen h.1 (by simp at hl;omega))];have ih:=ZeL (b::r) (out++[a]) (by simp only [List.any_cons,Bool.or_eq_false_iff];exact h.2) (by simp at hl⊢;omega);simp only [List.map_cons] at ih;rw [ih];simp
theorem Zmi(l:List Str)(h0:l.any (fun w=>w.contains 0)=false)(hl:l.length<=32):split (join l)=.ok l:=by
 unfold join;rw [if_neg o_,h0,Zfm];simp only [Bool.false_eq_true,if_false];rw [ZeL l [] h0 (by simpa using hl)];simp
theorem Zed{q:UInt8}:∀{f:Nat} {l bs bs' r':Str},l.length<f->Quoted q l bs=.ok (bs',r')->bs.contains 0=false->bs'.contains 0=false
 |0,_,_,_,_,h,_,_=>absurd h o_
 |f+1,[],_,_,_,_,h,_=>n90_
 |f+1,c::r,bs,bs',r',hf,h,hz=>by
  by_cases hc:c=q
  ·subst hc;rw [Qw] at h;cases h;exact hz
  ·cases ho:Xa (c::r) with
   |error e=>rw [ZcR hc ho] at h;cases h
   |ok x=>
    obtain ⟨d,n⟩:=x;rw [ZaE hc ho] at h;have h1:=XL ho;refine Zed (f:=f) n14_ h ?_;have h3:¬0=d:=fun e=>h1.2.2 e.symm
    simpa [h3] using hz
theorem ZdJ:∀{f:Nat} {l bs w r':Str},l.length<f->Next l bs=.ok (w,r')->bs.contains 0=false->w.contains 0=false
 |0,_,_,_,_,h,_,_=>absurd h o_
 |f+1,[],_,_,_,_,h,hz=>by cases h;exact hz
 |f+1,c::r,bs,w,r',hf,h,hz=>by
  cases hb:Zg c with
  |true=>rw [JN _ _ hb] at h;cases h;exact hz
  |false=>
   cases hq:Yq c with
   |true=>
    cases hQ:Quoted c r bs with
    |error e=>rw [JW hb hq hQ] at h;cases h
    |ok x=>
     obtain ⟨bs',r2⟩:=x;rw [X9 hb hq hQ] at h;have h2:r2.length<r.length:=YM hQ;exact ZdJ (f:=f) n14_ h (Zed (f:=r.length+1) o_ hQ hz)
   |false=>
    cases ho:Xa (c::r) with
    |error e=>rw [ZaO hb hq ho] at h;cases h
    |ok x=>
     obtain ⟨d,n⟩:=x;rw [Jg hb hq ho] at h;have h1:=XL ho;refine ZdJ (f:=f) n14_ h ?_;have h3:¬0=d:=fun e=>h1.2.2 e.symm
     simpa [h3] using hz
theorem Zef:∀{f:Nat} {l:Str} {out x:List Str},l.length<f->Y8 l out=.ok x->out.any (fun w=>w.contains 0)=false->out.length<=32->x.any (fun w=>w.contains 0)=false/\x.length<=32
 |0,_,_,_,h,_,_,_=>absurd h o_
 |f+1,l,out,x,hf,h,hz,hl=>by
  cases hd:l.dropWhile Zg with
  |nil=>rw [ZcD hd] at h;cases h;exact ⟨hz,hl⟩
  |cons c r=>
   by_cases h32:out.length=32
   ·rw [ZbC hd h32] at h;cases h
   ·cases hn:Next (c::r) [] with
    |error e=>rw [ZcY hd h32 hn] at h;cases h
    |ok y=>
     obtain ⟨w,r'⟩:=y;rw [Jt hd h32 hn] at h;have hdl:=Xt l;rw [hd] at hdl;have h1:r'.length<=r.length:=Jd (XF hd) hn;have hw:=ZdJ (f:=(c::r).length+1) o_ hn rfl;exact Zef (f:=f) n14_ h (by rw [List.any_append,hz];simp only [List.any_cons,hw];rfl) n5_
theorem Zlb{s:Str}{l:List Str}(h:split s=.ok l):split (join l)=.ok l/\l.length<=32:=by
 rw [Zfm] at h;obtain ⟨h1,h2⟩:=Zef (f:=s.length+1) o_ h rfl s_;exact ⟨Zmi l h1 h2,h2⟩
theorem Zel{q:UInt8}:∀{f:Nat} {l bs bs' r':Str},l.length<f->Quoted q l bs=.ok (bs',r')->bs'.length+r'.length<=bs.length+l.length
 |0,_,_,_,_,h,_=>absurd h o_
 |f+1,[],_,_,_,_,h=>n90_
 |f+1,c::r,bs,bs',r',hf,h=>by
  by_cases hc:c=q
  ·subst hc;rw [Qw] at h;cases h;simp
  ·cases ho:Xa (c::r) with
   |error e=>rw [ZcR hc ho] at h;cases h
   |ok x=>
    obtain ⟨d,n⟩:=x;rw [ZaE hc ho] at h;have h1:=XL ho
    have:=Zel (f:=f) n14_ h
    simp at *;omega
theorem ZdN:∀{f:Nat} {l bs w r':Str},l.length<f->Next l bs=.ok (w,r')->w.length+r'.length<=bs.length+l.length
 |0,_,_,_,_,h,_=>absurd h o_
 |f+1,[],_,_,_,_,h=>by cases h;simp
 |f+1,c::r,bs,w,r',hf,h=>by
  cases hb:Zg c with
  |true=>rw [JN _ _ hb] at h;cases h;simp
  |false=>
   cases hq:Yq c with
   |true=>
    cases hQ:Quoted c r bs with
    |error e=>rw [JW hb hq hQ] at h;cases h
    |ok x=>
     obtain ⟨bs',r2⟩:=x;rw [X9 hb hq hQ] at h;have h2:r2.length<r.length:=YM hQ;have h3:=Zel (f:=r.length+1) o_ hQ
     have:=ZdN (f:=f) n14_ h
     simp at *;omega
   |false=>
    cases ho:Xa (c::r) with
    |error e=>rw [ZaO hb hq ho] at h;cases h
    |ok x=>
     obtain ⟨d,n⟩:=x;rw [Jg hb hq ho] at h;have h1:=XL ho
     have:=ZdN (f:=f) n14_ h
     simp at *;omega
theorem Zeo{m:Nat}:∀{f:Nat} {l:Str} {out x:List Str},l.length<f->l.length<=m->Y8 l out=.ok x->(∀w∈out,w.length<=m)->∀w∈x,w.length<=m
 |0,_,_,_,h,_,_,_=>absurd h o_
 |f+1,l,out,x,hf,hm,h,ho=>by
  cases hd:l.dropWhile Zg with
  |nil=>rw [ZcD hd] at h;cases h;exact ho
  |cons c r=>
   by_cases h32:out.length=32
   ·rw [ZbC hd h32] at h;cases h
   ·cases hn:Next (c::r) [] with
    |error e=>rw [ZcY hd h32 hn] at h;cases h
    |ok y=>
     obtain ⟨w,r'⟩:=y;rw [Jt hd h32 hn] at h;have hdl:=Xt l;rw [hd] at hdl;have h1:r'.length<=r.length:=Jd (XF hd) hn;have h2:=ZdN (f:=(c::r).length+1) o_ hn;refine Zeo (f:=f) n14_ n14_ h ?_;intro z hz;rcases List.mem_append.1 hz with hz|hz
     ·exact ho z hz
     ·simp at hz;subst hz;simp at *;omega
theorem Zmp{s:Str}{l:List Str}(h:split s=.ok l):∀w∈l,w.length<=s.length:=by
 rw [Zfm] at h;exact Zeo (f:=s.length+1) o_ l_ h s_
def Zbf(s:Str):Option (Bool×List Str):=
 match split (Go.Lib.trimPrefix s [45]) with
 |.ok (x::t)=>if x=[] then none else some (Go.Lib.hasPrefix s [45],x::t)
 |_=>none
def Zsb(c:UInt8):Bool:=([ZR,isDigit,fun c=>([95]:Str).contains c]:List (UInt8->Bool)).any fun p=>p c
def ZqL(s:Str):Bool:=(!s.isEmpty&&decide (s.length<=60)&&s.all Zsb)&&!(isDigit (s.headD 0))
def Zax:List Str->Option (List (Str×Str))
 |[]=>some []
 |w::t=>if (Go.Lib.cut w [61]).2.2=true/\ZqL (Go.Lib.cut w [61]).1=true then (Zax t).map fun r=>((Go.Lib.cut w [61]).1,(Go.Lib.cut w [61]).2.1)::r else none
def ZdZ(s:Str):List (Str×Str)×Bool:=
 match split s with
 |.error _=>([],false)
 |.ok l=>match Zax l with
  |none=>([],false)
  |some ps=>(ps,decide (0<ps.length))
theorem Zey(s:Str)(l:List Str)(h:split s=.ok l):l.length<=32/\∀x∈l,x.length<=s.length:=⟨(Zlb h).2,Zmp h⟩
open Go.Proofs.Tryz
open Go Go.RowKit
set_option maxRecDepth 100000
theorem m13_{p:Prop}(h:p:=by
  go_wp2_with fail;refine bodyPost_ret (v:=.tuple #[.agg #[.bool false,.slice none 0 0],.bool false]) ?_ rfl ⟨?_,rfl⟩
  ·exact m16_
  ·exact m15_):p:=h
theorem m14_{p:Prop}(h:p:=by go_wp2_with fail;obtain ⟨rfl,rfl⟩:=HQ.out;go_ret2;exact ⟨HB1.out,_,rfl,World.ownsRow_nil _ _ _ _⟩):p:=h
theorem m15_{p:Prop}(h:p:=by exact (HB1.out.setCell l_ _).setCell l_ _):p:=h
theorem m16_{p:Prop}(h:p:=by simp [results,results140,go_sem,c0,c1]):p:=h
theorem Zrt(s:ByteArray)(w:World)(h63:s.size<=9223372036854775807)(b:Bool)(hb:ZqL s.data.toList=b) :
  Calls prog 264 #[.string s] w fun e w'=>e=.returned (.bool b)/\Below w.heap.size w w':=by
 obtain ⟨q,hq⟩:∃q,Zag s.data.toList 60 Zsb=q:=⟨_,rfl⟩;have hb2:(q&&!(isDigit (s.data.toList.headD 0)))=b:=by
  rw [<-hb,<-hq];unfold ZqL Zag;congr 3;rw [decide_eq_decide];omega
 let w1:=w.alloc (.cells #[.string ⟨#[95]⟩] 9);let w2:=w1.alloc (.cells #[.func (.func 153) #[] #[],.func (.func 154) #[] #[],.func (.func 224) #[] #[.pointer (some ⟨w.heap.size,0,none⟩)]] 148);let w3:=w2.alloc (.cells #[.slice (some ⟨w.heap.size+1,0,none⟩) 3 3] 217);have hB:Below w.heap.size w w3:=((b_.alloc l_ _).alloc s_ _).alloc n5_ _;have z1:w1.heap.size=w.heap.size+1:=by simp [w1]
 have z2:w2.heap.size=w.heap.size+1+1:=by simp [w2,z1]
 have HA:∀w':World,w'=w3->Calls prog 170 #[.string s,.int .i64 60,.func (.func 223) #[] #[.pointer (some ⟨w.heap.size+1+1,0,none⟩)]] w' fun e w''=>e=.returned (.bool q)/\w'=w'':=by
  intro w' hw';have h0:w'.heap[w.heap.size]?=some (.cells #[.string ⟨#[95]⟩] 9 (0,0)):=by
   rw [hw'];exact heap_alloc (heap_alloc (heap_alloc_new w _) _) _
  have h2:w'.heap[w.heap.size+1]?=some (.cells #[.func (.func 153) #[] #[],.func (.func 154) #[] #[],.func (.func 224) #[] #[.pointer (some ⟨w.heap.size,0,none⟩)]] 148 (0,0)):=by
   rw [hw',<-z1];exact heap_alloc (heap_alloc_new w1 _) _
  have h1:w'.cell? ⟨w.heap.size+1+1,0,none⟩=some (.slice (some ⟨w.heap.size+1,0,none⟩) 3 3):=by
   have h0:w'.heap[w.heap.size+1+1]?=some (.cells #[.slice (some ⟨w.heap.size+1,0,none⟩) 3 3] 217 (0,0)):=by
    rw [hw',<-z2];exact heap_alloc_new w2 _
   rw [(rd h0).1];rfl
  obtain ⟨hc,_⟩:=rd h2;have hs:w'.cell? ⟨w.heap.size,0,none⟩=some (.string ⟨#[95]⟩):=by rw [(rd h0).1];rfl
  refine JP s 60 223 #[] _ Zsb q w' h63 ZbP (fun c=>?_) hq;refine (ZfE c (w.heap.size+1+1) (w.heap.size+1) 3 [ZR,isDigit,fun c=>([95]:Str).contains c] w' h1 s_ ?_).mono ?_
  ·intro i hi
   match i,hi with
   |0,_=>exact ⟨_,hc 0,_,_,_,rfl,QZ,fun c=>QJ c w'⟩
   |1,_=>exact ⟨_,hc 1,_,_,_,rfl,Xf,fun c=>Y5 c w'⟩
   |2,_=>exact ⟨_,hc 2,_,_,_,rfl,ZfU,fun c=>Zna c w.heap.size _ w' hs _ rfl⟩
   |n+3,hi=>exact absurd hi s_
  ·rintro e w'' ⟨rfl,rfl⟩
   exact ⟨rfl,rfl⟩
 have HH:=h_ HA;have HB:=h_ hB;clear HA hB hb;cases q with
 |false=>
  obtain rfl:false=b:=by simpa using hb2
  clear hq hb2;go_enter func264,ntmps264;go_wp2_with (first
   |(go_at_call 155;refine (ZlP _ _).mono ?_;rintro e w' ⟨rfl,rfl⟩)
   |(go_at_call 152;refine (ZeZ _ _ _ _).mono ?_;rintro e w' ⟨rfl,rfl⟩)
   |(go_at_call 170;refine ((HH.out _ (by simp [w1,w2,w3])).mono ?_);rintro e w' ⟨rfl,rfl⟩))
  go_ret;exact ⟨rfl,HB.out⟩
 |true=>
  obtain ⟨h0,-,-⟩:=ZcG (n:=60) hq;have hlt:0<s.size:=by
   have:s.data.toList.length=s.size:=s_
   have h1:s.data.toList.length≠0:=fun e=>h0 (List.eq_nil_of_length_eq_zero e)
   omega
  have hlz:(0:Int)<(s.size:Int):=o_;have hhd:s.data.toList.headD 0=s[0]:=by
   have:=drop_cons s 0 hlt
   rw [List.drop_zero] at this;rw [this];rfl
  have HR:=h_ (show (!isDigit s[0])=b by rw [<-hb2,hhd];simp);have HD:=h_ (fun W=>Y5 s[0] W);clear hq hb2 h0 hhd;go_enter func264,ntmps264;go_wp2_with (first
   |(go_at_call 155;refine (ZlP _ _).mono ?_;rintro e w' ⟨rfl,rfl⟩)
   |(go_at_call 152;refine (ZeZ _ _ _ _).mono ?_;rintro e w' ⟨rfl,rfl⟩)
   |(go_at_call 154;refine (HD.out _).mono ?_;rintro e w' ⟨rfl,rfl⟩)
   |(go_at_call 170;refine ((HH.out _ (by simp [w1,w2,w3])).mono ?_);rintro e w' ⟨rfl,rfl⟩))
  go_ret;exact ⟨n45_,HB.out⟩
theorem ZkD{w:World}{B B' e size n:Nat}{v:Value}{xs:List Value}(h:w.ownsRow B e size v n xs)(hB:B'<=B):w.ownsRow B' e size v n xs:=by
 refine ⟨h.1,?_⟩;rcases h.2 with hn|⟨g,cap,cur,rfl,hb,rest⟩
 ·exact .inl hn
 ·exact .inr ⟨g,cap,cur,rfl,Nat.le_trans hB hb,rest⟩
def ZeS(w:World)(s:Str)(e:Ending)(w':World):Prop:=
 Below w.heap.size w w'/\match Zbf s with
 |none=>e=.returned (.tuple #[.agg #[.bool false,.slice none 0 0],.bool false])
 |some (d,l)=>∃wa wc,e=.returned (.tuple #[.agg #[.bool d,.slice wa l.length wc],.bool true])/\w'.ownsRow w.heap.size 9 1 (.slice wa l.length wc) l.length (Zj l)
theorem Zqr(s:Str):(Lib.trimPrefix s [45]).length<=s.length:=by
 unfold Lib.trimPrefix;split<;>simp
theorem Zi5(s:ByteArray)(w:World)(hs:s.size<=1000000000):Calls prog 140 #[.string s] w fun e w'=>ZeS w s.data.toList e w':=by
 have HCP:=h_ (fun W=>Tryz.strings_CutPrefix s ⟨#[45]⟩ W);have hlen:s.data.toList.length=s.size:=s_;have htl:=Zqr s.data.toList;unfold ZeS Zbf;simp only at HCP;obtain ⟨r,hr⟩:=e_ (Lib.trimPrefix s.data.toList [45]);obtain ⟨d,hd⟩:=e_ (Lib.hasPrefix s.data.toList [45]);change Hid (∀W,Calls _ _ _ _ fun e w'=>e=.returned (.tuple #[.string ⟨(Lib.trimPrefix s.data.toList [45]).toArray⟩,.bool (Lib.hasPrefix s.data.toList [45])])/\_) at HCP;rw [<-hr,<-hd] at HCP⊢;rw [<-hr] at htl;have hrl:r.length<=1000000000:=o_;clear hr hd htl hlen hs;let w0:=w.alloc (.cells #[.bool false,.slice none 0 0] 49);have hB0:Below w.heap.size w w0:=b_.alloc l_ _;have h0:w0.heap[w.heap.size]?=some (.cells #[.bool false,.slice none 0 0] 49 (0,0)):=heap_alloc_new w _;have HB0:=h_ hB0;have H0:=h_ h0;clear hB0 h0;obtain ⟨res,hres⟩:∃res,split r=res:=⟨_,rfl⟩;have HSP:=h_ (fun W=>ZhH ⟨r.toArray⟩ W n26_ res hres);rw [hres];clear hres;go_enter func140,ntmps140;go_wp2_with fail;refine (HCP.out _).mono ?_;rintro e w1 ⟨rfl,rfl⟩;go_wp2_with fail;refine (HSP.out w0).mono ?_;rintro e w1 ⟨hb1,he⟩;have HB1:=h_ (HB0.out.trans (hb1.mono HB0.out.size));have H1:=h_ (Za H0.out hb1);have hz0:w0.heap.size=w.heap.size+1:=by simp [w0]
 have HZ:=h_ (show w.heap.size<=w0.heap.size by omega);clear hb1 HB0 H0 HCP HSP hz0;obtain ⟨cc,fc,sc,lc⟩:=rd H1.out;have c0:=cc 0;have c1:=cc 1;have f0:=fc 0;have f1:=fc 1;simp only [List.getElem?_toArray,List.getElem?_cons_zero,List.getElem?_cons_succ] at c0 c1;clear cc fc sc;cases res with
 |error c=>
  obtain rfl:=he;by_cases hc0:(c:Int)=0
  ·rw [hc0]
   exact m13_
  ·have hc1:((c:Int)!=0)=true:=by simpa using hc0
   exact m13_
 |ok l=>
  obtain ⟨v,rfl,hown⟩:=he;obtain ⟨oa,cap,rfl⟩:=ownsRow_form hown;have hrow:=Zn.of_own hown;have HO:=h_ (ZkD hown HZ.out);clear hown;cases l with
  |nil=>
   simp only [List.length_nil];exact m13_
  |cons x t=>
   obtain ⟨b,o,rfl,d0⟩:=hrow 0 s_;simp only [List.getElem_cons_zero,Nat.add_zero] at d0;have hpos:((x::t).length:Int)≠0:=n61_;have hpos1:(((x::t).length:Int)==0)=false:=n64_;have hpos2:(0:Int)<((x::t).length:Int):=o_;have hpos3:0<(x::t).length:=s_;by_cases hx:x=[]
   ·subst hx
    generalize (([]:Str)::t).length=n at *;go_wp2_with fail;refine bodyPost_ret (v:=.tuple #[.agg #[.bool false,.slice none 0 0],.bool false]) ?_ rfl ⟨?_,?_⟩
    ·exact m16_
    ·exact m15_
    ·simp only [if_true]
   ·have hxe:List.isEmpty x=false:=by cases x with|nil=>exact absurd rfl hx|cons a u=>rfl
    clear hrow;go_wp2_with fail;refine bodyPost_ret (v:=.tuple #[.agg #[.bool d,.slice (some ⟨b,o,none⟩) (x::t).length cap],.bool true]) ?_ rfl ⟨?_,?_⟩
    ·exact m16_
    ·exact m15_
    ·refine ⟨some ⟨b,o,none⟩,cap,rfl,?_⟩
     refine ZM HO.out (M:=fun k=>k=w.heap.size) (Fr.setCell (M:=fun k=>k=w.heap.size) (p:=⟨w.heap.size,1,none⟩) (Fr.setCell (M:=fun k=>k=w.heap.size) (p:=⟨w.heap.size,0,none⟩) (Fr.refl _ _) (fun _=>rfl) _) (fun _=>rfl) _) (fun k hk hr=>?_);rintro rfl;obtain ⟨cs,fz,h5⟩:=hr;rw [H1.out] at h5;simp at h5
def Xx(p:Str×Str):List Value:=[.string ⟨p.1.toArray⟩,.string ⟨p.2.toArray⟩]
theorem Zps(k:Str×Str):∀v∈Xx k,v.oneCell'=true:=by intro v hv;simp [Xx] at hv;rcases hv with rfl|rfl<;>rfl
theorem ZkB:(prog.info? 64).map (fun i=>(i.zero,i.size,i.bytes))=some (some (.agg #[.string ⟨#[]⟩,.string ⟨#[]⟩]),2,32):=k_
theorem Zll(w:World)(a b:Value)(T:TypeId):(w.alloc (.cells #[a,b] T)).ownsRow w.heap.size T 2 (.slice (some ⟨w.heap.size,0,none⟩) 1 1) 1 [a,b]:=
 ⟨rfl,.inr ⟨w.heap.size,1,#[a,b],rfl,l_,heap_alloc_new _ _,l_,d_,rfl,rfl⟩⟩
theorem ZrG(l:Str)(c:Str):(Lib.cut l c).1.length<=l.length/\(Lib.cut l c).2.1.length<=l.length:=by
 unfold Lib.cut;split
 ·exact ⟨by rw [List.length_take];exact Nat.min_le_right _ _,by rw [List.length_drop];omega⟩
 ·simp
theorem Zni(s:ByteArray)(w:World)(hs:s.size<=1000000000)(hM:Zi w)(ps:List (Str×Str))(b:Bool)(hps:ZdZ s.data.toList=(ps,b)) :
  Calls prog 208 #[.string s] w fun e w'=>Below w.heap.size w w'/\∃v,e=.returned (.tuple #[v,.bool b])/\w'.ownsRow w.heap.size 64 2 v ps.length (Zy Xx ps):=by
 obtain ⟨i0,hi0,hz0,hz1,hz2⟩:=info_parts ZkB;obtain ⟨res,hres⟩:∃res,split s.data.toList=res:=⟨_,rfl⟩;have HSP:=h_ (ZhH s w o_ res hres);have HLS:=h_ (fun l (h:res=.ok l)=>show l.length<=32/\∀x∈l,x.length<=s.size from by have:=Zey s.data.toList l (by rw [hres,h]);simpa using this);unfold ZdZ at hps;rw [hres] at hps;have HP:=h_ hps;have HM:=h_ hM;clear hres hps hM;go_enter func208,ntmps208;go_wp2_with fail;refine HSP.out.mono ?_;rintro e w1 ⟨hb1,he⟩;have HB1:=h_ hb1;clear hb1 HSP;cases res with
 |error c=>
  obtain rfl:=he;have HQ:=h_ (show ps=[]/\b=false from by have h:=HP.out;simp at h;exact ⟨h.1,h.2⟩);go_wp2_with fail;go_loopg [6,19] 2 (fun f v i wr=>v=.slice none 0 0/\i=.int .i64 0/\wr=w1/\0<f)
  case atStart=>exact ⟨rfl,rfl,rfl,o_⟩
  case round=>
   obtain ⟨rfl,rfl,rfl,hfu⟩:=hrel;by_cases hc0:(c:Int)=0
   ·rw [hc0]
    exact m14_
   ·have hc1:((c:Int)==0)=false:=by simpa using hc0
    exact m14_
 |ok l=>
  obtain ⟨v,rfl,hown⟩:=he;obtain ⟨oa,cap,rfl⟩:=ownsRow_form hown;have HR:=h_ (Zn.of_own hown);obtain ⟨hl1,hl2⟩:=HLS.out l rfl;have HL2:=h_ hl2;have hll:l.length<=32:=hl1;clear hown hl2;go_wp2_with fail;go_loopg [6,19] (l.length+1) (fun f v i wr=>∃(k:Nat) (done:List (Str×Str)),k<=l.length/\i=.int .i64 k/\l.length-k<f/\done.length=k/\Hid (wr.ownsRow w1.heap.size 64 2 v done.length (Zy Xx done))/\Hid (Zax l=(Zax (l.drop k)).map fun r=>done++r)/\Hid (Below w1.heap.size w1 wr))
  case atStart=>exact ⟨0,[],o_,rfl,o_,rfl,World.ownsRow_nil _ _ _ _,(show Zax l=(Zax (l.drop 0)).map fun r=>[]++r from by rw [List.drop_zero];cases Zax l<;>simp),Below.refl _ _⟩
  case round=>
   obtain ⟨_,done,hk,rfl,hfu,rfl,Hown,HE,HB⟩:=hrel;obtain ⟨oa2,cap2,rfl⟩:=ownsRow_form Hown.out;by_cases hlt:done.length<l.length
   ·have hz:(done.length:Int)<(l.length:Int):=o_
    obtain ⟨x,hx⟩:=e_ (l[done.length]);obtain ⟨b4,o4,rfl,d0⟩:=(HR.out.below HB.out) done.length hlt;rw [<-hx] at d0;have hd:l.drop done.length=x::l.drop (done.length+1):=n53_;have hxl:x.length<=s.size:=by rw [hx];exact HL2.out _ (List.getElem_mem hlt)
    have hM2:Zi wr:=(HM.out.below HB1.out).below HB.out;obtain ⟨m,hm⟩:=hM2;have HCUT:=h_ (fun W (h:W.cell? ⟨0,0,none⟩=some (.int .i64 m))=>Tryz.strings_Cut ⟨x.toArray⟩ ⟨#[61]⟩ m W (by show x.toArray.size<_;simp;omega) h);change Hid (∀W,_->Calls _ _ _ _ fun e w'=>e=.returned (.tuple #[.string ⟨(Lib.cut x [61]).1.toArray⟩,.string ⟨(Lib.cut x [61]).2.1.toArray⟩,.bool (Lib.cut x [61]).2.2])/\_) at HCUT;have hE:=HE.out;rw [hd] at hE;rw [show Zax (x::l.drop (done.length+1))=if (Go.Lib.cut x [61]).2.2=true/\ZqL (Go.Lib.cut x [61]).1=true then (Zax (l.drop (done.length+1))).map fun r=>((Go.Lib.cut x [61]).1,(Go.Lib.cut x [61]).2.1)::r else none from rfl] at hE;have hcl:=ZrG x [61];obtain ⟨c1,c2,q,hcut⟩:∃c1 c2 q,Lib.cut x [61]=(c1,c2,q):=⟨_,_,_,rfl⟩;rw [hcut] at HCUT hE hcl;simp only at hcl hE;clear hcut hx hd HE;cases q with
    |false=>
     have hE2:Zax l=none:=by rw [hE];simp
     have HQ:=h_ (show ps=[]/\b=false from by have h:=HP.out;simp only [hE2] at h;simp at h;exact ⟨h.1,h.2⟩);clear hE hE2;go_wp2_with fail;refine (HCUT.out _ hm).mono ?_;rintro e w2 ⟨rfl,n2,rfl⟩;have HB2:=h_ (HB.out.trans (show Below w1.heap.size wr (wr.drewN n2) from Zc ⟨_,rfl⟩));generalize wr.drewN n2=w2 at *;go_wp2_with fail;obtain ⟨rfl,rfl⟩:=HQ.out;go_ret2;exact ⟨HB1.out.trans (HB2.out.mono HB1.out.size),_,rfl,World.ownsRow_nil _ _ _ _⟩
    |true=>
     obtain ⟨y,hy⟩:∃y,ZqL c1=y:=⟨_,rfl⟩;have HVR:=h_ (fun W=>Zrt ⟨c1.toArray⟩ W (by show c1.toArray.size<=_;simp;omega) y hy);cases y with
     |false=>
      have hE2:Zax l=none:=by rw [hE,hy];simp
      have HQ:=h_ (show ps=[]/\b=false from by have h:=HP.out;simp only [hE2] at h;simp at h;exact ⟨h.1,h.2⟩);clear hE hE2;go_wp2_with fail;refine (HCUT.out _ hm).mono ?_;rintro e w2 ⟨rfl,n2,rfl⟩;have HB2:=h_ (HB.out.trans (show Below w1.heap.size wr (wr.drewN n2) from Zc ⟨_,rfl⟩));generalize wr.drewN n2=w2 at *;go_wp2_with fail;refine (HVR.out _).mono ?_;rintro e w3 ⟨rfl,hb3⟩;have HB3:=h_ (HB2.out.trans (hb3.mono HB2.out.size));clear hb3;go_wp2_with fail;obtain ⟨rfl,rfl⟩:=HQ.out;go_ret2;exact ⟨HB1.out.trans (HB3.out.mono HB1.out.size),_,rfl,World.ownsRow_nil _ _ _ _⟩
     |true=>
      have HE2:=h_ (show Zax l=(Zax (l.drop (done.length+1))).map fun r=>(done++[(c1,c2)])++r from by
       rw [hE,hy];cases Zax (l.drop (done.length+1))<;>simp)
      clear hE;go_wp2_with fail;refine (HCUT.out _ hm).mono ?_;rintro e w2 ⟨rfl,n2,rfl⟩;have HB2:=h_ (HB.out.trans (show Below w1.heap.size wr (wr.drewN n2) from Zc ⟨_,rfl⟩));have HO2:=h_ (Zr Hown.out (show Below wr.heap.size wr (wr.drewN n2) from Zc ⟨_,rfl⟩));generalize wr.drewN n2=w2 at *;go_wp2_with fail;refine (HVR.out _).mono ?_;rintro e w3 ⟨rfl,hb3⟩;have HB3:=h_ (HB2.out.trans (hb3.mono HB2.out.size));have HO3:=h_ (Zr HO2.out hb3);clear hb3;let W1:=w3.alloc (.cells (Xx (c1,c2)).toArray 64);have hB1:Below w3.heap.size w3 W1:=b_.alloc l_ _;have hbl:=Zw.of_own (enc:=Xx) (k:=2) (l:=[(c1,c2)]) (oa:=some ⟨w3.heap.size,0,none⟩) (cap:=1) (fun _=>rfl) (Zll w3 (.string ⟨c1.toArray⟩) (.string ⟨c2.toArray⟩) 64);obtain ⟨v',w4,hrun,hown4,hgrow⟩:=Qm (P:=prog) w1.heap.size 25 25 64 i0 (.agg #[.string ⟨#[]⟩,.string ⟨#[]⟩]) 2 32 underlying25 hi0 hz0 hz1 hz2 n13_ d_ _ _ _ (Zr HO3.out hB1) (some ⟨w3.heap.size,0,none⟩) 1 1 (Zy Xx [(c1,c2)]) rfl (Zw.flat (enc:=Xx) (k:=2) (fun _=>rfl) o_ hbl) (YR Zps _) n19_ o_ (Nat.le_trans HB3.out.size hB1.size);have HRUN:=h_ hrun;have HB4:=h_ ((HB3.out.trans (hB1.mono HB3.out.size)).grown hgrow (Nat.le_trans HB3.out.size hB1.size) (fun g hg=>(HO3.out.lt g hg).1));have HO4:=h_ (show w4.ownsRow w1.heap.size 64 2 v' (done++[(c1,c2)]).length (Zy Xx (done++[(c1,c2)])) by rw [ZN,List.length_append];exact hown4);clear hrun hown4 hgrow hbl hB1;unfold Xx at *;go_wp2_with (at_builtin;refine wpList_append_run rfl _ _ 25 rfl HRUN.out rfl rfl ?_);obtain ⟨oa3,cap3,rfl⟩:=ownsRow_form HO4.out;go_roundg (l.length-done.length)
      case measure=>omega
      case rel=>exact ⟨done.length+1,done++[(c1,c2)],o_,n15_,o_,s_,HO4,HE2,HB4⟩
   ·have hz:¬((done.length:Int)<(l.length:Int)):=o_
    have hE:Zax l=some done:=by rw [HE.out,List.drop_eq_nil_of_le o_];simp [Zax]
    have HQ:=h_ (show ps=done/\b=decide (0<done.length) from by have h:=HP.out;simp only [hE] at h;simp at h;exact ⟨h.1.symm,by rw [<-h.2]⟩);clear hE HE;have HO2:=h_ (ZkD Hown.out HB1.out.size);by_cases h0:0<done.length
    ·have h1:(0:Int)<(done.length:Int):=o_
     have h2:(done.length:Int)>0:=o_;go_wp2_with fail;obtain ⟨rfl,rfl⟩:=HQ.out;go_ret2;refine ⟨HB1.out.trans (HB.out.mono HB1.out.size),_,by rw [decide_eq_true h0];rfl,HO2.out⟩
    ·have h1:¬(0:Int)<(done.length:Int):=o_
     have h2:¬(done.length:Int)>0:=o_;go_wp2_with fail;obtain ⟨rfl,rfl⟩:=HQ.out;go_ret2;refine ⟨HB1.out.trans (HB.out.mono HB1.out.size),_,by rw [decide_eq_false h0];rfl,HO2.out⟩
end Go.Proofs.YtmgmbeipbeknaaaGreatDoor
