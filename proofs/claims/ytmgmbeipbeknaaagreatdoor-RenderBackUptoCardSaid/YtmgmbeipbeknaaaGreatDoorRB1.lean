import Derived.Lib.IndexMore
import Derived.Lib.CutLaws
import Derived.Test.YtmgmbeipbeknaaaGreatDoorRB0
namespace Go.Proofs.YtmgmbeipbeknaaaGreatDoor
set_option linter.all false
set_option maxHeartbeats 16000000
abbrev Str:=List UInt8
def hexOf(c:UInt8):Option Nat:=
 if 48<=c/\c<=57 then some (c.toNat-48) else if 97<=c/\c<=102 then some (c.toNat-87) else none
def Jh:Str->Option UInt8
 |a::b::_=>match hexOf a,hexOf b with
  |some x,some y=>some (UInt8.ofNat (16*x+y))
  |_,_=>none
 |_=>none
def Jz(c:UInt8):Bool:=(c<32&&c !=9)||c==127
def Zj(c:UInt8):Bool:=c==32||c==9
def Y0(c:UInt8):Bool:=c==39||c==34
def JB:Str->Option (UInt8×Nat)
 |c::r=>
  if c==92||c==34||c==39 then some (c,1)
  else if c==110 then some (10,1)
  else if c==116 then some (9,1)
  else if c==115 then some (32,1)
  else if c==120 then
   match Jh r with
   |some d=>if d=0 then none else some (d,3)
   |none=>none
  else none
 |[]=>none
def XZ:Str->Except Nat (UInt8×Nat)
 |[]=>.error 0
 |c::r=>
  if Jz c then .error 1
  else if c=92 then
   match JB r with
   |some (d,n)=>.ok (d,n+1)
   |none=>.error 13
  else .ok (c,1)
def Ym(q:UInt8):Nat->Str->Str->Except Nat (Str×Str)
 |0,_,_=>.error 0
 |_+1,[],_=>.error 13
 |f+1,c::r,bs=>
  if c=q then .ok (bs,r)
  else match XZ (c::r) with
   |.error e=>.error e
   |.ok (d,n)=>Ym q f ((c::r).drop n) (bs++[d])
def YN:Nat->Str->Str->Except Nat (Str×Str)
 |0,_,_=>.error 0
 |_+1,[],bs=>.ok (bs,[])
 |f+1,c::r,bs=>
  if Zj c then .ok (bs,c::r)
  else if Y0 c then
   match Ym c (r.length+1) r bs with
   |.error e=>.error e
   |.ok (bs',r')=>YN f r' bs'
  else match XZ (c::r) with
   |.error e=>.error e
   |.ok (d,n)=>YN f ((c::r).drop n) (bs++[d])
def JZ(l:Str):Nat:=
 match l with
 |[]=>2
 |c::r=>if Y0 c then 2 else match XZ (c::r) with
  |.error e=>e
  |.ok _=>2
def Y3:Nat->Str->List Str->Except Nat (List Str)
 |0,_,_=>.error 0
 |f+1,l,out=>
  match l.dropWhile Zj with
  |[]=>.ok out
  |c::r=>
   if out.length=32 then .error (JZ (c::r))
   else match YN (r.length+2) (c::r) [] with
    |.error e=>.error e
    |.ok (w,r')=>Y3 f r' (out++[w])
def split(l:Str):Except Nat (List Str):=Y3 (l.length+1) l []
def XP(w:Str):Bool:=
 match w with
 |[]=>false
 |c::_=>c !=45&&w.all fun c=>32<c&&c<127&&c !=39&&c !=34&&c !=92
def hexDigit(n:Nat):UInt8:=if n<10 then UInt8.ofNat (48+n) else UInt8.ofNat (87+n)
def YG(c:UInt8):Str:=[hexDigit (c.toNat / 16),hexDigit (c.toNat % 16)]
def ZI(c:UInt8):Str:=
 if c==34||c==92 then [92,c] else if 32<=c&&c<127 then [c] else 92::120::YG c
def Qt(w:Str):Str:=34::(w.flatMap ZI++[34])
def YC(w:Str):Str:=if XP w then w else Qt w
def Ya(sep:Str):List Str->Str
 |[]=>[]
 |[a]=>a
 |a::b::r=>a++sep++Ya sep (b::r)
def join(l:List Str):Str:=
 if 32<l.length then [] else if l.any (fun w=>w.contains 0) then [] else Ya [32] (l.map YC)
theorem JR{p:UInt8->Bool}(h:(List.range 256).all (fun n=>p (UInt8.ofNat n))=true):∀c,p c=true:=by
 intro c;have h':=c7_.1 h c.toNat (List.mem_range.2 (UInt8.toNat_lt c))
 rwa [UInt8.ofNat_toNat] at h'
def Yi(c:UInt8):Bool:=(97<=c&&c<=122)||(65<=c&&c<=90)
def isDigit(c:UInt8):Bool:=48<=c&&c<=57
def trimS(l:Str):Str:=(l.reverse.dropWhile Zj).reverse.dropWhile Zj
def ZbC(l:Str):Bool:=l.all fun c=>!Jz c
def Zbt(l:Str):Bool:=!l.isEmpty&&decide (l.length<=20)&&l.all Yi
def ZfS(l:Str):Bool:=!l.isEmpty&&decide (l.length<=40)&&l.all fun c=>Yi c||isDigit c
def Zds(s:Str):Bool:=s.getLast?==some 92
structure Ln where
 sec:Str
 key:Str
 val:Str
 at_:Int
deriving DecidableEq
def YT(l:Ln):Bool:=Zbt l.sec&&ZfS l.key&&ZbC l.val&&(trimS l.val==l.val)&&!Zds l.val&&decide (l.key.length+1+l.val.length<=400)
def ZaP(sec:Str):Str:=91::sec++[93,10]
def ZbD(l:Ln):Str:=l.key++61::l.val++[10]
def Yq:Option Str->List Ln->Str
 |_,[]=>[]
 |none,l::r=>ZaP l.sec++ZbD l++Yq (some l.sec) r
 |some s,l::r=>(if l.sec=s then [] else 10::ZaP l.sec)++ZbD l++Yq (some l.sec) r
def Xj(l:List Ln):Str:=Yq none l
def Zcc(l:List Ln):Bool:=l.all YT&&decide ((Xj l).length<=20000)
def ZkS(l:List Ln):Str:=if Zcc l then Xj l else []
def Zvu(a b:Ln):Prop:=a.sec=b.sec/\a.key=b.key/\a.val=b.val
theorem m13_{p:Prop}(h:p:=by
  split at h
  ·cases h
  ·rename_i d n ho
   have h1:=QK ho
   have:=Zcy h
   simp at *;omega):p:=h
theorem Zvo{r:Str}{d:UInt8}{n:Nat}(h:JB r=some (d,n)):1<=n/\n<=r.length/\d≠0:=by
 match r with
 |[]=>simp [JB] at h
 |a::r' =>
  simp only [JB] at h;split at h
  ·rename_i ha;cases h
   refine ⟨o_,s_,?_⟩;intro e;subst e;simp at ha
  ·split at h
   ·cases h;simp
   ·split at h
    ·cases h;simp
    ·split at h
     ·cases h;simp
     ·split at h
      ·split at h
       ·rename_i d'' h2
        split at h
        ·cases h
        ·rename_i hd
         cases h
         match r',h2 with
         |_::_::_,_=>exact ⟨o_,s_,hd⟩
         |[],h2=>simp [Jh] at h2
         |[_],h2=>simp [Jh] at h2
       ·cases h
      ·cases h
theorem ZoK{r:Str}{d:UInt8}{n:Nat}(t:Str)(h:JB r=some (d,n)):JB (r++t)=some (d,n):=by
 match r with
 |[]=>simp [JB] at h
 |a::r' =>
  simp only [JB,c12_] at h⊢;split
  ·rename_i ha;rw [if_pos ha] at h;exact h
  ·rename_i ha;rw [if_neg ha] at h
   split
   ·rename_i hb;rw [if_pos hb] at h;exact h
   ·rename_i hb;rw [if_neg hb] at h
    split
    ·rename_i hc;rw [if_pos hc] at h;exact h
    ·rename_i hc;rw [if_neg hc] at h
     split
     ·rename_i hd;rw [if_pos hd] at h;exact h
     ·rename_i hd;rw [if_neg hd] at h
      split
      ·rename_i he;rw [if_pos he] at h
       match r',h with
       |x::y::r2,h=>exact h
       |[],h=>simp [Jh] at h
       |[x],h=>simp [Jh] at h
      ·rename_i he;rw [if_neg he] at h;cases h
theorem QK{l:Str}{d:UInt8}{n:Nat}(h:XZ l=.ok (d,n)):1<=n/\n<=l.length/\d≠0:=by
 match l with
 |[]=>simp [XZ] at h
 |c::r=>
  simp only [XZ] at h;split at h
  ·cases h
  ·rename_i hb
   split at h
   ·split at h
    ·rename_i he
     cases h
     have:=Zvo he
     exact ⟨o_,n6_,this.2.2⟩
    ·cases h
   ·cases h
    refine ⟨o_,s_,?_⟩;intro e;subst e;simp [Jz] at hb
theorem Zel{l:Str}{d:UInt8}{n:Nat}(t:Str)(h:XZ l=.ok (d,n)):XZ (l++t)=.ok (d,n):=by
 match l with
 |[]=>simp [XZ] at h
 |c::r=>
  simp only [XZ,c12_] at h⊢;split
  ·rename_i hb;rw [if_pos hb] at h;cases h
  ·rename_i hb;rw [if_neg hb] at h
   split
   ·rename_i h92;rw [if_pos h92] at h
    split at h
    ·rename_i he
     rw [ZoK t he];exact h
    ·cases h
   ·rename_i h92;rw [if_neg h92] at h;exact h
def Quoted(q:UInt8)(l bs:Str):Except Nat (Str×Str):=Ym q (l.length+1) l bs
def Next(l bs:Str):Except Nat (Str×Str):=YN (l.length+1) l bs
def XH(l:Str)(out:List Str):Except Nat (List Str):=Y3 (l.length+1) l out
theorem Zgp(q:UInt8):∀(f g:Nat) (l bs:Str),l.length<f->l.length<g->Ym q f l bs=Ym q g l bs
 |0,_,_,_,h,_=>absurd h o_
 |_+1,0,_,_,_,h=>absurd h o_
 |f+1,g+1,[],bs,_,_=>rfl
 |f+1,g+1,c::r,bs,hf,hg=>by
  simp only [Ym];split
  ·rfl
  ·split
   ·rfl
   ·rename_i d n ho
    have:=QK ho
    exact Zgp q f g _ _ n20_ n20_
theorem Jo(q:UInt8)(r bs:Str):Quoted q (q::r) bs=.ok (bs,r):=by
 simp [Quoted,Ym]
theorem Zei{q c:UInt8}{r bs:Str}{e:Nat}(hc:c≠q)(ho:XZ (c::r)=.error e):Quoted q (c::r) bs=.error e:=by
 simp [Quoted,Ym,hc,ho]
theorem Zb6{q c:UInt8}{r bs:Str}{d:UInt8}{n:Nat}(hc:c≠q)(ho:XZ (c::r)=.ok (d,n)):Quoted q (c::r) bs=Quoted q ((c::r).drop n) (bs++[d]):=by
 have:=QK ho
 simp only [Quoted,Ym,hc,if_false,ho];exact Zgp q _ _ _ _ n20_ (by simp at *)
theorem XE{q:UInt8}{bs' r':Str}:∀{f:Nat} {l bs:Str},Ym q f l bs=.ok (bs',r')->r'.length<l.length
 |0,_,_,h=>n82_
 |f+1,[],_,h=>n82_
 |f+1,a::r,bs,h=>by
  simp only [Ym] at h;split at h
  ·cases h;simp
  ·split at h
   ·cases h
   ·rename_i d n ho
    have h1:=QK ho
    have:=XE h
    simp at *;omega
theorem ZdH:∀(f g:Nat) (l bs:Str),l.length<f->l.length<g->YN f l bs=YN g l bs
 |0,_,_,_,h,_=>absurd h o_
 |_+1,0,_,_,_,h=>absurd h o_
 |f+1,g+1,[],bs,_,_=>rfl
 |f+1,g+1,c::r,bs,hf,hg=>by
  simp only [YN];split
  ·rfl
  ·split
   ·split
    ·rfl
    ·rename_i hq
     have:=XE hq
     exact ZdH f g _ _ n20_ n20_
   ·split
    ·rfl
    ·rename_i d n ho
     have:=QK ho
     exact ZdH f g _ _ n20_ n20_
theorem ZmH(bs:Str):Next [] bs=.ok (bs,[]):=rfl
theorem Zba{c:UInt8}(r bs:Str)(h:Zj c=true):Next (c::r) bs=.ok (bs,c::r):=by simp [Next,YN,h]
theorem ZaJ{c:UInt8}{r bs:Str}{e:Nat}(h:Zj c=false)(hq:Y0 c=true)(hQ:Quoted c r bs=.error e):Next (c::r) bs=.error e:=by
 unfold Quoted at hQ;simp [Next,YN,h,hq,hQ]
theorem QU{c:UInt8}{r bs bs' r':Str}(h:Zj c=false)(hq:Y0 c=true)(hQ:Quoted c r bs=.ok (bs',r')):Next (c::r) bs=Next r' bs':=by
 have:=XE hQ
 unfold Quoted at hQ;simp only [Next,YN,h,hq,hQ,Bool.false_eq_true,if_false,if_true];exact ZdH _ _ _ _ n20_ o_
theorem Zch{c:UInt8}{r bs:Str}{e:Nat}(h:Zj c=false)(hq:Y0 c=false)(ho:XZ (c::r)=.error e):Next (c::r) bs=.error e:=by
 simp [Next,YN,h,hq,ho]
theorem J6{c:UInt8}{r bs:Str}{d:UInt8}{n:Nat}(h:Zj c=false)(hq:Y0 c=false)(ho:XZ (c::r)=.ok (d,n)):Next (c::r) bs=Next ((c::r).drop n) (bs++[d]):=by
 have:=QK ho
 simp only [Next,YN,h,hq,ho,Bool.false_eq_true,if_false];exact ZdH _ _ _ _ n20_ (by simp at *)
theorem Zcy{x r:Str}:∀{f:Nat} {l bs:Str},YN f l bs=.ok (x,r)->r.length<=l.length
 |0,_,_,h=>n82_
 |f+1,[],_,h=>by cases h;simp
 |f+1,a::l,bs,h=>by
  simp only [YN] at h;split at h
  ·cases h;simp
  ·split at h
   ·split at h
    ·cases h
    ·rename_i hq
     have h1:=XE hq;have h2:=Zcy h;simp at *;omega
   ·exact m13_
theorem Jb{x r:Str}{f:Nat}{a:UInt8}{l bs:Str}(ha:Zj a=false)(h:YN f (a::l) bs=.ok (x,r)):r.length<=l.length:=by
 cases f with
 |zero=>cases h
 |succ f=>
  simp only [YN] at h;split at h
  ·rename_i h';rw [ha] at h';cases h'
  ·split at h
   ·split at h
    ·cases h
    ·rename_i hq
     have h1:=XE hq;have h2:=Zcy h;omega
   ·exact m13_
theorem XT{l r:Str}{c:UInt8}(h:l.dropWhile Zj=c::r):Zj c=false:=by
 induction l with
 |nil=>cases h
 |cons a l ih=>
  rw [List.dropWhile_cons] at h;split at h
  ·exact ih h
  ·rename_i ha;cases h;simpa using ha
theorem XI(l:Str):(l.dropWhile Zj).length<=l.length:=(List.dropWhile_sublist Zj).length_le
theorem ZeC:∀(f g:Nat) (l:Str) (out:List Str),l.length<f->l.length<g->Y3 f l out=Y3 g l out
 |0,_,_,_,h,_=>absurd h o_
 |_+1,0,_,_,_,h=>absurd h o_
 |f+1,g+1,l,out,hf,hg=>by
  have hd:=XI l;simp only [Y3];split
  ·rfl
  ·rename_i c r hcr
   split
   ·rfl
   ·split
    ·rfl
    ·rename_i w r' hn
     have h1:=Jb (XT hcr) hn;rw [hcr] at hd;exact ZeC f g _ _ n20_ n20_
theorem Zcs{l:Str}{out:List Str}(h:l.dropWhile Zj=[]):XH l out=.ok out:=by simp [XH,Y3,h]
theorem Zbr{l:Str}{out:List Str}{c:UInt8}{r:Str}(h:l.dropWhile Zj=c::r)(h32:out.length=32):XH l out=.error (JZ (c::r)):=by simp [XH,Y3,h,h32]
theorem Zcf{l:Str}{out:List Str}{c:UInt8}{r:Str}{e:Nat}(h:l.dropWhile Zj=c::r)(h32:out.length≠32)(hn:Next (c::r) []=.error e):XH l out=.error e:=by
 unfold Next at hn;simp only [c14_] at hn;simp [XH,Y3,h,h32,hn]
theorem JL{l:Str}{out:List Str}{c:UInt8}{r w r':Str}(h:l.dropWhile Zj=c::r)(h32:out.length≠32)(hn:Next (c::r) []=.ok (w,r')):XH l out=XH r' (out++[w]):=by
 have h1:=Jb (XT h) hn;have hd:=XI l;rw [h] at hd;unfold Next at hn;simp only [c14_] at hn;simp only [XH,Y3,h,h32,if_false,hn];exact ZeC l.length (r'.length+1) r' _ (by simp at hd;omega) o_
theorem Zj0(l:Str)(out:List Str):XH (l.dropWhile Zj) out=XH l out:=by
 have e:(l.dropWhile Zj).dropWhile Zj=l.dropWhile Zj:=by
  induction l with
  |nil=>rfl
  |cons a l ih=>
   by_cases h:Zj a=true
   ·rw [List.dropWhile_cons,if_pos h,ih]
   ·rw [List.dropWhile_cons,if_neg h,List.dropWhile_cons,if_neg h]
 have hd:=XI l;unfold XH;rw [ZeC ((l.dropWhile Zj).length+1) (l.length+1) _ _ o_ o_];simp only [Y3,e]
theorem ZdR{q:UInt8}(t:Str):∀{f:Nat} {l bs bs' r':Str},l.length<f->Quoted q l bs=.ok (bs',r')->Quoted q (l++t) bs=.ok (bs',r'++t)
 |0,_,_,_,_,h,_=>absurd h o_
 |f+1,[],_,_,_,_,h=>n82_
 |f+1,c::r,bs,bs',r',hf,h=>by
  by_cases hc:c=q
  ·subst hc
   rw [Jo] at h;cases h
   rw [c12_,Jo]
  ·cases ho:XZ (c::r) with
   |error e=>rw [Zei hc ho] at h;cases h
   |ok x=>
    obtain ⟨d,n⟩:=x;rw [Zb6 hc ho] at h;have h1:=QK ho;have ho':=Zel t ho;rw [c12_] at ho'⊢;rw [Zb6 hc ho'];have e:(c::(r++t)).drop n=(c::r).drop n++t:=by
     rw [<-c12_,List.drop_append_of_le_length h1.2.1]
    rw [e];exact ZdR t (f:=f) n20_ h
theorem Zdu(t:Str):∀{f:Nat} {l bs w r':Str},l.length<f->Next l bs=.ok (w,r')->Next (l++32::t) bs=.ok (w,r'++32::t)
 |0,_,_,_,_,h,_=>absurd h o_
 |f+1,[],bs,_,_,_,h=>by
  cases h
  rw [List.nil_append,Zba _ _ rfl];try rfl
 |f+1,c::r,bs,w,r',hf,h=>by
  cases hb:Zj c with
  |true=>
   rw [Zba _ _ hb] at h;cases h
   rw [c12_,Zba _ _ hb]
  |false=>
   cases hq:Y0 c with
   |true=>
    cases hQ:Quoted c r bs with
    |error e=>rw [ZaJ hb hq hQ] at h;cases h
    |ok x=>
     obtain ⟨bs',r2⟩:=x;rw [QU hb hq hQ] at h;have h2:r2.length<r.length:=XE hQ;have hQ':=ZdR (32::t) (f:=r.length+1) o_ hQ;rw [c12_,QU hb hq hQ'];exact Zdu t (f:=f) n20_ h
   |false=>
    cases ho:XZ (c::r) with
    |error e=>rw [Zch hb hq ho] at h;cases h
    |ok x=>
     obtain ⟨d,n⟩:=x;rw [J6 hb hq ho] at h;have h1:=QK ho;have ho':=Zel (32::t) ho;rw [c12_] at ho'⊢;rw [J6 hb hq ho'];have e:(c::(r++32::t)).drop n=(c::r).drop n++32::t:=by
      rw [<-c12_,List.drop_append_of_le_length h1.2.1]
     rw [e];exact Zdu t (f:=f) n20_ h
theorem dropWhile_append{l t:Str}{c:UInt8}{r:Str}(h:l.dropWhile Zj=c::r):(l++t).dropWhile Zj=c::(r++t):=by
 induction l with
 |nil=>cases h
 |cons a l ih=>
  rw [List.dropWhile_cons] at h;rw [c12_,List.dropWhile_cons];split
  ·rename_i ha;rw [if_pos ha] at h;exact ih h
  ·rename_i ha;rw [if_neg ha] at h;cases h;rfl
theorem Zc4{l t:Str}(h:l.dropWhile Zj=[]):(l++32::t).dropWhile Zj=t.dropWhile Zj:=by
 induction l with
 |nil=>rfl
 |cons a l ih=>
  rw [List.dropWhile_cons] at h;split at h
  ·rename_i ha
   rw [c12_,List.dropWhile_cons,if_pos ha];exact ih h
  ·cases h
theorem Zd4(t:Str):∀{f:Nat} {l:Str} {out x:List Str},l.length<f->XH l out=.ok x->XH (l++32::t) out=XH t x
 |0,_,_,_,h,_=>absurd h o_
 |f+1,l,out,x,hf,h=>by
  cases hd:l.dropWhile Zj with
  |nil=>
   rw [Zcs hd] at h;cases h
   rw [<-Zj0 (l++32::t),Zc4 hd,Zj0]
  |cons c r=>
   by_cases h32:out.length=32
   ·rw [Zbr hd h32] at h;cases h
   ·cases hn:Next (c::r) [] with
    |error e=>rw [Zcf hd h32 hn] at h;cases h
    |ok y=>
     obtain ⟨w,r'⟩:=y;rw [JL hd h32 hn] at h;have hl:=XI l;rw [hd] at hl;have h1:r'.length<=r.length:=Jb (XT hd) hn;have hn':=Zdu t (f:=(c::r).length+1) o_ hn;rw [c12_] at hn';rw [JL (dropWhile_append hd) h32 hn'];exact Zd4 t (f:=f) n20_ h
theorem ZbV(l:Str):split l=XH l []:=rfl
theorem ZoO{c:UInt8}(r:Str)(hb:Jz c=false)(h:c≠92):XZ (c::r)=.ok (c,1):=by simp [XZ,hb,h]
theorem ZiS(c:UInt8)(h:c≠0):XZ (ZI c)=.ok (c,(ZI c).length)/\∃a r,ZI c=a::r/\a≠34:=by
 have:=JR (p:=fun c=>c==0||((match XZ (ZI c) with|.ok (d,n)=>d==c&&n==(ZI c).length|.error _=>false)&&(match ZI c with|a::_=>a !=34|[]=>false))) n1_ c
 have h0:(c==0)=false:=n32_;rw [h0,Bool.false_or,Bool.and_eq_true] at this;obtain ⟨h1,h2⟩:=this;constructor
 ·split at h1
  ·rename_i d n ho
   rw [Bool.and_eq_true] at h1;rw [eq_of_beq h1.1,eq_of_beq h1.2] at ho;exact ho
  ·cases h1
 ·split at h2
  ·rename_i a r hq
   exact ⟨a,r,hq,n64_⟩
  ·cases h2
theorem ZlO{c:UInt8}(h:c≠0)(t bs:Str):Quoted 34 (ZI c++t) bs=Quoted 34 t (bs++[c]):=by
 obtain ⟨ho,a,r,hq,ha⟩:=ZiS c h;have ho':=Zel t ho;rw [hq] at ho'⊢;rw [c12_] at ho'⊢;rw [Zb6 ha ho'];congr 1;rw [<-c12_,List.drop_left]
theorem ZhB:∀(w t bs:Str),w.contains 0=false->Quoted 34 (w.flatMap ZI++34::t) bs=.ok (bs++w,t)
 |[],t,bs,_=>by rw [List.flatMap_nil,List.nil_append,Jo];simp
 |c::w,t,bs,h=>by
  have hc:c≠0:=by intro e;subst e;simp at h
  have hw:w.contains 0=false:=by
   rw [List.contains_cons,Bool.or_eq_false_iff] at h;exact h.2
  rw [List.flatMap_cons,List.append_assoc,ZlO hc,ZhB w t _ hw];simp
theorem Zg1(c:UInt8)(h:(32<c&&c<127&&c !=39&&c !=34&&c !=92)=true):Jz c=false/\c≠92/\Zj c=false/\Y0 c=false:=by
 have:=JR (p:=fun c=>!(32<c&&c<127&&c !=39&&c !=34&&c !=92)||(!Jz c&&c !=92&&!Zj c&&!Y0 c)) n1_ c
 rw [h] at this;simpa [and_assoc] using this
theorem ZiB:∀(w bs:Str),(∀c∈w,(32<c&&c<127&&c !=39&&c !=34&&c !=92)=true)->Next w bs=.ok (bs++w,[])
 |[],bs,_=>by rw [ZmH];simp
 |c::w,bs,h=>by
  obtain ⟨h1,h2,h3,h4⟩:=Zg1 c (h c s_);rw [J6 h3 h4 (ZoO _ h1 h2),List.drop_succ_cons,List.drop_zero,ZiB w _ (fun c hc=>h c (by simp [hc]))];simp
theorem Zgm{w:Str}(h0:w.contains 0=false){out:List Str}(h32:out.length≠32):XH (YC w) out=.ok (out++[w]):=by
 unfold YC;split
 ·rename_i hp
  match w,hp with
  |c::r,hp=>
   simp only [XP,Bool.and_eq_true] at hp;have hall:=c7_.1 hp.2;obtain ⟨h1,h2,h3,h4⟩:=Zg1 c (hall c s_);rw [JL (c:=c) (r:=r) (w:=c::r) (r':=[]) (by rw [List.dropWhile_cons,if_neg (by simp [h3])]) h32 (ZiB _ [] (fun c hc=>hall c hc))];rfl
 ·unfold Qt
  rw [JL (c:=34) (r:=w.flatMap ZI++[34]) (w:=w) (r':=[]) rfl h32 (by
   rw [QU rfl rfl (ZhB w [] [] h0),ZmH];simp)]
  rfl
theorem Zgf:∀(l:List Str) (out:List Str),l.any (fun w=>w.contains 0)=false->out.length+l.length<=32->XH (Ya [32] (l.map YC)) out=.ok (out++l)
 |[],out,_,_=>by simp only [List.map_nil,Ya,List.append_nil];rfl
 |[w],out,h,hl=>by
  simp only [List.map_cons,List.map_nil,Ya];exact Zgm n32_ (by simp at hl;omega)
 |a::b::r,out,h,hl=>by
  simp only [List.any_cons,Bool.or_eq_false_iff] at h;simp only [List.map_cons,Ya];rw [List.append_assoc,List.singleton_append,Zd4 _ (f:=(YC a).length+1) o_ (Zgm h.1 (by simp at hl;omega))];have ih:=Zgf (b::r) (out++[a]) (by simp only [List.any_cons,Bool.or_eq_false_iff];exact h.2) (by simp at hl⊢;omega);simp only [List.map_cons] at ih;rw [ih];simp
theorem ZiH(l:List Str)(h0:l.any (fun w=>w.contains 0)=false)(hl:l.length<=32):split (join l)=.ok l:=by
 unfold join;rw [if_neg o_,h0,ZbV];simp only [Bool.false_eq_true,if_false];rw [Zgf l [] h0 (by simpa using hl)];simp
theorem ZgC{q:UInt8}:∀{f:Nat} {l bs bs' r':Str},l.length<f->Quoted q l bs=.ok (bs',r')->bs.contains 0=false->bs'.contains 0=false
 |0,_,_,_,_,h,_,_=>absurd h o_
 |f+1,[],_,_,_,_,h,_=>n82_
 |f+1,c::r,bs,bs',r',hf,h,hz=>by
  by_cases hc:c=q
  ·subst hc;rw [Jo] at h;cases h;exact hz
  ·cases ho:XZ (c::r) with
   |error e=>rw [Zei hc ho] at h;cases h
   |ok x=>
    obtain ⟨d,n⟩:=x;rw [Zb6 hc ho] at h;have h1:=QK ho;refine ZgC (f:=f) n20_ h ?_;have h3:¬0=d:=fun e=>h1.2.2 e.symm
    simpa [h3] using hz
theorem ZfY:∀{f:Nat} {l bs w r':Str},l.length<f->Next l bs=.ok (w,r')->bs.contains 0=false->w.contains 0=false
 |0,_,_,_,_,h,_,_=>absurd h o_
 |f+1,[],_,_,_,_,h,hz=>by cases h;exact hz
 |f+1,c::r,bs,w,r',hf,h,hz=>by
  cases hb:Zj c with
  |true=>rw [Zba _ _ hb] at h;cases h;exact hz
  |false=>
   cases hq:Y0 c with
   |true=>
    cases hQ:Quoted c r bs with
    |error e=>rw [ZaJ hb hq hQ] at h;cases h
    |ok x=>
     obtain ⟨bs',r2⟩:=x;rw [QU hb hq hQ] at h;have h2:r2.length<r.length:=XE hQ;exact ZfY (f:=f) n20_ h (ZgC (f:=r.length+1) o_ hQ hz)
   |false=>
    cases ho:XZ (c::r) with
    |error e=>rw [Zch hb hq ho] at h;cases h
    |ok x=>
     obtain ⟨d,n⟩:=x;rw [J6 hb hq ho] at h;have h1:=QK ho;refine ZfY (f:=f) n20_ h ?_;have h3:¬0=d:=fun e=>h1.2.2 e.symm
     simpa [h3] using hz
theorem Zbz:∀{f:Nat} {l:Str} {out x:List Str},l.length<f->XH l out=.ok x->out.any (fun w=>w.contains 0)=false->out.length<=32->x.any (fun w=>w.contains 0)=false/\x.length<=32
 |0,_,_,_,h,_,_,_=>absurd h o_
 |f+1,l,out,x,hf,h,hz,hl=>by
  cases hd:l.dropWhile Zj with
  |nil=>rw [Zcs hd] at h;cases h;exact ⟨hz,hl⟩
  |cons c r=>
   by_cases h32:out.length=32
   ·rw [Zbr hd h32] at h;cases h
   ·cases hn:Next (c::r) [] with
    |error e=>rw [Zcf hd h32 hn] at h;cases h
    |ok y=>
     obtain ⟨w,r'⟩:=y;rw [JL hd h32 hn] at h;have hdl:=XI l;rw [hd] at hdl;have h1:r'.length<=r.length:=Jb (XT hd) hn;have hw:=ZfY (f:=(c::r).length+1) o_ hn rfl;exact Zbz (f:=f) n20_ h (by rw [List.any_append,hz];simp only [List.any_cons,hw];rfl) n6_
theorem Zhq{s:Str}{l:List Str}(h:split s=.ok l):split (join l)=.ok l/\l.length<=32:=by
 rw [ZbV] at h;obtain ⟨h1,h2⟩:=Zbz (f:=s.length+1) o_ h rfl s_;exact ⟨ZiH l h1 h2,h2⟩
theorem Zgz{q:UInt8}:∀{f:Nat} {l bs bs' r':Str},l.length<f->Quoted q l bs=.ok (bs',r')->bs'.length+r'.length<=bs.length+l.length
 |0,_,_,_,_,h,_=>absurd h o_
 |f+1,[],_,_,_,_,h=>n82_
 |f+1,c::r,bs,bs',r',hf,h=>by
  by_cases hc:c=q
  ·subst hc;rw [Jo] at h;cases h;simp
  ·cases ho:XZ (c::r) with
   |error e=>rw [Zei hc ho] at h;cases h
   |ok x=>
    obtain ⟨d,n⟩:=x;rw [Zb6 hc ho] at h;have h1:=QK ho
    have:=Zgz (f:=f) n20_ h
    simp at *;omega
theorem ZdL:∀{f:Nat} {l bs w r':Str},l.length<f->Next l bs=.ok (w,r')->w.length+r'.length<=bs.length+l.length
 |0,_,_,_,_,h,_=>absurd h o_
 |f+1,[],_,_,_,_,h=>by cases h;simp
 |f+1,c::r,bs,w,r',hf,h=>by
  cases hb:Zj c with
  |true=>rw [Zba _ _ hb] at h;cases h;simp
  |false=>
   cases hq:Y0 c with
   |true=>
    cases hQ:Quoted c r bs with
    |error e=>rw [ZaJ hb hq hQ] at h;cases h
    |ok x=>
     obtain ⟨bs',r2⟩:=x;rw [QU hb hq hQ] at h;have h2:r2.length<r.length:=XE hQ;have h3:=Zgz (f:=r.length+1) o_ hQ
     have:=ZdL (f:=f) n20_ h
     simp at *;omega
   |false=>
    cases ho:XZ (c::r) with
    |error e=>rw [Zch hb hq ho] at h;cases h
    |ok x=>
     obtain ⟨d,n⟩:=x;rw [J6 hb hq ho] at h;have h1:=QK ho
     have:=ZdL (f:=f) n20_ h
     simp at *;omega
theorem Zgl{m:Nat}:∀{f:Nat} {l:Str} {out x:List Str},l.length<f->l.length<=m->XH l out=.ok x->(∀w∈out,w.length<=m)->∀w∈x,w.length<=m
 |0,_,_,_,h,_,_,_=>absurd h o_
 |f+1,l,out,x,hf,hm,h,ho=>by
  cases hd:l.dropWhile Zj with
  |nil=>rw [Zcs hd] at h;cases h;exact ho
  |cons c r=>
   by_cases h32:out.length=32
   ·rw [Zbr hd h32] at h;cases h
   ·cases hn:Next (c::r) [] with
    |error e=>rw [Zcf hd h32 hn] at h;cases h
    |ok y=>
     obtain ⟨w,r'⟩:=y;rw [JL hd h32 hn] at h;have hdl:=XI l;rw [hd] at hdl;have h1:r'.length<=r.length:=Jb (XT hd) hn;have h2:=ZdL (f:=(c::r).length+1) o_ hn;refine Zgl (f:=f) n20_ n20_ h ?_;intro z hz;rcases List.mem_append.1 hz with hz|hz
     ·exact ho z hz
     ·simp at hz;subst hz;simp at *;omega
theorem Zoe{s:Str}{l:List Str}(h:split s=.ok l):∀w∈l,w.length<=s.length:=by
 rw [ZbV] at h;exact Zgl (f:=s.length+1) o_ l_ h s_
def XU(s:Str):Option (Bool×List Str):=
 match split (Go.Lib.trimPrefix s [45]) with
 |.ok (x::t)=>if x=[] then none else some (Go.Lib.hasPrefix s [45],x::t)
 |_=>none
def Zui(c:UInt8):Bool:=([Yi,isDigit,fun c=>([95]:Str).contains c]:List (UInt8->Bool)).any fun p=>p c
def Zfy(s:Str):Bool:=(!s.isEmpty&&decide (s.length<=60)&&s.all Zui)&&!(isDigit (s.headD 0))
def JG:List Str->Option (List (Str×Str))
 |[]=>some []
 |w::t=>if (Go.Lib.cut w [61]).2.2=true/\Zfy (Go.Lib.cut w [61]).1=true then (JG t).map fun r=>((Go.Lib.cut w [61]).1,(Go.Lib.cut w [61]).2.1)::r else none
def Zay(s:Str):List (Str×Str)×Bool:=
 match split s with
 |.error _=>([],false)
 |.ok l=>match JG l with
  |none=>([],false)
  |some ps=>(ps,decide (0<ps.length))
theorem Zbm(s:Str)(l:List Str)(h:split s=.ok l):l.length<=32/\∀x∈l,x.length<=s.length:=⟨(Zhq h).2,Zoe h⟩
end Go.Proofs.YtmgmbeipbeknaaaGreatDoor
