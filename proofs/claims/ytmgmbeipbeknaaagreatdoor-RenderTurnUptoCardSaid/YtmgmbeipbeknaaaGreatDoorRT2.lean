import Derived.Lib.FieldsP
import Derived.Laws.RangeAny
import Derived.Test.YtmgmbeipbeknaaaGreatDoorRT0
namespace Go.Proofs.YtmgmbeipbeknaaaGreatDoor
set_option linter.unusedVariables false
set_option linter.unusedSimpArgs false
set_option maxHeartbeats 16000000
abbrev Str:=List UInt8
def hexOf(c:UInt8):Option Nat:=
 if 48<=c/\c<=57 then some (c.toNat-48) else if 97<=c/\c<=102 then some (c.toNat-87) else none
def Qj:Str->Option UInt8
 |a::b::_=>match hexOf a,hexOf b with
  |some x,some y=>some (UInt8.ofNat (16*x+y))
  |_,_=>none
 |_=>none
def XW(c:UInt8):Bool:=(c<32&&c !=9)||c==127
def Zg(c:UInt8):Bool:=c==32||c==9
def Yq(c:UInt8):Bool:=c==39||c==34
def QG:Str->Option (UInt8×Nat)
 |c::r=>
  if c==92||c==34||c==39 then some (c,1)
  else if c==110 then some (10,1)
  else if c==116 then some (9,1)
  else if c==115 then some (32,1)
  else if c==120 then
   match Qj r with
   |some d=>if d=0 then none else some (d,3)
   |none=>none
  else none
 |[]=>none
def Xa:Str->Except Nat (UInt8×Nat)
 |[]=>.error 0
 |c::r=>
  if XW c then .error 1
  else if c=92 then
   match QG r with
   |some (d,n)=>.ok (d,n+1)
   |none=>.error 13
  else .ok (c,1)
def ZU(q:UInt8):Nat->Str->Str->Except Nat (Str×Str)
 |0,_,_=>.error 0
 |_+1,[],_=>.error 13
 |f+1,c::r,bs=>
  if c=q then .ok (bs,r)
  else match Xa (c::r) with
   |.error e=>.error e
   |.ok (d,n)=>ZU q f ((c::r).drop n) (bs++[d])
def Yd:Nat->Str->Str->Except Nat (Str×Str)
 |0,_,_=>.error 0
 |_+1,[],bs=>.ok (bs,[])
 |f+1,c::r,bs=>
  if Zg c then .ok (bs,c::r)
  else if Yq c then
   match ZU c (r.length+1) r bs with
   |.error e=>.error e
   |.ok (bs',r')=>Yd f r' bs'
  else match Xa (c::r) with
   |.error e=>.error e
   |.ok (d,n)=>Yd f ((c::r).drop n) (bs++[d])
def QY(l:Str):Nat:=
 match l with
 |[]=>2
 |c::r=>if Yq c then 2 else match Xa (c::r) with
  |.error e=>e
  |.ok _=>2
def Yx:Nat->Str->List Str->Except Nat (List Str)
 |0,_,_=>.error 0
 |f+1,l,out=>
  match l.dropWhile Zg with
  |[]=>.ok out
  |c::r=>
   if out.length=32 then .error (QY (c::r))
   else match Yd (r.length+2) (c::r) [] with
    |.error e=>.error e
    |.ok (w,r')=>Yx f r' (out++[w])
def split(l:Str):Except Nat (List Str):=Yx (l.length+1) l []
def ZbQ(w:Str):Bool:=
 match w with
 |[]=>false
 |c::_=>c !=45&&w.all fun c=>32<c&&c<127&&c !=39&&c !=34&&c !=92
def hexDigit(n:Nat):UInt8:=if n<10 then UInt8.ofNat (48+n) else UInt8.ofNat (87+n)
def XM(c:UInt8):Str:=[hexDigit (c.toNat / 16),hexDigit (c.toNat % 16)]
def ZA(c:UInt8):Str:=
 if c==34||c==92 then [92,c] else if 32<=c&&c<127 then [c] else 92::120::XM c
def ZbB(w:Str):Str:=34::(w.flatMap ZA++[34])
def Y6(w:Str):Str:=if ZbQ w then w else ZbB w
def YB(sep:Str):List Str->Str
 |[]=>[]
 |[a]=>a
 |a::b::r=>a++sep++YB sep (b::r)
def join(l:List Str):Str:=
 if 32<l.length then [] else if l.any (fun w=>w.contains 0) then [] else YB [32] (l.map Y6)
theorem Ju{p:UInt8->Bool}(h:(List.range 256).all (fun n=>p (UInt8.ofNat n))=true):∀c,p c=true:=by
 intro c;have h':=List.all_eq_true.1 h c.toNat (List.mem_range.2 (UInt8.toNat_lt c))
 rwa [UInt8.ofNat_toNat] at h'
def ZR(c:UInt8):Bool:=(97<=c&&c<=122)||(65<=c&&c<=90)
def isDigit(c:UInt8):Bool:=48<=c&&c<=57
def trimS(l:Str):Str:=(l.reverse.dropWhile Zg).reverse.dropWhile Zg
def YF(l:Str):Bool:=match trimS l with
 |c::_=>c==35||c==59
 |[]=>false
def JZ(l:Str):Bool:=(trimS l).isEmpty
def Xo(l:Str):Bool:=l.all fun c=>!XW c
def XJ(l:Str):Bool:=!l.isEmpty&&decide (l.length<=20)&&l.all ZR
def ZaI(l:Str):Bool:=!l.isEmpty&&decide (l.length<=40)&&l.all fun c=>ZR c||isDigit c
def YW:Str->List Str
 |[]=>[[]]
 |c::r=>if c==10 then []::YW r else match YW r with
  |[]=>[[c]]
  |x::xs=>(c::x)::xs
def YD(s:Str):Bool:=s.getLast?==some 92
def Yu:Str->List Str->Nat->Str×List Str×Nat
 |s,[],n=>if YD s then (s.dropLast++[32],[],n) else (s,[],n)
 |s,x::r,n=>if YD s then (if YF x then Yu s r (n+1) else Yu (s.dropLast++[32]++x) r (n+1)) else (s,x::r,n)
def Jq:Nat->List Str->Nat->List (Str×Nat)
 |0,_,_=>[]
 |_+1,[],_=>[]
 |f+1,x::r,n=>
  if YF x||JZ x then Jq f r (n+1)
  else ((Yu x r (n+1)).1,n+1)::Jq f (Yu x r (n+1)).2.1 (Yu x r (n+1)).2.2
inductive Says where
 |err (c:Nat)
 |nothing
 |sect (name:Str)
 |pair (k v:Str)
def XV:Str->Option (Str×Str)
 |[]=>none
 |c::r=>if c==61 then some ([],r) else match XV r with
  |some (a,b)=>some (c::a,b)
  |none=>none
def J5(sec s:Str):Says:=
 if Xo s then
  if s.length<=400 then
   match trimS s with
   |[]=>.nothing
   |c::t=>
    if c==91 then
     (if t.getLast?==some 93&&XJ t.dropLast then .sect t.dropLast else .err 10)
    else match XV (c::t) with
     |none=>.err 9
     |some (k,v)=>if ZaI (trimS k) then (if sec.isEmpty then .err 10 else .pair (trimS k) (trimS v)) else .err 9
  else .err 2
 else .err 1
structure Ln where
 sec:Str
 key:Str
 val:Str
 at_:Int
deriving DecidableEq
def Qn:List (Str×Nat)->Str->List Ln->Except (Nat×Nat) (List Ln)
 |[],_,out=>.ok out
 |(s,n)::r,sec,out=>match J5 sec s with
  |.err c=>.error (c,n)
  |.nothing=>Qn r sec out
  |.sect name=>Qn r name out
  |.pair k v=>Qn r sec (out++[⟨sec,k,v,(n:Int)⟩])
def Zlp(rows:List Str):Except (Nat×Nat) (List Ln):=Qn (Jq (rows.length+1) rows 0) [] []
def ZhX(t:Str):Except (Nat×Nat) (List Ln):=if t.length<=20000 then Zlp (YW t) else .error (2,0)
def Qt(l:Ln):Bool:=XJ l.sec&&ZaI l.key&&Xo l.val&&(trimS l.val==l.val)&&!YD l.val&&decide (l.key.length+1+l.val.length<=400)
def Zcu(sec:Str):Str:=91::sec++[93,10]
def ZbU(l:Ln):Str:=l.key++61::l.val++[10]
def Yt:Option Str->List Ln->Str
 |_,[]=>[]
 |none,l::r=>Zcu l.sec++ZbU l++Yt (some l.sec) r
 |some s,l::r=>(if l.sec=s then [] else 10::Zcu l.sec)++ZbU l++Yt (some l.sec) r
def Qa(l:List Ln):Str:=Yt none l
def ZdE(l:List Ln):Bool:=l.all Qt&&decide ((Qa l).length<=20000)
def Zig(l:List Ln):Str:=if ZdE l then Qa l else []
def Zsa(a b:Ln):Prop:=a.sec=b.sec/\a.key=b.key/\a.val=b.val
open Go
def Zbm:Str->Str->List Str
 |[],cur=>if cur.isEmpty then [] else [cur]
 |c::t,cur=>if c=32 then (if cur.isEmpty then Zbm t [] else cur::Zbm t []) else Zbm t (cur++[c])
def Zo(s:Str):List Str:=Zbm s []
theorem Zhh:∀(t u x:Str),(∀c∈t,c≠32)->Zbm (t++u) x=Zbm u (x++t)
 |[],u,x,_=>s_
 |c::t,u,x,h=>by
  have hc:c≠32:=h c s_;rw [List.cons_append,Zbm,if_neg hc,Zhh t u (x++[c]) (fun d hd=>h d (by simp [hd]))];simp
theorem ZqV(c:UInt8)(h:c.toNat / 64=2):c≠32:=by
 rintro rfl;simp at h
theorem Ziw(s:ByteArray)(pos:Nat)(h:pos<s.size)(h32:s.get! pos≠32) :
  (Utf8.decode s pos).1≠32/\1<=(Utf8.decode s pos).2/\pos+(Utf8.decode s pos).2<=s.size/\∀k,k<(Utf8.decode s pos).2->s.get! (pos+k)≠32:=by
 have h0:s.get! (pos+0)=s[pos]'h:=get_at s pos h;simp only [Nat.add_zero] at h0;rw [h0] at h32;by_cases ha:(s[pos]'h).toNat<128
 ·rw [decode_ascii s pos h ha]
  refine ⟨fun hh=>h32 (UInt8.toNat_inj.1 hh),l_,n5_,fun k hk=>?_⟩;obtain rfl:k=0:=by simpa using hk
  rw [Nat.add_zero,h0];exact h32
 ·have hh:=decode_high s pos h o_
  refine ⟨o_,hh.2,?_,?_⟩
  ·have h0':(s.get! (pos+0))=s[pos]'h:=get_at s pos h
   simp only [Utf8.decode,h0',ha,if_false];(repeat' split);(all_goals simp_all [Utf8.runeError]);all_goals omega
  ·have h0':(s.get! (pos+0))=s[pos]'h:=get_at s pos h
   have key4:(2<=(Utf8.decode s pos).2->(s.get! (pos+1)).toNat / 64=2)/\(3<=(Utf8.decode s pos).2->(s.get! (pos+2)).toNat / 64=2)/\(4<=(Utf8.decode s pos).2->(s.get! (pos+3)).toNat / 64=2)/\(Utf8.decode s pos).2<=4:=by
    clear hh;simp only [Utf8.decode,h0',ha,if_false];(repeat' split);all_goals simp_all [Utf8.runeError]
   have key:∀k,k<(Utf8.decode s pos).2->k=0\/(s.get! (pos+k)).toNat / 64=2:=by
    intro k hk;obtain ⟨q1,q2,q3,q4⟩:=key4;rcases (show k=0\/k=1\/k=2\/k=3 by omega) with rfl|rfl|rfl|rfl
    ·exact .inl rfl
    ·exact .inr (q1 o_)
    ·exact .inr (q2 o_)
    ·exact .inr (q3 o_)
   intro k hk;rcases key k hk with rfl|h2
   ·rw [Nat.add_zero,h0];exact h32
   ·exact ZqV _ h2
def isB(n:Nat):Bool:=n==32
theorem Jy(s:ByteArray):∀(f pos:Nat) (st:Option Nat) (acc:List (Nat×Nat)),s.size-pos<=f->pos<=s.size->(∀a,st=some a->a<pos)->
  (Lib.closeSpans s (Lib.spansFromP isB s f pos st acc)).map (fun x=>(s.extract x.1 x.2).data.toList) =
   acc.map (fun x=>(s.extract x.1 x.2).data.toList)++Zbm (s.data.toList.drop pos) (match st with|none=>[]|some a=>(s.data.toList.take pos).drop a)
 |0,pos,st,acc,hf,hp,hst=>by
  have hpe:pos=s.size:=o_;subst hpe;have hd:s.data.toList.drop s.size=[]:=s_;rw [hd];have ht:s.data.toList.take s.size=s.data.toList:=List.take_of_length_le s_;rw [ht];cases st with
  |none=>simp [Lib.spansFromP,Lib.closeSpans,Zbm]
  |some a=>
   have hne:(s.data.toList.drop a)≠[]:=by
    intro hh
    have:=congrArg List.length hh
    have ha:=hst a rfl;simp at this;omega
   have hx:(s.extract a s.size).data.toList=s.data.toList.drop a:=by
    rw [ByteArray.data_extract];simp;exact List.take_of_length_le s_
   have hlast:Zbm [] (s.data.toList.drop a)=[s.data.toList.drop a]:=by simp [Zbm,hne]
   simp only [Lib.spansFromP,Lib.closeSpans,List.map_append,List.map_cons,List.map_nil,hx,hlast]
 |f+1,pos,st,acc,hf,hp,hst=>by
  by_cases hlt:pos<s.size
  ·unfold Lib.spansFromP
   rw [if_pos hlt];have hlen:pos<s.data.toList.length:=n24_;have hg:s.get! pos=s.data.toList[pos]:=by
    show s.get! (pos+0)=_;rw [get_at s pos hlt];simp;rfl
   have hdc:s.data.toList.drop pos=s.data.toList[pos]::s.data.toList.drop (pos+1):=List.drop_eq_getElem_cons hlen;by_cases h32:s.get! pos=32
   ·have hdec:Utf8.decode s pos=(32,1):=by
     have h0:s.get! (pos+0)=s[pos]'hlt:=get_at s pos hlt;simp only [Nat.add_zero] at h0;rw [h0] at h32;have hd:=decode_ascii s pos hlt (by rw [h32];decide);rw [hd,h32];rfl
    rw [hdec];rw [if_pos n13_];rw [hdc,<-hg,h32,Zbm,if_pos rfl];cases st with
    |none=>
     rw [Jy s f (pos+1) none acc o_ o_ s_];simp
    |some a=>
     have ha:=hst a rfl;have hne:((s.data.toList.take pos).drop a)≠[]:=by
      intro hh
      have:=congrArg List.length hh
      simp at this;omega
     simp only;rw [Jy s f (pos+1) none (acc++[(a,pos)]) o_ o_ s_];have hx:(s.extract a pos).data.toList=(s.data.toList.take pos).drop a:=by
      rw [ByteArray.data_extract];simp [List.drop_take]
     have hne2:((s.data.toList.take pos).drop a).isEmpty=false:=by simpa using hne
     rw [hne2];simp only [List.map_append,List.map_cons,List.map_nil,hx,List.append_assoc,List.cons_append,List.nil_append];rfl
   ·obtain ⟨h1,h2,h3,h4⟩:=Ziw s pos hlt h32
    generalize hwd:(Utf8.decode s pos).2=wd at *;rw [if_neg (by simpa [isB] using h1)];have hsplit:s.data.toList.drop pos=(s.data.toList.drop pos).take wd++s.data.toList.drop (pos+wd):=by
     rw [<-List.drop_drop];exact (List.take_append_drop wd _).symm
    have hall:∀c∈(s.data.toList.drop pos).take wd,c≠32:=by
     intro c hc;obtain ⟨i,hi,rfl⟩:=List.getElem_of_mem hc;have hiw:i<wd:=by simp at hi;omega
     have:=h4 i hiw
     have hii:pos+i<s.size:=o_;have hgi:s.get! (pos+i)=s.data.toList[pos+i]'(by simpa using hii):=by
      show s.get! (pos+i+0)=_;rw [get_at s (pos+i) hii];simp;rfl
     rw [hgi] at this;simpa using this
    have hcat:∀a,a<=pos->(s.data.toList.take pos).drop a++(s.data.toList.drop pos).take wd=(s.data.toList.take (pos+wd)).drop a:=by
     intro a ha;rw [List.take_add,List.drop_append_of_le_length n5_]
    rw [hsplit,Zhh _ _ _ hall];cases st with
    |none=>
     simp only;rw [Jy s f (pos+wd) (some pos) acc o_ h3 (by intro a ha;cases ha;omega)]
     have:=hcat pos l_
     simp only;rw [<-this];simp
    |some a=>
     have ha:=hst a rfl;simp only;rw [Jy s f (pos+wd) (some a) acc o_ h3 (by intro b hb;cases hb;omega)];simp only;rw [<-hcat a o_]
  ·rw [Lib.spansFromP_end isB s (f+1) pos st acc hlt]
   have:=Jy s 0 pos st acc o_ hp hst
   rw [Lib.spansFromP_end isB s 0 pos st acc hlt] at this;exact this
theorem Zgx(s:ByteArray):(Lib.goFieldsP isB s).map (fun x=>x.data.toList)=Zo s.data.toList:=by
 unfold Lib.goFieldsP Lib.spansOfP;rw [List.map_map]
 have:=Jy s s.size 0 none [] o_ o_ s_
 exact this
end Go.Proofs.YtmgmbeipbeknaaaGreatDoor
