import Derived.Lib.ItoaMem
import Derived.Deep.LoopGhost
import Derived.Deep.CutRange
import Derived.Test.YtmgmbeipbeknaaaGreatDoorRB29
import Derived.Test.YtmgmbeipbeknaaaGreatDoorRB36
import Derived.Test.YtmgmbeipbeknaaaGreatDoorRB43
import Derived.Test.YtmgmbeipbeknaaaGreatDoorRB45
namespace Go.Proofs.YtmgmbeipbeknaaaGreatDoor
set_option linter.all false
set_option maxHeartbeats 16000000
set_option maxRecDepth 100000
def YP(n:Int):Str:=if n<0 then [45] else Go.Lib.itoa n
def Q7(k:ZE)(n:Int):Str:=
 if k.form=4 then Yj n else if k.form=10 then (if n<1\/k.words.length<n then [] else k.words.getD (n-1).toNat []) else YP n
def Zbx(c:UC)(k:ZE):Str:=if k.form=1\/k.form=5 then c.str else if k.form=2 then Qo c.bool else Q7 k c.num
def QZ(u f:UV)(k:ZE):List Str:=if k.list=true then [] else if u (Zb k.name)=f (Zb k.name) then [] else [Zbx (u (Zb k.name)) k]
def YE(u:UV)(k:ZE):List Str:=
 if k.list=false\/ZL k.name≠0 then []
 else if k.form=8 then (u (Zb k.name)).prs.map pairT
 else if k.form=7 then (u (Zb k.name)).cmds.map Qc
 else if k.form=4\/k.form=11 then (u (Zb k.name)).nums.map (Q7 k)
 else (u (Zb k.name)).strs
def Yp(u f:UV)(k:ZE):List Str:=YE u k++QZ u f k
def Zjo(u:UV):List (Int×Str):=(u 4).rels.filter fun r=>decide (1<=r.1)&&decide (r.1<=9)
def Zb7(u f:UV)(kind:Int)(k:ZE):List Ln:=
 if Qi k.kinds kind=false then []
 else if k.name=Z8 then (Zjo u).map fun r=>⟨Z7,Yg r.1,Yk r.2,0⟩
 else (Yp u f k).map fun s=>⟨k.sec,k.name,Yk s,0⟩
def Zbh(u:UV):List Ln:=Zc.flatMap (Zb7 u (Zw (u 0).str) (Zt (u 0).str:Nat))
theorem Zmz(s:Str):0<=(Xd s).1:=by
 unfold Xd;split
 ·split
  ·exact Int.natCast_nonneg _
  ·exact Int.le_refl _
 ·exact Int.le_refl _
theorem ZjQ:∀(l:List Str) (n m:Int),0<=n->Qn l n=some m->0<=m
 |[],n,m,h0,h=>by injection h with h;omega
 |x::t,n,m,h0,h=>by
  have hx:=Zbu x;unfold Qn at h;split at h
  ·cases h
  ·split at h
   ·cases h
   ·exact ZjQ t _ m o_ h
theorem Zjw(s:Str):0<=(YF s).1:=by
 unfold YF;split
 ·decide
 ·cases h:Qn (Zg s) 0 with
  |none=>exact Int.le_refl _
  |some n=>exact ZjQ _ 0 n d_ h
theorem ZjP:∀(l:List Str) (s:Str) (i:Nat),-1<=Xk l s i
 |[],s,i=>by show (-1:Int)<=-1;omega
 |x::t,s,i=>by
  rw [Xk];split
  ·omega
  ·exact ZjP t s (i+1)
theorem Zh4:(Zc.all fun k=>!(k.name==Z8)||(k.sec==Z7&&(k.list&&(k.form==6&&ZL k.name !=0))))=true/\([1,2,3,4].all fun n=>ZaI Z7 n)=true:=n1_
theorem ZlS:(Zc.all fun k=>((k.name==Zy)==(k.form==8))&&(!(k.form==8)||(k.list&&(ZL k.name==0&&Zb k.name==19))))=true:=n1_
theorem ZoC:(Zc.all fun k=>Zc.all fun q=>k.list||(q.list||(!(Zb k.name==Zb q.name)||(k==q||((k.name==Zn&&q.name==Z7)||(k.name==Z7&&q.name==Zn))))))=true:=n1_
theorem Zbk:(Zc.all fun k=>!(k.name==Zn)||(!k.list&&!Qi k.kinds 3))=true/\(Zc.all fun k=>!(k.name==Z7)||(!k.list&&[1,2,4].all fun n=>!Qi k.kinds n))=true:=n1_
theorem Zkf{k:ZE}{n:Int}(h:0<=n):Q7 k n=Qv k n:=by
 have h':¬n<0:=o_;simp only [Q7,Qv,YP,if_neg h']
theorem ZuI{name:Str}{kind:Int}{u:UV}(hu:Zim name kind u)(hkr:kind=1\/kind=2\/kind=3\/kind=4){k:ZE}(hk:k∈Zc) :
  Zb7 u (Zw name) kind k=(YJ u (Zw name) k).map (lnT k):=by
 have hfld:=hu.fld k hk;have hsk:=Zes k hk kind;have henv:=c7_.1 ZlS k hk;simp only [Bool.and_eq_true,beq_iff_eq,Bool.or_eq_true,Bool.not_eq_true',c11_,ne_eq] at henv;unfold Zb7;cases hin:Qi k.kinds kind with
 |false=>
  rw [if_pos rfl];rw [hin] at hsk;symm;rw [List.map_eq_nil_iff];unfold YJ;split
  ·rename_i h
   exfalso;have h1:=c7_.1 Zh4.1 k hk;simp only [h,beq_self_eq_true,Bool.not_true,Bool.false_or,Bool.and_eq_true,beq_iff_eq] at h1;rw [h1.1] at hsk;have h2:=c7_.1 Zh4.2;rcases hkr with e|e|e|e<;>(rw [e] at hsk;rw [h2 _ s_] at hsk;cases hsk)
  ·split
   ·rfl
   ·rename_i hr
    have hr0:ZL k.name=0:=by simpa using hr
    cases hl:k.list with
    |true=>
     have h2:=(Qr hl).1 hfld;rw [hsk] at h2;have h3:(u (Zb k.name)).len=0:=h2.1.resolve_right d_;split
     ·rename_i he
      have h8:k.form=8:=by have:=henv.1;rw [he] at this;simpa using this.symm
      have h4:=henv.2.resolve_left (fun h=>h h8);have h5:=Zpc (u (Zb k.name));rw [h4.2.2] at h5 h3;rw [c10_ (by omega:(u 19).prs.length=0)];rfl
     ·split
      ·rfl
      ·rw [if_pos rfl]
       unfold Qp;have p1:=ZlK (u (Zb k.name));have p2:=ZlW (u (Zb k.name));have p3:=Zir (u (Zb k.name));split
       ·rw [c10_ (by omega:(u (Zb k.name)).cmds.length=0)];rfl
       ·split
        ·rw [c10_ (by omega:(u (Zb k.name)).nums.length=0)];rfl
        ·rw [c10_ (by omega:(u (Zb k.name)).strs.length=0)];rfl
    |false=>
     unfold Zhp at hfld;rw [if_pos hl] at hfld;have hne:k.name≠Zy:=(Y9 hk hl).2.1;rw [if_neg hne];split
     ·rfl
     ·rename_i hx
      rw [if_neg d_];rcases hfld with e|⟨k',v,hk',hl',hs,ok,e⟩
      ·unfold Qm
       rw [if_pos e];rfl
      ·exfalso
       have h1:=c7_.1 (c7_.1 ZoC k hk) k' hk';simp only [hl,hl',hs,beq_self_eq_true,Bool.not_true,Bool.false_or,Bool.or_eq_true,Bool.and_eq_true,beq_iff_eq] at h1;rcases h1 with h1|⟨h1,h2⟩|⟨h1,h2⟩
       ·subst h1
        rw [ok.some_] at hsk;cases hsk
       ·have h3:=ok.some_
        rw [Zes k' hk' kind] at h3;have h4:=c7_.1 Zbk.2 k' hk';simp only [h2,beq_self_eq_true,Bool.not_true,Bool.false_or,Bool.and_eq_true] at h4;have h5:=c7_.1 h4.2;apply hx;left;refine ⟨h1,?_⟩;rw [hu.kind];rcases hkr with e|e|e|e
        ·rw [e] at h3;have:=h5 1 s_;rw [h3] at this;cases this
        ·rw [e] at h3;have:=h5 2 s_;rw [h3] at this;cases this
        ·exact e
        ·rw [e] at h3;have:=h5 4 s_;rw [h3] at this;cases this
       ·have h3:=ok.some_
        rw [Zes k' hk' kind] at h3;have h4:=c7_.1 Zbk.1 k' hk';simp only [h2,beq_self_eq_true,Bool.not_true,Bool.false_or,Bool.and_eq_true] at h4;apply hx;right;refine ⟨h1,?_⟩;rw [hu.kind];intro e;rw [e] at h3;rw [h3] at h4;cases h4.2
 |true=>
  rw [if_neg d_];unfold YJ;by_cases hq:k.name=Z8
  ·rw [if_pos hq,if_pos hq]
   have h1:=c7_.1 Zh4.1 k hk;simp only [hq,beq_self_eq_true,Bool.not_true,Bool.false_or,Bool.and_eq_true,beq_iff_eq,bne_iff_ne,ne_eq] at h1;obtain ⟨hsec,hl,hf,hr⟩:=h1;have h2:=(Qr hl).1 hfld;have hh:=h2.2;unfold YV at hh;rw [hf,if_neg d_,if_neg d_,if_neg d_,if_neg d_,if_neg d_,if_neg (by rw [hq];exact hr)] at hh;obtain ⟨l,e,-,hi⟩:=hh;rw [hq,Yl.1] at e;have hrel:Zjo u=(u 4).rels:=by
    unfold Zjo;rw [e];show l.filter _=l;refine List.filter_eq_self.2 fun r hr=>?_
    have:=(hi r hr).1
    rw [decide_eq_true this.1,decide_eq_true this.2];rfl
   rw [hrel,List.map_map];refine List.map_congr_left fun r _=>?_
   show (⟨Z7,Yg r.1,Yk r.2,0⟩:Ln)=⟨k.sec,Yg r.1,Yk r.2,0⟩;rw [hsec]
  ·rw [if_neg hq,if_neg hq]
   by_cases hr:ZL k.name≠0
   ·rw [if_pos hr]
    have hl:k.list=true:=by
     cases hl:k.list with
     |true=>rfl
     |false=>exact absurd (Y9 hk hl).1 hr
    unfold Yp YE QZ;rw [if_pos (.inr hr),if_pos hl];rfl
   ·rw [if_neg hr]
    have hr0:ZL k.name=0:=by simpa using hr
    cases hl:k.list with
    |true=>
     have hh:=((Qr hl).1 hfld).2;have hn:=c7_.1 Zde k hk;simp only [hl,Bool.not_true,Bool.false_or,Bool.and_eq_true,bne_iff_ne,ne_eq,beq_iff_eq] at hn;obtain ⟨n1,n2,n3⟩:=hn;unfold Yp QZ;rw [if_pos hl,List.append_nil];unfold YE;rw [if_neg (by simp [hl,hr0])];by_cases h8:k.form=8
     ·have he:k.name=Zy:=by have:=henv.1;rw [h8] at this;simpa using this
      have hs:Zb k.name=19:=((henv.2.resolve_left (fun h=>h h8)).2.2);rw [if_pos h8,if_pos he,hs,List.map_map,List.map_map,];rfl
     ·have he:k.name≠Zy:=fun e=>h8 (by have:=henv.1;rw [e] at this;simpa using this.symm)
      rw [if_neg h8,if_neg he,if_neg (show ¬((k.name=Zn/\(u 1).num=3)\/(k.name=Z7/\(u 1).num≠3)) from fun h=>h.elim (fun h=>n1 h.1) (fun h=>n2 h.1)),if_pos rfl,List.map_map];unfold Qp;by_cases h7:k.form=7
      ·rw [if_pos h7,if_pos h7];rfl
      ·rw [if_neg h7,if_neg h7]
       by_cases h4:k.form=4\/k.form=11
       ·rw [if_pos h4,if_pos h4]
        have hpos:∀n∈(u (Zb k.name)).nums,0<=n:=by
         intro n hn;unfold YV at hh;rcases h4 with h4|h4
         ·rw [h4,if_neg d_,if_pos rfl] at hh
          obtain ⟨l,e,hi⟩:=hh;rw [e] at hn;obtain ⟨v,hv⟩:=hi n hn
          have:=Zjw v
          rw [hv] at this;exact this
         ·rw [h4,if_neg d_,if_neg d_,if_neg d_,if_pos rfl] at hh
          obtain ⟨l,e,-,hi⟩:=hh;rw [e] at hn;obtain ⟨⟨v,hv⟩,_⟩:=hi n hn
          have:=Zmz v
          rw [hv] at this;exact this
        have:(u (Zb k.name)).nums.map (Q7 k)=(u (Zb k.name)).nums.map (Qv k):=List.map_congr_left fun n hn=>Zkf (hpos n hn)
        rw [this];rfl
       ·rw [if_neg h4,if_neg h4];rfl
    |false=>
     have hne:k.name≠Zy:=(Y9 hk hl).2.1;have hx:¬((k.name=Zn/\(u 1).num=3)\/(k.name=Z7/\(u 1).num≠3)):=by
      rw [hu.kind];rintro (⟨e1,e2⟩|⟨e1,e2⟩)
      ·have h4:=c7_.1 Zbk.1 k hk
       simp only [e1,beq_self_eq_true,Bool.not_true,Bool.false_or,Bool.and_eq_true] at h4;rw [e2] at hin;rw [hin] at h4;cases h4.2
      ·have h4:=c7_.1 Zbk.2 k hk
       simp only [e1,beq_self_eq_true,Bool.not_true,Bool.false_or,Bool.and_eq_true] at h4;have h5:=c7_.1 h4.2;rcases hkr with e|e|e|e
       ·rw [e] at hin;have:=h5 1 s_;rw [hin] at this;cases this
       ·rw [e] at hin;have:=h5 2 s_;rw [hin] at this;cases this
       ·exact e2 e
       ·rw [e] at hin;have:=h5 4 s_;rw [hin] at this;cases this
     rw [if_neg hne,if_neg hx,if_neg d_,List.map_map];have hv:Yp u (Zw name) k=Qm u (Zw name) k:=by
      unfold Yp YE QZ Qm;rw [if_pos (.inl hl),List.nil_append,if_neg (by rw [hl];decide)];by_cases e:u (Zb k.name)=Zw name (Zb k.name)
      ·rw [if_pos e,if_pos e]
      ·rw [if_neg e,if_neg e]
       unfold Zhp at hfld;rw [if_pos hl] at hfld;unfold Zbx;split
       ·rfl
       ·rename_i f1
        split
        ·rfl
        ·rename_i f2
         have hpos:0<=(u (Zb k.name)).num:=by
          obtain ⟨k',v,hk',hl',hs,ok,e'⟩:=hfld.resolve_left e;rw [e'];unfold Zl;rcases (Y9 hk' hl').2.2 with f1|f1|f1|f1|f1|f1
          ·rw [f1];show (0:Int)<=(UC.s v).num;exact Int.le_refl 0
          ·rw [f1];show (0:Int)<=(UC.b (Js v)).num;exact Int.le_refl 0
          ·rw [f1];exact Zmz v
          ·rw [f1,hl'];exact Zjw v
          ·rw [f1];show (0:Int)<=(UC.s v).num;exact Int.le_refl 0
          ·rw [f1]
           show 0<=Xk k'.words v 0+1
           have:=ZjP k'.words v 0
           omega
         rw [Zkf hpos]
     rw [hv];rfl
theorem ZpC{name:Str}{l:List Ln}(h:(Yn name l).2.1=0):Zim name (Zt name:Nat) (Yn name l).1/\((Yn name l).1 0).str=name:=by
 obtain ⟨hn,hb,hl,hw,_⟩:=Zg3 h;generalize (Yn name l).1=u at *;have h0:u 0=Zw name 0:=Zgq hl;have h1:u 1=Zw name 1:=Zbv hl fun x _=>by have:=ZiJ x.key;omega
 exact ⟨⟨hn,Zbl.lines (Zbl.new _ _) hl,ZcJ (Zhl name) hl,by rw [h1,Zk1 hn];rfl⟩,by rw [h0,Zph hn];rfl⟩
theorem ZjJ{name:Str}{l:List Ln}(h:(Yn name l).2.1=0):Zbh (Yn name l).1=ZbR (Yn name l).1:=by
 obtain ⟨hu,hn⟩:=ZpC h;have hk:=J3 name;unfold Zbh ZbR;rw [hn];have hkr:((Zt name:Nat):Int)=1\/((Zt name:Nat):Int)=2\/((Zt name:Nat):Int)=3\/((Zt name:Nat):Int)=4:=by
  have:=hu.nm
  omega
 have:∀(L:List ZE),(∀k∈L,k∈Zc)->L.flatMap (Zb7 (Yn name l).1 (Zw name) (Zt name:Nat))=L.flatMap fun k=>(YJ (Yn name l).1 (Zw name) k).map (lnT k):=by
  intro L;induction L with
  |nil=>intro _;rfl
  |cons x t ih=>
   intro hL;rw [List.flatMap_cons,List.flatMap_cons,ih (fun k hk=>hL k (by simp [hk])),ZuI hu hkr (hL x s_)]
 exact this Zc fun _ h=>h
theorem ZuH:∀(l:List Ln) (o:Option Str) (n:Nat),(Xt o l n).all YT=l.all YT/\∀p,Yq p (Xt o l n)=Yq p l:=by
 intro l;induction l with
 |nil=>intro o n;cases o<;>exact ⟨rfl,fun _=>rfl⟩
 |cons y r ih=>
  intro o n;cases o with
  |none=>
   obtain ⟨h1,h2⟩:=ih (some y.sec) (n+2);refine ⟨?_,fun p=>?_⟩
   ·show (YT y&&(Xt (some y.sec) r (n+2)).all YT)=(YT y&&r.all YT)
    rw [h1]
   ·cases p with
    |none=>show ZaP y.sec++ZbD y++Yq (some y.sec) (Xt (some y.sec) r (n+2))=_;rw [h2];rfl
    |some q=>show (if y.sec=q then [] else 10::ZaP y.sec)++ZbD y++Yq (some y.sec) (Xt (some y.sec) r (n+2))=_;rw [h2];rfl
  |some s=>
   have key:∀m a,(({ y with at_:=a }:Ln)::Xt (some y.sec) r m).all YT=(y::r).all YT/\∀p,Yq p (({ y with at_:=a }:Ln)::Xt (some y.sec) r m)=Yq p (y::r):=by
    intro m a;obtain ⟨h1,h2⟩:=ih (some y.sec) m;refine ⟨?_,fun p=>?_⟩
    ·show (YT y&&(Xt (some y.sec) r m).all YT)=(YT y&&r.all YT)
     rw [h1]
    ·cases p with
     |none=>show ZaP y.sec++ZbD y++Yq (some y.sec) (Xt (some y.sec) r m)=_;rw [h2];rfl
     |some q=>show (if y.sec=q then [] else 10::ZaP y.sec)++ZbD y++Yq (some y.sec) (Xt (some y.sec) r m)=_;rw [h2];rfl
   unfold Xt;split
   ·exact key _ _
   ·exact key _ _
theorem ZtL(l:List Ln):Zcc (Xt none l 0)=Zcc l:=by
 obtain ⟨h1,h2⟩:=ZuH l none 0;unfold Zcc Xj;rw [h1,h2]
theorem Zsw{name:Str}{l:List Ln}(h:(Yn name l).2.1=0):ZfM (Yn name l).1=Zcc (Zbh (Yn name l).1):=by
 rw [ZjJ h];obtain ⟨_,hn⟩:=ZpC h;obtain ⟨h1,h2⟩:=ZhG h;unfold ZfM;rw [hn,h1,h2];show Zcc (Qe _)=_;exact ZtL _
open Go.Proofs.Tryz
open Go Go.RowKit
theorem m137_{p:Prop}(h:p:=by go_wp2_with fail;go_ret;exact ⟨n69_,rfl⟩):p:=h
theorem Zrv:∀d:Fin 10,(⟨#[48,49,50,51,52,53,54,55,56,57]⟩:ByteArray).extract d.val (d.val+1)=⟨#[UInt8.ofNat (48+d.val)]⟩:=d_
theorem Zd1(n:Nat)(h:n<9223372036854775808):(Go.Lib.decDigits n).length<=19:=(ZgP n 18 o_).2
theorem ZhO:∀(n:Nat) (w:World),n<9223372036854775808->Calls prog 191 #[.int .i64 n] w fun e w'=>e=.returned (.string ⟨(Go.Lib.decDigits n).toArray⟩)/\w'=w:=by
 intro n;induction n using Nat.strongRecOn with
 |_ n ih=>
  intro w hn;have h1:(n:Int).tmod 10=((n % 10:Nat):Int):=by rw [Int.tmod_eq_emod_of_nonneg o_];rfl
  have h2:(n:Int).tdiv 10=((n / 10:Nat):Int):=by rw [Int.tdiv_eq_ediv_of_nonneg o_];rfl
  have hcut:=Zrv ⟨n % 10,Nat.mod_lt _ d_⟩;simp only at hcut;have hd:n % 10<10:=Nat.mod_lt _ d_;obtain ⟨d,hdd⟩:=e_ (n % 10);rw [<-hdd] at h1 hcut hd;obtain ⟨c,hc⟩:=e_ (UInt8.ofNat (48+d));rw [<-hc] at hcut;have h3:IntKind.i64.wrap ((d:Int)+1)=(d:Int)+1:=IntWalk.i64_in _ o_;have h4:(0:Int)<=(d:Int):=o_;have h5:(d:Int)+1<=10:=o_;by_cases hs:n<10
  ·have hz:(n:Int)<10:=o_
   have HE:=h_ (show Go.Lib.decDigits n=[c] by rw [hc,Go.Lib.decDigits_one hs,hdd,Nat.mod_eq_of_lt hs]);clear hdd hs ih h2 hc;go_enter func191,ntmps191;exact m137_
  ·have hz:¬((n:Int)<10):=o_
   have HI:=h_ (fun w=>ih (n / 10) o_ w o_);have HE:=h_ (show Go.Lib.decDigits n=Go.Lib.decDigits (n / 10)++[c] by rw [Go.Lib.decDigits,dif_neg hs,hc,hdd]);have hcat:=QL (Go.Lib.decDigits (n / 10)) [c] (by have:=Zd1 (n / 10) o_;simp only [c14_,List.length_nil];omega);rw [<-HE.out] at hcat;generalize Go.Lib.decDigits (n / 10)=pre at *;generalize Go.Lib.decDigits n=all at *;have hcat':Op.stringOp .add ⟨pre.toArray⟩ ⟨#[c]⟩=pure (.string ⟨all.toArray⟩):=hcat;clear hdd hs ih HE hcat hc;go_enter func191,ntmps191;go_wp2_with fail;refine (HI.out w).mono ?_;rintro e w1 ⟨rfl,rfl⟩;go_wp2_with fail;go_ret;exact ⟨rfl,rfl⟩
theorem Zco(n:Int)(w:World)(h0 : -9223372036854775808<=n)(h1:n<=9223372036854775807):Calls prog 109 #[.int .i64 n] w fun e w'=>e=.returned (.string ⟨(YP n).toArray⟩)/\w'=w:=by
 by_cases h:n<0
 ·have HE:=h_ (show YP n=[45] by unfold YP;rw [if_pos h])
  go_enter func109,ntmps109;exact m137_
 ·obtain ⟨m,rfl⟩:∃m:Nat,n=m:=⟨n.toNat,o_⟩
  have HD:=h_ (ZhO m w o_);have HE:=h_ (show YP m=Go.Lib.decDigits m by unfold YP;rw [if_neg h,Go.Lib.itoa_nonneg]);go_enter func109,ntmps109;go_wp2_with fail;refine HD.out.mono ?_;rintro e w1 ⟨rfl,rfl⟩;exact m137_
theorem ZhY(b:Bool)(w:World):Calls prog 192 #[.bool b] w fun e w'=>e=.returned (.string ⟨(Qo b).toArray⟩)/\w'=w:=by
 cases b <;>
 ·go_enter func192,ntmps192
  go_wp2_with fail;go_ret;exact ⟨rfl,rfl⟩
def Zan(ws:List Str)(n:Int):Str:=if n<1\/(ws.length:Int)<n then [] else ws.getD (n-1).toNat []
theorem Zjp(oa:Option Addr)(cap:Nat)(ws:List Str)(n:Int)(w:World)(h:Zp w oa ws)(h0 : -9223372036854775808<=n)(h1:n<=9223372036854775807) :
  Calls prog 193 #[.slice oa ws.length cap,.int .i64 n] w fun e w'=>e=.returned (.string ⟨(Zan ws n).toArray⟩)/\w'=w:=by
 by_cases h2:n<1
 ·have HE:=h_ (show Zan ws n=[] by unfold Zan;rw [if_pos (.inl h2)])
  go_enter func193,ntmps193;exact m137_
 ·by_cases h3:(ws.length:Int)<n
  ·have HE:=h_ (show Zan ws n=[] by unfold Zan;rw [if_pos (.inr h3)])
   go_enter func193,ntmps193;exact m137_
  ·obtain ⟨m,hmn⟩:∃m:Nat,n-1=(m:Int):=⟨(n-1).toNat,o_⟩
   have hm:m<ws.length:=o_;have HE:=h_ (show Zan ws n=ws[m] by
    unfold Zan;rw [if_neg o_,hmn,Int.toNat_natCast,List.getD_eq_getElem?_getD,List.getElem?_eq_getElem hm];rfl)
   obtain ⟨x,hx⟩:=e_ (ws[m]);obtain ⟨b,o,rfl,hc⟩:=h m hm;rw [<-hx] at HE hc;have k1:IntKind.i64.wrap (n-1)=(m:Int):=by rw [hmn];exact IntWalk.i64_in _ o_
   have k2:(m:Int)<(ws.length:Int):=o_;clear hx hmn hm;go_enter func193,ntmps193;exact m137_
theorem Zng:∀(v:Str) (c:UInt8),Yk (v++[c])=Yk v++(if c=37 then [37,37] else [c])
 |[],c=>by
  show Yk [c]=_;simp only [Yk];split<;>rfl
 |d::t,c=>by
  rw [c12_];simp only [Yk];rw [Zng t c];split<;>simp
theorem Zug(s:ByteArray)(k:Nat)(h:k<s.size):s.extract k (k+1)=⟨#[s[k]]⟩:=by
 apply Yu;rw [ByteArray.data_extract,Array.toList_extract];have hk:k<s.data.toList.length:=n32_;show (s.data.toList.drop k).take (k+1-k)=[s[k]];rw [List.drop_eq_getElem_cons hk,show k+1-k=1 by omega];rfl
theorem Zmk(s:ByteArray)(w:World)(hs:s.size<=1000000000) :
  Calls prog 52 #[.string s] w fun e w'=>e=.returned (.string ⟨(Yk s.data.toList).toArray⟩)/\Below w.heap.size w w':=by
 go_enter func52,ntmps52;go_wp2_with fail;go_loopg [3,4] (s.size+1) (fun f v i wr=>∃(k:Nat) (acc:Str),v=.string ⟨acc.toArray⟩/\i=.int .i64 k/\k<=s.size/\s.size-k<f/\acc.length<=2*k/\Hid (acc=Yk (s.data.toList.take k))/\Hid (Below w.heap.size w wr))
 case atStart=>exact ⟨0,[],rfl,rfl,o_,o_,s_,rfl,h_ b_⟩
 case round=>
  obtain ⟨k,acc,rfl,rfl,hkl,hfu,hacc,HQ,HB⟩:=hrel;by_cases hlt:k<s.size
  ·have hz:(k:Int)<(s.size:Int):=o_
   obtain ⟨c,hc⟩:=e_ (s[k]);have hcut:=Zug s k hlt;rw [<-hc] at hcut;have hk':k<s.data.toList.length:=n31_;have hel:s.data.toList[k]=c:=by rw [hc];rfl
   have HS:=h_ (show Yk (s.data.toList.take (k+1))=acc++(if c=37 then [37,37] else [c]) by
    rw [c4_ hk',Zng,hel,HQ.out])
   have h1:IntKind.i64.wrap ((k:Int)+1)=(k:Int)+1:=IntWalk.i64_in _ o_;have hcat:Op.stringOp .add ⟨acc.toArray⟩ ⟨#[c]⟩=pure (.string ⟨(acc++[c]).toArray⟩):=QL acc [c] n62_;cases q37:(c==37) with
   |true=>
    have hc37:c=37:=eq_of_beq q37;have g1:((s[k].toNat:Int)==37)=true:=by rw [<-hc,hc37];rfl
    have hcat2:Op.stringOp .add ⟨(acc++[c]).toArray⟩ ⟨#[37]⟩=pure (.string ⟨(acc++[37,37]).toArray⟩):=by
     have:=QL (acc++[c]) [37] (by simp only [c5_,c14_,List.length_nil];omega)
     rw [hc37,List.append_assoc] at this;rw [hc37];exact this
    rw [if_pos hc37] at HS;have hlen:(acc++[37,37]).length=acc.length+2:=s_;generalize acc++[37,37]=acc2 at *;generalize acc++[c]=acc1 at *;clear hel hc q37 hc37;go_wp2_with fail;go_roundg (s.size-k)
    case measure=>omega
    case rel=>exact ⟨k+1,acc2,rfl,n9_,o_,o_,o_,HS.out.symm,HB⟩
   |false=>
    have hc37:¬c=37:=by intro e;rw [e] at q37;cases q37
    have g1:((s[k].toNat:Int)==37)=false:=by
     rw [<-hc,c11_];intro e;exact hc37 (UInt8.toNat_inj.1 (by show c.toNat=37;omega))
    rw [if_neg hc37] at HS;have hlen:(acc++[c]).length=acc.length+1:=s_;generalize acc++[c]=acc1 at *;clear hel hc q37 hc37;go_wp2_with fail;go_roundg (s.size-k)
    case measure=>omega
    case rel=>exact ⟨k+1,acc1,rfl,n9_,o_,o_,o_,HS.out.symm,HB⟩
  ·obtain rfl:k=s.size:=o_
   have HE:=h_ (show acc=Yk s.data.toList by rw [HQ.out,c9_ s_]);go_wp2_with fail;go_ret;exact ⟨by rw [<-HE.out];rfl,HB.out⟩
theorem m138_{p:Prop}(h:p:=by intro k;rcases (show k.val=0\/k.val=1\/k.val=2\/k.val=3 by omega) with h|h|h|h<;>(rw [h];rfl)):p:=h
theorem m139_{p:Prop}(h:p:=by go_enter func108,ntmps108;go_wp2_with fail;go_ret;exact ⟨n69_,Below.refl _ _⟩):p:=h
theorem m140_{p:Prop}(h:p:=by go_enter func108,ntmps108;go_wp2_with fail;go_ret;exact ⟨rfl,Below.refl _ _⟩):p:=h
def JS:Array Value:=#[.string ⟨#[100]⟩,.string ⟨#[104]⟩,.string ⟨#[109,105,110]⟩,.string ⟨#[115]⟩]
def unN:Nat->Int|0=>86400|1=>3600|2=>60|_=>1
def unS:Nat->Str|0=>[100]|1=>[104]|2=>[109,105,110]|_=>[115]
def Zeu(n:Int):Nat->Int|0=>n|1=>n % 86400|2=>n % 3600|3=>n % 60|_=>0
def spT(l:List Str):Str:=l.flatMap fun x=>32::x
def ZfP(n:Int):Nat->Str|0=>[]|k+1=>ZfP n k++spT (ZN (Zeu n k / unN k) (unS k))
theorem ZsV(n:Int)(k:Nat)(hk:k<4):Zeu n (k+1)=Zeu n k % unN k:=by
 rcases (show k=0\/k=1\/k=2\/k=3 by omega) with rfl|rfl|rfl|rfl
 ·rfl
 ·show n % 3600=n % 86400 % 3600;omega
 ·show n % 60=n % 3600 % 60;omega
 ·show (0:Int)=n % 60 % 1;omega
theorem ZpI{n:Int}(h0:0<=n)(h1:n<=6311433600)(k:Nat):0<=Zeu n k/\Zeu n k<=6311433600:=by
 rcases k with _|_|_|_|k
 ·exact ⟨h0,h1⟩
 ·show 0<=n % 86400/\n % 86400<=6311433600;omega
 ·show 0<=n % 3600/\n % 3600<=6311433600;omega
 ·show 0<=n % 60/\n % 60<=6311433600;omega
 ·show (0:Int)<=0/\(0:Int)<=6311433600;omega
theorem ZpN(k:Nat):1<=unN k/\unN k<=86400:=by
 rcases k with _|_|_|k
 ·decide
 ·decide
 ·decide
 ·show (1:Int)<=1/\(1:Int)<=86400;decide
theorem Zps(k:Nat):(unS k).length<=3:=by
 rcases k with _|_|_|k
 ·decide
 ·decide
 ·decide
 ·show ([115]:Str).length<=3;decide
theorem ZtS:∀k:Fin 4,JS[k.val]?=some (.string ⟨(unS k.val).toArray⟩):=by
 exact m138_
def Zfa:Array Value:=#[.int .i64 86400,.int .i64 3600,.int .i64 60,.int .i64 1]
theorem Zvg:∀k:Fin 4,Zfa[k.val]?=some (.int .i64 (unN k.val)):=by
 exact m138_
theorem Zkl:∀l:List Str,l≠[]->spT l=32::Ya [32] l
 |[],h=>absurd rfl h
 |[a],_=>by show (32::a)++[]=32::a;rw [List.append_nil]
 |a::b::t,_=>by
  have:=Zkl (b::t) s_
  show (32::a)++spT (b::t)=32::(a++[32]++Ya [32] (b::t));rw [this];simp
theorem ZlA{n:Int}(h0:0<n):∃l,ZfP n 4=spT l/\l≠[]/\l=ZN (n / 86400) [100]++ZN (n % 86400 / 3600) [104]++ZN (n % 3600 / 60) [109,105,110]++ZN (n % 60) [115]:=by
 refine ⟨_,?_,?_,rfl⟩
 ·show ((([]++spT (ZN (n / 86400) [100]))++spT (ZN (n % 86400 / 3600) [104]))++spT (ZN (n % 3600 / 60) [109,105,110]))++spT (ZN (n % 60 / 1) [115])=_
  rw [Int.ediv_one];unfold spT;simp only [List.flatMap_append,List.nil_append]
 ·intro e
  simp only [List.append_eq_nil_iff] at e;obtain ⟨⟨⟨e1,e2⟩,e3⟩,e4⟩:=e;have no:∀{m:Int} {u:Str},ZN m u=[]->m<=0:=by
   intro m u h;unfold ZN at h;split at h
   ·cases h
   ·omega
  have a1:=no e1;have a2:=no e2;have a3:=no e3;have a4:=no e4;omega
theorem ZkU{n:Int}(h0:0<=n)(h1:n<=6311433600):∀k:Nat,(ZfP n k).length<=k*40
 |0=>Nat.le_refl _
 |k+1=>by
  have ih:=ZkU h0 h1 k;have hr:=ZpI h0 h1 k;have hu:=ZpN k;have hq0:0<=Zeu n k / unN k:=Int.ediv_nonneg hr.1 o_;have hq1:Zeu n k / unN k<=6311433600:=Int.le_trans (Int.ediv_le_self _ hr.1) hr.2;have hp:(spT (ZN (Zeu n k / unN k) (unS k))).length<=40:=by
   unfold ZN;split
   ·have h2:=Go.Lib.itoa_length_le (Zeu n k / unN k) o_ o_
    have h3:=Zps k;show (((32:UInt8)::(Go.Lib.itoa (Zeu n k / unN k)++unS k))++[]).length<=40;simp only [List.append_nil,c14_,c5_];omega
   ·exact Nat.zero_le _
  show (ZfP n k++spT (ZN (Zeu n k / unN k) (unS k))).length<=_;rw [c5_];omega
def SpF(out:Str)(r un q:Int)(k:Nat)(dg dg1 us dg2 out2:Str):Nat->Value->World->Prop
 |0,v,_=>v=.string ⟨out.toArray⟩
 |1,v,_=>v=.int .i64 r
 |2,v,_=>v=.int .i64 un
 |3,v,_=>v=.int .i64 q
 |4,v,_=>v=.string ⟨dg.toArray⟩
 |5,v,_=>v=.string ⟨dg1.toArray⟩
 |6,v,W=>∃b,v=.slice (some ⟨b,0,none⟩) 4 4/\W.heap[b]?=some (.cells JS 9 (0,0))
 |7,v,_=>v=.int .i64 k
 |8,v,W=>∃b,v=.pointer (some ⟨b,k,none⟩)/\W.heap[b]?=some (.cells JS 9 (0,0))
 |9,v,_=>v=.string ⟨us.toArray⟩
 |10,v,_=>v=.string ⟨dg2.toArray⟩
 |11,v,_=>v=.string ⟨out2.toArray⟩
 |12,v,_=>v=.string ⟨out2.toArray⟩
 |_,_,_=>True
theorem SpF.mono{out:Str}{r un q:Int}{k:Nat}{dg dg1 us dg2 out2:Str}(j:Nat)(v:Value)(W W':World)(hb:Below W.heap.size W W')(h:SpF out r un q k dg dg1 us dg2 out2 j v W):SpF out r un q k dg dg1 us dg2 out2 j v W':=by
 match j,h with
 |0,h=>exact h
 |1,h=>exact h
 |2,h=>exact h
 |3,h=>exact h
 |4,h=>exact h
 |5,h=>exact h
 |6,⟨b,e,h⟩=>exact ⟨b,e,Za h hb⟩
 |7,h=>exact h
 |8,⟨b,e,h⟩=>exact ⟨b,e,Za h hb⟩
 |9,h=>exact h
 |10,h=>exact h
 |11,h=>exact h
 |12,h=>exact h
 |_+13,_=>exact trivial
theorem Qx(n:Int)(w:World)(h0 : -9223372036854775808<=n)(h1:n<=9223372036854775807):Calls prog 108 #[.int .i64 n] w fun e w'=>e=.returned (.string ⟨(Yj n).toArray⟩)/\Below w.heap.size w w':=by
 by_cases hf:n=1099511627776
 ·subst hf
  exact m140_
 have j0:(n==1099511627776)=false:=beq_false_of_ne hf;by_cases hn:n<0
 ·have HE:=h_ (show Yj n=[] by unfold Yj;rw [if_neg hf,if_pos (.inl hn)])
  exact m139_
 by_cases hm:6311433600<n
 ·have HE:=h_ (show Yj n=[] by unfold Yj;rw [if_neg hf,if_pos (.inr hm)])
  exact m139_
 by_cases hz:n=0
 ·subst hz
  exact m140_
 have j1:(n==0)=false:=beq_false_of_ne hz;have HSP:=h_ (show Yj n=(ZfP n 4).drop 1 by
  obtain ⟨l,e1,e2,e3⟩:=ZlA (n:=n) o_;rw [e1,Zkl l e2];unfold Yj;rw [if_neg hf,if_neg o_,if_neg hz,e3];rfl)
 have HNE:=h_ (show 1<=(ZfP n 4).length by
  obtain ⟨l,e1,e2,e3⟩:=ZlA (n:=n) o_;rw [e1,Zkl l e2];simp)
 have HN0:=h_ (show 0<=n/\n<=6311433600 by omega);clear h0 h1 hf hz;go_enter func108,ntmps108;go_wp2_with fail;have HX:=h_ (heap_alloc_new w (.cells Zfa 3));have HB0:=h_ ((Below.refl w.heap.size w).alloc l_ (.cells Zfa 3));obtain ⟨IB,hIB⟩:=e_ w.heap.size;unfold Zfa at HX HB0;rw [<-hIB] at HX⊢;generalize w.alloc (.cells #[.int .i64 86400,.int .i64 3600,.int .i64 60,.int .i64 1] 3)=w1 at HX HB0⊢;clear hn hm j0 j1 hIB;go_loopg [3,4,20] 5 (fun f v r i wr=>∃(k:Nat),v=.string ⟨(ZfP n k).toArray⟩/\r=.int .i64 (Zeu n k)/\i=.int .i64 k/\k<=4/\4-k<f/\Hid (Below w1.heap.size w1 wr))
 case atStart=>exact ⟨0,rfl,rfl,rfl,o_,o_,h_ b_⟩
 case round=>
  obtain ⟨k,rfl,rfl,rfl,hk,hf,HB⟩:=hrel;by_cases hlt:k<4
  ·have i5:(k:Int)<(4:Int):=o_
   have hxk:=Za HX.out HB.out;have hcell:wr.cell? ⟨IB,k,none⟩=some (.int .i64 (unN k)):=((rd hxk).1 k).trans (Zvg ⟨k,hlt⟩);have hrr:=ZpI HN0.out.1 HN0.out.2 k;have huu:=ZpN k;have HST:=h_ (show ZfP n (k+1)=ZfP n k++spT (ZN (Zeu n k / unN k) (unS k)) from rfl);have HRM:=h_ (ZsV n k hlt);have HUS:=h_ (ZtS ⟨k,hlt⟩);have HLN:=h_ (ZkU HN0.out.1 HN0.out.2 k);have hul:=Zps k;obtain ⟨r2,hr2⟩:=e_ (Zeu n (k+1));obtain ⟨out2,ho2⟩:=e_ (ZfP n (k+1));rw [<-hr2] at HRM;rw [<-ho2] at HST;have HO2:=h_ ho2;have HR2:=h_ hr2;clear hr2 ho2;generalize Zeu n k=r at *;generalize ZfP n k=out at *;generalize unN k=un at *;generalize unS k=us at *;clear hxk;have hmod:r.tmod un=r2:=by rw [Int.tmod_eq_emod_of_nonneg hrr.1,HRM.out]
   have hw2:IntKind.i64.wrap r2=r2:=IntWalk.i64_in _ (by rw [HRM.out];have:=Int.emod_nonneg r (show un≠0 by omega);have:=Int.emod_lt_of_pos r (show 0<un by omega);omega);have hun0:(un==0)=false:=n15_;have hun1:¬(un=0):=o_;by_cases hge:un<=r
   ·obtain ⟨q,hq⟩:=e_ (r / un)
    have hqp:1<=q:=by rw [hq];exact Int.le_ediv_of_mul_le o_ o_
    have hqm:q<=6311433600:=by rw [hq];exact Int.le_trans (Int.ediv_le_self _ hrr.1) hrr.2
    have htd:r.tdiv un=q:=by rw [Int.tdiv_eq_ediv_of_nonneg hrr.1,hq]
    rw [<-hq] at HST;clear hq;obtain ⟨m,rfl⟩:∃m:Nat,q=m:=⟨q.toNat,o_⟩;have hwm:IntKind.i64.wrap (m:Int)=(m:Int):=IntWalk.i64_in _ o_;have HD:=h_ (fun w=>ZhO m w o_);have hdl:=Zd1 m o_;have HO:=h_ (show out2=out++(32::Go.Lib.decDigits m++us) by
     rw [HST.out];unfold ZN spT;rw [if_pos o_,Go.Lib.itoa_nonneg];simp)
    generalize Go.Lib.decDigits m=dg at *;have HC1:=h_ (QL [32] dg n62_);have HC2:=h_ (QL (32::dg) us (by simp only [c14_];omega));have HC3:=h_ (QL out (32::dg++us) (by have:=HLN.out;simp only [c14_,c5_];omega));rw [<-HO.out] at HC3;obtain ⟨dg1,hdg1⟩:=e_ ((32:UInt8)::dg);rw [<-hdg1] at HC2 HC3;replace HC1:=h_ (show Op.stringOp .add ⟨#[32]⟩ ⟨dg.toArray⟩=pure (.string ⟨dg1.toArray⟩) by rw [hdg1];exact HC1.out);obtain ⟨dg2,hdg2⟩:=e_ (dg1++us);rw [<-hdg2] at HC2 HC3;clear hdg1 hdg2 HST HO hdl HLN HRM hul hrr huu;go_upto_region 13 with fail
    go_cut [3] from 28 to 40 (fun s3 w'=>s3=.string ⟨out2.toArray⟩/\Hid (Below wr.heap.size wr w'))
    case first=>
     rename_i J0 K0 hJ0 hK0;have HJ:=h_ hJ0;have HK:=h_ hK0;clear hJ0 hK0;refine Zaq (N:=46) wr (SpF out r un m k dg dg1 us dg2 out2) (fun j=>j) [[],[],[],[],[],[],[],[],[],[],[],[],[]] k_ k_ rfl k_ (Ze ⟨1,rfl⟩) SpF.mono ?_ ?_
     ·intro i oo ho D V a W hD hdep hI
      have hi:i<13:=(c6_.1 ho).1;have h0:=hI.inv;have hB:=True.intro;rcases (show i=0\/i=1\/i=2\/i=3\/i=4\/i=5\/i=6\/i=7\/i=8\/i=9\/i=10\/i=11\/i=12 by omega) with rfl|rfl|rfl|rfl|rfl|rfl|rfl|rfl|rfl|rfl|rfl|rfl|rfl
      ·obtain rfl:=Option.some.inj ho
       have s:a.tmps[3]?=some (.string ⟨out.toArray⟩):=(hI.ahead 3 12 (h0.not hD k_) k_).trans rfl;exact ZA (.string ⟨out.toArray⟩) n7_ ⟨_,rfl,rfl,.inl b_⟩
      ·obtain rfl:=Option.some.inj ho
       have s:a.tmps[4]?=some (.int .i64 r):=(hI.at 4 k_).trans rfl;exact ZA (.int .i64 r) n7_ ⟨_,rfl,rfl,.inl b_⟩
      ·obtain rfl:=Option.some.inj ho
       have s:a.tmps[6]?=some (.int .i64 un):=(hI.at 6 k_).trans rfl;exact ZA (.int .i64 un) n7_ ⟨_,rfl,rfl,.inl b_⟩
      ·obtain rfl:=Option.some.inj ho
       have d1:=hdep ⟨1,.data⟩ s_ rfl;have s1:=hI.slot 1 _ 29 rfl rfl d1;have d2:=hdep ⟨2,.data⟩ s_ rfl;have s2:=hI.slot 2 _ 30 rfl rfl d2;have f1:V 1=.int .i64 r:=h0.fact 1 d1 n22_;rw [f1] at s1;clear f1;have f2:V 2=.int .i64 un:=h0.fact 2 d2 n22_;rw [f2] at s2;clear f2;exact ZA (.int .i64 m) (by obtain ⟨y0,z0⟩:=Zi s1;obtain ⟨y1,z1⟩:=Zi s2;clear h0 hB hI hdep;go_simp) ⟨_,rfl,rfl,.inl b_⟩
      ·obtain rfl:=Option.some.inj ho
       have d3:=hdep ⟨3,.data⟩ s_ rfl;have s3:=hI.slot 3 _ 31 rfl rfl d3;have f3:V 3=.int .i64 m:=h0.fact 3 d3 n22_;rw [f3] at s3;refine Zcp 191 #[.int .i64 m] n36_ (HD.out W) ?_;rintro e w' ⟨rfl,rfl⟩;exact ⟨_,rfl,_,rfl,rfl,.inl b_⟩
      ·obtain rfl:=Option.some.inj ho
       have d4:=hdep ⟨4,.data⟩ s_ rfl;have s4:=hI.slot 4 _ 32 rfl rfl d4;have f4:V 4=.string ⟨dg.toArray⟩:=h0.fact 4 d4 n22_;rw [f4] at s4;clear f4;have hc:=HC1.out;exact ZA (.string ⟨dg1.toArray⟩) n55_ ⟨_,rfl,rfl,.inl b_⟩
      ·obtain rfl:=Option.some.inj ho
       exact ZA (w':=W.alloc (.cells JS 9)) (.slice (some ⟨W.heap.size,0,none⟩) 4 4) (by unfold JS;clear h0 hB hI hdep;go_simp) ⟨_,rfl,⟨_,rfl,heap_alloc_new _ _⟩,.inl (b_.alloc l_ _)⟩
      ·obtain rfl:=Option.some.inj ho
       have s:a.tmps[5]?=some (.int .i64 k):=(hI.at 5 k_).trans rfl;exact ZA (.int .i64 k) n7_ ⟨_,rfl,rfl,.inl b_⟩
      ·obtain rfl:=Option.some.inj ho
       have d6:=hdep ⟨6,.data⟩ s_ rfl;have s6:=hI.slot 6 _ 34 rfl rfl d6;have d7:=hdep ⟨7,.data⟩ s_ rfl;have s7:=hI.slot 7 _ 35 rfl rfl d7;have f7:V 7=.int .i64 k:=h0.fact 7 d7 n22_;obtain ⟨b,f6,hb⟩:∃b,V 6=.slice (some ⟨b,0,none⟩) 4 4/\W.heap[b]?=some (.cells JS 9 (0,0)):=h0.fact 6 d6 n22_;rw [f6] at s6;rw [f7] at s7;clear f6 f7;exact ZA (.pointer (some ⟨b,k,none⟩)) (by obtain ⟨y0,z0⟩:=Zi s6;obtain ⟨y1,z1⟩:=Zi s7;clear h0 hB hI hdep hb;go_simp) ⟨_,rfl,⟨_,rfl,hb⟩,.inl b_⟩
      ·obtain rfl:=Option.some.inj ho
       have d8:=hdep ⟨8,.data⟩ s_ rfl;have s8:=hI.slot 8 _ 36 rfl rfl d8;obtain ⟨b,f8,hb⟩:∃b,V 8=.pointer (some ⟨b,k,none⟩)/\W.heap[b]?=some (.cells JS 9 (0,0)):=h0.fact 8 d8 n22_;rw [f8] at s8;have hcu:W.cell? ⟨b,k,none⟩=some (.string ⟨us.toArray⟩):=((rd hb).1 k).trans HUS.out;clear f8 hb;exact ZA (.string ⟨us.toArray⟩) n56_ ⟨_,rfl,rfl,.inl b_⟩
      ·obtain rfl:=Option.some.inj ho
       have d5:=hdep ⟨5,.data⟩ s_ rfl;have s5:=hI.slot 5 _ 33 rfl rfl d5;have d9:=hdep ⟨9,.data⟩ s_ rfl;have s9:=hI.slot 9 _ 37 rfl rfl d9;have f5:V 5=.string ⟨dg1.toArray⟩:=h0.fact 5 d5 n22_;rw [f5] at s5;clear f5;have f9:V 9=.string ⟨us.toArray⟩:=h0.fact 9 d9 n22_;rw [f9] at s9;clear f9;have hc:=HC2.out;exact ZA (.string ⟨dg2.toArray⟩) (by obtain ⟨y0,z0⟩:=Zi s5;obtain ⟨y1,z1⟩:=Zi s9;clear h0 hB hI hdep;go_simp) ⟨_,rfl,rfl,.inl b_⟩
      ·obtain rfl:=Option.some.inj ho
       have d0:=hdep ⟨0,.data⟩ s_ rfl;have s0:=hI.slot 0 _ 28 rfl rfl d0;have d10:=hdep ⟨10,.data⟩ s_ rfl;have s10:=hI.slot 10 _ 38 rfl rfl d10;have f0:V 0=.string ⟨out.toArray⟩:=h0.fact 0 d0 n22_;rw [f0] at s0;clear f0;have f10:V 10=.string ⟨dg2.toArray⟩:=h0.fact 10 d10 n22_;rw [f10] at s10;clear f10;have hc:=HC3.out;exact ZA (.string ⟨out2.toArray⟩) (by obtain ⟨y0,z0⟩:=Zi s0;obtain ⟨y1,z1⟩:=Zi s10;clear h0 hB hI hdep;go_simp) ⟨_,rfl,rfl,.inl b_⟩
      ·obtain rfl:=Option.some.inj ho
       have d11:=hdep ⟨11,.data⟩ s_ rfl;have s11:=hI.slot 11 _ 39 rfl rfl d11;have f11:V 11=.string ⟨out2.toArray⟩:=h0.fact 11 d11 n22_;rw [f11] at s11;clear f11;exact ZA (.string ⟨out2.toArray⟩) (by obtain ⟨y0,z0⟩:=Zi s11;clear h0 hB hI hdep;go_simp) ⟨_,rfl,rfl,.inl b_⟩
     ·intro D V a W hall hI
      have h0:=hI.inv;have e12:V 12=.string ⟨out2.toArray⟩:=h0.fact 12 (hall 12 d_) s_;have s3:=Yc ((hI.slot 12 _ 3 rfl rfl (hall 12 d_)).trans (congrArg some e12));have hform:=hI.form [3,28,29,30,31,32,33,34,35,36,37,38,39] k_;simp only [List.foldl_cons,List.foldl_nil,s3,sA_,sB_,sC_] at hform;rw [hform];have HBE:=h_ h0.bel;clear hform s3 hI h0 e12;show Exit.then _ _ .normal _ _;simp only [Exit.then];refine HK.out _ _ (Met.intro (HJ.out _ _ ?_));(repeat apply Exists.intro);exact ⟨⟨rfl,HBE⟩,rfl⟩
    case rest=>
     obtain ⟨rfl,HBE⟩:=hcut;replace HB:=h_ (HB.out.trans (HBE.out.mono HB.out.size));clear HBE;go_wp2_with fail;go_roundg (4-k)
     case measure=>omega
     case rel=>exact ⟨k+1,by rw [HO2.out],by rw [HR2.out],n9_,o_,o_,HB⟩
   ·have hge':¬(un<=r):=hge
    have hq0:¬(0<r / un):=by rw [Int.ediv_eq_zero_of_lt hrr.1 o_];decide
    have HO:=h_ (show out=out2 by rw [HST.out];unfold ZN;rw [if_neg hq0];show out=out++[];rw [List.append_nil]);clear HST HUS HLN HRM hrr huu hge hq0;go_wp2_with fail;go_roundg (4-k)
    case measure=>omega
    case rel=>exact ⟨k+1,by rw [<-HO2.out,<-HO.out],by rw [HR2.out],n9_,o_,o_,HB⟩
  ·obtain rfl:k=4:=o_
   have hl1:=HNE.out;have HLN:=h_ (ZkU HN0.out.1 HN0.out.2 4);have HE:=h_ (show Yj n=(ZfP n 4).drop 1 from HSP.out);generalize ZfP n 4=out at *;have hsz:(⟨out.toArray⟩:ByteArray).size=out.length:=by show out.toArray.size=_;simp
   have hl2:(1:Int)<=(out.length:Int):=o_;have hext:(⟨out.toArray⟩:ByteArray).extract 1 out.length=⟨(out.drop 1).toArray⟩:=by
    apply Yu;rw [ByteArray.data_extract,Array.toList_extract];show (out.drop 1).take (out.length-1)=out.drop 1;exact c9_ (by rw [List.length_drop];exact Nat.le_refl _)
   clear hl1 HNE HLN;go_wp2_with fail;go_ret;exact ⟨by rw [HE.out,List.drop_one];rfl,HB0.out.trans (HB.out.mono HB0.out.size)⟩
end Go.Proofs.YtmgmbeipbeknaaaGreatDoor
