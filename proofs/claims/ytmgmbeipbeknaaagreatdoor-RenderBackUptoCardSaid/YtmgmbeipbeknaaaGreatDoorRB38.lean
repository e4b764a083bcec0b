import Derived.Test.YtmgmbeipbeknaaaGreatDoorRB29
namespace Go.Proofs.YtmgmbeipbeknaaaGreatDoor
set_option linter.all false
set_option maxHeartbeats 16000000
set_option maxRecDepth 100000
theorem Zqm{u:UV}(h:ZfM u=true):(Yn (u 0).str (Qe u)).2=(0,0)/\ZaG (Yn (u 0).str (Qe u)).1 u=true/\Zcc (Qe u)=true:=by
 unfold ZfM at h;simp only [Bool.and_eq_true] at h;exact ⟨eq_of_beq h.1,h.2.1,h.2.2⟩
theorem ZsM{u:UV}(h:ZfM u=true):ZpU u=Xj (Qe u)/\QN u=Qe u:=by
 unfold ZpU QN;rw [h,if_pos rfl];unfold ZkS;rw [if_pos (Zqm h).2.2];exact ⟨rfl,rfl⟩
theorem ZcF(u:Nat):∀c∈Go.Lib.decDigits u,isDigit c=true:=by
 induction u using Nat.strongRecOn with
 |_ u ih=>
  intro c hc;rw [Go.Lib.decDigits] at hc;have hd:∀n,n<10->isDigit (UInt8.ofNat (48+n))=true:=d_;by_cases h:u<10
  ·rw [dif_pos h] at hc
   have e:c=UInt8.ofNat (48+u):=n95_;rw [e];exact hd u h
  ·rw [dif_neg h] at hc
   rcases List.mem_append.1 hc with h1|h1
   ·exact ih (u / 10) o_ c h1
   ·have e:c=UInt8.ofNat (48+u % 10):=n77_
    rw [e];exact hd _ o_
theorem Zb1:∀(v cur:Str),(∀c∈cur,c≠32)->∀x∈Jy v cur,∀c∈x,c≠32
 |[],cur,hc,x,hx=>by
  unfold Jy at hx;split at hx
  ·simp at hx
  ·simp at hx;subst hx;exact hc
 |d::t,cur,hc,x,hx=>by
  unfold Jy at hx;split at hx
  ·split at hx
   ·exact Zb1 t [] s_ x hx
   ·rcases List.mem_cons.1 hx with rfl|hx
    ·exact hc
    ·exact Zb1 t [] s_ x hx
  ·rename_i hd
   refine Zb1 t (cur++[d]) (fun c h=>?_) x hx;rcases List.mem_append.1 h with h|h
   ·exact hc c h
   ·have:c=d:=n32_
    subst this;exact hd
theorem ZeU{name:Str}{kind:Int}{u r:UV}{x:Ln}(h:Xi name kind u x=.ok r) :
  ∃k v,Qq x.val name=.ok v/\findKey x.sec x.key=some k/\k∈Zc/\k.sec=x.sec/\k.name=x.key/\r=u.upd (Zb k.name) (Zl name k v (u (Zb k.name)))/\Qh k v=true/\lnS kind { x with val:=v }=0/\Xv r=false:=by
 unfold Xi at h;cases hs:Qq x.val name with
 |error e=>rw [hs] at h;cases h
 |ok v=>
  rw [hs] at h;simp only at h;by_cases h0:lnS kind { x with val:=v }≠0
  ·rw [if_pos h0] at h;cases h
  ·rw [if_neg h0] at h
   cases hk:findKey x.sec x.key with
   |none=>rw [hk] at h;cases h
   |some k=>
    rw [hk] at h;simp only at h;by_cases h1:Qh k v=false
    ·rw [if_pos h1] at h;cases h
    ·rw [if_neg h1] at h
     by_cases h2:Xv (u.upd (Zb k.name) (Zl name k v (u (Zb k.name))))=true
     ·rw [if_pos h2] at h;cases h
     ·rw [if_neg h2] at h
      injection h with h
      obtain ⟨e1,e2⟩:=ZuA _ _ k hk;exact ⟨k,v,rfl,rfl,List.mem_of_find?_eq_some hk,e1,e2,h.symm,n77_,by simpa using h0,by rw [<-h];simpa using h2⟩
theorem Jd{name:Str}{kind:Int}{u r:UV}{x:Ln}{t:List Ln}(h:Z9 name kind u (x::t)=.ok r):∃q,Xi name kind u x=.ok q/\Z9 name kind q t=.ok r:=by
 rw [Z9] at h;cases hl:Xi name kind u x with
 |error e=>rw [hl] at h;cases h
 |ok q=>rw [hl] at h;exact ⟨q,rfl,h⟩
theorem Zbv{name:Str}{kind:Int}{j:Nat}{r:UV}:∀{L:List Ln} {u:UV},Z9 name kind u L=.ok r->(∀x∈L,Zb x.key≠j)->r j=u j
 |[],u,h,_=>by injection h with h;rw [h]
 |x::t,u,h,hx=>by
  obtain ⟨q,h1,h2⟩:=Jd h;obtain ⟨k,v,_,_,_,_,e,rfl,_⟩:=ZeU h1;rw [Zbv h2 (fun y hy=>hx y (by simp [hy])),UV.upd_ne];intro ej;exact hx x s_ (by rw [<-e,<-ej])
theorem Zgg{name:Str}{kind:Int}{r:UV}:∀{L M:List Ln} {u:UV},Xp L M->Z9 name kind u L=.ok r->Z9 name kind u M=.ok r
 |[],_,u,.nil,h=>h
 |x::t,_,u,.cons (b:=y) hxy ht,h=>by
  obtain ⟨q,h1,h2⟩:=Jd h;have e:Xi name kind u y=Xi name kind u x:=by
   obtain ⟨xs,xk,xv,xa⟩:=x;obtain ⟨ys,yk,yv,ya⟩:=y;obtain ⟨rfl,rfl,rfl⟩:=hxy;rfl
  rw [Z9,e,h1];exact Zgg ht h2
theorem Xp.erase{L M:List Ln}(h:Xp L M):∀i,Xp (L.eraseIdx i) (M.eraseIdx i):=by
 induction h with
 |nil=>intro i;exact .nil
 |cons hab ht ih=>
  intro i;cases i with
  |zero=>exact ht
  |succ i=>exact .cons hab (ih i)
theorem Xp.symm{L M:List Ln}(h:Xp L M):Xp M L:=by
 induction h with
 |nil=>exact .nil
 |cons hab ht ih=>exact .cons ⟨hab.1.symm,hab.2.1.symm,hab.2.2.symm⟩ ih
theorem Xp.len{L M:List Ln}(h:Xp L M):L.length=M.length:=by
 induction h with
 |nil=>rfl
 |cons hab ht ih=>rw [c14_,c14_,ih]
theorem Zg3{name:Str}{l:List Ln}(h:(Yn name l).2.1=0) :
  Zt name≠0/\Zd7 name=false/\Z9 name (Zt name:Nat) (Zw name) l=.ok (Yn name l).1/\QO (Zt name:Nat) (Yn name l).1=0/\(Yn name l).2=(0,0):=by
 unfold Yn at h⊢;by_cases hn:Zt name=0\/Zd7 name=true
 ·rw [if_pos hn] at h;exact absurd h d_
 ·rw [if_neg hn] at h⊢
  have h1:Zt name≠0:=fun e=>hn (.inl e)
  have h2:Zd7 name=false:=by cases hb:Zd7 name with|false=>rfl|true=>exact absurd (.inr hb) hn
  cases hl:Z9 name (Zt name:Nat) (Zw name) l with
  |error e=>rw [hl] at h;exact absurd h (Zhf _ _ _ _ _ hl)
  |ok u=>
   rw [hl] at h;simp only at h⊢;by_cases hw:QO (Zt name:Nat) u≠0
   ·rw [if_pos hw] at h;exact absurd h hw
   ·rw [if_neg hw]
    exact ⟨h1,h2,rfl,by simpa using hw,rfl⟩
theorem Zph{name:Str}(h:Zt name≠0):Zw name 0=.s name:=by
 unfold Zw;rw [if_neg h];split
 ·rfl
 ·split<;>rfl
theorem Zgq{name:Str}{kind:Int}{u r:UV}{L:List Ln}(h:Z9 name kind u L=.ok r):r 0=u 0:=Zbv h fun x _=>by have:=ZiJ x.key;omega
theorem Zcb(name:Str)(j:Nat):(Zw name j).len=0:=by
 have hz:∀j,(ZK j).len=0:=by
  intro j;unfold ZK;(repeat' split);all_goals rfl
 have hu:∀(u:UV) (i:Nat) (c:UC),(∀j,(u j).len=0)->c.len=0->∀j,(u.upd i c j).len=0:=by
  intro u i c h hc j;unfold UV.upd;split
  ·exact hc
  ·exact h j
 unfold Zw;split
 ·exact hz j
 ·have hb:=hu _ 6 (.n 5) (hu _ 5 (.n 10) (hu _ 3 (.b true) (hu _ 1 (.n (Zt name:Nat)) (hu ZK 0 (.s name) hz rfl) rfl) rfl) rfl) rfl
  simp only;split
  ·exact hu _ 17 _ (hu _ 16 _ (hu _ 14 _ (hu _ 7 _ hb rfl) rfl) rfl) rfl j
  ·split
   ·exact hu _ 22 _ hb rfl j
   ·exact hb j
theorem Zb3{α:Type}[DecidableEq α]{l m:List α}{y:α}(hy:y∈Xw l m):y∈l\/y∈m:=by
 have h:∀(m l:List α),y∈m.foldl (fun l x=>if x∈l then l else l++[x]) l->y∈l\/y∈m:=by
  intro m;induction m with
  |nil=>intro l h;exact .inl h
  |cons a t ih=>
   intro l h;rw [List.foldl_cons] at h;rcases ih _ h with h1|h1
   ·split at h1
    ·exact .inl h1
    ·rcases List.mem_append.1 h1 with h2|h2
     ·exact .inl h2
     ·have e0:y=a:=n64_
      exact .inr (by simp [e0])
   ·exact .inr (by simp [h1])
 unfold Xw at hy;split at hy
 ·cases hy
 ·exact h m l hy
theorem Zdh(name:Str)(rel:Int){y:Int×Str}:∀(ws:List Str) (l:List (Int×Str)),y∈ZW name rel l ws->y∈l\/y.2∈ws
 |[],l,h=>.inl h
 |s::t,l,h=>by
  rw [ZW] at h;rcases Zdh name rel t _ h with h1|h1
  ·split at h1
   ·rcases List.mem_append.1 h1 with h2|h2
    ·exact .inl h2
    ·have e:y=(rel,s):=n64_
     exact .inr (by simp [e])
   ·exact .inl h1
  ·exact .inr (by simp [h1])
theorem ZlK(c:UC):c.cmds.length<=c.len:=by cases c<;>simp [UC.cmds,UC.len]
theorem ZlW(c:UC):c.nums.length<=c.len:=by cases c<;>simp [UC.nums,UC.len]
theorem Zir(c:UC):c.strs.length<=c.len:=by cases c<;>simp [UC.strs,UC.len]
theorem Zpc(c:UC):c.prs.length<=c.len:=by cases c<;>simp [UC.prs,UC.len]
theorem Zlp(c:UC):c.rels.length<=c.len:=by cases c<;>simp [UC.rels,UC.len]
def NoB(u:UV):Prop:=(∀j∈([20,30,31,32,33]:List Nat),∀s∈(u j).strs,∀c∈s,c≠32)/\∀r∈(u 4).rels,∀c∈r.2,c≠32
theorem Zvi:(Zc.all fun k=>k.form==6||!([4,20,30,31,32,33]:List Nat).contains (Zb k.name))=true:=n1_
theorem Zt6:(Zc.all fun k=>!(k.form==6)||((ZL k.name==0)==(Zb k.name !=4)))=true:=n1_
theorem NoB.new(name:Str):NoB (Zw name):=by
 have h:=Zcb name;have hs:∀j,(Zw name j).strs=[]:=fun j=>by
  have:=Zir (Zw name j)
  rw [h j] at this;exact c10_ o_
 have hr:(Zw name 4).rels=[]:=by
  have:=Zlp (Zw name 4)
  rw [h 4] at this;exact c10_ o_
 exact ⟨fun j _ s hm=>(by rw [hs j] at hm;cases hm),fun q hm=>(by rw [hr] at hm;cases hm)⟩
theorem NoB.line{name:Str}{kind:Int}{u r:UV}{x:Ln}(hu:NoB u)(hl:Xi name kind u x=.ok r):NoB r:=by
 obtain ⟨k,v,_,_,hk,_,_,rfl,_⟩:=ZeU hl;have t6:=c7_.1 Zvi k hk;have t6r:=c7_.1 Zt6 k hk;have hb:∀y∈Zg v,∀c∈y,c≠32:=Zb1 v [] s_;by_cases hf:k.form=6
 ·have hfv:∀c,Zl name k v c=if ZL k.name=0 then .ss (Xw c.strs (Zg v)) else .rs (ZW name (ZL k.name:Nat) (if v=[] then c.rels.filter (fun r=>r.1 !=(ZL k.name:Nat)) else c.rels) (Zg v)):=by
   intro c;unfold Zl;rw [hf];simp
  rw [hfv];by_cases hr:ZL k.name=0
  ·have h4:Zb k.name≠4:=by simpa [hf,hr] using t6r
   rw [if_pos hr];refine ⟨fun j hj s hs=>?_,fun q hq=>?_⟩
   ·by_cases e:j=Zb k.name
    ·subst e
     rw [UV.upd_at] at hs;rcases Zb3 hs with h1|h1
     ·exact hu.1 _ hj s h1
     ·exact hb s h1
    ·rw [UV.upd_ne _ _ e] at hs;exact hu.1 j hj s hs
   ·rw [UV.upd_ne _ _ (fun e=>h4 e.symm)] at hq;exact hu.2 q hq
  ·have h4:Zb k.name=4:=by
    rw [hf,beq_false_of_ne hr] at t6r;simpa using t6r
   rw [if_neg hr,h4];refine ⟨fun j hj s hs=>?_,fun q hq=>?_⟩
   ·rw [UV.upd_ne _ _ (fun e=>by subst e;revert hj;decide)] at hs;exact hu.1 j hj s hs
   ·rw [UV.upd_at] at hq
    rcases Zdh _ _ _ _ hq with h1|h1
    ·refine hu.2 q ?_
     split at h1
     ·exact (List.mem_filter.1 h1).1
     ·exact h1
    ·exact hb q.2 h1
 ·have h6:(k.form==6)=false:=beq_false_of_ne hf
  rw [h6,Bool.false_or] at t6;have hn:Zb k.name∉([4,20,30,31,32,33]:List Nat):=by simpa using t6
  refine ⟨fun j hj s hs=>?_,fun q hq=>?_⟩
  ·rw [UV.upd_ne _ _ (fun e=>hn (by rw [<-e];exact List.mem_cons_of_mem _ hj))] at hs;exact hu.1 j hj s hs
  ·rw [UV.upd_ne _ _ (fun e=>hn (by rw [<-e];exact List.mem_cons_self ..))] at hq;exact hu.2 q hq
theorem NoB.lines{name:Str}{kind:Int}{r:UV}:∀{L:List Ln} {u:UV},NoB u->Z9 name kind u L=.ok r->NoB r
 |[],u,hu,h=>by injection h with h;rw [<-h];exact hu
 |x::t,u,hu,h=>by
  obtain ⟨q,h1,h2⟩:=Jd h;exact NoB.lines (hu.line h1) h2
theorem Zo8:Zc.Nodup:=n1_
theorem Zha:(Zc.all fun k=>Zc.all fun q=>!(Zb k.name==Zb q.name)||(k==q||((ZL k.name !=0&&k.name !=Z8)||((ZL q.name !=0&&q.name !=Z8)||((k.name==Zn&&q.name==Z7)||(k.name==Z7&&q.name==Zn))))))=true:=n1_
theorem Zrg:∀i:Fin 9,Zb (YR.getD i.val [])=4:=n1_
theorem Zfg(r:Int):Zb (Yg r)=4:=by
 unfold Yg;split
 ·have:=Zrg ⟨(r-1).toNat,o_⟩
  exact this
 ·decide +kernel
theorem Yl:Zb Z8=4/\Zb Zy=19/\ZL Z8≠0:=n1_
theorem ZmG{u f:UV}{k:ZE}{p:Str×Str}(h:p∈YJ u f k):Zb p.1=Zb k.name:=by
 unfold YJ at h;split at h
 ·rename_i e
  obtain ⟨r,_,rfl⟩:=List.mem_map.1 h;rw [e,Yl.1];exact Zfg _
 ·split at h
  ·cases h
  ·split at h
   ·obtain ⟨r,_,rfl⟩:=List.mem_map.1 h;rfl
   ·split at h
    ·cases h
    ·obtain ⟨r,_,rfl⟩:=List.mem_map.1 h;rfl
theorem ZfD{u f:UV}{k:ZE}(h:ZL k.name≠0/\k.name≠Z8):YJ u f k=[]:=by
 unfold YJ;rw [if_neg h.2,if_pos h.1]
theorem Zk9{u f:UV}{k q:ZE}(h1:k.name=Zn)(h2:q.name=Z7):YJ u f k=[]\/YJ u f q=[]:=by
 have a:Zn≠Z8/\¬ZL Zn≠0/\Zn≠Zy/\Zn≠Z7:=n1_;have b:Z7≠Z8/\¬ZL Z7≠0/\Z7≠Zy:=n1_;by_cases hk:(u 1).num=3
 ·left
  unfold YJ;rw [h1,if_neg a.1,if_neg a.2.1,if_neg a.2.2.1,if_pos (.inl ⟨rfl,hk⟩)]
 ·right
  unfold YJ;rw [h2,if_neg b.1,if_neg b.2.1,if_neg b.2.2,if_pos (.inr ⟨rfl,hk⟩)]
theorem ZoZ{u f:UV}{k q:ZE}(hk:k∈Zc)(hq:q∈Zc)(hne:k≠q)(h0:YJ u f k≠[]){p:Str×Str}(hp:p∈YJ u f q):Zb p.1≠Zb k.name:=by
 intro e;rw [ZmG hp] at e;have hq0:YJ u f q≠[]:=fun e=>by rw [e] at hp;cases hp
 have h:=c7_.1 (c7_.1 Zha k hk) q hq;simp only [e,beq_self_eq_true,Bool.not_true,Bool.false_or,Bool.or_eq_true,Bool.and_eq_true,bne_iff_ne,beq_iff_eq] at h;rcases h with h|h|h|h|h
 ·exact hne h
 ·exact h0 (ZfD h)
 ·exact hq0 (ZfD h)
 ·rcases Zk9 (u:=u) (f:=f) h.1 h.2 with e|e
  ·exact h0 e
  ·exact hq0 e
 ·rcases Zk9 (u:=u) (f:=f) h.2 h.1 with e|e
  ·exact hq0 e
  ·exact h0 e
theorem Zq5{name s v:Str}(hn:Zt name≠0)(h:Qq (Yk s) name=.ok v):v=s:=by
 unfold Qq at h;rw [if_neg hn,Ze4] at h;injection h with h
 exact h.symm
structure OkV(kind:Int)(k:ZE)(v:Str):Prop where
 some_:ZaI k.sec kind=true
 val:ZeK v k=0
 after:Qh k v=true
theorem Ziw{kind:Int}{x:Ln}{k:ZE}(hk:findKey x.sec x.key=some k):lnS kind x=0↔ZaI x.sec kind=true/\ZeK x.val k=0:=by
 unfold lnS Zlh;rw [hk];cases ZaI x.sec kind with
 |false=>simp
 |true=>
  simp only [Bool.true_eq_false,if_false,true_and];split
  ·rename_i h;exact ⟨fun _=>h,fun _=>rfl⟩
  ·rename_i h;exact ⟨fun e=>absurd e d_,fun e=>absurd e h⟩
theorem Zr0{name:Str}{kind:Int}{u r:UV}{x:Ln}(h:Xi name kind u x=.ok r):∃k v,k∈Zc/\OkV kind k v/\r=u.upd (Zb k.name) (Zl name k v (u (Zb k.name)))/\Xv r=false:=by
 obtain ⟨k,v,_,hk,hm,e1,e2,e,ha,hl,hlong⟩:=ZeU h
 have:=(Ziw (x:={ x with val:=v }) hk).1 hl
 exact ⟨k,v,hm,⟨by rw [e1];exact this.1,this.2,ha⟩,e,hlong⟩
theorem Zm0{name:Str}(hn:Zt name≠0){kind:Int}{k:ZE}(hk:k∈Zc){s:Str}(h:OkV kind k s)(u:UV)(n:Int)(hl:Xv (u.upd (Zb k.name) (Zl name k s (u (Zb k.name))))=false) :
  Xi name kind u ⟨k.sec,k.name,Yk s,n⟩=.ok (u.upd (Zb k.name) (Zl name k s (u (Zb k.name)))):=by
 have hs:Qq (Yk s) name=.ok s:=by unfold Qq;rw [if_neg hn,Ze4]
 have hf:findKey k.sec k.name=some k:=Zre k hk;unfold Xi;simp only;rw [hs];simp only;rw [if_neg (by rw [(Ziw (x:=⟨k.sec,k.name,s,n⟩) hf).2 ⟨h.some_,h.val⟩];simp),hf];simp only;rw [if_neg (by rw [h.after];decide),if_neg (by rw [hl];decide)]
theorem Zpk{r u:UV}(h:∀i,(r i).len<=(u i).len)(hu:Xv u=false):Xv r=false:=by
 unfold Xv at hu⊢;rw [Bool.or_eq_false_iff,List.any_eq_false] at hu⊢;obtain ⟨h1,h2⟩:=hu;refine ⟨?_,fun i hi=>?_⟩
 ·have:=h 4;have:=of_decide_eq_false h1;exact decide_eq_false o_
 ·have:=h2 i hi;have:=h i;simp only [decide_eq_true_eq] at *;omega
theorem Zhl(name:Str):Xv (Zw name)=false:=by
 unfold Xv;rw [Bool.or_eq_false_iff,List.any_eq_false];refine ⟨by rw [Zcb];decide,fun i _=>by rw [Zcb];decide⟩
def Zhp(name:Str)(kind:Int)(k:ZE)(c:UC):Prop:=
 if k.list=false then c=Zw name (Zb k.name)\/∃k' v,k'∈Zc/\k'.list=false/\Zb k'.name=Zb k.name/\OkV kind k' v/\c=Zl name k' v (.s [])
 else (c.len=0\/ZaI k.sec kind=true)/\
  (if k.form=7 then ∃l,c=.cs l/\∀x∈l,∃v,XU v=some x
  else if k.form=4 then ∃l,c=.ns l/\∀n∈l,∃v,YF v=(n,true)
  else if k.form=9 then ∃l,c=.ss l/\∀s∈l,s≠[]/\(Za9 s).isSome=true
  else if k.form=11 then ∃l,c=.ns l/\l.Nodup/\∀n∈l,(∃w,Xd w=(n,true))/\(k.name=Qs->n≠0)
  else if k.form=8 then ∃l,c=.ps l/\(l.map fun p=>p.1).Nodup/\∀p∈l,Zfy p.1=true/\p.2.contains 0=false
  else if ZL k.name=0 then ∃l,c=.ss l/\l.Nodup/\∀s∈l,Zg s=[s]/\ZaQ s=true
  else ∃l,c=.rs l/\l.Nodup/\∀r∈l,(1<=r.1/\r.1<=9)/\r.2≠name/\Zg r.2=[r.2]/\ZaQ r.2=true)
def Zbl(name:Str)(kind:Int)(u:UV):Prop:=∀k∈Zc,Zhp name kind k (u (Zb k.name))
theorem ZqO(name:Str)(j:Nat)(h:j∉([0,1,3,5,6,7,14,16,17,22]:List Nat)):Zw name j=ZK j:=by
 have hj:j≠0/\j≠1/\j≠3/\j≠5/\j≠6/\j≠7/\j≠14/\j≠16/\j≠17/\j≠22:=n32_;obtain ⟨h0,h1,h3,h5,h6,h7,h14,h16,h17,h22⟩:=hj;unfold Zw;split
 ·rfl
 ·simp only
  split
  ·rw [UV.upd_ne _ _ h17,UV.upd_ne _ _ h16,UV.upd_ne _ _ h14,UV.upd_ne _ _ h7,UV.upd_ne _ _ h6,UV.upd_ne _ _ h5,UV.upd_ne _ _ h3,UV.upd_ne _ _ h1,UV.upd_ne _ _ h0]
  ·split
   ·rw [UV.upd_ne _ _ h22,UV.upd_ne _ _ h6,UV.upd_ne _ _ h5,UV.upd_ne _ _ h3,UV.upd_ne _ _ h1,UV.upd_ne _ _ h0]
   ·rw [UV.upd_ne _ _ h6,UV.upd_ne _ _ h5,UV.upd_ne _ _ h3,UV.upd_ne _ _ h1,UV.upd_ne _ _ h0]
inductive ZvJ(k:ZE):Prop where
 |cs (f:k.form=7) (r:ZL k.name=0) (z:ZK (Zb k.name)=.cs [])
 |ps (f:k.form=8) (r:ZL k.name=0) (z:ZK (Zb k.name)=.ps [])
 |cal (f:k.form=9) (r:ZL k.name=0) (z:ZK (Zb k.name)=.ss [])
 |ints (f:k.form=11) (r:ZL k.name=0) (z:ZK (Zb k.name)=.ns [])
 |spans (f:k.form=4) (r:ZL k.name=0) (z:ZK (Zb k.name)=.ns [])
 |names (f:k.form=6) (r:ZL k.name=0) (z:ZK (Zb k.name)=.ss [])
 |rels (f:k.form=6) (r:ZL k.name≠0) (z:ZK (Zb k.name)=.rs []) (s:k.sec=Z7) (rg:ZL k.name<=9)
theorem Zt5:(Zc.all fun k=>!k.list||((k.form==7&&(ZL k.name==0&&ZK (Zb k.name)==.cs []))||((k.form==8&&(ZL k.name==0&&ZK (Zb k.name)==.ps []))||((k.form==9&&(ZL k.name==0&&ZK (Zb k.name)==.ss [])) ||
  ((k.form==11&&(ZL k.name==0&&ZK (Zb k.name)==.ns []))||((k.form==4&&(ZL k.name==0&&ZK (Zb k.name)==.ns []))||((k.form==6&&(ZL k.name==0&&ZK (Zb k.name)==.ss []))||(k.form==6&&(ZL k.name !=0&&(ZK (Zb k.name)==.rs []&&(k.sec==Z7&&decide (ZL k.name<=9))))))))))))=true:=n1_
theorem ZkP{k:ZE}(hk:k∈Zc)(hl:k.list=true):ZvJ k:=by
 have h:=c7_.1 Zt5 k hk;simp only [hl,Bool.not_true,Bool.false_or,Bool.or_eq_true,Bool.and_eq_true,beq_iff_eq,bne_iff_ne,decide_eq_true_eq] at h;rcases h with ⟨f,r,z⟩|⟨f,r,z⟩|⟨f,r,z⟩|⟨f,r,z⟩|⟨f,r,z⟩|⟨f,r,z⟩|⟨f,r,z,s,g⟩
 ·exact .cs f r z
 ·exact .ps f r z
 ·exact .cal f r z
 ·exact .ints f r z
 ·exact .spans f r z
 ·exact .names f r z
 ·exact .rels f r z s g
theorem Zhy{k:ZE}(hk:k∈Zc)(hl:k.list=true)(name:Str):Zw name (Zb k.name)=ZK (Zb k.name):=by
 have h0:(Zc.all fun k=>!k.list||!([0,1,3,5,6,7,14,16,17,22]:List Nat).contains (Zb k.name))=true:=n1_;have h:=c7_.1 h0 k hk;rw [hl] at h;exact ZqO name _ n32_
def YV(name:Str)(k:ZE)(c:UC):Prop:=
 if k.form=7 then ∃l,c=.cs l/\∀x∈l,∃v,XU v=some x
  else if k.form=4 then ∃l,c=.ns l/\∀n∈l,∃v,YF v=(n,true)
  else if k.form=9 then ∃l,c=.ss l/\∀s∈l,s≠[]/\(Za9 s).isSome=true
  else if k.form=11 then ∃l,c=.ns l/\l.Nodup/\∀n∈l,(∃w,Xd w=(n,true))/\(k.name=Qs->n≠0)
  else if k.form=8 then ∃l,c=.ps l/\(l.map fun p=>p.1).Nodup/\∀p∈l,Zfy p.1=true/\p.2.contains 0=false
  else if ZL k.name=0 then ∃l,c=.ss l/\l.Nodup/\∀s∈l,Zg s=[s]/\ZaQ s=true
  else ∃l,c=.rs l/\l.Nodup/\∀r∈l,(1<=r.1/\r.1<=9)/\r.2≠name/\Zg r.2=[r.2]/\ZaQ r.2=true
theorem Qr{name:Str}{kind:Int}{k:ZE}{c:UC}(hl:k.list=true):Zhp name kind k c↔(c.len=0\/ZaI k.sec kind=true)/\YV name k c:=by
 unfold Zhp;rw [if_neg (by rw [hl];decide)];exact Iff.rfl
theorem Zbl.new(name:Str)(kind:Int):Zbl name kind (Zw name):=by
 intro k hk;cases hl:k.list with
 |false=>unfold Zhp;rw [if_pos hl];exact .inl rfl
 |true=>
  refine (Qr hl).2 ⟨.inl (Zcb _ _),?_⟩;rw [Zhy hk hl];unfold YV;cases ZkP hk hl with
  |cs f r z=>rw [if_pos f];exact ⟨[],z,s_⟩
  |spans f r z=>rw [f,if_neg d_,if_pos rfl];exact ⟨[],z,s_⟩
  |cal f r z=>rw [f,if_neg d_,if_neg d_,if_pos rfl];exact ⟨[],z,s_⟩
  |ints f r z=>rw [f,if_neg d_,if_neg d_,if_neg d_,if_pos rfl];exact ⟨[],z,s_,s_⟩
  |ps f r z=>rw [f,if_neg d_,if_neg d_,if_neg d_,if_neg d_,if_pos rfl];exact ⟨[],z,s_,s_⟩
  |names f r z=>rw [f,if_neg d_,if_neg d_,if_neg d_,if_neg d_,if_neg d_,if_pos r];exact ⟨[],z,s_,s_⟩
  |rels f r z=>rw [f,if_neg d_,if_neg d_,if_neg d_,if_neg d_,if_neg d_,if_neg r];exact ⟨[],z,s_,s_⟩
theorem ZsT{name:Str}{k:ZE}(f:k.form=7)(v:Str)(c:UC):Zl name k v c=.cs (Xf c.cmds v ((XU v).getD (false,[]))):=n119_
theorem Zsl{name:Str}{k:ZE}(f:k.form=8)(v:Str)(c:UC):Zl name k v c=.ps (Xa (if v=[] then [] else c.prs) (Zay v).1):=n119_
theorem Zr6{name:Str}{k:ZE}(f:k.form=9)(v:Str)(c:UC):Zl name k v c=.ss (Xf c.strs v v):=n119_
theorem ZpV{name:Str}{k:ZE}(f:k.form=11)(v:Str)(c:UC):Zl name k v c=.ns (Xw c.nums ((Zg v).map fun w=>(Xd w).1)):=n119_
theorem Ztl{name:Str}{k:ZE}(f:k.form=4)(hl:k.list=true)(v:Str)(c:UC):Zl name k v c=.ns (Xf c.nums v (YF v).1):=by unfold Zl;rw [f];simp [hl]
theorem Ztv{name:Str}{k:ZE}(f:k.form=6)(r:ZL k.name=0)(v:Str)(c:UC):Zl name k v c=.ss (Xw c.strs (Zg v)):=by unfold Zl;rw [f];simp [r]
theorem ZpP{name:Str}{k:ZE}(f:k.form=6)(r:ZL k.name≠0)(v:Str)(c:UC):Zl name k v c=.rs (ZW name (ZL k.name:Nat) (if v=[] then c.rels.filter (fun q=>q.1 !=(ZL k.name:Nat)) else c.rels) (Zg v)):=by unfold Zl;rw [f];simp [r]
theorem Zgw{α:Type}[DecidableEq α]{l m:List α}(hl:l.Nodup):(Xw l m).Nodup:=by
 have h:∀(m l:List α),l.Nodup->(m.foldl (fun l x=>if x∈l then l else l++[x]) l).Nodup:=by
  intro m;induction m with
  |nil=>intro l h;exact h
  |cons a t ih=>
   intro l h;rw [List.foldl_cons];apply ih;split
   ·exact h
   ·rename_i hn
    rw [List.nodup_append];refine ⟨h,s_,fun x hx y hy e=>hn ?_⟩
    have:y=a:=by simpa using hy
    rw [<-this,<-e];exact hx
 unfold Xw;split
 ·exact .nil
 ·exact h m l hl
theorem Zd5(name:Str)(rel:Int):∀(ws:List Str) (l:List (Int×Str)),l.Nodup->(ZW name rel l ws).Nodup
 |[],l,h=>h
 |s::t,l,h=>by
  rw [ZW];apply Zd5 name rel t;split
  ·rename_i hn
   rw [List.nodup_append];refine ⟨h,s_,fun x hx y hy e=>hn.2 ?_⟩
   have:y=(rel,s):=by simpa using hy
   rw [<-this,<-e];exact hx
  ·exact h
theorem Zf3(name:Str)(rel:Int){y:Int×Str}:∀(ws:List Str) (l:List (Int×Str)),y∈ZW name rel l ws->y∈l\/(y.1=rel/\y.2≠name/\y.2∈ws)
 |[],l,h=>.inl h
 |s::t,l,h=>by
  rw [ZW] at h;rcases Zf3 name rel t _ h with h1|⟨h1,h2,h3⟩
  ·split at h1
   ·rename_i hn
    rcases List.mem_append.1 h1 with h2|h2
    ·exact .inl h2
    ·have e:y=(rel,s):=n64_
     exact .inr (by rw [e];exact ⟨rfl,hn.1,s_⟩)
   ·exact .inl h1
  ·exact .inr ⟨h1,h2,by simp [h3]⟩
theorem Zfr:∀(m l:List (Str×Str)),(l.map fun p=>p.1).Nodup->((Xa l m).map fun p=>p.1).Nodup
 |[],l,h=>h
 |p::t,l,h=>by
  rw [Xa];apply Zfr t;rw [List.map_append,List.nodup_append];refine ⟨?_,s_,fun x hx y hy e=>?_⟩
  ·exact List.Nodup.sublist (List.Sublist.map _ List.filter_sublist) h
  ·have hy':y=p.1:=by simpa using hy
   obtain ⟨q,hq,rfl⟩:=List.mem_map.1 hx
   have:=(List.mem_filter.1 hq).2
   rw [hy'] at e;rw [e] at this;simp at this
theorem ZeB{y:Str×Str}:∀(m l:List (Str×Str)),y∈Xa l m->y∈l\/y∈m
 |[],l,h=>.inl h
 |p::t,l,h=>by
  rw [Xa] at h;rcases ZeB t _ h with h1|h1
  ·rcases List.mem_append.1 h1 with h2|h2
   ·exact .inl (List.mem_filter.1 h2).1
   ·have e0:y=p:=n64_
    exact .inr (by simp [e0])
  ·exact .inr (by simp [h1])
theorem ZgR:∀(v cur:Str),∀x∈Jy v cur,x≠[]
 |[],cur,x,hx=>by
  unfold Jy at hx;split at hx
  ·simp at hx
  ·rename_i h;simp at hx;subst hx;intro e;subst e;simp at h
 |d::t,cur,x,hx=>by
  unfold Jy at hx;split at hx
  ·split at hx
   ·exact ZgR t [] x hx
   ·rename_i h
    rcases List.mem_cons.1 hx with rfl|hx
    ·intro e;subst e;simp at h
    ·exact ZgR t [] x hx
  ·exact ZgR t (cur++[d]) x hx
theorem ZeP{v w:Str}(h:w∈Zg v):Zg w=[w]:=ZeA w (Zb1 v [] s_ w h) (ZgR v [] w h)
theorem Zg0:∀{l:List Str} {ps:List (Str×Str)},JG l=some ps->∀p∈ps,Zfy p.1=true/\∃w∈l,p=((Go.Lib.cut w [61]).1,(Go.Lib.cut w [61]).2.1)
 |[],ps,h,p,hp=>by simp [JG] at h;subst h;cases hp
 |w::t,ps,h,p,hp=>by
  unfold JG at h;split at h
  ·rename_i hc
   cases hr:JG t with
   |none=>rw [hr] at h;simp at h
   |some r=>
    rw [hr] at h;simp at h;subst h;rcases List.mem_cons.1 hp with rfl|hp
    ·exact ⟨hc.2,w,s_,rfl⟩
    ·obtain ⟨a,w',b,c⟩:=Zg0 hr p hp
     exact ⟨a,w',by simp [b],c⟩
  ·cases h
theorem Zuk(w:Str):∀c∈(Go.Lib.cut w [61]).2.1,c∈w:=by
 intro c hc;unfold Go.Lib.cut at hc;split at hc
 ·exact List.mem_of_mem_drop hc
 ·cases hc
theorem Zq9{v:Str}(h:(Zay v).2=true):∀p∈(Zay v).1,Zfy p.1=true/\p.2.contains 0=false:=by
 unfold Zay at h⊢;cases hs:split v with
 |error e=>rw [hs] at h;cases h
 |ok l=>
  rw [hs] at h;simp only at h⊢;cases he:JG l with
  |none=>rw [he] at h;cases h
  |some ps=>
   simp only;intro p hp;obtain ⟨h1,w,hw,e⟩:=Zg0 he p hp;refine ⟨h1,?_⟩;rw [ZbV] at hs;have hz:=(Zbz (f:=v.length+1) o_ hs rfl s_).1;have hw0:=List.any_eq_false.1 hz w hw;rw [e];simp only;cases hc:(Go.Lib.cut w [61]).2.1.contains 0 with
   |false=>rfl
   |true=>
    exfalso;apply hw0;rw [List.contains_iff_mem] at hc⊢;exact Zuk w 0 hc
theorem Zsv{k:ZE}(hl:k.list=true){v:Str}(h:ZeK v k=0):v=[]\/(v≠[]/\ZbO k.form k.words v=true):=by
 unfold ZeK ZqZ at h;by_cases hv:v=[]
 ·exact .inl hv
 ·refine .inr ⟨hv,?_⟩
  by_cases hf:k.form<1\/11<k.form
  ·rw [if_pos hf] at h;exact absurd h d_
  ·rw [if_neg hf,if_neg (fun e=>hv e.1)] at h
   cases hr:ZbO k.form k.words v with
   |true=>rfl
   |false=>rw [hr,if_pos (.inr rfl)] at h;exact absurd h d_
theorem Zio{k:ZE}{v:Str}(hf:1<=k.form/\k.form<=11)(hv:v≠[])(h:ZbO k.form k.words v=true):ZeK v k=0:=by
 unfold ZeK ZqZ;rw [if_neg o_,if_neg (fun e=>hv e.1),if_neg (by rw [h];simp [hv])]
theorem ZtD{name:Str}{kind:Int}{k:ZE}(hk:k∈Zc)(hl:k.list=true){v:Str}(h:OkV kind k v){c:UC}(hc:YV name k c):YV name k (Zl name k v c):=by
 have hv:=Zsv hl h.val;cases ZkP hk hl with
 |cs f r z=>
  unfold YV at hc⊢;rw [if_pos f] at hc⊢;obtain ⟨l,rfl,hi⟩:=hc;rw [ZsT f];refine ⟨_,rfl,fun x hx=>?_⟩;unfold Xf at hx;split at hx
  ·cases hx
  ·rename_i hne
   rcases List.mem_append.1 hx with h1|h1
   ·exact hi x h1
   ·rcases hv with e|⟨_,hr⟩
    ·exact absurd e hne
    ·rw [f] at hr
     have hr':(XU v).isSome=true:=hr;have hx':x=(XU v).getD (false,[]):=n77_;obtain ⟨y,hy⟩:=Option.isSome_iff_exists.1 hr';exact ⟨v,by rw [hx',hy];rfl⟩
 |spans f r z=>
  unfold YV at hc⊢;rw [f,if_neg d_,if_pos rfl] at hc⊢;obtain ⟨l,rfl,hi⟩:=hc;rw [Ztl f hl];refine ⟨_,rfl,fun x hx=>?_⟩;unfold Xf at hx;split at hx
  ·cases hx
  ·rename_i hne
   rcases List.mem_append.1 hx with h1|h1
   ·exact hi x h1
   ·rcases hv with e|⟨_,hr⟩
    ·exact absurd e hne
    ·rw [f] at hr
     have hr':(YF v).2=true:=hr;have hx':x=(YF v).1:=n77_;exact ⟨v,by rw [hx',<-hr']⟩
 |cal f r z=>
  unfold YV at hc⊢;rw [f,if_neg d_,if_neg d_,if_pos rfl] at hc⊢;obtain ⟨l,rfl,hi⟩:=hc;rw [Zr6 f];refine ⟨_,rfl,fun x hx=>?_⟩;unfold Xf at hx;split at hx
  ·cases hx
  ·rename_i hne
   rcases List.mem_append.1 hx with h1|h1
   ·exact hi x h1
   ·rcases hv with e|⟨_,hr⟩
    ·exact absurd e hne
    ·rw [f] at hr
     have hr':(Za9 v).isSome=true:=hr;have hx':x=v:=n77_;rw [hx'];exact ⟨hne,hr'⟩
 |ints f r z=>
  unfold YV at hc⊢;rw [f,if_neg d_,if_neg d_,if_neg d_,if_pos rfl] at hc⊢;obtain ⟨l,rfl,hn,hi⟩:=hc;rw [ZpV f];refine ⟨_,rfl,Zgw hn,fun x hx=>?_⟩;have hx':x∈Xw l ((Zg v).map fun w=>(Xd w).1):=hx;rcases Zb3 hx' with h1|h1
  ·exact hi x h1
  ·obtain ⟨w,hw,rfl⟩:=List.mem_map.1 h1
   rcases hv with e|⟨_,hr⟩
   ·subst e;rw [ZcS] at hw;cases hw
   ·rw [f] at hr
    have hr':JA ZlP (Zg v)=true:=hr;unfold JA at hr';rw [Bool.and_eq_true,c7_] at hr';have hb:(Xd w).2=true:=hr'.2 w hw;refine ⟨⟨w,by rw [<-hb]⟩,fun hn2 h0=>?_⟩;have ha:=h.after;unfold Qh at ha;rw [f,if_neg d_,if_pos rfl,hn2] at ha;simp only [bne_self_eq_false,Bool.false_or,Bool.not_eq_true',List.any_eq_false] at ha;exact ha w hw (by rw [h0];rfl)
 |ps f r z=>
  unfold YV at hc⊢;rw [f,if_neg d_,if_neg d_,if_neg d_,if_neg d_,if_pos rfl] at hc⊢;obtain ⟨l,rfl,hn,hi⟩:=hc;rw [Zsl f];refine ⟨_,rfl,Zfr _ _ ?_,fun x hx=>?_⟩
  ·split
   ·exact .nil
   ·exact hn
  ·rcases ZeB _ _ hx with h1|h1
   ·split at h1
    ·cases h1
    ·exact hi x h1
   ·rcases hv with e|⟨_,hr⟩
    ·subst e;rw [Zue] at h1;cases h1
    ·rw [f] at hr
     exact Zq9 hr x h1
 |names f r z=>
  unfold YV at hc⊢;rw [f,if_neg d_,if_neg d_,if_neg d_,if_neg d_,if_neg d_,if_pos r] at hc⊢;obtain ⟨l,rfl,hn,hi⟩:=hc;rw [Ztv f r];refine ⟨_,rfl,Zgw hn,fun x hx=>?_⟩;have hx':x∈Xw l (Zg v):=hx;rcases Zb3 hx' with h1|h1
  ·exact hi x h1
  ·rcases hv with e|⟨_,hr⟩
   ·subst e;rw [ZcS] at h1;cases h1
   ·rw [f] at hr
    have hr':JA ZaQ (Zg v)=true:=hr;unfold JA at hr';rw [Bool.and_eq_true,c7_] at hr';exact ⟨ZeP h1,hr'.2 x h1⟩
 |rels f r z s g=>
  unfold YV at hc⊢;rw [f,if_neg d_,if_neg d_,if_neg d_,if_neg d_,if_neg d_,if_neg r] at hc⊢;obtain ⟨l,rfl,hn,hi⟩:=hc;rw [ZpP f r];have hsub:∀y∈(if v=[] then (UC.rs l).rels.filter (fun q:Int×Str=>q.1 !=((ZL k.name:Nat):Int)) else (UC.rs l).rels),y∈l:=by
   intro y hy;split at hy
   ·exact (List.mem_filter.1 hy).1
   ·exact hy
  refine ⟨_,rfl,Zd5 _ _ _ _ ?_,fun x hx=>?_⟩
  ·split
   ·exact List.Nodup.sublist List.filter_sublist hn
   ·exact hn
  ·rcases Zf3 _ _ _ _ hx with h1|⟨h1,h2,h3⟩
   ·exact hi x (hsub x h1)
   ·rcases hv with e|⟨_,hr⟩
    ·subst e;rw [ZcS] at h3;cases h3
    ·rw [f] at hr
     have hr':JA ZaQ (Zg v)=true:=hr;unfold JA at hr';rw [Bool.and_eq_true,c7_] at hr';exact ⟨⟨by rw [h1];omega,by rw [h1];omega⟩,h2,ZeP h3,hr'.2 _ h3⟩
theorem ZiZ:(Zc.all fun k=>k.list||(ZL k.name==0&&(k.form==1||(k.form==2||(k.form==3||(k.form==4||(k.form==5||k.form==10)))))))=true:=n1_
theorem ZhM{k:ZE}(hk:k∈Zc)(hl:k.list=false)(name:Str)(v:Str)(c d:UC):Zl name k v c=Zl name k v d:=by
 have h:=c7_.1 ZiZ k hk;simp only [hl,Bool.false_or,Bool.or_eq_true,Bool.and_eq_true,beq_iff_eq] at h;unfold Zl;rcases h.2 with f|f|f|f|f|f<;>rw [f]<;>simp [hl]
theorem Zn2:(Zc.all fun k=>Zc.all fun q=>!(Zb k.name==Zb q.name)||(k==q||((!k.list&&!q.list)||(k.list&&(q.list&&(k.form==6&&(q.form==6&&(ZL k.name !=0&&(ZL q.name !=0&&k.sec==q.sec)))))))))=true:=n1_
theorem Zbl.line{name:Str}{kind:Int}{u r:UV}{x:Ln}(hu:Zbl name kind u)(h:Xi name kind u x=.ok r):Zbl name kind r:=by
 obtain ⟨k0,v,hk0,ho,rfl,_⟩:=Zr0 h;intro k hk;by_cases e:Zb k.name=Zb k0.name
 ·have hp:=c7_.1 (c7_.1 Zn2 k hk) k0 hk0
  have own:Zhp name kind k0 (u.upd (Zb k0.name) (Zl name k0 v (u (Zb k0.name))) (Zb k0.name)):=by
   rw [UV.upd_at];have h0:=hu k0 hk0;cases hl:k0.list with
   |false=>unfold Zhp;rw [if_pos hl];exact .inr ⟨k0,v,hk0,hl,rfl,ho,ZhM hk0 hl _ _ _ _⟩
   |true=>exact (Qr hl).2 ⟨.inr ho.some_,ZtD hk0 hl ho ((Qr hl).1 h0).2⟩
  rw [e];simp only [e,beq_self_eq_true,Bool.not_true,Bool.false_or,Bool.or_eq_true,Bool.and_eq_true,beq_iff_eq,bne_iff_ne,Bool.not_eq_true'] at hp;rcases hp with hp|⟨a,b⟩|⟨a,b,f,g,r1,r2,s⟩
  ·rw [hp];exact own
  ·unfold Zhp at own⊢
   rw [if_pos b] at own;rw [if_pos a,e];exact own
  ·rw [Qr b] at own
   refine (Qr a).2 ⟨by rw [s];exact own.1,?_⟩
   have:=own.2
   unfold YV at this⊢;rw [g,if_neg d_,if_neg d_,if_neg d_,if_neg d_,if_neg d_,if_neg r2] at this;rw [f,if_neg d_,if_neg d_,if_neg d_,if_neg d_,if_neg d_,if_neg r1];exact this
 ·rw [UV.upd_ne _ _ e];exact hu k hk
theorem Zbl.lines{name:Str}{kind:Int}{r:UV}:∀{L:List Ln} {u:UV},Zbl name kind u->Z9 name kind u L=.ok r->Zbl name kind r
 |[],u,hu,h=>by injection h with h;rw [<-h];exact hu
 |x::t,u,hu,h=>by
  obtain ⟨q,h1,h2⟩:=Jd h;exact Zbl.lines (hu.line h1) h2
theorem ZcJ{name:Str}{kind:Int}{r:UV}:∀{L:List Ln} {u:UV},Xv u=false->Z9 name kind u L=.ok r->Xv r=false
 |[],u,hu,h=>by injection h with h;rw [<-h];exact hu
 |x::t,u,hu,h=>by
  obtain ⟨q,h1,h2⟩:=Jd h;obtain ⟨_,_,_,_,_,hq⟩:=Zr0 h1;exact ZcJ hq h2
theorem ZpM(u:Nat):Zem (Go.Lib.decDigits u)=u:=by
 induction u using Nat.strongRecOn with
 |_ u ih=>
  rw [Go.Lib.decDigits];by_cases h:u<10
  ·rw [dif_pos h]
   show 0*10+((UInt8.ofNat (48+u)).toNat-48)=u;rw [UInt8.toNat_ofNat'];omega
  ·rw [dif_neg h]
   unfold Zem;rw [Zq6]
   have:=ih (u / 10) o_
   unfold Zem at this;rw [this,UInt8.toNat_ofNat'];omega
theorem Zuh(u:Nat):(Go.Lib.decDigits u).all isDigit=true:=by
 rw [c7_];exact ZcF u
theorem ZgP(u k:Nat)(h:u<10 ^ (k+1)):1<=(Go.Lib.decDigits u).length/\(Go.Lib.decDigits u).length<=k+1:=by
 rw [Go.Lib.decDigits_length];refine ⟨Go.Lib.nDigits_pos u,?_⟩;induction k generalizing u with
 |zero=>rw [Go.Lib.nDigits_small n32_];exact Nat.le_refl _
 |succ k ih=>
  by_cases h10:u<10
  ·rw [Go.Lib.nDigits_small h10];omega
  ·rw [Go.Lib.nDigits_big h10]
   have:=ih (u / 10) (by rw [Nat.pow_succ] at h;omega)
   omega
theorem Zkv{n:Int}(h:0<=n):Go.Lib.itoa n=Go.Lib.decDigits n.toNat:=by unfold Go.Lib.itoa;rw [if_neg o_]
theorem Zg6{n:Int}{w:Str}(h:Xd w=(n,true)):Xd (Go.Lib.itoa n)=(n,true)/\Go.Lib.itoa n≠[]/\∀c∈Go.Lib.itoa n,c≠32:=by
 have hr:0<=n/\n<=65535:=by
  unfold Xd at h;split at h
  ·split at h
   ·rename_i h2;injection h with h _;omega
   ·injection h with _ h;cases h
  ·injection h with _ h;cases h
 have hl:=ZgP n.toNat 4 o_;rw [Zkv hr.1];refine ⟨?_,fun e=>by rw [e] at hl;simp at hl,fun c hc e=>by subst e;exact absurd (ZcF _ _ hc) d_⟩;have hb:JC (Go.Lib.decDigits n.toNat) 5 isDigit=true:=by
  unfold JC;rw [Zuh];rw [decide_eq_true (show (((Go.Lib.decDigits n.toNat).length:Nat):Int)<=5 by omega)];cases hd:Go.Lib.decDigits n.toNat with
  |nil=>rw [hd] at hl;simp at hl
  |cons a b=>rfl
 unfold Xd;rw [if_pos hb,ZpM,if_pos o_];congr 1;omega
theorem ZdV:∀(ws:List Str),(∀w∈ws,w≠[]/\∀c∈w,c≠32)->Zg (Ya [32] ws)=ws
 |[],_=>rfl
 |[w],h=>by
  obtain ⟨h1,h2⟩:=h w s_;exact ZeA w h2 h1
 |w::x::r,h=>by
  obtain ⟨h1,h2⟩:=h w s_;have ih:=ZdV (x::r) (fun y hy=>h y (by simp [hy]));unfold Zg at ih⊢;rw [Ya,List.append_assoc,ZdG w _ [] h2,List.nil_append,List.singleton_append,Jy,if_pos rfl,if_neg n77_,ih]
theorem ZvG(m:Nat)(u:Str)(hu:∀c t,u=c::t->isDigit c=false):(Go.Lib.decDigits m++u).takeWhile isDigit=Go.Lib.decDigits m:=by
 rw [List.takeWhile_append_of_pos (ZcF m)];cases u with
 |nil=>simp
 |cons c t=>rw [List.takeWhile_cons,hu c t rfl];simp
theorem Zso(m:Nat)(hm:m<10 ^ 10)(u:Str)(hu:∀c t,u=c::t->isDigit c=false)(hs:ZfW u≠0):ZeD (Go.Lib.decDigits m++u)=((m:Int)*ZfW u,true):=by
 have hl:=ZgP m 9 hm;unfold ZeD;rw [ZvG m u hu,List.drop_left,List.take_left,if_neg o_,ZpM]
theorem ZcG{n:Int}(h0:0<=n)(h1:n<100000){u:Str}{k:Int}(hu:∀c t,u=c::t->isDigit c=false)(hk:ZfW u=k)(hk0:k≠0)(rest:List Str)(acc:Int)(hacc:acc+n*k<=6311433600) :
  Qn (ZN n u++rest) acc=Qn rest (acc+n*k):=by
 unfold ZN;by_cases hn:0<n
 ·rw [if_pos hn,Zkv h0,List.singleton_append,Qn]
  have e:=Zso n.toNat o_ u hu (by rw [hk];exact hk0);rw [hk] at e;have en:((n.toNat:Nat):Int)=n:=o_;rw [en] at e;rw [e];simp only;rw [if_neg d_,if_neg o_]
 ·have:n=0:=o_
  subst this;rw [if_neg o_];simp
theorem Zbi{n:Int}(h0:0<=n){u:Str}(hu:∀c∈u,c≠32):∀w∈ZN n u,(∃c t,w=c::t/\isDigit c=true)/\∀c∈w,c≠32:=by
 intro w hw;unfold ZN at hw;split at hw
 ·have e:w=Go.Lib.itoa n++u:=by simpa using hw
  rw [Zkv h0] at e;have hl:=ZgP n.toNat n.toNat (c16_ (Nat.lt_pow_self d_) (Nat.pow_le_pow_right d_ (Nat.le_succ _)));have hd:=ZcF n.toNat;cases hdd:Go.Lib.decDigits n.toNat with
  |nil=>rw [hdd] at hl;simp at hl
  |cons c t=>
   rw [hdd] at e hd;refine ⟨⟨c,t++u,by rw [e];rfl,hd c s_⟩,fun x hx=>?_⟩;rw [e] at hx;rcases List.mem_append.1 hx with h|h
   ·intro e2;subst e2;exact absurd (hd _ h) d_
   ·exact hu x h
 ·cases hw
theorem ZfA{n:Int}{v:Str}(h:YF v=(n,true)):YF (Yj n)=(n,true)/\Yj n≠[]:=by
 have hr:n=1099511627776\/(0<=n/\n<=6311433600):=by
  have hb:∀(l:List Str) (a:Int) (r:Int),0<=a->a<=6311433600->Qn l a=some r->0<=r/\r<=6311433600:=by
   intro l;induction l with
   |nil=>intro a r h0 h1 h;injection h with h;omega
   |cons x t ih=>
    intro a r h0 h1 h;rw [Qn] at h;split at h
    ·cases h
    ·split at h
     ·cases h
     ·have:=Zbu x
      exact ih _ r o_ o_ h
  unfold YF at h;split at h
  ·injection h with h _;exact .inl h.symm
  ·split at h
   ·injection h with _ h;cases h
   ·rename_i r hr
    injection h with h _
    subst h;exact .inr (hb _ 0 _ d_ d_ hr)
 rcases hr with rfl|⟨h0,h1⟩
 ·exact ⟨n1_,n1_⟩
 ·have hne:n≠1099511627776:=o_
  by_cases hz:n=0
  ·subst hz;exact ⟨n1_,n1_⟩
  ·have e:Yj n=Ya [32] (ZN (n / 86400) [100]++ZN (n % 86400 / 3600) [104]++ZN (n % 3600 / 60) [109,105,110]++ZN (n % 60) [115]):=by
    unfold Yj;rw [if_neg hne,if_neg o_,if_neg hz]
   obtain ⟨ws,hws⟩:=e_ (ZN (n / 86400) [100]++ZN (n % 86400 / 3600) [104]++ZN (n % 3600 / 60) [109,105,110]++ZN (n % 60) [115]);have hsol:∀w∈ws,(∃c t,w=c::t/\isDigit c=true)/\∀c∈w,c≠32:=by
    intro w hw;rw [hws] at hw;simp only [List.mem_append] at hw;rcases hw with ((hw|hw)|hw)|hw
    ·exact Zbi o_ d_ w hw
    ·exact Zbi o_ d_ w hw
    ·exact Zbi o_ d_ w hw
    ·exact Zbi o_ d_ w hw
   have hsum:Qn ws 0=some n:=by
    rw [hws,List.append_assoc,List.append_assoc];have hd:∀u:Str,(∀c t,u=c::t->isDigit c=false)↔(match u with|[]=>True|c::_=>isDigit c=false):=by
     intro u;cases u with
     |nil=>simp
     |cons c t=>exact ⟨fun h=>h c t rfl,fun h c' t' e=>by injection e with e _;rw [<-e];exact h⟩
    rw [ZcG (k:=86400) o_ o_ ((hd _).2 d_) d_ d_ _ _ o_,
     ZcG (k:=3600) o_ o_ ((hd _).2 d_) d_ d_ _ _ o_,
     ZcG (k:=60) o_ o_ ((hd _).2 d_) d_ d_ _ _ o_]
    have:=ZcG (n:=n % 60) (k:=1) (u:=[115]) o_ o_ ((hd _).2 d_) d_ d_ [] (0+n / 86400*86400+n % 86400 / 3600*3600+n % 3600 / 60*60) o_
    rw [List.append_nil] at this;rw [this,Qn];congr 1;omega
   have hne2:ws≠[]:=by
    intro e0;rw [e0,Qn] at hsum;injection hsum with hsum
    exact hz hsum.symm
   have hbl:Zg (Ya [32] ws)=ws:=ZdV ws fun w hw=>by
    obtain ⟨⟨c,t,e,_⟩,h⟩:=hsol w hw;exact ⟨by rw [e];simp,h⟩
   rw [e,<-hws];have hnn:Ya [32] ws≠[]:=by
    intro e0;rw [e0] at hbl;exact hne2 (by rw [<-hbl];rfl)
   refine ⟨?_,hnn⟩;unfold YF;rw [if_neg,hbl,hsum]
   ·simp only
    congr 1;exact decide_eq_true (List.length_pos_iff.2 hne2)
   ·intro e0
    have e1:Zg (Ya [32] ws)=[[105,110,102,105,110,105,116,121]]:=by rw [e0];decide
    rw [hbl] at e1;obtain ⟨⟨c,t,e2,e3⟩,_⟩:=hsol [105,110,102,105,110,105,116,121] (by rw [e1];simp);injection e2 with e2 _
    rw [<-e2] at e3;exact absurd e3 d_
theorem Zjn{c:Zar}{v:Str}(h:XU v=some c):XU (Qc c)=some c/\Qc c≠[]:=by
 obtain ⟨d,ws⟩:=c;unfold XU at h;cases hs:split (Go.Lib.trimPrefix v [45]) with
 |error e=>rw [hs] at h;cases h
 |ok l=>
  rw [hs] at h;cases l with
  |nil=>cases h
  |cons x t=>
   simp only at h;split at h
   ·cases h
   ·rename_i hx
    injection h with h
    injection h with _ h2
    subst h2;obtain ⟨hb,h32⟩:=Zhq hs;rw [ZbV] at hs;have hz:=(Zbz (f:=(Go.Lib.trimPrefix v [45]).length+1) o_ hs rfl s_).1;obtain ⟨c0,r0,hj,hc0⟩:∃c0 r0,join (x::t)=c0::r0/\c0≠45:=by
     have hw:∃c0 r0,YC x=c0::r0/\c0≠45:=by
      unfold YC;split
      ·rename_i hp
       unfold XP at hp;cases x with
       |nil=>exact absurd rfl hx
       |cons a b=>
        refine ⟨a,b,rfl,fun e=>?_⟩;subst e;simp at hp
      ·exact ⟨34,_,rfl,d_⟩
     obtain ⟨c0,r0,e,hc⟩:=hw;unfold join;rw [if_neg o_,if_neg (by rw [hz];decide),List.map_cons];cases ht:t.map YC with
     |nil=>exact ⟨c0,r0,by rw [Ya,e],hc⟩
     |cons y z=>exact ⟨c0,r0++([32]++Ya [32] (y::z)),by rw [Ya,e];simp,hc⟩
    unfold Qc;cases d with
    |true=>
     simp only [if_true];refine ⟨?_,s_⟩;unfold XU;have e1:Go.Lib.trimPrefix ([45]++join (x::t)) [45]=join (x::t):=by simp [Go.Lib.trimPrefix,Go.Lib.hasPrefix]
     have e2:Go.Lib.hasPrefix ([45]++join (x::t)) [45]=true:=by simp [Go.Lib.hasPrefix]
     rw [e1,e2,hb];simp only;rw [if_neg hx]
    |false=>
     simp only [Bool.false_eq_true,if_false,List.nil_append];refine ⟨?_,by rw [hj];simp⟩;unfold XU;have e2:Go.Lib.hasPrefix (join (x::t)) [45]=false:=by rw [hj];simp [Go.Lib.hasPrefix,List.isPrefixOf,Ne.symm hc0]
     have e1:Go.Lib.trimPrefix (join (x::t)) [45]=join (x::t):=by unfold Go.Lib.trimPrefix;rw [e2];rfl
     rw [e1,e2,hb];simp only;rw [if_neg hx]
end Go.Proofs.YtmgmbeipbeknaaaGreatDoor
