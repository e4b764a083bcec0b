import Derived.Test.YtmgmbeipbeknaaaGreatDoorRF25
import Derived.Test.YtmgmbeipbeknaaaGreatDoorRF26
import Derived.Test.YtmgmbeipbeknaaaGreatDoorRF44
namespace Go.Proofs.YtmgmbeipbeknaaaGreatDoor
open Go Go.RowKit
set_option linter.unusedVariables false
set_option linter.unusedSimpArgs false
set_option maxHeartbeats 16000000
set_option maxRecDepth 100000
theorem Za9:Zg []=[]:=d_
theorem Zqu:(Jd []).1=[]:=n4_
structure OkV(kind:Int)(k:ZC)(v:Str):Prop where
 some_:Zei k.sec kind=true
 val:Zgj v k=0
 after:Qm k v=true
theorem Zku{kind:Int}{x:Ln}{k:ZC}(hk:findKey x.sec x.key=some k):lnS kind x=0↔Zei x.sec kind=true/\Zgj x.val k=0:=by
 unfold lnS ZiV;rw [hk];cases Zei x.sec kind with
 |false=>simp
 |true=>
  simp only [Bool.true_eq_false,if_false,true_and];split
  ·rename_i h;exact ⟨fun _=>h,fun _=>rfl⟩
  ·rename_i h;exact ⟨fun e=>absurd e d_,fun e=>absurd e h⟩
theorem Zo2{name:Str}{kind:Int}{u r:UV}{x:Ln}(h:YL name kind u x=.ok r):∃k v,k∈Ze/\OkV kind k v/\r=u.upd (Zc k.name) (Zi name k v (u (Zc k.name)))/\Qi r=false:=by
 obtain ⟨k,v,_,hk,hm,e1,e2,e,ha,hl,hlong⟩:=Zbt h
 have:=(Zku (x:={ x with val:=v }) hk).1 hl
 exact ⟨k,v,hm,⟨by rw [e1];exact this.1,this.2,ha⟩,e,hlong⟩
theorem ZpK(name:Str):Qi (ZL name)=false:=by
 unfold Qi;rw [Bool.or_eq_false_iff,List.any_eq_false];refine ⟨by rw [Zad];decide,fun i _=>by rw [Zad];decide⟩
def ZkU(name:Str)(kind:Int)(k:ZC)(c:UC):Prop:=
 if k.list=false then c=ZL name (Zc k.name)\/∃k' v,k'∈Ze/\k'.list=false/\Zc k'.name=Zc k.name/\OkV kind k' v/\c=Zi name k' v (.s [])
 else (c.len=0\/Zei k.sec kind=true)/\
  (if k.form=7 then ∃l,c=.cs l/\∀x∈l,∃v,XZ v=some x
  else if k.form=4 then ∃l,c=.ns l/\∀n∈l,∃v,YO v=(n,true)
  else if k.form=9 then ∃l,c=.ss l/\∀s∈l,s≠[]/\(Jo s).isSome=true
  else if k.form=11 then ∃l,c=.ns l/\l.Nodup/\∀n∈l,(∃w,Xu w=(n,true))/\(k.name=XV->n≠0)
  else if k.form=8 then ∃l,c=.ps l/\(l.map fun p=>p.1).Nodup/\∀p∈l,ZgA p.1=true/\p.2.contains 0=false
  else if ZI k.name=0 then ∃l,c=.ss l/\l.Nodup/\∀s∈l,Zg s=[s]/\Zap s=true
  else ∃l,c=.rs l/\l.Nodup/\∀r∈l,(1<=r.1/\r.1<=9)/\r.2≠name/\Zg r.2=[r.2]/\Zap r.2=true)
def Zdg(name:Str)(kind:Int)(u:UV):Prop:=∀k∈Ze,ZkU name kind k (u (Zc k.name))
theorem ZmQ(name:Str)(j:Nat)(h:j∉([0,1,3,5,6,7,14,16,17,22]:List Nat)):ZL name j=Zy j:=by
 have hj:j≠0/\j≠1/\j≠3/\j≠5/\j≠6/\j≠7/\j≠14/\j≠16/\j≠17/\j≠22:=n27_;obtain ⟨h0,h1,h3,h5,h6,h7,h14,h16,h17,h22⟩:=hj;unfold ZL;split
 ·rfl
 ·simp only
  split
  ·rw [UV.upd_ne _ _ h17,UV.upd_ne _ _ h16,UV.upd_ne _ _ h14,UV.upd_ne _ _ h7,UV.upd_ne _ _ h6,UV.upd_ne _ _ h5,UV.upd_ne _ _ h3,UV.upd_ne _ _ h1,UV.upd_ne _ _ h0]
  ·split
   ·rw [UV.upd_ne _ _ h22,UV.upd_ne _ _ h6,UV.upd_ne _ _ h5,UV.upd_ne _ _ h3,UV.upd_ne _ _ h1,UV.upd_ne _ _ h0]
   ·rw [UV.upd_ne _ _ h6,UV.upd_ne _ _ h5,UV.upd_ne _ _ h3,UV.upd_ne _ _ h1,UV.upd_ne _ _ h0]
inductive ZrL(k:ZC):Prop where
 |cs (f:k.form=7) (r:ZI k.name=0) (z:Zy (Zc k.name)=.cs [])
 |ps (f:k.form=8) (r:ZI k.name=0) (z:Zy (Zc k.name)=.ps [])
 |cal (f:k.form=9) (r:ZI k.name=0) (z:Zy (Zc k.name)=.ss [])
 |ints (f:k.form=11) (r:ZI k.name=0) (z:Zy (Zc k.name)=.ns [])
 |spans (f:k.form=4) (r:ZI k.name=0) (z:Zy (Zc k.name)=.ns [])
 |names (f:k.form=6) (r:ZI k.name=0) (z:Zy (Zc k.name)=.ss [])
 |rels (f:k.form=6) (r:ZI k.name≠0) (z:Zy (Zc k.name)=.rs []) (s:k.sec=Xt) (rg:ZI k.name<=9)
theorem ZqK:(Ze.all fun k=>!k.list||((k.form==7&&(ZI k.name==0&&Zy (Zc k.name)==.cs []))||((k.form==8&&(ZI k.name==0&&Zy (Zc k.name)==.ps []))||((k.form==9&&(ZI k.name==0&&Zy (Zc k.name)==.ss [])) ||
  ((k.form==11&&(ZI k.name==0&&Zy (Zc k.name)==.ns []))||((k.form==4&&(ZI k.name==0&&Zy (Zc k.name)==.ns []))||((k.form==6&&(ZI k.name==0&&Zy (Zc k.name)==.ss []))||(k.form==6&&(ZI k.name !=0&&(Zy (Zc k.name)==.rs []&&(k.sec==Xt&&decide (ZI k.name<=9))))))))))))=true:=n4_
theorem ZpT{k:ZC}(hk:k∈Ze)(hl:k.list=true):ZrL k:=by
 have h:=List.all_eq_true.1 ZqK k hk;simp only [hl,Bool.not_true,Bool.false_or,Bool.or_eq_true,Bool.and_eq_true,beq_iff_eq,bne_iff_ne,decide_eq_true_eq] at h;rcases h with ⟨f,r,z⟩|⟨f,r,z⟩|⟨f,r,z⟩|⟨f,r,z⟩|⟨f,r,z⟩|⟨f,r,z⟩|⟨f,r,z,s,g⟩
 ·exact .cs f r z
 ·exact .ps f r z
 ·exact .cal f r z
 ·exact .ints f r z
 ·exact .spans f r z
 ·exact .names f r z
 ·exact .rels f r z s g
theorem ZoJ{k:ZC}(hk:k∈Ze)(hl:k.list=true)(name:Str):ZL name (Zc k.name)=Zy (Zc k.name):=by
 have h0:(Ze.all fun k=>!k.list||!([0,1,3,5,6,7,14,16,17,22]:List Nat).contains (Zc k.name))=true:=n4_;have h:=List.all_eq_true.1 h0 k hk;rw [hl] at h;exact ZmQ name _ n27_
def Q9(name:Str)(k:ZC)(c:UC):Prop:=
 if k.form=7 then ∃l,c=.cs l/\∀x∈l,∃v,XZ v=some x
  else if k.form=4 then ∃l,c=.ns l/\∀n∈l,∃v,YO v=(n,true)
  else if k.form=9 then ∃l,c=.ss l/\∀s∈l,s≠[]/\(Jo s).isSome=true
  else if k.form=11 then ∃l,c=.ns l/\l.Nodup/\∀n∈l,(∃w,Xu w=(n,true))/\(k.name=XV->n≠0)
  else if k.form=8 then ∃l,c=.ps l/\(l.map fun p=>p.1).Nodup/\∀p∈l,ZgA p.1=true/\p.2.contains 0=false
  else if ZI k.name=0 then ∃l,c=.ss l/\l.Nodup/\∀s∈l,Zg s=[s]/\Zap s=true
  else ∃l,c=.rs l/\l.Nodup/\∀r∈l,(1<=r.1/\r.1<=9)/\r.2≠name/\Zg r.2=[r.2]/\Zap r.2=true
theorem Zau{name:Str}{kind:Int}{k:ZC}{c:UC}(hl:k.list=true):ZkU name kind k c↔(c.len=0\/Zei k.sec kind=true)/\Q9 name k c:=by
 unfold ZkU;rw [if_neg (by rw [hl];decide)];exact Iff.rfl
theorem Zdg.new(name:Str)(kind:Int):Zdg name kind (ZL name):=by
 intro k hk;cases hl:k.list with
 |false=>unfold ZkU;rw [if_pos hl];exact .inl rfl
 |true=>
  refine (Zau hl).2 ⟨.inl (Zad _ _),?_⟩;rw [ZoJ hk hl];unfold Q9;cases ZpT hk hl with
  |cs f r z=>rw [if_pos f];exact ⟨[],z,s_⟩
  |spans f r z=>rw [f,if_neg d_,if_pos rfl];exact ⟨[],z,s_⟩
  |cal f r z=>rw [f,if_neg d_,if_neg d_,if_pos rfl];exact ⟨[],z,s_⟩
  |ints f r z=>rw [f,if_neg d_,if_neg d_,if_neg d_,if_pos rfl];exact ⟨[],z,s_,s_⟩
  |ps f r z=>rw [f,if_neg d_,if_neg d_,if_neg d_,if_neg d_,if_pos rfl];exact ⟨[],z,s_,s_⟩
  |names f r z=>rw [f,if_neg d_,if_neg d_,if_neg d_,if_neg d_,if_neg d_,if_pos r];exact ⟨[],z,s_,s_⟩
  |rels f r z=>rw [f,if_neg d_,if_neg d_,if_neg d_,if_neg d_,if_neg d_,if_neg r];exact ⟨[],z,s_,s_⟩
theorem Zrq{name:Str}{k:ZC}(f:k.form=7)(v:Str)(c:UC):Zi name k v c=.cs (YF c.cmds v ((XZ v).getD (false,[]))):=n93_
theorem Zrh{name:Str}{k:ZC}(f:k.form=8)(v:Str)(c:UC):Zi name k v c=.ps (Yv (if v=[] then [] else c.prs) (Jd v).1):=n93_
theorem Zri{name:Str}{k:ZC}(f:k.form=9)(v:Str)(c:UC):Zi name k v c=.ss (YF c.strs v v):=n93_
theorem Zqg{name:Str}{k:ZC}(f:k.form=11)(v:Str)(c:UC):Zi name k v c=.ns (YK c.nums ((Zg v).map fun w=>(Xu w).1)):=n93_
theorem Zrv{name:Str}{k:ZC}(f:k.form=4)(hl:k.list=true)(v:Str)(c:UC):Zi name k v c=.ns (YF c.nums v (YO v).1):=by unfold Zi;rw [f];simp [hl]
theorem Zrs{name:Str}{k:ZC}(f:k.form=6)(r:ZI k.name=0)(v:Str)(c:UC):Zi name k v c=.ss (YK c.strs (Zg v)):=by unfold Zi;rw [f];simp [r]
theorem Zqt{name:Str}{k:ZC}(f:k.form=6)(r:ZI k.name≠0)(v:Str)(c:UC):Zi name k v c=.rs (ZK name (ZI k.name:Nat) (if v=[] then c.rels.filter (fun q=>q.1 !=(ZI k.name:Nat)) else c.rels) (Zg v)):=by unfold Zi;rw [f];simp [r]
theorem Zed{α:Type}[DecidableEq α]{l m:List α}(hl:l.Nodup):(YK l m).Nodup:=by
 have h:∀(m l:List α),l.Nodup->(m.foldl (fun l x=>if x∈l then l else l++[x]) l).Nodup:=by
  intro m;induction m with
  |nil=>intro l h;exact h
  |cons a t ih=>
   intro l h;rw [List.foldl_cons];apply ih;split
   ·exact h
   ·rename_i hn
    rw [List.nodup_append];refine ⟨h,s_,fun x hx y hy e=>hn ?_⟩
    have:y=a:=by simpa using hy
    rw [<-this,<-e];exact hx
 unfold YK;split
 ·exact .nil
 ·exact h m l hl
theorem Zb4(name:Str)(rel:Int):∀(ws:List Str) (l:List (Int×Str)),l.Nodup->(ZK name rel l ws).Nodup
 |[],l,h=>h
 |s::t,l,h=>by
  rw [ZK];apply Zb4 name rel t;split
  ·rename_i hn
   rw [List.nodup_append];refine ⟨h,s_,fun x hx y hy e=>hn.2 ?_⟩
   have:y=(rel,s):=by simpa using hy
   rw [<-this,<-e];exact hx
  ·exact h
theorem Zec(name:Str)(rel:Int){y:Int×Str}:∀(ws:List Str) (l:List (Int×Str)),y∈ZK name rel l ws->y∈l\/(y.1=rel/\y.2≠name/\y.2∈ws)
 |[],l,h=>.inl h
 |s::t,l,h=>by
  rw [ZK] at h;rcases Zec name rel t _ h with h1|⟨h1,h2,h3⟩
  ·split at h1
   ·rename_i hn
    rcases List.mem_append.1 h1 with h2|h2
    ·exact .inl h2
    ·have e:y=(rel,s):=n41_
     exact .inr (by rw [e];exact ⟨rfl,hn.1,s_⟩)
   ·exact .inl h1
  ·exact .inr ⟨h1,h2,by simp [h3]⟩
theorem ZcO:∀(m l:List (Str×Str)),(l.map fun p=>p.1).Nodup->((Yv l m).map fun p=>p.1).Nodup
 |[],l,h=>h
 |p::t,l,h=>by
  rw [Yv];apply ZcO t;rw [List.map_append,List.nodup_append];refine ⟨?_,s_,fun x hx y hy e=>?_⟩
  ·exact List.Nodup.sublist (List.Sublist.map _ List.filter_sublist) h
  ·have hy':y=p.1:=by simpa using hy
   obtain ⟨q,hq,rfl⟩:=List.mem_map.1 hx
   have:=(List.mem_filter.1 hq).2
   rw [hy'] at e;rw [e] at this;simp at this
theorem Zcs{y:Str×Str}:∀(m l:List (Str×Str)),y∈Yv l m->y∈l\/y∈m
 |[],l,h=>.inl h
 |p::t,l,h=>by
  rw [Yv] at h;rcases Zcs t _ h with h1|h1
  ·rcases List.mem_append.1 h1 with h2|h2
   ·exact .inl (List.mem_filter.1 h2).1
   ·have e0:y=p:=n41_
    exact .inr (by simp [e0])
  ·exact .inr (by simp [h1])
theorem ZeK:∀(v cur:Str),∀x∈Q8 v cur,x≠[]
 |[],cur,x,hx=>by
  unfold Q8 at hx;split at hx
  ·simp at hx
  ·rename_i h;simp at hx;subst hx;intro e;subst e;simp at h
 |d::t,cur,x,hx=>by
  unfold Q8 at hx;split at hx
  ·split at hx
   ·exact ZeK t [] x hx
   ·rename_i h
    rcases List.mem_cons.1 hx with rfl|hx
    ·intro e;subst e;simp at h
    ·exact ZeK t [] x hx
  ·exact ZeK t (cur++[d]) x hx
theorem Zc9{v w:Str}(h:w∈Zg v):Zg w=[w]:=ZeV w (Zan v [] s_ w h) (ZeK v [] w h)
theorem Zfp:∀{l:List Str} {ps:List (Str×Str)},X9 l=some ps->∀p∈ps,ZgA p.1=true/\∃w∈l,p=((Go.Lib.cut w [61]).1,(Go.Lib.cut w [61]).2.1)
 |[],ps,h,p,hp=>by simp [X9] at h;subst h;cases hp
 |w::t,ps,h,p,hp=>by
  unfold X9 at h;split at h
  ·rename_i hc
   cases hr:X9 t with
   |none=>rw [hr] at h;simp at h
   |some r=>
    rw [hr] at h;simp at h;subst h;rcases List.mem_cons.1 hp with rfl|hp
    ·exact ⟨hc.2,w,s_,rfl⟩
    ·obtain ⟨a,w',b,c⟩:=Zfp hr p hp
     exact ⟨a,w',by simp [b],c⟩
  ·cases h
theorem ZqS(w:Str):∀c∈(Go.Lib.cut w [61]).2.1,c∈w:=by
 intro c hc;unfold Go.Lib.cut at hc;split at hc
 ·exact List.mem_of_mem_drop hc
 ·cases hc
theorem Zm3{v:Str}(h:(Jd v).2=true):∀p∈(Jd v).1,ZgA p.1=true/\p.2.contains 0=false:=by
 unfold Jd at h⊢;cases hs:split v with
 |error e=>rw [hs] at h;cases h
 |ok l=>
  rw [hs] at h;simp only at h⊢;cases he:X9 l with
  |none=>rw [he] at h;cases h
  |some ps=>
   simp only;intro p hp;obtain ⟨h1,w,hw,e⟩:=Zfp he p hp;refine ⟨h1,?_⟩;rw [Zbv] at hs;have hz:=(Zbr (f:=v.length+1) o_ hs rfl s_).1;have hw0:=List.any_eq_false.1 hz w hw;rw [e];simp only;cases hc:(Go.Lib.cut w [61]).2.1.contains 0 with
   |false=>rfl
   |true=>
    exfalso;apply hw0;rw [List.contains_iff_mem] at hc⊢;exact ZqS w 0 hc
theorem Zpe{k:ZC}(hl:k.list=true){v:Str}(h:Zgj v k=0):v=[]\/(v≠[]/\ZdG k.form k.words v=true):=by
 unfold Zgj Zqb at h;by_cases hv:v=[]
 ·exact .inl hv
 ·refine .inr ⟨hv,?_⟩
  by_cases hf:k.form<1\/11<k.form
  ·rw [if_pos hf] at h;exact absurd h d_
  ·rw [if_neg hf,if_neg (fun e=>hv e.1)] at h
   cases hr:ZdG k.form k.words v with
   |true=>rfl
   |false=>rw [hr,if_pos (.inr rfl)] at h;exact absurd h d_
theorem ZpN{name:Str}{kind:Int}{k:ZC}(hk:k∈Ze)(hl:k.list=true){v:Str}(h:OkV kind k v){c:UC}(hc:Q9 name k c):Q9 name k (Zi name k v c):=by
 have hv:=Zpe hl h.val;cases ZpT hk hl with
 |cs f r z=>
  unfold Q9 at hc⊢;rw [if_pos f] at hc⊢;obtain ⟨l,rfl,hi⟩:=hc;rw [Zrq f];refine ⟨_,rfl,fun x hx=>?_⟩;unfold YF at hx;split at hx
  ·cases hx
  ·rename_i hne
   rcases List.mem_append.1 hx with h1|h1
   ·exact hi x h1
   ·rcases hv with e|⟨_,hr⟩
    ·exact absurd e hne
    ·rw [f] at hr
     have hr':(XZ v).isSome=true:=hr;have hx':x=(XZ v).getD (false,[]):=n59_;obtain ⟨y,hy⟩:=Option.isSome_iff_exists.1 hr';exact ⟨v,by rw [hx',hy];rfl⟩
 |spans f r z=>
  unfold Q9 at hc⊢;rw [f,if_neg d_,if_pos rfl] at hc⊢;obtain ⟨l,rfl,hi⟩:=hc;rw [Zrv f hl];refine ⟨_,rfl,fun x hx=>?_⟩;unfold YF at hx;split at hx
  ·cases hx
  ·rename_i hne
   rcases List.mem_append.1 hx with h1|h1
   ·exact hi x h1
   ·rcases hv with e|⟨_,hr⟩
    ·exact absurd e hne
    ·rw [f] at hr
     have hr':(YO v).2=true:=hr;have hx':x=(YO v).1:=n59_;exact ⟨v,by rw [hx',<-hr']⟩
 |cal f r z=>
  unfold Q9 at hc⊢;rw [f,if_neg d_,if_neg d_,if_pos rfl] at hc⊢;obtain ⟨l,rfl,hi⟩:=hc;rw [Zri f];refine ⟨_,rfl,fun x hx=>?_⟩;unfold YF at hx;split at hx
  ·cases hx
  ·rename_i hne
   rcases List.mem_append.1 hx with h1|h1
   ·exact hi x h1
   ·rcases hv with e|⟨_,hr⟩
    ·exact absurd e hne
    ·rw [f] at hr
     have hr':(Jo v).isSome=true:=hr;have hx':x=v:=n59_;rw [hx'];exact ⟨hne,hr'⟩
 |ints f r z=>
  unfold Q9 at hc⊢;rw [f,if_neg d_,if_neg d_,if_neg d_,if_pos rfl] at hc⊢;obtain ⟨l,rfl,hn,hi⟩:=hc;rw [Zqg f];refine ⟨_,rfl,Zed hn,fun x hx=>?_⟩;have hx':x∈YK l ((Zg v).map fun w=>(Xu w).1):=hx;rcases Zas hx' with h1|h1
  ·exact hi x h1
  ·obtain ⟨w,hw,rfl⟩:=List.mem_map.1 h1
   rcases hv with e|⟨_,hr⟩
   ·subst e;rw [Za9] at hw;cases hw
   ·rw [f] at hr
    have hr':Za0 Znz (Zg v)=true:=hr;unfold Za0 at hr';rw [Bool.and_eq_true,List.all_eq_true] at hr';have hb:(Xu w).2=true:=hr'.2 w hw;refine ⟨⟨w,by rw [<-hb]⟩,fun hn2 h0=>?_⟩;have ha:=h.after;unfold Qm at ha;rw [f,if_neg d_,if_pos rfl,hn2] at ha;simp only [bne_self_eq_false,Bool.false_or,Bool.not_eq_true',List.any_eq_false] at ha;exact ha w hw (by rw [h0];rfl)
 |ps f r z=>
  unfold Q9 at hc⊢;rw [f,if_neg d_,if_neg d_,if_neg d_,if_neg d_,if_pos rfl] at hc⊢;obtain ⟨l,rfl,hn,hi⟩:=hc;rw [Zrh f];refine ⟨_,rfl,ZcO _ _ ?_,fun x hx=>?_⟩
  ·split
   ·exact .nil
   ·exact hn
  ·rcases Zcs _ _ hx with h1|h1
   ·split at h1
    ·cases h1
    ·exact hi x h1
   ·rcases hv with e|⟨_,hr⟩
    ·subst e;rw [Zqu] at h1;cases h1
    ·rw [f] at hr
     exact Zm3 hr x h1
 |names f r z=>
  unfold Q9 at hc⊢;rw [f,if_neg d_,if_neg d_,if_neg d_,if_neg d_,if_neg d_,if_pos r] at hc⊢;obtain ⟨l,rfl,hn,hi⟩:=hc;rw [Zrs f r];refine ⟨_,rfl,Zed hn,fun x hx=>?_⟩;have hx':x∈YK l (Zg v):=hx;rcases Zas hx' with h1|h1
  ·exact hi x h1
  ·rcases hv with e|⟨_,hr⟩
   ·subst e;rw [Za9] at h1;cases h1
   ·rw [f] at hr
    have hr':Za0 Zap (Zg v)=true:=hr;unfold Za0 at hr';rw [Bool.and_eq_true,List.all_eq_true] at hr';exact ⟨Zc9 h1,hr'.2 x h1⟩
 |rels f r z s g=>
  unfold Q9 at hc⊢;rw [f,if_neg d_,if_neg d_,if_neg d_,if_neg d_,if_neg d_,if_neg r] at hc⊢;obtain ⟨l,rfl,hn,hi⟩:=hc;rw [Zqt f r];have hsub:∀y∈(if v=[] then (UC.rs l).rels.filter (fun q:Int×Str=>q.1 !=((ZI k.name:Nat):Int)) else (UC.rs l).rels),y∈l:=by
   intro y hy;split at hy
   ·exact (List.mem_filter.1 hy).1
   ·exact hy
  refine ⟨_,rfl,Zb4 _ _ _ _ ?_,fun x hx=>?_⟩
  ·split
   ·exact List.Nodup.sublist List.filter_sublist hn
   ·exact hn
  ·rcases Zec _ _ _ _ hx with h1|⟨h1,h2,h3⟩
   ·exact hi x (hsub x h1)
   ·rcases hv with e|⟨_,hr⟩
    ·subst e;rw [Za9] at h3;cases h3
    ·rw [f] at hr
     have hr':Za0 Zap (Zg v)=true:=hr;unfold Za0 at hr';rw [Bool.and_eq_true,List.all_eq_true] at hr';exact ⟨⟨by rw [h1];omega,by rw [h1];omega⟩,h2,Zc9 h3,hr'.2 _ h3⟩
theorem Zgs:(Ze.all fun k=>k.list||(ZI k.name==0&&(k.form==1||(k.form==2||(k.form==3||(k.form==4||(k.form==5||k.form==10)))))))=true:=n4_
theorem Zl7{k:ZC}(hk:k∈Ze)(hl:k.list=false)(name:Str)(v:Str)(c d:UC):Zi name k v c=Zi name k v d:=by
 have h:=List.all_eq_true.1 Zgs k hk;simp only [hl,Bool.false_or,Bool.or_eq_true,Bool.and_eq_true,beq_iff_eq] at h;unfold Zi;rcases h.2 with f|f|f|f|f|f<;>rw [f]<;>simp [hl]
theorem ZlK:(Ze.all fun k=>Ze.all fun q=>!(Zc k.name==Zc q.name)||(k==q||((!k.list&&!q.list)||(k.list&&(q.list&&(k.form==6&&(q.form==6&&(ZI k.name !=0&&(ZI q.name !=0&&k.sec==q.sec)))))))))=true:=n4_
theorem Zdg.line{name:Str}{kind:Int}{u r:UV}{x:Ln}(hu:Zdg name kind u)(h:YL name kind u x=.ok r):Zdg name kind r:=by
 obtain ⟨k0,v,hk0,ho,rfl,_⟩:=Zo2 h;intro k hk;by_cases e:Zc k.name=Zc k0.name
 ·have hp:=List.all_eq_true.1 (List.all_eq_true.1 ZlK k hk) k0 hk0
  have own:ZkU name kind k0 (u.upd (Zc k0.name) (Zi name k0 v (u (Zc k0.name))) (Zc k0.name)):=by
   rw [UV.upd_at];have h0:=hu k0 hk0;cases hl:k0.list with
   |false=>unfold ZkU;rw [if_pos hl];exact .inr ⟨k0,v,hk0,hl,rfl,ho,Zl7 hk0 hl _ _ _ _⟩
   |true=>exact (Zau hl).2 ⟨.inr ho.some_,ZpN hk0 hl ho ((Zau hl).1 h0).2⟩
  rw [e];simp only [e,beq_self_eq_true,Bool.not_true,Bool.false_or,Bool.or_eq_true,Bool.and_eq_true,beq_iff_eq,bne_iff_ne,Bool.not_eq_true'] at hp;rcases hp with hp|⟨a,b⟩|⟨a,b,f,g,r1,r2,s⟩
  ·rw [hp];exact own
  ·unfold ZkU at own⊢
   rw [if_pos b] at own;rw [if_pos a,e];exact own
  ·rw [Zau b] at own
   refine (Zau a).2 ⟨by rw [s];exact own.1,?_⟩
   have:=own.2
   unfold Q9 at this⊢;rw [g,if_neg d_,if_neg d_,if_neg d_,if_neg d_,if_neg d_,if_neg r2] at this;rw [f,if_neg d_,if_neg d_,if_neg d_,if_neg d_,if_neg d_,if_neg r1];exact this
 ·rw [UV.upd_ne _ _ e];exact hu k hk
theorem Zdg.lines{name:Str}{kind:Int}{r:UV}:∀{L:List Ln} {u:UV},Zdg name kind u->ZV name kind u L=.ok r->Zdg name kind r
 |[],u,hu,h=>by injection h with h;rw [<-h];exact hu
 |x::t,u,hu,h=>by
  obtain ⟨q,h1,h2⟩:=Xv h;exact Zdg.lines (hu.line h1) h2
theorem Zfv{name:Str}{kind:Int}{r:UV}:∀{L:List Ln} {u:UV},Qi u=false->ZV name kind u L=.ok r->Qi r=false
 |[],u,hu,h=>by injection h with h;rw [<-h];exact hu
 |x::t,u,hu,h=>by
  obtain ⟨q,h1,h2⟩:=Xv h;obtain ⟨_,_,_,_,_,hq⟩:=Zo2 h1;exact Zfv hq h2
end Go.Proofs.YtmgmbeipbeknaaaGreatDoor
