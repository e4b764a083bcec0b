import Derived.Test.YtmgmbeipbeknaaaGreatDoorRB29
import Derived.Test.YtmgmbeipbeknaaaGreatDoorRB32
import Derived.Test.YtmgmbeipbeknaaaGreatDoorRB34
import Derived.Test.YtmgmbeipbeknaaaGreatDoorRB35
import Derived.Test.YtmgmbeipbeknaaaGreatDoorRB38
import Derived.Test.YtmgmbeipbeknaaaGreatDoorRB42
namespace Go.Proofs.YtmgmbeipbeknaaaGreatDoor
set_option linter.all false
set_option maxHeartbeats 16000000
set_option maxRecDepth 100000
theorem m125_{p:Prop}(h:p:=by
  rw [hu.kind] at h3;have hsec:=c7_.1 ZcD.2 k' hk';rw [a] at hsec;have hsec':k'.sec=Xb:=by simpa using hsec
  have:=ho.some_
  rw [hsec',en] at this
  have:=ZdF.2 ⟨n,o_⟩ this
  simp only at this;omega):p:=h
theorem m126_{p:Prop}(h:p:=by
  rw [hu.kind] at h3;have hsec:=c7_.1 ZcD.1 k' hk';rw [a] at hsec;have hsec':k'.sec=YL:=by simpa using hsec
  have:=ho.some_
  rw [hsec',h3,ZdF.1] at this;cases this):p:=h
theorem m127_{p:Prop}(h:p:=by
  obtain ⟨l,e,_⟩:=hh
  have:=plain r0 o_
  unfold Qp at this;rw [f,if_neg d_,if_neg d_,es,e] at this;have e2:l=[]:=this;rw [es] at z;rw [e,e2,z]):p:=h
theorem m128_{p:Prop}(h:p:=by rw [<-e,<-this,List.map_map,List.map_map];rw [e];rfl):p:=h
theorem m129_{p:Prop}(h:p:=by
  have e2:l=[]:=by simpa [UC.nums] using this
  rw [es] at z;rw [e,e2,z]):p:=h
theorem Zlm:∀(n v:Str),(∀c∈n,c≠61)->Go.Lib.index (n++61::v) [61]=n.length
 |[],v,_=>by simp [Go.Lib.index,List.isPrefixOf]
 |c::t,v,h=>by
  have hc:c≠61:=h c s_;have ih:=Zlm t v (fun d hd=>h d (by simp [hd]));rw [c12_,Go.Lib.index,ih];have hp:([61]:Str).isPrefixOf (c::(t++61::v))=false:=by simp [List.isPrefixOf,Ne.symm hc]
  rw [hp];have h2:(((t.length:Nat):Int)==-1)=false:=beq_false_of_ne o_;simp only [h2,Bool.false_eq_true,if_false,c14_];omega
theorem Zvr(n:Str)(h:Zfy n=true):(∀c∈n,c≠61)/\n.contains 0=false:=by
 unfold Zfy at h;simp only [Bool.and_eq_true,c7_] at h;have hv:∀c:UInt8,Zui c=true->c≠61/\c≠0:=by
  intro c hc;refine ⟨fun e=>?_,fun e=>?_⟩<;>(subst e;exact absurd hc d_)
 refine ⟨fun c hc=>(hv c (h.1.2 c hc)).1,?_⟩;cases h0:n.contains 0 with
 |false=>rfl
 |true=>rw [List.contains_iff_mem] at h0;exact absurd rfl (hv 0 (h.1.2 0 h0)).2
theorem Zlr{p:Str×Str}(h1:Zfy p.1=true)(h2:p.2.contains 0=false):Zay (pairT p)=([p],true)/\pairT p≠[]:=by
 obtain ⟨n,v⟩:=p;simp only at h1 h2;obtain ⟨h61,h0⟩:=Zvr n h1;have hz:(n++61::v).contains 0=false:=by
  cases hc:(n++61::v).contains 0 with
  |false=>rfl
  |true=>
   rw [List.contains_iff_mem] at hc;rcases List.mem_append.1 hc with h|h
   ·rw [<-List.contains_iff_mem,h0] at h;cases h
   ·rcases List.mem_cons.1 h with h|h
    ·cases h
    ·rw [<-List.contains_iff_mem,h2] at h;cases h
 have hs:split (pairT (n,v))=.ok [n++61::v]:=ZiH [n++61::v] (by simp only [List.any_cons,hz];rfl) (Nat.succ_le_succ (Nat.zero_le _));have hcut:Go.Lib.cut (n++61::v) [61]=(n,v,true):=by
  unfold Go.Lib.cut;rw [Zlm n v h61];simp
 refine ⟨?_,fun e=>?_⟩
 ·unfold Zay
  rw [hs];simp only [JG,hcut,h1];rfl
 ·rw [e] at hs
  injection hs with hs
  cases hs
theorem Zof(b:Bool):Js (Qo b)=b/\Qo b≠[]/\Zrq.contains (Qo b)=true:=by cases b<;>decide
theorem ZjO:∀(ws:List Str) (v:Str) (i:Nat),ws.contains v=true->∃n:Nat,Xk ws v i=((i+n:Nat):Int)/\n<ws.length/\ws.getD n []=v
 |[],v,i,h=>n82_
 |x::t,v,i,h=>by
  rw [Xk];by_cases e:x=v
  ·rw [if_pos e];exact ⟨0,rfl,s_,e⟩
  ·rw [if_neg e]
   have h2:t.contains v=true:=by
    rw [List.contains_cons] at h;rcases Bool.or_eq_true _ _ ▸ h with h|h
    ·exact absurd (eq_of_beq h).symm e
    ·exact h
   obtain ⟨n,e1,e2,e3⟩:=ZjO t v (i+1) h2;exact ⟨n+1,by rw [e1];congr 1;omega,n6_,e3⟩
theorem Zh0{α:Type}{name:Str}{kind:Int}(hn:Zt name≠0){j:Nat}(wrap:List α->UC)(kf:α->ZE)(val:α->Str)(r:UV):∀(xs done:List α),
  (∀x∈xs,kf x∈Zc/\Zb (kf x).name=j/\OkV kind (kf x) (val x))->(∀d x t,done++xs=d++x::t->Zl name (kf x) (val x) (wrap d)=wrap (d++[x]))->
  (∀d t,done++xs=d++t->Xv (r.upd j (wrap d))=false)->Z9 name kind (r.upd j (wrap done)) (xs.map fun x=>⟨(kf x).sec,(kf x).name,Yk (val x),0⟩)=.ok (r.upd j (wrap (done++xs)))
 |[],done,_,_,_=>by rw [List.append_nil];rfl
 |x::t,done,h1,h2,h3=>by
  obtain ⟨hk,hs,ho⟩:=h1 x s_;have hf:=h2 done x t rfl;have e:(r.upd j (wrap done)).upd (Zb (kf x).name) (Zl name (kf x) (val x) ((r.upd j (wrap done)) (Zb (kf x).name)))=r.upd j (wrap (done++[x])):=by
   rw [hs,UV.upd_at,hf,UV.upd_same]
  have hl:=Zm0 hn hk ho (r.upd j (wrap done)) 0 (by rw [e];exact h3 (done++[x]) t s_);rw [e] at hl;rw [List.map_cons,Z9,hl];simp only
  have:=Zh0 hn wrap kf val r t (done++[x]) (fun y hy=>h1 y (by simp [hy])) (fun d y s hd=>h2 d y s (by rw [<-hd];simp)) (fun d s hd=>h3 d s (by rw [<-hd];simp))
  rw [this];simp
theorem QX{α:Type}{name:Str}{kind:Int}(hn:Zt name≠0){u r:UV}(hu:Xv u=false)(hle:∀i,(r i).len<=(u i).len){j:Nat}(wrap:List α->UC)(kf:α->ZE)(val:α->Str)(xs:List α)(hw:∀l,(wrap l).len=l.length)(huj:u j=wrap xs)(hrj:r j=wrap [])
  (h1:∀x∈xs,kf x∈Zc/\Zb (kf x).name=j/\OkV kind (kf x) (val x)) (h2:∀d x t,xs=d++x::t->Zl name (kf x) (val x) (wrap d)=wrap (d++[x])) :
  Z9 name kind r (xs.map fun x=>⟨(kf x).sec,(kf x).name,Yk (val x),0⟩)=.ok (r.upd j (u j)):=by
 have e:r.upd j (wrap [])=r:=by
  funext i;unfold UV.upd;split
  ·rename_i h;rw [h,hrj]
  ·rfl
 have:=Zh0 hn (kind:=kind) (j:=j) wrap kf val r xs [] h1 (fun d x t hd=>h2 d x t hd) (fun d t hd=>Zpk (fun i=>by
  unfold UV.upd;split
  ·rename_i h
   rw [h,huj,hw,hw]
   have:=congrArg List.length hd
   simp only [List.nil_append,c5_] at this;omega
  ·exact hle i) hu)
 rw [e] at this;rw [this,List.nil_append,huj]
theorem Zl5{α:Type}[DecidableEq α]{d t:List α}{x:α}(h:(d++x::t).Nodup):Xw d [x]=d++[x]:=by
 unfold Xw;rw [if_neg s_,List.foldl_cons,List.foldl_nil,if_neg];intro hm;rw [List.nodup_append] at h;exact h.2.2 x hm x s_ rfl
def ZkZ(r:Int×Str):ZE:=⟨Z7,Yg r.1,6,true,30,[]⟩
theorem Zt2:∀i:Fin 9,(⟨Z7,YR.getD i.val [],6,true,30,[]⟩:ZE)∈Zc/\ZL (YR.getD i.val [])=i.val+1:=n1_
theorem Zg4{r:Int×Str}(h:1<=r.1/\r.1<=9):ZkZ r∈Zc/\((ZL (Yg r.1):Nat):Int)=r.1:=by
 obtain ⟨a,b⟩:=Zt2 ⟨(r.1-1).toNat,o_⟩;unfold ZkZ Yg;rw [if_pos h];refine ⟨a,?_⟩;rw [b];simp only;omega
theorem ZlM:(Zc.all fun k=>decide (1<=k.form)&&decide (k.form<=11))=true:=n1_
theorem ZpF{k:ZE}(hk:k∈Zc):1<=k.form/\k.form<=11:=by
 have:=c7_.1 ZlM k hk
 simpa using this
theorem XD{k:ZE}{v:Str}(h5:k.form≠5)(h11:k.form≠11):Qh k v=true:=by unfold Qh;rw [if_neg h5,if_neg h11]
structure Zim(name:Str)(kind:Int)(u:UV):Prop where
 nm:Zt name≠0
 fld:Zbl name kind u
 long:Xv u=false
 kind:(u 1).num=kind
theorem Zaz{u f:UV}{k:ZE}(hl:k.list=true)(h1:ZL k.name=0)(h3:k.name≠Zy)(hn:k.name≠Zn/\k.name≠Z7):YJ u f k=(Qp u k).map fun s=>(k.name,s):=by
 unfold YJ;rw [if_neg (fun e=>by rw [e] at h1;exact Yl.2.2 h1),if_neg (by simp [h1]),if_neg h3,if_neg (by simp [hn]),if_pos hl]
theorem Zde:(Zc.all fun k=>!k.list||(k.name !=Zn&&(k.name !=Z7&&((k.name==Zy)==(k.form==8)))))=true:=n1_
theorem ZnU{name:Str}{kind:Int}{u r:UV}(hu:Zim name kind u)(hle:∀i,(r i).len<=(u i).len){k:ZE}(hk:k∈Zc)(hl:k.list=true)(h0:YJ u (Zw name) k≠[])(hr:r (Zb k.name)=Zw name (Zb k.name)) :
  Z9 name kind r ((YJ u (Zw name) k).map (lnT k))=.ok (r.upd (Zb k.name) (u (Zb k.name))):=by
 have hz:r (Zb k.name)=ZK (Zb k.name):=by rw [hr,Zhy hk hl]
 have hfld:=(Qr hl).1 (hu.fld k hk);have hh:=hfld.2;have hnames:=c7_.1 Zde k hk;simp only [hl,Bool.not_true,Bool.false_or,Bool.and_eq_true,bne_iff_ne,ne_eq,beq_iff_eq] at hnames;obtain ⟨n1,n2,n3⟩:=hnames;have hsome:(u (Zb k.name)).len≠0->ZaI k.sec kind=true:=fun h=>hfld.1.resolve_left h
 have hfin:=ZpF hk;have okv:∀v,(u (Zb k.name)).len≠0->v≠[]->ZbO k.form k.words v=true->Qh k v=true->OkV kind k v:=fun v h1 h2 h3 h4=>⟨hsome h1,Zio hfin h2 h3,h4⟩
 have lenpos:∀{α:Type} {l:List α} {x:α} (wrap:List α->UC),(∀l,(wrap l).len=l.length)->u (Zb k.name)=wrap l->x∈l->(u (Zb k.name)).len≠0:=by
  intro α l x wrap hw e hx h;rw [e,hw] at h;rw [c10_ h] at hx;cases hx
 cases ZkP hk hl with
 |cs f r0 z=>
  unfold YV at hh;rw [if_pos f] at hh;obtain ⟨l,e,hi⟩:=hh;have h8:k.name≠Zy:=fun e=>n38_
  rw [Zaz hl r0 h8 ⟨n1,n2⟩];unfold Qp;rw [if_pos f,e]
  have:=QX hu.nm (kind:=kind) hu.long hle UC.cs (fun _=>k) Qc l (fun _=>rfl) e (by rw [hz,z]) (fun x hx=>by
   obtain ⟨v,hv⟩:=hi x hx;obtain ⟨b1,b2⟩:=Zjn hv;exact ⟨hk,rfl,okv _ (lenpos UC.cs (fun _=>rfl) e hx) b2 (by rw [f];show (XU (Qc x)).isSome=true;rw [b1];rfl) (XD o_ o_)⟩) (fun d x t hd=>by
   obtain ⟨v,hv⟩:=hi x n120_;obtain ⟨b1,b2⟩:=Zjn hv;rw [ZsT f,b1];unfold Xf;rw [if_neg b2];rfl)
  exact m128_
 |spans f r0 z=>
  unfold YV at hh;rw [f,if_neg d_,if_pos rfl] at hh;obtain ⟨l,e,hi⟩:=hh;have h8:k.name≠Zy:=fun e=>n38_
  rw [Zaz hl r0 h8 ⟨n1,n2⟩];unfold Qp;rw [f,if_neg d_,if_pos (.inl rfl),e];have hnt:∀n,Qv k n=Yj n:=fun n=>by unfold Qv;rw [if_pos f]
  have:=QX hu.nm (kind:=kind) hu.long hle UC.ns (fun _=>k) (Qv k) l (fun _=>rfl) e (by rw [hz,z]) (fun x hx=>by
   obtain ⟨v,hv⟩:=hi x hx;obtain ⟨b1,b2⟩:=ZfA hv;refine ⟨hk,rfl,okv _ (lenpos UC.ns (fun _=>rfl) e hx) (by rw [hnt];exact b2) ?_ (XD o_ o_)⟩;rw [f,hnt];show (YF (Yj x)).2=true;rw [b1]) (fun d x t hd=>by
   obtain ⟨v,hv⟩:=hi x n120_;obtain ⟨b1,b2⟩:=ZfA hv;rw [Ztl f hl,hnt,b1];unfold Xf;rw [if_neg b2];rfl)
  exact m128_
 |cal f r0 z=>
  unfold YV at hh;rw [f,if_neg d_,if_neg d_,if_pos rfl] at hh;obtain ⟨l,e,hi⟩:=hh;have h8:k.name≠Zy:=fun e=>n38_
  rw [Zaz hl r0 h8 ⟨n1,n2⟩];unfold Qp;rw [f,if_neg d_,if_neg d_,e]
  have:=QX hu.nm (kind:=kind) hu.long hle UC.ss (fun _=>k) (fun s=>s) l (fun _=>rfl) e (by rw [hz,z]) (fun x hx=>by
   obtain ⟨b2,b1⟩:=hi x hx;exact ⟨hk,rfl,okv _ (lenpos UC.ss (fun _=>rfl) e hx) b2 (by rw [f];exact b1) (XD o_ o_)⟩) (fun d x t hd=>by
   obtain ⟨b2,b1⟩:=hi x n120_;rw [Zr6 f];unfold Xf;rw [if_neg b2];rfl)
  rw [<-e,<-this,List.map_map];rw [e];rfl
 |ints f r0 z=>
  unfold YV at hh;rw [f,if_neg d_,if_neg d_,if_neg d_,if_pos rfl] at hh;obtain ⟨l,e,hnd,hi⟩:=hh;have h8:k.name≠Zy:=fun e=>n38_
  rw [Zaz hl r0 h8 ⟨n1,n2⟩];unfold Qp;rw [f,if_neg d_,if_pos (.inr rfl),e];have hnt:∀n,Qv k n=Go.Lib.itoa n:=fun n=>by unfold Qv;rw [f,if_neg d_,if_neg d_]
  have hone:∀x∈l,(Zg (Go.Lib.itoa x)).map (fun w=>(Xd w).1)=[x]/\JA ZlP (Zg (Go.Lib.itoa x))=true/\Zg (Go.Lib.itoa x)=[Go.Lib.itoa x]/\Go.Lib.itoa x≠[]:=by
   intro x hx;obtain ⟨⟨w,hw⟩,_⟩:=hi x hx;obtain ⟨b1,b2,b3⟩:=Zg6 hw;have hb:=ZeA (Go.Lib.itoa x) b3 b2;refine ⟨by rw [hb,List.map_cons,b1];rfl,?_,hb,b2⟩;rw [hb];unfold JA ZlP;simp [b1]
  have:=QX hu.nm (kind:=kind) hu.long hle UC.ns (fun _=>k) (Qv k) l (fun _=>rfl) e (by rw [hz,z]) (fun x hx=>by
   obtain ⟨c1,c2,c3,c4⟩:=hone x hx;refine ⟨hk,rfl,okv _ (lenpos UC.ns (fun _=>rfl) e hx) (by rw [hnt];exact c4) (by rw [f,hnt];exact c2) ?_⟩;unfold Qh;rw [f,if_neg d_,if_pos rfl,hnt,c3];obtain ⟨⟨w,hw⟩,h0⟩:=hi x hx;obtain ⟨b1,_,_⟩:=Zg6 hw;simp only [List.any_cons,b1,List.any_nil,Bool.or_false,Bool.or_eq_true,bne_iff_ne,ne_eq,Bool.not_eq_true',c11_];by_cases hls:k.name=Qs
   ·exact .inr (h0 hls)
   ·exact .inl hls) (fun d x t hd=>by
   obtain ⟨c1,_⟩:=hone x n120_;rw [ZpV f,hnt,c1];show UC.ns (Xw d [x])=_;rw [Zl5 (t:=t) (by rw [<-hd];exact hnd)])
  exact m128_
 |ps f r0 z=>
  unfold YV at hh;rw [f,if_neg d_,if_neg d_,if_neg d_,if_neg d_,if_pos rfl] at hh;obtain ⟨l,e,hnd,hi⟩:=hh;have h8:k.name=Zy:=by rw [f] at n3;simpa using n3
  have hkt:YJ u (Zw name) k=l.map fun p=>(k.name,pairT p):=by
   unfold YJ;rw [if_neg (fun e=>by rw [e] at r0;exact Yl.2.2 r0),if_neg (by simp [r0]),if_pos h8];rw [h8,Yl.2.1] at e;rw [e];rfl
  rw [hkt]
  have:=QX hu.nm (kind:=kind) hu.long hle UC.ps (fun _=>k) pairT l (fun _=>rfl) e (by rw [hz,z]) (fun x hx=>by
   obtain ⟨a1,a2⟩:=hi x hx;obtain ⟨b1,b2⟩:=Zlr a1 a2;refine ⟨hk,rfl,okv _ (lenpos UC.ps (fun _=>rfl) e hx) b2 ?_ (XD o_ o_)⟩;rw [f];show (Zay (pairT x)).2=true;rw [b1]) (fun d x t hd=>by
   obtain ⟨a1,a2⟩:=hi x n120_;obtain ⟨b1,b2⟩:=Zlr a1 a2;rw [Zsl f,b1,if_neg b2];show UC.ps (Xa d [x])=_;have hnd2:=hnd;rw [hd,List.map_append,List.nodup_append] at hnd2;have hfil:d.filter (fun y=>y.1 !=x.1)=d:=by
    rw [List.filter_eq_self];intro y hy;rw [bne_iff_ne];exact hnd2.2.2 y.1 (List.mem_map.2 ⟨y,hy,rfl⟩) x.1 s_
   rw [Xa,hfil];rfl)
  rw [<-this,List.map_map];rfl
 |names f r0 z=>
  unfold YV at hh;rw [f,if_neg d_,if_neg d_,if_neg d_,if_neg d_,if_neg d_,if_pos r0] at hh;obtain ⟨l,e,hnd,hi⟩:=hh;have h8:k.name≠Zy:=fun e=>n38_
  rw [Zaz hl r0 h8 ⟨n1,n2⟩];unfold Qp;rw [f,if_neg d_,if_neg d_,e]
  have:=QX hu.nm (kind:=kind) hu.long hle UC.ss (fun _=>k) (fun s=>s) l (fun _=>rfl) e (by rw [hz,z]) (fun x hx=>by
   obtain ⟨b1,b2⟩:=hi x hx;refine ⟨hk,rfl,okv _ (lenpos UC.ss (fun _=>rfl) e hx) (fun e0=>by rw [e0] at b1;cases b1) ?_ (XD o_ o_)⟩;rw [f];show JA ZaQ (Zg x)=true;rw [b1];unfold JA;simp [b2]) (fun d x t hd=>by
   obtain ⟨b1,b2⟩:=hi x n120_;rw [Ztv f r0,b1];show UC.ss (Xw d [x])=_;rw [Zl5 (t:=t) (by rw [<-hd];exact hnd)])
  rw [<-e,<-this,List.map_map];rw [e];rfl
 |rels f r0 z s g=>
  unfold YV at hh;rw [f,if_neg d_,if_neg d_,if_neg d_,if_neg d_,if_neg d_,if_neg r0] at hh;obtain ⟨l,e,hnd,hi⟩:=hh;have hreq:k.name=Z8:=by
   cases hq:decide (k.name=Z8) with
   |true=>exact of_decide_eq_true hq
   |false=>exact absurd (ZfD ⟨r0,of_decide_eq_false hq⟩) h0
  have e4:Zb k.name=4:=by rw [hreq,Yl.1]
  have hkt:YJ u (Zw name) k=l.map fun p=>(Yg p.1,p.2):=by
   unfold YJ;rw [if_pos hreq];rw [e4] at e;rw [e];rfl
  rw [hkt]
  have:=QX hu.nm (kind:=kind) hu.long hle UC.rs ZkZ (fun p=>p.2) l (fun _=>rfl) e (by rw [hz,z]) (fun x hx=>by
   obtain ⟨b0,b1,b2,b3⟩:=hi x hx;obtain ⟨m1,m2⟩:=Zg4 b0;refine ⟨m1,by rw [e4];exact Zfg _,⟨by show ZaI Z7 kind=true;rw [<-s];exact hsome (lenpos UC.rs (fun _=>rfl) e hx),Zio (by show (1:Int)<=6/\(6:Int)<=11;decide) (fun e0=>by rw [e0] at b2;cases b2) ?_,XD (by show (6:Int)≠5;decide) (by show (6:Int)≠11;decide)⟩⟩;show JA ZaQ (Zg x.2)=true;rw [b2];unfold JA;simp [b3]) (fun d x t hd=>by
   obtain ⟨b0,b1,b2,b3⟩:=hi x n120_;obtain ⟨m1,m2⟩:=Zg4 b0;have hr1:ZL (ZkZ x).name≠0:=by
    show ZL (Yg x.1)≠0;omega
   rw [ZpP n18_ hr1,b2,if_neg (fun e0=>by rw [e0] at b2;cases b2)];show UC.rs (ZW name ((ZL (Yg x.1):Nat):Int) d [x.2])=_;rw [m2,ZW,ZW,if_pos];refine ⟨b1,fun hm=>?_⟩;rw [hd,List.nodup_append] at hnd;exact hnd.2.2 x hm x s_ rfl)
  rw [<-this,List.map_map];congr 1;refine List.map_congr_left fun x _=>?_
  show (⟨k.sec,Yg x.1,Yk x.2,0⟩:Ln)=⟨Z7,Yg x.1,Yk x.2,0⟩;rw [s]
theorem ZdF:ZaI YL 3=false/\(∀kind:Fin 5,ZaI Xb (kind.val:Int)=true->kind.val=3):=n1_
theorem ZcD:(Zc.all fun k=>!(k.name==Zn)||(k.sec==YL))=true/\(Zc.all fun k=>!(k.name==Z7)||(k.sec==Xb))=true:=n1_
theorem Y9{k:ZE}(hk:k∈Zc)(hl:k.list=false):ZL k.name=0/\k.name≠Zy/\(k.form=1\/k.form=2\/k.form=3\/k.form=4\/k.form=5\/k.form=10):=by
 have h0:(Zc.all fun k=>k.list||(ZL k.name==0&&(k.name !=Zy&&(k.form==1||(k.form==2||(k.form==3||(k.form==4||(k.form==5||k.form==10))))))))=true:=n1_;have h:=c7_.1 h0 k hk;simpa only [hl,Bool.false_or,Bool.or_eq_true,Bool.and_eq_true,beq_iff_eq,bne_iff_ne,ne_eq] using h
theorem Zo9{k:ZE}(hl:k.list=false){v:Str}(h:ZeK v k=0):(k.form=1/\v=[])\/(v≠[]/\ZbO k.form k.words v=true):=by
 unfold ZeK ZqZ at h;by_cases hf:k.form<1\/11<k.form
 ·rw [if_pos hf] at h;exact absurd h d_
 ·rw [if_neg hf,hl] at h
  by_cases h1:v=[]/\(false=true\/k.form=1)
  ·exact .inl ⟨by simpa using h1.2,h1.1⟩
  ·rw [if_neg h1] at h
   right;by_cases hv:v=[]
   ·rw [if_pos (.inl hv)] at h;exact absurd h d_
   ·refine ⟨hv,?_⟩
    cases hr:ZbO k.form k.words v with
    |true=>rfl
    |false=>rw [hr,if_pos (.inr rfl)] at h;exact absurd h d_
theorem Zfe{name:Str}{kind:Int}{k:ZE}(hk:k∈Zc)(hl:k.list=false){v:Str}(h:OkV kind k v){u f:UV}(he:u (Zb k.name)=Zl name k v (.s []))(hne:u (Zb k.name)≠f (Zb k.name)) :
  ∃s,Qm u f k=[s]/\OkV kind k s/\∀c,Zl name k s c=u (Zb k.name):=by
 obtain ⟨_,_,hf⟩:=Y9 hk hl;have hv:=Zo9 hl h.val;have mk:∀s,Qm u f k=[s]->ZeK s k=0->Qh k s=true->Zl name k s (.s [])=u (Zb k.name)->∃s,Qm u f k=[s]/\OkV kind k s/\∀c,Zl name k s c=u (Zb k.name):=
  fun s h1 h2 h3 h4=>⟨s,h1,⟨h.some_,h2,h3⟩,fun c=>(ZhM hk hl name s c (.s [])).trans h4⟩
 have hin:=ZpF hk;rcases hf with f1|f1|f1|f1|f1|f1
 ·have e:u (Zb k.name)=.s v:=by rw [he];unfold Zl;rw [if_pos (.inl f1)]
  refine mk v ?_ h.val h.after he.symm;unfold Qm;rw [if_neg hne,if_pos (.inl f1),e];rfl
 ·have e:u (Zb k.name)=.b (Js v):=by rw [he];unfold Zl;rw [f1];rfl
  obtain ⟨y1,y2,y3⟩:=Zof (Js v);refine mk (Qo (Js v)) ?_ (Zio hin y2 (by rw [f1];exact y3)) (XD o_ o_) ?_
  ·unfold Qm
   rw [if_neg hne,f1,if_neg d_,if_pos rfl,e];rfl
  ·rw [e];unfold Zl;rw [f1]
   show UC.b (Js (Qo (Js v)))=_;rw [y1]
 ·rcases hv with ⟨a,_⟩|⟨hv0,hr⟩
  ·omega
  ·have e:u (Zb k.name)=.n (Xd v).1:=by rw [he];unfold Zl;rw [f1];rfl
   rw [f1] at hr;have hr':(Xd v).2=true:=hr;obtain ⟨b1,b2,_⟩:=Zg6 (n:=(Xd v).1) (w:=v) (by rw [<-hr']);refine mk (Go.Lib.itoa (Xd v).1) ?_ (Zio hin b2 (by rw [f1];show (Xd _).2=true;rw [b1])) (XD o_ o_) ?_
   ·unfold Qm
    rw [if_neg hne,f1,if_neg d_,if_neg d_,e];unfold Qv;rw [f1,if_neg d_,if_neg d_];rfl
   ·rw [e];unfold Zl;rw [f1]
    show UC.n (Xd (Go.Lib.itoa (Xd v).1)).1=_;rw [b1]
 ·rcases hv with ⟨a,_⟩|⟨hv0,hr⟩
  ·omega
  ·have e:u (Zb k.name)=.n (YF v).1:=by rw [he];unfold Zl;rw [f1,hl];rfl
   rw [f1] at hr;have hr':(YF v).2=true:=hr;obtain ⟨b1,b2⟩:=ZfA (n:=(YF v).1) (v:=v) (by rw [<-hr']);refine mk (Yj (YF v).1) ?_ (Zio hin b2 (by rw [f1];show (YF _).2=true;rw [b1])) (XD o_ o_) ?_
   ·unfold Qm
    rw [if_neg hne,f1,if_neg d_,if_neg d_,e];unfold Qv;rw [if_pos f1];rfl
   ·rw [e];unfold Zl;rw [f1,hl]
    show UC.n (YF (Yj (YF v).1)).1=_;rw [b1]
 ·have e:u (Zb k.name)=.s v:=by rw [he];unfold Zl;rw [if_pos (.inr f1)]
  refine mk v ?_ h.val h.after he.symm;unfold Qm;rw [if_neg hne,if_pos (.inr f1),e];rfl
 ·rcases hv with ⟨a,_⟩|⟨hv0,hr⟩
  ·omega
  ·have e:u (Zb k.name)=.n (Xk k.words v 0+1):=by rw [he];unfold Zl;rw [f1];rfl
   rw [f1] at hr;have hr':k.words.contains v=true:=hr;obtain ⟨n,e1,e2,e3⟩:=ZjO k.words v 0 hr';refine mk v ?_ h.val h.after he.symm;unfold Qm;rw [if_neg hne,f1,if_neg d_,if_neg d_,e];unfold Qv;rw [f1,if_neg d_,if_pos rfl];show [if Xk k.words v 0+1<1\/(k.words.length:Int)<Xk k.words v 0+1 then [] else k.words.getD (Xk k.words v 0+1-1).toNat []]=[v];rw [e1,if_neg o_,show (((0+n:Nat):Int)+1-1).toNat=n by omega,e3]
theorem Zlj{u f:UV}{k:ZE}(hk:k∈Zc)(hl:k.list=false)(h0:YJ u f k≠[]):YJ u f k=(Qm u f k).map (fun s=>(k.name,s))/\¬((k.name=Zn/\(u 1).num=3)\/(k.name=Z7/\(u 1).num≠3)):=by
 obtain ⟨h1,h2,_⟩:=Y9 hk hl;unfold YJ at h0⊢;have hq:k.name≠Z8:=fun e=>by rw [e] at h1;exact Yl.2.2 h1
 rw [if_neg hq,if_neg (by simp [h1]),if_neg h2] at h0⊢;by_cases h4:(k.name=Zn/\(u 1).num=3)\/(k.name=Z7/\(u 1).num≠3)
 ·rw [if_pos h4] at h0;exact absurd rfl h0
 ·rw [if_neg h4,hl]
  exact ⟨rfl,h4⟩
theorem Zrr{name:Str}{kind:Int}{u r:UV}(hu:Zim name kind u)(hkr:∃n:Nat,kind=n/\n<=4)(hle:∀i,(r i).len<=(u i).len){k:ZE}(hk:k∈Zc)(h0:YJ u (Zw name) k≠[])(hr:r (Zb k.name)=Zw name (Zb k.name)) :
  Z9 name kind r ((YJ u (Zw name) k).map (lnT k))=.ok (r.upd (Zb k.name) (u (Zb k.name))):=by
 cases hl:k.list with
 |true=>exact ZnU hu hle hk hl h0 hr
 |false=>
  obtain ⟨e,h4⟩:=Zlj hk hl h0;have hne:u (Zb k.name)≠Zw name (Zb k.name):=by
   intro e2;rw [e] at h0;unfold Qm at h0;rw [if_pos e2] at h0;exact h0 rfl
  have hf:=hu.fld k hk;unfold Zhp at hf;rw [if_pos hl] at hf;rcases hf with hf|⟨k',v,hk',hl',hs,ho,hv⟩
  ·exact absurd hf hne
  ·have ekk:k'=k:=by
    have hp:=c7_.1 (c7_.1 Zha k' hk') k hk;obtain ⟨r1,_⟩:=Y9 hk hl;obtain ⟨r2,_⟩:=Y9 hk' hl';simp only [hs,beq_self_eq_true,Bool.not_true,Bool.false_or,Bool.or_eq_true,Bool.and_eq_true,beq_iff_eq,bne_iff_ne,r1,r2,ne_eq,not_true_eq_false,false_and,false_or] at hp;obtain ⟨n,en,hn4⟩:=hkr;rcases hp with hp|⟨a,b⟩|⟨a,b⟩
    ·exact hp
    ·exfalso
     have h3:(u 1).num=3:=by
      by_cases h3:(u 1).num=3
      ·exact h3
      ·exact absurd (.inr ⟨b,h3⟩) h4
     exact m126_
    ·exfalso
     have h3:(u 1).num≠3:=fun h3=>absurd (.inl ⟨b,h3⟩) h4
     exact m125_
   subst ekk;obtain ⟨s,e1,e2,e3⟩:=Zfe hk hl ho hv hne;rw [e,e1,List.map_cons,List.map_nil,List.map_cons,List.map_nil];have el:(r.upd (Zb k'.name) (Zl name k' s (r (Zb k'.name))))=r.upd (Zb k'.name) (u (Zb k'.name)):=by rw [e3]
   have:=Zm0 hu.nm hk e2 r 0 (by
    rw [el];refine Zpk (fun i=>?_) hu.long;unfold UV.upd;split
    ·rename_i h;rw [h];exact Nat.le_refl _
    ·exact hle i)
   show Z9 name kind r [⟨k'.sec,k'.name,Yk s,0⟩]=_;rw [Z9,this,el];rfl
def Zec(u f:UV)(P:List ZE)(i:Nat):Bool:=P.any fun q=>!(YJ u f q).isEmpty&&Zb q.name==i
def stU(u f:UV)(P:List ZE):UV:=fun i=>if Zec u f P i=true then u i else f i
theorem Zh1(u f:UV)(P:List ZE)(k:ZE)(i:Nat):Zec u f (P++[k]) i=(Zec u f P i||(!(YJ u f k).isEmpty&&Zb k.name==i)):=by
 unfold Zec;rw [List.any_append,List.any_cons,List.any_nil,Bool.or_false]
theorem Zv1{name:Str}{u:UV}(P:List ZE)(i:Nat):(stU u (Zw name) P i).len<=(u i).len:=by
 unfold stU;split
 ·exact Nat.le_refl _
 ·rw [Zcb];exact Nat.zero_le _
theorem ZjS{name:Str}{kind:Int}{u:UV}(hu:Zim name kind u)(hkr:∃n:Nat,kind=n/\n<=4):∀(S P:List ZE),P++S=Zc->
  Z9 name kind (stU u (Zw name) P) (S.flatMap fun k=>(YJ u (Zw name) k).map (lnT k))=.ok (stU u (Zw name) (P++S))
 |[],P,_=>by rw [List.append_nil];rfl
 |k::S,P,hP=>by
  have ih:=ZjS hu hkr S (P++[k]) (by rw [<-hP];simp);have hk:k∈Zc:=by rw [<-hP];simp
  have hstep:Z9 name kind (stU u (Zw name) P) ((YJ u (Zw name) k).map (lnT k))=.ok (stU u (Zw name) (P++[k])):=by
   by_cases h0:YJ u (Zw name) k=[]
   ·rw [h0]
    have e:stU u (Zw name) (P++[k])=stU u (Zw name) P:=by
     funext i;unfold stU;rw [Zh1,h0];simp
    rw [e];rfl
   ·have hd:Zec u (Zw name) P (Zb k.name)=false:=by
     unfold Zec;rw [List.any_eq_false];intro q hq h;rw [Bool.and_eq_true] at h;obtain ⟨h1,h2⟩:=h;have hq0:YJ u (Zw name) q≠[]:=by intro e;rw [e] at h1;cases h1
     obtain ⟨p,hp⟩:=List.exists_mem_of_ne_nil _ hq0;have hne:k≠q:=by
      intro e
      have:=Zo8
      rw [<-hP,List.nodup_append] at this;exact this.2.2 q hq k s_ e.symm
     exact ZoZ hk (by rw [<-hP];simp [hq]) hne h0 hp ((ZmG hp).trans (eq_of_beq h2))
    have:=Zrr hu hkr (Zv1 P) hk h0 (by unfold stU;rw [hd];rfl)
    rw [this];congr 1;funext i;unfold UV.upd stU;rw [Zh1];have hne:(!(YJ u (Zw name) k).isEmpty)=true:=by simpa using h0
    rw [hne,Bool.true_and];by_cases e:i=Zb k.name
    ·subst e;simp
    ·rw [if_neg e,beq_false_of_ne (fun h=>e h.symm),Bool.or_false]
  rw [List.flatMap_cons,Zef,hstep];simp only;rw [ih];congr 2;simp
theorem Zp4:∀i:Fin 35,2<=i.val->(Zc.any fun k=>Zb k.name==i.val&&(!k.list||(ZL k.name==0||k.name==Z8)))=true:=n1_
theorem Ztd{name:Str}{kind:Int}{u:UV}(hu:Zim name kind u)(hkr:∃n:Nat,kind=n/\n<=4)(h01:u 0=Zw name 0/\u 1=Zw name 1){i:Nat}(hi:i<35)(hd:Zec u (Zw name) Zc i=false):u i=Zw name i:=by
 by_cases h2:2<=i
 ·have hnone:∀q∈Zc,Zb q.name=i->YJ u (Zw name) q=[]:=by
   intro q hq e;unfold Zec at hd;rw [List.any_eq_false] at hd
   have:=hd q hq
   rw [e,beq_self_eq_true,Bool.and_true] at this;simpa using this
  obtain ⟨k,hk,hp⟩:=List.any_eq_true.1 (Zp4 ⟨i,hi⟩ h2);simp only [Bool.and_eq_true,beq_iff_eq,Bool.or_eq_true,Bool.not_eq_true'] at hp;obtain ⟨es,hp⟩:=hp;have hk0:=hnone k hk es;have hf:=hu.fld k hk;cases hl:k.list with
  |false=>
   unfold Zhp at hf;rw [if_pos hl,es] at hf;rcases hf with hf|⟨k',v,hk',hl',hs,ho,hv⟩
   ·exact hf
   ·cases hx:decide (u i=Zw name i) with
    |true=>exact of_decide_eq_true hx
    |false=>
     exfalso;have hs':Zb k'.name=i:=hs;have hne:=of_decide_eq_false hx;obtain ⟨s,e1,_,_⟩:=Zfe (u:=u) (f:=Zw name) hk' hl' ho (by rw [hs'];exact hv) (by rw [hs'];exact hne);obtain ⟨r1,r2,_⟩:=Y9 hk' hl';have hn:=hnone k' hk' hs';unfold YJ at hn;have hq:k'.name≠Z8:=fun e=>by rw [e] at r1;exact Yl.2.2 r1
     rw [if_neg hq,if_neg (by simp [r1]),if_neg r2] at hn;by_cases h4:(k'.name=Zn/\(u 1).num=3)\/(k'.name=Z7/\(u 1).num≠3)
     ·obtain ⟨n,en,hn4⟩:=hkr
      rcases h4 with ⟨a,h3⟩|⟨a,h3⟩
      ·exact m126_
      ·exact m125_
     ·rw [if_neg h4,hl',if_neg d_,e1] at hn
      cases hn
  |true=>
   have hh:=((Qr hl).1 hf).2;have hz:=Zhy hk hl name;rw [es] at hh hz;rw [hz];have hnames:=c7_.1 Zde k hk;simp only [hl,Bool.not_true,Bool.false_or,Bool.and_eq_true,bne_iff_ne,ne_eq,beq_iff_eq] at hnames;obtain ⟨n1,n2,n3⟩:=hnames;have plain:ZL k.name=0->k.form≠8->Qp u k=[]:=fun r0 f8=>by
    rw [Zaz hl r0 (fun e=>by rw [e,beq_self_eq_true] at n3;exact f8 (eq_of_beq n3.symm)) ⟨n1,n2⟩] at hk0;simpa using hk0
   cases ZkP hk hl with
   |cs f r0 z=>
    unfold YV at hh;rw [if_pos f] at hh;obtain ⟨l,e,_⟩:=hh
    have:=plain r0 o_
    unfold Qp at this;rw [if_pos f,es,e] at this;have e2:l=[]:=by simpa [UC.cmds] using this
    rw [es] at z;rw [e,e2,z]
   |spans f r0 z=>
    unfold YV at hh;rw [f,if_neg d_,if_pos rfl] at hh;obtain ⟨l,e,_⟩:=hh
    have:=plain r0 o_
    unfold Qp at this;rw [f,if_neg d_,if_pos (.inl rfl),es,e] at this;exact m129_
   |cal f r0 z=>
    unfold YV at hh;rw [f,if_neg d_,if_neg d_,if_pos rfl] at hh;exact m127_
   |ints f r0 z=>
    unfold YV at hh;rw [f,if_neg d_,if_neg d_,if_neg d_,if_pos rfl] at hh;obtain ⟨l,e,_⟩:=hh
    have:=plain r0 o_
    unfold Qp at this;rw [f,if_neg d_,if_pos (.inr rfl),es,e] at this;exact m129_
   |ps f r0 z=>
    unfold YV at hh;rw [f,if_neg d_,if_neg d_,if_neg d_,if_neg d_,if_pos rfl] at hh;obtain ⟨l,e,_⟩:=hh;have h8:k.name=Zy:=by rw [f] at n3;simpa using n3
    unfold YJ at hk0;rw [if_neg (fun e=>by rw [e] at r0;exact Yl.2.2 r0),if_neg (by simp [r0]),if_pos h8] at hk0;rw [h8,Yl.2.1] at es;rw [<-es] at e;rw [e] at hk0;have e2:l=[]:=by simpa [UC.prs] using hk0
    rw [h8,Yl.2.1] at z;rw [<-es,e,e2,z]
   |names f r0 z=>
    unfold YV at hh;rw [f,if_neg d_,if_neg d_,if_neg d_,if_neg d_,if_neg d_,if_pos r0] at hh;exact m127_
   |rels f r0 z s g=>
    unfold YV at hh;rw [f,if_neg d_,if_neg d_,if_neg d_,if_neg d_,if_neg d_,if_neg r0] at hh;obtain ⟨l,e,_⟩:=hh;have hreq:k.name=Z8:=by
     rcases hp with hp|hp|hp
     ·rw [hl] at hp;cases hp
     ·exact absurd hp r0
     ·exact hp
    unfold YJ at hk0;rw [if_pos hreq] at hk0;rw [hreq,Yl.1] at es;rw [<-es] at e;rw [e] at hk0;have e2:l=[]:=by simpa [UC.rels] using hk0
    rw [hreq,Yl.1] at z;rw [<-es,e,e2,z]
 ·rcases (show i=0\/i=1 by omega) with rfl|rfl
  ·exact h01.1
  ·exact h01.2
theorem ZtJ{kind:Int}{u v:UV}(h:ZaG u v=true):QO kind u=QO kind v:=by
 have g:=fun j hj=>Zp3 h j hj
 unfold QO;rw [g 7 d_,g 9 d_,g 21 d_,g 25 d_,g 26 d_,g 27 d_,g 28 d_]
theorem Zk1{name:Str}(h:Zt name≠0):Zw name 1=.n (Zt name:Nat):=by
 unfold Zw;rw [if_neg h];split
 ·rfl
 ·split<;>rfl
theorem ZhG{name:Str}{l:List Ln}(h:(Yn name l).2.1=0) :
  (Yn name (Qe (Yn name l).1)).2=(0,0)/\ZaG (Yn name (Qe (Yn name l).1)).1 (Yn name l).1=true:=by
 obtain ⟨hn,hb,hl,hw,_⟩:=Zg3 h;generalize (Yn name l).1=u at *;have h0:u 0=Zw name 0:=Zgq hl;have h1:u 1=Zw name 1:=Zbv hl fun x _=>by have:=ZiJ x.key;omega
 have hkr:∃n:Nat,((Zt name:Nat):Int)=n/\n<=4:=⟨_,rfl,J3 name⟩;have hu:Zim name (Zt name:Nat) u:=⟨hn,Zbl.lines (Zbl.new _ _) hl,ZcJ (Zhl name) hl,by rw [h1,Zk1 hn];rfl⟩;have e0:(u 0).str=name:=by rw [h0,Zph hn];rfl
 have hall:=ZjS hu hkr Zc [] rfl;have hst:stU u (Zw name) []=Zw name:=by
  funext i;unfold stU Zec;rw [List.any_nil];rfl
 rw [hst,List.nil_append] at hall;have hsame:ZaG (stU u (Zw name) Zc) u=true:=by
  refine ZsL fun i hi=>?_
  unfold stU;cases hd:Zec u (Zw name) Zc i with
  |true=>rw [if_pos rfl]
  |false=>rw [if_neg d_];exact (Ztd hu hkr ⟨h0,h1⟩ hi hd).symm
 have hraw:ZbR u=Zc.flatMap fun k=>(YJ u (Zw name) k).map (lnT k):=by unfold ZbR;rw [e0]
 rw [<-hraw] at hall;have hnum:=Zgg (Zdm (ZbR u) none 0) hall;have hwh:QO (Zt name:Nat) (stU u (Zw name) Zc)=0:=by rw [ZtJ hsame,hw]
 have hm:Yn name (Qe u)=(stU u (Zw name) Zc,(0,0)):=by
  unfold Yn;rw [if_neg (by rw [hb];simp [hn])];unfold Qe;rw [hnum];simp only;rw [if_neg (by rw [hwh];decide)]
 rw [hm];exact ⟨rfl,hsame⟩
open Go Go.RowKit
theorem ZfK(c a:Int):((#[.int .i64 c,.int .i64 a]:Array Value).all fun x=>x.oneCell')=true:=n54_
theorem ZiF{w2 w3 w4:World}{cs:Array Value}(h3:w3.heap[w2.heap.size]?=some (.cells Zf 28 (0,0)))(hb3:Below w2.heap.size w2 w3)
  (h4:w4.heap[w2.heap.size]?=some (.cells cs 28 (0,0))) (hf4:Fr (fun k=>k=w2.heap.size) (w3.alloc (.cells #[.int .i64 0,.int .i64 0] 37)) w4) :
  w4.heap[w3.heap.size]?=some (.cells #[.int .i64 0,.int .i64 0] 37 (0,0))/\Below w2.heap.size w2 w4/\w2.heap.size<w3.heap.size:=by
 have hlt:=Zd h3;have hF:=heap_alloc_new w3 (.cells #[.int .i64 0,.int .i64 0] 37);exact ⟨hf4.heap hF o_,(hb3.alloc hb3.size _).trans (hf4.below _ (by have:=hb3.size;simp;omega) (fun k hk e=>by omega)),hlt⟩
theorem ZfB{w2 w3 w4 w5:World}{cs:Array Value}(h4:w4.heap[w2.heap.size]?=some (.cells cs 28 (0,0)))
  (h:w4.heap[w3.heap.size]?=some (.cells #[.int .i64 0,.int .i64 0] 37 (0,0))/\Below w2.heap.size w2 w4/\w2.heap.size<w3.heap.size) (hf5:Fr (fun k=>k=w3.heap.size) w4 w5) :
  w5.heap[w2.heap.size]?=some (.cells cs 28 (0,0))/\Below w2.heap.size w2 w5/\w2.heap.size<w3.heap.size:=
 ⟨hf5.heap h4 o_,h.2.1.trans (hf5.below _ h.2.1.size (fun k hk e=>by omega)),h.2.2⟩
theorem ZuL(a b:ByteArray)(h:a.size+b.size<4611686018427387904):Op.stringOp .add a b=pure (.string (a++b)):=by
 have:¬((a.size+b.size:Nat):Int)>IntKind.i64.max:=n58_
 simp only [Op.stringOp,if_neg this]
theorem QL(x y:Str)(h:x.length+y.length<4611686018427387904):Op.stringOp .add ⟨x.toArray⟩ ⟨y.toArray⟩=pure (.string ⟨(x++y).toArray⟩):=by
 rw [ZuL ⟨x.toArray⟩ ⟨y.toArray⟩ n35_];congr 2
theorem Zcg(nm:Str)(kind:Int):∀(l:List Ln) (u r:UV),ZH u->Z9 nm kind u l=.ok r->ZH r
 |[],u,r,h,e=>by injection e with e;rw [<-e];exact h
 |x::t,u,r,h,e=>by
  rw [Z9] at e;cases hx:Xi nm kind u x with
  |error c=>rw [hx] at e;cases e
  |ok q=>
   rw [hx] at e;obtain ⟨k,hk,v,rfl,-⟩:=ZhP hx;exact Zcg nm kind t _ r (h.upd _ _ (Zej nm k hk v _)) e
theorem Zbn(nm:Str)(l:List Ln):ZH (Yn nm l).1:=by
 unfold Yn;split
 ·exact ZH.zero
 ·split
  ·exact ZH.zero
  ·rename_i u hu
   split
   ·exact ZH.zero
   ·exact Zcg nm _ l _ _ (ZH.new nm) hu
theorem Yb{P:Program}{w:World}{ops:Array Oper}{rest:List Oper}{o:Oper}{a:Act}{Q:Exit->Act->World->Prop}(hg:Region.wanted o (yielded ops a.tmps)=true)(t:TypeId)(x:Operand)(b:Nat)(cells:Array Value)(T:TypeId)(d:TypeDesc)(ho:o.op=Op.load t x)
  (hx:a.eval x=.pointer (some ⟨b,0,none⟩)) (hw:w.heap[b]?=some (.cells cells T (0,0))) (hd:P.underlying t=some d) (hr:d.isRow=true) (hi:(P.info? t).map (·.size)=some cells.size)
  (h:wpList P ops Q rest (a.put o.dst (.agg cells)) w):wpList P ops Q (o::rest) a w:=by
 refine wpList_step fun K hK=>?_
 rw [if_pos hg];exact JX t x b cells T d ho hx hw hd hr hi (hK _ _ h)
theorem Zp0{P:Program}{w:World}{ops:Array Oper}{rest:List Oper}{o:Oper}{a:Act}{Q:Exit->Act->World->Prop}(hg:Region.wanted o (yielded ops a.tmps)=true)(t:TypeId)(parts:Array (Nat×Operand))(vs:Array (Nat×Value))(cells:Array Value)(ho:o.op=Op.build t parts)
  (hv:(parts.map fun x=>(x.1,a.eval x.2))=vs) (hb:(Instr.build t vs).run P w=.ok (.agg cells) w) (h:wpList P ops Q rest (a.put o.dst (.agg cells)) w):wpList P ops Q (o::rest) a w:=by
 refine wpList_step fun K hK=>?_
 rw [if_pos hg];exact ZhQ t parts vs cells ho hv hb (hK _ _ h)
theorem Zhz:∀{f:Nat} {l:Str} {out x:List Str},l.length<f->XH l out=.ok x->(x.map List.length).sum<=(out.map List.length).sum+l.length
 |0,_,_,_,h,_=>absurd h o_
 |f+1,l,out,x,hf,h=>by
  cases hd:l.dropWhile Zj with
  |nil=>rw [Zcs hd] at h;cases h;omega
  |cons c r=>
   by_cases h32:out.length=32
   ·rw [Zbr hd h32] at h;cases h
   ·cases hn:Next (c::r) [] with
    |error e=>rw [Zcf hd h32 hn] at h;cases h
    |ok y=>
     obtain ⟨w,r'⟩:=y;rw [JL hd h32 hn] at h;have hdl:=XI l;rw [hd] at hdl;have h1:r'.length<=r.length:=Jb (XT hd) hn;have h2:=ZdL (f:=(c::r).length+1) o_ hn;have h3:=Zhz (f:=f) n20_ h;simp only [List.map_append,List.map_cons,List.map_nil,List.sum_append,List.sum_cons,List.sum_nil,c14_,List.length_nil] at h2 h3 hdl;omega
theorem Zqc{s:Str}{l:List Str}(h:split s=.ok l):(l.map List.length).sum<=s.length:=by
 rw [ZbV] at h
 have:=Zhz (f:=s.length+1) o_ h
 simpa using this
theorem Zh5:∀l:List Str,(Ya [32] (l.map YC)).length<=4*(l.map List.length).sum+3*l.length
 |[]=>Nat.zero_le _
 |[a]=>by
  have:=ZaB a
  show (YC a).length<=_;simp only [List.map_cons,List.map_nil,List.sum_cons,List.sum_nil,c14_,List.length_nil];omega
 |a::b::t=>by
  have h0:=ZaB a;have h1:=Zh5 (b::t);have e:Ya [32] ((a::b::t).map YC)=YC a++[32]++Ya [32] ((b::t).map YC):=rfl;rw [e];simp only [c5_,List.map_cons,List.sum_cons,c14_,List.length_nil] at h1⊢;omega
theorem ZsD{v:Str}(hv:v.length<=100000000){c:Zar}(h:XU v=some c):(Qc c).length<=450000000/\∀y∈c.2,y.length<137438953472:=by
 unfold XU at h;have ht:=Zlf v;cases hs:split (Go.Lib.trimPrefix v [45]) with
 |error e=>rw [hs] at h;cases h
 |ok l=>
  rw [hs] at h;cases l with
  |nil=>cases h
  |cons x t=>
   simp only at h;split at h
   ·cases h
   ·injection h with h
    subst h;have h1:=Zqc hs;have h2:=Zbm _ _ hs;refine ⟨?_,fun y hy=>by have:=h2.2 y hy;omega⟩;have h3:=Zh5 (x::t);have h4:(join (x::t)).length<=400000096:=by
     unfold join;split
     ·exact Nat.zero_le _
     ·split
      ·exact Nat.zero_le _
      ·omega
    unfold Qc;simp only [c5_];split
    ·have:([45]:Str).length=1:=rfl
     omega
    ·have:([]:Str).length=0:=rfl
     omega
theorem Zmr(s:Str):0<=(Xd s).1/\(Xd s).1<=65535:=by
 unfold Xd;split
 ·split
  ·exact ⟨Int.natCast_nonneg _,by show ((Zem s:Nat):Int)<=65535;omega⟩
  ·exact ⟨d_,d_⟩
 ·exact ⟨d_,d_⟩
theorem Zjx:∀(l:List Str) (n m:Int),0<=n->n<=6311433600->Qn l n=some m->0<=m/\m<=6311433600
 |[],n,m,h0,h1,h=>by injection h with h;omega
 |x::t,n,m,h0,h1,h=>by
  have hx:=Zbu x;unfold Qn at h;split at h
  ·cases h
  ·split at h
   ·cases h
   ·exact Zjx t _ m o_ o_ h
theorem ZrD(s:Str):0<=(YF s).1/\(YF s).1<=1099511627776:=by
 unfold YF;split
 ·exact ⟨d_,d_⟩
 ·cases h:Qn (Zg s) 0 with
  |none=>show (0:Int)<=0/\(0:Int)<=1099511627776;exact ⟨d_,d_⟩
  |some n=>
   have:=Zjx _ 0 n d_ d_ h
   exact ⟨this.1,by show n<=_;omega⟩
theorem Zhd{α:Type}{l:List α}{v:Str}{x y:α}(h:y∈Xf l v x):y∈l\/(v≠[]/\y=x):=by
 unfold Xf at h;split at h
 ·cases h
 ·rename_i hv
  rcases List.mem_append.1 h with h|h
  ·exact .inl h
  ·exact .inr ⟨hv,n32_⟩
theorem ZuM{v:Str}(hv:v.length<=64000000){p:Str×Str}(h:p∈(Zay v).1):p.1.length+p.2.length<=100000000:=by
 unfold Zay at h;cases hs:split v with
 |error e=>rw [hs] at h;cases h
 |ok l=>
  rw [hs] at h;simp only at h;cases he:JG l with
  |none=>rw [he] at h;cases h
  |some ps=>
   rw [he] at h;obtain ⟨h1,w,hw,e⟩:=Zg0 he p h;have h2:=(Zbm _ _ hs).2 w hw;have h3:=ZpR w [61];have h4:p.1.length<=60:=by unfold Zfy at h1;simp at h1;omega
   have h5:p.2.length<=w.length:=by rw [e];exact h3.2
   omega
theorem Zr.field{name:Str}{kind:Int}{k:ZE}{v:Str}{c:UC}(hk:k∈Zc)(hv:v.length<=64000000)(hval:ZeK v k=0)(hc:Zr c)(hl:(Zl name k v c).len<=2000000):Zr (Zl name k v c):=by
 have hvs:∀x∈Zg v,x.length<=100000000:=fun x hx=>by
  have:=Zab v.length v [] s_ x hx
  omega
 by_cases h0:k.form=1\/k.form=5
 ·have e:Zl name k v c=.s v:=by unfold Zl;rw [if_pos h0]
  rw [e] at hl⊢;exact Zr.s o_
 by_cases h1:k.form=2
 ·have e:Zl name k v c=.b (Js v):=by unfold Zl;rw [if_neg h0,if_pos h1]
  rw [e] at hl⊢;exact Zr.b _
 by_cases h2:k.form=3
 ·have e:Zl name k v c=.n (Xd v).1:=by unfold Zl;rw [if_neg h0,if_neg h1,if_pos h2]
  rw [e] at hl⊢
  have:=Zmr v;exact Zr.n o_ o_
 by_cases h3:k.form=10
 ·have e:Zl name k v c=.n (Xk k.words v 0+1):=by unfold Zl;rw [if_neg h0,if_neg h1,if_neg h2,if_pos h3]
  rw [e] at hl⊢;have h4:=Zfw k.words v 0;have h5:k.words.length<=1000:=by
   have h0:(Zc.all fun k=>decide (k.words.length<=1000))=true:=n1_;exact of_decide_eq_true (c7_.1 h0 k hk)
  exact Zr.n o_ o_
 by_cases h4:k.form=7
 ·have e:Zl name k v c=.cs (Xf c.cmds v ((XU v).getD (false,[]))):=by unfold Zl;rw [if_neg h0,if_neg h1,if_neg h2,if_neg h3,if_pos h4]
  rw [e] at hl⊢;refine Zr.cs (fun x hx=>?_) hl;rcases Zhd hx with hx|⟨hv0,rfl⟩
  ·exact hc.cmds x hx
  ·cases he:XU v with
   |none=>show (Qc (false,[])).length<=450000000/\∀y∈([]:List Str),y.length<137438953472;exact ⟨d_,s_⟩
   |some d=>exact ZsD o_ he
 by_cases h5:k.form=8
 ·have e:Zl name k v c=.ps (Xa (if v=[] then [] else c.prs) (Zay v).1):=by unfold Zl;rw [if_neg h0,if_neg h1,if_neg h2,if_neg h3,if_neg h4,if_pos h5]
  rw [e] at hl⊢;refine Zr.ps (fun p hp=>?_) hl;rcases ZeB _ _ hp with hp|hp
  ·split at hp
   ·cases hp
   ·exact hc.prs p hp
  ·exact ZuM hv hp
 by_cases h6:k.form=9
 ·have e:Zl name k v c=.ss (Xf c.strs v v):=by unfold Zl;rw [if_neg h0,if_neg h1,if_neg h2,if_neg h3,if_neg h4,if_neg h5,if_pos h6]
  rw [e] at hl⊢;refine Zr.ss (fun p hp=>?_) hl;rcases Zhd hp with hp|⟨_,rfl⟩
  ·exact hc.strs p hp
  ·omega
 by_cases h7:k.form=11
 ·have e:Zl name k v c=.ns (Xw c.nums ((Zg v).map fun w=>(Xd w).1)):=by unfold Zl;rw [if_neg h0,if_neg h1,if_neg h2,if_neg h3,if_neg h4,if_neg h5,if_neg h6,if_pos h7]
  rw [e] at hl⊢;refine Zr.ns (fun n hn=>?_) hl;rcases Zb3 hn with hn|hn
  ·exact hc.nums n hn
  ·obtain ⟨w,_,rfl⟩:=List.mem_map.1 hn
   have:=Zmr w
   omega
 by_cases h8:k.form=4
 ·have hs:=ZrD v
  cases g:k.list with
  |true=>
   have e:Zl name k v c=.ns (Xf c.nums v (YF v).1):=by unfold Zl;rw [if_neg h0,if_neg h1,if_neg h2,if_neg h3,if_neg h4,if_neg h5,if_neg h6,if_neg h7,if_pos h8,if_pos g]
   rw [e] at hl⊢;refine Zr.ns (fun n hn=>?_) hl;rcases Zhd hn with hn|⟨_,rfl⟩
   ·exact hc.nums n hn
   ·omega
  |false=>
   have e:Zl name k v c=.n (YF v).1:=by unfold Zl;rw [if_neg h0,if_neg h1,if_neg h2,if_neg h3,if_neg h4,if_neg h5,if_neg h6,if_neg h7,if_pos h8,if_neg (by rw [g];decide)]
   rw [e];exact Zr.n o_ o_
 by_cases h9:ZL k.name=0
 ·have e:Zl name k v c=.ss (Xw c.strs (Zg v)):=by unfold Zl;rw [if_neg h0,if_neg h1,if_neg h2,if_neg h3,if_neg h4,if_neg h5,if_neg h6,if_neg h7,if_neg h8,if_pos h9]
  rw [e] at hl⊢;refine Zr.ss (fun p hp=>?_) hl;rcases Zb3 hp with hp|hp
  ·exact hc.strs p hp
  ·exact hvs p hp
 have e:Zl name k v c=.rs (ZW name (ZL k.name:Nat) (if v=[] then c.rels.filter (fun r=>r.1 !=(ZL k.name:Nat)) else c.rels) (Zg v)):=by unfold Zl;rw [if_neg h0,if_neg h1,if_neg h2,if_neg h3,if_neg h4,if_neg h5,if_neg h6,if_neg h7,if_neg h8,if_neg h9]
 rw [e] at hl⊢;refine Zr.rs (fun p hp=>?_) hl;rcases Zdh name _ _ _ hp with hp|hp
 ·split at hp
  ·exact hc.rels p (List.mem_filter.1 hp).1
  ·exact hc.rels p hp
 ·exact hvs p.2 hp
theorem Zqd:∀j:Fin 35,j.val=4\/QY.contains j.val=true\/(ZK j.val).tag<=2:=n1_
theorem Zjh{u:UV}(ht:ZH u)(hl:Xv u=false)(j:Nat):(u j).len<=64:=by
 unfold Xv at hl;rw [Bool.or_eq_false_iff,List.any_eq_false] at hl;have hz:(ZK j).tag<=2->(u j).len<=64:=fun h=>by
  rw [<-ht j] at h;cases hu:u j<;>rw [hu] at h<;>first|exact Nat.zero_le _|(exfalso;simp [UC.tag] at h)
 by_cases hj:j<35
 ·rcases Zqd ⟨j,hj⟩ with h|h|h
  ·have h:j=4:=h
   subst h
   have:=of_decide_eq_false hl.1
   omega
  ·have:=hl.2 j (List.contains_iff_mem.1 h)
   simp only [decide_eq_true_eq] at this;omega
  ·exact hz h
 ·refine hz ?_
  unfold ZK;(repeat' split);all_goals first|exact Nat.zero_le _|(exfalso;omega)
theorem Zrz{u:UV}(h:∀j,(u j).len<=64):(ZbR u).length<=2000000:=by
 unfold ZbR;refine Nat.le_trans (Zm5 _ (fun _=>65) Zc (fun k _=>by
  rw [List.length_map];have h1:=Zs7 u (Zw (u 0).str) k;have h2:=h (Zb k.name);split at h1<;>omega)) ?_
 have:=Zrd
 rw [List.map_const',List.sum_replicate_nat];omega
theorem Zr.lines{name:Str}{kind:Int}{r:UV}(hn:Zt name≠0):∀{L:List Ln} {u:UV},(∀x∈L,x.val.length<=1048576)->ZH u->(∀j,Zr (u j))->Z9 name kind u L=.ok r->∀j,Zr (r j)
 |[],u,_,_,hs,h=>by injection h with h;rw [<-h];exact hs
 |x::t,u,hx,ht,hs,h=>by
  obtain ⟨q,h1,h2⟩:=Jd h;have htq:=Zcg name kind [x] u q ht (by rw [Z9,h1];rfl);obtain ⟨k,v,hsp,hf,hk,e1,e2,rfl,ha,hl,hlong⟩:=ZeU h1;refine Zr.lines hn (fun y hy=>hx y (by simp [hy])) htq ?_ h2;have hv:v.length<=64000000:=by
   have hx0:=hx x s_;unfold Qq at hsp;rw [if_neg hn] at hsp;split at hsp
   ·cases hsp
   ·rename_i r hr
    injection hsp with hsp
    subst hsp;have h3:=Zfo name _ x.val r l_ hr;have h4:=(ZaC hn).2;have h5:=Nat.mul_le_mul hx0 (show name.length+1<=61 by omega);omega
  have hvl:=((Ziw (x:={ x with val:=v }) hf).1 hl).2;refine Zr.upd hs _ (Zr.field (kind:=kind) hk hv hvl (hs _) ?_)
  have:=Zjh htq hlong (Zb k.name)
  rw [UV.upd_at] at this;omega
theorem Znz{name:Str}{l:List Ln}(h:(Yn name l).2.1=0)(hx:∀x∈l,x.val.length<=1048576):Yt (Yn name l).1:=by
 have ht:=Zbn name l;obtain ⟨hn,_,hl,_,_⟩:=Zg3 h;have hlong:=ZcJ (Zhl name) hl;have h60:=(ZaC hn).2;exact Yt.of (Zr.lines hn hx (ZH.new name) (Zr.new o_) hl) (Zrz (Zjh ht hlong))
end Go.Proofs.YtmgmbeipbeknaaaGreatDoor
