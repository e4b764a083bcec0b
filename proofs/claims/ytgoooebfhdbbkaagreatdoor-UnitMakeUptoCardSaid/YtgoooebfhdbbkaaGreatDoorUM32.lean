import Derived.Test.YtgoooebfhdbbkaaGreatDoorUM22
import Derived.Test.YtgoooebfhdbbkaaGreatDoorUM26
import Derived.Test.YtgoooebfhdbbkaaGreatDoorUM27
import Derived.Test.YtgoooebfhdbbkaaGreatDoorUM30
import Derived.Test.YtgoooebfhdbbkaaGreatDoorUM31
namespace Go.Proofs.YtgoooebfhdbbkaaGreatDoor
set_option linter.unusedVariables false
set_option linter.unusedSimpArgs false
set_option maxHeartbeats 16000000
def Zdp:List Str:=[[115,105,109,112,108,101],[111,110,101,115,104,111,116],[110,111,116,105,102,121]]
def Zci:List Str:=[[110,111],[111,110,45,115,117,99,99,101,115,115],[111,110,45,102,97,105,108,117,114,101],[111,110,45,97,98,110,111,114,109,97,108],[97,108,119,97,121,115]]
def ZbM(key:Str):Nat:=
 if key∈([[83,111,99,107,101,116,115],[87,97,110,116,101,100,66,121],[82,101,113,117,105,114,101,100,66,121],[65,108,105,97,115],[65,108,115,111]]:List Str) then 1
 else if key∈([[69,120,101,99,83,116,97,114,116,80,114,101],[69,120,101,99,83,116,97,114,116],[69,120,101,99,83,116,97,114,116,80,111,115,116],[69,120,101,99,83,116,111,112],[69,120,101,99,82,101,108,111,97,100]]:List Str) then 2
 else if key∈([[79,110,66,111,111,116,83,101,99],[79,110,65,99,116,105,118,101,83,101,99],[79,110,85,110,105,116,73,110,97,99,116,105,118,101,83,101,99]]:List Str) then 3
 else if key∈([[83,117,99,99,101,115,115,69,120,105,116,83,116,97,116,117,115],[76,105,115,116,101,110,83,116,114,101,97,109]]:List Str) then 4
 else if key=[69,110,118,105,114,111,110,109,101,110,116] then 5
 else if key=[79,110,67,97,108,101,110,100,97,114] then 6 else 0
def Zfp(key:Str):Nat:=
 if key∈([[68,101,115,99,114,105,112,116,105,111,110],[70,105,108,101,68,101,115,99,114,105,112,116,111,114,78,97,109,101],[83,101,114,118,105,99,101],[85,110,105,116],[68,101,102,97,117,108,116,73,110,115,116,97,110,99,101]]:List Str) then 1
 else if key∈([[68,101,102,97,117,108,116,68,101,112,101,110,100,101,110,99,105,101,115],[82,101,109,97,105,110,65,102,116,101,114,69,120,105,116],[80,101,114,115,105,115,116,101,110,116]]:List Str) then 2
 else if key∈([[83,116,97,114,116,76,105,109,105,116,73,110,116,101,114,118,97,108,83,101,99],[82,101,115,116,97,114,116,83,101,99],[84,105,109,101,111,117,116,83,116,97,114,116,83,101,99],[84,105,109,101,111,117,116,83,116,111,112,83,101,99]]:List Str) then 3
 else if key∈([[83,116,97,114,116,76,105,109,105,116,66,117,114,115,116],[66,97,99,107,108,111,103]]:List Str) then 4
 else if key=[84,121,112,101] then 5
 else if key=[82,101,115,116,97,114,116] then 6 else 0
def Xl:List Str->Str->Nat->Int
 |[],_,_=>0
 |x::t,s,i=>if x=s then (i:Int)+1 else Xl t s (i+1)
def Zbf{α:Type}[DecidableEq α](l ws:List α):List α:=ws.foldl (fun l x=>if x∈l then l else l++[x]) l
def ZeD(key v:Str)(c:UC):UC:=
 if ZbM key=1 then .ss (Zbf (if v=[] then [] else c.strs) (Zc v))
 else if ZbM key=2 then (match Xw v with|some x=>.cs (c.cmds++[x])|none=>.cs [])
 else if ZbM key=3 then (if (YT v).2=true then .ns (c.nums++[(YT v).1]) else .ns [])
 else if ZbM key=4 then .ns (Zbf (if v=[] then [] else c.nums) ((Zc v).map Xc))
 else if ZbM key=5 then .ps (Y5 (if v=[] then [] else c.prs) (ZaW v).1)
 else if ZbM key=6 then (if v=[] then .ss [] else .ss (c.strs++[v]))
 else c
def singleR(key v:Str)(c:UC):UC:=
 if Zfp key=1 then .s v
 else if Zfp key=2 then .b (Zch v)
 else if Zfp key=3 then .n (YT v).1
 else if Zfp key=4 then .n (Xc v)
 else if Zfp key=5 then .n (Xl Zdp v 0)
 else if Zfp key=6 then .n (Xl Zci v 0)
 else c
def ZgJ(name:Str)(rel:Int)(l:List (Int×Str))(ws:List Str):List (Int×Str):=ZR name rel (if ws=[] then l.filter (fun r=>r.1 !=rel) else l) ws
theorem Zc0(s:Str):∀(l:List Str) (i:Nat),Xl l s i=QI l s i+1
 |[],i=>rfl
 |x::t,i=>by
  rw [Xl,QI];by_cases h:x=s
  ·rw [if_pos h,if_pos h]
  ·rw [if_neg h,if_neg h,Zc0 s t (i+1)]
theorem Zn2:(YT []).2=false:=n12_
theorem Znq:Xw []=none:=n12_
theorem Zj3{α:Type}[DecidableEq α](l ws:List α)(v:Str)(h0:v=[]->ws=[])(h1:v≠[]->ws≠[]):Zbf (if v=[] then [] else l) ws=JQ l ws:=by
 unfold Zbf JQ;by_cases h:v=[]
 ·rw [if_pos h,if_pos (h0 h),h0 h];rfl
 ·rw [if_neg h,if_neg (h1 h)]
theorem ZfN(s:Str)(h:J3 s=true):Xc s=(Ql s).1:=by unfold Xc;unfold J3 at h;rw [if_pos h]
theorem ZoC(l:List Str)(h:l.all J3=true):l.map Xc=l.map fun w=>(Ql w).1:=
 List.map_congr_left fun x hx=>ZfN x (List.all_eq_true.1 h x hx)
theorem Zbd{p:Str->Bool}{l:List Str}(h:Za8 p l=true):l≠[]/\l.all p=true:=by
 unfold Za8 at h;rw [Bool.and_eq_true] at h;exact ⟨by intro e;subst e;simp at h,h.2⟩
theorem Zft(k:Yn)(v:Str)(h:Zbb v k=0):(v=[]/\(k.list=true\/k.form=1))\/(v≠[]/\Xm k.form k.words v=true):=by
 unfold Zbb ZW at h;split at h
 ·exact absurd h d_
 ·split at h
  ·exact .inl ‹_›
  ·split at h
   ·exact absurd h d_
   ·rename_i h2
    refine .inr ⟨fun e=>h2 (.inl e),?_⟩;cases hr:Xm k.form k.words v with
    |true=>rfl
    |false=>exact absurd (.inr hr) h2
theorem ZrI:∀k∈Zx,Y6 k.name=0->k.list=true->(k.form=6/\ZbM k.name=1)\/(k.form=7/\ZbM k.name=2)\/(k.form=4/\ZbM k.name=3)\/(k.form=11/\ZbM k.name=4)\/(k.form=8/\ZbM k.name=5)\/(k.form=9/\ZbM k.name=6):=n12_
theorem ZrF:∀k∈Zx,Y6 k.name=0->k.list=false->((k.form=1\/k.form=5)/\Zfp k.name=1)\/(k.form=2/\Zfp k.name=2)\/(k.form=4/\Zfp k.name=3)\/(k.form=3/\Zfp k.name=4)\/(k.form=10/\k.words=Zdp/\Zfp k.name=5)\/(k.form=10/\k.words=Zci/\Zfp k.name=6):=n12_
theorem ZrJ:∀k∈Zx,Y6 k.name≠0->k.form=6/\k.list=true:=n12_
theorem ZoT(name:Str)(k:Yn)(v:Str)(c:UC)(hk:k∈Zx)(hr:Y6 k.name=0)(hl:k.list=true)(hv:Zbb v k=0):ZeD k.name v c=ZY name k v c:=by
 have hok:=Zft k v hv;rcases ZrI k hk hr hl with ⟨hf,hc⟩|⟨hf,hc⟩|⟨hf,hc⟩|⟨hf,hc⟩|⟨hf,hc⟩|⟨hf,hc⟩<;>unfold ZeD ZY<;>rw [hc,hf]<;>rw [hf] at hok<;>simp [Xm,hr,hl,-List.map_eq_nil_iff] at hok⊢
 ·rw [Zj3 _ _ v (fun e=>by subst e;rfl) (fun e=>?_)]
  rcases hok with h|h
  ·exact absurd h e
  ·exact (Zbd h.2).1
 ·rcases hok with h|h
  ·subst h;rw [Znq];rfl
  ·obtain ⟨x,hx⟩:=Option.isSome_iff_exists.1 h.2
   rw [hx];unfold QE;rw [if_neg h.1];rfl
 ·rcases hok with h|h
  ·subst h;rw [if_neg (by rw [Zn2];simp)];rfl
  ·rw [if_pos h.2];unfold QE;rw [if_neg h.1]
 ·rcases hok with h|h
  ·subst h;rfl
  ·rw [ZoC _ (Zbd h.2).2,Zj3 _ _ v (fun e=>absurd e h.1) (fun _=>by intro e;exact (Zbd h.2).1 (List.map_eq_nil_iff.1 e))]
 ·unfold QE
  by_cases e:v=[]
  ·rw [if_pos e,if_pos e]
  ·rw [if_neg e,if_neg e]
theorem Zl1(name:Str)(k:Yn)(v:Str)(c:UC)(hk:k∈Zx)(hr:Y6 k.name=0)(hl:k.list=false)(hv:Zbb v k=0):singleR k.name v c=ZY name k v c:=by
 have hok:=Zft k v hv;rcases ZrF k hk hr hl with ⟨hf|hf,hc⟩|⟨hf,hc⟩|⟨hf,hc⟩|⟨hf,hc⟩|⟨hf,hw,hc⟩|⟨hf,hw,hc⟩<;>unfold singleR ZY<;>rw [hc,hf]<;>rw [hf,hl] at hok<;>simp [Xm,hl] at hok⊢
 ·exact ZfN v hok.2
 ·rw [Zc0,hw]
 ·rw [Zc0,hw]
theorem ZoL(name:Str)(k:Yn)(v:Str)(c:UC)(hk:k∈Zx)(hr:Y6 k.name≠0)(hv:Zbb v k=0):UC.rs (ZgJ name (Y6 k.name:Nat) c.rels (Zc v))=ZY name k v c:=by
 have hok:=Zft k v hv;obtain ⟨hf,hl⟩:=ZrJ k hk hr;rw [hf] at hok;unfold ZY;rw [hf,if_neg d_,if_neg d_,if_neg d_,if_neg d_,if_neg d_,if_neg d_,if_neg d_,if_neg d_,if_neg d_,if_neg hr];unfold ZgJ
 have:(Zc v=[])↔(v=[]):=by
  constructor
  ·intro e
   rcases hok with h|h
   ·exact h.1
   ·have h2:Za8 Qb (Zc v)=true:=h.2
    exact absurd e (Zbd h2).1
  ·intro e;subst e;rfl
 by_cases e:v=[]
 ·rw [if_pos e,if_pos (this.2 e)]
 ·rw [if_neg e,if_neg (fun h=>e (this.1 h))]
def ZiM(name:Str)(k:Yn)(v:Str)(c:UC):UC:=
 if 0<Y6 k.name then .rs (ZgJ name (Y6 k.name:Nat) c.rels (Zc v)) else if k.list=true then ZeD k.name v c else singleR k.name v c
theorem ZhC(name:Str)(k:Yn)(v:Str)(c:UC)(hk:k∈Zx)(hv:Zbb v k=0):ZiM name k v c=ZY name k v c:=by
 unfold ZiM;by_cases h:Y6 k.name=0
 ·rw [if_neg o_]
  cases hl:k.list with
  |true=>rw [if_pos rfl];exact ZoT name k v c hk h hl hv
  |false=>rw [if_neg s_];exact Zl1 name k v c hk h hl hv
 ·rw [if_pos o_];exact ZoL name k v c hk h hv
def Qf:Str:=[83,101,114,118,105,99,101]
def JX:Str:=[76,105,115,116,101,110,83,116,114,101,97,109]
def ZaU(key v:Str):Bool:=(key !=Qf||Zw v==1)&&(key !=JX||!((Zc v).any fun w=>Xc w==0))
def Zfd(u:UV):List Nat->Nat->Nat
 |[],n=>n
 |i::t,n=>Zfd u t (max n (u i).len)
def Zgk(u:UV):Bool:=decide (16<Zfd u Xe 0)||decide (64<(u 4).len)
def Y4(name:Str)(k:Yn)(sec key v:Str)(c:UC):UC:=
 if 0<Y6 key/\sec=[85,110,105,116] then .rs (ZgJ name (Y6 key:Nat) c.rels (Zc v)) else if k.list=true then ZeD key v c else singleR key v c
def Zo6(name:Str)(kind:Int)(u:UV)(x:Ln):Except Int UV:=
 match XL x.val name with
 |.error e=>.error e
 |.ok v=>
  if lnS kind { x with val:=v }≠0 then .error (lnS kind { x with val:=v })
  else if ZaU x.key v=false then .error 12
  else match findKey x.sec x.key with
   |none=>.error 11
   |some k=>
    if Zgk (u.upd (Zt x.key) (Y4 name k x.sec x.key v (u (Zt x.key))))=true then .error 2
    else .ok (u.upd (Zt x.key) (Y4 name k x.sec x.key v (u (Zt x.key))))
theorem Zju(u:UV):∀(l:List Nat) (n:Nat),decide (16<Zfd u l n)=(decide (16<n)||l.any fun i=>decide (16<(u i).len))
 |[],n=>by rw [List.any_nil,Bool.or_false];rfl
 |i::t,n=>by
  rw [Zfd,Zju u t,List.any_cons,<-Bool.or_assoc];congr 1;rw [<-Bool.decide_or];apply decide_eq_decide.2;omega
theorem Zoc(u:UV):Zgk u=Za6 u:=by
 unfold Zgk Za6;rw [Zju u Xe 0,Bool.or_comm];simp
theorem ZfO(sec name:Str)(k:Yn)(h:findKey sec name=some k):k.sec=sec/\k.name=name:=by
 unfold findKey at h
 have:=List.find?_some h
 simp only [Bool.and_eq_true,beq_iff_eq] at this;exact this
theorem Zrs:∀k∈Zx,(k.name=Qf->k.form=5)/\(k.name=JX->k.form=11)/\(0<Y6 k.name->k.sec=[85,110,105,116]):=n12_
theorem Zio(kind:Int)(x:Ln)(h:lnS kind x=0):∃k,findKey x.sec x.key=some k/\k∈Zx/\k.sec=x.sec/\k.name=x.key/\Zbb x.val k=0:=by
 unfold lnS ZjH at h;split at h
 ·exact absurd h d_
 ·split at h
  ·exact absurd h d_
  ·rename_i k hk
   refine ⟨k,hk,Zb0 _ _ k hk,(ZfO _ _ k hk).1,(ZfO _ _ k hk).2,?_⟩;split at h
   ·assumption
   ·exact absurd h d_
theorem Zpr(l:List Str)(h:l.all J3=true):(l.any fun w=>Xc w==0)=(l.any fun w=>(Ql w).1==0):=by
 induction l with
 |nil=>rfl
 |cons x t ih=>
  rw [List.all_cons,Bool.and_eq_true] at h;rw [List.any_cons,List.any_cons,ZfN x h.1,ih h.2]
theorem ZnN(k:Yn)(v:Str)(hk:k∈Zx)(hv:Zbb v k=0):ZaU k.name v=JR k v:=by
 have hok:=Zft k v hv;obtain ⟨h5,h11,_⟩:=Zrs k hk;unfold ZaU JR;by_cases e5:k.name=Qf
 ·rw [if_pos (h5 e5),e5]
  have:(Qf !=JX)=true:=d_
  rw [this];simp [Qf]
 ·have n5:(k.name !=Qf)=true:=by rw [bne_iff_ne];exact e5
  have n5':(k.name !=[83,101,114,118,105,99,101])=true:=n5;rw [n5,n5'];by_cases e11:k.name=JX
  ·have hf:=h11 e11
   rw [if_neg (by rw [hf];decide),if_pos hf,e11];rw [hf] at hok
   have:(Zc v).all J3=true:=by
    rcases hok with h|h
    ·rw [h.1];rfl
    ·exact (Zbd (p:=J3) h.2).2
   rw [Zpr _ this];simp [JX]
  ·have n11:(k.name !=JX)=true:=by rw [bne_iff_ne];exact e11
   have n11':(k.name !=[76,105,115,116,101,110,83,116,114,101,97,109])=true:=n11;rw [n11,n11'];simp
theorem ZoA(name:Str)(kind:Int)(u:UV)(x:Ln):Zo6 name kind u x=XO name kind u x:=by
 unfold Zo6 XO;cases XL x.val name with
 |error e=>rfl
 |ok v=>
  simp only;by_cases h:lnS kind { x with val:=v }=0
  ·have h':¬(lnS kind { x with val:=v }≠0):=fun g=>g h
   rw [if_neg h',if_neg h'];obtain ⟨k,hf,hk,hs,hn,hv⟩:=Zio kind _ h;simp only at hf hs hn hv;rw [hf,<-hn,ZnN k v hk hv];simp only;have hF:Y4 name k x.sec k.name v (u (Zt k.name))=ZY name k v (u (Zt k.name)):=by
    rw [<-ZhC name k v _ hk hv];unfold Y4 ZiM;by_cases hr:0<Y6 k.name
    ·rw [if_pos ⟨hr,by rw [<-hs];exact (Zrs k hk).2.2 hr⟩,if_pos hr]
    ·rw [if_neg (fun h=>hr h.1),if_neg hr]
   rw [hF,Zoc]
  ·rw [if_pos h,if_pos h]
open Go.Proofs.Tryz
open Go Go.RowKit
set_option maxRecDepth 100000
def YW(nm:Str)(kind:Int)(u:UV)(x:Ln)(w:World)(U:Nat)(F:Nat->Nat->Prop)(e:Ending)(w':World):Prop:=
 Fr (fun k=>k=U\/∃j,F j k) w w'/\match XO nm kind u x with
 |.error c=>e=.returned (.int .i64 c)
 |.ok r=>e=.returned (.int .i64 0)/\∃cs' F',YL w' U cs' F' r
theorem Qa{w:World}{b:Nat}{x0 x1 x2 x3:Value}{T:TypeId}(h:w.heap[b]?=some (.cells #[x0,x1,x2,x3] T (0,0))) :
  w.cell? ⟨b,0,none⟩=some x0/\w.cell? ⟨b,1,none⟩=some x1/\w.cell? ⟨b,2,none⟩=some x2/\w.cell? ⟨b,3,none⟩=some x3:=
 ⟨n33_,n33_,n33_,n33_⟩
theorem Zji(u:UV):Za6 u=(decide (64<((u 4).len:Int))||decide (16<Lib.maxOf (Q7 u))):=by
 unfold Za6;rw [Zn1 (Q7 u) 16 (by simp [Q7,Xe])];congr 1
 ·apply decide_eq_decide.2;omega
 ·unfold Q7
  rw [List.any_map];congr 1;funext i;show decide (16<(u i).len)=decide ((16:Int)<((u i).len:Int));apply decide_eq_decide.2;omega
theorem YW.err{nm:Str}{kind:Int}{u:UV}{x:Ln}{w w':World}{U:Nat}{F:Nat->Nat->Prop}{c:Int}(hf:Fr (fun k=>k=U\/∃j,F j k) w w')(h:XO nm kind u x=.error c):YW nm kind u x w U F (.returned (.int .i64 c)) w':=by
 unfold YW;rw [h];exact ⟨hf,rfl⟩
theorem YW.ok{nm:Str}{kind:Int}{u r:UV}{x:Ln}{w w':World}{U:Nat}{F F':Nat->Nat->Prop}{cs':Array Value}(hf:Fr (fun k=>k=U\/∃j,F j k) w w')(h:XO nm kind u x=.ok r)(hU:YL w' U cs' F' r):YW nm kind u x w U F (.returned (.int .i64 0)) w':=by
 unfold YW;rw [h];exact ⟨hf,rfl,cs',F',hU⟩
theorem ZmF{nm:Str}{kind:Int}{u:UV}{x:Ln}{c:Int}(h:XL x.val nm=.error c):XO nm kind u x=.error c:=by unfold XO;rw [h]
theorem ZmI{nm:Str}{kind:Int}{u:UV}{x:Ln}{v:Str}(h:XL x.val nm=.ok v)(h2:lnS kind { x with val:=v }≠0):XO nm kind u x=.error (lnS kind { x with val:=v }):=by unfold XO;rw [h];simp only;rw [if_pos h2]
theorem Zqu{nm:Str}{kind:Int}{u:UV}{x:Ln}{v:Str}{k:Yn}(h:XL x.val nm=.ok v)(h2:lnS kind { x with val:=v }=0)(h3:findKey x.sec x.key=some k):XO nm kind u x=if JR k v=false then .error 12 else if Za6 (u.upd (Zt k.name) (ZY nm k v (u (Zt k.name))))=true then .error 2 else .ok (u.upd (Zt k.name) (ZY nm k v (u (Zt k.name)))):=by
 unfold XO;rw [h];simp only;rw [if_neg (fun h=>h h2),h3]
theorem Zj4{s u:Str}{c:Int}(h:XL s u=.error c):c≠0:=by
 unfold XL at h;split at h
 ·injection h with h;omega
 ·split at h
  ·injection h with h;omega
  ·cases h
theorem ZjK{s u v:Str}(h:XL s u=.ok v)(hs:s.length<=1048576):v.length<=100000000:=by
 unfold XL at h;split at h
 ·cases h
 ·rename_i hk
  have h60:=(QT hk).2;split at h
  ·cases h
  ·rename_i r hr
   injection h with h
   subst h;have h1:=Zf8 u _ s r l_ hr;have h2:=Nat.mul_le_mul hs (show u.length+1<=61 by omega);omega
theorem ZnC(U:Nat)(cs:Array Value)(F:Nat->Nat->Prop)(u:UV)(w:World)(hU:YL w U cs F u)(hT:Z9 u)(hlen:∀j,(u j).len<=100000)(hM:ZA w)(nm:Str)(kind:Int)(h0:u 0=.s nm)(h1:u 1=.n kind)(hnm:nm.length<4294967281)(x:Ln)(hx:x.val.length<=200000000)(hxv:∀v,XL x.val nm=.ok v->v.length<=100000000) :
  Calls prog 13 #[.pointer (some ⟨U,0,none⟩),.agg (YV x).toArray] w fun e w'=>YW nm kind u x w U F e w':=by
 obtain ⟨sec,key,val,at_⟩:=x;unfold YV;simp only at hx hxv⊢;have hUl:=Zg hU.box;have hne:U≠w.heap.size:=o_;have hg:∀j,j<35->cs[j]?=some (cs[j]!):=fun j hj=>by
  have:j<cs.size:=n115_
  rw [getElem!_pos cs j this];exact Array.getElem?_eq_getElem this
 have e0:cs[0]?=some (.string ⟨nm.toArray⟩):=by
  have:=hU.fld 0 _ (hg 0 d_);rw [h0] at this
  rw [hg 0 d_];exact congrArg some this
 have e1:cs[1]?=some (.int .i64 kind):=by
  have:=hU.fld 1 _ (hg 1 d_);rw [h1] at this
  rw [hg 1 d_];exact congrArg some this
 have HU:=h_ hU;have E0:=h_ e0;have E1:=h_ e1;have HM:=h_ hM;have hB:=(Below.refl w.heap.size w).alloc l_ (.cells #[.string ⟨sec.toArray⟩,.string ⟨key.toArray⟩,.string ⟨val.toArray⟩,.int .i64 at_] 41);have hbx:=heap_alloc_new w (.cells #[.string ⟨sec.toArray⟩,.string ⟨key.toArray⟩,.string ⟨val.toArray⟩,.int .i64 at_] 41);have HB:=h_ hB;have HBX:=h_ hbx;obtain ⟨r,hr⟩:∃r,XL val nm=r:=⟨_,rfl⟩;have HSP:=h_ (fun W (h:Below w.heap.size w W)=>Zph ⟨val.toArray⟩ nm W (by show val.toArray.size<=_;simpa using hx) hnm (hM.below h) r hr);have HS0:=h_ (And.intro (Za hU.box hB) hbx);have HFRB:=h_ (fun W (h:Below w.heap.size w W)=>(show Fr (fun k=>k=U\/∃j,F j k) w W from Fr.of_below h _));have HRR:=h_ hr;clear hU hg e0 e1 hM hB hbx hr;cases r with
 |error c=>
  have hc:((c:Int)!=0)=true:=by rw [bne_iff_ne];exact Zj4 HRR.out
  unfold ZjV at HSP;simp only at HSP;go_enter func13,ntmps13;go_wp2_with fail;refine Zi (S:=fun V=>V.heap[U]?=some (.cells cs 30 (0,0))/\V.heap[w.heap.size]?=some (.cells #[.string ⟨sec.toArray⟩,.string ⟨key.toArray⟩,.string ⟨val.toArray⟩,.int .i64 at_] 41 (0,0))) 11 k_ k_ (show _/\_ from HS0.out) (fun hHeld=>?_);refine u_ ?_;(iterate 6 refine dN_ 0 (gT_ rfl) (fun W hW=>by have q0:=((rd hW.1).1 0).trans E0.out;have q1:=((rd hW.1).1 1).trans E1.out;obtain ⟨x0,x1,x2,x3⟩:=Qa hW.2;clear hW;go_simp;rfl) (u_ ?_));refine Zq (i:=6) (gT_ rfl) k_ k_ (fun K hK=>?_);clear hHeld;rw [if_pos n19_];go_simp;have hbd:Below w.heap.size w (w.alloc (.cells #[.string ⟨sec.toArray⟩,.string ⟨key.toArray⟩,.string ⟨val.toArray⟩,.int .i64 at_] 41)).drew:=HB.out.trans (Zb ⟨1,rfl⟩);refine (HSP.out _ hbd).mono ?_;rintro e w3 ⟨rfl,hb3⟩;have HB3:=h_ (hbd.trans (hb3.mono hbd.size));have HS3:=h_ (And.intro (Za HS0.out.1 ((Zb (B:=(w.alloc (.cells #[.string ⟨sec.toArray⟩,.string ⟨key.toArray⟩,.string ⟨val.toArray⟩,.int .i64 at_] 41)).heap.size) ⟨1,rfl⟩:Below _ (w.alloc (.cells #[.string ⟨sec.toArray⟩,.string ⟨key.toArray⟩,.string ⟨val.toArray⟩,.int .i64 at_] 41)) (w.alloc (.cells #[.string ⟨sec.toArray⟩,.string ⟨key.toArray⟩,.string ⟨val.toArray⟩,.int .i64 at_] 41)).drew).trans hb3)) (Za HS0.out.2 ((Zb (B:=(w.alloc (.cells #[.string ⟨sec.toArray⟩,.string ⟨key.toArray⟩,.string ⟨val.toArray⟩,.int .i64 at_] 41)).heap.size) ⟨1,rfl⟩:Below _ (w.alloc (.cells #[.string ⟨sec.toArray⟩,.string ⟨key.toArray⟩,.string ⟨val.toArray⟩,.int .i64 at_] 41)) (w.alloc (.cells #[.string ⟨sec.toArray⟩,.string ⟨key.toArray⟩,.string ⟨val.toArray⟩,.int .i64 at_] 41)).drew).trans hb3)));clear hb3 hbd;refine hK.out _ _ (show _/\_ from HS3.out) (fun hHeld=>?_);clear hK K;refine u_ ?_;(iterate 4 refine dN_ 0 (gT_ rfl) (fun W hW=>by have q0:=((rd hW.1).1 0).trans E0.out;have q1:=((rd hW.1).1 1).trans E1.out;obtain ⟨x0,x1,x2,x3⟩:=Qa hW.2;clear hW;go_simp;rfl) (u_ ?_));refine Zr k_ ?_;clear hHeld;go_wp2_with fail;go_ret;exact YW.err (HFRB.out _ HB3.out) (ZmF HRR.out)
 |ok v=>
  have hvl:v.length<=100000000:=hxv v HRR.out;unfold ZjV at HSP;simp only at HSP⊢;obtain ⟨c,hc⟩:=e_ (lnS kind ⟨sec,key,v,at_⟩);have HLN:=h_ (fun W (h:Below w.heap.size w W)=>Zpx kind ⟨sec,key,v,at_⟩ W (HM.out.below h) (by show v.length<=_;omega));rw [<-hc] at HLN;change Hid (∀W,Below w.heap.size w W->Calls prog 28 #[.int .i64 kind,.agg #[.string ⟨sec.toArray⟩,.string ⟨key.toArray⟩,.string ⟨v.toArray⟩,.int .i64 at_]] W fun e w'=>e=.returned (.int .i64 c)/\Below W.heap.size W w') at HLN;have HCC:=h_ hc;clear hc;go_enter func13,ntmps13;go_wp2_with fail;refine Zi (S:=fun V=>V.heap[U]?=some (.cells cs 30 (0,0))/\V.heap[w.heap.size]?=some (.cells #[.string ⟨sec.toArray⟩,.string ⟨key.toArray⟩,.string ⟨val.toArray⟩,.int .i64 at_] 41 (0,0))) 11 k_ k_ (show _/\_ from HS0.out) (fun hHeld=>?_);refine u_ ?_;(iterate 6 refine dN_ 0 (gT_ rfl) (fun W hW=>by have q0:=((rd hW.1).1 0).trans E0.out;have q1:=((rd hW.1).1 1).trans E1.out;obtain ⟨x0,x1,x2,x3⟩:=Qa hW.2;clear hW;go_simp;rfl) (u_ ?_));refine Zq (i:=6) (gT_ rfl) k_ k_ (fun K hK=>?_);clear hHeld;rw [if_pos n19_];go_simp;have hbd:Below w.heap.size w (w.alloc (.cells #[.string ⟨sec.toArray⟩,.string ⟨key.toArray⟩,.string ⟨val.toArray⟩,.int .i64 at_] 41)).drew:=HB.out.trans (Zb ⟨1,rfl⟩);refine (HSP.out _ hbd).mono ?_;rintro e w3 ⟨rfl,hb3⟩;have HB3:=h_ (hbd.trans (hb3.mono hbd.size));have HS3:=h_ (And.intro (Za HS0.out.1 ((Zb (B:=(w.alloc (.cells #[.string ⟨sec.toArray⟩,.string ⟨key.toArray⟩,.string ⟨val.toArray⟩,.int .i64 at_] 41)).heap.size) ⟨1,rfl⟩:Below _ (w.alloc (.cells #[.string ⟨sec.toArray⟩,.string ⟨key.toArray⟩,.string ⟨val.toArray⟩,.int .i64 at_] 41)) (w.alloc (.cells #[.string ⟨sec.toArray⟩,.string ⟨key.toArray⟩,.string ⟨val.toArray⟩,.int .i64 at_] 41)).drew).trans hb3)) (Za HS0.out.2 ((Zb (B:=(w.alloc (.cells #[.string ⟨sec.toArray⟩,.string ⟨key.toArray⟩,.string ⟨val.toArray⟩,.int .i64 at_] 41)).heap.size) ⟨1,rfl⟩:Below _ (w.alloc (.cells #[.string ⟨sec.toArray⟩,.string ⟨key.toArray⟩,.string ⟨val.toArray⟩,.int .i64 at_] 41)) (w.alloc (.cells #[.string ⟨sec.toArray⟩,.string ⟨key.toArray⟩,.string ⟨val.toArray⟩,.int .i64 at_] 41)).drew).trans hb3)));clear hb3 hbd;refine hK.out _ _ (show _/\_ from HS3.out) (fun hHeld=>?_);clear hK K;refine u_ ?_;(iterate 4 refine dN_ 0 (gT_ rfl) (fun W hW=>by have q0:=((rd hW.1).1 0).trans E0.out;have q1:=((rd hW.1).1 1).trans E1.out;obtain ⟨x0,x1,x2,x3⟩:=Qa hW.2;clear hW;go_simp;rfl) (u_ ?_));refine Zr k_ ?_;clear hHeld;obtain ⟨y0,y1,y2,y3⟩:=Qa HS3.out.2;obtain ⟨_,f3,s3,_⟩:=rd HS3.out.2;have f32:=f3 2;clear f3;go_wp2_with fail;have h4LB:(w3.setCell ⟨w.heap.size,2,none⟩ (.string ⟨v.toArray⟩)).heap[w.heap.size]?=some (.cells #[.string ⟨sec.toArray⟩,.string ⟨key.toArray⟩,.string ⟨v.toArray⟩,.int .i64 at_] 41 (0,0)):=heap_setCell HS3.out.2 2 (.string ⟨v.toArray⟩);have h4U:=Zk HS3.out.1 (a:=⟨w.heap.size,2,none⟩) hne (.string ⟨v.toArray⟩);have HB4:=h_ (show Below w.heap.size w (w3.setCell ⟨w.heap.size,2,none⟩ (.string ⟨v.toArray⟩)) from HB3.out.setCell l_ _);have HS4:=h_ (And.intro h4U h4LB);clear h4LB h4U y0 y1 y2 y3 s3 f32;generalize w3.setCell ⟨w.heap.size,2,none⟩ (.string ⟨v.toArray⟩)=w4 at *;refine Zi (S:=fun V=>V.heap[U]?=some (.cells cs 30 (0,0))/\V.heap[w.heap.size]?=some (.cells #[.string ⟨sec.toArray⟩,.string ⟨key.toArray⟩,.string ⟨v.toArray⟩,.int .i64 at_] 41 (0,0))) 5 k_ k_ (show _/\_ from HS4.out) (fun hHeld=>?_);refine u_ ?_;(iterate 5 refine dN_ 0 (gT_ rfl) (fun W hW=>by have q0:=((rd hW.1).1 0).trans E0.out;have q1:=((rd hW.1).1 1).trans E1.out;obtain ⟨x0,x1,x2,x3⟩:=Qa hW.2;clear hW;go_simp;rfl) (u_ ?_));refine Zr k_ ?_;clear hHeld;have HB4d:=h_ (HB4.out.trans (show Below w.heap.size w4 w4.drew from Zb ⟨1,rfl⟩));go_wp2_with fail;refine (HLN.out _ HB4d.out).mono ?_;rintro e w5 ⟨rfl,hb5⟩;have HB5:=h_ (HB4d.out.trans (hb5.mono HB4d.out.size));have HL5:=h_ (Za (show w4.drew.heap[w.heap.size]?=_ from HS4.out.2) hb5);clear hb5;by_cases hc0:c=0
  ·subst hc0
   obtain ⟨k,hfk,hka,hks,hkn,hkv0⟩:=Zio kind ⟨sec,key,v,at_⟩ HCC.out.symm;simp only at hfk hks hkn;have HFD:=h_ (Zi5 sec key w5);unfold ZdW at HFD;rw [hfk] at HFD;simp only [Option.isSome_some,Option.getD_some] at HFD;have HLU:=h_ (fun (uu:UV)=>@Zqu nm kind uu ⟨sec,key,val,at_⟩ v k HRR.out HCC.out.symm hfk);have HKA:=h_ hka;obtain ⟨z0,z1,z2,z3⟩:=Qa HL5.out;clear hfk hka hks hkn hkv0;go_wp2_with fail;refine HFD.out.mono ?_;rintro e w6 ⟨⟨ksec,kname,kform,klist,kkinds,kwa,kwn,kwc⟩,rfl,hkv,hb6⟩;unfold Zv;simp only;have hB7:Below w6.heap.size w6 (w6.alloc (.cells #[.string ⟨ksec.toArray⟩,.string ⟨kname.toArray⟩,.int .i64 kform,.bool klist,.int .i64 kkinds,.slice kwa kwn kwc] 66)):=b_.alloc l_ _;have hb67:=Below.more hb6 hB7;have HB7:=h_ (HB5.out.trans (hb67.mono HB5.out.size));have hU7:=HU.out.fr (M:=fun k=>w.heap.size<=k) (show Fr (fun k=>w.heap.size<=k) w (w6.alloc (.cells #[.string ⟨ksec.toArray⟩,.string ⟨kname.toArray⟩,.int .i64 kform,.bool klist,.int .i64 kkinds,.slice kwa kwn kwc] 66)) from Fr.of_below HB7.out _) o_ (fun j k hk h=>by have:=(HU.out.lt j k hk).2;omega);have HPUT:=h_ (Zp7 U cs F u _ hU7 hT hlen (HM.out.below HB7.out) nm h0 k HKA.out ⟨ksec,kname,kform,klist,kkinds,kwa,kwn,kwc⟩ (hkv.below hB7) v hvl);unfold Zv at HPUT;simp only at HPUT;have HU7:=h_ hU7;clear hkv hb6 hB7 hb67 hU7 z0 z1 z2 z3;go_wp2_with fail;refine HPUT.out.mono ?_;rintro e w8 ⟨rfl,hp⟩;obtain ⟨cs',F',hU8,-,-,-⟩:=HU7.out.put (Zew k HKA.out).1 hp;have HFR8:=h_ (show Fr (fun k=>k=U\/∃j,F j k) w w8 from (Fr.of_below HB7.out _).trans (hp.frame.mono (fun i _ h=>h.imp id (fun q=>⟨_,q⟩))));have HLU8:=h_ (HLU.out u);have hT8:Z9 (u.upd (Zt k.name) (ZY nm k v (u (Zt k.name)))):=hT.upd _ _ (Zar nm k HKA.out v _);obtain ⟨r',hr'⟩:∃r',r'=u.upd (Zt k.name) (ZY nm k v (u (Zt k.name))):=⟨_,rfl⟩;rw [<-hr'] at hU8 hT8 HLU8;clear hp HPUT HU7 HFD HLU hr';cases hz:JR k v with
   |false=>
    have HLE:=h_ (show XO nm kind u ⟨sec,key,val,at_⟩=.error 12 by rw [HLU8.out,if_pos hz]);clear hz HLU8 hU8 hT8;go_wp2_with fail;go_ret;exact YW.err HFR8.out HLE.out
   |true=>
    have HLE:=h_ (show XO nm kind u ⟨sec,key,val,at_⟩=if Za6 r'=true then .error 2 else .ok r' by rw [HLU8.out,if_neg (by rw [hz];decide)]);have hlg:=Zji r';have h4c:cs'[4]?=some (cs'[4]'(by rw [hU8.size];decide)):=Array.getElem?_eq_getElem (by rw [hU8.size];decide);obtain ⟨o4,cc4,e4⟩:=(hU8.fld 4 _ h4c).len (by rw [hT8 4];decide);rw [e4] at h4c;have d4:=((rd hU8.box).1 4).trans h4c;have HU8:=h_ hU8;have HLN8:=h_ (hU8.lens hT8);have HSZ:=h_ (show (prog.info? 30).map (·.size)=some cs'.size by rw [hU8.size];rfl);have HLD:=h_ (show ∀j v,cs'[j]?=some v->w8.cell? ⟨U,0+j,none⟩=some v from fun j v hv=>by rw [Nat.zero_add,(rd hU8.box).1];exact hv);have HLIST:=h_ (Zle cs' r' w8 HLN8.out);clear hz HLU8 hU8 hT8 h4c e4;generalize (r' 4).len=n4 at *;by_cases h64:64<n4
    ·have HLL:=h_ (show Za6 r'=true by rw [hlg];simp;left;omega)
     have hq:decide ((64:Int)<(n4:Int))=true:=n2_;have hq2:(64:Int)<(n4:Int):=o_;clear hlg;go_wp2_with fail;go_ret;exact YW.err HFR8.out (by rw [HLE.out,if_pos HLL.out])
    ·have hq2:¬(64:Int)<(n4:Int):=o_
     have hlg2:Za6 r'=decide (16<Lib.maxOf (Q7 r')):=by rw [hlg];simp [hq2]
     have HLG:=h_ hlg2;clear hlg hlg2;go_wp2_with (refine Ze0 (by first|rfl|(simp [Region.wanted,yielded];omega)) 30 _ U 0 cs' _ rfl rfl HLD.out rfl rfl HSZ.out ?_);refine HLIST.out.mono ?_;rintro e w9 ⟨A,rfl,hA,hb9⟩;have HMX:=h_ (Tryz.slices_Max_int A 0 17 17 (Q7 r') w9 d_ (by simp [Q7,Xe]) d_ hA);rw [show (Q7 r').take 17=Q7 r' from List.take_of_length_le (by simp [Q7,Xe])] at HMX;have HFR9:=h_ (HFR8.out.trans (Fr.of_below hb9 _));have HU9:=h_ (HU8.out.below hb9);generalize Lib.maxOf (Q7 r')=mx at *;clear hA hb9 HLIST;go_wp2_with fail;refine HMX.out.mono ?_;rintro e w10 ⟨rfl,rfl⟩;by_cases h16:(16:Int)<mx
     ·go_wp2_with fail
      go_ret;exact YW.err HFR9.out (by rw [HLE.out,if_pos (by rw [HLG.out];simpa using h16)])
     ·go_wp2_with fail
      go_ret;exact YW.ok HFR9.out (by rw [HLE.out,if_neg (by rw [HLG.out];simpa using h16)]) HU9.out
  ·have hc1:((c:Int)!=0)=true:=by rw [bne_iff_ne];exact hc0
   go_wp2_with fail;go_ret;exact YW.err (HFRB.out _ HB5.out) (by have h:=ZmI (u:=u) (kind:=kind) (x:=⟨sec,key,val,at_⟩) HRR.out (show lnS kind ⟨sec,key,v,at_⟩≠0 by rw [<-HCC.out];exact hc0);rw [HCC.out];exact h)
theorem m95_{p:Prop}(h:p:=by go_enter func14,ntmps14;go_wp2_with fail;go_ret;exact ⟨n10_,HB.out⟩):p:=h
theorem m96_{p:Prop}(h:p:=by have HR:=h_ (show c=0 by rw [<-HC.out,if_neg hnot,if_neg o_]);clear hnot;exact m95_):p:=h
theorem ZlD(cs:Array Value)(u:UV)(w:World)(hL:Zl7 cs u)(kind t:Int)(h1:cs[1]?=some (.int .i64 kind))(h7:cs[7]?=some (.int .i64 t))(ht:(u 7).num=t)(hlen:∀j,(u j).len<=100000)(c:Int)(hc:QH kind u=c) :
  Calls prog 14 #[.agg cs] w fun e w'=>e=.returned (.int .i64 c)/\Below w.heap.size w w':=by
 have hB:=(Below.refl w.heap.size w).alloc l_ (.cells cs 30);have hb:=(rd (heap_alloc_new w (.cells cs 30))).1;have HB:=h_ hB;have k1:=(hb 1).trans h1;have k7:=(hb 7).trans h7;obtain ⟨o9,p9,q9⟩:=hL 9 d_;have k9:=(hb 9).trans q9;obtain ⟨o21,p21,q21⟩:=hL 21 d_;have k21:=(hb 21).trans q21;obtain ⟨o25,p25,q25⟩:=hL 25 d_;have k25:=(hb 25).trans q25;obtain ⟨o26,p26,q26⟩:=hL 26 d_;have k26:=(hb 26).trans q26;obtain ⟨o27,p27,q27⟩:=hL 27 d_;have k27:=(hb 27).trans q27;obtain ⟨o28,p28,q28⟩:=hL 28 d_;have k28:=(hb 28).trans q28;have l9:=hlen 9;have l25:=hlen 25;have l26:=hlen 26;have l27:=hlen 27;have l28:=hlen 28;unfold QH at hc;rw [ht] at hc;generalize (u 9).len=n9 at *;generalize (u 21).len=n21 at *;generalize (u 25).len=n25 at *;generalize (u 26).len=n26 at *;generalize (u 27).len=n27 at *;generalize (u 28).len=n28 at *;have HC:=h_ hc;clear hL hB hb h1 h7 ht hlen q9 q21 q25 q26 q27 q28 hc;by_cases hk1:kind=1
 ·subst hk1
  by_cases hn:n9=0
  ·subst hn
   have HR:=h_ (show c=6 by rw [<-HC.out,if_pos (.inl ⟨rfl,rfl⟩)]);exact m95_
  ·have hn1:((n9:Int)==0)=false:=n3_
   have hnot:¬(((1:Int)=1/\n9=0)\/((1:Int)=2/\n21=0)\/((1:Int)=3/\n25+n26+n27+n28=0)):=o_;by_cases ht2:t=2
   ·subst ht2
    exact m96_
   ·have ht3:(t !=2)=true:=by rw [bne_iff_ne];exact ht2
    by_cases hn2:1<n9
    ·have hn3:(1:Int)<(n9:Int):=o_
     have HR:=h_ (show c=7 by rw [<-HC.out,if_neg hnot,if_pos ⟨rfl,ht2,hn2⟩]);clear hnot;exact m95_
    ·have hn3:¬(1:Int)<(n9:Int):=o_
     exact m96_
 by_cases hk2:kind=2
 ·subst hk2
  by_cases hn:n21=0
  ·subst hn
   have HR:=h_ (show c=6 by rw [<-HC.out,if_pos (.inr (.inl ⟨rfl,rfl⟩))]);exact m95_
  ·have hn1:((n21:Int)==0)=false:=n3_
   have HR:=h_ (show c=0 by rw [<-HC.out,if_neg o_,if_neg o_]);exact m95_
 by_cases hk3:kind=3
 ·subst hk3
  by_cases hn:n25+n26+n27+n28=0
  ·obtain ⟨rfl,rfl,rfl,rfl⟩:n25=0/\n26=0/\n27=0/\n28=0:=o_
   have HR:=h_ (show c=6 by rw [<-HC.out,if_pos (.inr (.inr ⟨rfl,rfl⟩))]);exact m95_
  ·have hn1:((n25:Int)+(n26:Int)+(n27:Int)+(n28:Int)==0)=false:=n3_
   have HR:=h_ (show c=0 by rw [<-HC.out,if_neg o_,if_neg o_]);clear hn;exact m95_
 ·have HR:=h_ (show c=0 by rw [<-HC.out,if_neg o_,if_neg o_])
  have e1:(kind==1)=false:=by rw [beq_eq_false_iff_ne];exact hk1
  have e2:(kind==2)=false:=by rw [beq_eq_false_iff_ne];exact hk2
  have e3:(kind==3)=false:=by rw [beq_eq_false_iff_ne];exact hk3
  clear hk1 hk2 hk3;exact m95_
end Go.Proofs.YtgoooebfhdbbkaaGreatDoor
