import Derived.Test.YtmgmbeipbeknaaaGreatDoorRB5
import Derived.Test.YtmgmbeipbeknaaaGreatDoorRB11
import Derived.Test.YtmgmbeipbeknaaaGreatDoorRB14
import Derived.Test.YtmgmbeipbeknaaaGreatDoorRB23
import Derived.Test.YtmgmbeipbeknaaaGreatDoorRB24
import Derived.Test.YtmgmbeipbeknaaaGreatDoorRB30
namespace Go.Proofs.YtmgmbeipbeknaaaGreatDoor
open Go.Proofs.Tryz
open Go Go.RowKit
set_option linter.all false
set_option maxHeartbeats 16000000
set_option maxRecDepth 100000
theorem m62_{p:Prop}(h:p:=by
  have hKs:(K.length:Int)<(l.length:Int):=o_;clear hB2 hx;go_wp2_with fail;refine HC.out.mono ?_;rintro e w3 ⟨rfl,hb3⟩;have H7:=Za h7.out hb3;obtain ⟨q0,q1⟩:=XV H7;have HB3:=h_ (Below.more HB2.out hb3);have HM3:=h_ (HM.out.below HB3.out);have HF3:=h_ (HFr.out.trans (Fr.of_below HB3.out _));clear hb3 H7 m1 m2 m3 m4 d0 d1;cases hpx:p x with
  |true=>
   have HS2:=h_ (show (l.take (j+1)).filter (fun x=>!p x)=K by rw [HSN.out,hpx];simp);go_wp2_with fail;go_roundg (gk-1)
   case measure=>omega
   case rel=>exact ⟨j+1,K,rfl,n9_,o_,o_,o_,HS2,HM3.out.next,HF3⟩
  |false=>
   have HS2:=h_ (show (l.take (j+1)).filter (fun x=>!p x)=K++[x] by rw [HSN.out,hpx];simp);obtain ⟨m1,m2,m3,m4⟩:=HM3.out.bounds;have f0:=m2 (K.length*2);have f1:=m2 (K.length*2+1);obtain ⟨y0,e0⟩:=Option.isSome_iff_exists.1 (m1 (K.length*2) n87_);obtain ⟨y1,e1⟩:=Option.isSome_iff_exists.1 (m1 (K.length*2+1) n87_);clear m1 m2;go_wp2_with fail;go_roundg (gk-1)
   case measure=>omega
   case rel=>
    refine ⟨j+1,K++[x],s_,n9_,o_,n6_,o_,HS2,?_,?_⟩
    ·exact HM3.out.put hk o_ n87_ x _ _ rfl
    ·exact (HF3.out.setCell (p:=⟨G,K.length*2,none⟩) (fun _=>rfl) _).setCell (p:=⟨G,K.length*2+1,none⟩) (fun _=>rfl) _):p:=h
theorem m63_{p:Prop}(h:p:=by rw [hAB,List.take_append,c9_ o_,show A.length+1-A.length=1 by omega];simp only [List.take_succ_cons,List.take_zero,List.filter_append];rw [List.filter_eq_self.2 (fun x hx=>by rw [hA x hx];rfl)];simp [hpy]):p:=h
theorem m64_{p:Prop}(h:p:=by
  go_wp2_with fail;go_loopg [8] 1 (fun f i wr=>i=.int .i64 0/\wr=w/\0<f)
  case atStart=>exact ⟨rfl,rfl,o_⟩
  case round=>
   obtain ⟨rfl,rfl,hfu⟩:=hrel;go_wp2_with fail;go_ret;exact ⟨rfl,rfl⟩):p:=h
theorem m65_{p:Prop}(h:p:=by go_wp2_with fail;refine HI.out.mono ?_;rintro e w1 ⟨rfl,hb1⟩;have HB1:=h_ hb1;clear hb1;go_wp2_with fail;go_ret;exact ⟨_,rfl,Zo HOW.out HB1.out,rfl,Fr.of_below HB1.out _⟩):p:=h
theorem m66_{p:Prop}(h:p:=by refine ⟨cur0,hg,rfl,?_,fun _ _=>rfl⟩;have h5:=congrArg (List.take (A.length*2)) ht;rw [List.take_take,Nat.min_eq_left o_] at h5;rw [h5,hAB,ZT,List.take_left' (XB hk A)]):p:=h
theorem m67_{p:Prop}(h:p:=by clear hcl m1 m2 m3;go_wp2_with fail;rw [HCL.out];simp only [Result.andThen];rw [Oper.upon_value];go_wp2_with fail;go_ret;rw [HK.out];exact ⟨_,rfl,HOW.out,rfl,HFF.out⟩):p:=h
theorem m68_{p:Prop}(h:p:=by go_wp2_with fail;refine HI.out.mono ?_;rintro e w1 ⟨rfl,rfl⟩;go_wp2_with fail;go_ret;exact ⟨_,rfl,World.ownsRow_nil _ _ _ _,rfl,Fr.refl _ _⟩):p:=h
theorem ZdU{P:Program}(w:World)(t e ty:TypeId)(z:Value)(ht:P.underlying t=some (.slice e))(hv:∀w,(zeroValue e).run P w=.ok z w)(h1:∀v∈z.cells.toList,v.oneCell'=true)(hzp:0<z.cells.size)(b o n c:Nat)(hn:0<n)
  (hc:∀j,j<n*z.cells.size->(w.cell? ⟨b,o+j,none⟩).isSome=true) (hf:∀j,w.frozen? ⟨b,o+j,none⟩=false) :
  (Builtin.clear_ #[t] ty #[.slice (some ⟨b,o,none⟩) n c]).run P w=.ok (.tuple #[]) (w.setCells b o (Builtin.zeroCells z.cells n).toList):=by
 have hst:=run_storeCells_cells (P:=P) b o (Builtin.zeroCells z.cells n).toList 0 w (by
  intro j hj;simp only [Nat.add_zero];exact hc j (by rw [Array.length_toList,size_zeroCells] at hj;exact hj)) (by intro j _;simp [hf]) (by
  intro v hv';simp only [Builtin.zeroCells,Array.toList_map,List.mem_map] at hv';obtain ⟨i,_,rfl⟩:=hv';have hlt:=Nat.mod_lt i hzp;rw [getElem!_pos z.cells _ hlt];exact h1 _ s_)
 simp only [Nat.add_zero] at hst;obtain ⟨m,rfl⟩:∃m,n=m+1:=⟨n-1,o_⟩;simp [Builtin.clear_,run_underlying ht,hv,hst]
section
variable {α:Type}
theorem ZfN(p:α->Bool)(d:α):∀(l:List α) (i:Nat),(Lib.idxByFrom (fun _ y=>p y) d l i = -1/\∀x∈l,p x=false)\/∃A x B,l=A++x::B/\Lib.idxByFrom (fun _ y=>p y) d l i=((i+A.length:Nat):Int)/\p x=true/\∀y∈A,p y=false
 |[],i=>.inl ⟨rfl,fun x h=>by cases h⟩
 |a::r,i=>by
  cases h:p a with
  |true=>exact .inr ⟨[],a,r,rfl,by simp [Lib.idxByFrom,h],h,fun y hy=>by cases hy⟩
  |false=>
   rcases ZfN p d r (i+1) with ⟨e,ha⟩|⟨A,x,B,rfl,e,hp,ha⟩
   ·refine .inl ⟨by simp [Lib.idxByFrom,h,e],fun x hx=>?_⟩
    rcases List.mem_cons.1 hx with rfl|hx
    ·exact h
    ·exact ha x hx
   ·refine .inr ⟨a::A,x,B,rfl,?_,hp,fun y hy=>?_⟩
    ·simp only [Lib.idxByFrom,h]
     rw [show (if false=true then (i:Int) else Lib.idxByFrom (fun _ y=>p y) d (A++x::B) (i+1))=Lib.idxByFrom (fun _ y=>p y) d (A++x::B) (i+1) from rfl,e];congr 1;simp;omega
    ·rcases List.mem_cons.1 hy with rfl|hy
     ·exact h
     ·exact ha y hy
theorem Zgr(p:α->Bool)(l:List α)(j:Nat)(h:j<l.length):(l.take (j+1)).filter p=(l.take j).filter p++(if p l[j]=true then [l[j]] else []):=by
 rw [c4_ h,List.filter_append];congr 1;cases hp:p l[j]<;>simp [hp]
def Mid(enc:α->List Value)(w:World)(g:Nat)(T:TypeId)(cur0:Array Value)(K:List α)(j:Nat):Prop:=
 ∃cur,w.heap[g]?=some (.cells cur T (0,0))/\cur.size=cur0.size/\cur.toList.take (K.length*2)=Zx enc K/\∀m,j*2<=m->cur[m]?=cur0[m]?
theorem Mid.below{enc:α->List Value}{w w':World}{g:Nat}{T:TypeId}{cur0:Array Value}{K:List α}{j:Nat}(h:Mid enc w g T cur0 K j)(hb:Below w.heap.size w w'):Mid enc w' g T cur0 K j:=by
 obtain ⟨cur,a,b⟩:=h;exact ⟨cur,Za a hb,b⟩
theorem Mid.next{enc:α->List Value}{w:World}{g:Nat}{T:TypeId}{cur0:Array Value}{K:List α}{j:Nat}(h:Mid enc w g T cur0 K j):Mid enc w g T cur0 K (j+1):=by
 obtain ⟨cur,a,b,c,d⟩:=h;exact ⟨cur,a,b,c,fun m hm=>d m o_⟩
theorem ZsH(l:List Value)(n:Nat)(x y:Value)(h:n+2<=l.length):((l.set n x).set (n+1) y).take (n+2)=l.take n++[x,y]:=by
 apply List.ext_getElem?;intro i;rw [List.getElem?_take];by_cases hi:i<n
 ·rw [if_pos o_,List.getElem?_append_left n53_,List.getElem?_set_ne o_,List.getElem?_set_ne o_,List.getElem?_take_of_lt hi]
 ·rw [List.getElem?_append_right n53_,List.length_take,Nat.min_eq_left o_]
  by_cases h0:i=n
  ·subst h0
   rw [if_pos o_,List.getElem?_set_ne o_,List.getElem?_set_self o_];simp
  ·by_cases h1:i=n+1
   ·subst h1
    rw [if_pos o_,List.getElem?_set_self n6_];rw [show n+1-n=1 by omega];rfl
   ·rw [if_neg o_]
    rw [List.getElem?_eq_none n6_]
theorem Mid.put{enc:α->List Value}(hk:∀x,(enc x).length=2){w:World}{g:Nat}{T:TypeId}{cur0:Array Value}{K:List α}{j:Nat}(h:Mid enc w g T cur0 K j)(hj:K.length<j)(hs:j*2+2<=cur0.size)(x:α)(a b:Value)(hx:enc x=[a,b]) :
  Mid enc ((w.setCell ⟨g,K.length*2,none⟩ a).setCell ⟨g,K.length*2+1,none⟩ b) g T cur0 (K++[x]) (j+1):=by
 obtain ⟨cur,e1,e2,e3,e4⟩:=h;refine ⟨(cur.setIfInBounds (K.length*2) a).setIfInBounds (K.length*2+1) b,heap_setCell (heap_setCell e1 _ _) _ _,by simpa using e2,?_,fun m hm=>?_⟩
 ·rw [Array.toList_setIfInBounds,Array.toList_setIfInBounds,ZT,QJ,hx,<-e3,c5_,List.length_singleton,Nat.add_mul]
  exact ZsH _ _ _ _ (by have:=@Array.length_toList _ cur;omega)
 ·rw [c13_ o_,c13_ o_]
  exact e4 m o_
theorem Mid.cells{enc:α->List Value}(hk:∀x,(enc x).length=2){w:World}{g:Nat}{T:TypeId}{cur0:Array Value}{K l:List α}{j:Nat}(h:Mid enc w g T cur0 K j)(h0:cur0.toList.take (l.length*2)=Zx enc l)(hj:j<l.length)(a b:Value)(hx:enc l[j]=[a,b]) :
  w.cell? ⟨g,j*2,none⟩=some a/\w.cell? ⟨g,j*2+1,none⟩=some b:=by
 obtain ⟨cur,e1,e2,e3,e4⟩:=h;have hget:∀r,r<2->cur0[j*2+r]?=(enc l[j])[r]?:=by
  intro r hr;have h1:=congrArg (fun q=>q[j*2+r]?) h0;simp only [List.getElem?_take] at h1;rw [if_pos o_,ZdE hk l j r hj hr] at h1;simpa using h1
 have c0:=hget 0 d_;have c1:=hget 1 d_;rw [hx] at c0 c1;rw [(rd e1).1,(rd e1).1,e4 _ l_,e4 _ o_];exact ⟨by simpa using c0,by simpa using c1⟩
theorem Mid.bounds{enc:α->List Value}{w:World}{g:Nat}{T:TypeId}{cur0:Array Value}{K:List α}{j:Nat}(h:Mid enc w g T cur0 K j):(∀m,m<cur0.size->(w.cell? ⟨g,m,none⟩).isSome=true)/\(∀m,w.frozen? ⟨g,m,none⟩=false)/\w.shape? g=some (T,cur0.size)/\g<w.heap.size:=by
 obtain ⟨cur,e1,e2,e3,e4⟩:=h;obtain ⟨a,b,c,d⟩:=rd e1;exact ⟨fun m hm=>by rw [a,Array.getElem?_eq_getElem o_];rfl,b,by rw [c,e2],d⟩
theorem Mid.own{enc:α->List Value}{w:World}{g:Nat}{T:TypeId}{cur0:Array Value}{K:List α}{j n cap:Nat}(h:Mid enc w g T cur0 K j)(hk:∀x,(enc x).length=2)(hn:K.length<=n)(hnc:n<=cap)(hcm:cap<=maxLen)(hs:cur0.size=cap*2)(zs:List Value)(hz:zs.length=(n-K.length)*2) :
  (w.setCells g (K.length*2) zs).ownsRow 0 T 2 (.slice (some ⟨g,0,none⟩) K.length cap) K.length (Zx enc K):=by
 obtain ⟨cur,e1,e2,e3,e4⟩:=h;refine ⟨XB hk K,.inr ⟨g,cap,_,rfl,Nat.zero_le _,ZbN zs (K.length*2) e1 o_,o_,hcm,?_,?_⟩⟩
 ·simp;omega
 ·simp only [List.append_assoc]
  rw [List.take_left' (by have:=@Array.length_toList _ cur;rw [List.length_take];omega)];exact e3
end
theorem Zmi(g:FuncId)(lb:Array Value)(w:World):Calls prog 265 #[.slice none 0 0,.func (.func g) #[] lb] w fun e w'=>e=.returned (.int .i64 (-1))/\w'=w:=by
 go_enter func265,ntmps265;exact m64_
theorem Zgb(v:Value)(l:List (Str×Str))(g:FuncId)(lb:Array Value)(eg:∀args w,(callFunc g args).run prog w=.ok (.enter g args) w)(p:Str×Str->Bool)(w:World)(hown:w.ownsRow 0 64 2 v l.length (Zx Qu l))(hl:l.length<=1000000000)
  (hp:∀(W:World) (x:Str×Str),Fr (fun k=>v.ownBlock=some k) w W->Calls prog g (#[.agg (Qu x).toArray]++lb) W fun e w'=>e=.returned (.bool (p x))/\Below W.heap.size W w') :
  Calls prog 209 #[v,.func (.func g) #[] lb] w fun e w'=>∃v',e=.returned v'/\w'.ownsRow 0 64 2 v' (l.filter fun x=>!p x).length (Zx Qu (l.filter fun x=>!p x))/\v'.ownBlock=v.ownBlock/\Fr (fun k=>v.ownBlock=some k) w w':=by
 have hk:∀x,(Qu x).length=2:=fun _=>rfl
 have EG:=h_ eg;clear eg;rcases hown.2 with ⟨rfl,h0⟩|⟨G,cap,cur0,rfl,-,hg,hnc,hcm,hcs,ht⟩
 ·obtain rfl:l=[]:=c10_ h0
  have HI:=h_ (Zmi g lb w);clear hp hown;go_enter func209,ntmps209;exact m68_
 ·have HP:=h_ hp
  have hgl:=Zd hg;have HI:=h_ (AnyQ.slices_IndexFunc Tryz.findPair 2 isAgg64 sizeOf64 Qu hk p g lb EG.out G 0 l.length cap l w (fun W x hW=>(hp W x (Fr.of_below hW _)).mono fun e w' ⟨a,q⟩=>⟨a,Below.more hW q⟩) l_ o_ hgl (by
   intro j hj i u hu;obtain ⟨b3,o3,e3,_,hcc⟩:=ZG.of_own (enc:=Qu) (k:=2) hk hown j hj;injection e3 with e3
   injection e3 with e4 e5 e6
   subst e4;subst e5;rw [getElem!_pos l j hj] at hu;exact hcc i u hu))
  rw [List.take_length] at HI;have hM0:Mid Qu w G 64 cur0 [] 0:=⟨cur0,hg,rfl,by simp [Zx],fun _ _=>rfl⟩;have HM0:=h_ hM0;have HT:=h_ ht;have HCS:=h_ hcs;rcases ZfN p default l 0 with ⟨h1,h2⟩|⟨A,y,B,hAB,h1,hpy,hA⟩
  ·have hf:(l.filter fun x=>!p x)=l:=List.filter_eq_self.2 fun x hx=>by rw [h2 x hx];rfl
   rw [hf];have HOW:=h_ hown;rw [show Lib.idxBy (fun _ y=>p y) l default = -1 from h1] at HI;clear hp hown h1 h2 hf hg ht hcs hM0 hgl;go_enter func209,ntmps209;exact m65_
  ·have hi1:Lib.idxBy (fun _ y=>p y) l default=(A.length:Int):=by rw [show Lib.idxBy (fun _ y=>p y) l default=Lib.idxByFrom (fun _ y=>p y) default l 0 from rfl,h1];simp
   have hAl:A.length<l.length:=by rw [hAB];simp
   have hfA:(l.take (A.length+1)).filter (fun x=>!p x)=A:=by
    exact m63_
   have hMA:Mid Qu w G 64 cur0 A (A.length+1):=by
    exact m66_
   have HMA:=h_ hMA;have HFA:=h_ hfA;have hne1:((A.length:Int)==-1)=false:=n15_;rw [hi1] at HI;clear hp hown h1 hg ht hcs hM0 HM0 hgl hAB hpy hA hi1 hfA hMA;have EGo:=EG.out;go_enter func209,ntmps209;go_wp2_with fail;refine HI.out.mono ?_;rintro e w1 ⟨rfl,hb1⟩;have HF1:=h_ (show Fr (fun k=>(Value.slice (some ⟨G,0,none⟩) l.length cap).ownBlock=some k) w w1 from Fr.of_below hb1 _);have HM1:=h_ (HMA.out.below hb1);clear hb1 HMA HI;go_wp2_with fail;go_loopg [5,6] (l.length+1) (fun f vi vj wr=>∃(j:Nat) (K:List (Str×Str)),vi=.int .i64 K.length/\vj=.int .i64 j/\j<=l.length/\K.length<j/\l.length-j<f/\Hid ((l.take j).filter (fun x=>!p x)=K)/\Hid (Mid Qu wr G 64 cur0 K j)/\Hid (Fr (fun k=>(Value.slice (some ⟨G,0,none⟩) l.length cap).ownBlock=some k) w wr))
   case atStart=>exact ⟨A.length+1,A,rfl,n9_,o_,o_,o_,HFA,HM1,HF1⟩
   case round=>
    obtain ⟨j,K,rfl,rfl,hj,hKj,hfu,HK,HM,HFr⟩:=hrel;clear HM1 HF1 HFA;by_cases hlt:j<l.length
    ·obtain ⟨x,hx⟩:=e_ (l[j])
     obtain ⟨d0,d1⟩:=HM.out.cells hk HT.out hlt (.string ⟨x.1.toArray⟩) (.string ⟨x.2.toArray⟩) (by rw [<-hx];rfl);obtain ⟨m1,m2,m3,m4⟩:=HM.out.bounds;have hlj:(j:Int)<(l.length:Int):=o_;have hB2:Below wr.heap.size wr (wr.alloc (.cells #[.string ⟨x.1.toArray⟩,.string ⟨x.2.toArray⟩] 64)):=b_.alloc l_ _;have HB2:=h_ hB2;have HC:=h_ (HP.out (wr.alloc (.cells #[.string ⟨x.1.toArray⟩,.string ⟨x.2.toArray⟩] 64)) x (HFr.out.trans (Fr.of_below hB2 _)));have HSN:=h_ (show (l.take (j+1)).filter (fun x=>!p x)=K++(if (!p x)=true then [x] else []) by rw [Zgr _ l j hlt,HK.out,hx]);have h7:=h_ (heap_alloc_new wr (.cells #[.string ⟨x.1.toArray⟩,.string ⟨x.2.toArray⟩] 64));exact m62_
    ·have hk3:j=l.length:=o_
     subst hk3;rw [c9_ l_] at HK;obtain ⟨m1,m2,m3,m4⟩:=HM.out.bounds;have hkn:(K.length:Int)<=(l.length:Int):=o_;have hcl:=ZdU (P:=prog) wr 25 64 0 (.agg #[.string ⟨#[]⟩,.string ⟨#[]⟩]) underlying25 (fun w=>by kernel_rfl) (by intro v hv;simp [Value.cells] at hv;rcases hv with rfl|rfl<;>rfl) d_ G (K.length*2) (l.length-K.length) (cap-K.length) o_ (fun i hi=>m1 _ (by have:(Value.agg #[.string ⟨#[]⟩,.string ⟨#[]⟩]).cells.size=2:=rfl;rw [this] at hi;rw [HCS.out];omega)) (fun i=>m2 _);have HCL:=h_ hcl;have HOW:=h_ (HM.out.own hk o_ hnc hcm HCS.out (Builtin.zeroCells (Value.agg #[.string ⟨#[]⟩,.string ⟨#[]⟩]).cells (l.length-K.length)).toList (by rw [Array.length_toList,size_zeroCells];rfl));have HFF:=h_ (Fr.setCells (M:=fun k=>(Value.slice (some ⟨G,0,none⟩) l.length cap).ownBlock=some k) (b:=G) (fun _=>rfl) (Builtin.zeroCells (Value.agg #[.string ⟨#[]⟩,.string ⟨#[]⟩]).cells (l.length-K.length)).toList (K.length*2) HFr.out);exact m67_
theorem Zoc(g:FuncId)(lb:Array Value)(w:World):Calls prog 270 #[.slice none 0 0,.func (.func g) #[] lb] w fun e w'=>e=.returned (.int .i64 (-1))/\w'=w:=by
 go_enter func270,ntmps270;exact m64_
theorem ZnS(v:Value)(l:List (Int×Str))(g:FuncId)(lb:Array Value)(eg:∀args w,(callFunc g args).run prog w=.ok (.enter g args) w)(p:Int×Str->Bool)(w:World)(hown:w.ownsRow 0 47 2 v l.length (Zx JK l))(hl:l.length<=1000000000)
  (hp:∀(W:World) (x:Int×Str),Fr (fun k=>v.ownBlock=some k) w W->Calls prog g (#[.agg (JK x).toArray]++lb) W fun e w'=>e=.returned (.bool (p x))/\Below W.heap.size W w') :
  Calls prog 217 #[v,.func (.func g) #[] lb] w fun e w'=>∃v',e=.returned v'/\w'.ownsRow 0 47 2 v' (l.filter fun x=>!p x).length (Zx JK (l.filter fun x=>!p x))/\v'.ownBlock=v.ownBlock/\Fr (fun k=>v.ownBlock=some k) w w':=by
 have hk:∀x,(JK x).length=2:=fun _=>rfl
 have EG:=h_ eg;clear eg;rcases hown.2 with ⟨rfl,h0⟩|⟨G,cap,cur0,rfl,-,hg,hnc,hcm,hcs,ht⟩
 ·obtain rfl:l=[]:=c10_ h0
  have HI:=h_ (Zoc g lb w);clear hp hown;go_enter func217,ntmps217;exact m68_
 ·have HP:=h_ hp
  have hgl:=Zd hg;have HI:=h_ (AnyQ.slices_IndexFunc Tryz.findRel 2 isAgg47 sizeOf47 JK hk p g lb EG.out G 0 l.length cap l w (fun W x hW=>(hp W x (Fr.of_below hW _)).mono fun e w' ⟨a,q⟩=>⟨a,Below.more hW q⟩) l_ o_ hgl (by
   intro j hj i u hu;obtain ⟨b3,o3,e3,_,hcc⟩:=ZG.of_own (enc:=JK) (k:=2) hk hown j hj;injection e3 with e3
   injection e3 with e4 e5 e6
   subst e4;subst e5;rw [getElem!_pos l j hj] at hu;exact hcc i u hu))
  rw [List.take_length] at HI;have hM0:Mid JK w G 47 cur0 [] 0:=⟨cur0,hg,rfl,by simp [Zx],fun _ _=>rfl⟩;have HM0:=h_ hM0;have HT:=h_ ht;have HCS:=h_ hcs;rcases ZfN p default l 0 with ⟨h1,h2⟩|⟨A,y,B,hAB,h1,hpy,hA⟩
  ·have hf:(l.filter fun x=>!p x)=l:=List.filter_eq_self.2 fun x hx=>by rw [h2 x hx];rfl
   rw [hf];have HOW:=h_ hown;rw [show Lib.idxBy (fun _ y=>p y) l default = -1 from h1] at HI;clear hp hown h1 h2 hf hg ht hcs hM0 hgl;go_enter func217,ntmps217;exact m65_
  ·have hi1:Lib.idxBy (fun _ y=>p y) l default=(A.length:Int):=by rw [show Lib.idxBy (fun _ y=>p y) l default=Lib.idxByFrom (fun _ y=>p y) default l 0 from rfl,h1];simp
   have hAl:A.length<l.length:=by rw [hAB];simp
   have hfA:(l.take (A.length+1)).filter (fun x=>!p x)=A:=by
    exact m63_
   have hMA:Mid JK w G 47 cur0 A (A.length+1):=by
    exact m66_
   have HMA:=h_ hMA;have HFA:=h_ hfA;have hne1:((A.length:Int)==-1)=false:=n15_;rw [hi1] at HI;clear hp hown h1 hg ht hcs hM0 HM0 hgl hAB hpy hA hi1 hfA hMA;have EGo:=EG.out;go_enter func217,ntmps217;go_wp2_with fail;refine HI.out.mono ?_;rintro e w1 ⟨rfl,hb1⟩;have HF1:=h_ (show Fr (fun k=>(Value.slice (some ⟨G,0,none⟩) l.length cap).ownBlock=some k) w w1 from Fr.of_below hb1 _);have HM1:=h_ (HMA.out.below hb1);clear hb1 HMA HI;go_wp2_with fail;go_loopg [5,6] (l.length+1) (fun f vi vj wr=>∃(j:Nat) (K:List (Int×Str)),vi=.int .i64 K.length/\vj=.int .i64 j/\j<=l.length/\K.length<j/\l.length-j<f/\Hid ((l.take j).filter (fun x=>!p x)=K)/\Hid (Mid JK wr G 47 cur0 K j)/\Hid (Fr (fun k=>(Value.slice (some ⟨G,0,none⟩) l.length cap).ownBlock=some k) w wr))
   case atStart=>exact ⟨A.length+1,A,rfl,n9_,o_,o_,o_,HFA,HM1,HF1⟩
   case round=>
    obtain ⟨j,K,rfl,rfl,hj,hKj,hfu,HK,HM,HFr⟩:=hrel;clear HM1 HF1 HFA;by_cases hlt:j<l.length
    ·obtain ⟨x,hx⟩:=e_ (l[j])
     obtain ⟨d0,d1⟩:=HM.out.cells hk HT.out hlt (.int .i64 x.1) (.string ⟨x.2.toArray⟩) (by rw [<-hx];rfl);obtain ⟨m1,m2,m3,m4⟩:=HM.out.bounds;have hlj:(j:Int)<(l.length:Int):=o_;have hB2:Below wr.heap.size wr (wr.alloc (.cells #[.int .i64 x.1,.string ⟨x.2.toArray⟩] 47)):=b_.alloc l_ _;have HB2:=h_ hB2;have HC:=h_ (HP.out (wr.alloc (.cells #[.int .i64 x.1,.string ⟨x.2.toArray⟩] 47)) x (HFr.out.trans (Fr.of_below hB2 _)));have HSN:=h_ (show (l.take (j+1)).filter (fun x=>!p x)=K++(if (!p x)=true then [x] else []) by rw [Zgr _ l j hlt,HK.out,hx]);have h7:=h_ (heap_alloc_new wr (.cells #[.int .i64 x.1,.string ⟨x.2.toArray⟩] 47));exact m62_
    ·have hk3:j=l.length:=o_
     subst hk3;rw [c9_ l_] at HK;obtain ⟨m1,m2,m3,m4⟩:=HM.out.bounds;have hkn:(K.length:Int)<=(l.length:Int):=o_;have hcl:=ZdU (P:=prog) wr 22 47 0 (.agg #[.int .i64 0,.string ⟨#[]⟩]) underlying22 (fun w=>by kernel_rfl) (by intro v hv;simp [Value.cells] at hv;rcases hv with rfl|rfl<;>rfl) d_ G (K.length*2) (l.length-K.length) (cap-K.length) o_ (fun i hi=>m1 _ (by have:(Value.agg #[.int .i64 0,.string ⟨#[]⟩]).cells.size=2:=rfl;rw [this] at hi;rw [HCS.out];omega)) (fun i=>m2 _);have HCL:=h_ hcl;have HOW:=h_ (HM.out.own hk o_ hnc hcm HCS.out (Builtin.zeroCells (Value.agg #[.int .i64 0,.string ⟨#[]⟩]).cells (l.length-K.length)).toList (by rw [Array.length_toList,size_zeroCells];rfl));have HFF:=h_ (Fr.setCells (M:=fun k=>(Value.slice (some ⟨G,0,none⟩) l.length cap).ownBlock=some k) (b:=G) (fun _=>rfl) (Builtin.zeroCells (Value.agg #[.int .i64 0,.string ⟨#[]⟩]).cells (l.length-K.length)).toList (K.length*2) HFr.out);exact m67_
theorem m69_{p:Prop}(h:p:=by
  obtain ⟨k,L,hk,rfl,hfu,hLl,HQ,HP⟩:=hrel;have HFr:=h_ HP.out.frame;clear HPA HPB;by_cases hlt:k<ps.length
  ·have hz:(k:Int)<(ps.length:Int):=o_
   obtain ⟨⟨p1,p2⟩,hp⟩:=e_ (ps[k]);obtain ⟨b4,o4,rfl,hb4l,hcc⟩:=(HR1.out.frM HFr.out (fun b o e=>by
    have h1:=HNP.out b o e;rintro (h|h)
    ·omega
    ·have:=HF.out b h;omega)) k hlt
   rw [<-hp] at hcc;have d0:=hcc 0 _ rfl;have d1:=hcc 1 _ rfl;simp only [Nat.add_zero] at d0;have HN:=h_ (show Xa (L.filter (fun x=>x.1 !=p1)++[(p1,p2)]) (ps.drop (k+1))=Xa L0 ps by
    rw [<-HQ.out,List.drop_eq_getElem_cons hlt,<-hp,Xa])
   have HLF:=h_ (List.length_filter_le (fun x:Str×Str=>x.1 !=p1) L);obtain ⟨v1,F1,q1,q2,q3,q4⟩:=HP.out;have hU1:¬F1 U:=fun h=>by
    rcases (q4 U h).1 with h2|h2
    ·exact HFU.out h2
    ·omega
   have hUr:=Zd q1;have hBx:Below wr.heap.size wr (wr.alloc (.cells #[.string ⟨p1.toArray⟩,.string ⟨p2.toArray⟩] 64)):=b_.alloc l_ _;obtain ⟨wp,hwp⟩:=e_ ((wr.alloc (.cells #[.string ⟨p1.toArray⟩,.string ⟨p2.toArray⟩] 64)).drew);have hBp:Below wr.heap.size wr wp:=n52_;have hbx:wp.heap[wr.heap.size]?=some (.cells #[.string ⟨p1.toArray⟩,.string ⟨p2.toArray⟩] 64 (0,0)):=n68_;have hbu:=Za q1 hBp;have hq2p:Y5 wp F1 (.ps L) v1:=q2.fr (M:=fun _=>False) (Fr.of_below hBp _) (fun _ _ e=>e);have hF1:∀k,F1 k->k<wr.heap.size:=fun k hk=>(q4 k hk).2
   have hcs1:(cs.setIfInBounds 19 v1)[19]?=some v1:=c15_ hjs;have hend:∀(w3:World) (v3:Value) (A:Nat) (M:List (Str×Str)),M.length<=200000->Fr (fun k=>F1 k) wr w3->w3.heap[U]?=some (.cells (cs.setIfInBounds 19 v1) 28 (0,0))->w3.heap[wr.heap.size]?=some (.cells #[.string ⟨p1.toArray⟩,.string ⟨p2.toArray⟩] 64 (0,0))->w3.ownsRow 0 64 2 v3 M.length (Zx Qu M)->v3.ownBlock=v1.ownBlock->w3.heap[A]?=some (.cells #[.string ⟨p1.toArray⟩,.string ⟨p2.toArray⟩] 64 (0,0))->
     ∃oa cap w4,(Builtin.append_ #[25,25] 25 #[v3,.slice (some ⟨A,0,none⟩) 1 1]).run prog w3=.ok (.slice oa (M.length+1) cap) w4/\w4.heap[U]?=some (.cells (cs.setIfInBounds 19 v1) 28 (0,0))/\w4.heap[wr.heap.size]?=some (.cells #[.string ⟨p1.toArray⟩,.string ⟨p2.toArray⟩] 64 (0,0))/\Zq w1 (w4.setCell ⟨U,19,none⟩ (.slice oa (M.length+1) cap)) U cs 19 F (.ps (M++[(p1,p2)])):=by
    intro w3 v3 A M hMl hf3 hu3 hx3 ho3 hv3 hA3;have hin3:∀g,v3.ownBlock=some g->F1 g:=fun g hg=>q2.2 g (hv3 ▸ hg)
    obtain ⟨oa,cap,w4,r1,r2,r3,r4,r5,r6,r7⟩:=Zlz (P:=prog) 25 25 64 i0 (.agg #[.string ⟨#[]⟩,.string ⟨#[]⟩]) 2 32 underlying25 hi0 hz0 hz1 hz2 n18_ d_ hu3 ho3 hin3 hU1 o_ d_ A [.string ⟨p1.toArray⟩,.string ⟨p2.toArray⟩] rfl (by intro u hu;simp at hu;rcases hu with rfl|rfl<;>rfl) (fun j u hu=>by rw [(rd hA3).1];simpa using hu);have hfw4:Fr (fun k=>k=U\/F1 k) wr w4:=(hf3.mono (fun i _ h=>.inr h)).trans r3;have hc4:Y5 w4 (fun g=>(Value.slice oa (M.length+1) cap).ownBlock=some g) (.ps (M++[(p1,p2)])) (.slice oa (M.length+1) cap):=⟨n59_,fun g hg=>hg⟩;have hput:Zq wr (w4.setCell ⟨U,19,none⟩ (.slice oa (M.length+1) cap)) U (cs.setIfInBounds 19 v1) 19 F1 (.ps (M++[(p1,p2)])):=Zq.of_store r2 rfl hfw4 hc4 (fun g hg=>⟨(r5 g hg).1.imp id (fun h=>Nat.le_trans hf3.size h),(r5 g hg).2⟩) (fun e=>r6 e);refine ⟨oa,cap,w4,r1,r2,?_,Zq.trans' q3 q4 hput⟩;rw [r7.block _ (Zd hx3) (fun e=>by have:=hF1 _ (hin3 _ e);omega)];exact hx3
   have HEND:=h_ hend;have HBP:=h_ hBp;have hclos:∀(W0:World),Below wr.heap.size wr W0->W0.heap[wr.heap.size]?=some (.cells #[.string ⟨p1.toArray⟩,.string ⟨p2.toArray⟩] 64 (0,0))->W0.ownsRow 0 64 2 v1 L.length (Zx Qu L)->
     Calls prog 209 #[v1,.func (.func 210) #[] #[.pointer (some ⟨wr.heap.size,0,none⟩)]] W0 fun e w'=>∃v',e=.returned v'/\w'.ownsRow 0 64 2 v' (L.filter fun x=>x.1 !=p1).length (Zx Qu (L.filter fun x=>x.1 !=p1))/\v'.ownBlock=v1.ownBlock/\Fr (fun k=>v1.ownBlock=some k) W0 w':=by
    intro W0 hW0 hx0 ho0;refine Zgb v1 L 210 #[.pointer (some ⟨wr.heap.size,0,none⟩)] ZgA (fun x=>x.1==p1) W0 ho0 o_ (fun W x hW=>?_);have hxW:W.heap[wr.heap.size]?=some (.cells #[.string ⟨p1.toArray⟩,.string ⟨p2.toArray⟩] 64 (0,0)):=hW.heap hx0 (fun e=>by have:=hF1 _ (q2.2 _ e);omega);exact Zlc x p1 wr.heap.size W ((XV hxW).1)
   have HCL:=h_ hclos;have HQ2:=h_ q2.2;have HU1:=h_ hU1;have HHF1:=h_ hF1;have HUX:=h_ hbu;have HBX:=h_ hbx;have HOW:=h_ hq2p.1;have HCS:=h_ hcs1;have hne:U≠wr.heap.size:=o_;have HS:=h_ (And.intro (Za q1 hBx) (heap_alloc_new wr (.cells #[.string ⟨p1.toArray⟩,.string ⟨p2.toArray⟩] 64)));clear hcc hp HQ HP HFr hend hBp hbx hbu hq2p hclos hF1 hcs1 hBx q1 q2 q3 q4 hU1;go_wp2_with fail;refine Zk (S:=fun V=>V.heap[U]?=some (.cells (cs.setIfInBounds 19 v1) 28 (0,0))/\V.heap[wr.heap.size]?=some (.cells #[.string ⟨p1.toArray⟩,.string ⟨p2.toArray⟩] 64 (0,0))) 10 k_ k_ HS.out (fun hHeld=>?_);refine u_ ?_;(iterate 6 refine dN_ 0 (gT_ rfl) (fun W hW=>by have q0:=((rd hW.1).1 19).trans HCS.out;obtain ⟨q1,q2⟩:=XV hW.2;clear hW;go_simp;rfl) (u_ ?_));refine dT_ (i:=7) (v:=.agg #[.string ⟨p1.toArray⟩,.string ⟨p2.toArray⟩]) (gT_ rfl) (fun W hW=>by have q0:=((rd hW.1).1 19).trans HCS.out;obtain ⟨q1,q2⟩:=XV hW.2;clear hW;go_simp) (u_ ?_);rw [<-hwp] at hHeld⊢;clear hwp;refine ZjA (i:=6) (j:=8) (gT_ rfl) (gT_ rfl) k_ k_ k_ (fun K hK=>?_) (fun K hK=>?_)
   ·clear hHeld
    rw [if_pos n18_];go_simp;refine (HCL.out wp HBP.out HBX.out HOW.out).mono ?_;rintro e w3 ⟨v3,rfl,ho3,hv3,hf3⟩;have hf3':Fr (fun k=>F1 k) wr w3:=(Fr.of_below HBP.out _).trans (hf3.mono (fun i _ h=>HQ2.out i h));have hu3:=hf3.heap HUX.out (fun e=>HU1.out (HQ2.out U e));have hx3:=hf3.heap HBX.out (fun e=>by have:=HHF1.out _ (HQ2.out _ e);omega);refine hK.out _ _ ⟨hu3,hx3⟩ (fun hHeld=>?_);clear hK K;refine u_ ?_;refine Zu (i:=8) (gT_ rfl) k_ k_ (fun K hK=>?_);clear hHeld;rw [if_pos n18_];go_simp;have hB8:Below w3.heap.size w3 (w3.alloc (.cells #[.string ⟨p1.toArray⟩,.string ⟨p2.toArray⟩] 64)):=b_.alloc l_ _;have hA3:=heap_alloc_new w3 (.cells #[.string ⟨p1.toArray⟩,.string ⟨p2.toArray⟩] 64);obtain ⟨oa,cap,w4,r1,r2,r3,r4⟩:=HEND.out (w3.alloc (.cells #[.string ⟨p1.toArray⟩,.string ⟨p2.toArray⟩] 64)) v3 w3.heap.size _ n104_ (hf3'.trans (Fr.of_below hB8 _)) (Za hu3 hB8) (Za hx3 hB8) (Zo ho3 hB8) hv3 hA3;refine hK.out _ _ ⟨Za hu3 hB8,Za hx3 hB8⟩ (fun hHeld=>?_);clear hK K;refine u_ ?_;refine Zu (i:=9) (gT_ rfl) k_ k_ (fun K hK=>?_);clear hHeld;refine YU n18_ (.tmp 30) (.tmp 32) 25 n18_ r1 n18_ n18_ ?_;refine hK.out _ _ ⟨r2,r3⟩ (fun hHeld=>?_);clear hK K;refine u_ ?_;refine ZF k_ ?_;clear hHeld;have HP4:=h_ r4;obtain ⟨g1,g2,g3,_⟩:=rd r2;have g19:=(g1 19).trans HCS.out;have g29:=g2 19;clear ho3 hv3 hf3 hf3' hu3 hx3 hB8 hA3 r1 r2 r3 r4 g1 g2;exact m70_
   ·clear hHeld
    rw [if_pos n18_];go_simp;have hB8:Below wp.heap.size wp (wp.alloc (.cells #[.string ⟨p1.toArray⟩,.string ⟨p2.toArray⟩] 64)):=b_.alloc l_ _;have hA8:=heap_alloc_new wp (.cells #[.string ⟨p1.toArray⟩,.string ⟨p2.toArray⟩] 64);refine hK.out _ _ ⟨Za HUX.out hB8,Za HBX.out hB8⟩ (fun hHeld=>?_);clear hK K;refine u_ ?_;refine Zu (i:=6) (gT_ rfl) k_ k_ (fun K hK=>?_);clear hHeld;rw [if_pos n18_];go_simp;refine (HCL.out (wp.alloc (.cells #[.string ⟨p1.toArray⟩,.string ⟨p2.toArray⟩] 64)) (Below.more HBP.out hB8) (Za HBX.out hB8) (Zo HOW.out hB8)).mono ?_;rintro e w3 ⟨v3,rfl,ho3,hv3,hf3⟩;have hf3':Fr (fun k=>F1 k) wr w3:=((Fr.of_below HBP.out _).trans (Fr.of_below hB8 _)).trans (hf3.mono (fun i _ h=>HQ2.out i h));have hu3:=hf3.heap (Za HUX.out hB8) (fun e=>HU1.out (HQ2.out U e));have hx3:=hf3.heap (Za HBX.out hB8) (fun e=>by have:=HHF1.out _ (HQ2.out _ e);omega);have hA3:=hf3.heap hA8 (fun e=>by have:=HHF1.out _ (HQ2.out _ e);have:=HBP.out.size;omega);obtain ⟨oa,cap,w4,r1,r2,r3,r4⟩:=HEND.out w3 v3 wp.heap.size _ n104_ hf3' hu3 hx3 ho3 hv3 hA3;refine hK.out _ _ ⟨hu3,hx3⟩ (fun hHeld=>?_);clear hK K;refine u_ ?_;refine Zu (i:=9) (gT_ rfl) k_ k_ (fun K hK=>?_);clear hHeld;refine YU n18_ (.tmp 30) (.tmp 32) 25 n18_ r1 n18_ n18_ ?_;refine hK.out _ _ ⟨r2,r3⟩ (fun hHeld=>?_);clear hK K;refine u_ ?_;refine ZF k_ ?_;clear hHeld;have HP4:=h_ r4;obtain ⟨g1,g2,g3,_⟩:=rd r2;have g19:=(g1 19).trans HCS.out;have g29:=g2 19;clear ho3 hv3 hf3 hf3' hu3 hx3 hB8 hA3 hA8 r1 r2 r3 r4 g1 g2;exact m70_
  ·have hk3:k=ps.length:=o_
   subst hk3;rw [List.drop_of_length_le l_] at HQ;go_wp2_with fail;go_end0;exact ⟨rfl,by rw [<-HQ.out];exact Zq.below HB1.out HP.out⟩):p:=h
theorem m70_{p:Prop}(h:p:=by
  have hlf:=HLF.out;go_wp2_with fail;go_roundg (gk-1)
  case measure=>omega
  case rel=>exact ⟨k+1,_,o_,n9_,o_,n6_,HN,HP4⟩):p:=h
theorem Zlc(x:Str×Str)(p:Str)(b:Nat)(W:World)(hs:W.cell? ⟨b,0,none⟩=some (.string ⟨p.toArray⟩)) :
  Calls prog 210 #[.agg (Qu x).toArray,.pointer (some ⟨b,0,none⟩)] W fun e w'=>e=.returned (.bool (x.1==p))/\Below W.heap.size W w':=by
 have hb:b<W.heap.size:=World.block_lt_of_cell? W _ hs;have hne:b≠W.heap.size:=o_;unfold Qu;generalize hq:(x.1==p)=r;go_enter func210,ntmps210;go_wp2_with fail;go_ret;exact ⟨rfl,b_.alloc l_ _⟩
theorem ZgA:∀args w,(callFunc 210 args).run prog w=.ok (.enter 210 args) w:=enters_of func210 k_ rfl
theorem Zlk:∀(l:List Str) (r:List (Str×Str)),JG l=some r->r.length=l.length
 |[],r,h=>by rw [JG] at h;injection h with h;subst h;rfl
 |w::t,r,h=>by
  rw [JG] at h;split at h
  ·obtain ⟨x,hx,rfl⟩:=Option.map_eq_some_iff.1 h
   simp [Zlk t x hx]
  ·cases h
theorem Zsh(s:Str):(Zay s).1.length<=32:=by
 unfold Zay;cases hs:split s with
 |error e=>simp
 |ok l=>
  have h1:=(Zbm s l hs).1;simp only;cases he:JG l with
  |none=>simp
  |some r=>simp only;rw [Zlk l r he];exact h1
theorem Zq.frame{w w':World}{U:Nat}{cs:Array Value}{j:Nat}{F:Nat->Prop}{c:UC}(h:Zq w w' U cs j F c):Fr (fun k=>k=U\/F k) w w':=by
 obtain ⟨_,_,_,_,h,_⟩:=h;exact h
theorem Zr9(U:Nat)(cs:Array Value)(F:Nat->Prop)(l:List (Str×Str))(v:Value)(w:World)(hb:w.heap[U]?=some (.cells cs 28 (0,0)))(hj:cs[19]?=some v)(hv:Y5 w F (.ps l) v)(hFU:¬F U)(hF:∀k,F k->k<w.heap.size)(hl:l.length<=100000)(hM:Zz w)
  (val:Str) (hval:val.length<=500000000) :
  Calls prog 143 #[.pointer (some ⟨U,0,none⟩),.string ⟨val.toArray⟩] w fun e w'=>e=.returned (.tuple #[])/\Zq w w' U cs 19 F (.ps (Xa (if val=[] then [] else l) (Zay val).1)):=by
 obtain ⟨i0,hi0,hz0,hz1,hz2⟩:=info_parts Zll;obtain ⟨ps,bb,hps⟩:∃ps bb,Zay val=(ps,bb):=⟨_,_,rfl⟩;have hpl:ps.length<=100:=by
  have:=Zsh val
  rw [hps] at this;simp only at this;omega
 have HE:=h_ (ZpK ⟨val.toArray⟩ w n45_ hM ps bb hps);rw [hps];have hUl:=Zd hb;have hjs:19<cs.size:=(c6_.1 hj).1;have HFU:=h_ hFU;have HF:=h_ hF;have HV:=h_ (And.intro hb (And.intro hj hv));obtain ⟨L0,hL0⟩:=e_ (if val=[] then [] else l);have hL0l:L0.length<=100000:=by
  rw [hL0];split
  ·simp
  ·exact hl
 have HL0:=h_ hL0;rw [<-hL0];clear hb hj hv hFU hF hM hps hL0;go_enter func143,ntmps143;go_wp2_with fail;refine HE.out.mono ?_;rintro e w1 ⟨hb1,pv,rfl,hown⟩;obtain ⟨pa,pc,rfl⟩:=ownsRow_form hown;have HB1:=h_ hb1;have HR1:=h_ (ZG.of_own (enc:=Qu) (k:=2) (fun _=>rfl) hown);have HNP:=h_ (show ∀b o,pa=some ⟨b,o,none⟩->w.heap.size<=b/\b<w1.heap.size from fun b o e=>by subst e;exact hown.lt b rfl);have hbu:=Za HV.out.1 hb1;obtain ⟨u1,u2,u3,_⟩:=rd hbu;have u19:=(u1 19).trans HV.out.2.1;have f19:=u2 19;have hv1:Y5 w1 F (.ps l) v:=HV.out.2.2.fr (M:=fun _=>False) (Fr.of_below hb1 _) (fun _ _ e=>e);have HPA:=h_ (show Zq w1 w1 U cs 19 F (.ps l) from Zq.refl hbu HV.out.2.1 hv1 (fun k hk=>c16_ (HF.out k hk) hb1.size));have HPB:=h_ (Zq.of_store (w:=w1) (j:=19) (F:=F) (F':=fun _=>False) (c:=.ps []) (v:=.slice none 0 0) hbu rfl (Fr.refl _ _) ⟨World.ownsRow_nil _ _ _ _,fun g hg=>by simp [Value.ownBlock] at hg⟩ (fun k hk=>hk.elim) (fun e=>e));clear hb1 hown hbu u1 u2 hv1 HE;cases val with
 |nil=>
  go_wp2_with fail;go_loopg [20] (ps.length+1) (fun f i wr=>∃(k:Nat) (L:List (Str×Str)),k<=ps.length/\i=.int .i64 k/\ps.length-k<f/\L.length<=100000+k/\Hid (Xa L (ps.drop k)=Xa L0 ps)/\Hid (Zq w1 wr U cs 19 F (.ps L)))
  case atStart=>exact ⟨0,L0,o_,rfl,o_,o_,rfl,(by rw [HL0.out];exact HPB.out)⟩
  case round=>
   exact m69_
 |cons a t=>
  go_wp2_with fail;go_loopg [20] (ps.length+1) (fun f i wr=>∃(k:Nat) (L:List (Str×Str)),k<=ps.length/\i=.int .i64 k/\ps.length-k<f/\L.length<=100000+k/\Hid (Xa L (ps.drop k)=Xa L0 ps)/\Hid (Zq w1 wr U cs 19 F (.ps L)))
  case atStart=>exact ⟨0,L0,o_,rfl,o_,o_,rfl,(by rw [HL0.out,if_neg s_];exact HPA.out)⟩
  case round=>
   exact m69_
theorem m71_{p:Prop}(h:p:=by
  have HM:=h_ (Zf1 hc);have hcc:L.contains x=true:=n95_;rw [hcc] at HH;clear hc hcc hown hin p1 p3 p4 hU1;go_wp2_with fail;refine HH.out.mono ?_;rintro e w3 ⟨rfl,rfl⟩;go_wp2_with fail;go_roundg (gk-1)
  case measure=>omega
  case rel=>exact ⟨k+1,o_,n9_,o_,by rw [HSN.out,HM.out,hcl.out];exact HP.out⟩):p:=h
theorem m72_{p:Prop}(h:p:=by have hk3:k=l2.length:=o_;subst hk3;rw [c9_ l_] at HP;go_wp2_with fail;go_end0;exact ⟨rfl,by rw [HNE.out];exact HP.out⟩):p:=h
theorem m73_{p:Prop}(h:p:=by
  go_wp2_with fail;go_roundg (gk-1)
  case measure=>omega
  case rel=>exact ⟨k+1,o_,n9_,o_,by rw [HSN.out,HM.out];exact HP1.out⟩):p:=h
theorem m74_{p:Prop}(h:p:=by obtain ⟨rfl,hfu,HP2⟩:=hrel;clear HP;go_wp2_with fail;go_end0;exact ⟨rfl,HP2.out⟩):p:=h
theorem Zmw(oa:Option Addr)(cap:Nat)(l:List Int)(x:Int)(w:World)(hl:l.length<=4294967296)(h:Y8 w oa l) :
  Calls prog 213 #[.slice oa l.length cap,.int .i64 x] w fun e w'=>e=.returned (.bool (l.contains x))/\w'=w:=by
 cases l with
 |nil=>exact Tryz.slices_Contains_int_empty oa cap _ w
 |cons a t=>
  obtain ⟨b,o,rfl,-⟩:=h 0 s_
  have:=Tryz.slices_Contains_int b o (a::t).length cap (a::t) x w s_ o_ (fun j hj=>by
   obtain ⟨b2,o2,e2,hc⟩:=h j hj;injection e2 with e2
   injection e2 with e3 e4 e5
   subst e3;subst e4;rw [hc,List.getD_eq_getElem?_getD,List.getElem?_eq_getElem hj];rfl)
  rw [c9_ s_] at this;exact this
def oneMore{α:Type}[DecidableEq α](l:List α)(x:α):List α:=if x∈l then l else l++[x]
theorem Zf1{α:Type}[DecidableEq α]{l:List α}{x:α}(h:x∈l):oneMore l x=l:=by unfold oneMore;rw [if_pos h]
theorem ZhL{α:Type}[DecidableEq α]{l:List α}{x:α}(h:¬x∈l):oneMore l x=l++[x]:=by unfold oneMore;rw [if_neg h]
theorem Zcq{α:Type}[DecidableEq α]:∀(ws l:List α),(ws.foldl oneMore l).length<=l.length+ws.length
 |[],l=>s_
 |x::t,l=>by
  rw [List.foldl_cons];have h:=Zcq t (oneMore l x)
  have:(oneMore l x).length<=l.length+1:=by unfold oneMore;split<;>simp
  simp;omega
theorem ZhX{α:Type}[DecidableEq α](l ws:List α)(h:ws≠[]):Xw l ws=ws.foldl oneMore l:=by unfold Xw;rw [if_neg h];rfl
theorem ZjK{α:Type}[DecidableEq α](l ws:List α)(k:Nat)(h:k<ws.length):(ws.take (k+1)).foldl oneMore l=oneMore ((ws.take k).foldl oneMore l) ws[k]:=by
 rw [c4_ h,List.foldl_append];rfl
theorem Zmp(U j:Nat)(cs:Array Value)(F:Nat->Prop)(l:List Str)(v:Value)(w:World)(hb:w.heap[U]?=some (.cells cs 28 (0,0)))(hj:cs[j]?=some v)(hv:Y5 w F (.ss l) v)(hFU:¬F U)(hF:∀k,F k->k<w.heap.size)
  (oa2:Option Addr) (cap2:Nat) (l2:List Str) (hl:l.length+l2.length<=1000000000) (hs:Zp w oa2 l2) (hA:∀b o,oa2=some ⟨b,o,none⟩->b<w.heap.size/\b≠U/\¬F b) :
  Calls prog 216 #[.pointer (some ⟨U,j,none⟩),.slice oa2 l2.length cap2] w fun e w'=>e=.returned (.tuple #[])/\Zq w w' U cs j F (.ss (Xw l l2)):=by
 obtain ⟨i0,hi0,hz0,hz1,hz2⟩:=info_parts ZkN;have HFU:=h_ hFU;have HF:=h_ hF;have hbU:=Zd hb;have HB:=h_ hb;have hjs:j<cs.size:=(c6_.1 hj).1;have HS:=h_ hs;have HA:=h_ hA;cases l2 with
 |nil=>
  have c0:w.cell? ⟨U,j,none⟩=some v:=n106_;obtain ⟨_,f4,s4,_⟩:=rd hb;have f40:=f4 j;have HP:=h_ (Zq.of_store (j:=j) (F:=F) (F':=fun _=>False) (c:=.ss []) (v:=.slice none 0 0) hb rfl (Fr.refl _ _) ⟨World.ownsRow_nil _ _ _ _,fun g hg=>by simp [Value.ownBlock] at hg⟩ (fun k hk=>hk.elim) (fun e=>e));clear hb hj hv hFU hF hs hA f4;go_enter func216,ntmps216;go_wp2_with fail;go_loopg [13] 1 (fun f i wr=>i=.int .i64 0/\0<f/\Hid (Zq w wr U cs j F (.ss [])))
  case atStart=>exact ⟨rfl,o_,HP⟩
  case round=>
   exact m74_
 |cons a0 t0=>
  have HNE:=h_ (ZhX l (a0::t0) s_);have hpos:((a0::t0).length:Int)≠0:=n85_;have hpos1:(((a0::t0).length:Int)==0)=false:=n90_;generalize a0::t0=l2 at *;have HP0:=h_ (show Zq w w U cs j F (.ss ((l2.take 0).foldl oneMore l)) from Zq.refl hb hj hv hF);clear hb hj hv hFU hF hs hA;go_enter func216,ntmps216;go_wp2_with fail;go_loopg [13] (l2.length+1) (fun f i wr=>∃k:Nat,k<=l2.length/\i=.int .i64 k/\l2.length-k<f/\Hid (Zq w wr U cs j F (.ss ((l2.take k).foldl oneMore l))))
  case atStart=>exact ⟨0,o_,rfl,o_,HP0⟩
  case round=>
   obtain ⟨k,hk,rfl,hfu,HP⟩:=hrel;clear HP0;by_cases hlt:k<l2.length
   ·obtain ⟨v1,F1,p1,p2,p3,p4⟩:=HP.out
    obtain ⟨L,hL⟩:=e_ ((l2.take k).foldl oneMore l);have hLn:L.length<=1000000000:=by rw [hL];have:=Zcq (l2.take k) l;rw [List.length_take] at this;omega
    rw [<-hL] at p2;obtain ⟨x,hx⟩:=e_ (l2[k]);have HSN:=h_ (show (l2.take (k+1)).foldl oneMore l=oneMore L x by rw [ZjK l l2 k hlt,hL,hx]);have hrow:Zp wr oa2 l2:=HS.out.frM p3 (fun b o e=>by
     have:=HA.out b o e
     rintro (h|h)
     ·exact this.2.1 h
     ·exact this.2.2 h)
    obtain ⟨b2,o2,rfl,d0⟩:=hrow k hlt;rw [<-hx] at d0;obtain ⟨hown,hin⟩:=p2;obtain ⟨oa,cap,rfl⟩:=ownsRow_form hown;have c0:wr.cell? ⟨U,j,none⟩=some (.slice oa L.length cap):=by rw [(rd p1).1,c15_ hjs]
    have hU1:¬F1 U:=fun h=>by
     rcases (p4 U h).1 with h2|h2
     ·exact HFU.out h2
     ·omega
    have HH:=h_ (ZhV oa cap L x wr o_ (Zp.of_own hown));have hz:(k:Int)<(l2.length:Int):=o_;have hcl:=h_ hL;clear hL hx hrow;by_cases hc:x∈L
    ·exact m71_
    ·have HM:=h_ (ZhL hc)
     have hcc:L.contains x=false:=n95_;rw [hcc] at HH;obtain ⟨oa3,cap3,w4,hrun,hb4,hf4,hown4,hF4,hU4,-⟩:=Zcn (P:=prog) 26 26 9 i0 (.string ⟨#[]⟩) 1 16 underlying26 hi0 hz0 hz1 hz2 n18_ d_ p1 hown hin hU1 o_ d_ [.string ⟨x.toArray⟩] rfl n91_;have HRUN:=h_ hrun;have hc4:Y5 w4 (fun g=>(Value.slice oa3 (L.length+1) cap3).ownBlock=some g) (.ss (L++[x])) (.slice oa3 (L.length+1) cap3):=⟨by rw [Xc,c5_];exact hown4,fun g hg=>hg⟩;have HP1:=h_ (Zq.trans' p3 p4 (Zq.of_store (j:=j) hb4 rfl hf4 hc4 hF4 hU4));have c1:w4.cell? ⟨U,j,none⟩=some (.slice oa L.length cap):=by rw [(rd hb4).1,c15_ hjs]
     obtain ⟨_,f4,s4,_⟩:=rd hb4;have f40:=f4 j;clear hc hcc hown hin p1 p3 p4 hU1 hrun hown4 hb4 hc4 hF4 hU4 hf4 f4;go_wp2_with fail;refine HH.out.mono ?_;rintro e w3 ⟨rfl,rfl⟩;go_wp2_with (at_builtin;refine wpList_append_run rfl _ _ 26 rfl HRUN.out rfl rfl ?_);exact m73_
   ·exact m72_
theorem Zl9(U j:Nat)(cs:Array Value)(F:Nat->Prop)(l:List Int)(v:Value)(w:World)(hb:w.heap[U]?=some (.cells cs 28 (0,0)))(hj:cs[j]?=some v)(hv:Y5 w F (.ns l) v)(hFU:¬F U)(hF:∀k,F k->k<w.heap.size)
  (oa2:Option Addr) (cap2:Nat) (l2:List Int) (hl:l.length+l2.length<=1000000000) (hs:Y8 w oa2 l2) (hA:∀b o,oa2=some ⟨b,o,none⟩->b<w.heap.size/\b≠U/\¬F b) :
  Calls prog 212 #[.pointer (some ⟨U,j,none⟩),.slice oa2 l2.length cap2] w fun e w'=>e=.returned (.tuple #[])/\Zq w w' U cs j F (.ns (Xw l l2)):=by
 obtain ⟨i0,hi0,hz0,hz1,hz2⟩:=info_parts ZgL;have HFU:=h_ hFU;have HF:=h_ hF;have hbU:=Zd hb;have HB:=h_ hb;have hjs:j<cs.size:=(c6_.1 hj).1;have HS:=h_ hs;have HA:=h_ hA;cases l2 with
 |nil=>
  have c0:w.cell? ⟨U,j,none⟩=some v:=n106_;obtain ⟨_,f4,s4,_⟩:=rd hb;have f40:=f4 j;have HP:=h_ (Zq.of_store (j:=j) (F:=F) (F':=fun _=>False) (c:=.ns []) (v:=.slice none 0 0) hb rfl (Fr.refl _ _) ⟨World.ownsRow_nil _ _ _ _,fun g hg=>by simp [Value.ownBlock] at hg⟩ (fun k hk=>hk.elim) (fun e=>e));clear hb hj hv hFU hF hs hA f4;go_enter func212,ntmps212;go_wp2_with fail;go_loopg [13] 1 (fun f i wr=>i=.int .i64 0/\0<f/\Hid (Zq w wr U cs j F (.ns [])))
  case atStart=>exact ⟨rfl,o_,HP⟩
  case round=>
   exact m74_
 |cons a0 t0=>
  have HNE:=h_ (ZhX l (a0::t0) s_);have hpos:((a0::t0).length:Int)≠0:=n85_;have hpos1:(((a0::t0).length:Int)==0)=false:=n90_;generalize a0::t0=l2 at *;have HP0:=h_ (show Zq w w U cs j F (.ns ((l2.take 0).foldl oneMore l)) from Zq.refl hb hj hv hF);clear hb hj hv hFU hF hs hA;go_enter func212,ntmps212;go_wp2_with fail;go_loopg [13] (l2.length+1) (fun f i wr=>∃k:Nat,k<=l2.length/\i=.int .i64 k/\l2.length-k<f/\Hid (Zq w wr U cs j F (.ns ((l2.take k).foldl oneMore l))))
  case atStart=>exact ⟨0,o_,rfl,o_,HP0⟩
  case round=>
   obtain ⟨k,hk,rfl,hfu,HP⟩:=hrel;clear HP0;by_cases hlt:k<l2.length
   ·obtain ⟨v1,F1,p1,p2,p3,p4⟩:=HP.out
    obtain ⟨L,hL⟩:=e_ ((l2.take k).foldl oneMore l);have hLn:L.length<=1000000000:=by rw [hL];have:=Zcq (l2.take k) l;rw [List.length_take] at this;omega
    rw [<-hL] at p2;obtain ⟨x,hx⟩:=e_ (l2[k]);have HSN:=h_ (show (l2.take (k+1)).foldl oneMore l=oneMore L x by rw [ZjK l l2 k hlt,hL,hx]);have hrow:Y8 wr oa2 l2:=HS.out.fr p3 (fun b o e=>by
     have:=HA.out b o e
     rintro (h|h)
     ·exact this.2.1 h
     ·exact this.2.2 h)
    obtain ⟨b2,o2,rfl,d0⟩:=hrow k hlt;rw [<-hx] at d0;obtain ⟨hown,hin⟩:=p2;obtain ⟨oa,cap,rfl⟩:=ownsRow_form hown;have c0:wr.cell? ⟨U,j,none⟩=some (.slice oa L.length cap):=by rw [(rd p1).1,c15_ hjs]
    have hU1:¬F1 U:=fun h=>by
     rcases (p4 U h).1 with h2|h2
     ·exact HFU.out h2
     ·omega
    have HH:=h_ (Zmw oa cap L x wr o_ (Y8.of_own hown));have hz:(k:Int)<(l2.length:Int):=o_;have hcl:=h_ hL;clear hL hx hrow;by_cases hc:x∈L
    ·exact m71_
    ·have HM:=h_ (ZhL hc)
     have hcc:L.contains x=false:=n95_;rw [hcc] at HH;obtain ⟨oa3,cap3,w4,hrun,hb4,hf4,hown4,hF4,hU4,-⟩:=Zcn (P:=prog) 24 24 3 i0 (.int .i64 0) 1 8 underlying24 hi0 hz0 hz1 hz2 n18_ d_ p1 hown hin hU1 o_ d_ [.int .i64 x] rfl n91_;have HRUN:=h_ hrun;have hc4:Y5 w4 (fun g=>(Value.slice oa3 (L.length+1) cap3).ownBlock=some g) (.ns (L++[x])) (.slice oa3 (L.length+1) cap3):=⟨by rw [show XK (L++[x])=XK L++[.int .i64 x] by simp [XK],c5_];exact hown4,fun g hg=>hg⟩;have HP1:=h_ (Zq.trans' p3 p4 (Zq.of_store (j:=j) hb4 rfl hf4 hc4 hF4 hU4));have c1:w4.cell? ⟨U,j,none⟩=some (.slice oa L.length cap):=by rw [(rd hb4).1,c15_ hjs]
     obtain ⟨_,f4,s4,_⟩:=rd hb4;have f40:=f4 j;clear hc hcc hown hin p1 p3 p4 hU1 hrun hown4 hb4 hc4 hF4 hU4 hf4 f4;go_wp2_with fail;refine HH.out.mono ?_;rintro e w3 ⟨rfl,rfl⟩;go_wp2_with (at_builtin;refine wpList_append_run rfl _ _ 24 rfl HRUN.out rfl rfl ?_);exact m73_
   ·exact m72_
theorem m75_{p:Prop}(h:p:=by
  by_cases hlt:k<ws.length
  ·have hz:(k:Int)<(ws.length:Int):=o_
   have hfr:=HP.out.frame;obtain ⟨x,hx⟩:=e_ (ws[k]);have hnA:¬(A=U\/F A):=by
    have:=HAL.out
    rintro (h|h)
    ·omega
    ·have:=HF.out _ h;omega
   have hnR:¬(w1.heap.size=U\/F w1.heap.size):=by
    rintro (h|h)
    ·omega
    ·have:=HF.out _ h;omega
   have d0:wr.cell? ⟨A,k,none⟩=some (.string ⟨x.toArray⟩):=by
    have:=HST.out k hlt
    rw [Nat.zero_add] at this;rw [hx,<-this];exact World.cell?_of_block (hfr.block A hAw hnA)
   have hrbr:=hfr.heap HRB.out hnR;have r0:=ZgM hrbr;have HSN:=h_ (show ZW nm rel (if x≠nm/\(rel,x)∉L then L++[(rel,x)] else L) (ws.drop (k+1))=ZW nm rel L0 ws by
    rw [<-HQ.out,List.drop_eq_getElem_cons hlt,<-hx,ZW])
   obtain ⟨v1,F1,q1,q2,q3,q4⟩:=HP.out;have hU1:¬F1 U:=fun h=>by
    rcases (q4 U h).1 with h2|h2
    ·exact HFU.out h2
    ·omega
   have hUr:=Zd q1;have hcs1:(cs.setIfInBounds 4 v1)[4]?=some v1:=c15_ hjs;have hcs0:(cs.setIfInBounds 4 v1)[0]?=some (.string ⟨nm.toArray⟩):=by rw [c13_ d_];exact H0.out
   have hBx:Below wr.heap.size wr (wr.alloc (.cells #[.int .i64 rel,.string ⟨x.toArray⟩] 47)):=b_.alloc l_ _;obtain ⟨wp,hwp⟩:=e_ ((wr.alloc (.cells #[.int .i64 rel,.string ⟨x.toArray⟩] 47)).drew);have hBp:Below wr.heap.size wr wp:=n52_;have hbx:wp.heap[wr.heap.size]?=some (.cells #[.int .i64 rel,.string ⟨x.toArray⟩] 47 (0,0)):=n68_;have hbup:=Za q1 hBp;have hq2p:Y5 wp F1 (.rs L) v1:=q2.fr (M:=fun _=>False) (Fr.of_below hBp _) (fun _ _ e=>e);obtain ⟨oa,cap,rfl⟩:=ownsRow_form q2.1;have hrowp:Zew JK 2 wp (.slice oa L.length cap) L:=⟨⟨oa,cap,rfl,ZG.of_own (enc:=JK) (k:=2) (fun _=>rfl) hq2p.1⟩⟩;have HCT:=h_ (fun b hb=>Zdk (.slice oa L.length cap) L (rel,x) wp hrowp o_ b hb);have hF1:∀k,F1 k->k<wr.heap.size:=fun k hk=>(q4 k hk).2
   have hend:∀(w3:World),Below wp.heap.size wp w3->∃oa2 cap2 w4,(Builtin.append_ #[22,22] 22 #[.slice oa L.length cap,.slice (some ⟨w3.heap.size,0,none⟩) 1 1]).run prog (w3.drew.alloc (.cells #[.int .i64 rel,.string ⟨x.toArray⟩] 47))=.ok (.slice oa2 (L.length+1) cap2) w4/\w4.heap[U]?=some (.cells (cs.setIfInBounds 4 (.slice oa L.length cap)) 28 (0,0))/\w4.heap[wr.heap.size]?=some (.cells #[.int .i64 rel,.string ⟨x.toArray⟩] 47 (0,0))/\Zq (w1.alloc (.cells #[.int .i64 rel] 3)) (w4.setCell ⟨U,4,none⟩ (.slice oa2 (L.length+1) cap2)) U cs 4 F (.rs (L++[(rel,x)])):=by
    intro w3 h3;have hb3:Below wp.heap.size wp w3.drew:=h3.trans (Ze ⟨1,rfl⟩);have hin3:∀g,(Value.slice oa L.length cap).ownBlock=some g->F1 g:=fun g hg=>q2.2 g hg
    obtain ⟨oa2,cap2,w4,r1,r2,r3,r4,r5,r6,r7⟩:=Zcn (P:=prog) (w:=w3.drew) 22 22 47 i0 (.agg #[.int .i64 0,.string ⟨#[]⟩]) 2 24 underlying22 hi0 hz0 hz1 hz2 n18_ d_ (Za hbup hb3) (Zo hq2p.1 hb3) hin3 hU1 o_ d_ [.int .i64 rel,.string ⟨x.toArray⟩] rfl (by intro u hu;simp at hu;rcases hu with rfl|rfl<;>rfl);have hfw3:Below wr.heap.size wr w3.drew:=Below.more hBp hb3;have hfw4:Fr (fun k=>k=U\/F1 k) wr w4:=(Fr.of_below hfw3 _).trans r3;have hc4:Y5 w4 (fun g=>(Value.slice oa2 (L.length+1) cap2).ownBlock=some g) (.rs (L++[(rel,x)])) (.slice oa2 (L.length+1) cap2):=⟨n59_,fun g hg=>hg⟩;have hput:Zq wr (w4.setCell ⟨U,4,none⟩ (.slice oa2 (L.length+1) cap2)) U (cs.setIfInBounds 4 (.slice oa L.length cap)) 4 F1 (.rs (L++[(rel,x)])):=Zq.of_store r2 rfl hfw4 hc4 (fun g hg=>⟨(r5 g hg).1.imp id (fun h=>Nat.le_trans hfw3.size h),(r5 g hg).2⟩) (fun e=>r6 e);refine ⟨oa2,cap2,w4,r1,r2,?_,Zq.trans' q3 q4 hput⟩;have hx3:=Za hbx hb3;rw [r7.block _ (Zd hx3) (fun e=>by have:=hF1 _ (hin3 _ e);omega)];exact hx3
   have HEND:=h_ hend;have HPS:=h_ (fun W (h:Below wr.heap.size wr W)=>(show Zq (w1.alloc (.cells #[.int .i64 rel] 3)) W U cs 4 F (.rs L) from Zq.after HP.out h));have HBP:=h_ hBp;have HUX:=h_ hbup;have HBX:=h_ hbx;have HCS:=h_ hcs1;have HCS0:=h_ hcs0;have hne:U≠wr.heap.size:=o_;have hrne:w1.heap.size≠wr.heap.size:=by have:=Zd hrbr;omega
   have HS:=h_ (And.intro (Za q1 hBx) (heap_alloc_new wr (.cells #[.int .i64 rel,.string ⟨x.toArray⟩] 47)));clear hx HQ HP hend hBp hbx hbup hq2p hF1 hcs1 hcs0 hBx q1 q2 q3 q4 hU1 hrowp hfr hrbr hnA hnR;by_cases hxn:x=nm
   ·have HNX:=h_ (show ZW nm rel L (ws.drop (k+1))=ZW nm rel L0 ws by rw [<-HSN.out,if_neg (fun h=>h.1 hxn)])
    subst hxn;go_wp2_with fail;refine Zk (S:=fun V=>V.heap[U]?=some (.cells (cs.setIfInBounds 4 (.slice oa L.length cap)) 28 (0,0))/\V.heap[wr.heap.size]?=some (.cells #[.int .i64 rel,.string ⟨x.toArray⟩] 47 (0,0))) 12 k_ k_ HS.out (fun hHeld=>?_);refine u_ ?_;(iterate 7 refine dN_ 0 (gT_ rfl) (fun W hW=>by have q0:=((rd hW.1).1 4).trans HCS.out;have q3:=((rd hW.1).1 0).trans HCS0.out;obtain ⟨q1,q2⟩:=XV hW.2;clear hW;go_simp;rfl) (u_ ?_));refine Y4 (i:=7) (v:=undef) (gT_ rfl) k_ k_ k_ k_ (fun _ _ _ h=>h) (Or.inr ⟨n18_,rfl⟩) a_ ?_;refine u_ ?_;refine Y4 (i:=8) (v:=undef) (gT_ rfl) k_ k_ k_ k_ (fun _ _ _ h=>h) (Or.inr ⟨n18_,rfl⟩) a_ ?_;refine u_ ?_;refine Y4 (i:=9) (v:=undef) (gT_ rfl) k_ k_ k_ k_ (fun _ _ _ h=>h) (Or.inr ⟨n18_,rfl⟩) a_ ?_;refine u_ ?_;refine Y4 (i:=10) (v:=undef) (gT_ rfl) k_ k_ k_ k_ (fun _ _ _ h=>h) (Or.inr ⟨n18_,rfl⟩) a_ ?_;refine u_ ?_;refine Y4 (i:=11) (v:=undef) (gT_ rfl) k_ k_ k_ k_ (fun _ _ _ h=>h) (Or.inr ⟨n18_,rfl⟩) a_ ?_;refine u_ ?_;refine ZF k_ ?_;clear hHeld;rw [<-hwp];clear hwp;go_wp2_with fail;go_roundg (gk-1)
    case measure=>omega
    case rel=>exact ⟨k+1,L,o_,n9_,o_,o_,HNX,HPS.out _ HBP.out⟩
   ·have hbx2:(x==nm)=false:=by rw [c11_];exact hxn
    cases hin:L.contains (rel,x) with
    |true=>
     have HNX:=h_ (show ZW nm rel L (ws.drop (k+1))=ZW nm rel L0 ws by rw [<-HSN.out,if_neg (fun h=>h.2 (by simpa using hin))]);have HC:=h_ (HCT.out true hin);clear hin;go_wp2_with fail;refine Zk (S:=fun V=>V.heap[U]?=some (.cells (cs.setIfInBounds 4 (.slice oa L.length cap)) 28 (0,0))/\V.heap[wr.heap.size]?=some (.cells #[.int .i64 rel,.string ⟨x.toArray⟩] 47 (0,0))) 12 k_ k_ HS.out (fun hHeld=>?_);refine u_ ?_;(iterate 12 refine dN_ 0 (gT_ rfl) (fun W hW=>by have q0:=((rd hW.1).1 4).trans HCS.out;have q3:=((rd hW.1).1 0).trans HCS0.out;obtain ⟨q1,q2⟩:=XV hW.2;clear hW;go_simp;rfl) (u_ ?_));refine ZF k_ ?_;clear hHeld;rw [<-hwp];clear hwp;go_wp2_with fail;refine HC.out.mono ?_;rintro e w3 ⟨rfl,hb3⟩;have HB3:=h_ (Below.more HBP.out hb3);clear hb3;go_wp2_with fail;go_roundg (gk-1)
     case measure=>omega
     case rel=>exact ⟨k+1,L,o_,n9_,o_,o_,HNX,HPS.out _ HB3.out⟩
    |false=>
     have HNX:=h_ (show ZW nm rel (L++[(rel,x)]) (ws.drop (k+1))=ZW nm rel L0 ws by rw [<-HSN.out,if_pos ⟨hxn,by simpa using hin⟩]);have HC:=h_ (HCT.out false hin);clear hin;go_wp2_with fail;refine Zk (S:=fun V=>V.heap[U]?=some (.cells (cs.setIfInBounds 4 (.slice oa L.length cap)) 28 (0,0))/\V.heap[wr.heap.size]?=some (.cells #[.int .i64 rel,.string ⟨x.toArray⟩] 47 (0,0))) 12 k_ k_ HS.out (fun hHeld=>?_);refine u_ ?_;(iterate 12 refine dN_ 0 (gT_ rfl) (fun W hW=>by have q0:=((rd hW.1).1 4).trans HCS.out;have q3:=((rd hW.1).1 0).trans HCS0.out;obtain ⟨q1,q2⟩:=XV hW.2;clear hW;go_simp;rfl) (u_ ?_));refine ZF k_ ?_;clear hHeld;rw [<-hwp];clear hwp;go_wp2_with fail;refine HC.out.mono ?_;rintro e w3 ⟨rfl,hb3⟩;have HU3:=h_ (Za HUX.out hb3);have HX3:=h_ (Za HBX.out hb3);obtain ⟨oa2,cap2,w4,r1,r2,r3,r4⟩:=HEND.out w3 hb3;have hB8:Below w3.drew.heap.size w3.drew (w3.drew.alloc (.cells #[.int .i64 rel,.string ⟨x.toArray⟩] 47)):=b_.alloc l_ _;have hS8:=And.intro (Za (show w3.drew.heap[U]?=_ from HU3.out) hB8) (Za (show w3.drew.heap[wr.heap.size]?=_ from HX3.out) hB8);go_wp2_with fail;refine Zk (S:=fun V=>V.heap[U]?=some (.cells (cs.setIfInBounds 4 (.slice oa L.length cap)) 28 (0,0))/\V.heap[wr.heap.size]?=some (.cells #[.int .i64 rel,.string ⟨x.toArray⟩] 47 (0,0))) 8 k_ k_ (show _/\_ from ⟨HU3.out,HX3.out⟩) (fun hHeld=>?_);refine u_ ?_;(iterate 6 refine dN_ 0 (gT_ rfl) (fun W hW=>by have q0:=((rd hW.1).1 4).trans HCS.out;have q3:=((rd hW.1).1 0).trans HCS0.out;obtain ⟨q1,q2⟩:=XV hW.2;clear hW;go_simp;rfl) (u_ ?_));refine Zu (i:=6) (gT_ rfl) k_ k_ (fun K hK=>?_);clear hHeld;rw [if_pos n18_];go_simp;refine hK.out _ _ hS8 (fun hHeld=>?_);clear hK K;refine u_ ?_;refine Zu (i:=7) (gT_ rfl) k_ k_ (fun K hK=>?_);clear hHeld;refine YU n18_ (.tmp 61) (.tmp 63) 22 n18_ r1 n18_ n18_ ?_;refine hK.out _ _ ⟨r2,r3⟩ (fun hHeld=>?_);clear hK K;refine u_ ?_;refine ZF k_ ?_;clear hHeld;have HP4:=h_ r4;obtain ⟨g1,g2,g3,_⟩:=rd r2;have g14:=(g1 4).trans HCS.out;have g24:=g2 4;clear r1 r2 r3 r4 g1 g2 hB8 hS8 hb3;go_wp2_with fail;go_roundg (gk-1)
     case measure=>omega
     case rel=>exact ⟨k+1,_,o_,n9_,o_,n6_,HNX,HP4⟩
  ·have hk3:k=ws.length:=o_
   subst hk3;rw [List.drop_of_length_le l_] at HQ;go_wp2_with fail;go_end0;exact ⟨rfl,by rw [<-HQ.out];exact Zq.below HB2.out HP.out⟩):p:=h
theorem ZoT(x:Int×Str)(rel:Int)(b:Nat)(W:World)(hs:W.cell? ⟨b,0,none⟩=some (.int .i64 rel)) :
  Calls prog 218 #[.agg (JK x).toArray,.pointer (some ⟨b,0,none⟩)] W fun e w'=>e=.returned (.bool (x.1==rel))/\Below W.heap.size W w':=by
 have hb:b<W.heap.size:=World.block_lt_of_cell? W _ hs;have hne:b≠W.heap.size:=o_;unfold JK;generalize hq:(x.1==rel)=r;go_enter func218,ntmps218;go_wp2_with fail;go_ret;exact ⟨rfl,b_.alloc l_ _⟩
theorem Zi1:∀args w,(callFunc 218 args).run prog w=.ok (.enter 218 args) w:=enters_of func218 k_ rfl
theorem ZsF:(prog.info? 47).map (fun i=>(i.zero,i.size,i.bytes))=some (some (.agg #[.int .i64 0,.string ⟨#[]⟩]),2,24):=k_
theorem ZgM{w:World}{b:Nat}{x:Value}{T:TypeId}(h:w.heap[b]?=some (.cells #[x] T (0,0))):w.cell? ⟨b,0,none⟩=some x:=n26_
theorem Zje(U j:Nat)(cs:Array Value)(F:Nat->Prop)(l:List Str)(v:Value)(w:World)(hb:w.heap[U]?=some (.cells cs 28 (0,0)))(hj:cs[j]?=some v)(hv:Y5 w F (.ss l) v)(hFU:¬F U)(hF:∀k,F k->k<w.heap.size)(hl:l.length<=100000)
  (key:ByteArray) (HRL:∀W,Calls prog 92 #[.string key] W fun e w'=>e=.returned (.int .i64 0)/\w'=W) (HSL:∀W,Calls prog 145 #[.pointer (some ⟨U,0,none⟩),.string key] W fun e w'=>e=.returned (.pointer (some ⟨U,j,none⟩))/\w'=W) (val:Str) (hval:val.length<=500000000) :
  Calls prog 148 #[.pointer (some ⟨U,0,none⟩),.string key,.string ⟨val.toArray⟩] w fun e w'=>e=.returned (.tuple #[])/\Zq w w' U cs j F (.ss (Xw l (Zg val))):=by
 have HW:=h_ (XY ⟨val.toArray⟩ w n35_);change Hid (Calls _ _ _ _ fun e w'=>∃A,e=.returned (.slice (some ⟨A,0,none⟩) (Zg val).length (Zg val).length)/\w.heap.size<=A/\A<w'.heap.size/\Zbj w' A 0 (Zg val)/\Below w.heap.size w w') at HW;have hll:(Zg val).length<=500000001:=by have:=QB val [];unfold Zg;omega
 generalize Zg val=ws at *;have HON:=h_ (fun W (h:Below w.heap.size w W) A cap (hA:w.heap.size<=A) (hA2:A<W.heap.size) (hs:Zbj W A 0 ws)=>Zmp U j cs F l v W (Za hb h) hj (hv.fr (M:=fun _=>False) (Fr.of_below h _) (fun _ _ e=>e)) hFU (fun k hk=>c16_ (hF k hk) h.size) (some ⟨A,0,none⟩) cap ws o_ (fun i hi=>⟨A,0,rfl,hs i hi⟩) (by
  intro b o e;injection e with e
  injection e with e1 e2
  subst e1
  have:=Zd hb
  refine ⟨hA2,o_,fun h=>?_⟩
  have:=hF _ h
  omega))
 have HR:=h_ HRL;have HS:=h_ HSL;clear HRL HSL hb hj hv hFU hF;go_enter func148,ntmps148;go_wp2_with fail;refine (HR.out w).mono ?_;rintro e w ⟨rfl,rfl⟩;go_wp2_with fail;refine HW.out.mono ?_;rintro e w1 ⟨A,rfl,hA,hA2,hst,hb1⟩;have hB2:Below w1.heap.size w1 (w1.alloc (.cells #[.int .i64 0] 3)):=b_.alloc l_ _;have HB2:=h_ (Below.more hb1 hB2);have HO:=h_ (HON.out _ HB2.out A ws.length hA (c16_ hA2 hB2.size) (hst.below hA2 hB2));clear hst hb1 hB2 HON HW hA hA2;go_wp2_with fail;refine (HS.out _).mono ?_;rintro e w3 ⟨rfl,rfl⟩;go_wp2_with fail;refine HO.out.mono ?_;rintro e w4 ⟨rfl,hp⟩;have HP:=h_ (Zq.below HB2.out hp);clear hp;go_wp2_with fail;refine bodyPost_ret (results_none rfl _ _ _) rfl ?_;exact ⟨rfl,HP.out⟩
theorem Zkp(U:Nat)(cs:Array Value)(F:Nat->Prop)(l:List (Int×Str))(v:Value)(w:World)(hb:w.heap[U]?=some (.cells cs 28 (0,0)))(hj:cs[4]?=some v)(hv:Y5 w F (.rs l) v)(hFU:¬F U)(hF:∀k,F k->k<w.heap.size)(hl:l.length<=100000)
  (nm:Str) (h0:cs[0]?=some (.string ⟨nm.toArray⟩)) (key:ByteArray) (rel:Int) (hrel0:(rel==0)=false) (HRL:∀W,Calls prog 92 #[.string key] W fun e w'=>e=.returned (.int .i64 rel)/\w'=W) (val:Str) (hval:val.length<=500000000) :
  Calls prog 148 #[.pointer (some ⟨U,0,none⟩),.string key,.string ⟨val.toArray⟩] w fun e w'=>e=.returned (.tuple #[])/\Zq w w' U cs 4 F (.rs (ZW nm rel (if val=[] then l.filter (fun r=>r.1 !=rel) else l) (Zg val))):=by
 obtain ⟨i0,hi0,hz0,hz1,hz2⟩:=info_parts ZsF;have HW:=h_ (XY ⟨val.toArray⟩ w n35_);change Hid (Calls _ _ _ _ fun e w'=>∃A,e=.returned (.slice (some ⟨A,0,none⟩) (Zg val).length (Zg val).length)/\w.heap.size<=A/\A<w'.heap.size/\Zbj w' A 0 (Zg val)/\Below w.heap.size w w') at HW;have hll:(Zg val).length<=500000001:=by have:=QB val [];unfold Zg;omega
 generalize Zg val=ws at *;have hUl:=Zd hb;have hjs:4<cs.size:=(c6_.1 hj).1;have HFU:=h_ hFU;have HF:=h_ hF;have HV:=h_ (And.intro hb (And.intro hj hv));have H0:=h_ h0;obtain ⟨L0,hL0⟩:=e_ (if val=[] then l.filter (fun r=>r.1 !=rel) else l);have hL0l:L0.length<=100000:=by
  have:=List.length_filter_le (fun r:Int×Str=>r.1 !=rel) l
  rw [hL0];split
  ·omega
  ·exact hl
 have HL0:=h_ hL0;rw [<-hL0];have HR:=h_ HRL;clear HRL hb hj hv hFU hF hL0 h0;go_enter func148,ntmps148;go_wp2_with fail;refine (HR.out w).mono ?_;rintro e w ⟨rfl,rfl⟩;go_wp2_with fail;refine HW.out.mono ?_;rintro e w1 ⟨A,rfl,hA,hA2,hst,hb1⟩;have hB2:Below w1.heap.size w1 (w1.alloc (.cells #[.int .i64 rel] 3)):=b_.alloc l_ _;obtain ⟨w2,hw2⟩:=e_ (w1.alloc (.cells #[.int .i64 rel] 3));rw [<-hw2] at hB2;obtain ⟨RB,hRB⟩:=e_ w1.heap.size;have hrb2:w2.heap[RB]?=some (.cells #[.int .i64 rel] 3 (0,0)):=by rw [hw2,hRB];exact heap_alloc_new w1 _
 have HRB:=h_ hrb2;have HB2:=h_ (Below.more hb1 hB2);have HST:=h_ (hst.below hA2 hB2);have hAw:A<w2.heap.size:=c16_ hA2 hB2.size;have hRBw:RB<w2.heap.size:=Zd hrb2;have hRB1:w.heap.size<=RB:=by rw [hRB];exact hb1.size
 have hbu:=Za HV.out.1 HB2.out;have hv2:Y5 w2 F (.rs l) v:=HV.out.2.2.fr (M:=fun _=>False) (Fr.of_below HB2.out _) (fun _ _ e=>e);have hF2:∀k,F k->k<w2.heap.size:=fun k hk=>c16_ (HF.out k hk) HB2.out.size
 have HPA:=h_ (show Zq w2 w2 U cs 4 F (.rs l) from Zq.refl hbu HV.out.2.1 hv2 hF2);have r0:=(ZgM hrb2);have hdel:Calls prog 217 #[v,.func (.func 218) #[] #[.pointer (some ⟨RB,0,none⟩)]] w2 fun e w'=>∃v',e=.returned v'/\w'.ownsRow 0 47 2 v' (l.filter fun x=>x.1 !=rel).length (Zx JK (l.filter fun x=>x.1 !=rel))/\v'.ownBlock=v.ownBlock/\Fr (fun k=>v.ownBlock=some k) w2 w':=by
  refine ZnS v l 218 #[.pointer (some ⟨RB,0,none⟩)] Zi1 (fun x=>x.1==rel) w2 hv2.1 o_ (fun W x hW=>?_);have hxW:=hW.heap hrb2 (fun e=>by have:=HF.out _ (hv2.2 _ e);omega);exact ZoT x rel RB W (ZgM hxW)
 have HDEL:=h_ hdel;obtain ⟨u1,u2,u3,_⟩:=rd hbu;have u4:=(u1 4).trans HV.out.2.1;have HBU:=h_ hbu;have HV2:=h_ hv2;have HAL:=h_ hA;clear hst hb1 hB2 HW hA2 hbu hv2 hF2 u1 u2 hdel HR hrb2;subst hRB;subst hw2;cases val with
 |nil=>
  go_wp2_with fail;refine HDEL.out.mono ?_;rintro e w3 ⟨v3,rfl,ho3,hv3,hf3⟩;have hu3:=hf3.heap HBU.out (fun e=>HFU.out (HV2.out.2 U e));have HPB:=h_ (Zq.of_store (w:=(w1.alloc (.cells #[.int .i64 rel] 3))) (j:=4) (F:=F) (F':=fun g=>v3.ownBlock=some g) (c:=.rs (l.filter fun x=>x.1 !=rel)) (v:=v3) hu3 rfl (hf3.mono (fun i _ h=>.inr (HV2.out.2 i h))) ⟨ho3,fun g hg=>hg⟩ (fun k hk=>⟨.inl (HV2.out.2 k (hv3 ▸ hk)),(ho3.lt k hk).2⟩) (fun e=>HFU.out (HV2.out.2 U (hv3 ▸ e))));obtain ⟨g1,g2,g3,_⟩:=rd hu3;have g14:=(g1 4).trans HV.out.2.1;have g24:=g2 4;obtain ⟨oa3,cap3,rfl⟩:=ownsRow_form ho3;clear ho3 hv3 hf3 hu3 g1 g2;go_wp2_with fail;go_loopg [35] (ws.length+1) (fun f i wr=>∃(k:Nat) (L:List (Int×Str)),k<=ws.length/\i=.int .i64 k/\ws.length-k<f/\L.length<=100000+k/\Hid (ZW nm rel L (ws.drop k)=ZW nm rel L0 ws)/\Hid (Zq (w1.alloc (.cells #[.int .i64 rel] 3)) wr U cs 4 F (.rs L)))
  case atStart=>exact ⟨0,L0,o_,rfl,o_,o_,rfl,(by rw [HL0.out];exact HPB.out)⟩
  case round=>
   obtain ⟨k,L,hk,rfl,hfu,hLl,HQ,HP⟩:=hrel;clear HPA HPB HDEL;exact m75_
 |cons a t=>
  go_wp2_with fail;go_loopg [35] (ws.length+1) (fun f i wr=>∃(k:Nat) (L:List (Int×Str)),k<=ws.length/\i=.int .i64 k/\ws.length-k<f/\L.length<=100000+k/\Hid (ZW nm rel L (ws.drop k)=ZW nm rel L0 ws)/\Hid (Zq (w1.alloc (.cells #[.int .i64 rel] 3)) wr U cs 4 F (.rs L)))
  case atStart=>exact ⟨0,L0,o_,rfl,o_,o_,rfl,(by rw [HL0.out,if_neg s_];exact HPA.out)⟩
  case round=>
   obtain ⟨k,L,hk,rfl,hfu,hLl,HQ,HP⟩:=hrel;clear HPA HDEL;exact m75_
end Go.Proofs.YtmgmbeipbeknaaaGreatDoor
