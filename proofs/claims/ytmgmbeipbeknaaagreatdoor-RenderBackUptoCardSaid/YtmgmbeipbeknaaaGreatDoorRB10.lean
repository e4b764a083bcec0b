import Derived.Deep.LoopGhost
import Derived.Test.YtmgmbeipbeknaaaGreatDoorRB3
import Derived.Test.YtmgmbeipbeknaaaGreatDoorRB5
import Derived.Test.YtmgmbeipbeknaaaGreatDoorRB7
import Derived.Test.YtmgmbeipbeknaaaGreatDoorRB8
import Derived.Test.YtmgmbeipbeknaaaGreatDoorRB9
namespace Go.Proofs.YtmgmbeipbeknaaaGreatDoor
open Go.Proofs.Tryz
open Go Go.RowKit
set_option linter.all false
set_option maxHeartbeats 16000000
set_option maxRecDepth 100000
theorem ZeS(s:ByteArray)(w:World)(hs:s.size<4294967281)(hm:Zz w)(b:Bool)(hb:decide (Zt s.data.toList≠0)=b) :
  Calls prog 126 #[.string s] w fun e w'=>e=.returned (.bool b)/\Below w.heap.size w w':=by
 have HC:=h_ (J2 s w hs hm _ rfl);have hb':((Zt s.data.toList:Int)!=0)=b:=by
  rw [<-hb];by_cases h:Zt s.data.toList=0
  ·rw [h];rfl
  ·have:((Zt s.data.toList:Int)==0)=false:=n15_
   simp [bne,this,h]
 generalize Zt s.data.toList=n at HC hb';clear hb;go_enter func126,ntmps126;go_wp2_with (refine HC.out.mono ?_;rintro e w' ⟨rfl,hb1⟩);go_ret;exact ⟨rfl,hb1⟩
theorem m6_{p:Prop}(h:p:=by rintro e w1 ⟨rfl,hb1⟩;have HB1:=h_ hb1;clear hb1;go_wp2_with fail;go_ret;exact ⟨n14_,HB1.out⟩):p:=h
theorem m7_{p:Prop}(h:p:=by go_wp2_with fail;go_ret;exact ⟨by rw [HR.out,hi];rfl,HB1.out⟩):p:=h
def ZcE(s:Str):Str×Str×Bool:=if Zt s=0 then ([],[],false) else cutAt (ZX s).1
def Zd7(s:Str):Bool:=(ZcE s).2.2&&(ZcE s).2.1.isEmpty
def ZaQ(s:Str):Bool:=decide (Zt s≠0)&&!Zd7 s
theorem ZjF(s:ByteArray)(w:World)(hs:s.size<4294967281)(hm:Zz w)(p i:Str)(f:Bool)(hp:ZcE s.data.toList=(p,i,f)) :
  Calls prog 68 #[.string s] w fun e w'=>e=.returned (.tuple #[.string ⟨p.toArray⟩,.string ⟨i.toArray⟩,.bool f])/\Below w.heap.size w w':=by
 obtain ⟨a,b,hab⟩:∃a b,ZX s.data.toList=(a,b):=⟨_,_,rfl⟩;have hl:s.data.toList.length=s.size:=s_;have hal:a.length<=s.size:=by have:=(ZbQ s.data.toList).1;rw [hab,hl] at this;exact this
 unfold ZcE at hp;rw [hab] at hp;have HM:=h_ hm;have HC1:=h_ (fun W=>ZpJ s W o_ a b hab);have HC2:=h_ (fun W (h:Zz W) q j g hq=>Zju ⟨a.toArray⟩ W (by show a.toArray.size<_;simp;omega) h q j g hq);clear hm;by_cases h0:Zt s.data.toList=0
 ·rw [if_pos h0] at hp
  obtain ⟨rfl,rfl,rfl⟩:p=[]/\i=[]/\f=false:=by simpa using hp
  have HMY:=h_ (fun W h=>ZeS s W hs h false (by simp [h0]));clear hp h0;go_enter func68,ntmps68;go_wp2_with fail;refine (HMY.out w HM.out).mono ?_;rintro e w1 ⟨rfl,hb1⟩;have HB1:=h_ hb1;clear hb1;go_wp2_with fail;refine bodyPost_ret (v:=.tuple #[.string ⟨([]:Str).toArray⟩,.string ⟨([]:Str).toArray⟩,.bool false]) ?_ rfl ⟨rfl,HB1.out⟩;simp [results,results68,go_sem]
 ·rw [if_neg h0] at hp
  have HMY:=h_ (fun W h=>ZeS s W hs h true (by simp [h0]));have HP:=h_ hp;clear hp h0;go_enter func68,ntmps68;go_wp2_with fail;refine (HMY.out w HM.out).mono ?_;rintro e w1 ⟨rfl,hb1⟩;have HB1:=h_ hb1;clear hb1;go_wp2_with fail;refine (HC1.out w1).mono ?_;rintro e w2 ⟨rfl,n2,rfl⟩;have HB2:=h_ (HB1.out.trans (show Below w.heap.size w1 (w1.drewN n2) from Ze ⟨_,rfl⟩));generalize w1.drewN n2=w2 at *;go_wp2_with fail;refine (HC2.out w2 (HM.out.below HB2.out) p i f HP.out).mono ?_;rintro e w3 ⟨rfl,n3,rfl⟩;have HB3:=h_ (HB2.out.trans (show Below w.heap.size w2 (w2.drewN n3) from Ze ⟨_,rfl⟩));generalize w2.drewN n3=w3 at *;go_wp2_with fail;refine bodyPost_ret (v:=.tuple #[.string ⟨p.toArray⟩,.string ⟨i.toArray⟩,.bool f]) ?_ rfl ⟨rfl,HB3.out⟩;simp [results,results68,go_sem]
theorem Zmd(s:ByteArray)(w:World)(hs:s.size<4294967281)(hm:Zz w)(r:Bool)(hr:Zd7 s.data.toList=r) :
  Calls prog 28 #[.string s] w fun e w'=>e=.returned (.bool r)/\Below w.heap.size w w':=by
 obtain ⟨p,i,f,hp⟩:∃p i f,ZcE s.data.toList=(p,i,f):=⟨_,_,_,rfl⟩;have HP:=h_ (ZjF s w hs hm p i f hp);unfold Zd7 at hr;rw [hp] at hr;simp only at hr;clear hp hm;cases f with
 |false=>
  have HR:=h_ (show r=false by rw [<-hr];rfl);clear hr;go_enter func28,ntmps28;go_wp2_with fail;refine HP.out.mono ?_;exact m6_
 |true=>
  have HR:=h_ (show r=i.isEmpty by rw [<-hr];simp);clear hr;go_enter func28,ntmps28;go_wp2_with fail;refine HP.out.mono ?_;rintro e w1 ⟨rfl,hb1⟩;have HB1:=h_ hb1;clear hb1;cases hi:i.isEmpty with
  |true=>
   exact m7_
  |false=>
   exact m7_
theorem ZlV(s:ByteArray)(w:World)(hs:s.size<4294967281)(hm:Zz w)(r:Bool)(hr:ZaQ s.data.toList=r) :
  Calls prog 257 #[.string s] w fun e w'=>e=.returned (.bool r)/\Below w.heap.size w w':=by
 have HM:=h_ hm;obtain ⟨m,hmm⟩:∃m,decide (Zt s.data.toList≠0)=m:=⟨_,rfl⟩;obtain ⟨b,hb⟩:∃b,Zd7 s.data.toList=b:=⟨_,rfl⟩;unfold ZaQ at hr;rw [hmm,hb] at hr;have HMY:=h_ (ZeS s w hs hm m hmm);have HBR:=h_ (fun W h=>Zmd s W hs h b hb);clear hm hmm hb;cases m with
 |false=>
  have HR:=h_ (show r=false by rw [<-hr];rfl);clear hr;go_enter func257,ntmps257;go_wp2_with fail;refine HMY.out.mono ?_;exact m6_
 |true=>
  have HR:=h_ (show r=!b by rw [<-hr];simp);clear hr;go_enter func257,ntmps257;go_wp2_with fail;refine HMY.out.mono ?_;rintro e w1 ⟨rfl,hb1⟩;have HB1:=h_ hb1;clear hb1;go_wp2_with fail;refine (HBR.out w1 (HM.out.below HB1.out)).mono ?_;rintro e w2 ⟨rfl,hb2⟩;have HB2:=h_ (HB1.out.trans (hb2.mono HB1.out.size));clear hb2;go_wp2_with fail;go_ret;exact ⟨n14_,HB2.out⟩
theorem ZnE(x:Nat)(w:World):Calls prog 267 #[.int .i32 (x:Int)] w fun e w'=>e=.returned (.bool (isB x))/\w'=w:=by
 go_enter func267,ntmps267;go_wp2;go_ret;refine ⟨ZB ?_,rfl⟩;unfold isB;rw [Bool.eq_iff_iff];simp;omega
theorem ZiU:∀args w,(callFunc 267 args).run prog w=.ok (.enter 267 args) w:=enters_of func267 k_ rfl
def Zbj(w:World)(b off:Nat)(l:List Str):Prop:=∀j (h:j<l.length),w.cell? ⟨b,off+j,none⟩=some (.string ⟨l[j].toArray⟩)
theorem Zbj.below{w W:World}{b off:Nat}{l:List Str}(h:Zbj w b off l)(hb:b<w.heap.size)(hB:Below w.heap.size w W):Zbj W b off l:=
 fun j hj=>by rw [hB.cell (p:=⟨b,off+j,none⟩) hb];exact h j hj
theorem XY(s:ByteArray)(w:World)(hs:s.size<=4294967296) :
  Calls prog 211 #[.string s] w fun e w'=>∃A,e=.returned (.slice (some ⟨A,0,none⟩) (Zg s.data.toList).length (Zg s.data.toList).length)/\w.heap.size<=A/\A<w'.heap.size/\
   Zbj w' A 0 (Zg s.data.toList)/\Below w.heap.size w w':=by
 have H:=h_ (Tryz.strings_FieldsFunc 267 #[] ZiU isB s w hs (fun W x hb=>(ZnE x W).mono fun e w' ⟨a,q⟩=>⟨a,0,by rw [q];rfl⟩));go_enter func211,ntmps211;go_wp2_with fail;refine H.out.mono ?_;rintro e w1 ⟨A,rfl,hA,hown,hb⟩;have hfb:=Zi0 s;generalize Lib.goFieldsP isB s=G at hown hfb⊢;have hlen:G.length=(Zg s.data.toList).length:=by rw [<-hfb];simp
 have HO:=h_ hown;have HB:=h_ hb;have HF:=h_ hfb;clear hown hb hfb H;go_wp2_with fail;go_ret;refine ⟨A,rfl,hA,(HO.out.lt A rfl).2,fun j hj=>?_,HB.out⟩;have hj':j<G.length:=o_
 have:=HO.out.cellAt j (by simpa using hj')
 rw [Nat.zero_add] at *;rw [this];simp only [List.getElem?_map];rw [List.getElem?_eq_getElem hj'];have h2:(Zg s.data.toList)[j]=G[j].data.toList:=by
  have:=HF.out
  simp only [<-this,List.getElem_map]
 rw [h2];rfl
theorem Zo6(g:FuncId)(lb:Array Value)(eg:∀args w,(callFunc g args).run prog w=.ok (.enter g args) w)(p:Str->Bool)(b off cap:Nat)(l:List Str)(w:World)(hb:b<w.heap.size)(hbig:l.length<=4294967296)
  (hp:∀(W:World) j (h:j<l.length),Below w.heap.size w W->Calls prog g (#[.string ⟨l[j].toArray⟩]++lb) W fun e w'=>e=.returned (.bool (p l[j]))/\Below w.heap.size w w') (hc:Zbj w b off l) :
  Calls prog 320 #[.slice (some ⟨b,off,none⟩) l.length cap,.func (.func g) #[] lb] w fun e w'=>e=.returned (.int .i64 (Lib.idxBy (fun _ y=>p y) l []))/\Below w.heap.size w w':=by
 have HP:=h_ hp;have HC:=h_ hc;clear hp hc;go_enter func320,ntmps320;go_wp2;go_loopg [5,8] l.length (fun gg _ s8 wr=>∃kk:Nat,kk<=l.length/\l.length-kk<=gg/\s8=.int .i64 kk/\Hid (Below w.heap.size w wr)/\Hid (∀j,j<kk->p l[j]! =false))
 case atStart=>exact ⟨0,Nat.zero_le _,o_,rfl,Below.refl _ w,fun j hj=>absurd hj (Nat.not_lt_zero _)⟩
 case round=>
  obtain ⟨kk,hkk,hg,rfl,BW,A⟩:=hrel;by_cases hlt:kk<l.length
  ·have hltz:(kk:Int)<(l.length:Int):=o_
   have l2:=HC.out.below hb BW.out kk hlt;have hcall:=HP.out wr kk hlt BW.out;have B:=h_ (show l[kk]! =l[kk] from getElem!_pos l kk hlt);generalize l[kk]=y at l2 hcall B;cases hq:p y with
   |true=>
    rw [hq] at hcall;have HQ:=h_ hq;clear hq;have HCL:=h_ hcall;clear hcall;go_wp2_with (go_at_fn g;refine HCL.out.mono ?_;rintro e w' ⟨rfl,hb'⟩);go_ret;refine ⟨?_,hb'⟩
    have:=Lib.idxBy_hit (fun _ y=>p y) l l.length kk [] hlt l_ (by show p l[kk]! =true;rw [B.out];exact HQ.out) A.out
    rw [List.take_length] at this;rw [this];rfl
   |false=>
    rw [hq] at hcall;have HQ:=h_ hq;clear hq;have HCL:=h_ hcall;clear hcall;go_wp2_with (go_at_fn g;refine HCL.out.mono ?_;rintro e w' ⟨rfl,hb'⟩);go_roundg (l.length-(kk+1))
    case measure=>omega
    case rel=>
     refine ⟨kk+1,o_,o_,n9_,hb',(show Hid _ from fun j hj=>?_)⟩;by_cases e:j=kk
     ·subst e
      rw [B.out];exact HQ.out
     ·exact A.out j o_
  ·have hltz:¬(kk:Int)<(l.length:Int):=o_
   have hkl:kk=l.length:=o_;subst hkl;go_wp2;go_ret;refine ⟨?_,BW.out⟩
   have:=Lib.idxBy_miss (fun _ y=>p y) l l.length [] A.out
   rw [List.take_length] at this;rw [this];rfl
theorem Zja(g:FuncId)(lb:Array Value)(eg:∀args w,(callFunc g args).run prog w=.ok (.enter g args) w)(p:Str->Bool)(b off cap:Nat)(l:List Str)(w:World)(hb:b<w.heap.size)(hbig:l.length<=4294967296)
  (hp:∀(W:World) j (h:j<l.length),Below w.heap.size w W->Calls prog g (#[.string ⟨l[j].toArray⟩]++lb) W fun e w'=>e=.returned (.bool (p l[j]))/\Below w.heap.size w w') (hc:Zbj w b off l) :
  Calls prog 289 #[.slice (some ⟨b,off,none⟩) l.length cap,.func (.func g) #[] lb] w fun e w'=>e=.returned (.bool (l.any p))/\Below w.heap.size w w':=by
 have h0:l.any p=decide (0<=Lib.idxBy (fun _ y=>p y) l []):=by
  have:=(Lib.idxBy_nonneg_iff (fun _ y=>p y) l []).symm
  exact this
 rw [h0];have H:=h_ (Zo6 g lb eg p b off cap l w hb hbig hp hc);clear hp hc h0;generalize Lib.idxBy (fun _ y=>p y) l []=r at *;go_enter func289,ntmps289;go_wp2_with fail;refine H.out.mono ?_;rintro e w1 ⟨rfl,hb1⟩;have HB:=h_ hb1;clear hb1;go_wp2_with fail;go_ret;exact ⟨rfl,HB.out⟩
theorem Zqk(s:ByteArray)(u:FuncId)(bx:Nat)(B:Nat)(w0 W:World)(b:Bool)(hbx:W.cell? ⟨bx,0,none⟩=some (.func (.func u) #[] #[]))(eu:∀args w,(callFunc u args).run prog w=.ok (.enter u args) w)
  (hu:Calls prog u #[.string s] W fun e w'=>e=.returned (.bool b)/\Below B w0 w') :
  Calls prog 290 #[.string s,.pointer (some ⟨bx,0,none⟩)] W fun e w'=>e=.returned (.bool (!b))/\Below B w0 w':=by
 have H:=h_ hu;clear hu;go_enter func290,ntmps290;go_wp2_with (go_at_fn u;refine H.out.mono ?_;rintro e w' ⟨rfl,hb'⟩);go_ret;exact ⟨rfl,hb'⟩
theorem Zkb:∀args w,(callFunc 290 args).run prog w=.ok (.enter 290 args) w:=enters_of func290 k_ rfl
def JA(p:Str->Bool)(l:List Str):Bool:=!l.isEmpty&&l.all p
theorem Zlq(u:FuncId)(eu:∀args w,(callFunc u args).run prog w=.ok (.enter u args) w)(p:Str->Bool)(b off cap:Nat)(l:List Str)(w:World)(hb:b<w.heap.size)(hbig:l.length<=4294967296)(hm:Zz w)
  (hp:∀(W:World) j (h:j<l.length),Zz W->Calls prog u #[.string ⟨l[j].toArray⟩] W fun e w'=>e=.returned (.bool (p l[j]))/\Below W.heap.size W w') (hc:Zbj w b off l) (r:Bool) (hr:JA p l=r) :
  Calls prog 255 #[.slice (some ⟨b,off,none⟩) l.length cap,.func (.func u) #[] #[]] w fun e w'=>e=.returned (.bool r)/\Below w.heap.size w w':=by
 unfold JA at hr;have ha:∀w0:World,w0=w.alloc (.cells #[.func (.func u) #[] #[]] 54)->Calls prog 289 #[.slice (some ⟨b,off,none⟩) l.length cap,.func (.func 290) #[] #[.pointer (some ⟨w.heap.size,0,none⟩)]] w0 fun e w'=>e=.returned (.bool (l.any fun x=>!p x))/\Below w0.heap.size w0 w':=by
  rintro w0 rfl;have hB0:Below w.heap.size w (w.alloc (.cells #[.func (.func u) #[] #[]] 54)):=b_.alloc l_ _;have hsz:(w.alloc (.cells #[.func (.func u) #[] #[]] 54)).heap.size=w.heap.size+1:=s_;have hcell:(w.alloc (.cells #[.func (.func u) #[] #[]] 54)).cell? ⟨w.heap.size,0,none⟩=some (.func (.func u) #[] #[]):=s_;generalize w.alloc (.cells #[.func (.func u) #[] #[]] 54)=w0 at *;refine Zja 290 _ Zkb (fun x=>!p x) b off cap l w0 o_ hbig (fun W j hj hW=>?_) (hc.below hb hB0);exact Zqk _ u _ _ _ W (p l[j]) (by rw [hW.cell (p:=⟨w.heap.size,0,none⟩) (by show w.heap.size<_;omega)];exact hcell) eu ((hp W j hj ((hm.below hB0).below hW)).mono fun e w' ⟨a,q⟩=>⟨a,hW.trans (q.mono hW.size)⟩)
 have HA:=h_ ha;clear ha hp hc hm;cases l with
 |nil=>
  have hr':r=false:=by rw [<-hr];rfl
  subst hr';clear hr;go_enter func255,ntmps255;go_wp2_with fail;go_ret;exact ⟨rfl,b_.alloc l_ _⟩
 |cons a t=>
  have hpos:(0:Int)<(((a::t).length:Nat):Int):=n85_;have hra:r=!((a::t).any fun x=>!p x):=by rw [<-hr];show ((a::t).all p)=_;rw [List.all_eq_not_any_not]
  generalize ((a::t).any fun x=>!p x)=q at *;generalize (a::t).length=n at *;subst hra;clear hr;go_enter func255,ntmps255;go_wp2_with fail;refine (HA.out _ rfl).mono ?_;rintro e w1 ⟨rfl,hb1⟩;have HB:=h_ ((Below.refl w.heap.size w).alloc l_ (.cells #[.func (.func u) #[] #[]] 54) |>.trans (hb1.mono s_));clear hb1;go_wp2_with fail;go_ret;exact ⟨rfl,HB.out⟩
theorem m8_{p:Prop}(h:p:=by subst hv;go_enter func132,ntmps132;go_wp2_with fail;refine (HR.out _ (b_.alloc l_ _)).mono ?_;rintro e w1 ⟨rfl,hb1⟩;have HB:=h_ (((Below.refl w.heap.size w).alloc l_ (.cells #[.string ⟨sec.toArray⟩,.string ⟨name.toArray⟩,.int .i64 form,.bool list,.int .i64 kinds,.slice wa wn wc] 82)).trans (hb1.mono s_));clear hb1;go_wp2_with fail;go_ret;exact ⟨rfl,HB.out⟩):p:=h
theorem m9_{p:Prop}(h:p:=by go_enter func132,ntmps132;go_wp2_with fail;go_ret;exact ⟨rfl,b_.alloc l_ _⟩):p:=h
def ZqZ(form:Int)(list:Bool)(v:Str)(m:Bool):Int:=
 if form<1\/11<form then 3 else if v=[]/\(list=true\/form=1) then 0 else if v=[]\/m=false then 12 else 0
theorem ZqN(kv:ZQ)(v:Str)(w:World)(m:Bool)(hr:∀W,Below w.heap.size w W->Calls prog 205 #[.agg (Zm kv).toArray,.string ⟨v.toArray⟩] W fun e w'=>e=.returned (.bool m)/\Below W.heap.size W w')(r:Int)(hv:ZqZ kv.form kv.list v m=r) :
  Calls prog 132 #[.agg (Zm kv).toArray,.string ⟨v.toArray⟩] w fun e w'=>e=.returned (.int .i64 r)/\Below w.heap.size w w':=by
 unfold Zm at *;obtain ⟨sec,name,form,list,kinds,wa,wn,wc⟩:=kv;unfold ZqZ at hv;simp only at *;have HR:=h_ hr;clear hr;by_cases h1:form<1
 ·rw [if_pos (.inl h1)] at hv
  subst hv;exact m9_
 by_cases h2:11<form
 ·rw [if_pos (.inr h2)] at hv
  subst hv;exact m9_
 rw [if_neg o_] at hv;cases v with
 |nil=>
  cases list with
  |true=>
   rw [if_pos s_] at hv;subst hv;exact m9_
  |false=>
   by_cases h3:form=1
   ·subst h3
    rw [if_pos s_] at hv;subst hv;clear h1 h2;exact m9_
   ·rw [if_neg (by simp [h3]),if_pos s_] at hv
    subst hv;exact m9_
 |cons c t=>
  rw [if_neg s_] at hv;have hsz:(⟨(c::t).toArray⟩:ByteArray).size≠0:=n17_;obtain ⟨n1,n2,n3,n4⟩:=Xo hsz;generalize (⟨(c::t).toArray⟩:ByteArray)=s at *;cases m with
  |true=>
   rw [if_neg s_] at hv;exact m8_
  |false=>
   rw [if_pos s_] at hv;exact m8_
end Go.Proofs.YtmgmbeipbeknaaaGreatDoor
