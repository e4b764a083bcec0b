import Derived.WalkKit
import Derived.WalkSpells
import Derived.WalkLawsBesides
import Derived.Lib.FrozenHead2
import Derived.Lib.IndexBytes
import Derived.Lib.Hide
namespace Go.Proofs.YtgoooebfhdbbkaaGreatDoor
open Go Go.RowKit
theorem o_{p:Prop}(h:p:=by omega):p:=h
theorem d_{p:Prop}(h:p:=by decide):p:=h
theorem k_{p:Prop}(h:p:=by kernel_rfl):p:=h
theorem s_{p:Prop}(h:p:=by simp):p:=h
theorem a_{p:Prop}(h:p:=by assumption):p:=h
theorem l_{n:Nat}:n<=n:=Nat.le_refl n
theorem e_{α:Type _}(a:α):∃x,x=a:=⟨a,rfl⟩
theorem b_{B:Nat}{w:World}:Below B w w:=Below.refl _ _
theorem n1_{p:Prop}(h:p:=by exact Zk (Zk (Zk HP9.out (a:=⟨w.heap.size,0,none⟩) (by simp) _) (a:=⟨w.heap.size,1,none⟩) (by simp) _) (a:=⟨w.heap.size,2,none⟩) (by simp) _):p:=h
theorem n2_{p:Prop}(h:p:=by simp;omega):p:=h
theorem n3_{p:Prop}(h:p:=by rw [beq_eq_false_iff_ne];omega):p:=h
theorem n4_{p:Prop}(h:p:=by rw [<-HR.out];rfl):p:=h
theorem n5_{p:Prop}(h:p:=by rw [n0];rfl):p:=h
theorem n6_{p:Prop}(h:p:=by rw [hx];rfl):p:=h
theorem n7_{p:Prop}(h:p:=by first|exact (Below.refl w2.heap.size w2)|exact ((Below.refl w2.heap.size w2)).trans (Zb ⟨_,rfl⟩)|exact (((Below.refl w2.heap.size w2)).trans (Zb ⟨_,rfl⟩)).trans (Zb ⟨_,rfl⟩)):p:=h
theorem n8_{p:Prop}(h:p:=by rw [f];decide):p:=h
theorem n9_{p:Prop}(h:p:=by first|rfl|(rw [<-HR.out];rfl)|(rw [<-HR.out];simp;done)|(rw [<-HR.out];simp;omega)|(rw [<-HR.out];simp [*])):p:=h
theorem n10_{p:Prop}(h:p:=by rw [HR.out];rfl):p:=h
theorem n11_{p:Prop}(h:p:=by rw [<-(HC.out c hc).2.2];exact Qp (ZJ HOW.out (M:=fun k=>k=w.heap.size\/k=w.heap.size+1) ((((Fr.refl _ _).setCell (p:=⟨w.heap.size+1,1,none⟩) (fun _=>.inr rfl) _).setCell (p:=⟨w.heap.size,0,none⟩) (fun _=>.inl rfl) _).setCell (p:=⟨w.heap.size,1,none⟩) (fun _=>.inl rfl) _) (fun g hg _ hm=>by have:=(HOW.out.lt g hg).1;omega)) (by omega)):p:=h
theorem n12_{p:Prop}(h:p:=by decide +kernel):p:=h
theorem n13_{p:Prop}(h:p:=by first|exact HB3.out|exact ⟨HB3.out.os,HB3.out.tape,HB3.out.output,HB3.out.size,HB3.out.block⟩):p:=h
theorem n14_{p:Prop}(h:p:=by go_num):p:=h
theorem n15_{p:Prop}(h:p:=by first|exact HC3.out|exact (HC3.out).trans (Zb ⟨_,rfl⟩)|exact ((HC3.out).trans (Zb ⟨_,rfl⟩)).trans (Zb ⟨_,rfl⟩)):p:=h
theorem n16_{p:Prop}(h:p:=by first|exact HC2.out|exact (HC2.out).trans (Zb ⟨_,rfl⟩)|exact ((HC2.out).trans (Zb ⟨_,rfl⟩)).trans (Zb ⟨_,rfl⟩)):p:=h
theorem n17_{p:Prop}(h:p:=by first|exact dn0 _|exact Xp (dn _ _)|exact dn _ _|exact ⟨_,by rw [show (w.drewN n).drew=(w.drewN n).drewN 1 from rfl,dn2,dn2]⟩|exact ⟨_,by rw [show (w.drewN n).drew=(w.drewN n).drewN 1 from rfl,dn2]⟩):p:=h
theorem n18_{p:Prop}(h:p:=by rw [beq_eq_false_iff_ne];exact hv0):p:=h
theorem n19_{p:Prop}(h:p:=by rfl):p:=h
theorem n20_{p:Prop}(h:p:=by unfold maxLen;omega):p:=h
theorem n21_{p:Prop}(h:p:=by have:=HSZ.out;omega):p:=h
theorem n22_{p:Prop}(h:p:=by have:=HO2.out;rw [Zm] at this;exact this):p:=h
theorem n23_{p:Prop}(h:p:=by have:=(show (wr.drewN j).ownsRow w.heap.size 9 1 (.slice (some ⟨g,0,none⟩) (ws.length+1) cap) (ws.length+1) (Ze (ws++[w0])) from HO2.out).alloc o;rw [Zm] at this;exact this):p:=h
theorem n24_{p:Prop}(h:p:=by simp at *;omega):p:=h
theorem n25_{p:Prop}(h:p:=by show v.toArray.size<=_;simp;omega):p:=h
theorem n26_{p:Prop}(h:p:=by show val.toArray.size<=_;simp;omega):p:=h
theorem n27_{p:Prop}(h:p:=by first|exact dn0 _|exact Xp (dn _ _)|exact dn _ _):p:=h
theorem n28_{p:Prop}(h:p:=by rintro e w' ⟨rfl,hb⟩;exact ⟨rfl,rfl,hS.trans (hb.mono hS.size)⟩):p:=h
theorem n29_{p:Prop}(h:p:=by simp [ByteArray.size]):p:=h
theorem n30_{p:Prop}(h:p:=by simp [Value.oneCell']):p:=h
theorem n31_{p:Prop}(h:p:=by rw [e0] at hl32;omega):p:=h
theorem n32_{p:Prop}(h:p:=by rw [HS.out];exact HP.out):p:=h
theorem n33_{p:Prop}(h:p:=by rw [(rd h).1];rfl):p:=h
theorem n34_{p:Prop}(h:p:=by first|exact HC4.out|exact (HC4.out).trans (Zb ⟨_,rfl⟩)|exact ((HC4.out).trans (Zb ⟨_,rfl⟩)).trans (Zb ⟨_,rfl⟩)):p:=h
theorem n35_{p:Prop}(h:p:=by rw [HW.out];rw [if_neg (by simp;try omega),if_neg (by simp;try omega)]):p:=h
theorem n36_{p:Prop}(h:p:=by rw [<-HN.out];rfl):p:=h
theorem n37_{p:Prop}(h:p:=by cases c<;>first|exact ⟨_,rfl⟩|cases h):p:=h
theorem n38_{p:Prop}(h:p:=by exact cell_one_new _ _ _):p:=h
theorem n39_{p:Prop}(h:p:=by rw [beq_eq_false_iff_ne];exact h3):p:=h
theorem n40_{p:Prop}(h:p:=by rw [beq_eq_false_iff_ne];exact h4):p:=h
theorem n41_{p:Prop}(h:p:=by rw [c];rfl):p:=h
theorem n42_{p:Prop}(h:p:=by simpa using hlt):p:=h
theorem n43_{p:Prop}(h:p:=by have:=Z4 val [];unfold Zc;omega):p:=h
theorem n44_{p:Prop}(h:p:=by rw [haccz];first|(simp only [ByteArray.size];simp;omega)|omega):p:=h
theorem n45_{p:Prop}(h:p:=by rw [<-(Prod.mk.inj HQ.out).1];exact World.ownsRow_nil _ _ _ _):p:=h
theorem n46_{p:Prop}(h:p:=by rw [List.length_take];omega):p:=h
theorem n47_{p:Prop}(h:p:=by intro u hu;simp at hu;subst hu;rfl):p:=h
theorem n48_{p:Prop}(h:p:=by rw [HC.out,if_neg (fun h=>h rfl)];exact hOe.rd):p:=h
theorem n49_{p:Prop}(h:p:=by unfold wrap64;omega):p:=h
theorem n50_{p:Prop}(h:p:=by have:=HBA.out (m+1);first|exact this _|exact ZaK (this _)):p:=h
theorem n51_{p:Prop}(h:p:=by simp [ByteArray.size];omega):p:=h
theorem n52_{p:Prop}(h:p:=by rw [hx];exact List.drop_eq_getElem_cons hlt):p:=h
theorem n53_{p:Prop}(h:p:=by rw [beq_eq_false_iff_ne];exact hpos):p:=h
theorem n54_{p:Prop}(h:p:=by rw [beq_iff_eq];omega):p:=h
theorem n55_{p:Prop}(h:p:=by have:=Hlen.out;omega):p:=h
theorem n56_{p:Prop}(h:p:=by rw [beq_eq_false_iff_ne];exact h1):p:=h
theorem n57_{p:Prop}(h:p:=by rw [beq_eq_false_iff_ne];exact h2):p:=h
theorem n58_{p:Prop}(h:p:=by rw [<-(Prod.mk.inj HQ.out).2];rfl):p:=h
theorem n59_{p:Prop}(h:p:=by simp;try omega):p:=h
theorem n60_{p:Prop}(h:p:=by simpa using h):p:=h
theorem n61_{p:Prop}(h:p:=by rw [<-HN.out]):p:=h
theorem n62_{p:Prop}(h:p:=by rw [List.length_cons];omega):p:=h
theorem n63_{p:Prop}(h:p:=by rw [show (w.drewN n).drew=(w.drewN n).drewN 1 from rfl,dn2,dn2]):p:=h
theorem n64_{p:Prop}(h:p:=by rw [HC.out,if_pos (by decide)];exact YO.zero _):p:=h
theorem n65_{p:Prop}(h:p:=by show s.toArray.size<_;simpa using hs):p:=h
theorem n66_{p:Prop}(h:p:=by rw [show (w.drewN n).drew=(w.drewN n).drewN 1 from rfl,dn2]):p:=h
theorem n67_{p:Prop}(h:p:=by rw [HDR.out,hf,hk];simp;omega):p:=h
theorem n68_{p:Prop}(h:p:=by have:=(Qw s.data.toList).1;rw [hab,hl] at this;exact this):p:=h
theorem n69_{p:Prop}(h:p:=by obtain ⟨_,_,rfl⟩:=ownsRow_form h.1;rfl):p:=h
theorem n70_{p:Prop}(h:p:=by simp<;>omega):p:=h
theorem n71_{p:Prop}(h:p:=by rw [beq_eq_false_iff_ne] at hst;exact hst):p:=h
theorem n72_{p:Prop}(h:p:=by rw [hwp];exact hBx.trans (Zb ⟨1,rfl⟩)):p:=h
theorem n73_{p:Prop}(h:p:=by have:=HSA.out;rw [Zm,<-JJ];exact this _ _):p:=h
theorem n74_{p:Prop}(h:p:=by simp [IntKind.max,IntKind.bits,IntKind.signed];omega):p:=h
theorem n75_{p:Prop}(h:p:=by rw [ZH,YX,List.length_append];exact r4):p:=h
theorem n76_{p:Prop}(h:p:=by rw [Lib.extract_to_end,List.drop_drop]):p:=h
theorem n77_{p:Prop}(h:p:=by rw [HS.out];rfl):p:=h
theorem n78_{p:Prop}(h:p:=by exact hr.drewN _):p:=h
theorem n79_{p:Prop}(h:p:=by simpa using hc):p:=h
theorem n80_{p:Prop}(h:p:=by simpa using h2):p:=h
theorem n81_{p:Prop}(h:p:=by rw [h];rfl):p:=h
theorem n82_{p:Prop}(h:p:=by rw [<-e0];exact hl32):p:=h
theorem n83_{p:Prop}(h:p:=by rw [HO.out.size];decide):p:=h
theorem n84_{p:Prop}(h:p:=by rw [beq_eq_false_iff_ne];exact hmz):p:=h
theorem n85_{p:Prop}(h:p:=by rw [hwp];exact heap_alloc_new wr _):p:=h
theorem n86_{p:Prop}(h:p:=by rw [<-Array.all_toList];rfl):p:=h
theorem n87_{p:Prop}(h:p:=by have:=HB1.out;omega):p:=h
theorem n88_{p:Prop}(h:p:=by rw [HBe4.out];exact Nat.le_refl _):p:=h
theorem n89_{p:Prop}(h:p:=by rw [beq_eq_false_iff_ne];exact h5):p:=h
theorem n90_{p:Prop}(h:p:=by rw [beq_eq_false_iff_ne];exact h7):p:=h
theorem n91_{p:Prop}(h:p:=by rw [ByteArray.size_extract];omega):p:=h
theorem n92_{p:Prop}(h:p:=by (simp [Act.eval];done)):p:=h
theorem n93_{p:Prop}(h:p:=by exact HP9.out):p:=h
theorem n94_{p:Prop}(h:p:=by rw [HW.out];rw [if_pos (by simp;try omega)]):p:=h
theorem n95_{p:Prop}(h:p:=by unfold Addr.add;split<;>simp_all):p:=h
theorem n96_{p:Prop}(h:p:=by simp [ByteArray.getElem_extract]):p:=h
theorem n97_{p:Prop}(h:p:=by simpa using hj):p:=h
theorem n98_{p:Prop}(h:p:=by simp at hsz2⊢;omega):p:=h
theorem n99_{p:Prop}(h:p:=by have:=hf1.size;omega):p:=h
theorem n100_{p:Prop}(h:p:=by rw [e];rfl):p:=h
theorem n101_{p:Prop}(h:p:=by have:=HG1.out;simpa using this):p:=h
theorem n102_{p:Prop}(h:p:=by have:=HG2.out;simpa using this):p:=h
theorem n103_{p:Prop}(h:p:=by rw [HC.out,if_pos (by decide)]):p:=h
theorem n104_{p:Prop}(h:p:=by rw [HRES.out];exact YO.zero _):p:=h
theorem n105_{p:Prop}(h:p:=by rw [<-HN.out,<-hun];exact hmz):p:=h
theorem n106_{p:Prop}(h:p:=by rw [HL0.out,if_pos rfl]):p:=h
theorem n107_{p:Prop}(h:p:=by rw [Zm,List.length_append];exact hown4):p:=h
theorem n108_{p:Prop}(h:p:=by rw [ByteArray.size_extract];simp;omega):p:=h
theorem n109_{p:Prop}(h:p:=by have:=HNL.out;omega):p:=h
theorem n110_{p:Prop}(h:p:=by have:=HB.out.size;simp;omega):p:=h
theorem n111_{p:Prop}(h:p:=by rw [HN.out];exact HFIN.out _ _ HP.out):p:=h
theorem n112_{p:Prop}(h:p:=by obtain ⟨_,_,h,_⟩:=hq2;exact Zg h):p:=h
theorem n113_{p:Prop}(h:p:=by rw [HCS.out];omega):p:=h
theorem n114_{p:Prop}(h:p:=by obtain ⟨_,_,h,_⟩:=hr;exact Zg h):p:=h
theorem n115_{p:Prop}(h:p:=by rw [hU.size];exact hj):p:=h
theorem n116_{p:Prop}(h:p:=by rw [<-hz1];exact heap_alloc_new _ _):p:=h
theorem n117_{p:Prop}(h:p:=by rw [h.size];exact hj):p:=h
theorem n118_{p:Prop}(h:p:=by simpa using Hown.out):p:=h
theorem n119_{p:Prop}(h:p:=by rw [HBe3.out];exact Nat.le_refl _):p:=h
theorem n120_{p:Prop}(h:p:=by rw [beq_eq_false_iff_ne];exact h0):p:=h
theorem n121_{p:Prop}(h:p:=by have:=h.below.size;omega):p:=h
theorem n122_{p:Prop}(h:p:=by rw [(rd hb).1];exact hj):p:=h
theorem n123_{p:Prop}(h:p:=by rw [HL0.out,if_neg hv0]):p:=h
theorem n124_{p:Prop}(h:p:=by rw [<-HN.out];exact hk1):p:=h
theorem n125_{p:Prop}(h:p:=by simpa using hc0):p:=h
theorem n126_{p:Prop}(h:p:=by simpa using hi):p:=h
theorem n127_{p:Prop}(h:p:=by simpa using hv):p:=h
theorem n128_{p:Prop}(h:p:=by simpa using hV):p:=h
theorem n129_{p:Prop}(h:p:=by rw [hsz];omega):p:=h
theorem n130_{p:Prop}(h:p:=by rw [hvz];omega):p:=h
theorem n131_{p:Prop}(h:p:=by rw [bne_iff_ne];omega):p:=h
theorem n132_{p:Prop}(h:p:=by simpa using h32n):p:=h
theorem n133_{p:Prop}(h:p:=by simp [HZ.out]):p:=h
theorem n134_{p:Prop}(h:p:=by rw [HR.out]):p:=h
theorem n135_{p:Prop}(h:p:=by cases h):p:=h
end Go.Proofs.YtgoooebfhdbbkaaGreatDoor
