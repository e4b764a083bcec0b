import Derived.WalkKit
import Derived.WalkSpells
import Derived.WalkLawsBesides
import Derived.Lib.FrozenHead2
import Derived.Lib.IndexBytes
import Derived.Lib.Hide
namespace Go.Proofs.YtmgmbeipbeknaaaGreatDoor
open Go Go.RowKit
set_option linter.all false
def c1_:=@List.getElem?_toArray
def c2_:=@List.getElem?_cons_zero
def c3_:=@List.getElem?_cons_succ
def c4_:=@List.take_succ_eq_append_getElem
def c5_:=@List.length_append
def c6_:=@Array.getElem?_eq_some_iff
def c7_:=@List.all_eq_true
def c8_:=@Nat.le_of_ble_eq_true
def c9_:=@List.take_of_length_le
def c10_:=@List.eq_nil_of_length_eq_zero
def c11_:=@beq_eq_false_iff_ne
def c12_:=@List.cons_append
def c13_:=@Array.getElem?_setIfInBounds_ne
def c14_:=@List.length_cons
def c15_:=@Array.getElem?_setIfInBounds_self_of_lt
def c16_:=@Nat.lt_of_lt_of_le
theorem o_{p:Prop}(h:p:=by omega):p:=h
theorem d_{p:Prop}(h:p:=by decide):p:=h
theorem k_{p:Prop}(h:p:=by kernel_rfl):p:=h
theorem s_{p:Prop}(h:p:=by simp):p:=h
theorem a_{p:Prop}(h:p:=by assumption):p:=h
theorem l_{n:Nat}:n<=n:=Nat.le_refl n
theorem e_{α:Type _}(a:α):∃x,x=a:=⟨a,rfl⟩
theorem b_{B:Nat}{w:World}:Below B w w:=Below.refl _ _
theorem n1_{p:Prop}(h:p:=by decide +kernel):p:=h
theorem n2_{p:Prop}(h:p:=by rw [f];decide):p:=h
theorem n3_{p:Prop}(h:p:=by first|rfl|(rw [<-HR.out];rfl)|(rw [<-HR.out];simp;done)|(rw [<-HR.out];simp;omega)|(rw [<-HR.out];simp [*])):p:=h
theorem n4_{p:Prop}(h:p:=by obtain ⟨y0,z0⟩:=Zi h1;obtain ⟨y1,z1⟩:=Zi h2;go_simp):p:=h
theorem n5_{p:Prop}(h:p:=by unfold YE;rw [s,hfm,if_neg (by rw [hl,hr];decide)];rfl):p:=h
theorem n6_{p:Prop}(h:p:=by simp;omega):p:=h
theorem n7_{p:Prop}(h:p:=by obtain ⟨y0,z0⟩:=Zi s;clear h0 hB hI hdep;go_simp):p:=h
theorem n8_{p:Prop}(h:p:=by show a.put _ (Value.string _)=a.put _ (Value.string ⟨t.toArray⟩);rw [HT.out]):p:=h
theorem n9_{p:Prop}(h:p:=by go_num):p:=h
theorem n10_{p:Prop}(h:p:=by cases c<;>first|exact ⟨_,rfl⟩|cases h):p:=h
theorem n11_{p:Prop}(h:p:=by rintro e w' ⟨rfl,rfl⟩;exact ⟨rfl,(by show a.put _ (Value.string _)=a.put _ (Value.string ⟨t.toArray⟩);rw [HT.out]),hS⟩):p:=h
theorem n12_{p:Prop}(h:p:=by rintro e w' ⟨rfl,hb⟩;exact ⟨rfl,(by show a.put _ (Value.string _)=a.put _ (Value.string ⟨t.toArray⟩);rw [HT.out]),hS.trans (hb.mono hS.size)⟩):p:=h
theorem n13_{p:Prop}(h:p:=by have:=HSZ.out;omega):p:=h
theorem n14_{p:Prop}(h:p:=by rw [HR.out];rfl):p:=h
theorem n15_{p:Prop}(h:p:=by rw [beq_eq_false_iff_ne];omega):p:=h
theorem n16_{p:Prop}(h:p:=by obtain ⟨_,_,_,h3,h4,_⟩:=hW;omega):p:=h
theorem n17_{p:Prop}(h:p:=by simp [ByteArray.size]):p:=h
theorem n18_{p:Prop}(h:p:=by rfl):p:=h
theorem n19_{p:Prop}(h:p:=by first|exact dn0 _|exact QA (dn _ _)|exact dn _ _):p:=h
theorem n20_{p:Prop}(h:p:=by simp at *;omega):p:=h
theorem n21_{p:Prop}(h:p:=by rintro e w' ⟨rfl,hb⟩;exact ⟨rfl,hK _ (hI.trans (hb.mono hI.size))⟩):p:=h
theorem n22_{p:Prop}(h:p:=by simp [hD]):p:=h
theorem n23_{p:Prop}(h:p:=by unfold maxLen;omega):p:=h
theorem n24_{p:Prop}(h:p:=by rw [List.length_append];exact Nat.add_le_add_right hol 1):p:=h
theorem n25_{p:Prop}(h:p:=by first|rfl|(rw [List.length_append];rfl)):p:=h
theorem n26_{p:Prop}(h:p:=by rw [(rd h).1];rfl):p:=h
theorem n27_{p:Prop}(h:p:=by rw [hl,hr];decide):p:=h
theorem n28_{p:Prop}(h:p:=by have:=HR.out;omega):p:=h
theorem n29_{p:Prop}(h:p:=by rw [hu.size];rfl):p:=h
theorem n30_{p:Prop}(h:p:=by rw [hf.size];rfl):p:=h
theorem n31_{p:Prop}(h:p:=by simpa using hlt):p:=h
theorem n32_{p:Prop}(h:p:=by simpa using h):p:=h
theorem n33_{p:Prop}(h:p:=by rw [List.take_zero,List.map_nil,show Yy k.sec []=[] from rfl,List.append_nil];exact HW2):p:=h
theorem n34_{p:Prop}(h:p:=by rw [<-HR0.out];exact HF3.out.below R (Nat.le_of_lt HRB.out) l_ (Nat.le_of_lt HRW.out)):p:=h
theorem n35_{p:Prop}(h:p:=by simp [ByteArray.size];omega):p:=h
theorem n36_{p:Prop}(h:p:=by obtain ⟨y0,z0⟩:=Zi s3;clear h0 hB hI hdep;go_simp):p:=h
theorem n37_{p:Prop}(h:p:=by rw [hx];exact List.getElem_mem hlt2):p:=h
theorem n38_{p:Prop}(h:p:=by rw [e,f] at n3;exact absurd n3 (by decide)):p:=h
theorem n39_{p:Prop}(h:p:=by rw [hx];exact List.getElem_mem hlt):p:=h
theorem n40_{p:Prop}(h:p:=by have:=Hlen.out;omega):p:=h
theorem n41_{p:Prop}(h:p:=by show s.toArray.size<_;simpa using hs):p:=h
theorem n42_{p:Prop}(h:p:=by rw [(rd hPw3).1];rfl):p:=h
theorem n43_{p:Prop}(h:p:=by rw [(rd hPw4).1];rfl):p:=h
theorem n44_{p:Prop}(h:p:=by rw [(rd hPw7).1];rfl):p:=h
theorem n45_{p:Prop}(h:p:=by show val.toArray.size<=_;simp;omega):p:=h
theorem n46_{p:Prop}(h:p:=by rw [Bool.eq_iff_iff];simp):p:=h
theorem n47_{p:Prop}(h:p:=by rw [HNL.out];exact HL.out):p:=h
theorem n48_{p:Prop}(h:p:=by rw [HDR.out,hf,hk];simp;omega):p:=h
theorem n49_{p:Prop}(h:p:=by obtain ⟨_,_,rfl⟩:=ownsRow_form h.1;rfl):p:=h
theorem n50_{p:Prop}(h:p:=by rw [beq_eq_false_iff_ne];exact h3):p:=h
theorem n51_{p:Prop}(h:p:=by rw [beq_eq_false_iff_ne];exact h4):p:=h
theorem n52_{p:Prop}(h:p:=by rw [hwp];exact hBx.trans (Ze ⟨1,rfl⟩)):p:=h
theorem n53_{p:Prop}(h:p:=by rw [List.length_take];omega):p:=h
theorem n54_{p:Prop}(h:p:=by rw [<-Array.all_toList];rfl):p:=h
theorem n55_{p:Prop}(h:p:=by obtain ⟨y0,z0⟩:=Zi s4;clear h0 hB hI hdep;go_simp):p:=h
theorem n56_{p:Prop}(h:p:=by obtain ⟨y0,z0⟩:=Zi s8;clear h0 hB hI hdep;go_simp):p:=h
theorem n57_{p:Prop}(h:p:=by obtain ⟨y0,z0⟩:=Zi s1;clear h0 hB hI hdep;go_simp):p:=h
theorem n58_{p:Prop}(h:p:=by simp [IntKind.max,IntKind.bits,IntKind.signed];omega):p:=h
theorem n59_{p:Prop}(h:p:=by rw [ZT,QJ,List.length_append];exact r4):p:=h
theorem n60_{p:Prop}(h:p:=by have:=HLO.out;omega):p:=h
theorem n61_{p:Prop}(h:p:=by rw [HS.out];rfl):p:=h
theorem n62_{p:Prop}(h:p:=by simp only [List.length_cons,List.length_nil];omega):p:=h
theorem n63_{p:Prop}(h:p:=by exact hr.drewN _):p:=h
theorem n64_{p:Prop}(h:p:=by simpa using h2):p:=h
theorem n65_{p:Prop}(h:p:=by rw [List.length_append,HNL.out];rfl):p:=h
theorem n66_{p:Prop}(h:p:=by rw [HO.out.size];decide):p:=h
theorem n67_{p:Prop}(h:p:=by rw [<-HR.out];rfl):p:=h
theorem n68_{p:Prop}(h:p:=by rw [hwp];exact heap_alloc_new wr _):p:=h
theorem n69_{p:Prop}(h:p:=by rw [HE.out];rfl):p:=h
theorem n70_{p:Prop}(h:p:=by have:=HB1.out;omega):p:=h
theorem n71_{p:Prop}(h:p:=by rw [HBe4.out];exact Nat.le_refl _):p:=h
theorem n72_{p:Prop}(h:p:=by rw [beq_eq_false_iff_ne];exact h1):p:=h
theorem n73_{p:Prop}(h:p:=by rw [beq_eq_false_iff_ne];exact h2):p:=h
theorem n74_{p:Prop}(h:p:=by rw [ByteArray.size_extract];omega):p:=h
theorem n75_{p:Prop}(h:p:=by (simp [Act.eval];done)):p:=h
theorem n76_{p:Prop}(h:p:=by rw [hx];exact List.drop_eq_getElem_cons hlt):p:=h
theorem n77_{p:Prop}(h:p:=by simpa using h1):p:=h
theorem n78_{p:Prop}(h:p:=by simpa using hi):p:=h
theorem n79_{p:Prop}(h:p:=by have:=hf1.size;omega):p:=h
theorem n80_{p:Prop}(h:p:=by rw [(rd hPw6).1];rfl):p:=h
theorem n81_{p:Prop}(h:p:=by rw [ByteArray.size_extract];simp;omega):p:=h
theorem n82_{p:Prop}(h:p:=by cases h):p:=h
theorem n83_{p:Prop}(h:p:=by rw [HSN.out];exact HW5):p:=h
theorem n84_{p:Prop}(h:p:=by unfold Q7;rw [hfm];rfl):p:=h
theorem n85_{p:Prop}(h:p:=by rw [List.length_cons];omega):p:=h
theorem n86_{p:Prop}(h:p:=by obtain ⟨_,_,h,_⟩:=hq2;exact Zd h):p:=h
theorem n87_{p:Prop}(h:p:=by rw [HCS.out];omega):p:=h
theorem n88_{p:Prop}(h:p:=by simp [Value.oneCell']):p:=h
theorem n89_{p:Prop}(h:p:=by obtain ⟨_,_,h,_⟩:=hr;exact Zd h):p:=h
theorem n90_{p:Prop}(h:p:=by rw [beq_eq_false_iff_ne];exact hpos):p:=h
theorem n91_{p:Prop}(h:p:=by intro u hu;simp at hu;subst hu;rfl):p:=h
theorem n92_{p:Prop}(h:p:=by first|rfl|exact dn2 _ _ _):p:=h
theorem n93_{p:Prop}(h:p:=by rw [HBe3.out];exact Nat.le_refl _):p:=h
theorem n94_{p:Prop}(h:p:=by rw [hxy];exact beq_self_eq_true _):p:=h
theorem n95_{p:Prop}(h:p:=by simpa using hc):p:=h
theorem n96_{p:Prop}(h:p:=by simp [UC.strs]):p:=h
theorem n97_{p:Prop}(h:p:=by simp [UC.nums]):p:=h
theorem n98_{p:Prop}(h:p:=by simp [UC.rels]):p:=h
theorem n99_{p:Prop}(h:p:=by simp [UC.cmds]):p:=h
theorem n100_{p:Prop}(h:p:=by unfold Addr.add;split<;>simp_all):p:=h
theorem n101_{p:Prop}(h:p:=by rw [HR2.out];rfl):p:=h
theorem n102_{p:Prop}(h:p:=by have:=h.below.size;omega):p:=h
theorem n103_{p:Prop}(h:p:=by rw [HSZ.out];rfl):p:=h
theorem n104_{p:Prop}(h:p:=by have:=HLF.out;omega):p:=h
theorem n105_{p:Prop}(h:p:=by have he:=eq_of_beq h;simp;omega):p:=h
theorem n106_{p:Prop}(h:p:=by rw [(rd hb).1];exact hj):p:=h
theorem n107_{p:Prop}(h:p:=by unfold Q7;rw [if_pos g]):p:=h
theorem n108_{p:Prop}(h:p:=by simp [UC.str]):p:=h
theorem n109_{p:Prop}(h:p:=by simp [UC.prs]):p:=h
theorem n110_{p:Prop}(h:p:=by simp [UC.num]):p:=h
theorem n111_{p:Prop}(h:p:=by rw [bne,e1];rfl):p:=h
theorem n112_{p:Prop}(h:p:=by have:=HL.out;omega):p:=h
theorem n113_{p:Prop}(h:p:=by simpa using hj):p:=h
theorem n114_{p:Prop}(h:p:=by simpa using hv):p:=h
theorem n115_{p:Prop}(h:p:=by simpa using hV):p:=h
theorem n116_{p:Prop}(h:p:=by rw [hsz];omega):p:=h
theorem n117_{p:Prop}(h:p:=by rw [hvz];omega):p:=h
theorem n118_{p:Prop}(h:p:=by rw [bne_iff_ne];omega):p:=h
theorem n119_{p:Prop}(h:p:=by unfold Zl;rw [f];simp):p:=h
theorem n120_{p:Prop}(h:p:=by rw [hd];simp):p:=h
theorem n121_{p:Prop}(h:p:=by rw [eu];exact hx):p:=h
theorem n122_{p:Prop}(h:p:=by rw [eu];exact hn):p:=h
theorem n123_{p:Prop}(h:p:=by simp [HZ.out]):p:=h
end Go.Proofs.YtmgmbeipbeknaaaGreatDoor
