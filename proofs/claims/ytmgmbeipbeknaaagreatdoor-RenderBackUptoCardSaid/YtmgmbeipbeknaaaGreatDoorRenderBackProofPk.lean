/-
  RenderBack: a unit that was made of any lines is written, if its lines are short enough, and is the same again.
  Condition: what the arguments hold is together of bulk at most 1048576 (the second form). The card ties the two tables of package utf8 that the row lists.
-/
import Derived.Test.YtmgmbeipbeknaaaGreatDoorCards
import Derived.Test.YtmgmbeipbeknaaaGreatDoorTie
import Derived.SevenTiedAt
import Derived.LaidSub
import Derived.Test.YtmgmbeipbeknaaaGreatDoorRB3
import Derived.Test.YtmgmbeipbeknaaaGreatDoorRB11
import Derived.Test.YtmgmbeipbeknaaaGreatDoorRB51
namespace Go.Proofs.YtmgmbeipbeknaaaGreatDoor.lawRenderBack
open Go Go.RowKit Go.ChangeShapes Go.WideShapes Go.ChangeAt
open Go.ChangeMaps (open_string shut_string)
set_option linter.unusedVariables false
set_option maxRecDepth 100000
theorem pow_of {W:World} (h:laidMetH Tryz.prog Rows.renderBackUptoRow.laid W):Pow W:=by
 have h1:=h.filter (fun x=>x.1 == "internal/strconv.uint64pow10")
 rw [show (Rows.renderBackUptoRow.laid.filter fun x=>x.1 == "internal/strconv.uint64pow10")=[("internal/strconv.uint64pow10",Lib.tabData .u64 Lib.pow10Tab)] from by kernel_rfl] at h1
 rw [MakeChecks.laidMetH_plain _ _ _ (by kernel_rfl)] at h1
 exact Lib.tabIs_of_head (g:=5) (t:=325) (e:=257) (n:=20) (by kernel_rfl) (by kernel_rfl) (by kernel_rfl) (by kernel_rfl) (by kernel_rfl) (by kernel_rfl) h1
theorem all_of {ts:List TypeId} (h:∀t∈ts,Tryz.prog.wantsStandIn t=false):(ts.all fun u=>!Tryz.prog.wantsStandIn u)=true:=List.all_eq_true.2 fun t ht=>by rw [h t ht];rfl
theorem noStandM:Tryz.prog.wantsStandIn 33=false:=by kernel_rfl
theorem noStands:Tryz.prog.wantsStandIn 9=false:=by kernel_rfl
theorem contract (H:Type) (enc:TypeId×Value→H) (W:World) (base:Nat) (args:Array Value) (ds gs:List (DataW H)) (before:List MemPlace) (hM:Zz W) (hP:Pow W)
  (hval:∀(j:Nat) t v,Tryz.f4.params[j]?=some t→args[j]?=some v→Value.okWide Tryz.prog W .any base t v)
  (hW:DataW.Whole enc Tryz.prog Tryz.f4.params.toList Rows.renderBackSpec.vars false W args.toList ds gs before) (hk:Rows.uptoSmall H (ds++gs)=true) :
  Calls Tryz.prog 4 args W fun e W'=>∃v,e=.returned v∧Rows.renderBackSpec.post enc Tryz.prog Tryz.f4 false true false false W args v W':=by
 have hW':=hW
 obtain ⟨p,q,hA0,hV,rfl,hfz,hnd⟩:=hW
 have hA:DataW.TrodAll enc Tryz.prog W 0 (fun _=>true) true Tryz.f4.params.toList args.toList ds p:=hA0
 rw [Tryz.params4] at hA hval
 obtain ⟨v0,vs0,d0,ds0,p0,q0,hargs,rfl,rfl,h0,r0⟩:=trodAll_cons hA
 obtain ⟨v1,vs1,d1,ds1,p1,q1,rfl,rfl,rfl,h1,r1⟩:=trodAll_cons r0
 obtain ⟨rfl,rfl,rfl⟩:=trodAll_nil r1
 obtain rfl:args=#[v0,v1]:=by cases args;simp_all
 obtain ⟨rfl,rfl⟩:=trodVars_none hV
 have hk':Rows.uptoBulkAll ([d0,d1]:List (DataW H))≤1048576:=by
  have:=of_decide_eq_true hk
  simpa using this
 simp only [Rows.uptoBulkAll] at hk'
 obtain ⟨a0,rfl,rfl,rfl,m0⟩:=open_string Tryz.underlying9 (hval 0 9 v0 rfl rfl) h0
 have z0:a0.size≤1048576:=by
  have e:a0.data.toList.length=a0.size:=by rw [Array.length_toList];rfl
  simp only [Rows.uptoBulk] at hk'
  omega
 obtain ⟨oa1,cap1,l1,rfl,row1,y1,z1⟩:=Zri (hval 1 33 v1 rfl rfl) h1
 have z1':Zbw l1≤1048576:=by omega
 have walk:Calls Tryz.prog 4 #[.string a0,.slice oa1 l1.length cap1] W fun e W'=>e=.returned (.bool true)∧Below W.heap.size W W':=Zhn a0.data.toList l1 oa1 cap1 W hM hP row1.rd (ZtY z1') (ZtH z1') (Zut z0)
 refine walk.mono fun e W' ⟨he,hg⟩=>?_
 subst he
 exact Ztw hW' hg rfl rfl (by simp [Tryz.params4];decide +kernel) rfl rfl rfl
theorem laid_met (os:Os):laidMet Tryz.prog Rows.renderBackUptoRow.laid ((World.laidAll Tryz.prog os Rows.renderBackUptoRow.laid).forCall (fun _ _=>0) ⟨#[],#[.string .empty,.slice none 0 0],[]⟩).memory:=
 laidMet_laidAll _ (by kernel_rfl) (by kernel_rfl)
theorem reads (os:Os) {H:Type} (enc:TypeId×Value→H):DataW.whole enc Tryz.prog ((World.laidAll Tryz.prog os Rows.renderBackUptoRow.laid).forCall (fun _ _=>0) ⟨#[],#[.string .empty,.slice none 0 0],[]⟩).memory Tryz.f4.params.toList Rows.renderBackSpec.vars false (#[.string .empty,.slice none 0 0]:Array Value).toList 8=some ([.lit (.string []),.nil],[],[]):=by kernel_rfl
set_option maxRecDepth 100000 in
theorem lifted (os:Os) (started:os.Started) (H:Type) (enc:TypeId×Value→H) (F:Stop.Interp) :
  ReturnsInHanded {} Tryz.checked os 4 .any ((Rows.OpenSpec.upto Rows.renderBackSpec).preRow enc Tryz.prog Tryz.f4 Rows.renderBackUptoRow.domain false Rows.renderBackUptoRow.laid) (((Rows.OpenSpec.upto Rows.renderBackSpec).at F).post enc Tryz.prog Tryz.f4 false true false false):=by
 refine returnsInHanded_of_row (C:=Tryz.checked) (s:=Rows.OpenSpec.upto Rows.renderBackSpec) own started (by kernel_rfl) Tryz.func4
  (Zkh (enc:=enc) (C:=Tryz.checked) (World.laidAll Tryz.prog os Rows.renderBackUptoRow.laid) #[.string .empty,.slice none 0 0] (World.laidAll_os _ _ _) (World.shaped_of_ZipB (by kernel_rfl) (by kernel_rfl)) (by kernel_rfl)
   (OpenSpec.preRow_of_cond 8 (reads os enc) (by kernel_rfl) (fun k hk=>by cases hk;kernel_rfl) (by kernel_rfl) (by rw [MakeChecks.laidMetH_plain _ _ _ (by kernel_rfl)];exact laid_met os))) ?_
 intro W base args ds gs before hval hW _ hcond _ hlaid hsh _
 exact contract H enc W base args ds gs before (ZsK hsh) (pow_of hlaid) hval hW (hcond _ rfl)
set_option maxHeartbeats 16000000 in
theorem said:Rows.RenderBackUptoSaid:=
 OpenClaim.holds_of_cond 4 Tryz.f4 rfl rfl rfl rfl rfl rfl rfl ⟨rfl,rfl,rfl,rfl,rfl⟩ rfl rfl rfl rfl rfl (by kernel_rfl) Tryz.func4 (by simp only [joinedFacts,Bool.and_eq_true];(repeat' apply And.intro);all_goals (as_aux_lemma=>kernel_rfl))
  (of_decide_eq_true (by kernel_rfl)) (by unfold Func.isWrapper;first|(rw [if_pos (by decide +kernel)];kernel_rfl)|(rw [if_neg (by decide +kernel)];exact ⟨rfl,rfl⟩))
  (fun os started H enc _ F=>by rw [OpenClaim.pre_eq_preRow];exact lifted os started H enc F)
theorem proved:Rows.RenderBackUptoCardSaid:=
 Claim7.holds_tied_plain_at .later [] _ _ _ _ said (fun _ h=>by cases h) (by as_aux_lemma=>kernel_rfl) (fun _ h=>by cases h) renderBackUpto_row_tie rfl ⟨rfl,rfl⟩ (by as_aux_lemma=>kernel_rfl) rfl
  (ZsQ (by as_aux_lemma=>kernel_rfl) Tryz.func4 (by as_aux_lemma=>kernel_rfl) [9,33] (by rw [Tryz.params4]) (all_of (List.forall_mem_cons.2 ⟨noStands,List.forall_mem_cons.2 ⟨noStandM,fun _ h=>by cases h⟩⟩))) (by as_aux_lemma=>kernel_rfl)
end Go.Proofs.YtmgmbeipbeknaaaGreatDoor.lawRenderBack
