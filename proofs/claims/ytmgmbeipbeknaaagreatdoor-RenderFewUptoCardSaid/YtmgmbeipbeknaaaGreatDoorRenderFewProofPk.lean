/-
  RenderFew: no line stands for nothing: without any of them it is another unit, or none.
  Condition: what the arguments hold is together of bulk at most 1048576 (the second form). The card ties the two tables of package utf8 that the row lists.
-/
import Derived.Test.YtmgmbeipbeknaaaGreatDoorCards
import Derived.Test.YtmgmbeipbeknaaaGreatDoorTie
import Derived.SevenTiedAt
import Derived.LaidSub
import Derived.Test.YtmgmbeipbeknaaaGreatDoorRF3
import Derived.Test.YtmgmbeipbeknaaaGreatDoorRF12
import Derived.Test.YtmgmbeipbeknaaaGreatDoorRF51
namespace Go.Proofs.YtmgmbeipbeknaaaGreatDoor.lawRenderFew
open Go Go.RowKit Go.ChangeShapes Go.WideShapes Go.ChangeAt
open Go.ChangeMaps (open_string shut_string)
set_option linter.unusedVariables false
set_option maxRecDepth 100000
theorem pow_of {W:World} (h:laidMetH Tryz.prog Rows.renderFewUptoRow.laid W):Pow W:=by
 have h1:=h.filter (fun x=>x.1 == "internal/strconv.uint64pow10")
 rw [show (Rows.renderFewUptoRow.laid.filter fun x=>x.1 == "internal/strconv.uint64pow10")=[("internal/strconv.uint64pow10",Lib.tabData .u64 Lib.pow10Tab)] from by kernel_rfl] at h1
 rw [MakeChecks.laidMetH_plain _ _ _ (by kernel_rfl)] at h1
 exact Lib.tabIs_of_head (g:=5) (t:=325) (e:=257) (n:=20) (by kernel_rfl) (by kernel_rfl) (by kernel_rfl) (by kernel_rfl) (by kernel_rfl) (by kernel_rfl) h1
theorem all_of {ts:List TypeId} (h:∀t∈ts,Tryz.prog.wantsStandIn t=false):(ts.all fun u=>!Tryz.prog.wantsStandIn u)=true:=List.all_eq_true.2 fun t ht=>by rw [h t ht];rfl
theorem noStandM:Tryz.prog.wantsStandIn 33=false:=by kernel_rfl
theorem noStandi:Tryz.prog.wantsStandIn 3=false:=by kernel_rfl
theorem noStands:Tryz.prog.wantsStandIn 9=false:=by kernel_rfl
theorem contract (H:Type) (enc:TypeId×Value→H) (W:World) (base:Nat) (args:Array Value) (ds gs:List (DataW H)) (before:List MemPlace) (hM:Zt W) (hP:Pow W)
  (hval:∀(j:Nat) t v,Tryz.f5.params[j]?=some t→args[j]?=some v→Value.okWide Tryz.prog W .any base t v)
  (hW:DataW.Whole enc Tryz.prog Tryz.f5.params.toList Rows.renderFewSpec.vars false W args.toList ds gs before) (hk:Rows.uptoSmall H (ds++gs)=true) :
  Calls Tryz.prog 5 args W fun e W'=>∃v,e=.returned v∧Rows.renderFewSpec.post enc Tryz.prog Tryz.f5 false true false false W args v W':=by
 have hW':=hW
 obtain ⟨p,q,hA0,hV,rfl,hfz,hnd⟩:=hW
 have hA:DataW.TrodAll enc Tryz.prog W 0 (fun _=>true) true Tryz.f5.params.toList args.toList ds p:=hA0
 rw [Tryz.params5] at hA hval
 obtain ⟨v0,vs0,d0,ds0,p0,q0,hargs,rfl,rfl,h0,r0⟩:=trodAll_cons hA
 obtain ⟨v1,vs1,d1,ds1,p1,q1,rfl,rfl,rfl,h1,r1⟩:=trodAll_cons r0
 obtain ⟨v2,vs2,d2,ds2,p2,q2,rfl,rfl,rfl,h2,r2⟩:=trodAll_cons r1
 obtain ⟨rfl,rfl,rfl⟩:=trodAll_nil r2
 obtain rfl:args=#[v0,v1,v2]:=by cases args;simp_all
 obtain ⟨rfl,rfl⟩:=trodVars_none hV
 have hk':Rows.uptoBulkAll ([d0,d1,d2]:List (DataW H))≤1048576:=by
  have:=of_decide_eq_true hk
  simpa using this
 simp only [Rows.uptoBulkAll] at hk'
 obtain ⟨a0,rfl,rfl,rfl,m0⟩:=open_string Tryz.underlying9 (hval 0 9 v0 rfl rfl) h0
 have z0:a0.size≤1048576:=by
  have e:a0.data.toList.length=a0.size:=by rw [Array.length_toList];rfl
  simp only [Rows.uptoBulk] at hk'
  omega
 obtain ⟨oa1,cap1,l1,rfl,row1,y1,z1⟩:=ZnT (hval 1 33 v1 rfl rfl) h1
 have z1':JQ l1≤1048576:=by omega
 obtain ⟨a2,rfl,rfl,rfl,m2⟩:=open_int Tryz.underlying3 (hval 2 3 v2 rfl rfl) h2
 have walk:Calls Tryz.prog 5 #[.string a0,.slice oa1 l1.length cap1,.int .i64 a2] W fun e W'=>e=.returned (.bool true)∧Below W.heap.size W W':=Zgl a0.data.toList l1 oa1 cap1 a2 W hM hP row1.rd (Zp6 z1') (ZoK z1') (Zq2 z0)
 refine walk.mono fun e W' ⟨he,hg⟩=>?_
 subst he
 exact ZpE hW' hg rfl rfl (by simp [Tryz.params5];decide +kernel) rfl rfl rfl
theorem laid_met (os:Os):laidMet Tryz.prog Rows.renderFewUptoRow.laid ((World.laidAll Tryz.prog os Rows.renderFewUptoRow.laid).forCall (fun _ _=>0) ⟨#[],#[.string .empty,.slice none 0 0,.int .i64 0],[]⟩).memory:=
 laidMet_laidAll _ (by kernel_rfl) (by kernel_rfl)
theorem reads (os:Os) {H:Type} (enc:TypeId×Value→H):DataW.whole enc Tryz.prog ((World.laidAll Tryz.prog os Rows.renderFewUptoRow.laid).forCall (fun _ _=>0) ⟨#[],#[.string .empty,.slice none 0 0,.int .i64 0],[]⟩).memory Tryz.f5.params.toList Rows.renderFewSpec.vars false (#[.string .empty,.slice none 0 0,.int .i64 0]:Array Value).toList 8=some ([.lit (.string []),.nil,.lit (.int .i64 0)],[],[]):=by kernel_rfl
set_option maxRecDepth 100000 in
theorem lifted (os:Os) (started:os.Started) (H:Type) (enc:TypeId×Value→H) (F:Stop.Interp) :
  ReturnsInHanded {} Tryz.checked os 5 .any ((Rows.OpenSpec.upto Rows.renderFewSpec).preRow enc Tryz.prog Tryz.f5 Rows.renderFewUptoRow.domain false Rows.renderFewUptoRow.laid) (((Rows.OpenSpec.upto Rows.renderFewSpec).at F).post enc Tryz.prog Tryz.f5 false true false false):=by
 refine returnsInHanded_of_row (C:=Tryz.checked) (s:=Rows.OpenSpec.upto Rows.renderFewSpec) own started (by kernel_rfl) Tryz.func5
  (Zim (enc:=enc) (C:=Tryz.checked) (World.laidAll Tryz.prog os Rows.renderFewUptoRow.laid) #[.string .empty,.slice none 0 0,.int .i64 0] (World.laidAll_os _ _ _) (World.shaped_of_ZipB (by kernel_rfl) (by kernel_rfl)) (by kernel_rfl)
   (OpenSpec.preRow_of_cond 8 (reads os enc) (by kernel_rfl) (fun k hk=>by cases hk;kernel_rfl) (by kernel_rfl) (by rw [MakeChecks.laidMetH_plain _ _ _ (by kernel_rfl)];exact laid_met os))) ?_
 intro W base args ds gs before hval hW _ hcond _ hlaid hsh _
 exact contract H enc W base args ds gs before (Zon hsh) (pow_of hlaid) hval hW (hcond _ rfl)
set_option maxHeartbeats 16000000 in
theorem said:Rows.RenderFewUptoSaid:=
 OpenClaim.holds_of_cond 5 Tryz.f5 rfl rfl rfl rfl rfl rfl rfl ⟨rfl,rfl,rfl,rfl,rfl⟩ rfl rfl rfl rfl rfl (by kernel_rfl) Tryz.func5 (by simp only [joinedFacts,Bool.and_eq_true];(repeat' apply And.intro);all_goals (as_aux_lemma=>kernel_rfl))
  (of_decide_eq_true (by kernel_rfl)) (by unfold Func.isWrapper;first|(rw [if_pos (by decide +kernel)];kernel_rfl)|(rw [if_neg (by decide +kernel)];exact ⟨rfl,rfl⟩))
  (fun os started H enc _ F=>by rw [OpenClaim.pre_eq_preRow];exact lifted os started H enc F)
theorem proved:Rows.RenderFewUptoCardSaid:=
 Claim7.holds_tied_plain_at .later [] _ _ _ _ said (fun _ h=>by cases h) (by as_aux_lemma=>kernel_rfl) (fun _ h=>by cases h) renderFewUpto_row_tie rfl ⟨rfl,rfl⟩ (by as_aux_lemma=>kernel_rfl) rfl
  (Zor (by as_aux_lemma=>kernel_rfl) Tryz.func5 (by as_aux_lemma=>kernel_rfl) [9,33,3] (by rw [Tryz.params5]) (all_of (List.forall_mem_cons.2 ⟨noStands,List.forall_mem_cons.2 ⟨noStandM,List.forall_mem_cons.2 ⟨noStandi,fun _ h=>by cases h⟩⟩⟩))) (by as_aux_lemma=>kernel_rfl)
end Go.Proofs.YtmgmbeipbeknaaaGreatDoor.lawRenderFew
