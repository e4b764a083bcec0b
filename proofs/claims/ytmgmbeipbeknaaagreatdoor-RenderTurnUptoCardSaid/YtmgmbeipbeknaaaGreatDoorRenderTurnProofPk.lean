/-
  RenderTurn: what is written is read as that unit; unlike units have unlike texts, but for their names.
  Condition: what the arguments hold is together of bulk at most 1048576 (the second form). The card ties the two tables of package utf8 that the row lists.
-/
import Derived.Test.YtmgmbeipbeknaaaGreatDoorCards
import Derived.Test.YtmgmbeipbeknaaaGreatDoorTie
import Derived.SevenTiedAt
import Derived.LaidSub
import Derived.Test.YtmgmbeipbeknaaaGreatDoorRT7
import Derived.Test.YtmgmbeipbeknaaaGreatDoorRT49
import Derived.Test.YtmgmbeipbeknaaaGreatDoorRT51
namespace Go.Proofs.YtmgmbeipbeknaaaGreatDoor.lawRenderTurn
open Go Go.RowKit Go.ChangeShapes Go.WideShapes Go.ChangeAt
open Go.ChangeMaps (open_string shut_string)
set_option linter.unusedVariables false
set_option maxRecDepth 100000
theorem grown_fix {P:Program} {L:List TypeId} (h:P.grow L=L):∀n,P.grown n L=L
 |0=>rfl
 |n+1=>by
  show P.grown n (P.grow L)=L
  rw [h]
  exact grown_fix h n
theorem book_fix {P:Program} {t:TypeId} {L:List TypeId} (h1:P.grow (P.grow [t])=L) (h2:P.grow L=L) (hk:2≤P.types.size):P.book t=L:=by
 unfold Program.book
 obtain ⟨n,hn⟩:∃n,P.types.size=n+2:=⟨P.types.size-2,by omega⟩
 rw [hn]
 show P.grown n (P.grow (P.grow [t]))=L
 rw [h1]
 exact grown_fix h2 n
def partsU:List TypeId:=[28,9,3,4,22,23,24,25,26,47,49,64]
theorem book_unit:Tryz.prog.book 28=partsU:=book_fix (by kernel_rfl) (by kernel_rfl) (by decide +kernel)
theorem bookU_of {P:Program} (h:P=Tryz.prog):P.book=fun t=>if t=28 then partsU else Tryz.prog.book t:=by
 subst h
 funext t
 by_cases e:t=28
 ·rw [if_pos e,e];exact book_unit
 ·rw [if_neg e]
theorem pow_of {W:World} (h:laidMetH Tryz.prog Rows.renderTurnUptoRow.laid W):Pow W:=by
 have h1:=h.filter (fun x=>x.1 == "internal/strconv.uint64pow10")
 rw [show (Rows.renderTurnUptoRow.laid.filter fun x=>x.1 == "internal/strconv.uint64pow10")=[("internal/strconv.uint64pow10",Lib.tabData .u64 Lib.pow10Tab)] from by kernel_rfl] at h1
 rw [MakeChecks.laidMetH_plain _ _ _ (by kernel_rfl)] at h1
 exact Lib.tabIs_of_head (g:=5) (t:=325) (e:=257) (n:=20) (by kernel_rfl) (by kernel_rfl) (by kernel_rfl) (by kernel_rfl) (by kernel_rfl) (by kernel_rfl) h1
theorem all_of {ts:List TypeId} (h:∀t∈ts,Tryz.prog.wantsStandIn t=false):(ts.all fun u=>!Tryz.prog.wantsStandIn u)=true:=List.all_eq_true.2 fun t ht=>by rw [h t ht];rfl
theorem noStandU:Tryz.prog.wantsStandIn 28=false:=by kernel_rfl
theorem contract (H:Type) (enc:TypeId×Value→H) (W:World) (base:Nat) (args:Array Value) (ds gs:List (DataW H)) (before:List MemPlace) (hM:Zi W) (hP:Pow W)
  (hval:∀(j:Nat) t v,Tryz.f6.params[j]?=some t→args[j]?=some v→Value.okWide Tryz.prog W .any base t v)
  (hW:DataW.Whole enc Tryz.prog Tryz.f6.params.toList Rows.renderTurnSpec.vars false W args.toList ds gs before) (hk:Rows.uptoSmall H (ds++gs)=true) :
  Calls Tryz.prog 6 args W fun e W'=>∃v,e=.returned v∧Rows.renderTurnSpec.post enc Tryz.prog Tryz.f6 false true false false W args v W':=by
 have hW':=hW
 obtain ⟨p,q,hA0,hV,rfl,hfz,hnd⟩:=hW
 have hA:DataW.TrodAll enc Tryz.prog W 0 (fun _=>true) true Tryz.f6.params.toList args.toList ds p:=hA0
 rw [Tryz.params6] at hA hval
 obtain ⟨v0,vs0,d0,ds0,p0,q0,hargs,rfl,rfl,h0,r0⟩:=trodAll_cons hA
 obtain ⟨v1,vs1,d1,ds1,p1,q1,rfl,rfl,rfl,h1,r1⟩:=trodAll_cons r0
 obtain ⟨rfl,rfl,rfl⟩:=trodAll_nil r1
 obtain rfl:args=#[v0,v1]:=by cases args;simp_all
 obtain ⟨rfl,rfl⟩:=trodVars_none hV
 have hk':Rows.uptoBulkAll ([d0,d1]:List (DataW H))≤1048576:=by
  have:=of_decide_eq_true hk
  simpa using this
 simp only [Rows.uptoBulkAll] at hk'
 obtain ⟨cs0,u0,rfl,see0,typ0,B0,bl0,bs0,bt0⟩:=Zg2 (hval 0 28 v0 rfl rfl) (by omega) h0
 have ga0:=ZeR.of bl0 bs0 bt0
 obtain ⟨cs1,u1,rfl,see1,typ1,B1,bl1,bs1,bt1⟩:=Zg2 (hval 1 28 v1 rfl rfl) (by omega) h1
 have ga1:=ZeR.of bl1 bs1 bt1
 have walk:Calls Tryz.prog 6 #[.agg cs0,.agg cs1] W fun e W'=>e=.returned (.bool true)∧Below W.heap.size W W':=Zff cs0 cs1 u0 u1 W hM hP see0 see1 typ0 typ1 ga0 ga1
 refine walk.mono fun e W' ⟨he,hg⟩=>?_
 subst he
 exact ZpO hW' hg rfl rfl (by simp [Tryz.params6];decide +kernel) rfl rfl rfl
theorem laid_met (os:Os):laidMet Tryz.prog Rows.renderTurnUptoRow.laid ((World.laidAll Tryz.prog os Rows.renderTurnUptoRow.laid).forCall (fun _ _=>0) ⟨#[],#[.agg Zd,.agg Zd],[]⟩).memory:=
 laidMet_laidAll _ (by kernel_rfl) (by kernel_rfl)
theorem reads (os:Os) {H:Type} (enc:TypeId×Value→H):DataW.whole enc Tryz.prog ((World.laidAll Tryz.prog os Rows.renderTurnUptoRow.laid).forCall (fun _ _=>0) ⟨#[],#[.agg Zd,.agg Zd],[]⟩).memory Tryz.f6.params.toList Rows.renderTurnSpec.vars false (#[.agg Zd,.agg Zd]:Array Value).toList 8=some ([.agg [.lit (.string []),.lit (.int .i64 0),.lit (.string []),.lit (.bool false),.nil,.lit (.int .i64 0),.lit (.int .i64 0),.lit (.int .i64 0),.nil,.nil,.nil,.nil,.nil,.lit (.bool false),.lit (.int .i64 0),.lit (.int .i64 0),.lit (.int .i64 0),.lit (.int .i64 0),.nil,.nil,.nil,.nil,.lit (.int .i64 0),.lit (.string []),.lit (.string []),.nil,.nil,.nil,.nil,.lit (.bool false),.nil,.nil,.nil,.nil,.lit (.string [])],.agg [.lit (.string []),.lit (.int .i64 0),.lit (.string []),.lit (.bool false),.nil,.lit (.int .i64 0),.lit (.int .i64 0),.lit (.int .i64 0),.nil,.nil,.nil,.nil,.nil,.lit (.bool false),.lit (.int .i64 0),.lit (.int .i64 0),.lit (.int .i64 0),.lit (.int .i64 0),.nil,.nil,.nil,.nil,.lit (.int .i64 0),.lit (.string []),.lit (.string []),.nil,.nil,.nil,.nil,.lit (.bool false),.nil,.nil,.nil,.nil,.lit (.string [])]],[],[]):=by kernel_rfl
set_option maxRecDepth 100000 in
theorem lifted (os:Os) (started:os.Started) (H:Type) (enc:TypeId×Value→H) (F:Stop.Interp) :
  ReturnsInHanded {} Tryz.checked os 6 .any ((Rows.OpenSpec.upto Rows.renderTurnSpec).preRow enc Tryz.prog Tryz.f6 Rows.renderTurnUptoRow.domain false Rows.renderTurnUptoRow.laid) (((Rows.OpenSpec.upto Rows.renderTurnSpec).at F).post enc Tryz.prog Tryz.f6 false true false false):=by
 refine returnsInHanded_of_row (C:=Tryz.checked) (s:=Rows.OpenSpec.upto Rows.renderTurnSpec) own started (by kernel_rfl) Tryz.func6
  (ZiC (enc:=enc) (C:=Tryz.checked) (World.laidAll Tryz.prog os Rows.renderTurnUptoRow.laid) #[.agg Zd,.agg Zd] (World.laidAll_os _ _ _) (World.shaped_of_ZipB (by kernel_rfl) (by kernel_rfl)) (by kernel_rfl)
   (OpenSpec.preRow_of_cond 8 (reads os enc) (by kernel_rfl) (fun k hk=>by cases hk;kernel_rfl) (by kernel_rfl) (by rw [MakeChecks.laidMetH_plain _ _ _ (by kernel_rfl)];exact laid_met os))) ?_
 intro W base args ds gs before hval hW _ hcond _ hlaid hsh _
 exact contract H enc W base args ds gs before (Zqh hsh) (pow_of hlaid) hval hW (hcond _ rfl)
set_option maxHeartbeats 16000000 in
theorem said:Rows.RenderTurnUptoSaid:=
 OpenClaim.holds_of_cond 6 Tryz.f6 rfl rfl rfl rfl rfl rfl rfl ⟨rfl,rfl,rfl,rfl,rfl⟩ rfl rfl rfl rfl rfl (by kernel_rfl) Tryz.func6 (by simp only [joinedFacts,Bool.and_eq_true];(repeat' apply And.intro);all_goals (as_aux_lemma=>kernel_rfl))
  (of_decide_eq_true (by kernel_rfl)) (by unfold Func.isWrapper;first|(rw [if_pos (by decide +kernel)];kernel_rfl)|(rw [if_neg (by decide +kernel)];exact ⟨rfl,rfl⟩))
  (fun os started H enc _ F=>by rw [OpenClaim.pre_eq_preRow];exact lifted os started H enc F)
theorem proved:Rows.RenderTurnUptoCardSaid:=
 Claim7.holds_tied_plain_at .later [] _ _ _ _ said (fun _ h=>by cases h) (by as_aux_lemma=>kernel_rfl) (fun _ h=>by cases h) renderTurnUpto_row_tie rfl ⟨rfl,rfl⟩ (by as_aux_lemma=>kernel_rfl) rfl
  (Zo5 (by as_aux_lemma=>kernel_rfl) Tryz.func6 (by as_aux_lemma=>kernel_rfl) [28,28] (by rw [Tryz.params6]) (all_of (List.forall_mem_cons.2 ⟨noStandU,List.forall_mem_cons.2 ⟨noStandU,fun _ h=>by cases h⟩⟩))) (by as_aux_lemma=>kernel_rfl)
end Go.Proofs.YtmgmbeipbeknaaaGreatDoor.lawRenderTurn
