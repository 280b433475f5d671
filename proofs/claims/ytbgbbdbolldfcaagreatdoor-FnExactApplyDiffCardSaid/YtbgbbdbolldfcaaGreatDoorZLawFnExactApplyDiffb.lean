
import Derived.Test.YtbgbbdbolldfcaaGreatDoorZLawFnExactApplyDiffa
namespace Go.Proofs.YtbgbbdbolldfcaaGreatDoor.fnExactApplyDiff
open Go.ChangeShapes Go.WideShapes Go.ChangeAt Go.RowKit Go.Proofs.YtbgbbdbolldfcaaGreatDoor.PR Go.Proofs.YtbgbbdbolldfcaaGreatDoor.Pp Go.Proofs.YtbgbbdbolldfcaaGreatDoorW.PrintWords
open Go.ChangeMaps (open_string shut_string)
set_option linter.unusedVariables false
theorem both_ {a b:Bool} (h:a=true) (k:b=true):(a&&b)=true:=by rw[h,k];rfl
theorem cf0:(Rows.fnExactApplyDiffRow.wf (OpenSpec.ofChange Rows.fnExactApplyDiffSpec))=true:=by kernel_rfl
theorem cf1:(laidOutB Tryz.pinned.checked.prog)=true:=by kernel_rfl
theorem cf2:(mapsRowed Tryz.pinned.checked.prog)=true:=by kernel_rfl
theorem cf3:(Tryz.f3.params.all (Tryz.pinned.checked.prog.readableRec ·))=true:=by kernel_rfl
theorem cf4:(namedTie Tryz.pinned.checked.prog Rows.fnExactApplyDiffRow.named Rows.fnExactApplyDiffSpec.vars)=true:=by kernel_rfl
theorem cf5:(Rows.fnExactApplyDiffRow.stops==[])=true:=by kernel_rfl
theorem cf6:(Tryz.pinned.checked.prog.stops==[])=true:=by kernel_rfl
theorem cf7:(Rows.fnExactApplyDiffRow.knobs==[])=true:=by kernel_rfl
theorem cf8:(Tryz.pinned.checked.prog.stopKnobs==[])=true:=by kernel_rfl
theorem cf9:(Rows.fnExactApplyDiffRow.inPlace==Tryz.pinned.checked.prog.inPlace 3)=true:=by kernel_rfl
theorem cf10:(Rows.fnExactApplyDiffRow.unfollowed==Tryz.pinned.checked.prog.unfollowed 3)=true:=by kernel_rfl
theorem cf11:(Rows.fnExactApplyDiffRow.recurses==Tryz.pinned.checked.prog.recurses 3)=true:=by kernel_rfl
theorem cf12:(Rows.fnExactApplyDiffRow.named==Tryz.pinned.checked.prog.varsNamed 3)=true:=by kernel_rfl
theorem cf13:(Rows.fnExactApplyDiffRow.maps==(Tryz.f3.params.toList++Rows.fnExactApplyDiffSpec.plain.varTypes Tryz.pinned.checked.prog).any (Tryz.pinned.checked.prog.mapsRec ·))=true:=by kernel_rfl
theorem cf14:(Rows.fnExactApplyDiffRow.ifaces==(Tryz.f3.params.toList++Rows.fnExactApplyDiffSpec.plain.varTypes Tryz.pinned.checked.prog).any (Tryz.pinned.checked.prog.ifacesRec ·))=true:=by kernel_rfl
theorem cf15:(Rows.fnExactApplyDiffRow.mapsOut==Tryz.pinned.checked.prog.mapsAmong Tryz.f3.resultTypes.toList)=true:=by kernel_rfl
theorem cf16:(Rows.fnExactApplyDiffRow.loops==(Tryz.f3.params.toList++Rows.fnExactApplyDiffSpec.plain.varTypes Tryz.pinned.checked.prog).any (Tryz.pinned.checked.prog.loopsFrom ·))=true:=by kernel_rfl
theorem cf17:(Rows.fnExactApplyDiffRow.wideKeys==(Tryz.f3.params.toList++Rows.fnExactApplyDiffSpec.plain.varTypes Tryz.pinned.checked.prog++Tryz.f3.resultTypes.toList).any (Tryz.pinned.checked.prog.wideKeysFrom ·))=true:=by kernel_rfl
theorem cf18:(Rows.fnExactApplyDiffSpec.vars.all (Tryz.pinned.checked.prog.varReadable ·))=true:=by kernel_rfl
theorem cf19:(Tryz.f3.resultTypes.all (fun t=>Tryz.pinned.checked.prog.readableRec t&&decide (t<Tryz.pinned.checked.prog.types.size)))=true:=by kernel_rfl
theorem cf20:(Rows.fnExactApplyDiffRow.ifacesOut==Tryz.f3.resultTypes.toList.any (Tryz.pinned.checked.prog.ifacesRec ·))=true:=by kernel_rfl
theorem cf21:(Rows.fnExactApplyDiffRow.loopsOut==Tryz.f3.resultTypes.toList.any (Tryz.pinned.checked.prog.loopsFrom ·))=true:=by kernel_rfl
theorem cf22:(Rows.fnExactApplyDiffRow.plainKeys==Tryz.pinned.checked.prog.plainKeys)=true:=by kernel_rfl
theorem cf23:(Rows.fnExactApplyDiffRow.shortTexts.isNone)=true:=by kernel_rfl
theorem cf24:(Tryz.pinned.checked.prog.stopsHeard)=true:=by kernel_rfl
theorem cf25:(Tryz.pinned.checked.prog.mayEnter)=true:=by kernel_rfl
theorem cf26:(Rows.fnExactApplyDiffRow.lifted==Tryz.pinned.checked.prog.liftsFinal)=true:=by kernel_rfl
theorem cf27:(Tryz.pinned.checked.prog.make==some Rows.fnExactApplyDiffRow.make)=true:=by kernel_rfl
theorem cf29:(Rows.fnExactApplyDiffRow.pinned==Rows.fnExactApplyDiffRow.pinnedBy)=true:=by kernel_rfl
theorem cf30:(Rows.fnExactApplyDiffRow.veiled==(Tryz.f3.params.toList++Rows.fnExactApplyDiffSpec.plain.varTypes Tryz.pinned.checked.prog++Tryz.f3.resultTypes.toList).any (Tryz.pinned.checked.prog.veiledRec ·))=true:=by kernel_rfl
theorem cf31:(Rows.fnExactApplyDiffRow.veiledFits Tryz.pinned.checked.prog Tryz.f3.params.toList (Tryz.f3.params.toList++Rows.fnExactApplyDiffSpec.plain.varTypes Tryz.pinned.checked.prog++Tryz.f3.resultTypes.toList))=true:=by kernel_rfl
theorem closed:joinedFacts Tryz.pinned.checked.prog 3 Tryz.f3 Rows.fnExactApplyDiffSpec Rows.fnExactApplyDiffRow=true:=by
  unfold joinedFacts
  refine both_ ?_ cf31
  refine both_ ?_ cf30
  refine both_ ?_ cf29
  refine both_ ?_ (by kernel_rfl)
  refine both_ ?_ cf27
  refine both_ ?_ cf26
  refine both_ ?_ cf25
  refine both_ ?_ cf24
  refine both_ ?_ cf23
  refine both_ ?_ cf22
  refine both_ ?_ cf21
  refine both_ ?_ cf20
  refine both_ ?_ cf19
  refine both_ ?_ cf18
  refine both_ ?_ cf17
  refine both_ ?_ cf16
  refine both_ ?_ cf15
  refine both_ ?_ cf14
  refine both_ ?_ cf13
  refine both_ ?_ cf12
  refine both_ ?_ cf11
  refine both_ ?_ cf10
  refine both_ ?_ cf9
  refine both_ ?_ cf8
  refine both_ ?_ cf7
  refine both_ ?_ cf6
  refine both_ ?_ cf5
  refine both_ ?_ cf4
  refine both_ ?_ cf3
  refine both_ ?_ cf2
  refine both_ ?_ cf1
  exact cf0
theorem over:Rows.fnExactApplyDiffRow.holds Tryz.pinned (OpenSpec.ofChange Rows.fnExactApplyDiffSpec) :=
  OpenClaim.holds_of_wide 3 Tryz.f3 rfl rfl rfl rfl rfl rfl rfl ⟨rfl,rfl,rfl,rfl,rfl⟩ rfl rfl rfl rfl rfl (by kernel_rfl) Tryz.func3 closed
    (of_decide_eq_true (by kernel_rfl)) (by unfold Func.isWrapper;first|(rw[if_pos (by decide +kernel)];kernel_rfl)|(rw[if_neg (by decide +kernel)];exact⟨rfl,rfl⟩))
    (fun os started H enc _=>lifted os started H enc)
end Go.Proofs.YtbgbbdbolldfcaaGreatDoor.fnExactApplyDiff
