
import Derived.Test.YtenpejebbeoceaaGreatDoorZLawFnExactCatchUpa
namespace Go.Proofs.YtenpejebbeoceaaGreatDoor.fnExactCatchUp
open Go.ChangeShapes Go.WideShapes Go.ChangeAt Go.RowKit Go.Proofs.YtenpejebbeoceaaGreatDoor.PR Go.Proofs.YtenpejebbeoceaaGreatDoor.Pp Go.Proofs.YtenpejebbeoceaaGreatDoorW.PrintWords
open Go.ChangeMaps (open_string shut_string)
set_option linter.unusedVariables false
theorem both_ {a b:Bool} (h:a=true) (k:b=true):(a&&b)=true:=by rw[h,k];rfl
theorem cf0:(Rows.fnExactCatchUpRow.wf (OpenSpec.ofChange Rows.fnExactCatchUpSpec))=true:=by kernel_rfl
theorem cf1:(laidOutB Tryz.pinned.checked.prog)=true:=by kernel_rfl
theorem cf2:(mapsRowed Tryz.pinned.checked.prog)=true:=by kernel_rfl
theorem cf3:(Tryz.f3.params.all (Tryz.pinned.checked.prog.readableRec ·))=true:=by kernel_rfl
theorem cf4:(namedTie Tryz.pinned.checked.prog Rows.fnExactCatchUpRow.named Rows.fnExactCatchUpSpec.vars)=true:=by kernel_rfl
theorem cf5:(Rows.fnExactCatchUpRow.stops==[])=true:=by kernel_rfl
theorem cf6:(Tryz.pinned.checked.prog.stops==[])=true:=by kernel_rfl
theorem cf7:(Rows.fnExactCatchUpRow.knobs==[])=true:=by kernel_rfl
theorem cf8:(Tryz.pinned.checked.prog.stopKnobs==[])=true:=by kernel_rfl
theorem cf9:(Rows.fnExactCatchUpRow.inPlace==Tryz.pinned.checked.prog.inPlace 3)=true:=by kernel_rfl
theorem cf10:(Rows.fnExactCatchUpRow.unfollowed==Tryz.pinned.checked.prog.unfollowed 3)=true:=by kernel_rfl
theorem cf11:(Rows.fnExactCatchUpRow.recurses==Tryz.pinned.checked.prog.recurses 3)=true:=by kernel_rfl
theorem cf12:(Rows.fnExactCatchUpRow.named==Tryz.pinned.checked.prog.varsNamed 3)=true:=by kernel_rfl
theorem cf13:(Rows.fnExactCatchUpRow.maps==(Tryz.f3.params.toList++Rows.fnExactCatchUpSpec.plain.varTypes Tryz.pinned.checked.prog).any (Tryz.pinned.checked.prog.mapsRec ·))=true:=by kernel_rfl
theorem cf14:(Rows.fnExactCatchUpRow.ifaces==(Tryz.f3.params.toList++Rows.fnExactCatchUpSpec.plain.varTypes Tryz.pinned.checked.prog).any (Tryz.pinned.checked.prog.ifacesRec ·))=true:=by kernel_rfl
theorem cf15:(Rows.fnExactCatchUpRow.mapsOut==Tryz.pinned.checked.prog.mapsAmong Tryz.f3.resultTypes.toList)=true:=by kernel_rfl
theorem cf16:(Rows.fnExactCatchUpRow.loops==(Tryz.f3.params.toList++Rows.fnExactCatchUpSpec.plain.varTypes Tryz.pinned.checked.prog).any (Tryz.pinned.checked.prog.loopsFrom ·))=true:=by kernel_rfl
theorem cf17:(Rows.fnExactCatchUpRow.wideKeys==(Tryz.f3.params.toList++Rows.fnExactCatchUpSpec.plain.varTypes Tryz.pinned.checked.prog++Tryz.f3.resultTypes.toList).any (Tryz.pinned.checked.prog.wideKeysFrom ·))=true:=by kernel_rfl
theorem cf18:(Rows.fnExactCatchUpSpec.vars.all (Tryz.pinned.checked.prog.varReadable ·))=true:=by kernel_rfl
theorem cf19:(Tryz.f3.resultTypes.all (fun t=>Tryz.pinned.checked.prog.readableRec t&&decide (t<Tryz.pinned.checked.prog.types.size)))=true:=by kernel_rfl
theorem cf20:(Rows.fnExactCatchUpRow.ifacesOut==Tryz.f3.resultTypes.toList.any (Tryz.pinned.checked.prog.ifacesRec ·))=true:=by kernel_rfl
theorem cf21:(Rows.fnExactCatchUpRow.loopsOut==Tryz.f3.resultTypes.toList.any (Tryz.pinned.checked.prog.loopsFrom ·))=true:=by kernel_rfl
theorem cf22:(Rows.fnExactCatchUpRow.plainKeys==Tryz.pinned.checked.prog.plainKeys)=true:=by kernel_rfl
theorem cf23:(Rows.fnExactCatchUpRow.shortTexts.isNone)=true:=by kernel_rfl
theorem cf24:(Tryz.pinned.checked.prog.stopsHeard)=true:=by kernel_rfl
theorem cf25:(Tryz.pinned.checked.prog.mayEnter)=true:=by kernel_rfl
theorem cf26:(Rows.fnExactCatchUpRow.lifted==Tryz.pinned.checked.prog.liftsFinal)=true:=by kernel_rfl
theorem cf27:(Tryz.pinned.checked.prog.make==some Rows.fnExactCatchUpRow.make)=true:=by kernel_rfl
theorem cf29:(Rows.fnExactCatchUpRow.pinned==Rows.fnExactCatchUpRow.pinnedBy)=true:=by kernel_rfl
theorem cf30:(Rows.fnExactCatchUpRow.veiled==(Tryz.f3.params.toList++Rows.fnExactCatchUpSpec.plain.varTypes Tryz.pinned.checked.prog++Tryz.f3.resultTypes.toList).any (Tryz.pinned.checked.prog.veiledRec ·))=true:=by kernel_rfl
theorem cf31:(Rows.fnExactCatchUpRow.veiledFits Tryz.pinned.checked.prog Tryz.f3.params.toList (Tryz.f3.params.toList++Rows.fnExactCatchUpSpec.plain.varTypes Tryz.pinned.checked.prog++Tryz.f3.resultTypes.toList))=true:=by kernel_rfl
theorem closed:joinedFacts Tryz.pinned.checked.prog 3 Tryz.f3 Rows.fnExactCatchUpSpec Rows.fnExactCatchUpRow=true:=by
  unfold joinedFacts
  refine both_ ?_ cf31
  refine both_ ?_ cf30
  refine both_ ?_ cf29
  refine both_ ?_ (by kernel_rfl)
  refine both_ ?_ cf27
  refine both_ ?_ cf26
  refine both_ ?_ cf25
  refine both_ ?_ cf24
  refine both_ ?_ cf23
  refine both_ ?_ cf22
  refine both_ ?_ cf21
  refine both_ ?_ cf20
  refine both_ ?_ cf19
  refine both_ ?_ cf18
  refine both_ ?_ cf17
  refine both_ ?_ cf16
  refine both_ ?_ cf15
  refine both_ ?_ cf14
  refine both_ ?_ cf13
  refine both_ ?_ cf12
  refine both_ ?_ cf11
  refine both_ ?_ cf10
  refine both_ ?_ cf9
  refine both_ ?_ cf8
  refine both_ ?_ cf7
  refine both_ ?_ cf6
  refine both_ ?_ cf5
  refine both_ ?_ cf4
  refine both_ ?_ cf3
  refine both_ ?_ cf2
  refine both_ ?_ cf1
  exact cf0
theorem over:Rows.fnExactCatchUpRow.holds Tryz.pinned (OpenSpec.ofChange Rows.fnExactCatchUpSpec) :=
  OpenClaim.holds_of_wide 3 Tryz.f3 rfl rfl rfl rfl rfl rfl rfl ⟨rfl,rfl,rfl,rfl,rfl⟩ rfl rfl rfl rfl rfl (by kernel_rfl) Tryz.func3 closed
    (of_decide_eq_true (by kernel_rfl)) (by unfold Func.isWrapper;first|(rw[if_pos (by decide +kernel)];kernel_rfl)|(rw[if_neg (by decide +kernel)];exact⟨rfl,rfl⟩))
    (fun os started H enc _=>lifted os started H enc)
end Go.Proofs.YtenpejebbeoceaaGreatDoor.fnExactCatchUp
