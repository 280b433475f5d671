
import Derived.Test.YtioefechhknnlaaGreatDoorZLawFnExactGlueFora
namespace Go.Proofs.YtioefechhknnlaaGreatDoor.fnExactGlueFor
open Go.ChangeShapes Go.WideShapes Go.ChangeAt Go.RowKit Go.Proofs.YtioefechhknnlaaGreatDoor.PR Go.Proofs.YtioefechhknnlaaGreatDoor.Pp Go.Proofs.YtioefechhknnlaaGreatDoorW.PrintWords
open Go.ChangeMaps (open_string shut_string)
set_option linter.unusedVariables false
theorem both_ {a b:Bool} (h:a=true) (k:b=true):(a&&b)=true:=by rw[h,k];rfl
theorem cf0:(Rows.fnExactGlueForRow.wf (OpenSpec.ofChange Rows.fnExactGlueForSpec))=true:=by kernel_rfl
theorem cf1:(laidOutB Tryz.pinned.checked.prog)=true:=by kernel_rfl
theorem cf2:(mapsRowed Tryz.pinned.checked.prog)=true:=by kernel_rfl
theorem cf3:(Tryz.f7.params.all (Tryz.pinned.checked.prog.readableRec ·))=true:=by kernel_rfl
theorem cf4:(namedTie Tryz.pinned.checked.prog Rows.fnExactGlueForRow.named Rows.fnExactGlueForSpec.vars)=true:=by kernel_rfl
theorem cf5:(Rows.fnExactGlueForRow.stops==[])=true:=by kernel_rfl
theorem cf6:(Tryz.pinned.checked.prog.stops==[])=true:=by kernel_rfl
theorem cf7:(Rows.fnExactGlueForRow.knobs==[])=true:=by kernel_rfl
theorem cf8:(Tryz.pinned.checked.prog.stopKnobs==[])=true:=by kernel_rfl
theorem cf9:(Rows.fnExactGlueForRow.inPlace==Tryz.pinned.checked.prog.inPlace 7)=true:=by kernel_rfl
theorem cf10:(Rows.fnExactGlueForRow.unfollowed==Tryz.pinned.checked.prog.unfollowed 7)=true:=by kernel_rfl
theorem cf11:(Rows.fnExactGlueForRow.recurses==Tryz.pinned.checked.prog.recurses 7)=true:=by kernel_rfl
theorem cf12:(Rows.fnExactGlueForRow.named==Tryz.pinned.checked.prog.varsNamed 7)=true:=by kernel_rfl
theorem cf13:(Rows.fnExactGlueForRow.maps==(Tryz.f7.params.toList++Rows.fnExactGlueForSpec.plain.varTypes Tryz.pinned.checked.prog).any (Tryz.pinned.checked.prog.mapsRec ·))=true:=by kernel_rfl
theorem cf14:(Rows.fnExactGlueForRow.ifaces==(Tryz.f7.params.toList++Rows.fnExactGlueForSpec.plain.varTypes Tryz.pinned.checked.prog).any (Tryz.pinned.checked.prog.ifacesRec ·))=true:=by kernel_rfl
theorem cf15:(Rows.fnExactGlueForRow.mapsOut==Tryz.pinned.checked.prog.mapsAmong Tryz.f7.resultTypes.toList)=true:=by kernel_rfl
theorem cf16:(Rows.fnExactGlueForRow.loops==(Tryz.f7.params.toList++Rows.fnExactGlueForSpec.plain.varTypes Tryz.pinned.checked.prog).any (Tryz.pinned.checked.prog.loopsFrom ·))=true:=by kernel_rfl
theorem cf17:(Rows.fnExactGlueForRow.wideKeys==(Tryz.f7.params.toList++Rows.fnExactGlueForSpec.plain.varTypes Tryz.pinned.checked.prog++Tryz.f7.resultTypes.toList).any (Tryz.pinned.checked.prog.wideKeysFrom ·))=true:=by kernel_rfl
theorem cf18:(Rows.fnExactGlueForSpec.vars.all (Tryz.pinned.checked.prog.varReadable ·))=true:=by kernel_rfl
theorem cf19:(Tryz.f7.resultTypes.all (fun t=>Tryz.pinned.checked.prog.readableRec t&&decide (t<Tryz.pinned.checked.prog.types.size)))=true:=by kernel_rfl
theorem cf20:(Rows.fnExactGlueForRow.ifacesOut==Tryz.f7.resultTypes.toList.any (Tryz.pinned.checked.prog.ifacesRec ·))=true:=by kernel_rfl
theorem cf21:(Rows.fnExactGlueForRow.loopsOut==Tryz.f7.resultTypes.toList.any (Tryz.pinned.checked.prog.loopsFrom ·))=true:=by kernel_rfl
theorem cf22:(Rows.fnExactGlueForRow.plainKeys==Tryz.pinned.checked.prog.plainKeys)=true:=by kernel_rfl
theorem cf23:(Rows.fnExactGlueForRow.shortTexts.isNone)=true:=by kernel_rfl
theorem cf24:(Tryz.pinned.checked.prog.stopsHeard)=true:=by kernel_rfl
theorem cf25:(Tryz.pinned.checked.prog.mayEnter)=true:=by kernel_rfl
theorem cf26:(Rows.fnExactGlueForRow.lifted==Tryz.pinned.checked.prog.liftsFinal)=true:=by kernel_rfl
theorem cf27:(Tryz.pinned.checked.prog.make==some Rows.fnExactGlueForRow.make)=true:=by kernel_rfl
theorem cf29:(Rows.fnExactGlueForRow.pinned==Rows.fnExactGlueForRow.pinnedBy)=true:=by kernel_rfl
theorem cf30:(Rows.fnExactGlueForRow.veiled==(Tryz.f7.params.toList++Rows.fnExactGlueForSpec.plain.varTypes Tryz.pinned.checked.prog++Tryz.f7.resultTypes.toList).any (Tryz.pinned.checked.prog.veiledRec ·))=true:=by kernel_rfl
theorem cf31:(Rows.fnExactGlueForRow.veiledFits Tryz.pinned.checked.prog Tryz.f7.params.toList (Tryz.f7.params.toList++Rows.fnExactGlueForSpec.plain.varTypes Tryz.pinned.checked.prog++Tryz.f7.resultTypes.toList))=true:=by kernel_rfl
theorem closed:joinedFacts Tryz.pinned.checked.prog 7 Tryz.f7 Rows.fnExactGlueForSpec Rows.fnExactGlueForRow=true:=by
  unfold joinedFacts
  refine both_ ?_ cf31
  refine both_ ?_ cf30
  refine both_ ?_ cf29
  refine both_ ?_ (by kernel_rfl)
  refine both_ ?_ cf27
  refine both_ ?_ cf26
  refine both_ ?_ cf25
  refine both_ ?_ cf24
  refine both_ ?_ cf23
  refine both_ ?_ cf22
  refine both_ ?_ cf21
  refine both_ ?_ cf20
  refine both_ ?_ cf19
  refine both_ ?_ cf18
  refine both_ ?_ cf17
  refine both_ ?_ cf16
  refine both_ ?_ cf15
  refine both_ ?_ cf14
  refine both_ ?_ cf13
  refine both_ ?_ cf12
  refine both_ ?_ cf11
  refine both_ ?_ cf10
  refine both_ ?_ cf9
  refine both_ ?_ cf8
  refine both_ ?_ cf7
  refine both_ ?_ cf6
  refine both_ ?_ cf5
  refine both_ ?_ cf4
  refine both_ ?_ cf3
  refine both_ ?_ cf2
  refine both_ ?_ cf1
  exact cf0
theorem over:Rows.fnExactGlueForRow.holds Tryz.pinned (OpenSpec.ofChange Rows.fnExactGlueForSpec) :=
  OpenClaim.holds_of_wide 7 Tryz.f7 rfl rfl rfl rfl rfl rfl rfl ⟨rfl,rfl,rfl,rfl,rfl⟩ rfl rfl rfl rfl rfl (by kernel_rfl) Tryz.func7 closed
    (of_decide_eq_true (by kernel_rfl)) (by unfold Func.isWrapper;first|(rw[if_pos (by decide +kernel)];kernel_rfl)|(rw[if_neg (by decide +kernel)];exact⟨rfl,rfl⟩))
    (fun os started H enc _=>lifted os started H enc)
end Go.Proofs.YtioefechhknnlaaGreatDoor.fnExactGlueFor
