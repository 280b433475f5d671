-- pp
import Derived.Test.YthckpgglghfiiaaDoorZLawFnExactGapFora
namespace Go.Proofs.YthckpgglghfiiaaDoor.fnExactGapFor
open Go.ChangeShapes Go.WideShapes Go.ChangeAt Go.RowKit Go.Proofs.YthckpgglghfiiaaDoor.PR Go.Proofs.YthckpgglghfiiaaDoor.Pp Go.Proofs.YthckpgglghfiiaaDoorW.PrintWords
open Go.ChangeMaps (open_string shut_string)
set_option linter.unusedVariables false
theorem both_ {a b : Bool} (h : a = true) (k : b = true) : (a && b) = true := by rw [h, k]; rfl
theorem cf0 : (Rows.fnExactGapForRow.wf (OpenSpec.ofChange Rows.fnExactGapForSpec)) = true := by kernel_rfl
theorem cf1 : (laidOutB Tryd.pinned.checked.prog) = true := by kernel_rfl
theorem cf2 : (mapsRowed Tryd.pinned.checked.prog) = true := by kernel_rfl
theorem cf3 : (Tryd.f12.params.all (Tryd.pinned.checked.prog.readableRec ·)) = true := by kernel_rfl
theorem cf4 : (namedTie Tryd.pinned.checked.prog Rows.fnExactGapForRow.named Rows.fnExactGapForSpec.vars) = true := by kernel_rfl
theorem cf5 : (Rows.fnExactGapForRow.stops == []) = true := by kernel_rfl
theorem cf6 : (Tryd.pinned.checked.prog.stops == []) = true := by kernel_rfl
theorem cf7 : (Rows.fnExactGapForRow.knobs == []) = true := by kernel_rfl
theorem cf8 : (Tryd.pinned.checked.prog.stopKnobs == []) = true := by kernel_rfl
theorem cf9 : (Rows.fnExactGapForRow.inPlace == Tryd.pinned.checked.prog.inPlace 12) = true := by kernel_rfl
theorem cf10 : (Rows.fnExactGapForRow.unfollowed == Tryd.pinned.checked.prog.unfollowed 12) = true := by kernel_rfl
theorem cf11 : (Rows.fnExactGapForRow.recurses == Tryd.pinned.checked.prog.recurses 12) = true := by kernel_rfl
theorem cf12 : (Rows.fnExactGapForRow.named == Tryd.pinned.checked.prog.varsNamed 12) = true := by kernel_rfl
theorem cf13 : (Rows.fnExactGapForRow.maps == (Tryd.f12.params.toList ++ Rows.fnExactGapForSpec.plain.varTypes Tryd.pinned.checked.prog).any (Tryd.pinned.checked.prog.mapsRec ·)) = true := by kernel_rfl
theorem cf14 : (Rows.fnExactGapForRow.ifaces == (Tryd.f12.params.toList ++ Rows.fnExactGapForSpec.plain.varTypes Tryd.pinned.checked.prog).any (Tryd.pinned.checked.prog.ifacesRec ·)) = true := by kernel_rfl
theorem cf15 : (Rows.fnExactGapForRow.mapsOut == Tryd.pinned.checked.prog.mapsAmong Tryd.f12.resultTypes.toList) = true := by kernel_rfl
theorem cf16 : (Rows.fnExactGapForRow.loops == (Tryd.f12.params.toList ++ Rows.fnExactGapForSpec.plain.varTypes Tryd.pinned.checked.prog).any (Tryd.pinned.checked.prog.loopsFrom ·)) = true := by kernel_rfl
theorem cf17 : (Rows.fnExactGapForRow.wideKeys == (Tryd.f12.params.toList ++ Rows.fnExactGapForSpec.plain.varTypes Tryd.pinned.checked.prog ++ Tryd.f12.resultTypes.toList).any (Tryd.pinned.checked.prog.wideKeysFrom ·)) = true := by kernel_rfl
theorem cf18 : (Rows.fnExactGapForSpec.vars.all (Tryd.pinned.checked.prog.varReadable ·)) = true := by kernel_rfl
theorem cf19 : (Tryd.f12.resultTypes.all (fun t => Tryd.pinned.checked.prog.readableRec t && decide (t < Tryd.pinned.checked.prog.types.size))) = true := by kernel_rfl
theorem cf20 : (Rows.fnExactGapForRow.ifacesOut == Tryd.f12.resultTypes.toList.any (Tryd.pinned.checked.prog.ifacesRec ·)) = true := by kernel_rfl
theorem cf21 : (Rows.fnExactGapForRow.loopsOut == Tryd.f12.resultTypes.toList.any (Tryd.pinned.checked.prog.loopsFrom ·)) = true := by kernel_rfl
theorem cf22 : (Rows.fnExactGapForRow.plainKeys == Tryd.pinned.checked.prog.plainKeys) = true := by kernel_rfl
theorem cf23 : (Rows.fnExactGapForRow.shortTexts.isNone) = true := by kernel_rfl
theorem cf24 : (Tryd.pinned.checked.prog.stopsHeard) = true := by kernel_rfl
theorem cf25 : (Tryd.pinned.checked.prog.mayEnter) = true := by kernel_rfl
theorem cf26 : (Rows.fnExactGapForRow.lifted == Tryd.pinned.checked.prog.liftsFinal) = true := by kernel_rfl
theorem cf27 : (Tryd.pinned.checked.prog.make == some Rows.fnExactGapForRow.make) = true := by kernel_rfl
theorem cf29 : (Rows.fnExactGapForRow.pinned == Rows.fnExactGapForRow.pinnedBy) = true := by kernel_rfl
theorem cf30 : (Rows.fnExactGapForRow.veiled == (Tryd.f12.params.toList ++ Rows.fnExactGapForSpec.plain.varTypes Tryd.pinned.checked.prog ++ Tryd.f12.resultTypes.toList).any (Tryd.pinned.checked.prog.veiledRec ·)) = true := by kernel_rfl
theorem cf31 : (Rows.fnExactGapForRow.veiledFits Tryd.pinned.checked.prog Tryd.f12.params.toList (Tryd.f12.params.toList ++ Rows.fnExactGapForSpec.plain.varTypes Tryd.pinned.checked.prog ++ Tryd.f12.resultTypes.toList)) = true := by kernel_rfl
theorem closed : joinedFacts Tryd.pinned.checked.prog 12 Tryd.f12 Rows.fnExactGapForSpec Rows.fnExactGapForRow = true := by
  unfold joinedFacts
  refine both_ ?_ cf31
  refine both_ ?_ cf30
  refine both_ ?_ cf29
  refine both_ ?_ (by kernel_rfl)
  refine both_ ?_ cf27
  refine both_ ?_ cf26
  refine both_ ?_ cf25
  refine both_ ?_ cf24
  refine both_ ?_ cf23
  refine both_ ?_ cf22
  refine both_ ?_ cf21
  refine both_ ?_ cf20
  refine both_ ?_ cf19
  refine both_ ?_ cf18
  refine both_ ?_ cf17
  refine both_ ?_ cf16
  refine both_ ?_ cf15
  refine both_ ?_ cf14
  refine both_ ?_ cf13
  refine both_ ?_ cf12
  refine both_ ?_ cf11
  refine both_ ?_ cf10
  refine both_ ?_ cf9
  refine both_ ?_ cf8
  refine both_ ?_ cf7
  refine both_ ?_ cf6
  refine both_ ?_ cf5
  refine both_ ?_ cf4
  refine both_ ?_ cf3
  refine both_ ?_ cf2
  refine both_ ?_ cf1
  exact cf0
theorem over : Rows.fnExactGapForRow.holds Tryd.pinned (OpenSpec.ofChange Rows.fnExactGapForSpec) :=
  OpenClaim.holds_of_wide 12 Tryd.f12 rfl rfl rfl rfl rfl rfl rfl ⟨rfl, rfl, rfl, rfl, rfl⟩ rfl rfl rfl rfl rfl (by kernel_rfl) Tryd.func12 closed
    (of_decide_eq_true (by kernel_rfl)) (by unfold Func.isWrapper; first | (rw [if_pos (by decide +kernel)]; kernel_rfl) | (rw [if_neg (by decide +kernel)]; exact ⟨rfl, rfl⟩))
    (fun os started H enc _ => lifted os started H enc)
end Go.Proofs.YthckpgglghfiiaaDoor.fnExactGapFor
