/- NewTurn: both hand out the weights and as many zeros. -/
import Derived.Test.YtioeomjjfajldaaZLPGW
import Derived.Test.YtioeomjjfajldaaJFnTurns0
import Derived.Test.YtioeomjjfajldaaJFnTurns1
set_option linter.unusedVariables false
set_option linter.unusedSimpArgs false
namespace Go.Proofs.Ytioeomjjfajldaa.PL
open Go.RowKit Go.Proofs.Ytioeomjjfajldaa.Pp Go.Proofs.Ytioeomjjfajldaa.PB Go.Proofs.YtioeomjjfajldaaW.PrintWords Go.Proofs.YtioeomjjfajldaaW.PrintLast
def newT (l : List Int) : List Int × List Int × Bool := if goodW l = true then (l, List.replicate l.length 0, true) else ([], [], false)
theorem clone_eq (l : List Int) (hl : l.length ≤ 1048576) : slices_Clone_int_int.f l = some l := by
  unfold slices_Clone_int_int.f
  rw [Option.bind_some, if_pos (by simp; omega)]
  simp
theorem specNT (l : List Int) (hl : l.length ≤ 1048576) : Ev (fun k => spec_NewTurn.f k l) (newT l) := by
  unfold spec_NewTurn.f newT
  refine Ev.bind' _ (specGW_eq l hl) ?_
  cases goodW l with
  | false => exact Ev.const (by simp)
  | true =>
    refine Ev.ite_true (Ev.cbind [] rfl (Ev.pos (by simp; omega) (Ev.pos (by omega) (Ev.pos (by simp; omega) (Ev.const (by simp))))))
theorem implNT (l : List Int) (hl : l.length ≤ 1048576) : Ev (fun k => impl_NewTurn.f k l) (newT l) := by
  unfold impl_NewTurn.f newT
  refine Ev.bind' _ (implGW_eq l hl) ?_
  cases goodW l with
  | false => exact Ev.const (by simp)
  | true =>
    refine Ev.ite_true (Ev.cbind l (clone_eq l hl) (Ev.pos (by omega) (Ev.pos (by simp; omega) (Ev.const (by simp)))))
end Go.Proofs.Ytioeomjjfajldaa.PL
