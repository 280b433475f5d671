/- The program's GoodAlias returns what the reference's returns, for all arguments; no condition beyond the row's own. -/
import Derived.Test.YtioeomjjfajldaaJFnExactGoodAlias0
import Derived.Test.YtioeomjjfajldaaZLPGoodAlias
import Derived.Test.YtioeomjjfajldaaZLPCol
set_option linter.unusedVariables false
namespace Go.Proofs.Ytioeomjjfajldaa.Pure
open Go.RowKit Go.Proofs.Ytioeomjjfajldaa.Pp Go.Proofs.Ytioeomjjfajldaa.PB Go.Proofs.Ytioeomjjfajldaa.PL Go.Proofs.YtioeomjjfajldaaW.PrintWords Go.Proofs.YtioeomjjfajldaaW.PrintLast
theorem FnExactGoodAlias : laws_FnExactGoodAlias.Pure := by
  rintro l ⟨h1, _⟩
  refine Ev.get (g := fun k => laws_FnExactGoodAlias.f k l) ?_
  unfold laws_FnExactGoodAlias.f
  refine Ev.cbind _ (szColumnS_eq l h1) ?_
  by_cases h : (l.length : Int) > 1048576
  · rw [if_pos h]
    exact Ev.pos (by omega) (Ev.const rfl)
  · rw [if_neg h]
    have hl : l.length ≤ 1048576 := by omega
    have hc : (l.map col).length ≤ 1048576 := by simpa using hl
    refine Ev.neg (by omega) (Ev.bind' _ (toColumnS_eq l hl) (Ev.bind' _ (specGoodAlias_eq _ hc) (Ev.bind' _ (toColumnS_eq l hl) (Ev.bind' _ (implGoodAlias_eq _ hc) ?_))))
    refine Ev.neg (by simp) (Ev.bind' _ (toColumnS_eq l hl) (Ev.bind' _ (eqColumnS_eq _ hc) (Ev.ite_true (Ev.const rfl))))
end Go.Proofs.Ytioeomjjfajldaa.Pure
