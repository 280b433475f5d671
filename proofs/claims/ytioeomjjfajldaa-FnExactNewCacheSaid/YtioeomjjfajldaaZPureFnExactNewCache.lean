/- The program's NewCache returns what the reference's returns; no condition. -/
import Derived.Test.YtioeomjjfajldaaJFnExactNewCache0
import Derived.Test.YtioeomjjfajldaaXBase
set_option linter.unusedVariables false
namespace Go.Proofs.Ytioeomjjfajldaa.Pure
open Go.RowKit Go.Proofs.Ytioeomjjfajldaa.Pp Go.Proofs.Ytioeomjjfajldaa.PB Go.Proofs.YtioeomjjfajldaaW.PrintWords Go.Proofs.YtioeomjjfajldaaW.PrintLast
theorem eqCache0 : Ev (fun k => laws_eqCache.f k 1 [] 1 []) true := by
  have h : Ev (fun k => laws_eqEntryS.f k [] []) true := by
    unfold laws_eqEntryS.f
    refine Ev.pos rfl (Ev.succ ?_)
    simp only [laws_eqEntryS.l0]
    exact Ev.neg (by simp) (Ev.const rfl)
  unfold laws_eqCache.f
  exact Ev.pos rfl (Ev.bind' _ h (Ev.ite_true (Ev.const rfl)))
theorem heldCache0 : Ev (fun k => laws_heldCache.f k 1 [] 1) 1 := by
  have h : Ev (fun k => laws_heldEntryS.f k [] 1) 1 := by
    unfold laws_heldEntryS.f
    refine Ev.succ ?_
    simp only [laws_heldEntryS.l0]
    exact Ev.neg (by simp) (Ev.const rfl)
  unfold laws_heldCache.f
  exact Ev.bind' _ h (Ev.neg (by omega) (Ev.const rfl))
theorem FnExactNewCache : laws_FnExactNewCache.Pure := by
  refine Ev.get (g := fun k => laws_FnExactNewCache.f k) ?_
  unfold laws_FnExactNewCache.f
  have hm : laws_markCache.f 1 [] 1 = some 1 := rfl
  refine Ev.cbind (1, []) rfl (Ev.cbind (1, []) rfl (Ev.bind' _ eqCache0 (Ev.ite_true (Ev.cbind _ hm (Ev.bind' _ heldCache0 (Ev.neg (by omega) (Ev.pos rfl (Ev.cbind (1, []) rfl (Ev.bind' _ eqCache0 (Ev.ite_true (Ev.bind' _ heldCache0 (Ev.neg (by omega) (Ev.pos rfl (Ev.const rfl))))))))))))))
end Go.Proofs.Ytioeomjjfajldaa.Pure
