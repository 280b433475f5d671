/- sameInts; bytes. -/
import Derived.Test.YtioeomjjfajldaaXBase
import Derived.Test.YtioeomjjfajldaaJFnTurns0
import Derived.Test.YtioeomjjfajldaaJFnTurns1
set_option linter.unusedVariables false
set_option linter.unusedSimpArgs false
namespace Go.Proofs.Ytioeomjjfajldaa.PL
open Go.RowKit Go.Proofs.Ytioeomjjfajldaa.Pp Go.Proofs.Ytioeomjjfajldaa.PB Go.Proofs.YtioeomjjfajldaaW.PrintWords Go.Proofs.YtioeomjjfajldaaW.PrintLast
theorem wf8 (x : Int) (h : (Lit.int .u8 x).wf = true) : 0 ≤ x ∧ x ≤ 255 := by
  simp only [Lit.wf, Bool.and_eq_true, decide_eq_true_eq] at h
  have h0 : (IntKind.u8).min = 0 := rfl
  have h1 : (IntKind.u8).max = 255 := rfl
  omega
theorem same_eq (l : List Int) (hl : l.length ≤ 1048576) : Ev (fun k => laws_sameInts.f k l l) true := by
  unfold laws_sameInts.f
  refine Ev.pos rfl ?_
  refine loop_list l (fun k (_ : Unit) i => laws_sameInts.l0 k l l (l.length : Int) i) (fun _ _ => true) (fun _ _ => True) ?_ ?_ () trivial
  · intro _ _
    apply Ev.succ
    simp only [laws_sameInts.l0]
    exact Ev.neg (by omega) (Ev.const rfl)
  · intro p x t s e _ ih
    have hm := len_mid e
    apply Ev.succ
    simp only [laws_sameInts.l0]
    refine Ev.pos hm.1 (Ev.pos (by omega) (Ev.pos hm.1 (Ev.pos hm.1 (Ev.pos (by simp) ?_))))
    rw [w64 (by omega) (by omega)]
    exact ih () trivial
end Go.Proofs.Ytioeomjjfajldaa.PL
