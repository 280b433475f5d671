/- The program's NextTurn returns what the reference's returns, for all arguments; no condition beyond the row's own. -/
import Derived.Test.YtioeomjjfajldaaJFnExactNextTurn0
import Derived.Test.YtioeomjjfajldaaJFnExactNextTurn1
import Derived.Test.YtioeomjjfajldaaZLPNext
import Derived.Test.YtioeomjjfajldaaZLPTurnL
set_option linter.unusedVariables false
namespace Go.Proofs.Ytioeomjjfajldaa.Pure
open Go.RowKit Go.Proofs.Ytioeomjjfajldaa.Pp Go.Proofs.Ytioeomjjfajldaa.PB Go.Proofs.Ytioeomjjfajldaa.PL Go.Proofs.YtioeomjjfajldaaW.PrintWords Go.Proofs.YtioeomjjfajldaaW.PrintLast
theorem FnExactNextTurn : laws_FnExactNextTurn.Pure := by
  rintro a b ⟨h1, _⟩ ⟨h2, _⟩
  refine Ev.get (g := fun k => laws_FnExactNextTurn.f k a b) ?_
  unfold laws_FnExactNextTurn.f
  obtain ⟨t, ht, hs⟩ := szTurn_eq a b h1 h2
  refine Ev.cbind t ht ?_
  rcases hs with hs | ⟨hs, la, lb⟩
  · exact Ev.pos hs (Ev.const rfl)
  · obtain ⟨q1, q2⟩ := nextT_len a b la
    have hsp := specNext_eq a b la lb
    have him := implNext_eq a b la lb
    generalize nextT a b = R at q1 q2 hsp him
    obtain ⟨x, y, n, o⟩ := R
    simp only at q1 q2
    have et := eqTurn_eq x y q1 q2
    have eab := eqTurn_eq a b la lb
    have tt := toTurn_eq a b la lb
    have mt := markTurn_eq x y q1 q2
    have hh := heldTurn_eq x y q1 q2
    refine Ev.neg hs (Ev.bind' _ tt (Ev.bind' _ hsp (Ev.bind' _ tt (Ev.bind' _ him (Ev.bind' _ et (Ev.ite_true (Ev.pos (by simp) (Ev.succ ?_))))))))
    rw [bne_self_eq_false]
    simp only [laws_FnExactNextTurn.j0]
    refine Ev.neg (by simp) (Ev.bind' _ tt (Ev.bind' _ eab (Ev.ite_true (Ev.bind' _ (markTurn_eq a b la lb) (Ev.neg (by simp; omega) (Ev.bind' _ et (Ev.ite_true (Ev.pos (by simp) (Ev.succ ?_)))))))))
    rw [bne_self_eq_false]
    simp only [laws_FnExactNextTurn.j1]
    refine Ev.neg (by simp) (Ev.bind' _ mt (Ev.bind' _ hh (Ev.neg (by omega) (Ev.pos (by simp) (Ev.bind' _ tt (Ev.bind' _ him (Ev.bind' _ et (Ev.ite_true (Ev.pos (by simp) (Ev.succ ?_))))))))))
    rw [bne_self_eq_false]
    simp only [laws_FnExactNextTurn.j2]
    exact Ev.neg (by simp) (Ev.bind' _ hh (Ev.neg (by omega) (Ev.pos (by simp) (Ev.const rfl))))
end Go.Proofs.Ytioeomjjfajldaa.Pure
