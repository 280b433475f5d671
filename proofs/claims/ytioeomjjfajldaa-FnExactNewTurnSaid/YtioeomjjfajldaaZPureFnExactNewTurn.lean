/- The program's NewTurn returns what the reference's returns, for all arguments; no condition beyond the row's own. -/
import Derived.Test.YtioeomjjfajldaaJFnExactNewTurn0
import Derived.Test.YtioeomjjfajldaaJFnExactNewTurn1
import Derived.Test.YtioeomjjfajldaaZLPGW
import Derived.Test.YtioeomjjfajldaaZLPInts
import Derived.Test.YtioeomjjfajldaaZLPIntM
set_option linter.unusedVariables false
namespace Go.Proofs.Ytioeomjjfajldaa.Pure
open Go.RowKit Go.Proofs.Ytioeomjjfajldaa.Pp Go.Proofs.Ytioeomjjfajldaa.PB Go.Proofs.Ytioeomjjfajldaa.PL Go.Proofs.YtioeomjjfajldaaW.PrintWords Go.Proofs.YtioeomjjfajldaaW.PrintLast
def newT (l : List Int) : List Int × List Int × Bool := if goodW l = true then (l, List.replicate l.length 0, true) else ([], [], false)
theorem specNT (l : List Int) (hl : l.length ≤ 1048576) : Ev (fun k => spec_NewTurn.f k l) (newT l) := by
  unfold spec_NewTurn.f newT
  refine Ev.bind' _ (specGW_eq l hl) ?_
  cases goodW l with
  | false => exact Ev.const (by simp)
  | true =>
    refine Ev.ite_true (Ev.cbind [] rfl (Ev.pos (by simp; omega) (Ev.pos (by omega) (Ev.pos (by simp; omega) (Ev.const (by simp))))))
theorem implNT (l : List Int) (hl : l.length ≤ 1048576) : Ev (fun k => impl_NewTurn.f k l) (newT l) := by
  unfold impl_NewTurn.f newT
  refine Ev.bind' _ (implGW_eq l hl) ?_
  cases goodW l with
  | false => exact Ev.const (by simp)
  | true =>
    refine Ev.ite_true (Ev.cbind l (by unfold slices_Clone_int_int.f; rw [Option.bind_some, if_pos (by simp; omega)]; simp) (Ev.pos (by omega) (Ev.pos (by simp; omega) (Ev.const (by simp)))))
theorem eqTurn (a b : List Int) (ha : a.length ≤ 1048576) (hb : b.length ≤ 1048576) : Ev (fun k => laws_eqTurn.f k a b a b) true := by
  unfold laws_eqTurn.f
  exact Ev.bind' _ (eqIntS_eq a ha) (Ev.ite_true (Ev.bind' _ (eqIntS_eq b hb) (Ev.ite_true (Ev.const rfl))))
theorem newT_len (l : List Int) : (newT l).1.length ≤ l.length ∧ (newT l).2.1.length ≤ l.length := by
  unfold newT
  split <;> simp
theorem FnExactNewTurn : laws_FnExactNewTurn.Pure := by
  rintro l ⟨h1, _⟩
  refine Ev.get (g := fun k => laws_FnExactNewTurn.f k l) ?_
  unfold laws_FnExactNewTurn.f
  by_cases h : (l.length : Int) > 1048576
  · exact Ev.pos h (Ev.const rfl)
  · have hl : l.length ≤ 1048576 := by omega
    obtain ⟨q1, q2⟩ := newT_len l
    have et := eqTurn (newT l).1 (newT l).2.1 (by omega) (by omega)
    refine Ev.neg h (Ev.bind' _ (toIntS_eq l hl) (Ev.bind' _ (specNT l hl) (Ev.bind' _ (toIntS_eq l hl) (Ev.bind' _ (implNT l hl) (Ev.bind' _ et (Ev.ite_true ?_))))))
    apply Ev.succ
    simp only [laws_FnExactNewTurn.j0]
    refine Ev.neg (by simp) (Ev.bind' _ (toIntS_eq l hl) (Ev.bind' _ (eqIntS_eq l hl) (Ev.ite_true (Ev.bind' _ (markIntS_eq l 1 (by omega) (by omega) (by omega)) (Ev.neg (by simp; omega) (Ev.bind' _ et (Ev.ite_true ?_)))))))
    apply Ev.succ
    simp only [laws_FnExactNewTurn.j1]
    have m2 : Ev (fun k => laws_markTurn.f k (newT l).1 (newT l).2.1 1) (1 + (newT l).1.length + (newT l).2.1.length, marks 1 (newT l).1.length, marks (1 + (newT l).1.length) (newT l).2.1.length) := by
      unfold laws_markTurn.f
      exact Ev.bind' _ (markIntS_eq _ 1 (by omega) (by omega) (by omega)) (Ev.bind' _ (markIntS_eq _ _ (by omega) (by omega) (by omega)) (Ev.const rfl))
    have h2 : Ev (fun k => laws_heldTurn.f k (marks 1 (newT l).1.length) (marks (1 + (newT l).1.length) (newT l).2.1.length) 1) (1 + (newT l).1.length + (newT l).2.1.length) := by
      unfold laws_heldTurn.f
      exact Ev.bind' _ (heldIntS_eq _ 1 (by omega) (by omega) (by omega)) (Ev.neg (by omega) (Ev.bind' _ (heldIntS_eq _ _ (by omega) (by omega) (by omega)) (Ev.neg (by omega) (Ev.const rfl))))
    refine Ev.neg (by simp) (Ev.bind' _ m2 (Ev.bind' _ h2 (Ev.neg (by omega) (Ev.pos rfl (Ev.bind' _ (toIntS_eq l hl) (Ev.bind' _ (implNT l hl) (Ev.bind' _ et (Ev.ite_true ?_))))))))
    apply Ev.succ
    simp only [laws_FnExactNewTurn.j2]
    exact Ev.neg (by simp) (Ev.bind' _ h2 (Ev.neg (by omega) (Ev.pos rfl (Ev.const rfl))))
end Go.Proofs.Ytioeomjjfajldaa.Pure
