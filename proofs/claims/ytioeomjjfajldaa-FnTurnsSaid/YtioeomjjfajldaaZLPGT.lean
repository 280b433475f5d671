/- GoodTurn, NewTurn: the program's and the reference's come to the same. -/
import Derived.Test.YtioeomjjfajldaaZLPGW
import Derived.Test.YtioeomjjfajldaaJFnTurns0
import Derived.Test.YtioeomjjfajldaaJFnTurns1
import Derived.Test.YtioeomjjfajldaaZLIdxintintGoodTurn1
set_option linter.unusedVariables false
set_option linter.unusedSimpArgs false
namespace Go.Proofs.Ytioeomjjfajldaa.PL
open Go.RowKit Go.Proofs.Ytioeomjjfajldaa.Pp Go.Proofs.Ytioeomjjfajldaa.PB Go.Proofs.YtioeomjjfajldaaW.PrintWords Go.Proofs.YtioeomjjfajldaaW.PrintLast
def goodT (a b : List Int) : Bool := goodW a && (decide (b.length = a.length) && (b.all (inR · (-10000) 10000) && decide (b.sum = 0)))
theorem implGT_eq (a b : List Int) (ha : a.length ≤ 1048576) (hb : b.length ≤ 1048576) : Ev (fun k => impl_GoodTurn.f k a b) (goodT a b) := by
  unfold impl_GoodTurn.f goodT
  refine Ev.bind' _ (implGW_eq a ha) ?_
  cases goodW a with
  | false => exact Ev.ite_false (Ev.const (by simp))
  | true =>
    refine Ev.ite_true ?_
    by_cases hl : b.length = a.length
    · refine Ev.pos (by omega) (Ev.bind' _ (slices_ContainsFunc_int_int_GoodTurn_1.any b (fun x => !inR x (-10000) 10000) hb (fun x _ => Ev.const (by simp [impl_GoodTurn_1.f, within_eq]))) ?_)
      rw [any_not]
      cases h : b.all (inR · (-10000) 10000) with
      | false => exact Ev.const (by simp)
      | true =>
        refine Ev.neg (by simp) (Ev.bind' _ (total_eq (-10000) 10000 b (by omega) (by omega) (by omega) (by omega) hb h) (Ev.const ?_))
        by_cases hs : b.sum = 0 <;> simp [hl, hs]
    · exact Ev.neg (by omega) (Ev.const (by simp [hl]))
theorem specGT_eq (a b : List Int) (ha : a.length ≤ 1048576) (hb : b.length ≤ 1048576) : Ev (fun k => spec_GoodTurn.f k a b) (goodT a b) := by
  unfold spec_GoodTurn.f goodT
  refine Ev.bind' _ (specGW_eq a ha) ?_
  cases goodW a with
  | false =>
    refine Ev.neg (by simp) ?_
    apply Ev.succ
    simp only [spec_GoodTurn.j0]
    exact Ev.const (by simp)
  | true =>
    refine Ev.pos rfl ?_
    apply Ev.succ
    simp only [spec_GoodTurn.j0]
    by_cases hl : b.length = a.length
    · refine Ev.neg (by simp [hl]) ?_
      refine Ev.eq_ (loop_list b (fun k S i => spec_GoodTurn.l0 k S b (b.length : Int) i) (fun S t => t.all (inR · (-10000) 10000) && decide (S + t.sum = 0)) (fun p S => -10000 * p.length ≤ S ∧ S ≤ 10000 * p.length) ?_ ?_ 0 (by simp)) (by simp [hl])
      · intro S hS
        apply Ev.succ
        simp only [spec_GoodTurn.l0]
        exact Ev.neg (by omega) (Ev.const (by simp only [List.all_nil, List.sum_nil, Int.add_zero, Bool.true_and]; by_cases hz : S = 0 <;> simp [hz]))
      · intro p x t S e hS ih
        have hm := len_mid e
        apply Ev.succ
        simp only [spec_GoodTurn.l0, rd_mid' e]
        refine Ev.pos hm.1 (Ev.pos (by omega) (Ev.pos hm.1 (Ev.cbind _ (l1In_eq _ _ _) ?_)))
        cases hx : inR x (-10000) 10000 with
        | false => exact Ev.const (by simp [hx])
        | true =>
          have hb : -10000 ≤ x ∧ x ≤ 10000 := by simpa [inR] using hx
          refine Ev.ite_true ?_
          rw [w64 (by omega) (by omega), w64 (by omega) (by omega)]
          refine Ev.eq_ (ih (S + x) ⟨by simp; omega, by simp; omega⟩) ?_
          simp only [List.all_cons, hx, Bool.true_and, List.sum_cons, Int.add_assoc]
          congr
    · exact Ev.pos (by simp; omega) (Ev.const (by simp [hl]))
end Go.Proofs.Ytioeomjjfajldaa.PL
