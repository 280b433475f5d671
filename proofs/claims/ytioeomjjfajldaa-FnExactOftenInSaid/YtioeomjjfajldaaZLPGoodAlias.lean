/- GoodAlias, areColumns, PickBy: the program's and the reference's come to the same. -/
import Derived.Test.YtioeomjjfajldaaZLPIn
import Derived.Test.YtioeomjjfajldaaJFnExactOftenIn0
import Derived.Test.YtioeomjjfajldaaJFnExactOftenIn1
import Derived.Test.YtioeomjjfajldaaZLIdximplColumnimplColumnGoodAlias1
set_option linter.unusedVariables false
set_option linter.unusedSimpArgs false
namespace Go.Proofs.Ytioeomjjfajldaa.PL
open Go.RowKit Go.Proofs.Ytioeomjjfajldaa.Pp Go.Proofs.Ytioeomjjfajldaa.PB Go.Proofs.YtioeomjjfajldaaW.PrintWords Go.Proofs.YtioeomjjfajldaaW.PrintLast
def colOk (n : Int) (c : S_Column) : Bool := decide (0 ≤ c.f0) && inR c.f1 0 (n - 1)
def goodA (l : List S_Column) : Bool := inR l.length 1 12 && l.all (colOk l.length)
theorem specGoodAlias_eq (l : List S_Column) (hl : l.length ≤ 1048576) : Ev (fun k => spec_GoodAlias.f k l) (goodA l) := by
  unfold spec_GoodAlias.f
  refine Ev.eq_ (loop_list l (fun k (_ : Unit) i => spec_GoodAlias.l0 k l l (l.length : Int) i) (fun _ t => t.all (colOk l.length) && inR l.length 1 12) (fun _ _ => True) ?_ ?_ () trivial) (by unfold goodA; rw [Bool.and_comm])
  · intro _ _
    apply Ev.succ
    simp only [spec_GoodAlias.l0]
    refine Ev.neg (by omega) (Ev.cbind _ (l1In_eq _ _ _) (Ev.const (by simp)))
  · intro p x t s e _ ih
    have hm := len_mid e
    apply Ev.succ
    simp only [spec_GoodAlias.l0, rd_TColumn, getD_mid e]
    refine Ev.pos hm.1 (Ev.pos (by omega) (Ev.pos hm.1 ?_))
    by_cases h0 : x.f0 < 0
    · refine Ev.pos h0 (Ev.const ?_)
      have : ¬ (0 ≤ x.f0) := by omega
      simp [colOk, this]
    · refine Ev.neg h0 ?_
      rw [w64 (i := (l.length : Int) - 1) (by omega) (by omega)]
      refine Ev.cbind _ (l1In_eq _ _ _) ?_
      have h0' : 0 ≤ x.f0 := by omega
      cases hx : inR x.f1 0 ((l.length : Int) - 1) with
      | false => exact Ev.ite_false (Ev.const (by simp [colOk, hx]))
      | true =>
        refine Ev.ite_true ?_
        rw [w64 (by omega) (by omega)]
        refine Ev.eq_ (ih () trivial) ?_
        simp [colOk, hx, h0']
theorem implGoodAlias_eq (l : List S_Column) (hl : l.length ≤ 1048576) : Ev (fun k => impl_GoodAlias.f k l) (goodA l) := by
  unfold impl_GoodAlias.f goodA
  refine Ev.cbind _ (within_eq _ _ _) ?_
  cases h : inR (l.length : Int) 1 12 with
  | false => exact Ev.ite_false (Ev.const (by simp))
  | true =>
    refine Ev.ite_true (Ev.bind' _ (slices_ContainsFunc_impl_Column_impl_Column_GoodAlias_1.any l l (fun c => !colOk l.length c) hl ?_) (Ev.const ?_))
    · intro x _
      unfold impl_GoodAlias_1.f colOk
      by_cases h0 : x.f0 < 0
      · refine Ev.pos h0 (Ev.const ?_)
        have : ¬ (0 ≤ x.f0) := by omega
        simp [this]
      · refine Ev.neg h0 ?_
        have h0' : 0 ≤ x.f0 := by omega
        rw [w64 (by omega) (by omega)]
        exact Ev.cbind _ (within_eq _ _ _) (Ev.const (by simp [h0']))
    · rw [any_not]; simp
end Go.Proofs.Ytioeomjjfajldaa.PL
