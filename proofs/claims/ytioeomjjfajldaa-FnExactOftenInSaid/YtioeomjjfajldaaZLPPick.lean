/- Columns good for a total; PickBy. -/
import Derived.Test.YtioeomjjfajldaaZLPGoodAlias
import Derived.Test.YtioeomjjfajldaaZLIdximplColumnimplColumnareColumns1
import Derived.Test.YtioeomjjfajldaaJFnExactOftenIn0
import Derived.Test.YtioeomjjfajldaaJFnExactOftenIn1
set_option linter.unusedVariables false
set_option linter.unusedSimpArgs false
namespace Go.Proofs.Ytioeomjjfajldaa.PL
open Go.RowKit Go.Proofs.Ytioeomjjfajldaa.Pp Go.Proofs.Ytioeomjjfajldaa.PB Go.Proofs.YtioeomjjfajldaaW.PrintWords Go.Proofs.YtioeomjjfajldaaW.PrintLast
def fitsA (l : List S_Column) (n : Int) : Bool := goodA l && (inR n 1 600 && l.all (fun c => decide (c.f0 ≤ n)))
theorem specFits_eq (l : List S_Column) (n : Int) (hl : l.length ≤ 1048576) : Ev (fun k => spec_l12Fits.f k l n) (fitsA l n) := by
  unfold spec_l12Fits.f
  refine Ev.eq_ (loop_list l (fun k (_ : Unit) i => spec_l12Fits.l0 k l n l (l.length : Int) i) (fun _ t => t.all (fun c => decide (c.f0 ≤ n)) && (goodA l && inR n 1 600)) (fun _ _ => True) ?_ ?_ () trivial) (by unfold fitsA; cases goodA l <;> cases inR n 1 600 <;> simp)
  · intro _ _
    apply Ev.succ
    simp only [spec_l12Fits.l0]
    refine Ev.neg (by omega) (Ev.bind' _ (specGoodAlias_eq l hl) ?_)
    cases goodA l with
    | false => exact Ev.ite_false (Ev.const (by simp))
    | true => exact Ev.ite_true (Ev.cbind _ (l1In_eq _ _ _) (Ev.const (by simp)))
  · intro p x t s e _ ih
    have hm := len_mid e
    apply Ev.succ
    simp only [spec_l12Fits.l0, rd_TColumn, getD_mid e]
    refine Ev.pos hm.1 (Ev.pos (by omega) (Ev.pos hm.1 ?_))
    by_cases h0 : x.f0 > n
    · refine Ev.pos h0 (Ev.const ?_)
      have : ¬ (x.f0 ≤ n) := by omega
      simp [this]
    · refine Ev.neg h0 ?_
      rw [w64 (by omega) (by omega)]
      refine Ev.eq_ (ih () trivial) ?_
      have : x.f0 ≤ n := by omega
      simp [this]
theorem implAre_eq (l : List S_Column) (n : Int) (hl : l.length ≤ 1048576) : Ev (fun k => impl_areColumns.f k l n) (fitsA l n) := by
  unfold impl_areColumns.f fitsA
  refine Ev.bind' _ (implGoodAlias_eq l hl) ?_
  cases goodA l with
  | false => exact Ev.ite_false (Ev.const (by simp))
  | true =>
    refine Ev.ite_true (Ev.cbind _ (within_eq _ _ _) ?_)
    cases inR n 1 600 with
    | false => exact Ev.ite_false (Ev.const (by simp))
    | true =>
      refine Ev.ite_true (Ev.bind' _ (slices_ContainsFunc_impl_Column_impl_Column_areColumns_1.any l n (fun c => decide (c.f0 > n)) hl ?_) (Ev.const ?_))
      · intro x _
        exact Ev.const rfl
      · rw [any_all (fun c => decide (c.f0 ≤ n)) (fun c => decide (c.f0 > n)) l (fun x _ => by by_cases h : x.f0 ≤ n <;> simp [h] <;> omega)]
        simp
end Go.Proofs.Ytioeomjjfajldaa.PL
