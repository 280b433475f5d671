/- RowOf: the two come to the same. -/
import Derived.Test.YthckpgglghfiiaaDoorZLPHealth
import Derived.Test.YthckpgglghfiiaaDoorJFnExactRowOf0
import Derived.Test.YthckpgglghfiiaaDoorJFnExactRowOf1
import Derived.Test.YthckpgglghfiiaaDoorJFnExactRowOf2
set_option linter.unusedVariables false
set_option linter.unusedSimpArgs false
namespace Go.Proofs.YthckpgglghfiiaaDoor.PL
open Go.RowKit Go.Proofs.YthckpgglghfiiaaDoor.Pp Go.Proofs.YthckpgglghfiiaaDoor.PB Go.Proofs.YthckpgglghfiiaaDoorW.PrintWords Go.Proofs.YthckpgglghfiiaaDoorW.PrintLast
def rowOfH (n m : Int) (l : List S_Host) (i : Int) : Int × Bool := if goodH n m l = true ∧ inR i 0 ((l.length : Int) - 1) = true then ((rd_THost l i).f2, true) else (0, false)
theorem specRowOf_eq (n m : Int) (l : List S_Host) (i : Int) (hl : l.length ≤ 1048576) (hs : ∀ x ∈ l, x.f0.size ≤ 1048576) : Ev (fun k => spec_RowOf.f k n m l i) (rowOfH n m l i) := by
  unfold spec_RowOf.f rowOfH
  refine Ev.bind' _ (specGoodHealth_eq n m l hl hs) ?_
  cases hg : goodH n m l with
  | false => exact Ev.ite_false (Ev.const (by simp))
  | true =>
    rw [w64 (i := (l.length : Int) - 1) (by omega) (by omega)]
    refine Ev.ite_true (Ev.cbind _ (l1In_eq _ _ _) ?_)
    cases hi : inR i 0 ((l.length : Int) - 1) with
    | false => exact Ev.ite_false (Ev.const (by simp))
    | true =>
      have : 0 ≤ i ∧ i ≤ (l.length : Int) - 1 := of_decide_eq_true hi
      exact Ev.ite_true (Ev.pos this.1 (Ev.pos (by omega) (Ev.const (by simp))))
theorem implRowOf_eq (n m : Int) (l : List S_Host) (i : Int) (hl : l.length ≤ 1048576) (hs : ∀ x ∈ l, x.f0.size ≤ 1048576) : Ev (fun k => impl_RowOf.f k n m l i) (rowOfH n m l i) := by
  unfold impl_RowOf.f rowOfH
  refine Ev.bind' _ (implGoodHealth_eq n m l hl hs) ?_
  cases hg : goodH n m l with
  | false => exact Ev.ite_false (Ev.const (by simp))
  | true =>
    rw [w64 (i := (l.length : Int) - 1) (by omega) (by omega)]
    refine Ev.ite_true (Ev.cbind _ (within_eq _ _ _) ?_)
    cases hi : inR i 0 ((l.length : Int) - 1) with
    | false => exact Ev.ite_false (Ev.const (by simp))
    | true =>
      have : 0 ≤ i ∧ i ≤ (l.length : Int) - 1 := of_decide_eq_true hi
      exact Ev.ite_true (Ev.pos this.1 (Ev.pos (by omega) (Ev.const (by simp))))
end Go.Proofs.YthckpgglghfiiaaDoor.PL
