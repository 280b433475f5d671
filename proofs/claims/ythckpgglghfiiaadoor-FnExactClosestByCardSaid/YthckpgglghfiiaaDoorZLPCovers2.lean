/- Covers, as it is called from outside. -/
import Derived.Test.YthckpgglghfiiaaDoorZLPCovers
import Derived.Test.YthckpgglghfiiaaDoorZLPAreNames
import Derived.Test.YthckpgglghfiiaaDoorJFnExactClosestBy0
import Derived.Test.YthckpgglghfiiaaDoorJFnExactClosestBy1
import Derived.Test.YthckpgglghfiiaaDoorJFnExactClosestBy2
set_option linter.unusedVariables false
set_option linter.unusedSimpArgs false
namespace Go.Proofs.YthckpgglghfiiaaDoor.PL
open Go.RowKit Go.Proofs.YthckpgglghfiiaaDoor.Pp Go.Proofs.YthckpgglghfiiaaDoor.PB Go.Proofs.YthckpgglghfiiaaDoorW.PrintWords Go.Proofs.YthckpgglghfiiaaDoorW.PrintLast
def covAll (o n x : ByteArray) : Bool × Bool := if (nameOk o && nameOk n && nameOk x) = true then (covN o n x, true) else (false, false)
theorem specCovers_eq (o n x : ByteArray) (l : List Int) (ho : o.size ≤ 1048576) (hn : n.size ≤ 1048576) (hx : x.size ≤ 1048576) : Ev (fun k => spec_Covers.f k o n l x) (covAll o n x) := by
  unfold spec_Covers.f covAll
  refine Ev.bind' _ (specGoodName_eq o ho) ?_
  cases h1 : nameOk o with
  | false => exact Ev.ite_false (Ev.const (by simp))
  | true =>
    refine Ev.ite_true (Ev.bind' _ (specGoodName_eq n hn) ?_)
    cases h2 : nameOk n with
    | false => exact Ev.ite_false (Ev.const (by simp))
    | true =>
      refine Ev.ite_true (Ev.bind' _ (specGoodName_eq x hx) ?_)
      cases h3 : nameOk x with
      | false => exact Ev.ite_false (Ev.const (by simp))
      | true => exact Ev.ite_true (Ev.bind' _ (spec8Covers_eq o n x l ho hn hx (nameOk_labels h1).1 (nameOk_labels h2).1 (nameOk_labels h3).1) (Ev.const (by simp)))
theorem implCovers_eq (o n x : ByteArray) (l : List Int) (ho : o.size ≤ 1048576) (hn : n.size ≤ 1048576) (hx : x.size ≤ 1048576) : Ev (fun k => impl_Covers.f k o n l x) (covAll o n x) := by
  unfold impl_Covers.f covAll
  refine Ev.bind' _ (areNames_eq [o, n, x] (by simp) (by intro y hy; simp at hy; rcases hy with rfl | rfl | rfl <;> assumption)) ?_
  have e : ([o, n, x] : List ByteArray).all nameOk = (nameOk o && nameOk n && nameOk x) := by simp [Bool.and_assoc]
  rw [e]
  cases nameOk o && nameOk n && nameOk x with
  | false => exact Ev.ite_false (Ev.const (by simp))
  | true => exact Ev.ite_true (Ev.bind' _ (covers_eq o n x l ho hn hx) (Ev.const (by simp)))
end Go.Proofs.YthckpgglghfiiaaDoor.PL
