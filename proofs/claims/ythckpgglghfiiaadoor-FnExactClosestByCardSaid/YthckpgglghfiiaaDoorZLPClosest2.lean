/- ClosestBy, as it is called from outside. -/
import Derived.Test.YthckpgglghfiiaaDoorZLPClosest
import Derived.Test.YthckpgglghfiiaaDoorZLPCovers2
import Derived.Test.YthckpgglghfiiaaDoorJFnExactClosestBy0
import Derived.Test.YthckpgglghfiiaaDoorJFnExactClosestBy1
import Derived.Test.YthckpgglghfiiaaDoorJFnExactClosestBy2
set_option linter.unusedVariables false
set_option linter.unusedSimpArgs false
namespace Go.Proofs.YthckpgglghfiiaaDoor.PL
open Go.RowKit Go.Proofs.YthckpgglghfiiaaDoor.Pp Go.Proofs.YthckpgglghfiiaaDoor.PB Go.Proofs.YthckpgglghfiiaaDoorW.PrintWords Go.Proofs.YthckpgglghfiiaaDoorW.PrintLast
theorem closestAll (o n x : ByteArray) (l : List Int) (ho : o.size ≤ 1048576) (hn : n.size ≤ 1048576) (hx : x.size ≤ 1048576) :
    ∃ r : ByteArray × Bool, Ev (fun k => spec_ClosestBy.f k o n l x) r ∧ Ev (fun k => impl_ClosestBy.f k o n l x) r := by
  unfold spec_ClosestBy.f impl_ClosestBy.f
  have h1 := specCovers_eq o n x l ho hn hx
  have h2 := implCovers_eq o n x l ho hn hx
  unfold covAll at h1 h2
  by_cases hg : (nameOk o && nameOk n && nameOk x) = true
  · rw [if_pos hg] at h1 h2
    cases hc : covN o n x with
    | false =>
      rw [hc] at h1 h2
      exact ⟨(⟨#[]⟩, false), Ev.bind' _ h1 (Ev.ite_false (Ev.const rfl)), Ev.bind' _ h2 (Ev.ite_true (Ev.ite_false (Ev.const rfl)))⟩
    | true =>
      rw [hc] at h1 h2
      simp only [Bool.and_eq_true] at hg
      obtain ⟨c, c1, c2, _⟩ := closest_both o n x l ho hn hx (nameOk_labels hg.2).1
      exact ⟨(c, true), Ev.bind' _ h1 (Ev.ite_true (Ev.ite_true (Ev.bind' _ c1 (Ev.const rfl)))), Ev.bind' _ h2 (Ev.ite_true (Ev.ite_true (Ev.bind' _ c2 (Ev.const rfl))))⟩
  · rw [if_neg hg] at h1 h2
    exact ⟨(⟨#[]⟩, false), Ev.bind' _ h1 (Ev.ite_false (Ev.const rfl)), Ev.bind' _ h2 (Ev.ite_false (Ev.const rfl))⟩
end Go.Proofs.YthckpgglghfiiaaDoor.PL
