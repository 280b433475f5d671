/- Covers: the two come to the same, for good names. -/
import Derived.Test.YthckpgglghfiiaaDoorZLPCompare
import Derived.Test.YthckpgglghfiiaaDoorJFnExactClosestBy0
import Derived.Test.YthckpgglghfiiaaDoorJFnExactClosestBy1
import Derived.Test.YthckpgglghfiiaaDoorJFnExactClosestBy2
set_option linter.unusedVariables false
set_option linter.unusedSimpArgs false
namespace Go.Proofs.YthckpgglghfiiaaDoor.PL
open Go.RowKit Go.Proofs.YthckpgglghfiiaaDoor.Pp Go.Proofs.YthckpgglghfiiaaDoor.PB Go.Proofs.YthckpgglghfiiaaDoorW.PrintWords Go.Proofs.YthckpgglghfiiaaDoorW.PrintLast
def covN (o n x : ByteArray) : Bool := decide (cmpN o x < 0) && (decide (cmpN n o ≤ 0) || decide (cmpN x n < 0))
theorem spec8Covers_eq (o n x : ByteArray) (l : List Int) (ho : o.size ≤ 1048576) (hn : n.size ≤ 1048576) (hx : x.size ≤ 1048576) (go : (labels o).all labelOk = true) (gn : (labels n).all labelOk = true) (gx : (labels x).all labelOk = true) : Ev (fun k => spec_l8Covers.f k o n l x) (covN o n x) := by
  unfold spec_l8Covers.f covN
  refine Ev.bind' _ (specCompare_eq o x ho hx go gx) ?_
  by_cases h1 : cmpN o x ≥ 0
  · exact Ev.pos h1 (Ev.const (by have : ¬ cmpN o x < 0 := by omega
                                  simp [this]))
  · refine Ev.neg h1 (Ev.bind' _ (specCompare_eq n o hn ho gn go) ?_)
    have h1' : cmpN o x < 0 := by omega
    by_cases h2 : cmpN n o ≤ 0
    · exact Ev.pos h2 (Ev.const (by simp [h1', h2]))
    · exact Ev.neg h2 (Ev.bind' _ (specCompare_eq x n hx hn gx gn) (Ev.const (by simp [h1', h2])))
theorem covers_eq (o n x : ByteArray) (l : List Int) (ho : o.size ≤ 1048576) (hn : n.size ≤ 1048576) (hx : x.size ≤ 1048576) : Ev (fun k => impl_covers.f k o n l x) (covN o n x) := by
  unfold impl_covers.f covN
  refine Ev.bind' _ (compareNames_eq o x ho hx) ?_
  by_cases h1 : cmpN o x ≥ 0
  · exact Ev.pos h1 (Ev.const (by have : ¬ cmpN o x < 0 := by omega
                                  simp [this]))
  · refine Ev.neg h1 (Ev.bind' _ (compareNames_eq n o hn ho) ?_)
    have h1' : cmpN o x < 0 := by omega
    by_cases h2 : cmpN n o ≤ 0
    · exact Ev.pos h2 (Ev.const (by simp [h1', h2]))
    · exact Ev.neg h2 (Ev.bind' _ (compareNames_eq x n hx hn) (Ev.const (by simp [h1', h2])))
end Go.Proofs.YthckpgglghfiiaaDoor.PL
