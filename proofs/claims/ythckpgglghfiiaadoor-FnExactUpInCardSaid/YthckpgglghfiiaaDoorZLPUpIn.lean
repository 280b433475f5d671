/- UpIn: the two come to the same. -/
import Derived.Test.YthckpgglghfiiaaDoorZLPHealth
import Derived.Test.YthckpgglghfiiaaDoorJFnExactUpIn0
import Derived.Test.YthckpgglghfiiaaDoorJFnExactUpIn1
import Derived.Test.YthckpgglghfiiaaDoorJFnExactUpIn2
import Derived.Test.YthckpgglghfiiaaDoorJFnExactUpIn3
set_option linter.unusedVariables false
set_option linter.unusedSimpArgs false
namespace Go.Proofs.YthckpgglghfiiaaDoor.PL
open Go.RowKit Go.Proofs.YthckpgglghfiiaaDoor.Pp Go.Proofs.YthckpgglghfiiaaDoor.PB Go.Proofs.YthckpgglghfiiaaDoorW.PrintWords Go.Proofs.YthckpgglghfiiaaDoorW.PrintLast
def upH (l : List S_Host) : List ByteArray := (l.filter (·.f1)).map (·.f0)
def upInH (n m : Int) (l : List S_Host) : List ByteArray × Bool := if goodH n m l = true then (upH l, true) else ([], false)
theorem specUpIn_eq (n m : Int) (l : List S_Host) (hl : l.length ≤ 1048576) (hs : ∀ x ∈ l, x.f0.size ≤ 1048576) : Ev (fun k => spec_UpIn.f k n m l) (upInH n m l) := by
  unfold spec_UpIn.f upInH
  refine Ev.bind' _ (specGoodHealth_eq n m l hl hs) ?_
  cases hg : goodH n m l with
  | false => exact Ev.ite_false (Ev.const (by simp))
  | true =>
    refine Ev.ite_true ?_
    refine Ev.eq_ (loop_list l (fun k (s : List ByteArray) i => spec_UpIn.l0 k s l (l.length : Int) i) (fun s t => (s ++ upH t, true)) (fun p s => s.length ≤ p.length) ?_ ?_ [] (by simp)) (by simp)
    · intro s _
      apply Ev.succ
      simp only [spec_UpIn.l0]
      exact Ev.neg (by omega) (Ev.const (by simp [upH]))
    · intro p x t s e hs ih
      have hm := len_mid e
      apply Ev.succ
      simp only [spec_UpIn.l0, rd_THost, getD_mid e]
      refine Ev.pos hm.1 (Ev.pos (by omega) (Ev.pos hm.1 ?_))
      rw [w64 (i := (p.length : Int) + 1) (by omega) (by omega)]
      cases hq : x.f1 with
      | true => exact Ev.ite_true (Ev.pos (by omega) (Ev.eq_ (ih (s ++ [x.f0]) (by simp; omega)) (by simp [upH, hq])))
      | false => exact Ev.ite_false (Ev.eq_ (ih s (by simp; omega)) (by simp [upH, hq]))
theorem implUpIn_eq (n m : Int) (l : List S_Host) (hl : l.length ≤ 1048576) (hs : ∀ x ∈ l, x.f0.size ≤ 1048576) : Ev (fun k => impl_UpIn.f k n m l) (upInH n m l) := by
  unfold impl_UpIn.f upInH
  refine Ev.bind' _ (implGoodHealth_eq n m l hl hs) ?_
  cases hg : goodH n m l with
  | false => exact Ev.ite_false (Ev.const (by simp))
  | true =>
    refine Ev.ite_true ?_
    refine Ev.eq_ (loop_list l (fun k (s : List ByteArray) i => impl_UpIn.l0 k s l (l.length : Int) i) (fun s t => (s ++ upH t, true)) (fun p s => s.length ≤ p.length) ?_ ?_ [] (by simp)) (by simp)
    · intro s _
      apply Ev.succ
      simp only [impl_UpIn.l0]
      exact Ev.neg (by omega) (Ev.const (by simp [upH]))
    · intro p x t s e hs ih
      have hm := len_mid e
      apply Ev.succ
      simp only [impl_UpIn.l0, rd_THost, getD_mid e]
      refine Ev.pos hm.1 (Ev.pos (by omega) (Ev.pos hm.1 ?_))
      rw [w64 (i := (p.length : Int) + 1) (by omega) (by omega)]
      cases hq : x.f1 with
      | true => exact Ev.ite_true (Ev.pos (by omega) (Ev.eq_ (ih (s ++ [x.f0]) (by simp; omega)) (by simp [upH, hq])))
      | false => exact Ev.ite_false (Ev.eq_ (ih s (by simp; omega)) (by simp [upH, hq]))
theorem upInH_len (n m : Int) (l : List S_Host) : (upInH n m l).1.length ≤ l.length := by
  unfold upInH
  split
  · simp only [upH, List.length_map]
    exact List.length_filter_le _ _
  · simp
end Go.Proofs.YthckpgglghfiiaaDoor.PL
