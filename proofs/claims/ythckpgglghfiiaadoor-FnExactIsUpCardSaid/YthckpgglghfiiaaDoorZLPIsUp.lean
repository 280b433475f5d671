/- IsUp: the two come to the same. -/
import Derived.Test.YthckpgglghfiiaaDoorZLPHealth
import Derived.Test.YthckpgglghfiiaaDoorLPFind
import Derived.Test.YthckpgglghfiiaaDoorJFnExactIsUp0
import Derived.Test.YthckpgglghfiiaaDoorJFnExactIsUp1
import Derived.Test.YthckpgglghfiiaaDoorJFnExactIsUp2
import Derived.Test.YthckpgglghfiiaaDoorJFnExactIsUp3
import Derived.Test.YthckpgglghfiiaaDoorZLIdximplHostimplHostHealthfindHost1
set_option linter.unusedVariables false
set_option linter.unusedSimpArgs false
namespace Go.Proofs.YthckpgglghfiiaaDoor.PL
open Go.RowKit Go.Proofs.YthckpgglghfiiaaDoor.Pp Go.Proofs.YthckpgglghfiiaaDoor.PB Go.Proofs.YthckpgglghfiiaaDoorW.PrintWords Go.Proofs.YthckpgglghfiiaaDoorW.PrintLast
def findH (a : ByteArray) (l : List S_Host) : Bool × Bool := match l.find? (fun y => eqS y.f0 a) with
  | some x => (x.f1, true)
  | none => (false, false)
def isUpH (n m : Int) (l : List S_Host) (a : ByteArray) : Bool × Bool := if goodH n m l = true then findH a l else (false, false)
theorem specIsUp_eq (n m : Int) (l : List S_Host) (a : ByteArray) (hl : l.length ≤ 1048576) (hs : ∀ x ∈ l, x.f0.size ≤ 1048576) : Ev (fun k => spec_IsUp.f k n m l a) (isUpH n m l a) := by
  unfold spec_IsUp.f isUpH
  refine Ev.bind' _ (specGoodHealth_eq n m l hl hs) ?_
  cases hg : goodH n m l with
  | false => exact Ev.ite_false (Ev.const (by simp))
  | true =>
    refine Ev.ite_true ?_
    refine Ev.eq_ (loop_list l (fun k (_ : Unit) i => spec_IsUp.l0 k a l (l.length : Int) i) (fun _ t => findH a t) (fun _ _ => True) ?_ ?_ () trivial) (by simp)
    · intro _ _
      apply Ev.succ
      simp only [spec_IsUp.l0]
      exact Ev.neg (by omega) (Ev.const rfl)
    · intro p x t _ e _ ih
      have hm := len_mid e
      apply Ev.succ
      simp only [spec_IsUp.l0, rd_THost, getD_mid e, ite_eqS]
      refine Ev.pos hm.1 (Ev.pos (by omega) (Ev.pos hm.1 ?_))
      rw [w64 (i := (p.length : Int) + 1) (by omega) (by omega)]
      cases hq : eqS x.f0 a with
      | true => exact Ev.ite_true (Ev.const (by simp [findH, hq]))
      | false => exact Ev.ite_false (Ev.eq_ (ih () trivial) (by simp [findH, hq]))
theorem implIsUp_eq (n m : Int) (l : List S_Host) (a : ByteArray) (hl : l.length ≤ 1048576) (hs : ∀ x ∈ l, x.f0.size ≤ 1048576) : Ev (fun k => impl_IsUp.f k n m l a) (isUpH n m l a) := by
  unfold impl_IsUp.f isUpH impl_Health_findHost.f
  refine Ev.bind' _ (implGoodHealth_eq n m l hl hs) ?_
  cases hg : goodH n m l with
  | false => exact Ev.ite_false (Ev.const (by simp))
  | true =>
    refine Ev.ite_true (Ev.bind' _ (Ev.bind' _ (slices_IndexFunc_impl_Host_impl_Host_Health_findHost_1.idx l a (fun y => eqS y.f0 a) hl (fun y _ => Ev.const ?_)) (Ev.const rfl)) ?_)
    · unfold impl_Health_findHost_1.f
      rw [eqS_beq]
    · by_cases h0 : 0 ≤ idxP (fun y : S_Host => eqS y.f0 a) l
      · obtain ⟨h1, h2⟩ := idxP_find _ z_Host l h0
        refine Ev.neg (by omega) (Ev.pos h0 (Ev.pos h1 (Ev.const ?_)))
        simp [findH, h2, rd_THost]
      · refine Ev.pos (by omega) (Ev.const ?_)
        simp [findH, idxP_none _ _ h0]
end Go.Proofs.YthckpgglghfiiaaDoor.PL
