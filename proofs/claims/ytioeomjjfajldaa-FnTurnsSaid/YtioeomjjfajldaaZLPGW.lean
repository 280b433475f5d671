/- GoodWeights: the program's and the reference's come to the same. -/
import Derived.Test.YtioeomjjfajldaaZLPIn
import Derived.Test.YtioeomjjfajldaaJFnTurns0
import Derived.Test.YtioeomjjfajldaaJFnTurns1
import Derived.Test.YtioeomjjfajldaaZLIdxintintGoodWeights1
set_option linter.unusedVariables false
set_option linter.unusedSimpArgs false
namespace Go.Proofs.Ytioeomjjfajldaa.PL
open Go.RowKit Go.Proofs.Ytioeomjjfajldaa.Pp Go.Proofs.Ytioeomjjfajldaa.PB Go.Proofs.YtioeomjjfajldaaW.PrintWords Go.Proofs.YtioeomjjfajldaaW.PrintLast
def goodW (l : List Int) : Bool := inR l.length 1 12 && (l.all (inR · 0 50) && decide (l.sum > 0))
theorem sum_bound' (lo hi : Int) (l : List Int) (h : l.all (inR · lo hi) = true) : lo * l.length ≤ l.sum ∧ l.sum ≤ hi * l.length := by
  induction l with
  | nil => simp
  | cons x s ih =>
    simp only [List.all_cons, Bool.and_eq_true] at h
    have h1 := ih h.2
    have hx := h.1
    simp only [inR, decide_eq_true_eq] at hx
    simp only [List.sum_cons, List.length_cons]
    rw [show ((s.length + 1 : Nat) : Int) = (s.length : Int) + 1 from by omega, Int.mul_add, Int.mul_add, Int.mul_one, Int.mul_one]
    omega
theorem specGW_eq (l : List Int) (hl : l.length ≤ 1048576) : Ev (fun k => spec_GoodWeights.f k l) (goodW l) := by
  unfold spec_GoodWeights.f
  refine Ev.eq_ (loop_list l (fun k S i => spec_GoodWeights.l0 k l S l (l.length : Int) i) (fun S t => if t.all (inR · 0 50) then inR l.length 1 12 && decide (S + t.sum > 0) else false) (fun p S => 0 ≤ S ∧ S ≤ 50 * p.length) ?_ ?_ 0 (by simp)) (by unfold goodW; cases l.all (inR · 0 50) <;> simp)
  · intro S hS
    apply Ev.succ
    simp only [spec_GoodWeights.l0]
    refine Ev.neg (by omega) (Ev.cbind _ (l1In_eq _ _ _) ?_)
    cases inR (l.length : Int) 1 12 with
    | true => exact Ev.const (by simp)
    | false => exact Ev.const (by simp)
  · intro p x t S e hS ih
    have hm := len_mid e
    apply Ev.succ
    simp only [spec_GoodWeights.l0, rd_mid' e]
    refine Ev.pos hm.1 (Ev.pos (by omega) (Ev.pos hm.1 (Ev.cbind _ (l1In_eq _ _ _) ?_)))
    cases hx : inR x 0 50 with
    | false => exact Ev.const (by simp [hx])
    | true =>
      have hb : 0 ≤ x ∧ x ≤ 50 := by simpa [inR] using hx
      refine Ev.ite_true ?_
      rw [w64 (by omega) (by omega), w64 (by omega) (by omega)]
      refine Ev.eq_ (ih (S + x) ⟨by omega, by simp; omega⟩) ?_
      simp [hx, Int.add_assoc]
theorem total_eq (lo hi : Int) (l : List Int) (h1 : -1000000 ≤ lo) (h2 : lo ≤ 0) (h3 : 0 ≤ hi) (h4 : hi ≤ 1000000) (hl : l.length ≤ 1048576) (ha : l.all (inR · lo hi) = true) : Ev (fun k => impl_totalOf.f k l) l.sum := by
  unfold impl_totalOf.f
  refine Ev.eq_ (loop_list l (fun k S i => impl_totalOf.l0 k S l (l.length : Int) i) (fun S t => S + t.sum) (fun p S => -1000000 * p.length ≤ S ∧ S ≤ 1000000 * p.length) ?_ ?_ 0 (by simp)) (by simp)
  · intro S hS
    apply Ev.succ
    simp only [impl_totalOf.l0]
    exact Ev.neg (by omega) (Ev.const (by simp))
  · intro p x t S e hS ih
    have hm := len_mid e
    have hb : lo ≤ x ∧ x ≤ hi := by
      have := List.all_eq_true.1 ha x (mem_mid e)
      simpa [inR] using this
    apply Ev.succ
    simp only [impl_totalOf.l0, rd_mid' e]
    refine Ev.pos hm.1 (Ev.pos (by omega) (Ev.pos hm.1 ?_))
    rw [w64 (by omega) (by omega), w64 (by omega) (by omega)]
    refine Ev.eq_ (ih (S + x) ⟨by simp; omega, by simp; omega⟩) ?_
    simp [Int.add_assoc]
theorem implGW_eq (l : List Int) (hl : l.length ≤ 1048576) : Ev (fun k => impl_GoodWeights.f k l) (goodW l) := by
  unfold impl_GoodWeights.f goodW
  refine Ev.cbind _ (within_eq _ _ _) ?_
  cases inR (l.length : Int) 1 12 with
  | false => exact Ev.const (by simp)
  | true =>
    refine Ev.ite_true (Ev.bind' _ (slices_ContainsFunc_int_int_GoodWeights_1.any l (fun x => !inR x 0 50) hl (fun x _ => Ev.const (by simp [impl_GoodWeights_1.f, within_eq]))) ?_)
    rw [any_not]
    cases ha : l.all (inR · 0 50) with
    | false => exact Ev.const (by simp)
    | true =>
      refine Ev.neg (by simp) ?_
      exact Ev.bind' _ (total_eq 0 50 l (by omega) (by omega) (by omega) (by omega) hl ha) (Ev.const (by simp))
end Go.Proofs.Ytioeomjjfajldaa.PL
