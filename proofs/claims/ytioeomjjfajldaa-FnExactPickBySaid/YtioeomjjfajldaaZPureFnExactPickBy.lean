/- The program's PickBy returns what the reference's returns, for all arguments; no condition beyond the row's own. -/
import Derived.Test.YtioeomjjfajldaaJFnExactPickBy0
import Derived.Test.YtioeomjjfajldaaZLPPick
import Derived.Test.YtioeomjjfajldaaZLPCol
set_option linter.unusedVariables false
namespace Go.Proofs.Ytioeomjjfajldaa.Pure
open Go.RowKit Go.Proofs.Ytioeomjjfajldaa.Pp Go.Proofs.Ytioeomjjfajldaa.PB Go.Proofs.Ytioeomjjfajldaa.PL Go.Proofs.YtioeomjjfajldaaW.PrintWords Go.Proofs.YtioeomjjfajldaaW.PrintLast
/-- What is picked. -/
def pk (l : List S_Column) (n d : Int) : Int := if Int.tmod d n < (rd_TColumn l (Int.tdiv d n)).f0 then Int.tdiv d n else (rd_TColumn l (Int.tdiv d n)).f1
def pkB (l : List S_Column) (n d : Int) : Int × Bool := if fitsA l n = true ∧ inR d 0 ((l.length : Int) * n - 1) = true then (pk l n d, true) else (0, false)
theorem fits_bounds {l : List S_Column} {n : Int} (h : fitsA l n = true) : 1 ≤ l.length ∧ l.length ≤ 12 ∧ 1 ≤ n ∧ n ≤ 600 := by
  simp only [fitsA, goodA, Bool.and_eq_true, inR, decide_eq_true_eq] at h
  omega
theorem mul_bounds {a : Nat} {n : Int} (h1 : 1 ≤ a) (h2 : a ≤ 12) (h3 : 1 ≤ n) (h4 : n ≤ 600) : 1 ≤ (a : Int) * n ∧ (a : Int) * n ≤ 7200 := by
  have h5 : (1 : Int) * 1 ≤ (a : Int) * n := Int.mul_le_mul (by omega) h3 (by omega) (by omega)
  have h6 : (a : Int) * n ≤ 12 * 600 := Int.mul_le_mul (by omega) h4 (by omega) (by omega)
  omega
theorem div_bounds {a : Nat} {n d : Int} (h3 : 1 ≤ n) (h0 : 0 ≤ d) (h : d ≤ (a : Int) * n - 1) : 0 ≤ Int.tdiv d n ∧ Int.tdiv d n < a := by
  rw [Int.tdiv_eq_ediv_of_nonneg h0]
  refine ⟨Int.ediv_nonneg h0 (by omega), ?_⟩
  exact Int.ediv_lt_of_lt_mul (by omega) (by omega)
theorem spec_eq (l : List S_Column) (n d : Int) (hl : l.length ≤ 1048576) : Ev (fun k => spec_PickBy.f k l n d) (pkB l n d) := by
  unfold spec_PickBy.f pkB
  refine Ev.bind' _ (specFits_eq l n hl) ?_
  cases hf : fitsA l n with
  | false =>
    refine Ev.ite_false ?_
    apply Ev.succ
    simp only [spec_PickBy.j0]
    exact Ev.const (by simp)
  | true =>
    obtain ⟨a1, a2, a3, a4⟩ := fits_bounds hf
    have hm := mul_bounds a1 a2 a3 a4
    refine Ev.ite_true ?_
    rw [w64 (i := (l.length : Int) * n) (by omega) (by omega), w64 (by omega) (by omega)]
    refine Ev.cbind _ (l1In_eq _ _ _) ?_
    apply Ev.succ
    simp only [spec_PickBy.j0]
    cases hd : inR d 0 ((l.length : Int) * n - 1) with
    | false => exact Ev.pos rfl (Ev.const (by simp))
    | true =>
      have hd' : 0 ≤ d ∧ d ≤ (l.length : Int) * n - 1 := by simpa [inR] using hd
      have hq := div_bounds a3 hd'.1 hd'.2
      refine Ev.neg (by simp) (Ev.neg (by omega) ?_)
      rw [w64 (by omega) (by omega)]
      refine Ev.pos hq.1 (Ev.pos hq.2 ?_)
      by_cases hp : Int.tmod d n < (rd_TColumn l (Int.tdiv d n)).f0
      · exact Ev.pos hp (Ev.const (by simp [pk, hp]))
      · exact Ev.neg hp (Ev.const (by simp [pk, hp]))
theorem impl_eq (l : List S_Column) (n d : Int) (hl : l.length ≤ 1048576) : Ev (fun k => impl_PickBy.f k l n d) (pkB l n d) := by
  unfold impl_PickBy.f pkB
  refine Ev.bind' _ (implAre_eq l n hl) ?_
  cases hf : fitsA l n with
  | false => exact Ev.ite_false (Ev.const (by simp))
  | true =>
    obtain ⟨a1, a2, a3, a4⟩ := fits_bounds hf
    have hm := mul_bounds a1 a2 a3 a4
    refine Ev.ite_true ?_
    rw [w64 (i := (l.length : Int) * n) (by omega) (by omega), w64 (by omega) (by omega)]
    refine Ev.cbind _ (within_eq _ _ _) ?_
    cases hd : inR d 0 ((l.length : Int) * n - 1) with
    | false => exact Ev.ite_false (Ev.const (by simp))
    | true =>
      have hd' : 0 ≤ d ∧ d ≤ (l.length : Int) * n - 1 := by simpa [inR] using hd
      have hq := div_bounds a3 hd'.1 hd'.2
      refine Ev.ite_true (Ev.cbind (pk l n d) ?_ (Ev.const (by simp)))
      unfold impl_pickBy.f pk
      rw [if_neg (by omega), w64 (by omega) (by omega), if_pos hq.1, if_pos hq.2]
      split <;> rfl
theorem FnExactPickBy : laws_FnExactPickBy.Pure := by
  rintro l n d ⟨h1, _⟩ _ _
  refine Ev.get (g := fun k => laws_FnExactPickBy.f k l n d) ?_
  unfold laws_FnExactPickBy.f
  refine Ev.cbind _ (szColumnS_eq l h1) ?_
  by_cases h : (l.length : Int) > 1048576
  · rw [if_pos h]
    exact Ev.pos (by omega) (Ev.const rfl)
  · rw [if_neg h]
    have hl : l.length ≤ 1048576 := by omega
    have hc : (l.map col).length ≤ 1048576 := by simpa using hl
    refine Ev.neg (by omega) (Ev.bind' _ (toColumnS_eq l hl) (Ev.bind' _ (spec_eq _ n d hc) (Ev.bind' _ (toColumnS_eq l hl) (Ev.bind' _ (impl_eq _ n d hc) (Ev.pos rfl ?_)))))
    apply Ev.succ
    simp only [laws_FnExactPickBy.j0]
    refine Ev.neg (by simp) (Ev.bind' _ (toColumnS_eq l hl) (Ev.bind' _ (eqColumnS_eq _ hc) (Ev.ite_true (Ev.const rfl))))
end Go.Proofs.Ytioeomjjfajldaa.Pure
