/- The first place at which something holds. -/
import Derived.Test.YthckpgglghfiiaaDoorXBase
set_option linter.unusedVariables false
set_option linter.unusedSimpArgs false
namespace Go.Proofs.YthckpgglghfiiaaDoor.PL
open Go.RowKit Go.Proofs.YthckpgglghfiiaaDoor.PB Go.Proofs.YthckpgglghfiiaaDoorW.PrintWords Go.Proofs.YthckpgglghfiiaaDoorW.PrintLast
theorem idxP_find {α : Type} (q : α → Bool) (d : α) : ∀ (l : List α), 0 ≤ idxP q l → idxP q l < l.length ∧ l.find? q = some (l.getD (idxP q l).toNat d)
  | [], h => by simp [idxP] at h
  | x :: t, h => by
    have e : idxP q (x :: t) = if q x then 0 else if 0 ≤ idxP q t then idxP q t + 1 else -1 := rfl
    by_cases hx : q x = true
    · rw [e, if_pos hx]
      simp [hx] <;> omega
    · by_cases ht : 0 ≤ idxP q t
      · obtain ⟨h1, h2⟩ := idxP_find q d t ht
        rw [e, if_neg hx, if_pos ht]
        refine ⟨by simp; omega, ?_⟩
        rw [List.find?_cons_of_neg hx, h2]
        congr 1
        have : (idxP q t + 1).toNat = (idxP q t).toNat + 1 := by omega
        rw [this]
        simp
      · rw [e, if_neg hx, if_neg ht] at h
        omega
theorem idxP_none {α : Type} (q : α → Bool) (l : List α) (h : ¬ 0 ≤ idxP q l) : l.find? q = none := by
  rw [List.find?_eq_none]
  intro x hx hq
  apply h
  rw [idxP_iff, List.any_eq_true]
  exact ⟨x, hx, hq⟩
end Go.Proofs.YthckpgglghfiiaaDoor.PL
