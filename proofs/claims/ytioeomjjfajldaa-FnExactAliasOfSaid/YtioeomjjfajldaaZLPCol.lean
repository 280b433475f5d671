/- Lists of columns: copied, compared. -/
import Derived.Test.YtioeomjjfajldaaXBase
import Derived.Test.YtioeomjjfajldaaJFnExactAliasOf0
import Derived.Test.YtioeomjjfajldaaJFnExactAliasOf1
set_option linter.unusedVariables false
set_option linter.unusedSimpArgs false
namespace Go.Proofs.Ytioeomjjfajldaa.PL
open Go.RowKit Go.Proofs.Ytioeomjjfajldaa.Pp Go.Proofs.Ytioeomjjfajldaa.PB Go.Proofs.YtioeomjjfajldaaW.PrintWords Go.Proofs.YtioeomjjfajldaaW.PrintLast
def col (x : S_LColumn) : S_Column := ⟨x.f0, x.f1⟩
theorem szColumnS_eq (l : List S_LColumn) (h : l.length ≤ maxLen) : laws_szColumnS.f l 1048576 = some (if (l.length : Int) > 1048576 then (-1 : Int) else 1048576 - (l.length : Int)) := by
  have hm : maxLen = 9223372036854775807 := rfl
  unfold laws_szColumnS.f
  rw [w64 (by omega) (by omega)]
  by_cases h2 : (l.length : Int) > 1048576
  · rw [if_pos (by omega), if_pos h2]
  · rw [if_neg (by omega), if_neg h2]
theorem toColumnS_eq (l : List S_LColumn) (hl : l.length ≤ 1048576) : Ev (fun k => laws_toColumnS.f k l) (l.map col) := by
  unfold laws_toColumnS.f
  refine Ev.pos (by omega) (Ev.pos (by simp; omega) ?_)
  refine loop_list l (fun k s i => laws_toColumnS.l0 k l s i) (fun _ _ => l.map col) (fun p s => ∃ q, s = p.map col ++ q ∧ s.length = l.length) ?_ ?_ _ ⟨_, rfl, by simp⟩
  · rintro s ⟨q, rfl, hq⟩
    apply Ev.succ
    simp only [laws_toColumnS.l0]
    refine Ev.neg (by omega) (Ev.const ?_)
    have : q = [] := List.eq_nil_of_length_eq_zero (by simpa using hq)
    simp [this]
  · rintro p x t s e ⟨q, rfl, hq⟩ ih
    have hm := len_mid e
    have hx : rd_TColumn = rd_TColumn := rfl
    cases q with
    | nil => simp at hq; omega
    | cons y q =>
      apply Ev.succ
      simp only [laws_toColumnS.l0, rd_TLColumn, getD_mid e]
      refine Ev.pos hm.1 (Ev.pos (by omega) (Ev.cbind (x.f0, x.f1) (by rfl) (Ev.pos (by omega) ?_)))
      have e2 := set_mid (p.map col) q (⟨x.f0, x.f1⟩ : S_Column) y
      rw [List.length_map] at e2
      rw [w64 (by omega) (by omega), e2]
      exact ih _ ⟨q, by simp [col], by simpa using hq⟩
theorem eqColumnS_eq (l : List S_Column) (hl : l.length ≤ 1048576) : Ev (fun k => laws_eqColumnS.f k l l) true := by
  unfold laws_eqColumnS.f
  refine Ev.pos rfl ?_
  refine loop_list l (fun k (_ : Unit) i => laws_eqColumnS.l0 k l l i) (fun _ _ => true) (fun _ _ => True) ?_ ?_ () trivial
  · intro _ _
    apply Ev.succ
    simp only [laws_eqColumnS.l0]
    exact Ev.neg (by omega) (Ev.const rfl)
  · intro p x t s e _ ih
    have hm := len_mid e
    apply Ev.succ
    simp only [laws_eqColumnS.l0]
    refine Ev.pos hm.1 (Ev.pos (by omega) (Ev.pos hm.1 (Ev.cbind true (by simp [laws_eqColumn.f]) (Ev.ite_true ?_))))
    rw [w64 (by omega) (by omega)]
    exact ih () trivial
end Go.Proofs.Ytioeomjjfajldaa.PL
