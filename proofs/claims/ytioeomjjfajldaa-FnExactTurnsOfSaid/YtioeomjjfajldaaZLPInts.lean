/- Lists of numbers: copied, compared. -/
import Derived.Test.YtioeomjjfajldaaXBase
import Derived.Test.YtioeomjjfajldaaJFnExactTurnsOf0
import Derived.Test.YtioeomjjfajldaaJFnExactTurnsOf1
set_option linter.unusedVariables false
set_option linter.unusedSimpArgs false
namespace Go.Proofs.Ytioeomjjfajldaa.PL
open Go.RowKit Go.Proofs.Ytioeomjjfajldaa.Pp Go.Proofs.Ytioeomjjfajldaa.PB Go.Proofs.YtioeomjjfajldaaW.PrintWords Go.Proofs.YtioeomjjfajldaaW.PrintLast
theorem toIntS_eq (l : List Int) (hl : l.length ≤ 1048576) : Ev (fun k => laws_toIntS.f k l) l := by
  unfold laws_toIntS.f
  refine Ev.pos (by omega) (Ev.pos (by simp; omega) ?_)
  refine loop_list l (fun k s i => laws_toIntS.l0 k l s i) (fun _ _ => l) (fun p s => ∃ q, s = p ++ q ∧ s.length = l.length) ?_ ?_ _ ⟨_, rfl, by simp⟩
  · rintro s ⟨q, rfl, hq⟩
    apply Ev.succ
    simp only [laws_toIntS.l0]
    refine Ev.neg (by omega) (Ev.const ?_)
    have : q = [] := List.eq_nil_of_length_eq_zero (by simpa using hq)
    simp [this]
  · rintro p x t s e ⟨q, rfl, hq⟩ ih
    have hm := len_mid e
    cases q with
    | nil => simp at hq; omega
    | cons y q =>
      apply Ev.succ
      simp only [laws_toIntS.l0, rd_mid' e]
      refine Ev.pos hm.1 (Ev.pos (by omega) (Ev.pos (by omega) ?_))
      rw [w64 (by omega) (by omega), set_mid]
      exact ih _ ⟨q, rfl, by simpa using hq⟩
theorem eqIntS_eq (l : List Int) (hl : l.length ≤ 1048576) : Ev (fun k => laws_eqIntS.f k l l) true := by
  unfold laws_eqIntS.f
  refine Ev.pos rfl ?_
  refine loop_list l (fun k (_ : Unit) i => laws_eqIntS.l0 k l l i) (fun _ _ => true) (fun _ _ => True) ?_ ?_ () trivial
  · intro _ _
    apply Ev.succ
    simp only [laws_eqIntS.l0]
    exact Ev.neg (by omega) (Ev.const rfl)
  · intro p x t s e _ ih
    have hm := len_mid e
    apply Ev.succ
    simp only [laws_eqIntS.l0]
    refine Ev.pos hm.1 (Ev.pos (by omega) (Ev.pos hm.1 (Ev.pos trivial ?_)))
    rw [w64 (by omega) (by omega)]
    exact ih () trivial
end Go.Proofs.Ytioeomjjfajldaa.PL
