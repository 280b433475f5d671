/- The program's TurnsOf returns what the reference's returns, for all arguments; no condition beyond the row's own. -/
import Derived.Test.YtioeomjjfajldaaJFnExactTurnsOf0
import Derived.Test.YtioeomjjfajldaaJFnExactTurnsOf1
import Derived.Test.YtioeomjjfajldaaZLPTurns
import Derived.Test.YtioeomjjfajldaaZLPInts
import Derived.Test.YtioeomjjfajldaaZLPIntM
set_option linter.unusedVariables false
namespace Go.Proofs.Ytioeomjjfajldaa.Pure
open Go.RowKit Go.Proofs.Ytioeomjjfajldaa.Pp Go.Proofs.Ytioeomjjfajldaa.PB Go.Proofs.Ytioeomjjfajldaa.PL Go.Proofs.YtioeomjjfajldaaW.PrintWords Go.Proofs.YtioeomjjfajldaaW.PrintLast
theorem FnExactTurnsOf : laws_FnExactTurnsOf.Pure := by
  rintro l n ⟨h1, _⟩ _
  refine Ev.get (g := fun k => laws_FnExactTurnsOf.f k l n) ?_
  unfold laws_FnExactTurnsOf.f
  by_cases h : (l.length : Int) > 1048576
  · exact Ev.pos h (Ev.const rfl)
  · have hl : l.length ≤ 1048576 := by omega
    have q := turnsA_len l n
    have hsp := specTurns_eq l n hl
    have him := implTurns_eq l n hl
    generalize turnsA l n = R at q hsp him
    obtain ⟨x, o⟩ := R
    simp only at q
    have ei := eqIntS_eq x q
    have ti := toIntS_eq l hl
    have hm := markIntS_eq x 1 (by omega) (by omega) (by omega)
    have hh := heldIntS_eq x.length 1 (by omega) (by omega) (by omega)
    refine Ev.neg h (Ev.bind' _ ti (Ev.bind' _ hsp (Ev.bind' _ ti (Ev.bind' _ him (Ev.bind' _ ei (Ev.ite_true (Ev.succ ?_)))))))
    rw [bne_self_eq_false]
    simp only [laws_FnExactTurnsOf.j0]
    refine Ev.neg (by simp) (Ev.bind' _ ti (Ev.bind' _ (eqIntS_eq l hl) (Ev.ite_true (Ev.bind' _ (markIntS_eq l 1 (by omega) (by omega) (by omega)) (Ev.neg (by simp; omega) (Ev.bind' _ ei (Ev.ite_true (Ev.succ ?_))))))))
    rw [bne_self_eq_false]
    simp only [laws_FnExactTurnsOf.j1]
    refine Ev.neg (by simp) (Ev.bind' _ hm (Ev.bind' _ hh (Ev.neg (by omega) (Ev.pos rfl (Ev.bind' _ ti (Ev.bind' _ him (Ev.bind' _ ei (Ev.ite_true (Ev.succ ?_)))))))))
    rw [bne_self_eq_false]
    simp only [laws_FnExactTurnsOf.j2]
    exact Ev.neg (by simp) (Ev.bind' _ hh (Ev.neg (by omega) (Ev.pos rfl (Ev.const rfl))))
end Go.Proofs.Ytioeomjjfajldaa.Pure
