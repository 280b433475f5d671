/- The program's AliasOf returns what the reference's returns, for all arguments; no condition beyond the row's own. -/
import Derived.Test.YtioeomjjfajldaaJFnExactAliasOf0
import Derived.Test.YtioeomjjfajldaaJFnExactAliasOf1
import Derived.Test.YtioeomjjfajldaaZLPAlias
import Derived.Test.YtioeomjjfajldaaZLPCol
import Derived.Test.YtioeomjjfajldaaZLPColM
import Derived.Test.YtioeomjjfajldaaZLPInts
import Derived.Test.YtioeomjjfajldaaZLPIntM
set_option linter.unusedVariables false
namespace Go.Proofs.Ytioeomjjfajldaa.Pure
open Go.RowKit Go.Proofs.Ytioeomjjfajldaa.Pp Go.Proofs.Ytioeomjjfajldaa.PB Go.Proofs.Ytioeomjjfajldaa.PL Go.Proofs.YtioeomjjfajldaaW.PrintWords Go.Proofs.YtioeomjjfajldaaW.PrintLast
theorem FnExactAliasOf : laws_FnExactAliasOf.Pure := by
  rintro l ⟨h1, _⟩
  refine Ev.get (g := fun k => laws_FnExactAliasOf.f k l) ?_
  unfold laws_FnExactAliasOf.f
  by_cases h : (l.length : Int) > 1048576
  · exact Ev.pos h (Ev.const rfl)
  · have hl : l.length ≤ 1048576 := by omega
    have q : (aliasA l).1.length ≤ 1048576 := Nat.le_trans (aliasA_len l) hl
    have hsp := specAlias_eq l hl
    have him := implAlias_eq l hl
    generalize aliasA l = R at q hsp him
    obtain ⟨x, o⟩ := R
    simp only at q
    have ei := eqColumnS_eq x q
    have ti := toIntS_eq l hl
    have hm := markColumnS_eq x 1 q (by omega) (by omega)
    have hh := heldColumnS_eq x.length 1 q (by omega) (by omega)
    refine Ev.neg h (Ev.bind' _ ti (Ev.bind' _ hsp (Ev.bind' _ ti (Ev.bind' _ him (Ev.bind' _ ei (Ev.ite_true (Ev.succ ?_)))))))
    rw [bne_self_eq_false]
    simp only [laws_FnExactAliasOf.j0]
    refine Ev.neg (by simp) (Ev.bind' _ ti (Ev.bind' _ (eqIntS_eq l hl) (Ev.ite_true (Ev.bind' _ (markIntS_eq l 1 (by omega) (by omega) (by omega)) (Ev.neg (by simp; omega) (Ev.bind' _ ei (Ev.ite_true (Ev.succ ?_))))))))
    rw [bne_self_eq_false]
    simp only [laws_FnExactAliasOf.j1]
    refine Ev.neg (by simp) (Ev.bind' _ hm (Ev.bind' _ hh (Ev.neg (by omega) (Ev.pos rfl (Ev.bind' _ ti (Ev.bind' _ him (Ev.bind' _ ei (Ev.ite_true (Ev.succ ?_)))))))))
    rw [bne_self_eq_false]
    simp only [laws_FnExactAliasOf.j2]
    exact Ev.neg (by simp) (Ev.bind' _ hh (Ev.neg (by omega) (Ev.pos rfl (Ev.const rfl))))
end Go.Proofs.Ytioeomjjfajldaa.Pure
