/- NewHealth: the program answers as the reference does; what it hands out is its own. -/
import Derived.Test.YthckpgglghfiiaaDoorJFnExactNewHealth0
import Derived.Test.YthckpgglghfiiaaDoorJFnExactNewHealth1
import Derived.Test.YthckpgglghfiiaaDoorJFnExactNewHealth2
import Derived.Test.YthckpgglghfiiaaDoorJFnExactNewHealth3
import Derived.Test.YthckpgglghfiiaaDoorJFnExactNewHealth4
import Derived.Test.YthckpgglghfiiaaDoorZLPNewHealth
import Derived.Test.YthckpgglghfiiaaDoorZLPStr
import Derived.Test.YthckpgglghfiiaaDoorZLPStrS
import Derived.Test.YthckpgglghfiiaaDoorZLPStrT
import Derived.Test.YthckpgglghfiiaaDoorZLPStrM
import Derived.Test.YthckpgglghfiiaaDoorZLPHostM
set_option linter.unusedVariables false
set_option linter.unusedSimpArgs false
namespace Go.Proofs.YthckpgglghfiiaaDoor.Pure
open Go.RowKit Go.Proofs.YthckpgglghfiiaaDoor.Pp Go.Proofs.YthckpgglghfiiaaDoor.PB Go.Proofs.YthckpgglghfiiaaDoor.PL Go.Proofs.YthckpgglghfiiaaDoorW.PrintWords Go.Proofs.YthckpgglghfiiaaDoorW.PrintLast
theorem FnExactNewHealth : laws_FnExactNewHealth.Pure := by
  intro n m l _ _ h
  refine Ev.get (g := fun k => laws_FnExactNewHealth.f k n m l) ?_
  unfold laws_FnExactNewHealth.f
  obtain ⟨t, ht, hs⟩ := szStringS_eq l h 1048576 (by omega) (by omega)
  refine Ev.bind' _ ht ?_
  rcases hs with hs | ⟨hs, _, hl, hb⟩
  · exact Ev.pos hs (Ev.const rfl)
  · have hto := toStringS_eq l hl
    have hn := newH_len n m l
    have heq := eqHealth_eq (newH n m l).1 (newH n m l).2.1 (newH n m l).2.2.1 (by omega)
    obtain ⟨r1, l1, a1, a2, a3, a4, a5⟩ := markStringS_eq l hl 1 (by omega) (by omega)
    obtain ⟨r2, l2, b1, b2, b3, b4, b5⟩ := markHealth_eq (newH n m l).1 (newH n m l).2.1 (newH n m l).2.2.1 (by omega) 1 (by omega) (by omega)
    refine Ev.neg (by omega) (Ev.bind' _ hto (Ev.bind' _ (specNewHealth_eq n m l hl hb) (Ev.bind' _ hto (Ev.bind' _ (implNewHealth_eq n m l hl hb) (Ev.bind' _ heq (Ev.ite_true (Ev.succ ?_)))))))
    simp only [laws_FnExactNewHealth.j0]
    refine Ev.neg (by simp) (Ev.bind' _ hto (Ev.bind' _ (eqStringS_eq l hl) (Ev.ite_true (Ev.bind' _ a1 (Ev.neg (by omega) (Ev.bind' _ heq (Ev.ite_true (Ev.succ ?_))))))))
    simp only [laws_FnExactNewHealth.j1]
    refine Ev.neg (by simp) (Ev.bind' _ b1 (Ev.bind' _ b2 (Ev.neg (by omega) (Ev.pos rfl (Ev.bind' _ hto (Ev.bind' _ (implNewHealth_eq n m l hl hb) (Ev.bind' _ heq (Ev.ite_true (Ev.succ ?_)))))))))
    simp only [laws_FnExactNewHealth.j2]
    exact Ev.neg (by simp) (Ev.bind' _ b2 (Ev.neg (by omega) (Ev.pos rfl (Ev.const rfl))))
end Go.Proofs.YthckpgglghfiiaaDoor.Pure
