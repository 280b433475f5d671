/- UpIn: the program answers as the reference does; what it hands out is its own. -/
import Derived.Test.YthckpgglghfiiaaDoorJFnExactUpIn0
import Derived.Test.YthckpgglghfiiaaDoorJFnExactUpIn1
import Derived.Test.YthckpgglghfiiaaDoorJFnExactUpIn2
import Derived.Test.YthckpgglghfiiaaDoorJFnExactUpIn3
import Derived.Test.YthckpgglghfiiaaDoorZLPUpIn
import Derived.Test.YthckpgglghfiiaaDoorZLPStr
import Derived.Test.YthckpgglghfiiaaDoorZLPStrM
import Derived.Test.YthckpgglghfiiaaDoorZLPHostM
set_option linter.unusedVariables false
set_option linter.unusedSimpArgs false
namespace Go.Proofs.YthckpgglghfiiaaDoor.Pure
open Go.RowKit Go.Proofs.YthckpgglghfiiaaDoor.Pp Go.Proofs.YthckpgglghfiiaaDoor.PB Go.Proofs.YthckpgglghfiiaaDoor.PL Go.Proofs.YthckpgglghfiiaaDoorW.PrintWords Go.Proofs.YthckpgglghfiiaaDoorW.PrintLast
theorem FnExactUpIn : laws_FnExactUpIn.Pure := by
  intro n m l _ _ h
  refine Ev.get (g := fun k => laws_FnExactUpIn.f k n m l) ?_
  unfold laws_FnExactUpIn.f
  obtain ⟨t, ht, hs⟩ := szHealth_eq n m l h 1048576 (by omega) (by omega)
  refine Ev.bind' _ ht ?_
  rcases hs with hs | ⟨hs, _, hl, hb⟩
  · exact Ev.pos hs (Ev.const rfl)
  · have hcl : (l.map cHost).length ≤ 1048576 := by simpa using hl
    have hcs : ∀ x ∈ l.map cHost, x.f0.size ≤ 1048576 := by
      intro x hx
      obtain ⟨y, hy, rfl⟩ := List.mem_map.mp hx
      exact hb y hy
    have hto := toHealth_eq n m l hl
    have heq := eqHealth_eq n m (l.map cHost) hcl
    refine Ev.neg (by omega) (Ev.bind' _ hto ?_)
    have hun : (upInH n m (l.map cHost)).1.length ≤ 1048576 := by have := upInH_len n m (l.map cHost); omega
    obtain ⟨r1, l1, a1, a2, a3, a4, a5⟩ := markHealth_eq n m (l.map cHost) hcl 1 (by omega) (by omega)
    obtain ⟨r2, l2, b1, b2, b3, b4, b5⟩ := markStringS_eq (upInH n m (l.map cHost)).1 hun 1 (by omega) (by omega)
    refine Ev.bind' _ (specUpIn_eq n m _ hcl hcs) (Ev.bind' _ hto (Ev.bind' _ (implUpIn_eq n m _ hcl hcs) (Ev.bind' _ (eqStringS_eq _ hun) (Ev.ite_true (Ev.succ ?_)))))
    simp only [laws_FnExactUpIn.j0]
    refine Ev.neg (by simp) (Ev.bind' _ hto (Ev.bind' _ heq (Ev.ite_true (Ev.bind' _ a1 (Ev.neg (by omega) (Ev.bind' _ (eqStringS_eq _ hun) (Ev.ite_true (Ev.succ ?_))))))))
    simp only [laws_FnExactUpIn.j1]
    refine Ev.neg (by simp) (Ev.bind' _ b1 (Ev.bind' _ b2 (Ev.neg (by omega) (Ev.pos rfl (Ev.bind' _ hto (Ev.bind' _ (implUpIn_eq n m _ hcl hcs) (Ev.bind' _ (eqStringS_eq _ hun) (Ev.ite_true (Ev.succ ?_)))))))))
    simp only [laws_FnExactUpIn.j2]
    exact Ev.neg (by simp) (Ev.bind' _ b2 (Ev.neg (by omega) (Ev.pos rfl (Ev.const rfl))))
end Go.Proofs.YthckpgglghfiiaaDoor.Pure
