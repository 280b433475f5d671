/- Health: marked. -/
import Derived.Test.YthckpgglghfiiaaDoorZLPMark
import Derived.Test.YthckpgglghfiiaaDoorJFnExactNewHealth0
import Derived.Test.YthckpgglghfiiaaDoorJFnExactNewHealth1
import Derived.Test.YthckpgglghfiiaaDoorJFnExactNewHealth2
import Derived.Test.YthckpgglghfiiaaDoorJFnExactNewHealth3
import Derived.Test.YthckpgglghfiiaaDoorJFnExactNewHealth4
set_option linter.unusedVariables false
set_option linter.unusedSimpArgs false
namespace Go.Proofs.YthckpgglghfiiaaDoor.PL
open Go.RowKit Go.Proofs.YthckpgglghfiiaaDoor.Pp Go.Proofs.YthckpgglghfiiaaDoor.PB Go.Proofs.YthckpgglghfiiaaDoorW.PrintWords Go.Proofs.YthckpgglghfiiaaDoorW.PrintLast
theorem markHealth_eq (n m : Int) (l : List S_Host) (hl : l.length ≤ 1048576) (a : Int) (ha : 0 ≤ a) (hb : a ≤ 1073741824) : ∃ r l', Ev (fun k => laws_markHealth.f k n m l a) (r, l') ∧ Ev (fun k => laws_heldHealth.f k n m l' a) r ∧ l'.length = l.length ∧ a ≤ r ∧ r ≤ a + 3 * l.length := by
  have main : ∃ r l', Ev (fun k => laws_markHostS.f k l a) (r, l') ∧ Ev (fun k => laws_heldHostS.f k l' a) r ∧ l'.length = l.length ∧ a ≤ r ∧ r ≤ a + 3 * l.length := by
    unfold laws_markHostS.f laws_heldHostS.f
    refine mark_list 3 (by omega) (fun k l a i => laws_markHostS.l0 k l a i) (fun k l a i => laws_heldHostS.l0 k l a i) 4294967296 ?_ ?_ ?_ l hl a ha (by omega)
    · intro l a
      apply Ev.succ
      simp only [laws_markHostS.l0]
      exact Ev.neg (by omega) (Ev.const rfl)
    · intro l a
      apply Ev.succ
      simp only [laws_heldHostS.l0]
      exact Ev.neg (by omega) (Ev.const rfl)
    · intro p x t a hp ha hb
      obtain ⟨s, hs⟩ := markText_eq a ha (by omega)
      refine ⟨⟨s, Int.tmod (a + 1) 3 == 0, a + 2⟩, a + 3, by omega, by omega, ?_, ?_⟩
      · intro r h
        have hm := len_mid (l := p ++ x :: t) rfl
        apply Ev.succ
        simp only [laws_markHostS.l0]
        rw [w64 (i := (p.length : Int) + 1) (by omega) (by omega), w64 (i := a + 1) (by omega) (by omega), w64 (i := a + 1 + 1) (by omega) (by omega), w64 (i := a + 1 + 1 + 1) (by omega) (by omega)]
        refine Ev.pos hm.1 (Ev.bind' _ hs (Ev.pos (by omega) (Ev.cbind _ rfl (Ev.cbind _ rfl ?_))))
        simp only [rd_THost, set_mid, List.append_assoc, List.cons_append, List.nil_append, getD_mid rfl]
        have e1 : a + 1 + 1 = a + 2 := by omega
        have e2 : a + 1 + 1 + 1 = a + 3 := by omega
        rw [e2, e1]
        exact h
      · intro q r hq h
        have hm := len_mid (l := p ++ (⟨s, Int.tmod (a + 1) 3 == 0, a + 2⟩ : S_Host) :: q) rfl
        apply Ev.succ
        simp only [laws_heldHostS.l0, rd_THost, getD_mid rfl]
        rw [w64 (i := (p.length : Int) + 1) (by omega) (by omega), w64 (i := a + 1) (by omega) (by omega), w64 (i := a + 1 + 1) (by omega) (by omega), w64 (i := a + 1 + 1 + 1) (by omega) (by omega)]
        have e2 : a + 1 + 1 + 1 = a + 3 := by omega
        rw [e2]
        exact Ev.pos hm.1 (Ev.pos (by omega) (Ev.bind' _ hs (Ev.pos (by trivial) (Ev.neg (by simp) (Ev.pos (by omega) h)))))
  obtain ⟨r, l', h1, h2, h3, h4, h5⟩ := main
  refine ⟨r, l', ?_, ?_, h3, h4, h5⟩
  · unfold laws_markHealth.f
    exact Ev.bind' _ h1 (Ev.const rfl)
  · unfold laws_heldHealth.f
    exact Ev.bind' _ h2 (Ev.neg (by omega) (Ev.const rfl))
end Go.Proofs.YthckpgglghfiiaaDoor.PL
