/- Lists of strings: marked. -/
import Derived.Test.YthckpgglghfiiaaDoorZLPMark
import Derived.Test.YthckpgglghfiiaaDoorJFnExactNewHealth0
import Derived.Test.YthckpgglghfiiaaDoorJFnExactNewHealth1
import Derived.Test.YthckpgglghfiiaaDoorJFnExactNewHealth2
import Derived.Test.YthckpgglghfiiaaDoorJFnExactNewHealth3
import Derived.Test.YthckpgglghfiiaaDoorJFnExactNewHealth4
set_option linter.unusedVariables false
set_option linter.unusedSimpArgs false
namespace Go.Proofs.YthckpgglghfiiaaDoor.PL
open Go.RowKit Go.Proofs.YthckpgglghfiiaaDoor.Pp Go.Proofs.YthckpgglghfiiaaDoor.PB Go.Proofs.YthckpgglghfiiaaDoorW.PrintWords Go.Proofs.YthckpgglghfiiaaDoorW.PrintLast
theorem markStringS_eq (l : List ByteArray) (hl : l.length ≤ 1048576) (a : Int) (ha : 0 ≤ a) (hb : a ≤ 1073741824) : ∃ r l', Ev (fun k => laws_markStringS.f k l a) (r, l') ∧ Ev (fun k => laws_heldStringS.f k l' a) r ∧ l'.length = l.length ∧ a ≤ r ∧ r ≤ a + 1 * l.length := by
  unfold laws_markStringS.f laws_heldStringS.f
  refine mark_list 1 (by omega) (fun k l a i => laws_markStringS.l0 k l a i) (fun k l a i => laws_heldStringS.l0 k l a i) 4294967296 ?_ ?_ ?_ l hl a ha (by omega)
  · intro l a
    apply Ev.succ
    simp only [laws_markStringS.l0]
    exact Ev.neg (by omega) (Ev.const rfl)
  · intro l a
    apply Ev.succ
    simp only [laws_heldStringS.l0]
    exact Ev.neg (by omega) (Ev.const rfl)
  · intro p x t a hp ha hb
    obtain ⟨s, hs⟩ := markText_eq a ha (by omega)
    refine ⟨s, a + 1, by omega, by omega, ?_, ?_⟩
    · intro r h
      have hm := len_mid (l := p ++ x :: t) rfl
      apply Ev.succ
      simp only [laws_markStringS.l0]
      rw [w64 (i := (p.length : Int) + 1) (by omega) (by omega), w64 (i := a + 1) (by omega) (by omega)]
      refine Ev.pos hm.1 (Ev.bind' _ hs (Ev.pos (by omega) ?_))
      rw [set_mid]
      simpa using h
    · intro q r hq h
      have hm := len_mid (l := p ++ s :: q) rfl
      apply Ev.succ
      simp only [laws_heldStringS.l0, rdOf_mid (l := p ++ s :: q) rfl]
      rw [w64 (i := (p.length : Int) + 1) (by omega) (by omega), w64 (i := a + 1) (by omega) (by omega)]
      exact Ev.pos hm.1 (Ev.pos (by omega) (Ev.bind' _ hs (Ev.pos rfl h)))
end Go.Proofs.YthckpgglghfiiaaDoor.PL
