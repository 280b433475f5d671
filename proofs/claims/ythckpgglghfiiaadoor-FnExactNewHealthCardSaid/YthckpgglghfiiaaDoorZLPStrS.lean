/- Lists of strings: sized. -/
import Derived.Test.YthckpgglghfiiaaDoorZLPTy
import Derived.Test.YthckpgglghfiiaaDoorJFnExactNewHealth0
import Derived.Test.YthckpgglghfiiaaDoorJFnExactNewHealth1
import Derived.Test.YthckpgglghfiiaaDoorJFnExactNewHealth2
import Derived.Test.YthckpgglghfiiaaDoorJFnExactNewHealth3
import Derived.Test.YthckpgglghfiiaaDoorJFnExactNewHealth4
set_option linter.unusedVariables false
set_option linter.unusedSimpArgs false
namespace Go.Proofs.YthckpgglghfiiaaDoor.PL
open Go.RowKit Go.Proofs.YthckpgglghfiiaaDoor.Pp Go.Proofs.YthckpgglghfiiaaDoor.PB Go.Proofs.YthckpgglghfiiaaDoorW.PrintWords Go.Proofs.YthckpgglghfiiaaDoorW.PrintLast
theorem szStringS_eq (l : List ByteArray) (h : l.length ≤ maxLen ∧ ∀ x ∈ l, x.size ≤ maxLen) (a : Int) (h0 : 0 ≤ a) (h1 : a ≤ 1048576) : Szd (fun k => laws_szStringS.f k l a) a (l.length ≤ 1048576 ∧ ∀ x ∈ l, x.size ≤ 1048576) := by
  have hm : maxLen = 9223372036854775807 := rfl
  unfold laws_szStringS.f
  by_cases hl : l.length ≤ 1048576
  · refine Szd.size _ (by omega) h0 h1 (fun a' e ha hb => ?_)
    rw [e]
    refine Szd.list l hl (fun k a i => laws_szStringS.l0 k l a i) (fun x => x.size ≤ 1048576) ?_ ?_ a' ha hb
    · intro a ha hb
      refine ⟨a, Ev.succ ?_, Or.inr ⟨ha, Int.le_refl _, trivial⟩⟩
      simp only [laws_szStringS.l0]
      exact Ev.neg (by omega) (Ev.const rfl)
    · intro p x t a e ha hb _ C hC
      have hm2 := len_mid e
      have hx := h.2 x (mem_mid e)
      obtain ⟨r, hr, hh⟩ := Szd.size (g := fun k => laws_szStringS.l0 k l (wrap64 (a - (x.size : Int))) ((p.length : Int) + 1)) x.size (by omega) ha hb (fun a' e2 ha' hb' => by rw [e2]; exact hC a' ha' hb')
      refine ⟨r, Ev.succ ?_, hh⟩
      simp only [laws_szStringS.l0, rdOf_mid e]
      rw [w64 (i := (p.length : Int) + 1) (by omega) (by omega)]
      exact Ev.pos hm2.1 (Ev.pos (by omega) hr)
  · have := h.1
    refine ⟨-1, Ev.pos ?_ (Ev.const rfl), Or.inl (by omega)⟩
    rw [w64 (by omega) (by omega)]
    omega
end Go.Proofs.YthckpgglghfiiaaDoor.PL
