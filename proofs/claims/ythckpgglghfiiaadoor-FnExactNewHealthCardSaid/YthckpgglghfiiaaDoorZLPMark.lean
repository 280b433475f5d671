/- The law's mark of a number. -/
import Derived.Test.YthckpgglghfiiaaDoorZLPTy
import Derived.Test.YthckpgglghfiiaaDoorJFnExactNewHealth0
import Derived.Test.YthckpgglghfiiaaDoorJFnExactNewHealth1
import Derived.Test.YthckpgglghfiiaaDoorJFnExactNewHealth2
import Derived.Test.YthckpgglghfiiaaDoorJFnExactNewHealth3
import Derived.Test.YthckpgglghfiiaaDoorJFnExactNewHealth4
set_option linter.unusedVariables false
set_option linter.unusedSimpArgs false
namespace Go.Proofs.YthckpgglghfiiaaDoor.PL
open Go.RowKit Go.Proofs.YthckpgglghfiiaaDoor.Pp Go.Proofs.YthckpgglghfiiaaDoor.PB Go.Proofs.YthckpgglghfiiaaDoorW.PrintWords Go.Proofs.YthckpgglghfiiaaDoorW.PrintLast
theorem strOfNums_one (x : Int) : (strOfNums [x]).size = 1 := rfl
theorem markText_eq (a : Int) (h0 : 0 ≤ a) (h1 : a ≤ 4611686018427387904) : ∃ s, Ev (fun k => laws_markText.f k a) s := by
  have main : ∀ (n : Nat) (a : Int) (x : ByteArray), a.toNat ≤ n → 0 ≤ a → a ≤ 4611686018427387904 → x.size + a.toNat ≤ 4611686018427388904 → ∃ s, Ev (fun k => laws_markText.l0 k a x) s := by
    intro n
    induction n with
    | zero =>
      intro a x hn h0 h1 hx
      refine ⟨(⟨#[109]⟩ : ByteArray) ++ x, Ev.succ ?_⟩
      simp only [laws_markText.l0]
      exact Ev.neg (by omega) (Ev.pos (by omega) (Ev.const rfl))
    | succ n ih =>
      intro a x hn h0 h1 hx
      by_cases hp : a > 0
      · have hd : Int.tdiv a 10 = a / 10 := Int.tdiv_eq_ediv_of_nonneg h0
        have hd2 : a / 10 < a := by omega
        have hd3 : 0 ≤ a / 10 := by omega
        have hsz : (strOfNums [(wrap64 (48 + Int.tmod a 10)) % 256] ++ x).size = 1 + x.size := by rw [ByteArray.size_append, strOfNums_one]
        obtain ⟨s, hs⟩ := ih (a / 10) (strOfNums [(wrap64 (48 + Int.tmod a 10)) % 256] ++ x) (by omega) hd3 (by omega) (by rw [hsz]; omega)
        refine ⟨s, Ev.succ ?_⟩
        simp only [laws_markText.l0]
        refine Ev.pos hp (Ev.cbind _ rfl (Ev.pos (by rw [strOfNums_one]; omega) ?_))
        rw [hd, w64 (by omega) (by omega)]
        exact hs
      · refine ⟨(⟨#[109]⟩ : ByteArray) ++ x, Ev.succ ?_⟩
        simp only [laws_markText.l0]
        exact Ev.neg hp (Ev.pos (by omega) (Ev.const rfl))
  by_cases h : a ≤ 0
  · refine ⟨⟨#[109, 48]⟩, ?_⟩
    unfold laws_markText.f
    exact Ev.pos h (Ev.const rfl)
  · obtain ⟨s, hs⟩ := main a.toNat a ⟨#[]⟩ (Nat.le_refl _) h0 h1 (by have : (⟨#[]⟩ : ByteArray).size = 0 := rfl; omega)
    refine ⟨s, ?_⟩
    unfold laws_markText.f
    exact Ev.neg h hs
end Go.Proofs.YthckpgglghfiiaaDoor.PL
