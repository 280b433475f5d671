/- Lists of columns: marked, and held against their marks. -/
import Derived.Test.YtioeomjjfajldaaXBase
import Derived.Test.YtioeomjjfajldaaJFnExactAliasOf0
import Derived.Test.YtioeomjjfajldaaJFnExactAliasOf1
set_option linter.unusedVariables false
set_option linter.unusedSimpArgs false
namespace Go.Proofs.Ytioeomjjfajldaa.PL
open Go.RowKit Go.Proofs.Ytioeomjjfajldaa.Pp Go.Proofs.Ytioeomjjfajldaa.PB Go.Proofs.YtioeomjjfajldaaW.PrintWords Go.Proofs.YtioeomjjfajldaaW.PrintLast
def colMarks (a : Int) : Nat → List S_Column
  | 0 => []
  | n + 1 => ⟨a, a + 1⟩ :: colMarks (a + 2) n
theorem colMarks_length (a : Int) (n : Nat) : (colMarks a n).length = n := by
  induction n generalizing a with
  | zero => rfl
  | succ n ih => simp [colMarks, ih]
theorem markColumnS_eq (l : List S_Column) (a : Int) (hl : l.length ≤ 1048576) (h0 : 0 ≤ a) (h1 : a ≤ 1073741824) : Ev (fun k => laws_markColumnS.f k l a) (a + 2 * l.length, colMarks a l.length) := by
  have main : ∀ (t p : List S_Column) (a : Int), (p ++ t).length ≤ 1048576 → 0 ≤ a → a + 2 * t.length ≤ 4294967296 → Ev (fun k => laws_markColumnS.l0 k (p ++ t) a (p.length : Int)) (a + 2 * t.length, p ++ colMarks a t.length) := by
    intro t
    induction t with
    | nil =>
      intro p a hp ha hM
      refine Ev.succ ?_
      simp only [laws_markColumnS.l0]
      exact Ev.neg (by simp) (Ev.const (by simp [colMarks]))
    | cons x t ih =>
      intro p a hp ha hM
      have hm := len_mid (l := p ++ x :: t) rfl
      have hM' : a + 2 * ((t.length : Int) + 1) ≤ 4294967296 := by simpa using hM
      have h1 := ih (p ++ [⟨a, a + 1⟩]) (a + 2) (by simpa using hp) (by omega) (by omega)
      refine Ev.succ ?_
      simp only [laws_markColumnS.l0]
      rw [w64 (i := (p.length : Int) + 1) (by omega) (by omega), w64 (i := a + 1) (by omega) (by omega), w64 (i := a + 1 + 1) (by omega) (by omega)]
      refine Ev.pos hm.1 (Ev.pos (by omega) (Ev.cbind _ rfl ?_))
      simp only [rd_TColumn, set_mid, List.append_assoc, List.cons_append, List.nil_append, getD_mid rfl]
      have e : a + 1 + 1 = a + 2 := by omega
      rw [e]
      refine Ev.eq_ (by simpa using h1) ?_
      simp only [List.length_cons, colMarks, Prod.mk.injEq, and_true]
      omega
  have := main l [] a (by simpa using hl) h0 (by omega)
  simpa [laws_markColumnS.f] using this
theorem heldColumnS_eq (n : Nat) (a : Int) (hl : n ≤ 1048576) (h0 : 0 ≤ a) (h1 : a ≤ 1073741824) : Ev (fun k => laws_heldColumnS.f k (colMarks a n) a) (a + 2 * n) := by
  have main : ∀ (m : Nat) (p : List S_Column) (a : Int), p.length + m ≤ 1048576 → 0 ≤ a → a + 2 * m ≤ 4294967296 → Ev (fun k => laws_heldColumnS.l0 k (p ++ colMarks a m) a (p.length : Int)) (a + 2 * m) := by
    intro m
    induction m with
    | zero =>
      intro p a hp ha hM
      refine Ev.succ ?_
      simp only [laws_heldColumnS.l0, colMarks]
      exact Ev.neg (by simp) (Ev.const (by simp))
    | succ m ih =>
      intro p a hp ha hM
      have h1 := ih (p ++ [⟨a, a + 1⟩]) (a + 2) (by simp; omega) (by omega) (by omega)
      refine Ev.succ ?_
      simp only [laws_heldColumnS.l0, colMarks, rd_TColumn, getD_mid rfl]
      rw [w64 (i := (p.length : Int) + 1) (by omega) (by omega), w64 (i := a + 1) (by omega) (by omega), w64 (i := a + 1 + 1) (by omega) (by omega)]
      refine Ev.pos (by simp; omega) (Ev.pos (by omega) (Ev.pos (by simp) (Ev.pos (by simp) ?_)))
      have e : a + 1 + 1 = a + 2 := by omega
      rw [e]
      refine Ev.eq_ (by simpa using h1) ?_
      omega
  have := main n [] a (by simpa using hl) h0 (by omega)
  simpa [laws_heldColumnS.f] using this
end Go.Proofs.Ytioeomjjfajldaa.PL
