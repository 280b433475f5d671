/- The program's OftenIn returns what the reference's returns, for all arguments, and what it hands out is its own; no condition beyond the row's own. -/
import Derived.Test.YtioeomjjfajldaaJFnExactOftenIn0
import Derived.Test.YtioeomjjfajldaaJFnExactOftenIn1
import Derived.Test.YtioeomjjfajldaaZLPOften
import Derived.Test.YtioeomjjfajldaaZLPCol
import Derived.Test.YtioeomjjfajldaaZLPInts
import Derived.Test.YtioeomjjfajldaaZLPIntM
set_option linter.unusedVariables false
namespace Go.Proofs.Ytioeomjjfajldaa.Pure
open Go.RowKit Go.Proofs.Ytioeomjjfajldaa.Pp Go.Proofs.Ytioeomjjfajldaa.PB Go.Proofs.Ytioeomjjfajldaa.PL Go.Proofs.YtioeomjjfajldaaW.PrintWords Go.Proofs.YtioeomjjfajldaaW.PrintLast
theorem markCol_ok (l : List S_Column) (hl : l.length ≤ 1048576) (a : Int) (ha : 0 ≤ a) (hb : a ≤ 1073741824) : ∃ r l', Ev (fun k => laws_markColumnS.f k l a) (r, l') ∧ 0 ≤ r := by
  have main : ∀ (t p : List S_Column) (a : Int), (p ++ t).length ≤ 1048576 → 0 ≤ a → a + 2 * t.length ≤ 4294967296 → ∃ r l', Ev (fun k => laws_markColumnS.l0 k (p ++ t) a (p.length : Int)) (r, l') ∧ 0 ≤ r := by
    intro t
    induction t with
    | nil =>
      intro p a hp ha hM
      refine ⟨a, p ++ [], Ev.succ ?_, ha⟩
      simp only [laws_markColumnS.l0]
      exact Ev.neg (by simp) (Ev.const rfl)
    | cons x t ih =>
      intro p a hp ha hM
      have hm := len_mid (l := p ++ x :: t) rfl
      have hM' : a + 2 * ((t.length : Int) + 1) ≤ 4294967296 := by simpa using hM
      obtain ⟨r, l', h1, h2⟩ := ih (p ++ [⟨a, a + 1⟩]) (a + 2) (by simpa using hp) (by omega) (by omega)
      refine ⟨r, l', Ev.succ ?_, h2⟩
      simp only [laws_markColumnS.l0]
      rw [w64 (i := (p.length : Int) + 1) (by omega) (by omega), w64 (i := a + 1) (by omega) (by omega), w64 (i := a + 1 + 1) (by omega) (by omega)]
      refine Ev.pos hm.1 (Ev.pos (by omega) (Ev.cbind _ rfl ?_))
      simp only [rd_TColumn, set_mid, List.append_assoc, List.cons_append, List.nil_append, getD_mid rfl]
      have e : a + 1 + 1 = a + 2 := by omega
      rw [e]
      simpa using h1
  have := main l [] a (by simpa using hl) ha (by omega)
  simpa [laws_markColumnS.f] using this
theorem FnExactOftenIn : laws_FnExactOftenIn.Pure := by
  rintro l n ⟨h1, _⟩ _
  refine Ev.get (g := fun k => laws_FnExactOftenIn.f k l n) ?_
  unfold laws_FnExactOftenIn.f
  refine Ev.cbind _ (szColumnS_eq l h1) ?_
  by_cases h : (l.length : Int) > 1048576
  · rw [if_pos h]
    exact Ev.pos (by omega) (Ev.const rfl)
  · rw [if_neg h]
    have hl : l.length ≤ 1048576 := by omega
    have hc : (l.map col).length ≤ 1048576 := by simpa using hl
    have ho : (oftenA (l.map col) n).1.length ≤ 1048576 := by have := oftenA_len (l.map col) n; omega
    obtain ⟨r, l', m1, m2⟩ := markCol_ok (l.map col) hc 1 (by omega) (by omega)
    have ei := eqIntS_eq (oftenA (l.map col) n).1 ho
    refine Ev.neg (by omega) (Ev.bind' _ (toColumnS_eq l hl) (Ev.bind' _ (specOften_eq _ n hc) (Ev.bind' _ (toColumnS_eq l hl) (Ev.bind' _ (implOften_eq _ n hc) (Ev.bind' _ ei (Ev.ite_true (Ev.succ ?_)))))))
    simp only [laws_FnExactOftenIn.j0]
    refine Ev.neg (by simp) (Ev.bind' _ (toColumnS_eq l hl) (Ev.bind' _ (eqColumnS_eq _ hc) (Ev.ite_true (Ev.bind' _ m1 (Ev.neg (by omega) (Ev.bind' _ ei (Ev.ite_true (Ev.succ ?_))))))))
    simp only [laws_FnExactOftenIn.j1]
    have hm := markIntS_eq (oftenA (l.map col) n).1 1 (by omega) (by omega) (by omega)
    have hh := heldIntS_eq (oftenA (l.map col) n).1.length 1 (by omega) (by omega) (by omega)
    refine Ev.neg (by simp) (Ev.bind' _ hm (Ev.bind' _ hh (Ev.neg (by omega) (Ev.pos rfl (Ev.bind' _ (toColumnS_eq l hl) (Ev.bind' _ (implOften_eq _ n hc) (Ev.bind' _ ei (Ev.ite_true (Ev.succ ?_)))))))))
    simp only [laws_FnExactOftenIn.j2]
    exact Ev.neg (by simp) (Ev.bind' _ hh (Ev.neg (by omega) (Ev.pos rfl (Ev.const rfl))))
end Go.Proofs.Ytioeomjjfajldaa.Pure
