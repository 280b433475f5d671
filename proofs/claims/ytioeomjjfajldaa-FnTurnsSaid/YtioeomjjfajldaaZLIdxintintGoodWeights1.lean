/- slices.IndexFunc and ContainsFunc at one function value: the first place at which it answers yes. Written by gen_idx.py. -/
import Derived.Test.YtioeomjjfajldaaXBase
import Derived.Test.YtioeomjjfajldaaJFnTurns0
import Derived.Test.YtioeomjjfajldaaJFnTurns1
set_option linter.unusedVariables false
set_option linter.unusedSimpArgs false
namespace Go.Proofs.Ytioeomjjfajldaa.PL
open Go.RowKit Go.Proofs.Ytioeomjjfajldaa.Pp Go.Proofs.Ytioeomjjfajldaa.PB Go.Proofs.YtioeomjjfajldaaW.PrintWords Go.Proofs.YtioeomjjfajldaaW.PrintLast
theorem slices_IndexFunc_int_int_GoodWeights_1.idx (l0 : List Int) (q : Int → Bool) (hl : l0.length ≤ 1048576) (h : ∀ x ∈ l0, Ev (fun k => impl_GoodWeights_1.f x) (q x)) : Ev (fun k => slices_IndexFunc_int_int_GoodWeights_1.f k l0 ) (idxP q l0) := by
  unfold slices_IndexFunc_int_int_GoodWeights_1.f
  refine Ev.eq_ (loop_list l0 (fun k (_ : Nat) i => slices_IndexFunc_int_int_GoodWeights_1.l0 k l0 (l0.length : Int) i) (fun n t => if 0 ≤ idxP q t then (n : Int) + idxP q t else -1) (fun p n => n = p.length) ?_ ?_ 0 rfl) ?_
  · intro n hn
    apply Ev.succ
    simp only [slices_IndexFunc_int_int_GoodWeights_1.l0]
    exact Ev.neg (by omega) (Ev.const (by simp [idxP]))
  · intro p x t n e hn ih
    have hm := len_mid e
    have hx := h x (mem_mid e)
    apply Ev.succ
    simp only [slices_IndexFunc_int_int_GoodWeights_1.l0, rd_mid' e]
    refine Ev.pos hm.1 (Ev.pos (by omega) (Ev.pos hm.1 (Ev.bind' _ hx ?_)))
    have hq : idxP q (x :: t) = (if q x then 0 else if 0 ≤ idxP q t then idxP q t + 1 else -1) := rfl
    rw [hq]
    cases q x with
    | true => exact Ev.ite_true (Ev.const (by simp [hn]))
    | false =>
      refine Ev.ite_false ?_
      rw [w64 (by omega) (by omega)]
      refine Ev.eq_ (ih (n + 1) (by simp [hn])) ?_
      by_cases h2 : 0 ≤ idxP q t
      · simp [h2]; omega
      · simp [h2]
  · by_cases h2 : 0 ≤ idxP q l0
    · simp [h2]
    · rw [if_neg h2]
      exact (idxP_neg q l0 h2).symm
theorem slices_ContainsFunc_int_int_GoodWeights_1.any (l0 : List Int) (q : Int → Bool) (hl : l0.length ≤ 1048576) (h : ∀ x ∈ l0, Ev (fun k => impl_GoodWeights_1.f x) (q x)) : Ev (fun k => slices_ContainsFunc_int_int_GoodWeights_1.f k l0 ) (l0.any q) := by
  unfold slices_ContainsFunc_int_int_GoodWeights_1.f
  refine Ev.bind' _ (slices_IndexFunc_int_int_GoodWeights_1.idx l0  q hl h) (Ev.const ?_)
  rw [idxP_nonneg]
end Go.Proofs.Ytioeomjjfajldaa.PL
