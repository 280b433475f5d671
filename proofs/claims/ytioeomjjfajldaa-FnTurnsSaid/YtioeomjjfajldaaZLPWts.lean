/- Drawn weights: something is drawn, and it is short. -/
import Derived.Test.YtioeomjjfajldaaZLPCur
import Derived.Test.YtioeomjjfajldaaJFnTurns0
import Derived.Test.YtioeomjjfajldaaJFnTurns1
set_option linter.unusedVariables false
set_option linter.unusedSimpArgs false
namespace Go.Proofs.Ytioeomjjfajldaa.PL
open Go.RowKit Go.Proofs.Ytioeomjjfajldaa.Pp Go.Proofs.Ytioeomjjfajldaa.PB Go.Proofs.YtioeomjjfajldaaW.PrintWords Go.Proofs.YtioeomjjfajldaaW.PrintLast
theorem weights_loop {code : List Int} (hc : bytesOk code) : ∀ (n : Nat) (l : List Int) (a s : Int), 0 ≤ a → a + 2 * n ≤ 800000000000 → l.length + n ≤ 20 → 1 ≤ l.length + n → ∃ l' a' s', Ev (fun k => spec_l1Cur_weights.l0 k l (n : Int) code a s) (l', a', s') ∧ l'.length ≤ 20 ∧ a ≤ a' ∧ a' ≤ a + 2 * n + 4
  | 0, l, a, s, h0, h1, hl, hp => by
    obtain ⟨x, a1, s1, e1, _, _, q1, q2⟩ := pick_ok hc a s 30 h0 (by omega) (by omega)
    by_cases hx : x = 0
    · obtain ⟨y, a2, s2, e2, _, q3, q4⟩ := among_ok hc a1 s1 [(-1), 50, 51] (by omega) (by omega) (by simp) (by simp)
      refine ⟨l.set (0 : Int).toNat y, a2, s2, Ev.succ ?_, by rw [List.length_set]; omega, by omega, by omega⟩
      simp only [spec_l1Cur_weights.l0]
      exact Ev.neg (by omega) (Ev.cbind _ e1 (Ev.pos hx (Ev.cbind _ e2 (Ev.pos (by omega) (Ev.const rfl)))))
    · by_cases hx1 : x = 1
      · refine ⟨[0, 0], a1, s1, Ev.succ ?_, by simp, by omega, by omega⟩
        simp only [spec_l1Cur_weights.l0]
        exact Ev.neg (by omega) (Ev.cbind _ e1 (Ev.neg hx (Ev.pos hx1 (Ev.const rfl))))
      · refine ⟨l, a1, s1, Ev.succ ?_, by omega, by omega, by omega⟩
        simp only [spec_l1Cur_weights.l0]
        exact Ev.neg (by omega) (Ev.cbind _ e1 (Ev.neg hx (Ev.neg hx1 (Ev.const rfl))))
  | n + 1, l, a, s, h0, h1, hl, hp => by
    obtain ⟨x, a1, s1, e1, _, _, q1, q2⟩ := pick_ok hc a s 8 h0 (by omega) (by omega)
    obtain ⟨l', a', s', h, g1, g2, g3⟩ := weights_loop hc n (l ++ [x]) a1 s1 (by omega) (by omega) (by simp; omega) (by simp; omega)
    refine ⟨l', a', s', Ev.succ ?_, g1, by omega, by omega⟩
    simp only [spec_l1Cur_weights.l0]
    refine Ev.pos (by omega) (Ev.cbind _ e1 (Ev.pos (by omega) ?_))
    rw [w64 (by omega) (by omega), show ((n + 1 : Nat) : Int) - 1 = (n : Int) from by omega]
    exact h
theorem weights_ok {code : List Int} (hc : bytesOk code) (a s : Int) (h0 : 0 ≤ a) (h1 : a ≤ 700000000000) : ∃ l a' s', Ev (fun k => spec_l1Cur_weights.f k code a s) (l, a', s') ∧ l.length ≤ 20 ∧ a ≤ a' ∧ a' ≤ a + 100 := by
  unfold spec_l1Cur_weights.f
  obtain ⟨x, a1, s1, e1, x0, x1, q1, q2⟩ := pick_ok hc a s 5 h0 (by omega) (by omega)
  obtain ⟨b, a2, s2, e2, q3, q4⟩ := one_ok hc a1 s1 20 (by omega) (by omega) (by omega)
  have hx := x1 (by omega)
  cases b with
  | true =>
    obtain ⟨y, a3, s3, e3, y0, y1, q5, q6⟩ := pick_ok hc a2 s2 2 (by omega) (by omega) (by omega)
    have hy := y1 (by omega)
    obtain ⟨l', a', s', h, g1, g2, g3⟩ := weights_loop hc (12 + y.toNat) [] a3 s3 (by omega) (by omega) (by simp only [List.length_nil]; omega) (by simp only [List.length_nil]; omega)
    refine ⟨l', a', s', Ev.cbind _ e1 (Ev.cbind _ e2 (Ev.ite_true (Ev.cbind _ e3 (Ev.succ ?_)))), g1, by omega, by omega⟩
    simp only [spec_l1Cur_weights.j0]
    rw [w64 (by omega) (by omega), show (12 : Int) + y = ((12 + y.toNat : Nat) : Int) from by omega]
    exact h
  | false =>
    obtain ⟨l', a', s', h, g1, g2, g3⟩ := weights_loop hc (1 + x.toNat) [] a2 s2 (by omega) (by omega) (by simp only [List.length_nil]; omega) (by simp only [List.length_nil]; omega)
    refine ⟨l', a', s', Ev.cbind _ e1 (Ev.cbind _ e2 (Ev.ite_false (Ev.succ ?_))), g1, by omega, by omega⟩
    simp only [spec_l1Cur_weights.j0]
    rw [w64 (by omega) (by omega), show (1 : Int) + x = ((1 + x.toNat : Nat) : Int) from by omega]
    exact h
end Go.Proofs.Ytioeomjjfajldaa.PL
