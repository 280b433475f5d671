/- Drawn turns: something is drawn, and it is short. -/
import Derived.Test.YtioeomjjfajldaaZLPWts
import Derived.Test.YtioeomjjfajldaaZLPNext
import Derived.Test.YtioeomjjfajldaaJFnTurns0
import Derived.Test.YtioeomjjfajldaaJFnTurns1
set_option linter.unusedVariables false
set_option linter.unusedSimpArgs false
namespace Go.Proofs.Ytioeomjjfajldaa.PL
open Go.RowKit Go.Proofs.Ytioeomjjfajldaa.Pp Go.Proofs.Ytioeomjjfajldaa.PB Go.Proofs.YtioeomjjfajldaaW.PrintWords Go.Proofs.YtioeomjjfajldaaW.PrintLast
theorem nextT_keep (a b : List Int) (h : (nextT a b).2.2.2 = true) : (nextT a b).1 = a ∧ (nextT a b).2.1.length = a.length ∧ b.length = a.length := by
  unfold nextT at h ⊢
  by_cases hg : goodT a b = true
  · obtain ⟨g1, g2, g3, g4⟩ := goodT_out hg
    rw [if_pos hg] at h ⊢
    by_cases h2 : goodT a (nextL a b).1 = true
    · rw [if_pos h2]
      exact ⟨rfl, nextL_len a b g2, g2⟩
    · rw [if_neg h2] at h
      cases h
  · rw [if_neg hg] at h
    cases h
theorem turn_loop {code : List Int} (hc : bytesOk code) : ∀ (n : Nat) (a b : List Int) (p s : Int), n ≤ 100 → 0 ≤ p → p ≤ 800000000000 → 1 ≤ b.length → b.length ≤ 20 → a.length ≤ 20 → ∃ a' b' p' s', Ev (fun k => spec_l1Cur_turn.l0 k (n : Int) code p s a b) (a', b', p', s') ∧ a'.length ≤ 20 ∧ b'.length ≤ 20
  | 0, a, b, p, s, hn0, h0, h1, hb, hb2, ha => by
    obtain ⟨x, p1, s1, e1, q1, q2⟩ := one_ok hc p s 20 h0 (by omega) (by omega)
    cases x with
    | true =>
      refine ⟨a, b.set (0 : Int).toNat (wrap64 (rd b 0 + 1)), p1, s1, Ev.succ ?_, ha, by rw [List.length_set]; exact hb2⟩
      simp only [spec_l1Cur_turn.l0]
      exact Ev.neg (by omega) (Ev.cbind _ e1 (Ev.ite_true (Ev.pos (by omega) (Ev.const rfl))))
    | false =>
      refine ⟨a, b, p1, s1, Ev.succ ?_, ha, hb2⟩
      simp only [spec_l1Cur_turn.l0]
      exact Ev.neg (by omega) (Ev.cbind _ e1 (Ev.ite_false (Ev.const rfl)))
  | n + 1, a, b, p, s, hn0, h0, h1, hb, hb2, ha => by
    have hn := specNext_eq a b (by omega) (by omega)
    have hk := nextT_keep a b
    generalize nextT a b = R at hn hk
    obtain ⟨a1, b1, pk, o⟩ := R
    simp only at hk
    cases o with
    | true =>
      obtain ⟨k1, k2, k3⟩ := hk rfl
      obtain ⟨a', b', p', s', h, g1, g2⟩ := turn_loop hc n a1 b1 p s (by omega) h0 h1 (by omega) (by omega) (by rw [k1]; exact ha)
      refine ⟨a', b', p', s', Ev.succ ?_, g1, g2⟩
      simp only [spec_l1Cur_turn.l0]
      refine Ev.pos (by omega) (Ev.bind' _ hn (Ev.ite_true ?_))
      rw [w64 (by omega) (by omega), show ((n + 1 : Nat) : Int) - 1 = (n : Int) from by omega]
      exact h
    | false =>
      obtain ⟨a', b', p', s', h, g1, g2⟩ := turn_loop hc n a b p s (by omega) h0 h1 hb hb2 ha
      refine ⟨a', b', p', s', Ev.succ ?_, g1, g2⟩
      simp only [spec_l1Cur_turn.l0]
      refine Ev.pos (by omega) (Ev.bind' _ hn (Ev.ite_false ?_))
      rw [w64 (by omega) (by omega), show ((n + 1 : Nat) : Int) - 1 = (n : Int) from by omega]
      exact h
theorem turn_start {code : List Int} (hc : bytesOk code) (a b : List Int) (p s : Int) (h0 : 0 ≤ p) (h1 : p ≤ 700000000000) (hb : 1 ≤ b.length) (hb2 : b.length ≤ 20) (ha : a.length ≤ 20) : ∃ a' b' p' s', Ev (fun k => spec_l1Cur_turn.j0 k code p s a b) (a', b', p', s') ∧ a'.length ≤ 20 ∧ b'.length ≤ 20 := by
  obtain ⟨x, p1, s1, e1, x0, x9, q1, q2⟩ := pick_ok hc p s 9 h0 (by omega) (by omega)
  have x9 := x9 (by omega)
  obtain ⟨a', b', p', s', h, g1, g2⟩ := turn_loop hc x.toNat a b p1 s1 (by omega) (by omega) (by omega) hb hb2 ha
  refine ⟨a', b', p', s', Ev.succ ?_, g1, g2⟩
  simp only [spec_l1Cur_turn.j0]
  rw [show ((x.toNat : Nat) : Int) = x from by omega] at h
  exact Ev.cbind _ e1 h
theorem turn_ok {code : List Int} (hc : bytesOk code) : ∃ a b, Ev (fun k => spec_DrawNextTurn.f k code) (a, b) ∧ a.length ≤ 20 ∧ b.length ≤ 20 := by
  obtain ⟨w, p, s, e, hw, h1, h2⟩ := weights_ok hc 0 0 (by omega) (by omega)
  have hn := specNT w (by omega)
  have main : ∃ a b p' s', Ev (fun k => spec_l1Cur_turn.f k code 0 0) (a, b, p', s') ∧ a.length ≤ 20 ∧ b.length ≤ 20 := by
    unfold spec_l1Cur_turn.f
    by_cases hg : goodW w = true
    · obtain ⟨k1, _⟩ := goodW_out hg
      rw [newT, if_pos hg] at hn
      obtain ⟨a', b', p', s', h, g1, g2⟩ := turn_start hc w (List.replicate w.length 0) p s (by omega) (by omega) (by simp; omega) (by simp; omega) hw
      exact ⟨a', b', p', s', Ev.bind' _ e (Ev.bind' _ hn (Ev.ite_true h)), g1, g2⟩
    · rw [newT, if_neg hg] at hn
      have h21 := specNT [2, 1] (by simp)
      rw [newT, if_pos (by decide)] at h21
      obtain ⟨a', b', p', s', h, g1, g2⟩ := turn_start hc [2, 1] (List.replicate 2 0) p s (by omega) (by omega) (by simp) (by simp) (by simp)
      exact ⟨a', b', p', s', Ev.bind' _ e (Ev.bind' _ hn (Ev.ite_false (Ev.bind' _ h21 h))), g1, g2⟩
  obtain ⟨a, b, p', s', h, g1, g2⟩ := main
  refine ⟨a, b, ?_, g1, g2⟩
  unfold spec_DrawNextTurn.f spec_DrawGoodTurn.f
  exact Ev.bind' _ (Ev.bind' _ h (Ev.const rfl)) (Ev.const rfl)
theorem drawNew_ok {code : List Int} (hc : bytesOk code) : ∃ l, Ev (fun k => spec_DrawNewTurn.f k code) l ∧ l.length ≤ 20 := by
  obtain ⟨l, a, s, e, h, _⟩ := weights_ok hc 0 0 (by omega) (by omega)
  refine ⟨l, ?_, h⟩
  unfold spec_DrawNewTurn.f spec_DrawGoodWeights.f
  exact Ev.bind' _ (Ev.bind' _ e (Ev.const rfl)) (Ev.const rfl)
theorem drawTurns_ok {code : List Int} (hc : bytesOk code) : ∃ l m, Ev (fun k => spec_DrawTurnsOf.f k code) (l, m) ∧ l.length ≤ 20 := by
  obtain ⟨l, a, s, e, h, h1, h2⟩ := weights_ok hc 0 0 (by omega) (by omega)
  obtain ⟨m, a2, s2, e2, _⟩ := among_ok hc a s [(-1), 0, 1, 5, 30, 100, 600, 601] (by omega) (by omega) (by simp) (by simp)
  refine ⟨l, m, ?_, h⟩
  unfold spec_DrawTurnsOf.f
  exact Ev.bind' _ e (Ev.cbind _ e2 (Ev.const rfl))
end Go.Proofs.Ytioeomjjfajldaa.PL
