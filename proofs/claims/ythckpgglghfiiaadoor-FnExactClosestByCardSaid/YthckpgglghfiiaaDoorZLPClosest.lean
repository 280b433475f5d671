/- The closest name by a gap: the two come to the same. -/
import Derived.Test.YthckpgglghfiiaaDoorZLPBelow
import Derived.Test.YthckpgglghfiiaaDoorZLPParent
import Derived.Test.YthckpgglghfiiaaDoorZLPCompare
import Derived.Test.YthckpgglghfiiaaDoorJFnExactClosestBy0
import Derived.Test.YthckpgglghfiiaaDoorJFnExactClosestBy1
import Derived.Test.YthckpgglghfiiaaDoorJFnExactClosestBy2
set_option linter.unusedVariables false
set_option linter.unusedSimpArgs false
namespace Go.Proofs.YthckpgglghfiiaaDoor.PL
open Go.RowKit Go.Proofs.YthckpgglghfiiaaDoor.Pp Go.Proofs.YthckpgglghfiiaaDoor.PB Go.Proofs.YthckpgglghfiiaaDoorW.PrintWords Go.Proofs.YthckpgglghfiiaaDoorW.PrintLast
theorem common_both (b : ByteArray) (hb : b.size ≤ 1048576) : ∀ (n : Nat) (a : ByteArray), a.size ≤ n → a.size ≤ 1048576 → (labels a).all labelOk = true →
    ∃ c : ByteArray, Ev (fun k => spec_l1Common.l0 k a b) c ∧ Ev (fun k => impl_commonOf.l0 k a b) c ∧ c.size ≤ a.size ∧ (labels c).all labelOk = true := by
  intro n
  induction n with
  | zero =>
    intro a hn ha hl
    have hz := size_bts a
    have he : bts a = [] := List.eq_nil_of_length_eq_zero (by omega)
    have hbel : belowN b a = true := by simp [belowN, he]
    refine ⟨a, Ev.succ ?_, Ev.succ ?_, Nat.le_refl _, hl⟩
    · simp only [spec_l1Common.l0]
      refine Ev.cbind _ (specBelow_eq b a hb ha) ?_
      rw [hbel]
      exact Ev.ite_true (Ev.const rfl)
    · simp only [impl_commonOf.l0]
      refine Ev.cbind _ (implBelow_eq b a hb ha) ?_
      rw [hbel]
      exact Ev.ite_true (Ev.const rfl)
  | succ n ih =>
    intro a hn ha hl
    have hz := size_bts a
    cases hbel : belowN b a with
    | true =>
      refine ⟨a, Ev.succ ?_, Ev.succ ?_, Nat.le_refl _, hl⟩
      · simp only [spec_l1Common.l0]
        refine Ev.cbind _ (specBelow_eq b a hb ha) ?_
        rw [hbel]
        exact Ev.ite_true (Ev.const rfl)
      · simp only [impl_commonOf.l0]
        refine Ev.cbind _ (implBelow_eq b a hb ha) ?_
        rw [hbel]
        exact Ev.ite_true (Ev.const rfl)
    | false =>
      have hne : bts a ≠ [] := by
        intro h
        have : belowN b a = true := by simp [belowN, h]
        rw [this] at hbel
        cases hbel
      have hp : (parentN a).size < a.size := by
        rw [size_bts, parentN, bts_mk, hz]
        exact after_len _ hne
      obtain ⟨c, c1, c2, c3, c4⟩ := ih (parentN a) (by omega) (by omega) (parent_labels a hl)
      refine ⟨c, Ev.succ ?_, Ev.succ ?_, by omega, c4⟩
      · simp only [spec_l1Common.l0]
        refine Ev.cbind _ (specBelow_eq b a hb ha) ?_
        rw [hbel]
        exact Ev.ite_false (Ev.bind' _ (specParent_eq a ha) c1)
      · simp only [impl_commonOf.l0]
        refine Ev.cbind _ (implBelow_eq b a hb ha) ?_
        rw [hbel]
        exact Ev.ite_false (Ev.cbind _ (implParent_eq a ha) c2)
theorem many_eq (s : ByteArray) (hs : s.size ≤ 1048576) (h : (labels s).all labelOk = true) : Ev (fun k => spec_l8Many.f k s) ((labels s).length : Int) := by
  unfold spec_l8Many.f
  have h1 := specLabels_eq s hs
  rw [if_pos h] at h1
  exact Ev.bind' _ h1 (Ev.const rfl)
theorem count_eq (s : ByteArray) (hs : s.size ≤ 1048576) : Ev (fun k => impl_countLabels.f k s) ((labels s).length : Int) := by
  unfold impl_countLabels.f
  exact Ev.bind' _ (labelsOf_eq s hs) (Ev.const rfl)
theorem cmpInt_eq (a b : Int) : cmp_Compare_int.f a b = some (if a < b then -1 else if a > b then 1 else 0) := by
  unfold cmp_Compare_int.f cmp_isNaN_int.f
  simp only [Option.bind_some, bne_self_eq_false, Bool.false_eq_true, if_false]
  split
  · rfl
  · split <;> rfl
theorem closest_both (o n x : ByteArray) (l : List Int) (ho : o.size ≤ 1048576) (hn : n.size ≤ 1048576) (hx : x.size ≤ 1048576) (hl : (labels x).all labelOk = true) :
    ∃ c : ByteArray, Ev (fun k => spec_l8Closest.f k o n l x) c ∧ Ev (fun k => impl_closestBy.f k o n l x) c ∧ c.size ≤ x.size := by
  obtain ⟨a, a1, a2, a3, a4⟩ := common_both o ho x.size x (Nat.le_refl _) hx hl
  obtain ⟨b, b1, b2, b3, b4⟩ := common_both n hn x.size x (Nat.le_refl _) hx hl
  by_cases h : ((labels b).length : Int) > ((labels a).length : Int)
  · refine ⟨b, ?_, ?_, b3⟩
    · unfold spec_l8Closest.f spec_l1Common.f
      exact Ev.bind' _ a1 (Ev.bind' _ b1 (Ev.bind' _ (many_eq b (by omega) b4) (Ev.bind' _ (many_eq a (by omega) a4) (Ev.pos h (Ev.const rfl)))))
    · unfold impl_closestBy.f impl_commonOf.f
      refine Ev.bind' _ a2 (Ev.bind' _ b2 (Ev.bind' _ ?_ (Ev.const rfl)))
      unfold impl_longer.f
      refine Ev.bind' _ (count_eq b (by omega)) (Ev.bind' _ (count_eq a (by omega)) (Ev.cbind _ (cmpInt_eq _ _) (Ev.pos ?_ (Ev.const rfl))))
      rw [if_neg (by omega), if_pos h]
      decide
  · refine ⟨a, ?_, ?_, a3⟩
    · unfold spec_l8Closest.f spec_l1Common.f
      exact Ev.bind' _ a1 (Ev.bind' _ b1 (Ev.bind' _ (many_eq b (by omega) b4) (Ev.bind' _ (many_eq a (by omega) a4) (Ev.neg h (Ev.const rfl)))))
    · unfold impl_closestBy.f impl_commonOf.f
      refine Ev.bind' _ a2 (Ev.bind' _ b2 (Ev.bind' _ ?_ (Ev.const rfl)))
      unfold impl_longer.f
      refine Ev.bind' _ (count_eq b (by omega)) (Ev.bind' _ (count_eq a (by omega)) (Ev.cbind _ (cmpInt_eq _ _) (Ev.neg ?_ (Ev.const rfl))))
      split
      · decide
      · first | decide | (rw [if_neg h]; decide)
end Go.Proofs.YthckpgglghfiiaaDoor.PL
