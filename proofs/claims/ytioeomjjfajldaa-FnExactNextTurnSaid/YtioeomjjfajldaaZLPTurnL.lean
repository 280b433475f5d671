/- Turns as the law holds them: sized, copied, compared, marked. -/
import Derived.Test.YtioeomjjfajldaaZLPInts
import Derived.Test.YtioeomjjfajldaaZLPIntM
import Derived.Test.YtioeomjjfajldaaJFnExactNextTurn0
import Derived.Test.YtioeomjjfajldaaJFnExactNextTurn1
set_option linter.unusedVariables false
set_option linter.unusedSimpArgs false
namespace Go.Proofs.Ytioeomjjfajldaa.PL
open Go.RowKit Go.Proofs.Ytioeomjjfajldaa.Pp Go.Proofs.Ytioeomjjfajldaa.PB Go.Proofs.YtioeomjjfajldaaW.PrintWords Go.Proofs.YtioeomjjfajldaaW.PrintLast
theorem szInt_eq (l : List Int) (a : Int) (h : l.length ≤ maxLen) (h0 : 0 ≤ a) (h1 : a ≤ 1048576) : laws_szIntS.f l a = some (if (l.length : Int) > a then (-1 : Int) else a - (l.length : Int)) := by
  have hm : maxLen = 9223372036854775807 := rfl
  unfold laws_szIntS.f
  rw [w64 (by omega) (by omega)]
  by_cases h2 : (l.length : Int) > a
  · rw [if_pos (by omega), if_pos h2]
  · rw [if_neg (by omega), if_neg h2]
theorem toTurn_eq (a b : List Int) (ha : a.length ≤ 1048576) (hb : b.length ≤ 1048576) : Ev (fun k => laws_toTurn.f k a b) (a, b) := by
  unfold laws_toTurn.f
  exact Ev.bind' _ (toIntS_eq a ha) (Ev.bind' _ (toIntS_eq b hb) (Ev.const rfl))
theorem eqTurn_eq (a b : List Int) (ha : a.length ≤ 1048576) (hb : b.length ≤ 1048576) : Ev (fun k => laws_eqTurn.f k a b a b) true := by
  unfold laws_eqTurn.f
  exact Ev.bind' _ (eqIntS_eq a ha) (Ev.ite_true (Ev.bind' _ (eqIntS_eq b hb) (Ev.ite_true (Ev.const rfl))))
theorem markTurn_eq (a b : List Int) (ha : a.length ≤ 1048576) (hb : b.length ≤ 1048576) : Ev (fun k => laws_markTurn.f k a b 1) (1 + a.length + b.length, marks 1 a.length, marks (1 + a.length) b.length) := by
  unfold laws_markTurn.f
  exact Ev.bind' _ (markIntS_eq _ 1 (by omega) (by omega) (by omega)) (Ev.bind' _ (markIntS_eq _ _ (by omega) (by omega) (by omega)) (Ev.const rfl))
theorem heldTurn_eq (a b : List Int) (ha : a.length ≤ 1048576) (hb : b.length ≤ 1048576) : Ev (fun k => laws_heldTurn.f k (marks 1 a.length) (marks (1 + a.length) b.length) 1) (1 + a.length + b.length) := by
  unfold laws_heldTurn.f
  exact Ev.bind' _ (heldIntS_eq _ 1 (by omega) (by omega) (by omega)) (Ev.neg (by omega) (Ev.bind' _ (heldIntS_eq _ _ (by omega) (by omega) (by omega)) (Ev.neg (by omega) (Ev.const rfl))))
/-- A turn within the law's size goes on with short lists; a greater one ends the law. -/
theorem szTurn_eq (a b : List Int) (h1 : a.length ≤ maxLen) (h2 : b.length ≤ maxLen) : ∃ t : Int, laws_szTurn.f a b 1048576 = some t ∧ (t < 0 ∨ (¬ t < 0 ∧ a.length ≤ 1048576 ∧ b.length ≤ 1048576)) := by
  unfold laws_szTurn.f
  by_cases ha : (a.length : Int) > 1048576
  · exact ⟨-1, by rw [szInt_eq a _ h1 (by omega) (by omega), if_pos ha]; rfl, Or.inl (by omega)⟩
  · by_cases hb : (b.length : Int) > 1048576 - a.length
    · exact ⟨-1, by rw [szInt_eq a _ h1 (by omega) (by omega), if_neg ha, Option.bind_some, if_neg (by omega), szInt_eq b _ h2 (by omega) (by omega), if_pos hb]; rfl, Or.inl (by omega)⟩
    · exact ⟨1048576 - (a.length : Int) - b.length, by rw [szInt_eq a _ h1 (by omega) (by omega), if_neg ha, Option.bind_some, if_neg (by omega), szInt_eq b _ h2 (by omega) (by omega), if_neg hb, Option.bind_some, if_neg (by omega)], Or.inr ⟨by omega, by omega, by omega⟩⟩
end Go.Proofs.Ytioeomjjfajldaa.PL
