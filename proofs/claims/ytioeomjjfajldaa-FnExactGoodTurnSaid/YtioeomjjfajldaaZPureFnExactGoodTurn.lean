/- The program's GoodTurn returns what the reference's returns, for all arguments; no condition beyond the row's own. -/
import Derived.Test.YtioeomjjfajldaaJFnExactGoodTurn0
import Derived.Test.YtioeomjjfajldaaZLPGT
import Derived.Test.YtioeomjjfajldaaZLPInts
set_option linter.unusedVariables false
namespace Go.Proofs.Ytioeomjjfajldaa.Pure
open Go.RowKit Go.Proofs.Ytioeomjjfajldaa.Pp Go.Proofs.Ytioeomjjfajldaa.PB Go.Proofs.Ytioeomjjfajldaa.PL Go.Proofs.YtioeomjjfajldaaW.PrintWords Go.Proofs.YtioeomjjfajldaaW.PrintLast
theorem szInt (l : List Int) (a : Int) (h : l.length ≤ maxLen) (h0 : 0 ≤ a) (h1 : a ≤ 1048576) : laws_szIntS.f l a = some (if (l.length : Int) > a then (-1 : Int) else a - (l.length : Int)) := by
  have hm : maxLen = 9223372036854775807 := rfl
  unfold laws_szIntS.f
  rw [w64 (by omega) (by omega)]
  by_cases h2 : (l.length : Int) > a
  · rw [if_pos (by omega), if_pos h2]
  · rw [if_neg (by omega), if_neg h2]
theorem toTurn (a b : List Int) (ha : a.length ≤ 1048576) (hb : b.length ≤ 1048576) : Ev (fun k => laws_toTurn.f k a b) (a, b) := by
  unfold laws_toTurn.f
  exact Ev.bind' _ (toIntS_eq a ha) (Ev.bind' _ (toIntS_eq b hb) (Ev.const rfl))
theorem eqTurn (a b : List Int) (ha : a.length ≤ 1048576) (hb : b.length ≤ 1048576) : Ev (fun k => laws_eqTurn.f k a b a b) true := by
  unfold laws_eqTurn.f
  exact Ev.bind' _ (eqIntS_eq a ha) (Ev.ite_true (Ev.bind' _ (eqIntS_eq b hb) (Ev.ite_true (Ev.const rfl))))
theorem FnExactGoodTurn : laws_FnExactGoodTurn.Pure := by
  rintro a b ⟨h1, _⟩ ⟨h2, _⟩
  refine Ev.get (g := fun k => laws_FnExactGoodTurn.f k a b) ?_
  unfold laws_FnExactGoodTurn.f laws_szTurn.f
  by_cases ha : (a.length : Int) > 1048576
  · exact Ev.cbind (-1) (by rw [szInt a _ h1 (by omega) (by omega), if_pos ha]; rfl) (Ev.pos (by omega) (Ev.const rfl))
  · by_cases hb : (b.length : Int) > 1048576 - a.length
    · exact Ev.cbind (-1) (by rw [szInt a _ h1 (by omega) (by omega), if_neg ha, Option.bind_some, if_neg (by omega), szInt b _ h2 (by omega) (by omega), if_pos hb]; rfl) (Ev.pos (by omega) (Ev.const rfl))
    · refine Ev.cbind (1048576 - (a.length : Int) - b.length) (by rw [szInt a _ h1 (by omega) (by omega), if_neg ha, Option.bind_some, if_neg (by omega), szInt b _ h2 (by omega) (by omega), if_neg hb, Option.bind_some, if_neg (by omega)]) (Ev.neg (by omega) ?_)
      have la : a.length ≤ 1048576 := by omega
      have lb : b.length ≤ 1048576 := by omega
      refine Ev.bind' _ (toTurn a b la lb) (Ev.bind' _ (specGT_eq a b la lb) (Ev.bind' _ (toTurn a b la lb) (Ev.bind' _ (implGT_eq a b la lb) (Ev.neg (by simp) (Ev.bind' _ (toTurn a b la lb) (Ev.bind' _ (eqTurn a b la lb) (Ev.ite_true (Ev.const rfl))))))))
end Go.Proofs.Ytioeomjjfajldaa.Pure
