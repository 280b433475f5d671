/- Texts that belong together, joined by claimit.py. -/
import Derived.Test.YtioeomjjfajldaaXBase
import Derived.Test.YtioeomjjfajldaaJFnAlias0
import Derived.Test.YtioeomjjfajldaaJFnAlias1
import Derived.Test.YtioeomjjfajldaaJFnAlias2
section
/- Is a number in a range: the reference's and the program's words. -/
set_option linter.unusedVariables false
set_option linter.unusedSimpArgs false
namespace Go.Proofs.Ytioeomjjfajldaa.PL
open Go.RowKit Go.Proofs.Ytioeomjjfajldaa.Pp Go.Proofs.Ytioeomjjfajldaa.PB Go.Proofs.YtioeomjjfajldaaW.PrintWords Go.Proofs.YtioeomjjfajldaaW.PrintLast
def inR (a b c : Int) : Bool := decide (b ≤ a ∧ a ≤ c)
theorem l1In_eq (a b c : Int) : spec_l1In.f a b c = some (inR a b c) := by
  unfold spec_l1In.f inR
  by_cases h : a ≥ b
  · rw [if_pos h]; simp [h]
  · rw [if_neg h]; simp; omega
theorem within_eq (a b c : Int) : impl_within.f a b c = some (inR a b c) := by
  unfold impl_within.f inR
  by_cases h : a ≥ b
  · rw [if_pos h]; simp [h]
  · rw [if_neg h]; simp; omega
end Go.Proofs.Ytioeomjjfajldaa.PL
end
section
/- slices.IndexFunc and ContainsFunc at one function value: the first place at which it answers yes. Written by gen_idx.py. -/
set_option linter.unusedVariables false
set_option linter.unusedSimpArgs false
namespace Go.Proofs.Ytioeomjjfajldaa.PL
open Go.RowKit Go.Proofs.Ytioeomjjfajldaa.Pp Go.Proofs.Ytioeomjjfajldaa.PB Go.Proofs.YtioeomjjfajldaaW.PrintWords Go.Proofs.YtioeomjjfajldaaW.PrintLast
theorem slices_IndexFunc_int_int_GoodWeights_1.idx (l0 : List Int) (q : Int → Bool) (hl : l0.length ≤ 1048576) (h : ∀ x ∈ l0, Ev (fun k => impl_GoodWeights_1.f x) (q x)) : Ev (fun k => slices_IndexFunc_int_int_GoodWeights_1.f k l0 ) (idxP q l0) := by
  unfold slices_IndexFunc_int_int_GoodWeights_1.f
  refine Ev.eq_ (loop_list l0 (fun k (_ : Nat) i => slices_IndexFunc_int_int_GoodWeights_1.l0 k l0 (l0.length : Int) i) (fun n t => if 0 ≤ idxP q t then (n : Int) + idxP q t else -1) (fun p n => n = p.length) ?_ ?_ 0 rfl) ?_
  · intro n hn
    apply Ev.succ
    simp only [slices_IndexFunc_int_int_GoodWeights_1.l0]
    exact Ev.neg (by omega) (Ev.const (by simp [idxP]))
  · intro p x t n e hn ih
    have hm := len_mid e
    have hx := h x (mem_mid e)
    apply Ev.succ
    simp only [slices_IndexFunc_int_int_GoodWeights_1.l0, rd_mid' e]
    refine Ev.pos hm.1 (Ev.pos (by omega) (Ev.pos hm.1 (Ev.bind' _ hx ?_)))
    have hq : idxP q (x :: t) = (if q x then 0 else if 0 ≤ idxP q t then idxP q t + 1 else -1) := rfl
    rw [hq]
    cases q x with
    | true => exact Ev.ite_true (Ev.const (by simp [hn]))
    | false =>
      refine Ev.ite_false ?_
      rw [w64 (by omega) (by omega)]
      refine Ev.eq_ (ih (n + 1) (by simp [hn])) ?_
      by_cases h2 : 0 ≤ idxP q t
      · simp [h2]; omega
      · simp [h2]
  · by_cases h2 : 0 ≤ idxP q l0
    · simp [h2]
    · rw [if_neg h2]
      exact (idxP_neg q l0 h2).symm
theorem slices_ContainsFunc_int_int_GoodWeights_1.any (l0 : List Int) (q : Int → Bool) (hl : l0.length ≤ 1048576) (h : ∀ x ∈ l0, Ev (fun k => impl_GoodWeights_1.f x) (q x)) : Ev (fun k => slices_ContainsFunc_int_int_GoodWeights_1.f k l0 ) (l0.any q) := by
  unfold slices_ContainsFunc_int_int_GoodWeights_1.f
  refine Ev.bind' _ (slices_IndexFunc_int_int_GoodWeights_1.idx l0  q hl h) (Ev.const ?_)
  rw [idxP_nonneg]
end Go.Proofs.Ytioeomjjfajldaa.PL
end
section
/- GoodWeights: the program's and the reference's come to the same. -/
set_option linter.unusedVariables false
set_option linter.unusedSimpArgs false
namespace Go.Proofs.Ytioeomjjfajldaa.PL
open Go.RowKit Go.Proofs.Ytioeomjjfajldaa.Pp Go.Proofs.Ytioeomjjfajldaa.PB Go.Proofs.YtioeomjjfajldaaW.PrintWords Go.Proofs.YtioeomjjfajldaaW.PrintLast
def goodW (l : List Int) : Bool := inR l.length 1 12 && (l.all (inR · 0 50) && decide (l.sum > 0))
theorem sum_bound' (lo hi : Int) (l : List Int) (h : l.all (inR · lo hi) = true) : lo * l.length ≤ l.sum ∧ l.sum ≤ hi * l.length := by
  induction l with
  | nil => simp
  | cons x s ih =>
    simp only [List.all_cons, Bool.and_eq_true] at h
    have h1 := ih h.2
    have hx := h.1
    simp only [inR, decide_eq_true_eq] at hx
    simp only [List.sum_cons, List.length_cons]
    rw [show ((s.length + 1 : Nat) : Int) = (s.length : Int) + 1 from by omega, Int.mul_add, Int.mul_add, Int.mul_one, Int.mul_one]
    omega
theorem specGW_eq (l : List Int) (hl : l.length ≤ 1048576) : Ev (fun k => spec_GoodWeights.f k l) (goodW l) := by
  unfold spec_GoodWeights.f
  refine Ev.eq_ (loop_list l (fun k S i => spec_GoodWeights.l0 k l S l (l.length : Int) i) (fun S t => if t.all (inR · 0 50) then inR l.length 1 12 && decide (S + t.sum > 0) else false) (fun p S => 0 ≤ S ∧ S ≤ 50 * p.length) ?_ ?_ 0 (by simp)) (by unfold goodW; cases l.all (inR · 0 50) <;> simp)
  · intro S hS
    apply Ev.succ
    simp only [spec_GoodWeights.l0]
    refine Ev.neg (by omega) (Ev.cbind _ (l1In_eq _ _ _) ?_)
    cases inR (l.length : Int) 1 12 with
    | true => exact Ev.const (by simp)
    | false => exact Ev.const (by simp)
  · intro p x t S e hS ih
    have hm := len_mid e
    apply Ev.succ
    simp only [spec_GoodWeights.l0, rd_mid' e]
    refine Ev.pos hm.1 (Ev.pos (by omega) (Ev.pos hm.1 (Ev.cbind _ (l1In_eq _ _ _) ?_)))
    cases hx : inR x 0 50 with
    | false => exact Ev.const (by simp [hx])
    | true =>
      have hb : 0 ≤ x ∧ x ≤ 50 := by simpa [inR] using hx
      refine Ev.ite_true ?_
      rw [w64 (by omega) (by omega), w64 (by omega) (by omega)]
      refine Ev.eq_ (ih (S + x) ⟨by omega, by simp; omega⟩) ?_
      simp [hx, Int.add_assoc]
theorem total_eq (lo hi : Int) (l : List Int) (h1 : -1000000 ≤ lo) (h2 : lo ≤ 0) (h3 : 0 ≤ hi) (h4 : hi ≤ 1000000) (hl : l.length ≤ 1048576) (ha : l.all (inR · lo hi) = true) : Ev (fun k => impl_totalOf.f k l) l.sum := by
  unfold impl_totalOf.f
  refine Ev.eq_ (loop_list l (fun k S i => impl_totalOf.l0 k S l (l.length : Int) i) (fun S t => S + t.sum) (fun p S => -1000000 * p.length ≤ S ∧ S ≤ 1000000 * p.length) ?_ ?_ 0 (by simp)) (by simp)
  · intro S hS
    apply Ev.succ
    simp only [impl_totalOf.l0]
    exact Ev.neg (by omega) (Ev.const (by simp))
  · intro p x t S e hS ih
    have hm := len_mid e
    have hb : lo ≤ x ∧ x ≤ hi := by
      have := List.all_eq_true.1 ha x (mem_mid e)
      simpa [inR] using this
    apply Ev.succ
    simp only [impl_totalOf.l0, rd_mid' e]
    refine Ev.pos hm.1 (Ev.pos (by omega) (Ev.pos hm.1 ?_))
    rw [w64 (by omega) (by omega), w64 (by omega) (by omega)]
    refine Ev.eq_ (ih (S + x) ⟨by simp; omega, by simp; omega⟩) ?_
    simp [Int.add_assoc]
theorem implGW_eq (l : List Int) (hl : l.length ≤ 1048576) : Ev (fun k => impl_GoodWeights.f k l) (goodW l) := by
  unfold impl_GoodWeights.f goodW
  refine Ev.cbind _ (within_eq _ _ _) ?_
  cases inR (l.length : Int) 1 12 with
  | false => exact Ev.const (by simp)
  | true =>
    refine Ev.ite_true (Ev.bind' _ (slices_ContainsFunc_int_int_GoodWeights_1.any l (fun x => !inR x 0 50) hl (fun x _ => Ev.const (by simp [impl_GoodWeights_1.f, within_eq]))) ?_)
    rw [any_not]
    cases ha : l.all (inR · 0 50) with
    | false => exact Ev.const (by simp)
    | true =>
      refine Ev.neg (by simp) ?_
      exact Ev.bind' _ (total_eq 0 50 l (by omega) (by omega) (by omega) (by omega) hl ha) (Ev.const (by simp))
end Go.Proofs.Ytioeomjjfajldaa.PL
end
section
/- slices.IndexFunc and ContainsFunc at one function value: the first place at which it answers yes. Written by gen_idx.py. -/
set_option linter.unusedVariables false
set_option linter.unusedSimpArgs false
namespace Go.Proofs.Ytioeomjjfajldaa.PL
open Go.RowKit Go.Proofs.Ytioeomjjfajldaa.Pp Go.Proofs.Ytioeomjjfajldaa.PB Go.Proofs.YtioeomjjfajldaaW.PrintWords Go.Proofs.YtioeomjjfajldaaW.PrintLast
theorem slices_IndexFunc_int_int_GoodTurn_1.idx (l0 : List Int) (q : Int → Bool) (hl : l0.length ≤ 1048576) (h : ∀ x ∈ l0, Ev (fun k => impl_GoodTurn_1.f x) (q x)) : Ev (fun k => slices_IndexFunc_int_int_GoodTurn_1.f k l0 ) (idxP q l0) := by
  unfold slices_IndexFunc_int_int_GoodTurn_1.f
  refine Ev.eq_ (loop_list l0 (fun k (_ : Nat) i => slices_IndexFunc_int_int_GoodTurn_1.l0 k l0 (l0.length : Int) i) (fun n t => if 0 ≤ idxP q t then (n : Int) + idxP q t else -1) (fun p n => n = p.length) ?_ ?_ 0 rfl) ?_
  · intro n hn
    apply Ev.succ
    simp only [slices_IndexFunc_int_int_GoodTurn_1.l0]
    exact Ev.neg (by omega) (Ev.const (by simp [idxP]))
  · intro p x t n e hn ih
    have hm := len_mid e
    have hx := h x (mem_mid e)
    apply Ev.succ
    simp only [slices_IndexFunc_int_int_GoodTurn_1.l0, rd_mid' e]
    refine Ev.pos hm.1 (Ev.pos (by omega) (Ev.pos hm.1 (Ev.bind' _ hx ?_)))
    have hq : idxP q (x :: t) = (if q x then 0 else if 0 ≤ idxP q t then idxP q t + 1 else -1) := rfl
    rw [hq]
    cases q x with
    | true => exact Ev.ite_true (Ev.const (by simp [hn]))
    | false =>
      refine Ev.ite_false ?_
      rw [w64 (by omega) (by omega)]
      refine Ev.eq_ (ih (n + 1) (by simp [hn])) ?_
      by_cases h2 : 0 ≤ idxP q t
      · simp [h2]; omega
      · simp [h2]
  · by_cases h2 : 0 ≤ idxP q l0
    · simp [h2]
    · rw [if_neg h2]
      exact (idxP_neg q l0 h2).symm
theorem slices_ContainsFunc_int_int_GoodTurn_1.any (l0 : List Int) (q : Int → Bool) (hl : l0.length ≤ 1048576) (h : ∀ x ∈ l0, Ev (fun k => impl_GoodTurn_1.f x) (q x)) : Ev (fun k => slices_ContainsFunc_int_int_GoodTurn_1.f k l0 ) (l0.any q) := by
  unfold slices_ContainsFunc_int_int_GoodTurn_1.f
  refine Ev.bind' _ (slices_IndexFunc_int_int_GoodTurn_1.idx l0  q hl h) (Ev.const ?_)
  rw [idxP_nonneg]
end Go.Proofs.Ytioeomjjfajldaa.PL
end
section
/- GoodTurn, NewTurn: the program's and the reference's come to the same. -/
set_option linter.unusedVariables false
set_option linter.unusedSimpArgs false
namespace Go.Proofs.Ytioeomjjfajldaa.PL
open Go.RowKit Go.Proofs.Ytioeomjjfajldaa.Pp Go.Proofs.Ytioeomjjfajldaa.PB Go.Proofs.YtioeomjjfajldaaW.PrintWords Go.Proofs.YtioeomjjfajldaaW.PrintLast
def goodT (a b : List Int) : Bool := goodW a && (decide (b.length = a.length) && (b.all (inR · (-10000) 10000) && decide (b.sum = 0)))
theorem implGT_eq (a b : List Int) (ha : a.length ≤ 1048576) (hb : b.length ≤ 1048576) : Ev (fun k => impl_GoodTurn.f k a b) (goodT a b) := by
  unfold impl_GoodTurn.f goodT
  refine Ev.bind' _ (implGW_eq a ha) ?_
  cases goodW a with
  | false => exact Ev.ite_false (Ev.const (by simp))
  | true =>
    refine Ev.ite_true ?_
    by_cases hl : b.length = a.length
    · refine Ev.pos (by omega) (Ev.bind' _ (slices_ContainsFunc_int_int_GoodTurn_1.any b (fun x => !inR x (-10000) 10000) hb (fun x _ => Ev.const (by simp [impl_GoodTurn_1.f, within_eq]))) ?_)
      rw [any_not]
      cases h : b.all (inR · (-10000) 10000) with
      | false => exact Ev.const (by simp)
      | true =>
        refine Ev.neg (by simp) (Ev.bind' _ (total_eq (-10000) 10000 b (by omega) (by omega) (by omega) (by omega) hb h) (Ev.const ?_))
        by_cases hs : b.sum = 0 <;> simp [hl, hs]
    · exact Ev.neg (by omega) (Ev.const (by simp [hl]))
theorem specGT_eq (a b : List Int) (ha : a.length ≤ 1048576) (hb : b.length ≤ 1048576) : Ev (fun k => spec_GoodTurn.f k a b) (goodT a b) := by
  unfold spec_GoodTurn.f goodT
  refine Ev.bind' _ (specGW_eq a ha) ?_
  cases goodW a with
  | false =>
    refine Ev.neg (by simp) ?_
    apply Ev.succ
    simp only [spec_GoodTurn.j0]
    exact Ev.const (by simp)
  | true =>
    refine Ev.pos rfl ?_
    apply Ev.succ
    simp only [spec_GoodTurn.j0]
    by_cases hl : b.length = a.length
    · refine Ev.neg (by simp [hl]) ?_
      refine Ev.eq_ (loop_list b (fun k S i => spec_GoodTurn.l0 k S b (b.length : Int) i) (fun S t => t.all (inR · (-10000) 10000) && decide (S + t.sum = 0)) (fun p S => -10000 * p.length ≤ S ∧ S ≤ 10000 * p.length) ?_ ?_ 0 (by simp)) (by simp [hl])
      · intro S hS
        apply Ev.succ
        simp only [spec_GoodTurn.l0]
        exact Ev.neg (by omega) (Ev.const (by simp only [List.all_nil, List.sum_nil, Int.add_zero, Bool.true_and]; by_cases hz : S = 0 <;> simp [hz]))
      · intro p x t S e hS ih
        have hm := len_mid e
        apply Ev.succ
        simp only [spec_GoodTurn.l0, rd_mid' e]
        refine Ev.pos hm.1 (Ev.pos (by omega) (Ev.pos hm.1 (Ev.cbind _ (l1In_eq _ _ _) ?_)))
        cases hx : inR x (-10000) 10000 with
        | false => exact Ev.const (by simp [hx])
        | true =>
          have hb : -10000 ≤ x ∧ x ≤ 10000 := by simpa [inR] using hx
          refine Ev.ite_true ?_
          rw [w64 (by omega) (by omega), w64 (by omega) (by omega)]
          refine Ev.eq_ (ih (S + x) ⟨by simp; omega, by simp; omega⟩) ?_
          simp only [List.all_cons, hx, Bool.true_and, List.sum_cons, Int.add_assoc]
          congr
    · exact Ev.pos (by simp; omega) (Ev.const (by simp [hl]))
end Go.Proofs.Ytioeomjjfajldaa.PL
end
section
/- NewTurn: both hand out the weights and as many zeros. -/
set_option linter.unusedVariables false
set_option linter.unusedSimpArgs false
namespace Go.Proofs.Ytioeomjjfajldaa.PL
open Go.RowKit Go.Proofs.Ytioeomjjfajldaa.Pp Go.Proofs.Ytioeomjjfajldaa.PB Go.Proofs.YtioeomjjfajldaaW.PrintWords Go.Proofs.YtioeomjjfajldaaW.PrintLast
def newT (l : List Int) : List Int × List Int × Bool := if goodW l = true then (l, List.replicate l.length 0, true) else ([], [], false)
theorem clone_eq (l : List Int) (hl : l.length ≤ 1048576) : slices_Clone_int_int.f l = some l := by
  unfold slices_Clone_int_int.f
  rw [Option.bind_some, if_pos (by simp; omega)]
  simp
theorem specNT (l : List Int) (hl : l.length ≤ 1048576) : Ev (fun k => spec_NewTurn.f k l) (newT l) := by
  unfold spec_NewTurn.f newT
  refine Ev.bind' _ (specGW_eq l hl) ?_
  cases goodW l with
  | false => exact Ev.const (by simp)
  | true =>
    refine Ev.ite_true (Ev.cbind [] rfl (Ev.pos (by simp; omega) (Ev.pos (by omega) (Ev.pos (by simp; omega) (Ev.const (by simp))))))
theorem implNT (l : List Int) (hl : l.length ≤ 1048576) : Ev (fun k => impl_NewTurn.f k l) (newT l) := by
  unfold impl_NewTurn.f newT
  refine Ev.bind' _ (implGW_eq l hl) ?_
  cases goodW l with
  | false => exact Ev.const (by simp)
  | true =>
    refine Ev.ite_true (Ev.cbind l (clone_eq l hl) (Ev.pos (by omega) (Ev.pos (by simp; omega) (Ev.const (by simp)))))
end Go.Proofs.Ytioeomjjfajldaa.PL
end
section
/- A turn further: the program's and the reference's come to the same. -/
set_option linter.unusedVariables false
set_option linter.unusedSimpArgs false
namespace Go.Proofs.Ytioeomjjfajldaa.PL
open Go.RowKit Go.Proofs.Ytioeomjjfajldaa.Pp Go.Proofs.Ytioeomjjfajldaa.PB Go.Proofs.YtioeomjjfajldaaW.PrintWords Go.Proofs.YtioeomjjfajldaaW.PrintLast
theorem rdn (x : List Int) (i : Nat) : rd x (i : Int) = x.getD i 0 := by simp [rd]
theorem getD_mem (x : List Int) (i : Nat) (h : i < x.length) : x.getD i 0 ∈ x := by
  rw [List.getD_eq_getElem?_getD, List.getElem?_eq_getElem h]
  exact List.getElem_mem h
def addL (b w : List Int) : List Int := List.zipWith (· + ·) b w
theorem addL_len {b w : List Int} (h : b.length = w.length) : (addL b w).length = w.length := by simp [addL, h]
theorem addL_get {b w : List Int} (h : b.length = w.length) (i : Nat) (hi : i < w.length) : (addL b w).getD i 0 = b.getD i 0 + w.getD i 0 := by
  have hb : i < b.length := by omega
  simp [addL, List.getD_eq_getElem?_getD, List.getElem?_zipWith, hi, hb]
/-- The first of the greatest of the first n. -/
def bu (y : List Int) : Nat → Nat
  | 0 => 0
  | n + 1 => if y.getD n 0 > y.getD (bu y n) 0 then n else bu y n
theorem bu_le (y : List Int) : ∀ n, bu y (n + 1) ≤ n
  | 0 => by simp [bu]
  | n + 1 => by
    have h := bu_le y n
    have e : bu y (n + 1 + 1) = if y.getD (n + 1) 0 > y.getD (bu y (n + 1)) 0 then n + 1 else bu y (n + 1) := rfl
    rw [e]
    split <;> omega
theorem bu_lt (y : List Int) (n m : Nat) (h : n ≤ m) (hm : 0 < m) : bu y n < m := by
  cases n with
  | zero => exact hm
  | succ n => have := bu_le y n; omega
theorem bu_max (y : List Int) : ∀ n j, j < n → y.getD j 0 ≤ y.getD (bu y n) 0
  | 0, j, h => by omega
  | n + 1, j, h => by
    have e : bu y (n + 1) = if y.getD n 0 > y.getD (bu y n) 0 then n else bu y n := rfl
    rw [e]
    by_cases hj : j = n
    · subst hj
      split <;> omega
    · have := bu_max y n j (by omega)
      split <;> omega
def mix (y b : List Int) (i : Nat) : List Int := y.take i ++ b.drop i
theorem mix_len {y b : List Int} (h : y.length = b.length) (i : Nat) (hi : i ≤ y.length) : (mix y b i).length = b.length := by
  simp only [mix, List.length_append, List.length_take, List.length_drop]
  omega
theorem mix_lt {y b : List Int} (i j : Nat) (hi : i ≤ y.length) (hj : j < i) : (mix y b i).getD j 0 = y.getD j 0 := by
  have h1 : j < (y.take i).length := by rw [List.length_take]; omega
  rw [mix, List.getD_eq_getElem?_getD, List.getElem?_append_left h1, List.getElem?_take_of_lt hj, ← List.getD_eq_getElem?_getD]
theorem mix_at {y b : List Int} (i : Nat) (hi : i ≤ y.length) : (mix y b i).getD i 0 = b.getD i 0 := by
  have h1 : (y.take i).length = i := by rw [List.length_take]; omega
  rw [mix, List.getD_eq_getElem?_getD, List.getElem?_append_right (by omega), h1, Nat.sub_self, List.getElem?_drop, Nat.add_zero, ← List.getD_eq_getElem?_getD]
theorem take_snoc (y : List Int) (i : Nat) (hi : i < y.length) : y.take i ++ [y.getD i 0] = y.take (i + 1) := by
  rw [List.take_add_one, List.getD_eq_getElem?_getD, List.getElem?_eq_getElem hi]
  rfl
theorem mix_set {y b : List Int} (h : y.length = b.length) (i : Nat) (hi : i < y.length) : (mix y b i).set i (y.getD i 0) = mix y b (i + 1) := by
  have hb : i < b.length := by omega
  have h1 : (y.take i).length = i := by rw [List.length_take]; omega
  unfold mix
  rw [← take_snoc y i hi, List.drop_eq_getElem_cons hb, List.append_assoc]
  have := set_mid (y.take i) (b.drop (i + 1)) (y.getD i 0) b[i]
  rw [h1, Int.toNat_natCast] at this
  rw [this, List.append_assoc]
theorem mix_all {y b : List Int} (h : y.length = b.length) : mix y b y.length = y := by
  unfold mix
  rw [List.take_length, h, List.drop_length, List.append_nil]
def nextL (w b : List Int) : List Int × Nat := ((addL b w).set (bu (addL b w) w.length) ((addL b w).getD (bu (addL b w) w.length) 0 - w.sum), bu (addL b w) w.length)
def nextT (w b : List Int) : List Int × List Int × Int × Bool := if goodT w b = true then (if goodT w (nextL w b).1 = true then (w, (nextL w b).1, ((nextL w b).2 : Int), true) else ([], [], 0, false)) else ([], [], 0, false)
theorem goodW_out {w : List Int} (h : goodW w = true) : 1 ≤ w.length ∧ w.length ≤ 12 ∧ (∀ v ∈ w, 0 ≤ v ∧ v ≤ 50) ∧ 0 < w.sum ∧ w.sum ≤ 600 := by
  simp only [goodW, Bool.and_eq_true, inR, decide_eq_true_eq] at h
  obtain ⟨h1, h2, h3⟩ := h
  have hb := sum_bound' 0 50 w (by simpa [inR] using h2)
  refine ⟨by omega, by omega, fun v hv => ?_, by omega, by omega⟩
  have := List.all_eq_true.1 h2 v hv
  simpa using this
theorem goodT_out {w b : List Int} (h : goodT w b = true) : goodW w = true ∧ b.length = w.length ∧ (∀ v ∈ b, -10000 ≤ v ∧ v ≤ 10000) ∧ b.sum = 0 := by
  simp only [goodT, Bool.and_eq_true, decide_eq_true_eq] at h
  obtain ⟨h1, h2, h3, h4⟩ := h
  refine ⟨h1, h2, fun v hv => ?_, h4⟩
  have := List.all_eq_true.1 h3 v hv
  simpa [inR] using this
theorem nextL_len (w b : List Int) (h : b.length = w.length) : (nextL w b).1.length = w.length := by
  rw [nextL, List.length_set, addL_len h]
theorem specTotal_eq (l : List Int) (hl : l.length ≤ 1048576) (ha : ∀ v ∈ l, 0 ≤ v ∧ v ≤ 50) : Ev (fun k => spec_l12Total.f k l) l.sum := by
  unfold spec_l12Total.f
  refine Ev.eq_ (loop_list l (fun k S i => spec_l12Total.l0 k S l (l.length : Int) i) (fun S t => S + t.sum) (fun p S => 0 ≤ S ∧ S ≤ 50 * p.length) ?_ ?_ 0 (by simp)) (by simp)
  · intro S hS
    apply Ev.succ
    simp only [spec_l12Total.l0]
    exact Ev.neg (by omega) (Ev.const (by simp))
  · intro p x t S e hS ih
    have hm := len_mid e
    have hb := ha x (mem_mid e)
    apply Ev.succ
    simp only [spec_l12Total.l0, rd_mid' e]
    refine Ev.pos hm.1 (Ev.pos (by omega) (Ev.pos hm.1 ?_))
    rw [w64 (by omega) (by omega), w64 (by omega) (by omega)]
    refine Ev.eq_ (ih (S + x) ⟨by omega, by simp; omega⟩) ?_
    simp [Int.add_assoc]
theorem implNext_eq (w b : List Int) (hw : w.length ≤ 1048576) (hb : b.length ≤ 1048576) : Ev (fun k => impl_NextTurn.f k w b) (nextT w b) := by
  unfold impl_NextTurn.f nextT
  refine Ev.bind' _ (implGT_eq w b hw hb) ?_
  cases hg : goodT w b with
  | false => exact Ev.ite_false (Ev.const (by simp))
  | true =>
    obtain ⟨g1, g2, g3, g4⟩ := goodT_out hg
    obtain ⟨k1, k2, k3, k4, k5⟩ := goodW_out g1
    refine Ev.ite_true (Ev.cbind w (clone_eq w hw) (Ev.cbind b (clone_eq b hb) ?_))
    have hy : (addL b w).length = b.length := by rw [addL_len g2, g2]
    refine Ev.eq_ (loop_list w (fun k (s : Nat × List Int) i => impl_NextTurn.l0 k (s.1 : Int) w (w.length : Int) i w s.2) (fun _ _ => if goodT w (nextL w b).1 = true then (w, (nextL w b).1, ((nextL w b).2 : Int), true) else ([], [], 0, false)) (fun p s => s.1 = bu (addL b w) p.length ∧ s.2 = mix (addL b w) b p.length) ?_ ?_ (0, b) ⟨rfl, by simp [mix]⟩) (by simp)
    · rintro ⟨s1, s2⟩ ⟨h1, h2⟩
      simp only at h1 h2
      have hb2 := bu_lt (addL b w) w.length w.length (Nat.le_refl _) (by omega)
      rw [show w.length = (addL b w).length from (by omega), mix_all hy] at h2
      subst h2
      rw [← h1] at hb2
      apply Ev.succ
      simp only [impl_NextTurn.l0]
      refine Ev.neg (by omega) (Ev.pos (by omega) (Ev.pos (by omega) (Ev.bind' _ (total_eq 0 50 w (by omega) (by omega) (by omega) (by omega) hw ?_) (Ev.cbind _ rfl ?_))))
      · exact List.all_eq_true.2 (fun v hv => by simpa [inR] using k3 v hv)
      · have hv : -10000 ≤ b.getD s1 0 ∧ b.getD s1 0 ≤ 10000 := g3 _ (getD_mem b s1 (by omega))
        have hv2 : 0 ≤ w.getD s1 0 ∧ w.getD s1 0 ≤ 50 := k3 _ (getD_mem w s1 (by omega))
        have hv3 := addL_get g2 s1 (by omega)
        rw [rdn, Int.toNat_natCast, w64 (by omega) (by omega)]
        have hn : (nextL w b).1 = (addL b w).set s1 ((addL b w).getD s1 0 - w.sum) := by rw [nextL, ← h1]
        have hn2 : (nextL w b).2 = s1 := by rw [nextL, ← h1]
        rw [← hn, hn2]
        refine Ev.bind' _ (implGT_eq w (nextL w b).1 hw (by rw [nextL_len w b g2]; omega)) ?_
        cases goodT w (nextL w b).1 with
        | true => exact Ev.const (by simp)
        | false => exact Ev.const (by simp)
    · rintro p x t ⟨s1, s2⟩ e ⟨h1, h2⟩ ih
      simp only at h1 h2
      subst h1 h2
      have hm := len_mid e
      have hbl := bu_lt (addL b w) p.length w.length (by omega) (by omega)
      have hml := mix_len hy p.length (by omega)
      have hx : x = w.getD p.length 0 := by rw [← rdn, rd_mid' e]
      have hv : -10000 ≤ b.getD p.length 0 ∧ b.getD p.length 0 ≤ 10000 := g3 _ (getD_mem b _ (by omega))
      have hv2 : 0 ≤ w.getD p.length 0 ∧ w.getD p.length 0 ≤ 50 := k3 _ (getD_mem w _ (by omega))
      have hv3 := addL_get g2 p.length (by omega)
      have hset := mix_set hy p.length (by omega)
      apply Ev.succ
      simp only [impl_NextTurn.l0, rd_mid' e]
      refine Ev.pos hm.1 (Ev.pos (by omega) (Ev.pos hm.1 (Ev.pos (by omega) (Ev.cbind (mix (addL b w) b (p.length + 1)) ?_ ?_))))
      · rw [rdn, mix_at _ (by omega), hx, w64 (by omega) (by omega), ← hv3, Int.toNat_natCast, hset]
      · refine Ev.pos (by omega) (Ev.pos (by omega) ?_)
        rw [rdn, rdn, mix_lt _ _ (by omega) (by omega), mix_lt _ _ (by omega) (bu_lt _ _ _ (by omega) (by omega)), w64 (by omega) (by omega)]
        by_cases hc : (addL b w).getD p.length 0 > (addL b w).getD (bu (addL b w) p.length) 0
        · refine Ev.pos hc (Ev.eq_ (ih (p.length, mix (addL b w) b (p.length + 1)) ⟨?_, by simp⟩) rfl)
          simp only [List.length_append, List.length_cons, List.length_nil, Nat.zero_add, bu]
          rw [if_pos hc]
        · refine Ev.neg hc (Ev.eq_ (ih (bu (addL b w) p.length, mix (addL b w) b (p.length + 1)) ⟨?_, by simp⟩) rfl)
          simp only [List.length_append, List.length_cons, List.length_nil, Nat.zero_add, bu]
          rw [if_neg hc]
theorem specL12_eq (w b : List Int) (g1 : goodW w = true) (g2 : b.length = w.length) (g3 : ∀ v ∈ b, -10000 ≤ v ∧ v ≤ 10000) : Ev (fun k => spec_l12Next.f k w b) (w, (nextL w b).1, ((nextL w b).2 : Int)) := by
  obtain ⟨k1, k2, k3, k4, k5⟩ := goodW_out g1
  unfold spec_l12Next.f
  refine Ev.cbind [] rfl (Ev.pos (by simp; omega) ?_)
  rw [List.nil_append]
  have hy : (addL b w).length = b.length := by rw [addL_len g2, g2]
  refine Ev.eq_ (loop_list b (fun k (s : Nat × List Int) i => spec_l12Next.l0 k (s.1 : Int) b (b.length : Int) i w b w s.2) (fun _ _ => (w, (nextL w b).1, ((nextL w b).2 : Int))) (fun p s => s.1 = bu (addL b w) p.length ∧ s.2 = (addL b w).take p.length) ?_ ?_ (0, []) ⟨rfl, by simp⟩) rfl
  · rintro ⟨s1, s2⟩ ⟨h1, h2⟩
    simp only at h1 h2
    have hb2 := bu_lt (addL b w) b.length b.length (Nat.le_refl _) (by omega)
    rw [← hy, List.take_length] at h2
    subst h2
    rw [← h1] at hb2
    apply Ev.succ
    simp only [spec_l12Next.l0]
    have ht : Ev (fun k => spec_l12Total.f k w) w.sum := specTotal_eq w (by omega) (fun v hv => k3 v hv)
    refine Ev.neg (by omega) (Ev.pos (by omega) (Ev.pos (by omega) (Ev.bind' _ ht ?_)))
    have hv : -10000 ≤ b.getD s1 0 ∧ b.getD s1 0 ≤ 10000 := g3 _ (getD_mem b s1 (by omega))
    have hv2 : 0 ≤ w.getD s1 0 ∧ w.getD s1 0 ≤ 50 := k3 _ (getD_mem w s1 (by omega))
    have hv3 := addL_get g2 s1 (by omega)
    rw [rdn, Int.toNat_natCast, w64 (by omega) (by omega)]
    have hn : (nextL w b).1 = (addL b w).set s1 ((addL b w).getD s1 0 - w.sum) := by rw [nextL, ← g2, ← h1]
    have hn2 : (nextL w b).2 = s1 := by rw [nextL, ← g2, ← h1]
    rw [← hn, hn2]
    exact Ev.const rfl
  · rintro p x t ⟨s1, s2⟩ e ⟨h1, h2⟩ ih
    simp only at h1 h2
    subst h1 h2
    have hm := len_mid e
    have hbl := bu_lt (addL b w) p.length (p.length + 1) (by omega) (by omega)
    have hx : x = b.getD p.length 0 := by rw [← rdn, rd_mid' e]
    have hv : -10000 ≤ b.getD p.length 0 ∧ b.getD p.length 0 ≤ 10000 := g3 _ (getD_mem b _ (by omega))
    have hv2 : 0 ≤ w.getD p.length 0 ∧ w.getD p.length 0 ≤ 50 := k3 _ (getD_mem w _ (by omega))
    have hv3 := addL_get g2 p.length (by omega)
    have htl : ((addL b w).take (p.length + 1)).length = p.length + 1 := by rw [List.length_take]; omega
    have htg : ∀ j, j < p.length + 1 → ((addL b w).take (p.length + 1)).getD j 0 = (addL b w).getD j 0 := fun j hj => by rw [List.getD_eq_getElem?_getD, List.getElem?_take_of_lt hj, ← List.getD_eq_getElem?_getD]
    apply Ev.succ
    simp only [spec_l12Next.l0, rd_mid' e]
    refine Ev.pos hm.1 (Ev.pos (by omega) (Ev.pos hm.1 (Ev.pos (by omega) (Ev.pos (by rw [List.length_take]; omega) (Ev.cbind ((addL b w).take (p.length + 1)) ?_ ?_)))))
    · rw [rdn, hx, w64 (by omega) (by omega), ← hv3, take_snoc _ _ (by omega)]
    · refine Ev.pos (by omega) (Ev.pos (by omega) (Ev.pos (by omega) ?_))
      rw [rdn, rdn, htg _ (by omega), htg _ hbl, w64 (by omega) (by omega)]
      by_cases hc : (addL b w).getD p.length 0 > (addL b w).getD (bu (addL b w) p.length) 0
      · refine Ev.pos hc (Ev.eq_ (ih (p.length, (addL b w).take (p.length + 1)) ⟨?_, by simp⟩) rfl)
        simp only [List.length_append, List.length_cons, List.length_nil, Nat.zero_add, bu]
        rw [if_pos hc]
      · refine Ev.neg hc (Ev.eq_ (ih (bu (addL b w) p.length, (addL b w).take (p.length + 1)) ⟨?_, by simp⟩) rfl)
        simp only [List.length_append, List.length_cons, List.length_nil, Nat.zero_add, bu]
        rw [if_neg hc]
theorem specNext_eq (w b : List Int) (hw : w.length ≤ 1048576) (hb : b.length ≤ 1048576) : Ev (fun k => spec_NextTurn.f k w b) (nextT w b) := by
  unfold spec_NextTurn.f nextT
  refine Ev.bind' _ (specGT_eq w b hw hb) ?_
  cases hg : goodT w b with
  | false => exact Ev.ite_false (Ev.const (by simp))
  | true =>
    obtain ⟨g1, g2, g3, g4⟩ := goodT_out hg
    refine Ev.ite_true (Ev.bind' _ (specL12_eq w b g1 g2 g3) (Ev.bind' _ (specGT_eq w (nextL w b).1 hw (by rw [nextL_len w b g2]; exact hw)) ?_))
    cases goodT w (nextL w b).1 with
    | true => exact Ev.const (by simp)
    | false => exact Ev.const (by simp)
theorem nextT_len (w b : List Int) (hw : w.length ≤ 1048576) : (nextT w b).1.length ≤ 1048576 ∧ (nextT w b).2.1.length ≤ 1048576 := by
  unfold nextT
  split
  · rename_i hg
    obtain ⟨g1, g2, g3, g4⟩ := goodT_out hg
    split
    · exact ⟨hw, by rw [nextL_len w b g2]; exact hw⟩
    · exact ⟨by simp, by simp⟩
  · exact ⟨by simp, by simp⟩
end Go.Proofs.Ytioeomjjfajldaa.PL
end
section
/- slices.IndexFunc and ContainsFunc at one function value: the first place at which it answers yes. Written by gen_idx.py. -/
set_option linter.unusedVariables false
set_option linter.unusedSimpArgs false
namespace Go.Proofs.Ytioeomjjfajldaa.PL
open Go.RowKit Go.Proofs.Ytioeomjjfajldaa.Pp Go.Proofs.Ytioeomjjfajldaa.PB Go.Proofs.YtioeomjjfajldaaW.PrintWords Go.Proofs.YtioeomjjfajldaaW.PrintLast
theorem slices_IndexFunc_int_int_aliasOf_1.idx (l0 : List Int) (a1_0 : Int) (q : Int → Bool) (hl : l0.length ≤ 1048576) (h : ∀ x ∈ l0, Ev (fun k => impl_aliasOf_1.f x a1_0) (q x)) : Ev (fun k => slices_IndexFunc_int_int_aliasOf_1.f k l0 a1_0) (idxP q l0) := by
  unfold slices_IndexFunc_int_int_aliasOf_1.f
  refine Ev.eq_ (loop_list l0 (fun k (_ : Nat) i => slices_IndexFunc_int_int_aliasOf_1.l0 k l0 (l0.length : Int) i a1_0) (fun n t => if 0 ≤ idxP q t then (n : Int) + idxP q t else -1) (fun p n => n = p.length) ?_ ?_ 0 rfl) ?_
  · intro n hn
    apply Ev.succ
    simp only [slices_IndexFunc_int_int_aliasOf_1.l0]
    exact Ev.neg (by omega) (Ev.const (by simp [idxP]))
  · intro p x t n e hn ih
    have hm := len_mid e
    have hx := h x (mem_mid e)
    apply Ev.succ
    simp only [slices_IndexFunc_int_int_aliasOf_1.l0, rd_mid' e]
    refine Ev.pos hm.1 (Ev.pos (by omega) (Ev.pos hm.1 (Ev.bind' _ hx ?_)))
    have hq : idxP q (x :: t) = (if q x then 0 else if 0 ≤ idxP q t then idxP q t + 1 else -1) := rfl
    rw [hq]
    cases q x with
    | true => exact Ev.ite_true (Ev.const (by simp [hn]))
    | false =>
      refine Ev.ite_false ?_
      rw [w64 (by omega) (by omega)]
      refine Ev.eq_ (ih (n + 1) (by simp [hn])) ?_
      by_cases h2 : 0 ≤ idxP q t
      · simp [h2]; omega
      · simp [h2]
  · by_cases h2 : 0 ≤ idxP q l0
    · simp [h2]
    · rw [if_neg h2]
      exact (idxP_neg q l0 h2).symm
end Go.Proofs.Ytioeomjjfajldaa.PL
end
section
/- AliasOf: the program's columns are the reference's. -/
set_option linter.unusedVariables false
set_option linter.unusedSimpArgs false
namespace Go.Proofs.Ytioeomjjfajldaa.PL
open Go.RowKit Go.Proofs.Ytioeomjjfajldaa.Pp Go.Proofs.Ytioeomjjfajldaa.PB Go.Proofs.YtioeomjjfajldaaW.PrintWords Go.Proofs.YtioeomjjfajldaaW.PrintLast
section
variable {α : Type}
theorem idxP_snoc (p : α → Bool) (x : α) : ∀ a : List α, idxP p (a ++ [x]) = if 0 ≤ idxP p a then idxP p a else if p x = true then (a.length : Int) else -1
  | [] => by
    rw [show ([] : List α) ++ [x] = [x] from rfl, show idxP p [x] = (if p x then 0 else if 0 ≤ (-1 : Int) then (-1 : Int) + 1 else -1) from rfl, show idxP p ([] : List α) = -1 from rfl]
    split <;> simp
  | y :: a => by
    have ih := idxP_snoc p x a
    rw [List.cons_append, show idxP p (y :: (a ++ [x])) = (if p y then 0 else if 0 ≤ idxP p (a ++ [x]) then idxP p (a ++ [x]) + 1 else -1) from rfl, show idxP p (y :: a) = (if p y then 0 else if 0 ≤ idxP p a then idxP p a + 1 else -1) from rfl, ih, List.length_cons]
    by_cases h1 : p y = true
    · simp [h1]
    · rw [if_neg h1, if_neg h1]
      by_cases h2 : 0 ≤ idxP p a
      · simp only [if_pos h2]
        rw [if_pos (by omega)]
      · simp only [if_neg h2]
        by_cases h3 : p x = true
        · simp only [if_pos h3]
          rw [if_pos (by omega), if_neg (by omega)]
          omega
        · simp only [if_neg h3]
          simp
theorem idxP_spec (p : α → Bool) : ∀ z : List α, 0 ≤ idxP p z → ∃ x, z[(idxP p z).toNat]? = some x ∧ p x = true
  | [], h => by simp [idxP] at h
  | y :: z, h => by
    have e : idxP p (y :: z) = (if p y then 0 else if 0 ≤ idxP p z then idxP p z + 1 else -1) := rfl
    rw [e] at h ⊢
    by_cases h1 : p y = true
    · rw [if_pos h1]
      exact ⟨y, rfl, h1⟩
    · rw [if_neg h1] at h ⊢
      by_cases h2 : 0 ≤ idxP p z
      · rw [if_pos h2]
        obtain ⟨x, hx, hp⟩ := idxP_spec p z h2
        refine ⟨x, ?_, hp⟩
        rw [show (idxP p z + 1).toNat = (idxP p z).toNat + 1 from by omega, List.getElem?_cons_succ]
        exact hx
      · rw [if_neg h2] at h
        omega
theorem idxP_front (p : α → Bool) : ∀ (t a : List α), 0 ≤ idxP p a → idxP p (a ++ t) = idxP p a
  | [], a, h => by rw [List.append_nil]
  | y :: t, a, h => by
    have e := idxP_snoc p y a
    rw [if_pos h] at e
    rw [show a ++ y :: t = (a ++ [y]) ++ t from by simp, idxP_front p t (a ++ [y]) (by omega), e]
theorem set_same (l : List α) (i : Nat) (x : α) (h : l[i]? = some x) : l.set i x = l := by
  obtain ⟨hi, rfl⟩ := List.getElem?_eq_some_iff.1 h
  exact List.set_getElem_self hi
end
def pL (T : Int) (q : Int × Bool) : Bool := !q.2 && decide (q.1 < T)
def pG (T : Int) (q : Int × Bool) : Bool := !q.2 && decide (q.1 > T)
def tm (T : Int) (q : Int × Bool) : Int := if q.2 then 0 else q.1 - T
def und (T : Int) (z : List (Int × Bool)) : Int := (z.map (tm T)).sum
def cu (z : List (Int × Bool)) : Nat := z.countP (fun q => !q.2)
theorem und_set (T : Int) (z : List (Int × Bool)) (i : Nat) (q x : Int × Bool) (h : z[i]? = some x) : und T (z.set i q) = und T z - tm T x + tm T q := by
  induction z generalizing i with
  | nil => simp at h
  | cons y t ih =>
    cases i with
    | zero =>
      obtain rfl : y = x := by simpa using h
      simp only [und, List.set_cons_zero, List.map_cons, List.sum_cons]
      omega
    | succ i =>
      have := ih i (by simpa using h)
      simp only [und] at this
      simp only [und, List.set_cons_succ, List.map_cons, List.sum_cons, this]
      omega
theorem cu_set (z : List (Int × Bool)) (i : Nat) (v : Int) (x : Int × Bool) (h : z[i]? = some x) (hx : x.2 = false) : cu (z.set i (v, true)) + 1 = cu z := by
  induction z generalizing i with
  | nil => simp at h
  | cons y t ih =>
    cases i with
    | zero =>
      obtain rfl : y = x := by simpa using h
      simp [cu, hx]
    | succ i =>
      have := ih i (by simpa using h)
      simp only [cu] at this
      simp only [cu, List.set_cons_succ, List.countP_cons]
      omega
theorem cu_keep (z : List (Int × Bool)) (i : Nat) (v : Int) (x : Int × Bool) (h : z[i]? = some x) (hx : x.2 = false) : cu (z.set i (v, false)) = cu z := by
  induction z generalizing i with
  | nil => simp at h
  | cons y t ih =>
    cases i with
    | zero =>
      obtain rfl : y = x := by simpa using h
      simp [cu, hx]
    | succ i =>
      have := ih i (by simpa using h)
      simp only [cu] at this
      simp only [cu, List.set_cons_succ, List.countP_cons]
      omega
theorem und_neg (T : Int) (z : List (Int × Bool)) (h : z.any (pG T) = false) : und T z ≤ 0 ∧ (z.any (pL T) = true → und T z < 0) := by
  induction z with
  | nil => simp [und]
  | cons x t ih =>
    simp only [List.any_cons, Bool.or_eq_false_iff] at h
    obtain ⟨i1, i2⟩ := ih h.2
    have hx := h.1
    simp only [und] at i1 i2
    simp only [und, List.map_cons, List.sum_cons, List.any_cons, Bool.or_eq_true]
    obtain ⟨v, d⟩ := x
    cases d with
    | true =>
      simp only [tm, pL, if_true, Bool.not_true, Bool.false_and, Bool.false_eq_true, false_or]
      exact ⟨by omega, fun h => by have := i2 h; omega⟩
    | false =>
      simp only [pG, Bool.not_false, Bool.true_and, decide_eq_false_iff_not] at hx
      simp only [tm, pL, Bool.not_false, Bool.true_and, decide_eq_true_eq, Bool.false_eq_true, if_false]
      refine ⟨by omega, fun h => ?_⟩
      rcases h with h | h
      · omega
      · have := i2 h
        omega
theorem lo_hi (T : Int) (z : List (Int × Bool)) (h0 : und T z = 0) (h : 0 ≤ idxP (pL T) z) : 0 ≤ idxP (pG T) z := by
  rw [idxP_iff] at h ⊢
  cases hb : z.any (pG T) with
  | true => rfl
  | false =>
    have := (und_neg T z hb).2 h
    omega
/-- What holds of what is left, all the way. -/
def invZ (T : Int) (z : List (Int × Bool)) : Prop := (∀ q ∈ z, 0 ≤ q.1 ∧ q.1 ≤ 600 ∧ (q.2 = true → q.1 < T)) ∧ und T z = 0
/-- One round: the low one is done, the high one gives it what lacks. -/
def nz (T : Int) (z : List (Int × Bool)) (lo hi : Nat) : List (Int × Bool) := (z.set hi ((z.getD hi (0, false)).1 - (T - (z.getD lo (0, false)).1), false)).set lo ((z.getD lo (0, false)).1, true)
def alA (T : Int) : Nat → List (Int × Bool) → List S_Column → List S_Column
  | 0, _, out => out
  | m + 1, z, out => if idxP (pL T) z < 0 then out else alA T m (nz T z (idxP (pL T) z).toNat (idxP (pG T) z).toNat) (out.set (idxP (pL T) z).toNat ⟨(z.getD (idxP (pL T) z).toNat (0, false)).1, idxP (pG T) z⟩)
theorem getD_of {z : List (Int × Bool)} {i : Nat} {x d : Int × Bool} (h : z[i]? = some x) : z.getD i d = x := by
  rw [List.getD_eq_getElem?_getD, h]
  rfl
/-- All that a round needs and leaves. -/
theorem round (T : Int) (z : List (Int × Bool)) (hT : T ≤ 600) (h : invZ T z) (h0 : 0 ≤ idxP (pL T) z) :
    ∃ a b : Int, z[(idxP (pL T) z).toNat]? = some (a, false) ∧ z[(idxP (pG T) z).toNat]? = some (b, false) ∧ 0 ≤ idxP (pG T) z ∧ 0 ≤ a ∧ a < T ∧ T < b ∧ b ≤ 600 ∧ (idxP (pL T) z).toNat ≠ (idxP (pG T) z).toNat ∧
      invZ T (nz T z (idxP (pL T) z).toNat (idxP (pG T) z).toNat) ∧ cu (nz T z (idxP (pL T) z).toNat (idxP (pG T) z).toNat) + 1 = cu z ∧
      (nz T z (idxP (pL T) z).toNat (idxP (pG T) z).toNat).map (·.1) = (z.map (·.1)).set (idxP (pG T) z).toNat (b - (T - a)) ∧ (nz T z (idxP (pL T) z).toNat (idxP (pG T) z).toNat).map (·.2) = (z.map (·.2)).set (idxP (pL T) z).toNat true := by
  have h1 := lo_hi T z h.2 h0
  obtain ⟨⟨a, d⟩, ha, pa⟩ := idxP_spec (pL T) z h0
  obtain ⟨⟨b, c⟩, hb, pb⟩ := idxP_spec (pG T) z h1
  simp only [pL, Bool.and_eq_true, Bool.not_eq_true', decide_eq_true_eq] at pa
  simp only [pG, Bool.and_eq_true, Bool.not_eq_true', decide_eq_true_eq] at pb
  obtain ⟨rfl, pa⟩ := pa
  obtain ⟨rfl, pb⟩ := pb
  have ma := h.1 _ (List.mem_of_getElem? ha)
  have mb := h.1 _ (List.mem_of_getElem? hb)
  simp only at ma mb
  have hne : (idxP (pL T) z).toNat ≠ (idxP (pG T) z).toNat := fun e => by
    rw [e, hb] at ha
    simp only [Option.some.injEq, Prod.mk.injEq, and_true] at ha
    omega
  generalize (idxP (pL T) z).toNat = lo at ha hne ⊢
  generalize (idxP (pG T) z).toNat = hi at hb hne ⊢
  have ha2 : (z.set hi (b - (T - a), false))[lo]? = some (a, false) := by
    rw [List.getElem?_set_ne (fun e => hne e.symm)]
    exact ha
  have enz : nz T z lo hi = (z.set hi (b - (T - a), false)).set lo (a, true) := by
    unfold nz
    rw [getD_of ha, getD_of hb]
  have hhi := (List.getElem?_eq_some_iff.1 hb).1
  have hlo := (List.getElem?_eq_some_iff.1 ha).1
  refine ⟨a, b, ha, hb, h1, ma.1, pa, pb, mb.2.1, hne, ⟨fun q hq => ?_, ?_⟩, ?_, ?_, ?_⟩
  · rw [enz] at hq
    rcases List.mem_or_eq_of_mem_set hq with hq | rfl
    · rcases List.mem_or_eq_of_mem_set hq with hq | rfl
      · exact h.1 q hq
      · exact ⟨by simp only; omega, by simp only; omega, fun h => by cases h⟩
    · exact ⟨ma.1, ma.2.1, fun _ => pa⟩
  · rw [enz, und_set T _ lo _ _ ha2, und_set T _ hi _ _ hb, h.2]
    simp only [tm, Bool.false_eq_true, if_false, if_true]
    omega
  · rw [enz, cu_set _ lo _ _ ha2 rfl, cu_keep _ hi _ _ hb rfl]
  · rw [enz, List.map_set, List.map_set]
    refine set_same _ _ _ ?_
    rw [List.getElem?_set_ne (fun e => hne e.symm), List.getElem?_map, ha]
    rfl
  · rw [enz, List.map_set, List.map_set]
    rw [set_same (z.map (·.2)) hi false (by rw [List.getElem?_map, hb]; rfl)]
theorem idx_fst (T : Int) (z : List (Int × Bool)) (h : ∀ q ∈ z, q.2 = true → q.1 < T) : idxP (fun v => decide (v > T)) (z.map (·.1)) = idxP (pG T) z := by
  induction z with
  | nil => rfl
  | cons x t ih =>
    have i1 := ih (fun q hq => h q (by simp [hq]))
    rw [List.map_cons, show idxP (fun v => decide (v > T)) (x.1 :: t.map (·.1)) = (if decide (x.1 > T) = true then 0 else if 0 ≤ idxP (fun v => decide (v > T)) (t.map (·.1)) then idxP (fun v => decide (v > T)) (t.map (·.1)) + 1 else -1) from rfl, show idxP (pG T) (x :: t) = (if pG T x then 0 else if 0 ≤ idxP (pG T) t then idxP (pG T) t + 1 else -1) from rfl, i1]
    have hx := h x (by simp)
    obtain ⟨v, d⟩ := x
    cases d with
    | true =>
      have := hx rfl
      simp only at this
      have h2 : decide (v > T) = false := decide_eq_false (by omega)
      simp [pG, h2]
    | false => simp [pG]
theorem mem_cu {z : List (Int × Bool)} {q : Int × Bool} (h : q ∈ z) (hq : q.2 = false) : 0 < cu z := List.countP_pos_iff.2 ⟨q, h, by simp [hq]⟩
theorem pL_none {T : Int} {z : List (Int × Bool)} (h : cu z = 0) : idxP (pL T) z < 0 := by
  rcases Int.lt_or_le (idxP (pL T) z) 0 with h2 | h2
  · exact h2
  · obtain ⟨x, hx, hp⟩ := idxP_spec (pL T) z h2
    simp only [pL, Bool.and_eq_true, Bool.not_eq_true'] at hp
    have := mem_cu (List.mem_of_getElem? hx) hp.1
    omega
theorem getD_fst {z : List (Int × Bool)} {i : Nat} {x : Int × Bool} (h : z[i]? = some x) : rd (z.map (·.1)) (i : Int) = x.1 := by
  rw [rdn, List.getD_eq_getElem?_getD, List.getElem?_map, h]
  rfl
theorem alA_len (T : Int) : ∀ (m : Nat) (z : List (Int × Bool)) (out : List S_Column), (alA T m z out).length = out.length
  | 0, _, _ => rfl
  | m + 1, z, out => by
    rw [alA]
    split
    · rfl
    · rw [alA_len T m, List.length_set]
theorem implAl (T : Int) (hT : T ≤ 600) (hT0 : 1 ≤ T) : ∀ (m : Nat) (z : List (Int × Bool)) (out : List S_Column), cu z = m → invZ T z → z.length ≤ 12 → out.length = z.length → Ev (fun k => impl_aliasOf.l1 k (z.map (·.1)) out (z.map (·.2)) T) (alA T m z out) := by
  intro m
  induction m with
  | zero =>
    intro z out hm hz hl ho
    have hn := pL_none (T := T) hm
    refine Ev.succ ?_
    simp only [impl_aliasOf.l1, List.length_map]
    refine Ev.eq_ (loop_list z (fun k (_ : Unit) i => impl_aliasOf.l2 k (z.map (·.1)) out (z.map (·.2)) (-1) (z.map (·.1)) (z.length : Int) i T) (fun _ _ => out) (fun _ _ => True) ?_ ?_ () trivial) rfl
    · intro _ _
      refine Ev.succ ?_
      simp only [impl_aliasOf.l2, List.length_map]
      exact Ev.neg (by omega) (Ev.pos (by omega) (Ev.const rfl))
    · intro p x t _ e _ ih
      have hmid := len_mid e
      have hd : rdOf false (z.map (·.2)) (p.length : Int) = x.2 := by
        have := rdOf_mid (d := false) (l := z.map (·.2)) (p := p.map (·.2)) (x := x.2) (t := t.map (·.2)) (by rw [e]; simp)
        simpa using this
      have hx2 : x.2 = true := by
        cases h : x.2 with
        | true => rfl
        | false => have := mem_cu (mem_mid e) h; omega
      refine Ev.succ ?_
      simp only [impl_aliasOf.l2, List.length_map]
      refine Ev.pos hmid.1 (Ev.pos (by omega) (Ev.pos hmid.1 (Ev.pos hmid.1 (Ev.pos (by rw [hd, hx2]) ?_))))
      rw [w64 (by omega) (by omega)]
      exact ih () trivial
  | succ m ihm =>
    intro z out hm hz hl ho
    refine Ev.succ ?_
    simp only [impl_aliasOf.l1, List.length_map]
    refine Ev.eq_ (loop_list z (fun k (_ : Unit) i => impl_aliasOf.l2 k (z.map (·.1)) out (z.map (·.2)) (-1) (z.map (·.1)) (z.length : Int) i T) (fun _ _ => alA T (m + 1) z out) (fun p _ => idxP (pL T) p < 0) ?_ ?_ () (show (-1 : Int) < 0 by omega)) rfl
    · intro _ hp
      refine Ev.succ ?_
      simp only [impl_aliasOf.l2, List.length_map]
      refine Ev.neg (by omega) (Ev.pos (by omega) (Ev.const ?_))
      rw [alA, if_pos hp]
    · intro p x t _ e hp ih
      have hmid := len_mid e
      have hd : rdOf false (z.map (·.2)) (p.length : Int) = x.2 := by
        have := rdOf_mid (d := false) (l := z.map (·.2)) (p := p.map (·.2)) (x := x.2) (t := t.map (·.2)) (by rw [e]; simp)
        simpa using this
      have hgx : z[p.length]? = some x := by rw [e]; simp
      have hr := getD_fst hgx
      have hsn := idxP_snoc (pL T) x p
      rw [if_neg (by omega)] at hsn
      refine Ev.succ ?_
      simp only [impl_aliasOf.l2, List.length_map]
      refine Ev.pos hmid.1 (Ev.pos (by omega) (Ev.pos hmid.1 (Ev.pos hmid.1 ?_)))
      rw [hd, hr, w64 (i := (p.length : Int) + 1) (by omega) (by omega)]
      obtain ⟨v, d⟩ := x
      cases d with
      | true =>
        refine Ev.pos rfl (ih () ?_)
        rw [hsn, if_neg (by simp [pL])]
        omega
      | false =>
        refine Ev.neg (by simp) ?_
        by_cases hv : v < T
        · have hlo : idxP (pL T) z = (p.length : Int) := by
            rw [if_pos (by simp [pL, hv])] at hsn
            rw [e, show p ++ (v, false) :: t = (p ++ [(v, false)]) ++ t from by simp, idxP_front _ t _ (by omega)]
            exact hsn
          obtain ⟨a, b, ha, hb, h1, a0, a1, b0, b1, hne, hinv, hcu, hleft, hdone⟩ := round T z hT hz (by omega)
          rw [hlo, Int.toNat_natCast] at ha hne hinv hcu hleft hdone
          have hav : a = v := by rw [hgx] at ha; simpa using ha.symm
          subst hav
          have hbl := (List.getElem?_eq_some_iff.1 hb).1
          have hbi : idxP (pG T) z = (((idxP (pG T) z).toNat : Nat) : Int) := by omega
          have hrb := getD_fst hb
          rw [← hbi] at hrb
          refine Ev.pos hv (Ev.neg (by omega) (Ev.bind' (idxP (pG T) z) ?_ (Ev.pos hmid.1 (Ev.pos (by omega) (Ev.pos h1 (Ev.pos (by omega) ?_))))))
          · refine Ev.eq_ (slices_IndexFunc_int_int_aliasOf_1.idx (z.map (·.1)) T (fun v => decide (v > T)) (by simp; omega) (fun x _ => Ev.const rfl)) ?_
            exact idx_fst T z (fun q hq => (hz.1 q hq).2.2)
          · rw [hrb, w64 (i := T - a) (by omega) (by omega), w64 (by omega) (by omega), Int.toNat_natCast, ← hleft, ← hdone]
            refine Ev.eq_ (ihm _ (out.set p.length ⟨a, idxP (pG T) z⟩) (by omega) hinv (by rw [nz, List.length_set, List.length_set]; exact hl) (by rw [nz, List.length_set, List.length_set, List.length_set]; exact ho)) ?_
            rw [alA, if_neg (by omega), hlo, Int.toNat_natCast, getD_of hgx]
        · refine Ev.neg hv (ih () ?_)
          rw [hsn, if_neg (by simp [pL, hv])]
          omega
theorem alA_stop {T : Int} {z : List (Int × Bool)} (out : List S_Column) (h : idxP (pL T) z < 0) : ∀ m, alA T m z out = out
  | 0 => rfl
  | m + 1 => by rw [alA, if_pos h]
theorem specAlRound (T : Int) (hT : T ≤ 600) (hT0 : 1 ≤ T) (z : List (Int × Bool)) (out : List S_Column) (hz : invZ T z) (hl : z.length ≤ 12) (ho : out.length = z.length)
    (next : ∀ (z' : List (Int × Bool)) (out' : List S_Column), cu z' < cu z → invZ T z' → z'.length ≤ 12 → out'.length = z'.length → Ev (fun k => spec_AliasOf.l1 k T (z'.map (·.1)) (z'.map (·.2)) out') (alA T (cu z') z' out', true)) :
    Ev (fun k => spec_AliasOf.l1 k T (z.map (·.1)) (z.map (·.2)) out) (alA T (cu z) z out, true) := by
  refine Ev.succ ?_
  simp only [spec_AliasOf.l1, List.length_map]
  refine Ev.eq_ (loop_list z (fun k (s : Int × Int) i => spec_AliasOf.l2 k T (z.map (·.1)) (z.map (·.2)) out s.1 s.2 (z.length : Int) i) (fun _ _ => (alA T (cu z) z out, true)) (fun p s => s.1 = idxP (pL T) p ∧ s.2 = idxP (pG T) p) ?_ ?_ (-1, -1) ⟨rfl, rfl⟩) rfl
  · rintro ⟨s1, s2⟩ ⟨h1, h2⟩
    simp only at h1 h2
    subst h1 h2
    refine Ev.succ ?_
    simp only [spec_AliasOf.l2, List.length_map]
    refine Ev.neg (by omega) ?_
    by_cases h0 : idxP (pL T) z < 0
    · refine Ev.pos h0 (Ev.const ?_)
      rw [alA_stop out h0]
    · obtain ⟨a, b, ha, hb, h1, a0, a1, b0, b1, hne, hinv, hcu, hleft, hdone⟩ := round T z hT hz (by omega)
      have hal := (List.getElem?_eq_some_iff.1 ha).1
      have hbl := (List.getElem?_eq_some_iff.1 hb).1
      have hai : idxP (pL T) z = (((idxP (pL T) z).toNat : Nat) : Int) := by omega
      have hbi : idxP (pG T) z = (((idxP (pG T) z).toNat : Nat) : Int) := by omega
      have hra := getD_fst ha
      have hrb := getD_fst hb
      rw [← hai] at hra
      rw [← hbi] at hrb
      refine Ev.neg h0 (Ev.neg (by omega) (Ev.pos (by omega) (Ev.pos (by omega) (Ev.pos (by omega) (Ev.pos h1 (Ev.pos (by omega) (Ev.pos (by omega) ?_)))))))
      rw [hra, hrb, w64 (i := T - a) (by omega) (by omega), w64 (by omega) (by omega), ← hleft, ← hdone]
      refine Ev.eq_ (next _ (out.set (idxP (pL T) z).toNat ⟨a, idxP (pG T) z⟩) (by omega) hinv (by rw [nz, List.length_set, List.length_set]; exact hl) (by rw [nz, List.length_set, List.length_set, List.length_set]; exact ho)) ?_
      rw [← hcu, alA, if_neg h0, getD_of ha]
  · rintro p x t ⟨s1, s2⟩ e ⟨h1, h2⟩ ih
    simp only at h1 h2
    subst h1 h2
    have hmid := len_mid e
    have hd : rdOf false (z.map (·.2)) (p.length : Int) = x.2 := by
      have := rdOf_mid (d := false) (l := z.map (·.2)) (p := p.map (·.2)) (x := x.2) (t := t.map (·.2)) (by rw [e]; simp)
      simpa using this
    have hgx : z[p.length]? = some x := by rw [e]; simp
    have hr := getD_fst hgx
    have hsn := idxP_snoc (pL T) x p
    have hsg := idxP_snoc (pG T) x p
    have hgl := idxP_neg (pL T) p
    have hgg := idxP_neg (pG T) p
    refine Ev.succ ?_
    simp only [spec_AliasOf.l2, List.length_map]
    refine Ev.pos hmid.1 (Ev.pos (by omega) (Ev.pos hmid.1 ?_))
    rw [hd, hr, w64 (i := (p.length : Int) + 1) (by omega) (by omega)]
    obtain ⟨v, d⟩ := x
    cases d with
    | true =>
      refine Ev.pos rfl (ih (idxP (pL T) p, idxP (pG T) p) ⟨?_, ?_⟩)
      · rw [hsn, if_neg (c := pL T (v, true) = true) (by simp [pL])]
        split
        · rfl
        · rename_i h; exact hgl h
      · rw [hsg, if_neg (c := pG T (v, true) = true) (by simp [pG])]
        split
        · rfl
        · rename_i h; exact hgg h
    | false =>
      refine Ev.neg (by simp) (Ev.pos hmid.1 ?_)
      by_cases hv : v < T
      · refine Ev.pos hv (Ev.succ ?_)
        simp only [spec_AliasOf.j3, List.length_map]
        have g2 : idxP (pG T) p = idxP (pG T) (p ++ [(v, false)]) := by
          rw [hsg, if_neg (c := pG T (v, false) = true) (by simp [pG]; omega)]
          split
          · rfl
          · rename_i h; exact hgg h
        rw [hr, w64 (i := (p.length : Int) + 1) (by omega) (by omega)]
        by_cases h0 : idxP (pL T) p < 0
        · refine Ev.pos (by simp [h0]) (Ev.pos (by omega) (Ev.pos hmid.1 (Ev.neg (by simp only; omega) (ih ((p.length : Int), idxP (pG T) p) ⟨?_, g2⟩))))
          rw [hsn, if_neg (by omega), if_pos (by simp [pL, hv])]
        · refine Ev.neg (by simp [h0]) (Ev.pos (by omega) (Ev.pos hmid.1 (Ev.neg (by simp only; omega) (ih (idxP (pL T) p, idxP (pG T) p) ⟨?_, g2⟩))))
          rw [hsn, if_pos (by omega)]
      · refine Ev.neg hv (Ev.succ ?_)
        simp only [spec_AliasOf.j3, List.length_map]
        have g1 : idxP (pL T) p = idxP (pL T) (p ++ [(v, false)]) := by
          rw [hsn, if_neg (c := pL T (v, false) = true) (by simp [pL, hv])]
          split
          · rfl
          · rename_i h; exact hgl h
        rw [hr, w64 (i := (p.length : Int) + 1) (by omega) (by omega)]
        refine Ev.neg (by simp) (Ev.pos (by omega) (Ev.pos hmid.1 ?_))
        by_cases hg : v > T
        · refine Ev.pos hg ?_
          by_cases h0 : idxP (pG T) p < 0
          · refine Ev.pos h0 (ih (idxP (pL T) p, (p.length : Int)) ⟨g1, ?_⟩)
            rw [hsg, if_neg (by omega), if_pos (by simp [pG, hg])]
          · refine Ev.neg h0 (ih (idxP (pL T) p, idxP (pG T) p) ⟨g1, ?_⟩)
            rw [hsg, if_pos (by omega)]
        · refine Ev.neg hg (ih (idxP (pL T) p, idxP (pG T) p) ⟨g1, ?_⟩)
          rw [hsg, if_neg (c := pG T (v, false) = true) (by simp [pG, hg])]
          split
          · rfl
          · rename_i h; exact hgg h
theorem specAl (T : Int) (hT : T ≤ 600) (hT0 : 1 ≤ T) : ∀ (m : Nat) (z : List (Int × Bool)) (out : List S_Column), cu z ≤ m → invZ T z → z.length ≤ 12 → out.length = z.length → Ev (fun k => spec_AliasOf.l1 k T (z.map (·.1)) (z.map (·.2)) out) (alA T (cu z) z out, true) := by
  intro m
  induction m with
  | zero =>
    intro z out hm hz hl ho
    exact specAlRound T hT hT0 z out hz hl ho (fun z' out' hc _ _ _ => by omega)
  | succ m ihm =>
    intro z out hm hz hl ho
    exact specAlRound T hT hT0 z out hz hl ho (fun z' out' hc hi hl' ho' => ihm z' out' (by omega) hi hl' ho')
def cini (T : Int) : Nat → List S_Column
  | 0 => []
  | n + 1 => cini T n ++ [⟨T, (n : Int)⟩]
theorem cini_len (T : Int) : ∀ n, (cini T n).length = n
  | 0 => rfl
  | n + 1 => by rw [cini, List.length_append, cini_len T n]; rfl
def z0 (l : List Int) : List (Int × Bool) := l.map fun x => (x * (l.length : Int), false)
theorem z0_fst (l : List Int) : (z0 l).map (·.1) = l.map fun x => x * (l.length : Int) := by rw [z0, List.map_map]; rfl
theorem z0_snd (l : List Int) : (z0 l).map (·.2) = List.replicate l.length false := by
  rw [z0, List.map_map]
  exact List.map_const'
theorem und_mul (T c : Int) (l : List Int) : und T (l.map fun x => (x * c, false)) = c * l.sum - T * (l.length : Int) := by
  induction l with
  | nil => simp [und]
  | cons x t ih =>
    simp only [und, List.map_cons, List.sum_cons, tm, Bool.false_eq_true, if_false, List.length_cons] at ih ⊢
    rw [ih, Int.mul_add, show ((t.length + 1 : Nat) : Int) = (t.length : Int) + 1 from by omega, Int.mul_add, Int.mul_one, Int.mul_comm c x]
    omega
theorem invZ0 {l : List Int} (h : goodW l = true) : invZ l.sum (z0 l) ∧ cu (z0 l) = l.length := by
  obtain ⟨k1, k2, k3, k4, k5⟩ := goodW_out h
  refine ⟨⟨fun q hq => ?_, ?_⟩, ?_⟩
  · obtain ⟨x, hx, rfl⟩ := List.mem_map.1 hq
    have hb := k3 x hx
    have h1 : 0 ≤ x * (l.length : Int) := Int.mul_nonneg hb.1 (by omega)
    have h2 : x * (l.length : Int) ≤ 50 * 12 := Int.mul_le_mul hb.2 (by omega) (by omega) (by omega)
    exact ⟨h1, by simp only; omega, fun h => by cases h⟩
  · rw [z0, und_mul, Int.mul_comm]
    omega
  · rw [cu, z0, List.countP_map]
    exact List.countP_eq_length.2 (fun x _ => rfl)
def aliasA (l : List Int) : List S_Column × Bool := if goodW l = true then (alA l.sum l.length (z0 l) (cini l.sum l.length), true) else ([], false)
theorem aliasA_len (l : List Int) : (aliasA l).1.length ≤ l.length := by
  unfold aliasA
  split
  · rw [alA_len, cini_len]; exact Nat.le_refl _
  · simp
theorem implAlias_eq (l : List Int) (hl : l.length ≤ 1048576) : Ev (fun k => impl_AliasOf.f k l) (aliasA l) := by
  unfold impl_AliasOf.f aliasA
  refine Ev.bind' _ (implGW_eq l hl) ?_
  cases hg : goodW l with
  | false => exact Ev.ite_false (Ev.const (by simp))
  | true =>
    obtain ⟨k1, k2, k3, k4, k5⟩ := goodW_out hg
    obtain ⟨i1, i2⟩ := invZ0 hg
    refine Ev.ite_true (Ev.bind' (alA l.sum l.length (z0 l) (cini l.sum l.length)) ?_ (Ev.const (by simp)))
    unfold impl_aliasOf.f
    refine Ev.bind' _ (total_eq 0 50 l (by omega) (by omega) (by omega) (by omega) hl (List.all_eq_true.2 (fun v hv => by simpa [inR] using k3 v hv))) ?_
    refine Ev.eq_ (loop_list l (fun k (s : List Int × List S_Column) i => impl_aliasOf.l0 k l s.1 s.2 l (l.length : Int) i l.sum) (fun _ _ => alA l.sum l.length (z0 l) (cini l.sum l.length)) (fun p s => s.1 = p.map (fun x => x * (l.length : Int)) ∧ s.2 = cini l.sum p.length) ?_ ?_ ([], []) ⟨rfl, rfl⟩) rfl
    · rintro ⟨s1, s2⟩ ⟨h1, h2⟩
      simp only at h1 h2
      subst h1 h2
      refine Ev.succ ?_
      simp only [impl_aliasOf.l0]
      refine Ev.neg (by omega) (Ev.pos (by omega) (Ev.pos (by omega) ?_))
      rw [Int.toNat_natCast, ← z0_fst, ← z0_snd]
      exact implAl l.sum k5 (by omega) l.length (z0 l) (cini l.sum l.length) i2 i1 (by simp [z0]; omega) (by rw [cini_len]; simp [z0])
    · rintro p x t ⟨s1, s2⟩ e ⟨h1, h2⟩ ih
      simp only at h1 h2
      subst h1 h2
      have hm := len_mid e
      have hb := k3 x (mem_mid e)
      have h1 : 0 ≤ x * (l.length : Int) := Int.mul_nonneg hb.1 (by omega)
      have h2 : x * (l.length : Int) ≤ 50 * 12 := Int.mul_le_mul hb.2 (by omega) (by omega) (by omega)
      refine Ev.succ ?_
      simp only [impl_aliasOf.l0, rd_mid' e]
      refine Ev.pos hm.1 (Ev.pos (by omega) (Ev.pos hm.1 (Ev.pos (by rw [List.length_map]; omega) (Ev.pos (by rw [cini_len]; omega) ?_))))
      rw [w64 (i := x * (l.length : Int)) (by omega) (by omega), w64 (by omega) (by omega)]
      exact ih (p.map (fun x => x * (l.length : Int)) ++ [x * (l.length : Int)], cini l.sum p.length ++ [⟨l.sum, (p.length : Int)⟩]) ⟨by simp, by simp [cini]⟩
theorem specAlias_eq (l : List Int) (hl : l.length ≤ 1048576) : Ev (fun k => spec_AliasOf.f k l) (aliasA l) := by
  unfold spec_AliasOf.f aliasA
  refine Ev.bind' _ (specGW_eq l hl) ?_
  cases hg : goodW l with
  | false => exact Ev.ite_false (Ev.const (by simp))
  | true =>
    obtain ⟨k1, k2, k3, k4, k5⟩ := goodW_out hg
    obtain ⟨i1, i2⟩ := invZ0 hg
    refine Ev.ite_true (Ev.bind' _ (specTotal_eq l hl k3) (Ev.pos (by omega) (Ev.pos (by omega) (Ev.pos (by omega) (Ev.pos (by omega) ?_)))))
    rw [Int.toNat_natCast, if_pos rfl]
    refine Ev.eq_ (loop_list l (fun k (s : List Int × List S_Column) i => spec_AliasOf.l0 k (l.length : Int) l.sum s.1 (List.replicate l.length false) s.2 l (l.length : Int) i) (fun _ _ => (alA l.sum l.length (z0 l) (cini l.sum l.length), true)) (fun p s => (∃ q, s.1 = p.map (fun x => x * (l.length : Int)) ++ q ∧ s.1.length = l.length) ∧ ∃ q, s.2 = cini l.sum p.length ++ q ∧ s.2.length = l.length) ?_ ?_ (List.replicate l.length 0, List.replicate l.length z_Column) ⟨⟨_, rfl, by simp⟩, ⟨_, rfl, by simp⟩⟩) rfl
    · rintro ⟨s1, s2⟩ ⟨⟨q1, h1, g1⟩, ⟨q2, h2, g2⟩⟩
      simp only at h1 h2 g1 g2
      subst h1 h2
      have e1 : q1 = [] := List.eq_nil_of_length_eq_zero (by simpa using g1)
      have e2 : q2 = [] := List.eq_nil_of_length_eq_zero (by simpa [cini_len] using g2)
      subst e1 e2
      refine Ev.succ ?_
      simp only [spec_AliasOf.l0, List.append_nil]
      refine Ev.neg (by omega) ?_
      rw [← z0_fst, ← z0_snd]
      refine Ev.eq_ (specAl l.sum k5 (by omega) l.length (z0 l) (cini l.sum l.length) (by omega) i1 (by simp [z0]; omega) (by rw [cini_len]; simp [z0])) ?_
      rw [i2]
    · rintro p x t ⟨s1, s2⟩ e ⟨⟨q1, h1, g1⟩, ⟨q2, h2, g2⟩⟩ ih
      simp only at h1 h2 g1 g2
      subst h1 h2
      have hm := len_mid e
      have hb := k3 x (mem_mid e)
      have h1 : 0 ≤ x * (l.length : Int) := Int.mul_nonneg hb.1 (by omega)
      have h2 : x * (l.length : Int) ≤ 50 * 12 := Int.mul_le_mul hb.2 (by omega) (by omega) (by omega)
      cases q1 with
      | nil => simp at g1; omega
      | cons y1 q1 =>
        cases q2 with
        | nil => simp [cini_len] at g2; omega
        | cons y2 q2 =>
          refine Ev.succ ?_
          simp only [spec_AliasOf.l0, rd_mid' e]
          refine Ev.pos hm.1 (Ev.pos (by omega) (Ev.pos hm.1 (Ev.pos (by omega) (Ev.pos (by omega) ?_))))
          have e1 := set_mid (p.map (fun x => x * (l.length : Int))) q1 (x * (l.length : Int)) y1
          have e2 := set_mid (cini l.sum p.length) q2 (⟨l.sum, (p.length : Int)⟩ : S_Column) y2
          rw [List.length_map] at e1
          rw [cini_len] at e2
          rw [w64 (i := x * (l.length : Int)) (by omega) (by omega), w64 (by omega) (by omega), e1, e2]
          refine ih ((p.map (fun x => x * (l.length : Int)) ++ [x * (l.length : Int)]) ++ q1, (cini l.sum p.length ++ [⟨l.sum, (p.length : Int)⟩]) ++ q2) ⟨⟨q1, by simp, by simp at g1 ⊢; omega⟩, ⟨q2, by simp [cini], by simp [cini_len] at g2 ⊢; omega⟩⟩
end Go.Proofs.Ytioeomjjfajldaa.PL
end
section
/- slices.IndexFunc and ContainsFunc at one function value: the first place at which it answers yes. Written by gen_idx.py. -/
set_option linter.unusedVariables false
set_option linter.unusedSimpArgs false
namespace Go.Proofs.Ytioeomjjfajldaa.PL
open Go.RowKit Go.Proofs.Ytioeomjjfajldaa.Pp Go.Proofs.Ytioeomjjfajldaa.PB Go.Proofs.YtioeomjjfajldaaW.PrintWords Go.Proofs.YtioeomjjfajldaaW.PrintLast
theorem slices_IndexFunc_impl_Column_impl_Column_GoodAlias_1.idx (l0 : List (S_Column)) (l1_0 : List (S_Column)) (q : (S_Column) → Bool) (hl : l0.length ≤ 1048576) (h : ∀ x ∈ l0, Ev (fun k => impl_GoodAlias_1.f (x.f0) (x.f1) l1_0) (q x)) : Ev (fun k => slices_IndexFunc_impl_Column_impl_Column_GoodAlias_1.f k l0 l1_0) (idxP q l0) := by
  unfold slices_IndexFunc_impl_Column_impl_Column_GoodAlias_1.f
  refine Ev.eq_ (loop_list l0 (fun k (_ : Nat) i => slices_IndexFunc_impl_Column_impl_Column_GoodAlias_1.l0 k l0 (l0.length : Int) i l1_0) (fun n t => if 0 ≤ idxP q t then (n : Int) + idxP q t else -1) (fun p n => n = p.length) ?_ ?_ 0 rfl) ?_
  · intro n hn
    apply Ev.succ
    simp only [slices_IndexFunc_impl_Column_impl_Column_GoodAlias_1.l0]
    exact Ev.neg (by omega) (Ev.const (by simp [idxP]))
  · intro p x t n e hn ih
    have hm := len_mid e
    have hx := h x (mem_mid e)
    apply Ev.succ
    simp only [slices_IndexFunc_impl_Column_impl_Column_GoodAlias_1.l0, rd_TColumn, getD_mid e]
    refine Ev.pos hm.1 (Ev.pos (by omega) (Ev.pos hm.1 (Ev.bind' _ hx ?_)))
    have hq : idxP q (x :: t) = (if q x then 0 else if 0 ≤ idxP q t then idxP q t + 1 else -1) := rfl
    rw [hq]
    cases q x with
    | true => exact Ev.ite_true (Ev.const (by simp [hn]))
    | false =>
      refine Ev.ite_false ?_
      rw [w64 (by omega) (by omega)]
      refine Ev.eq_ (ih (n + 1) (by simp [hn])) ?_
      by_cases h2 : 0 ≤ idxP q t
      · simp [h2]; omega
      · simp [h2]
  · by_cases h2 : 0 ≤ idxP q l0
    · simp [h2]
    · rw [if_neg h2]
      exact (idxP_neg q l0 h2).symm
theorem slices_ContainsFunc_impl_Column_impl_Column_GoodAlias_1.any (l0 : List (S_Column)) (l1_0 : List (S_Column)) (q : (S_Column) → Bool) (hl : l0.length ≤ 1048576) (h : ∀ x ∈ l0, Ev (fun k => impl_GoodAlias_1.f (x.f0) (x.f1) l1_0) (q x)) : Ev (fun k => slices_ContainsFunc_impl_Column_impl_Column_GoodAlias_1.f k l0 l1_0) (l0.any q) := by
  unfold slices_ContainsFunc_impl_Column_impl_Column_GoodAlias_1.f
  refine Ev.bind' _ (slices_IndexFunc_impl_Column_impl_Column_GoodAlias_1.idx l0 l1_0 q hl h) (Ev.const ?_)
  rw [idxP_nonneg]
end Go.Proofs.Ytioeomjjfajldaa.PL
end
section
/- GoodAlias, areColumns, PickBy: the program's and the reference's come to the same. -/
set_option linter.unusedVariables false
set_option linter.unusedSimpArgs false
namespace Go.Proofs.Ytioeomjjfajldaa.PL
open Go.RowKit Go.Proofs.Ytioeomjjfajldaa.Pp Go.Proofs.Ytioeomjjfajldaa.PB Go.Proofs.YtioeomjjfajldaaW.PrintWords Go.Proofs.YtioeomjjfajldaaW.PrintLast
def colOk (n : Int) (c : S_Column) : Bool := decide (0 ≤ c.f0) && inR c.f1 0 (n - 1)
def goodA (l : List S_Column) : Bool := inR l.length 1 12 && l.all (colOk l.length)
theorem specGoodAlias_eq (l : List S_Column) (hl : l.length ≤ 1048576) : Ev (fun k => spec_GoodAlias.f k l) (goodA l) := by
  unfold spec_GoodAlias.f
  refine Ev.eq_ (loop_list l (fun k (_ : Unit) i => spec_GoodAlias.l0 k l l (l.length : Int) i) (fun _ t => t.all (colOk l.length) && inR l.length 1 12) (fun _ _ => True) ?_ ?_ () trivial) (by unfold goodA; rw [Bool.and_comm])
  · intro _ _
    apply Ev.succ
    simp only [spec_GoodAlias.l0]
    refine Ev.neg (by omega) (Ev.cbind _ (l1In_eq _ _ _) (Ev.const (by simp)))
  · intro p x t s e _ ih
    have hm := len_mid e
    apply Ev.succ
    simp only [spec_GoodAlias.l0, rd_TColumn, getD_mid e]
    refine Ev.pos hm.1 (Ev.pos (by omega) (Ev.pos hm.1 ?_))
    by_cases h0 : x.f0 < 0
    · refine Ev.pos h0 (Ev.const ?_)
      have : ¬ (0 ≤ x.f0) := by omega
      simp [colOk, this]
    · refine Ev.neg h0 ?_
      rw [w64 (i := (l.length : Int) - 1) (by omega) (by omega)]
      refine Ev.cbind _ (l1In_eq _ _ _) ?_
      have h0' : 0 ≤ x.f0 := by omega
      cases hx : inR x.f1 0 ((l.length : Int) - 1) with
      | false => exact Ev.ite_false (Ev.const (by simp [colOk, hx]))
      | true =>
        refine Ev.ite_true ?_
        rw [w64 (by omega) (by omega)]
        refine Ev.eq_ (ih () trivial) ?_
        simp [colOk, hx, h0']
theorem implGoodAlias_eq (l : List S_Column) (hl : l.length ≤ 1048576) : Ev (fun k => impl_GoodAlias.f k l) (goodA l) := by
  unfold impl_GoodAlias.f goodA
  refine Ev.cbind _ (within_eq _ _ _) ?_
  cases h : inR (l.length : Int) 1 12 with
  | false => exact Ev.ite_false (Ev.const (by simp))
  | true =>
    refine Ev.ite_true (Ev.bind' _ (slices_ContainsFunc_impl_Column_impl_Column_GoodAlias_1.any l l (fun c => !colOk l.length c) hl ?_) (Ev.const ?_))
    · intro x _
      unfold impl_GoodAlias_1.f colOk
      by_cases h0 : x.f0 < 0
      · refine Ev.pos h0 (Ev.const ?_)
        have : ¬ (0 ≤ x.f0) := by omega
        simp [this]
      · refine Ev.neg h0 ?_
        have h0' : 0 ≤ x.f0 := by omega
        rw [w64 (by omega) (by omega)]
        exact Ev.cbind _ (within_eq _ _ _) (Ev.const (by simp [h0']))
    · rw [any_not]; simp
end Go.Proofs.Ytioeomjjfajldaa.PL
end
section
/- slices.IndexFunc and ContainsFunc at one function value: the first place at which it answers yes. Written by gen_idx.py. -/
set_option linter.unusedVariables false
set_option linter.unusedSimpArgs false
namespace Go.Proofs.Ytioeomjjfajldaa.PL
open Go.RowKit Go.Proofs.Ytioeomjjfajldaa.Pp Go.Proofs.Ytioeomjjfajldaa.PB Go.Proofs.YtioeomjjfajldaaW.PrintWords Go.Proofs.YtioeomjjfajldaaW.PrintLast
theorem slices_IndexFunc_impl_Column_impl_Column_areColumns_1.idx (l0 : List (S_Column)) (a1_0 : Int) (q : (S_Column) → Bool) (hl : l0.length ≤ 1048576) (h : ∀ x ∈ l0, Ev (fun k => impl_areColumns_1.f (x.f0) (x.f1) a1_0) (q x)) : Ev (fun k => slices_IndexFunc_impl_Column_impl_Column_areColumns_1.f k l0 a1_0) (idxP q l0) := by
  unfold slices_IndexFunc_impl_Column_impl_Column_areColumns_1.f
  refine Ev.eq_ (loop_list l0 (fun k (_ : Nat) i => slices_IndexFunc_impl_Column_impl_Column_areColumns_1.l0 k l0 (l0.length : Int) i a1_0) (fun n t => if 0 ≤ idxP q t then (n : Int) + idxP q t else -1) (fun p n => n = p.length) ?_ ?_ 0 rfl) ?_
  · intro n hn
    apply Ev.succ
    simp only [slices_IndexFunc_impl_Column_impl_Column_areColumns_1.l0]
    exact Ev.neg (by omega) (Ev.const (by simp [idxP]))
  · intro p x t n e hn ih
    have hm := len_mid e
    have hx := h x (mem_mid e)
    apply Ev.succ
    simp only [slices_IndexFunc_impl_Column_impl_Column_areColumns_1.l0, rd_TColumn, getD_mid e]
    refine Ev.pos hm.1 (Ev.pos (by omega) (Ev.pos hm.1 (Ev.bind' _ hx ?_)))
    have hq : idxP q (x :: t) = (if q x then 0 else if 0 ≤ idxP q t then idxP q t + 1 else -1) := rfl
    rw [hq]
    cases q x with
    | true => exact Ev.ite_true (Ev.const (by simp [hn]))
    | false =>
      refine Ev.ite_false ?_
      rw [w64 (by omega) (by omega)]
      refine Ev.eq_ (ih (n + 1) (by simp [hn])) ?_
      by_cases h2 : 0 ≤ idxP q t
      · simp [h2]; omega
      · simp [h2]
  · by_cases h2 : 0 ≤ idxP q l0
    · simp [h2]
    · rw [if_neg h2]
      exact (idxP_neg q l0 h2).symm
theorem slices_ContainsFunc_impl_Column_impl_Column_areColumns_1.any (l0 : List (S_Column)) (a1_0 : Int) (q : (S_Column) → Bool) (hl : l0.length ≤ 1048576) (h : ∀ x ∈ l0, Ev (fun k => impl_areColumns_1.f (x.f0) (x.f1) a1_0) (q x)) : Ev (fun k => slices_ContainsFunc_impl_Column_impl_Column_areColumns_1.f k l0 a1_0) (l0.any q) := by
  unfold slices_ContainsFunc_impl_Column_impl_Column_areColumns_1.f
  refine Ev.bind' _ (slices_IndexFunc_impl_Column_impl_Column_areColumns_1.idx l0 a1_0 q hl h) (Ev.const ?_)
  rw [idxP_nonneg]
end Go.Proofs.Ytioeomjjfajldaa.PL
end
section
/- Columns good for a total; PickBy. -/
set_option linter.unusedVariables false
set_option linter.unusedSimpArgs false
namespace Go.Proofs.Ytioeomjjfajldaa.PL
open Go.RowKit Go.Proofs.Ytioeomjjfajldaa.Pp Go.Proofs.Ytioeomjjfajldaa.PB Go.Proofs.YtioeomjjfajldaaW.PrintWords Go.Proofs.YtioeomjjfajldaaW.PrintLast
def fitsA (l : List S_Column) (n : Int) : Bool := goodA l && (inR n 1 600 && l.all (fun c => decide (c.f0 ≤ n)))
theorem specFits_eq (l : List S_Column) (n : Int) (hl : l.length ≤ 1048576) : Ev (fun k => spec_l12Fits.f k l n) (fitsA l n) := by
  unfold spec_l12Fits.f
  refine Ev.eq_ (loop_list l (fun k (_ : Unit) i => spec_l12Fits.l0 k l n l (l.length : Int) i) (fun _ t => t.all (fun c => decide (c.f0 ≤ n)) && (goodA l && inR n 1 600)) (fun _ _ => True) ?_ ?_ () trivial) (by unfold fitsA; cases goodA l <;> cases inR n 1 600 <;> simp)
  · intro _ _
    apply Ev.succ
    simp only [spec_l12Fits.l0]
    refine Ev.neg (by omega) (Ev.bind' _ (specGoodAlias_eq l hl) ?_)
    cases goodA l with
    | false => exact Ev.ite_false (Ev.const (by simp))
    | true => exact Ev.ite_true (Ev.cbind _ (l1In_eq _ _ _) (Ev.const (by simp)))
  · intro p x t s e _ ih
    have hm := len_mid e
    apply Ev.succ
    simp only [spec_l12Fits.l0, rd_TColumn, getD_mid e]
    refine Ev.pos hm.1 (Ev.pos (by omega) (Ev.pos hm.1 ?_))
    by_cases h0 : x.f0 > n
    · refine Ev.pos h0 (Ev.const ?_)
      have : ¬ (x.f0 ≤ n) := by omega
      simp [this]
    · refine Ev.neg h0 ?_
      rw [w64 (by omega) (by omega)]
      refine Ev.eq_ (ih () trivial) ?_
      have : x.f0 ≤ n := by omega
      simp [this]
theorem implAre_eq (l : List S_Column) (n : Int) (hl : l.length ≤ 1048576) : Ev (fun k => impl_areColumns.f k l n) (fitsA l n) := by
  unfold impl_areColumns.f fitsA
  refine Ev.bind' _ (implGoodAlias_eq l hl) ?_
  cases goodA l with
  | false => exact Ev.ite_false (Ev.const (by simp))
  | true =>
    refine Ev.ite_true (Ev.cbind _ (within_eq _ _ _) ?_)
    cases inR n 1 600 with
    | false => exact Ev.ite_false (Ev.const (by simp))
    | true =>
      refine Ev.ite_true (Ev.bind' _ (slices_ContainsFunc_impl_Column_impl_Column_areColumns_1.any l n (fun c => decide (c.f0 > n)) hl ?_) (Ev.const ?_))
      · intro x _
        exact Ev.const rfl
      · rw [any_all (fun c => decide (c.f0 ≤ n)) (fun c => decide (c.f0 > n)) l (fun x _ => by by_cases h : x.f0 ≤ n <;> simp [h] <;> omega)]
        simp
end Go.Proofs.Ytioeomjjfajldaa.PL
end
section
/- OftenIn, counted by draws: what it comes to. -/
set_option linter.unusedVariables false
set_option linter.unusedSimpArgs false
namespace Go.Proofs.Ytioeomjjfajldaa.PL
open Go.RowKit Go.Proofs.Ytioeomjjfajldaa.Pp Go.Proofs.Ytioeomjjfajldaa.PB Go.Proofs.YtioeomjjfajldaaW.PrintWords Go.Proofs.YtioeomjjfajldaaW.PrintLast
def addAt (x : List Int) (i : Nat) (v : Int) : List Int := x.set i (x.getD i 0 + v)
theorem addAt_length (x : List Int) (i : Nat) (v : Int) : (addAt x i v).length = x.length := by simp [addAt]
theorem addAt_get (x : List Int) (i : Nat) (v : Int) (h : i < x.length) : (addAt x i v).getD i 0 = x.getD i 0 + v := by
  simp [addAt, List.getD_eq_getElem?_getD, h]
theorem addAt_twice (x : List Int) (i : Nat) (u v : Int) (h : i < x.length) : addAt (addAt x i u) i v = addAt x i (u + v) := by
  have e := addAt_get x i u h
  unfold addAt at e ⊢
  rw [e, List.set_set, Int.add_assoc]
theorem addAt_zero (x : List Int) (i : Nat) (h : i < x.length) : addAt x i 0 = x := by
  unfold addAt
  rw [Int.add_zero, List.getD_eq_getElem?_getD, List.getElem?_eq_getElem h]
  simp
def bnd (x : List Int) (B : Int) : Prop := ∀ v ∈ x, 0 ≤ v ∧ v ≤ B
theorem bnd_getD {x : List Int} {B : Int} (h : bnd x B) (i : Nat) (hi : i < x.length) : 0 ≤ x.getD i 0 ∧ x.getD i 0 ≤ B := by
  rw [List.getD_eq_getElem?_getD, List.getElem?_eq_getElem hi]
  exact h _ (List.getElem_mem hi)
theorem bnd_add {x : List Int} {B : Int} (h : bnd x B) (i : Nat) (v : Int) (hi : i < x.length) (hv : 0 ≤ v) : bnd (addAt x i v) (B + v) := by
  intro y hy
  unfold addAt at hy
  rcases List.mem_or_eq_of_mem_set hy with h1 | h1
  · have := h y h1; omega
  · have := bnd_getD h i hi; omega
def stepC (n : Int) (x : List Int) (i : Nat) (c : S_Column) : List Int := addAt (addAt x i c.f0) c.f1.toNat (n - c.f0)
def oft (n : Int) : List Int → Nat → List S_Column → List Int
  | x, _, [] => x
  | x, i, c :: t => oft n (stepC n x i c) (i + 1) t
def colFit (n : Int) (m : Nat) (c : S_Column) : Prop := 0 ≤ c.f0 ∧ c.f0 ≤ n ∧ 0 ≤ c.f1 ∧ c.f1.toNat < m
theorem stepC_length (n : Int) (x : List Int) (i : Nat) (c : S_Column) : (stepC n x i c).length = x.length := by simp [stepC, addAt_length]
theorem stepC_bnd (n : Int) (x : List Int) (i : Nat) (c : S_Column) (B : Int) (h : bnd x B) (hi : i < x.length) (hc : colFit n x.length c) : bnd (stepC n x i c) (B + n) := by
  obtain ⟨h1, h2, h3, h4⟩ := hc
  have := bnd_add (bnd_add h i c.f0 hi h1) c.f1.toNat (n - c.f0) (by rw [addAt_length]; exact h4) (by omega)
  have e : B + c.f0 + (n - c.f0) = B + n := by omega
  rw [e] at this
  exact this
theorem oft_length (n : Int) : ∀ (t : List S_Column) (x : List Int) (i : Nat), (oft n x i t).length = x.length
  | [], _, _ => rfl
  | c :: t, x, i => by rw [oft, oft_length n t, stepC_length]
theorem rd_nat (x : List Int) (i : Nat) : rd x (i : Int) = x.getD i 0 := by simp [rd]
/-- One column's draws, m of them left. -/
theorem col_draws (l : List S_Column) (n : Nat) (c : S_Column) (i : Nat) (hl : l.length ≤ 12) (hn1 : 1 ≤ n) (hn : n ≤ 600) (hc : l[i]? = some c) (hf : colFit n l.length c) (res : List Int × Bool) :
    ∀ (m r : Nat) (x : List Int) (B : Int), r + m = n → x.length = l.length → bnd x B → 0 ≤ B → B + m ≤ 100000 →
      Ev (fun k => impl_OftenIn.l0 k l n (addAt (addAt x i (max (c.f0 - r) 0)) c.f1.toNat (n - max (r : Int) c.f0)) ((l.length : Int) * n) ((((i + 1 : Nat)) : Int) * n)) res →
      Ev (fun k => impl_OftenIn.l0 k l n x ((l.length : Int) * n) ((i : Int) * n + r)) res := by
  obtain ⟨g1, g2, g3, g4⟩ := hf
  have hi : i < l.length := by
    rcases Nat.lt_or_ge i l.length with h | h
    · exact h
    · rw [List.getElem?_eq_none h] at hc; cases hc
  intro m
  induction m with
  | zero =>
    intro r x B hr hx hb hB hBm h
    have e1 : max (c.f0 - (r : Int)) 0 = 0 := by omega
    have e2 : (n : Int) - max (r : Int) c.f0 = 0 := by omega
    rw [e1, e2, addAt_zero x i (by omega), addAt_zero x c.f1.toNat (by omega)] at h
    have e3 : (i : Int) * n + r = (((i + 1 : Nat)) : Int) * n := by
      have : (((i + 1 : Nat)) : Int) = (i : Int) + 1 := by omega
      rw [this, Int.add_mul]
      omega
    rw [e3]
    exact h
  | succ m ih =>
    intro r x B hr hx hb hB hBm h
    apply Ev.succ
    simp only [impl_OftenIn.l0]
    have hlt : (i : Int) * n + r < (l.length : Int) * n := by
      have h1 : ((i : Int) + 1) * n ≤ (l.length : Int) * n := Int.mul_le_mul_of_nonneg_right (by omega) (by omega)
      rw [Int.add_mul] at h1
      omega
    have hnn : 0 ≤ (i : Int) * n := Int.mul_nonneg (by omega) (by omega)
    have hub : (l.length : Int) * n ≤ 12 * 600 := Int.mul_le_mul (by omega) (by omega) (by omega) (by omega)
    have hq : Int.tdiv ((i : Int) * n + r) n = i := by
      rw [Int.tdiv_eq_ediv_of_nonneg (by omega), Int.add_comm, Int.add_mul_ediv_right _ _ (by omega), Int.ediv_eq_zero_of_lt (by omega) (by omega)]
      omega
    have hm : Int.tmod ((i : Int) * n + r) n = r := by
      rw [Int.tmod_eq_emod_of_nonneg (by omega), Int.add_comm, Int.add_mul_emod_self_right, Int.emod_eq_of_lt (by omega) (by omega)]
    have hrd : rd_TColumn l (i : Int) = c := by
      simp [rd_TColumn, List.getD_eq_getElem?_getD, hc]
    have hnext : (i : Int) * n + r + 1 = (i : Int) * n + ((r + 1 : Nat) : Int) := by omega
    have hp : impl_pickBy.f l n ((i : Int) * n + r) = some (if (r : Int) < c.f0 then (i : Int) else c.f1) := by
      unfold impl_pickBy.f
      rw [hq, hm, w64 (i := (i : Int)) (by omega) (by omega), hrd, if_neg (by omega), if_pos (by omega), if_pos (by omega)]
      split <;> rfl
    refine Ev.pos hlt (Ev.cbind _ hp ?_)
    rw [w64 (i := (i : Int) * n + r + 1) (by omega) (by omega), hnext]
    by_cases hr0 : (r : Int) < c.f0
    · rw [if_pos hr0]
      have hbi := bnd_getD hb i (by omega)
      refine Ev.pos (by omega) (Ev.pos (by omega) ?_)
      rw [rd_nat, w64 (by omega) (by omega)]
      have e : x.set ((i : Int)).toNat (x.getD i 0 + 1) = addAt x i 1 := by simp [addAt]
      rw [e]
      refine ih (r + 1) (addAt x i 1) (B + 1) (by omega) (by rw [addAt_length]; exact hx) (bnd_add hb i 1 (by omega) (by omega)) (by omega) (by omega) ?_
      rw [addAt_twice _ _ _ _ (by omega)]
      have e1 : 1 + max (c.f0 - ((r + 1 : Nat) : Int)) 0 = max (c.f0 - (r : Int)) 0 := by omega
      have e2 : (n : Int) - max (((r + 1 : Nat)) : Int) c.f0 = n - max (r : Int) c.f0 := by omega
      rw [e1, e2]
      exact h
    · rw [if_neg hr0]
      have hbi := bnd_getD hb c.f1.toNat (by omega)
      have ef : ((c.f1.toNat : Nat) : Int) = c.f1 := by omega
      refine Ev.pos (by omega) (Ev.pos (by omega) ?_)
      have e : x.set c.f1.toNat (wrap64 (rd x c.f1 + 1)) = addAt x c.f1.toNat 1 := by
        have : rd x c.f1 = x.getD c.f1.toNat 0 := rfl
        rw [this, w64 (by omega) (by omega)]
        rfl
      rw [e]
      refine ih (r + 1) (addAt x c.f1.toNat 1) (B + 1) (by omega) (by rw [addAt_length]; exact hx) (bnd_add hb _ 1 (by omega) (by omega)) (by omega) (by omega) ?_
      have e1 : max (c.f0 - ((r + 1 : Nat) : Int)) 0 = 0 := by omega
      have e1' : max (c.f0 - (r : Int)) 0 = 0 := by omega
      rw [e1, addAt_zero _ _ (by rw [addAt_length]; omega), addAt_twice _ _ _ _ (by omega)]
      rw [e1', addAt_zero _ _ (by omega)] at h
      have e2 : 1 + ((n : Int) - max (((r + 1 : Nat)) : Int) c.f0) = n - max (r : Int) c.f0 := by omega
      rw [e2]
      exact h
def oftenA (l : List S_Column) (n : Int) : List Int × Bool := if fitsA l n = true then (oft n (List.replicate l.length 0) 0 l, true) else ([], false)
theorem fitsA_out {l : List S_Column} {n : Int} (h : fitsA l n = true) : l.length ≤ 12 ∧ 1 ≤ n ∧ n ≤ 600 ∧ ∀ c ∈ l, colFit n l.length c := by
  unfold fitsA goodA at h
  simp only [Bool.and_eq_true, List.all_eq_true, decide_eq_true_eq, inR, colOk] at h
  obtain ⟨⟨h1, h2⟩, h3, h4⟩ := h
  refine ⟨by omega, h3.1, h3.2, fun c hc => ?_⟩
  have a := h2 c hc
  have b := h4 c hc
  exact ⟨by omega, by omega, by omega, by omega⟩
theorem oftenA_len (l : List S_Column) (n : Int) : (oftenA l n).1.length ≤ l.length := by
  unfold oftenA
  split
  · rw [oft_length]; simp
  · simp
theorem implOften_eq (l : List S_Column) (n : Int) (hl : l.length ≤ 1048576) : Ev (fun k => impl_OftenIn.f k l n) (oftenA l n) := by
  unfold impl_OftenIn.f oftenA
  refine Ev.bind' _ (implAre_eq l n hl) ?_
  cases hf : fitsA l n with
  | false => exact Ev.ite_false (Ev.const (by simp))
  | true =>
    obtain ⟨h12, h1, h600, hc⟩ := fitsA_out hf
    obtain ⟨N, rfl⟩ : ∃ N : Nat, n = N := ⟨n.toNat, by omega⟩
    have hub : (l.length : Int) * (N : Int) ≤ 12 * 600 := Int.mul_le_mul (by omega) (by omega) (by omega) (by omega)
    have hnn : 0 ≤ (l.length : Int) * (N : Int) := Int.mul_nonneg (by omega) (by omega)
    refine Ev.ite_true (Ev.pos (by omega) (Ev.pos (by simp; omega) ?_))
    rw [w64 (by omega) (by omega)]
    have main : ∀ (t p : List S_Column) (x : List Int) (B : Int), l = p ++ t → x.length = l.length → bnd x B → 0 ≤ B → B + 600 * t.length ≤ 90000 →
        Ev (fun k => impl_OftenIn.l0 k l N x ((l.length : Int) * N) ((p.length : Int) * N)) (oft N x p.length t, true) := by
      intro t
      induction t with
      | nil =>
        intro p x B e hx hb hB hBt
        have : p = l := by rw [e]; simp
        subst this
        apply Ev.succ
        simp only [impl_OftenIn.l0]
        exact Ev.neg (by omega) (Ev.const rfl)
      | cons c t ih =>
        intro p x B e hx hb hB hBt
        have hm := len_mid e
        have hcm := hc c (mem_mid e)
        have hBt' : B + 600 * ((t.length : Int) + 1) ≤ 90000 := by
          have : (((c :: t).length : Nat) : Int) = (t.length : Int) + 1 := by simp
          rw [this] at hBt
          exact hBt
        have hget : l[p.length]? = some c := by rw [e]; simp
        have key := col_draws l N c p.length h12 (by omega) (by omega) hget hcm (oft N x p.length (c :: t), true) N 0 x B (by omega) hx hb hB (by omega)
        have e0 : (p.length : Int) * N + ((0 : Nat) : Int) = (p.length : Int) * N := by omega
        rw [e0] at key
        apply key
        have ea : max (c.f0 - ((0 : Nat) : Int)) 0 = c.f0 := by have := hcm.1; omega
        have eb : (N : Int) - max ((0 : Nat) : Int) c.f0 = N - c.f0 := by have := hcm.1; omega
        rw [ea, eb]
        have := ih (p ++ [c]) (stepC N x p.length c) (B + N) (by rw [e]; simp) (by rw [stepC_length]; exact hx) (stepC_bnd _ _ _ _ _ hb (by omega) (by rw [hx]; exact hcm)) (by omega) (by omega)
        simpa [oft, stepC] using this
    have h0 := main l [] (List.replicate l.length 0) 0 rfl (by simp) (fun v hv => by have := List.eq_of_mem_replicate hv; omega) (by omega) (by omega)
    simpa using h0
end Go.Proofs.Ytioeomjjfajldaa.PL
end
section
/- The columns of weights: of all draws each is picked as often as it weighs. -/
set_option linter.unusedVariables false
set_option linter.unusedSimpArgs false
namespace Go.Proofs.Ytioeomjjfajldaa.PL
open Go.RowKit Go.Proofs.Ytioeomjjfajldaa.Pp Go.Proofs.Ytioeomjjfajldaa.PB Go.Proofs.YtioeomjjfajldaaW.PrintWords Go.Proofs.YtioeomjjfajldaaW.PrintLast
theorem map_sum_set {α : Type} (f : α → Int) (l : List α) (j : Nat) (q x : α) (h : l[j]? = some x) : ((l.set j q).map f).sum = (l.map f).sum - f x + f q := by
  induction l generalizing j with
  | nil => simp at h
  | cons y t ih =>
    cases j with
    | zero =>
      obtain rfl : y = x := by simpa using h
      simp only [List.set_cons_zero, List.map_cons, List.sum_cons]
      omega
    | succ j =>
      have := ih j (by simpa using h)
      simp only [List.set_cons_succ, List.map_cons, List.sum_cons, this]
      omega
def gv (T : Int) (i : Nat) (c : S_Column) : Int := if c.f1 = (i : Int) then T - c.f0 else 0
def giv (T : Int) (i : Nat) (C : List S_Column) : Int := (C.map (gv T i)).sum
def invC (T : Int) (W : Nat → Int) (z : List (Int × Bool)) (C : List S_Column) : Prop := C.length = z.length ∧ ∀ (i : Nat) (a : Int) (d : Bool), z[i]? = some (a, d) → ∃ c, C[i]? = some c ∧ 0 ≤ c.f0 ∧ c.f0 ≤ T ∧ 0 ≤ c.f1 ∧ c.f1 < (z.length : Int) ∧ (d = false → c.f0 = T ∧ c.f1 = (i : Int)) ∧ (if d = true then c.f0 else a) + giv T i C = W i
theorem invC_step {T : Int} {W : Nat → Int} {z : List (Int × Bool)} {C : List S_Column} {lo hi : Nat} {a b : Int} (h : invC T W z C) (ha : z[lo]? = some (a, false)) (hb : z[hi]? = some (b, false)) (a0 : 0 ≤ a) (a1 : a < T) (hne : lo ≠ hi) :
    invC T W (nz T z lo hi) (C.set lo ⟨a, (hi : Int)⟩) := by
  have hhi := (List.getElem?_eq_some_iff.1 hb).1
  have hlo := (List.getElem?_eq_some_iff.1 ha).1
  have enz : nz T z lo hi = (z.set hi (b - (T - a), false)).set lo (a, true) := by
    unfold nz
    rw [getD_of ha, getD_of hb]
  obtain ⟨cl, hcl, c1, c2, c3, c4, c5, c6⟩ := h.2 lo a false ha
  obtain ⟨c5, c7⟩ := c5 rfl
  have c6 : a + giv T lo C = W lo := by simpa using c6
  have hg : ∀ i, giv T i (C.set lo ⟨a, (hi : Int)⟩) = giv T i C + (if (hi : Int) = (i : Int) then T - a else 0) := fun i => by
    unfold giv
    rw [map_sum_set (gv T i) C lo _ cl hcl]
    simp only [gv, c5]
    split <;> split <;> omega
  refine ⟨by rw [enz, List.length_set, List.length_set, List.length_set]; exact h.1, fun i a' d' hi' => ?_⟩
  rw [enz] at hi' ⊢
  rw [List.length_set, List.length_set]
  by_cases e1 : i = lo
  · subst e1
    rw [List.getElem?_set_self (by rw [List.length_set]; exact hlo)] at hi'
    simp only [Option.some.injEq, Prod.mk.injEq] at hi'
    obtain ⟨rfl, rfl⟩ := hi'
    refine ⟨⟨a, (hi : Int)⟩, List.getElem?_set_self (by rw [h.1]; exact hlo), a0, by simp only; omega, by simp only; omega, by simp only; omega, (fun h => Bool.noConfusion h), ?_⟩
    have e9 := hg i
    rw [if_neg (by omega)] at e9
    rw [e9, if_pos rfl, Int.add_zero]
    exact c6
  · rw [List.getElem?_set_ne (fun e => e1 e.symm)] at hi' ⊢
    by_cases e2 : i = hi
    · subst e2
      rw [List.getElem?_set_self hhi] at hi'
      simp only [Option.some.injEq, Prod.mk.injEq] at hi'
      obtain ⟨rfl, rfl⟩ := hi'
      obtain ⟨c, hc, d1, d2, d3, d4, d5, d6⟩ := h.2 i b false hb
      have d6 : b + giv T i C = W i := by simpa using d6
      refine ⟨c, hc, d1, d2, d3, d4, d5, ?_⟩
      have e9 := hg i
      rw [if_pos rfl] at e9
      rw [e9, if_neg (by simp)]
      omega
    · rw [List.getElem?_set_ne (fun e => e2 e.symm)] at hi'
      obtain ⟨c, hc, d1, d2, d3, d4, d5, d6⟩ := h.2 i a' d' hi'
      refine ⟨c, hc, d1, d2, d3, d4, d5, ?_⟩
      have e9 := hg i
      rw [if_neg (fun e => e2 (by omega))] at e9
      rw [e9, Int.add_zero]
      exact d6
theorem und_pos (T : Int) (z : List (Int × Bool)) (h : ∀ q ∈ z, pL T q = false) : 0 ≤ und T z ∧ ∀ q ∈ z, q.2 = false → q.1 - T ≤ und T z := by
  induction z with
  | nil => simp [und]
  | cons x t ih =>
    obtain ⟨i1, i2⟩ := ih (fun q hq => h q (by simp [hq]))
    have hx := h x (by simp)
    simp only [und] at i1 i2
    obtain ⟨v, d⟩ := x
    have ht : 0 ≤ tm T (v, d) ∧ (d = false → v - T ≤ tm T (v, d)) := by
      cases d with
      | true => simp [tm]
      | false =>
        simp only [pL, Bool.not_false, Bool.true_and, decide_eq_false_iff_not] at hx
        simp only [tm, Bool.false_eq_true, if_false]
        exact ⟨by omega, fun _ => by omega⟩
    simp only [und, List.map_cons, List.sum_cons]
    refine ⟨by omega, fun q hq hq2 => ?_⟩
    rcases List.mem_cons.1 hq with rfl | hq
    · have := ht.2 hq2
      simp only
      omega
    · have := i2 q hq hq2
      omega
theorem none_pL {T : Int} {z : List (Int × Bool)} (h : idxP (pL T) z < 0) : ∀ q ∈ z, pL T q = false := fun q hq => by
  cases hb : pL T q with
  | false => rfl
  | true =>
    have := (idxP_iff (pL T) z).2 (List.any_eq_true.2 ⟨q, hq, hb⟩)
    omega
/-- What the columns are in the end. -/
def fin (T : Int) (W : Nat → Int) (C : List S_Column) : Prop := ∀ i, i < C.length → ∃ c, C[i]? = some c ∧ 0 ≤ c.f0 ∧ c.f0 ≤ T ∧ 0 ≤ c.f1 ∧ c.f1 < (C.length : Int) ∧ c.f0 + giv T i C = W i
theorem invC_end {T : Int} {W : Nat → Int} {z : List (Int × Bool)} {C : List S_Column} (h : invC T W z C) (hz : invZ T z) (h0 : idxP (pL T) z < 0) : fin T W C := by
  intro i hi
  have hn := und_pos T z (none_pL h0)
  have hlt : i < z.length := by rw [← h.1]; exact hi
  have hq : z[i]? = some (z[i].1, z[i].2) := List.getElem?_eq_getElem hlt
  have hm : (z[i].1, z[i].2) ∈ z := List.getElem_mem hlt
  generalize z[i].1 = a at hq hm
  generalize z[i].2 = d at hq hm
  obtain ⟨c, hc, d1, d2, d3, d4, d5, d6⟩ := h.2 i a d hq
  refine ⟨c, hc, d1, d2, d3, by rw [h.1]; exact d4, ?_⟩
  cases d with
  | true => simpa using d6
  | false =>
    have h1 := hn.2 _ hm rfl
    rw [hz.2] at h1
    have h2 := none_pL h0 _ hm
    simp only [pL, Bool.not_false, Bool.true_and, decide_eq_false_iff_not] at h2
    obtain ⟨d5, _⟩ := d5 rfl
    have d6 : a + giv T i C = W i := by simpa using d6
    simp only at h1
    omega
theorem alA_fin (T : Int) (W : Nat → Int) (hT : T ≤ 600) : ∀ (m : Nat) (z : List (Int × Bool)) (C : List S_Column), cu z = m → invZ T z → invC T W z C → fin T W (alA T m z C)
  | 0, z, C, hm, hz, h => invC_end h hz (pL_none hm)
  | m + 1, z, C, hm, hz, h => by
    rw [alA]
    by_cases h0 : idxP (pL T) z < 0
    · rw [if_pos h0]
      exact invC_end h hz h0
    · rw [if_neg h0]
      obtain ⟨a, b, ha, hb, h1, a0, a1, b0, b1, hne, hinv, hcu, _, _⟩ := round T z hT hz (by omega)
      have hst := invC_step h ha hb a0 a1 hne
      rw [getD_of ha]
      rw [show (((idxP (pG T) z).toNat : Nat) : Int) = idxP (pG T) z from by omega] at hst
      exact alA_fin T W hT m _ _ (by omega) hinv hst
theorem cini_get (T : Int) (i : Nat) : ∀ n, i < n → (cini T n)[i]? = some ⟨T, (i : Int)⟩
  | 0, h => by omega
  | n + 1, h => by
    rw [cini]
    by_cases e : i < n
    · rw [List.getElem?_append_left (by rw [cini_len]; exact e)]
      exact cini_get T i n e
    · obtain rfl : i = n := by omega
      rw [List.getElem?_append_right (by rw [cini_len]; omega), cini_len, Nat.sub_self]
      rfl
theorem giv_cini (T : Int) (i : Nat) : ∀ n, giv T i (cini T n) = 0
  | 0 => rfl
  | n + 1 => by
    have := giv_cini T i n
    unfold giv at this ⊢
    rw [cini, List.map_append, List.sum_append, this]
    simp only [List.map_cons, List.map_nil, List.sum_cons, List.sum_nil, gv]
    split <;> omega
theorem alias_fin {l : List Int} (hg : goodW l = true) : fin l.sum (fun i => l.getD i 0 * (l.length : Int)) (alA l.sum l.length (z0 l) (cini l.sum l.length)) := by
  obtain ⟨k1, k2, k3, k4, k5⟩ := goodW_out hg
  obtain ⟨i1, i2⟩ := invZ0 hg
  refine alA_fin l.sum _ k5 l.length (z0 l) _ i2 i1 ⟨by rw [cini_len]; simp [z0], fun i a d h => ?_⟩
  have hlt : i < l.length := by
    have := (List.getElem?_eq_some_iff.1 h).1
    simpa [z0] using this
  rw [z0, List.getElem?_map, List.getElem?_eq_getElem hlt] at h
  simp only [Option.map_some, Option.some.injEq, Prod.mk.injEq] at h
  obtain ⟨rfl, rfl⟩ := h
  refine ⟨_, cini_get l.sum i l.length hlt, by simp only; omega, by simp only; omega, by simp only; omega, by simp only [z0, List.length_map]; omega, fun _ => ⟨rfl, rfl⟩, ?_⟩
  rw [giv_cini]
  simp only [Bool.false_eq_true, if_false]
  rw [List.getD_eq_getElem?_getD, List.getElem?_eq_getElem hlt]
  simp
theorem fin_fits {T : Int} {W : Nat → Int} {C : List S_Column} (h : fin T W C) (h1 : 1 ≤ C.length) (h2 : C.length ≤ 12) (hT : 1 ≤ T) (hT2 : T ≤ 600) : fitsA C T = true ∧ ∀ c ∈ C, colFit T C.length c := by
  have hc : ∀ c ∈ C, 0 ≤ c.f0 ∧ c.f0 ≤ T ∧ 0 ≤ c.f1 ∧ c.f1 < (C.length : Int) := fun c hc => by
    obtain ⟨i, hi, rfl⟩ := List.getElem_of_mem hc
    obtain ⟨c, e, d1, d2, d3, d4, _⟩ := h i hi
    rw [List.getElem?_eq_getElem hi] at e
    obtain rfl := Option.some.inj e
    exact ⟨d1, d2, d3, d4⟩
  refine ⟨?_, fun c hm => ?_⟩
  · unfold fitsA goodA
    simp only [Bool.and_eq_true, List.all_eq_true, decide_eq_true_eq, inR, colOk]
    refine ⟨⟨⟨by omega, by omega⟩, fun c hm => ?_⟩, ⟨by omega, by omega⟩, fun c hm => (hc c hm).2.1⟩
    obtain ⟨d1, d2, d3, d4⟩ := hc c hm
    exact ⟨d1, d3, by omega⟩
  · obtain ⟨d1, d2, d3, d4⟩ := hc c hm
    exact ⟨d1, d2, d3, by omega⟩
theorem addAt_at (x : List Int) (i j : Nat) (v : Int) (h : i < x.length) : (addAt x i v).getD j 0 = x.getD j 0 + (if i = j then v else 0) := by
  by_cases e : i = j
  · subst e
    rw [addAt_get x i v h, if_pos rfl]
  · rw [if_neg e, addAt, List.getD_eq_getElem?_getD, List.getElem?_set_ne e, ← List.getD_eq_getElem?_getD]
    omega
def ownAt (t : List S_Column) (s i : Nat) : Int := if s ≤ i then (match t[i - s]? with | some c => c.f0 | none => 0) else 0
theorem ownAt_cons (c : S_Column) (t : List S_Column) (s i : Nat) : ownAt (c :: t) s i = (if s = i then c.f0 else 0) + ownAt t (s + 1) i := by
  unfold ownAt
  by_cases e : s = i
  · subst e
    rw [if_pos (Nat.le_refl _), if_pos rfl, if_neg (by omega), Nat.sub_self]
    simp
  · by_cases h : s ≤ i
    · rw [if_pos h, if_neg e, if_pos (by omega), show i - s = (i - (s + 1)) + 1 from by omega, List.getElem?_cons_succ]
      omega
    · rw [if_neg h, if_neg e, if_neg (by omega)]
      omega
theorem oft_get (T : Int) (i : Nat) : ∀ (t : List S_Column) (x : List Int) (s : Nat), i < x.length → s + t.length ≤ x.length → (∀ c ∈ t, colFit T x.length c) → (oft T x s t).getD i 0 = x.getD i 0 + ownAt t s i + giv T i t
  | [], x, s, _, _, _ => by simp [oft, ownAt, giv]
  | c :: t, x, s, hi, hs, hc => by
    have hs' : s + (t.length + 1) ≤ x.length := by simpa using hs
    obtain ⟨g1, g2, g3, g4⟩ := hc c (by simp)
    have ih := oft_get T i t (stepC T x s c) (s + 1) (by rw [stepC_length]; exact hi) (by rw [stepC_length]; omega) (fun d hd => by rw [stepC_length]; exact hc d (by simp [hd]))
    rw [oft, ih, ownAt_cons, stepC, addAt_at _ _ _ _ (by rw [addAt_length]; exact g4), addAt_at _ _ _ _ (by omega)]
    have hg : giv T i (c :: t) = gv T i c + giv T i t := by simp [giv]
    have hq : gv T i c = if c.f1.toNat = i then T - c.f0 else 0 := by
      unfold gv
      by_cases e : c.f1 = (i : Int)
      · rw [if_pos e, if_pos (by omega)]
      · rw [if_neg e, if_neg (by omega)]
    rw [hg, hq]
    omega
/-- Of all draws each is picked in the part that it weighs. -/
theorem alias_often {l : List Int} (hg : goodW l = true) : fitsA (aliasA l).1 l.sum = true ∧ (aliasA l).1.length = l.length ∧ ∀ i, i < l.length → (oft l.sum (List.replicate l.length 0) 0 (aliasA l).1).getD i 0 = l.getD i 0 * (l.length : Int) := by
  obtain ⟨k1, k2, k3, k4, k5⟩ := goodW_out hg
  have hf := alias_fin hg
  have hl : (alA l.sum l.length (z0 l) (cini l.sum l.length)).length = l.length := by rw [alA_len, cini_len]
  rw [aliasA, if_pos hg]
  simp only
  obtain ⟨f1, f2⟩ := fin_fits hf (by omega) (by omega) (by omega) k5
  refine ⟨f1, hl, fun i hi => ?_⟩
  obtain ⟨c, hc, _, _, _, _, e⟩ := hf i (by omega)
  rw [oft_get l.sum i _ _ 0 (by simpa using hi) (by simp [hl]) (fun c hc => by have := f2 c hc; rw [hl] at this; simpa using this)]
  unfold ownAt
  rw [if_pos (Nat.zero_le _), Nat.sub_zero, hc]
  simp only
  rw [List.getD_eq_getElem?_getD, List.getElem?_replicate, if_pos hi]
  simp only [Option.getD_some]
  simp only at e
  omega
end Go.Proofs.Ytioeomjjfajldaa.PL
end
section
/- The law's cursor: whatever the bytes are, it draws something in its range. -/
set_option linter.unusedVariables false
set_option linter.unusedSimpArgs false
namespace Go.Proofs.Ytioeomjjfajldaa.PL
open Go.RowKit Go.Proofs.Ytioeomjjfajldaa.Pp Go.Proofs.Ytioeomjjfajldaa.PB Go.Proofs.YtioeomjjfajldaaW.PrintWords Go.Proofs.YtioeomjjfajldaaW.PrintLast
def bytesOk (l : List Int) : Prop := True ∧ ∀ x ∈ l, 0 ≤ x ∧ x ≤ 255
theorem and255 (x : Int) : 0 ≤ Go.bits .and .u64 x 255 ∧ Go.bits .and .u64 x 255 ≤ 255 := by
  have h : (BitVec.ofInt 64 x &&& BitVec.ofInt 64 255).toNat ≤ 255 := by
    rw [BitVec.toNat_and]
    exact Nat.le_trans Nat.and_le_right (by decide)
  have e : Go.bits .and .u64 x 255 = IntKind.u64.wrap ((BitVec.ofInt 64 x &&& BitVec.ofInt 64 255).toNat : Int) := rfl
  rw [e]
  generalize (BitVec.ofInt 64 x &&& BitVec.ofInt 64 255).toNat = n at h
  have e2 : IntKind.u64.wrap (n : Int) = (n : Int) := by
    simp only [IntKind.wrap, IntKind.signed, IntKind.bits]
    first | omega | (simp; omega)
  rw [e2]
  omega
theorem next_ok {code : List Int} (hc : bytesOk code) (a s : Int) (h0 : 0 ≤ a) (h1 : a ≤ 1000000000000) : ∃ b s', spec_l1Cur_next.f code a s = some (b, a + 1, s') ∧ 0 ≤ b ∧ b ≤ 255 := by
  have h255 : ∀ x, 0 ≤ wrap64 (Go.bits .and .u64 x 255) ∧ wrap64 (Go.bits .and .u64 x 255) ≤ 255 := fun x => by
    have := and255 x
    rw [w64 (by omega) (by omega)]
    exact this
  unfold spec_l1Cur_next.f
  rw [w64 (i := a + 1) (by omega) (by omega)]
  by_cases h : a < (code.length : Int)
  · have hm : 0 ≤ rd code a ∧ rd code a ≤ 255 := by
      have e : rd code a = code.getD a.toNat 0 := rfl
      rw [e, List.getD_eq_getElem?_getD, List.getElem?_eq_getElem (by omega)]
      exact hc.2 _ (List.getElem_mem (by omega))
    rw [if_pos h, if_pos h0, if_pos (by omega), w64 (i := rd code a) (by omega) (by omega)]
    exact ⟨_, _, rfl, hm.1, hm.2⟩
  · rw [if_neg h, if_neg (by omega)]
    exact ⟨_, _, rfl, (h255 _).1, (h255 _).2⟩
theorem pick_ok {code : List Int} (hc : bytesOk code) (a s n : Int) (h0 : 0 ≤ a) (h1 : a ≤ 900000000000) (hn : n ≤ 65535) : ∃ x a' s', spec_l1Cur_pick.f code a s n = some (x, a', s') ∧ 0 ≤ x ∧ (1 ≤ n → x < n) ∧ a ≤ a' ∧ a' ≤ a + 2 := by
  unfold spec_l1Cur_pick.f
  by_cases h : n ≤ 1
  · rw [if_pos h]
    exact ⟨0, a, s, rfl, by omega, fun h2 => by omega, by omega, by omega⟩
  · rw [if_neg h]
    obtain ⟨b, s1, e1, b0, b1⟩ := next_ok hc a s h0 (by omega)
    rw [e1, Option.bind_some]
    by_cases h2 : n > 200
    · obtain ⟨d, s2, e2, d0, d1⟩ := next_ok hc (a + 1) s1 (by omega) (by omega)
      rw [if_pos h2]
      simp only [e2, Option.bind_some]
      rw [if_neg (by omega), w64 (i := b * 256) (by omega) (by omega), w64 (by omega) (by omega)]
      refine ⟨_, _, _, rfl, ?_, fun _ => ?_, by omega, by omega⟩
      · rw [Int.tmod_eq_emod_of_nonneg (by omega)]; exact Int.emod_nonneg _ (by omega)
      · rw [Int.tmod_eq_emod_of_nonneg (by omega)]; exact Int.emod_lt_of_pos _ (by omega)
    · rw [if_neg h2, if_neg (by omega)]
      refine ⟨Int.tmod b n, a + 1, s1, rfl, ?_, fun _ => ?_, by omega, by omega⟩
      · rw [Int.tmod_eq_emod_of_nonneg (by omega)]; exact Int.emod_nonneg _ (by omega)
      · rw [Int.tmod_eq_emod_of_nonneg (by omega)]; exact Int.emod_lt_of_pos _ (by omega)
theorem one_ok {code : List Int} (hc : bytesOk code) (a s n : Int) (h0 : 0 ≤ a) (h1 : a ≤ 900000000000) (hn : n ≤ 65535) : ∃ b a' s', spec_l1Cur_one.f code a s n = some (b, a', s') ∧ a ≤ a' ∧ a' ≤ a + 2 := by
  obtain ⟨x, a', s', e, _, _, h2, h3⟩ := pick_ok hc a s n h0 h1 hn
  unfold spec_l1Cur_one.f
  rw [e]
  exact ⟨_, _, _, rfl, h2, h3⟩
theorem among_ok {code : List Int} (hc : bytesOk code) (a s : Int) (l : List Int) (h0 : 0 ≤ a) (h1 : a ≤ 900000000000) (hl : 1 ≤ l.length) (hn : l.length ≤ 65535) : ∃ x a' s', spec_l1Cur_among.f code a s l = some (x, a', s') ∧ x ∈ l ∧ a ≤ a' ∧ a' ≤ a + 2 := by
  obtain ⟨x, a', s', e, x0, x1, h2, h3⟩ := pick_ok hc a s (l.length : Int) h0 h1 (by omega)
  unfold spec_l1Cur_among.f
  rw [e]
  simp only [Option.bind_some]
  rw [if_pos x0, if_pos (x1 (by omega))]
  refine ⟨_, _, _, rfl, ?_, h2, h3⟩
  have e : rd l x = l.getD x.toNat 0 := rfl
  have hx : x.toNat < l.length := by have := x1 (by omega); omega
  rw [e, List.getD_eq_getElem?_getD, List.getElem?_eq_getElem hx]
  exact List.getElem_mem hx
end Go.Proofs.Ytioeomjjfajldaa.PL
end
section
/- Drawn weights: something is drawn, and it is short. -/
set_option linter.unusedVariables false
set_option linter.unusedSimpArgs false
namespace Go.Proofs.Ytioeomjjfajldaa.PL
open Go.RowKit Go.Proofs.Ytioeomjjfajldaa.Pp Go.Proofs.Ytioeomjjfajldaa.PB Go.Proofs.YtioeomjjfajldaaW.PrintWords Go.Proofs.YtioeomjjfajldaaW.PrintLast
theorem weights_loop {code : List Int} (hc : bytesOk code) : ∀ (n : Nat) (l : List Int) (a s : Int), 0 ≤ a → a + 2 * n ≤ 800000000000 → l.length + n ≤ 20 → 1 ≤ l.length + n → ∃ l' a' s', Ev (fun k => spec_l1Cur_weights.l0 k l (n : Int) code a s) (l', a', s') ∧ l'.length ≤ 20 ∧ a ≤ a' ∧ a' ≤ a + 2 * n + 4
  | 0, l, a, s, h0, h1, hl, hp => by
    obtain ⟨x, a1, s1, e1, _, _, q1, q2⟩ := pick_ok hc a s 30 h0 (by omega) (by omega)
    by_cases hx : x = 0
    · obtain ⟨y, a2, s2, e2, _, q3, q4⟩ := among_ok hc a1 s1 [(-1), 50, 51] (by omega) (by omega) (by simp) (by simp)
      refine ⟨l.set (0 : Int).toNat y, a2, s2, Ev.succ ?_, by rw [List.length_set]; omega, by omega, by omega⟩
      simp only [spec_l1Cur_weights.l0]
      exact Ev.neg (by omega) (Ev.cbind _ e1 (Ev.pos hx (Ev.cbind _ e2 (Ev.pos (by omega) (Ev.const rfl)))))
    · by_cases hx1 : x = 1
      · refine ⟨[0, 0], a1, s1, Ev.succ ?_, by simp, by omega, by omega⟩
        simp only [spec_l1Cur_weights.l0]
        exact Ev.neg (by omega) (Ev.cbind _ e1 (Ev.neg hx (Ev.pos hx1 (Ev.const rfl))))
      · refine ⟨l, a1, s1, Ev.succ ?_, by omega, by omega, by omega⟩
        simp only [spec_l1Cur_weights.l0]
        exact Ev.neg (by omega) (Ev.cbind _ e1 (Ev.neg hx (Ev.neg hx1 (Ev.const rfl))))
  | n + 1, l, a, s, h0, h1, hl, hp => by
    obtain ⟨x, a1, s1, e1, _, _, q1, q2⟩ := pick_ok hc a s 8 h0 (by omega) (by omega)
    obtain ⟨l', a', s', h, g1, g2, g3⟩ := weights_loop hc n (l ++ [x]) a1 s1 (by omega) (by omega) (by simp; omega) (by simp; omega)
    refine ⟨l', a', s', Ev.succ ?_, g1, by omega, by omega⟩
    simp only [spec_l1Cur_weights.l0]
    refine Ev.pos (by omega) (Ev.cbind _ e1 (Ev.pos (by omega) ?_))
    rw [w64 (by omega) (by omega), show ((n + 1 : Nat) : Int) - 1 = (n : Int) from by omega]
    exact h
theorem weights_ok {code : List Int} (hc : bytesOk code) (a s : Int) (h0 : 0 ≤ a) (h1 : a ≤ 700000000000) : ∃ l a' s', Ev (fun k => spec_l1Cur_weights.f k code a s) (l, a', s') ∧ l.length ≤ 20 ∧ a ≤ a' ∧ a' ≤ a + 100 := by
  unfold spec_l1Cur_weights.f
  obtain ⟨x, a1, s1, e1, x0, x1, q1, q2⟩ := pick_ok hc a s 5 h0 (by omega) (by omega)
  obtain ⟨b, a2, s2, e2, q3, q4⟩ := one_ok hc a1 s1 20 (by omega) (by omega) (by omega)
  have hx := x1 (by omega)
  cases b with
  | true =>
    obtain ⟨y, a3, s3, e3, y0, y1, q5, q6⟩ := pick_ok hc a2 s2 2 (by omega) (by omega) (by omega)
    have hy := y1 (by omega)
    obtain ⟨l', a', s', h, g1, g2, g3⟩ := weights_loop hc (12 + y.toNat) [] a3 s3 (by omega) (by omega) (by simp only [List.length_nil]; omega) (by simp only [List.length_nil]; omega)
    refine ⟨l', a', s', Ev.cbind _ e1 (Ev.cbind _ e2 (Ev.ite_true (Ev.cbind _ e3 (Ev.succ ?_)))), g1, by omega, by omega⟩
    simp only [spec_l1Cur_weights.j0]
    rw [w64 (by omega) (by omega), show (12 : Int) + y = ((12 + y.toNat : Nat) : Int) from by omega]
    exact h
  | false =>
    obtain ⟨l', a', s', h, g1, g2, g3⟩ := weights_loop hc (1 + x.toNat) [] a2 s2 (by omega) (by omega) (by simp only [List.length_nil]; omega) (by simp only [List.length_nil]; omega)
    refine ⟨l', a', s', Ev.cbind _ e1 (Ev.cbind _ e2 (Ev.ite_false (Ev.succ ?_))), g1, by omega, by omega⟩
    simp only [spec_l1Cur_weights.j0]
    rw [w64 (by omega) (by omega), show (1 : Int) + x = ((1 + x.toNat : Nat) : Int) from by omega]
    exact h
end Go.Proofs.Ytioeomjjfajldaa.PL
end
section
/- Drawn columns: something is drawn, and it is short. -/
set_option linter.unusedVariables false
set_option linter.unusedSimpArgs false
namespace Go.Proofs.Ytioeomjjfajldaa.PL
open Go.RowKit Go.Proofs.Ytioeomjjfajldaa.Pp Go.Proofs.Ytioeomjjfajldaa.PB Go.Proofs.YtioeomjjfajldaaW.PrintWords Go.Proofs.YtioeomjjfajldaaW.PrintLast
theorem total_any (l : List Int) (hl : l.length ≤ 1048576) : ∃ t, Ev (fun k => spec_l12Total.f k l) t := by
  refine ⟨l.foldl (fun s x => wrap64 (s + x)) 0, ?_⟩
  unfold spec_l12Total.f
  refine loop_list l (fun k S i => spec_l12Total.l0 k S l (l.length : Int) i) (fun S t => t.foldl (fun s x => wrap64 (s + x)) S) (fun _ _ => True) ?_ ?_ 0 trivial
  · intro S hS
    apply Ev.succ
    simp only [spec_l12Total.l0]
    exact Ev.neg (by omega) (Ev.const rfl)
  · intro p x t S e hS ih
    have hm := len_mid e
    apply Ev.succ
    simp only [spec_l12Total.l0, rd_mid' e]
    refine Ev.pos hm.1 (Ev.pos (by omega) (Ev.pos hm.1 ?_))
    rw [w64 (i := (p.length : Int) + 1) (by omega) (by omega)]
    exact ih _ trivial
theorem columns_end {code : List Int} (hc : bytesOk code) (m : List S_Column) (t a s : Int) (h0 : 0 ≤ a) (h1 : a ≤ 800000000000) : ∃ t' a' s', Ev (fun k => spec_l1Cur_columns.j0 k m t code a s) (m, t', a', s') ∧ 0 ≤ a' ∧ a' ≤ 810000000000 := by
  obtain ⟨b, a1, s1, e1, q1, q2⟩ := one_ok hc a s 20 h0 (by omega) (by omega)
  cases b with
  | true =>
    obtain ⟨x, a2, s2, e2, _, _, q3, q4⟩ := pick_ok hc a1 s1 3 (by omega) (by omega) (by omega)
    refine ⟨wrap64 (t + wrap64 (x - 1)), a2, s2, Ev.succ ?_, by omega, by omega⟩
    simp only [spec_l1Cur_columns.j0]
    exact Ev.cbind _ e1 (Ev.ite_true (Ev.cbind _ e2 (Ev.const rfl)))
  | false =>
    refine ⟨t, a1, s1, Ev.succ ?_, by omega, by omega⟩
    simp only [spec_l1Cur_columns.j0]
    exact Ev.cbind _ e1 (Ev.ite_false (Ev.const rfl))
theorem columns_ok {code : List Int} (hc : bytesOk code) (a s : Int) (h0 : 0 ≤ a) (h1 : a ≤ 600000000000) : ∃ m t a' s', Ev (fun k => spec_l1Cur_columns.f k code a s) (m, t, a', s') ∧ m.length ≤ 20 ∧ 0 ≤ a' ∧ a' ≤ 810000000000 := by
  unfold spec_l1Cur_columns.f
  obtain ⟨w, a1, s1, e1, g1, g2, g3⟩ := weights_ok hc a s h0 (by omega)
  obtain ⟨t, ht⟩ := total_any w (by omega)
  have hal := specAlias_eq w (by omega)
  have hl := aliasA_len w
  have hpos : (aliasA w).2 = true → 1 ≤ (aliasA w).1.length := fun h => by
    unfold aliasA at h ⊢
    by_cases hg : goodW w = true
    · obtain ⟨k1, _⟩ := goodW_out hg
      rw [if_pos hg]
      simp only
      rw [alA_len, cini_len]
      exact k1
    · rw [if_neg hg] at h
      cases h
  generalize aliasA w = R at hal hl hpos
  obtain ⟨m, o⟩ := R
  simp only at hl hpos
  cases o with
  | false => exact ⟨[(⟨3, 0⟩ : S_Column)], 5, a1, s1, Ev.bind' _ e1 (Ev.bind' _ hal (Ev.bind' _ ht (Ev.ite_false (Ev.const rfl)))), by simp, by omega, by omega⟩
  | true =>
    have hm := hpos rfl
    obtain ⟨b, a2, s2, e2, q1, q2⟩ := one_ok hc a1 s1 12 (by omega) (by omega) (by omega)
    cases b with
    | false =>
      obtain ⟨t', a', s', h, r1, r2⟩ := columns_end hc m t a2 s2 (by omega) (by omega)
      exact ⟨m, t', a', s', Ev.bind' _ e1 (Ev.bind' _ hal (Ev.bind' _ ht (Ev.ite_true (Ev.cbind _ e2 (Ev.ite_false h))))), by omega, by omega, by omega⟩
    | true =>
      obtain ⟨x, a3, s3, e3, x0, x1, q3, q4⟩ := pick_ok hc a2 s2 (m.length : Int) (by omega) (by omega) (by omega)
      have hx := x1 (by omega)
      obtain ⟨y, a4, s4, e4, _, _, q5, q6⟩ := pick_ok hc a3 s3 3 (by omega) (by omega) (by omega)
      obtain ⟨v, a5, s5, e5, _, _, q7, q8⟩ := pick_ok hc a4 s4 (wrap64 ((m.length : Int) + 1)) (by omega) (by omega) (by rw [w64 (by omega) (by omega)]; omega)
      obtain ⟨t', a', s', h, r1, r2⟩ := columns_end hc ((m.set x.toNat (⟨wrap64 ((rd_TColumn m x).f0 + wrap64 (y - 1)), (rd_TColumn m x).f1⟩ : S_Column)).set x.toNat (⟨(rd_TColumn (m.set x.toNat (⟨wrap64 ((rd_TColumn m x).f0 + wrap64 (y - 1)), (rd_TColumn m x).f1⟩ : S_Column)) x).f0, v⟩ : S_Column)) t a5 s5 (by omega) (by omega)
      exact ⟨_, t', a', s', Ev.bind' _ e1 (Ev.bind' _ hal (Ev.bind' _ ht (Ev.ite_true (Ev.cbind _ e2 (Ev.ite_true (Ev.cbind _ e3 (Ev.pos x0 (Ev.pos hx (Ev.cbind _ e4 (Ev.cbind _ rfl (Ev.cbind _ e5 h))))))))))), by rw [List.length_set, List.length_set]; omega, by omega, by omega⟩
theorem drawAlias_ok {code : List Int} (hc : bytesOk code) : ∃ l, Ev (fun k => spec_DrawAliasOf.f k code) l ∧ l.length ≤ 20 := by
  obtain ⟨l, a, s, e, h, _⟩ := weights_ok hc 0 0 (by omega) (by omega)
  refine ⟨l, ?_, h⟩
  unfold spec_DrawAliasOf.f spec_DrawGoodWeights.f
  exact Ev.bind' _ (Ev.bind' _ e (Ev.const rfl)) (Ev.const rfl)
theorem drawPick_ok {code : List Int} (hc : bytesOk code) : ∃ m t d, Ev (fun k => spec_DrawPickBy.f k code) (m, t, d) ∧ m.length ≤ 20 := by
  obtain ⟨m, t, a, s, e, h, h0, h1⟩ := columns_ok hc 0 0 (by omega) (by omega)
  obtain ⟨x, a2, s2, e2, _⟩ := pick_ok hc a s 400 h0 (by omega) (by omega)
  refine ⟨m, t, wrap64 (x - 1), ?_, h⟩
  unfold spec_DrawPickBy.f
  exact Ev.bind' _ e (Ev.cbind _ e2 (Ev.const rfl))
end Go.Proofs.Ytioeomjjfajldaa.PL
end
section
/- PickBy: the program's and the reference's come to the same. -/
set_option linter.unusedVariables false
set_option linter.unusedSimpArgs false
namespace Go.Proofs.Ytioeomjjfajldaa.PL
open Go.RowKit Go.Proofs.Ytioeomjjfajldaa.Pp Go.Proofs.Ytioeomjjfajldaa.PB Go.Proofs.YtioeomjjfajldaaW.PrintWords Go.Proofs.YtioeomjjfajldaaW.PrintLast
/-- What is picked. -/
def pk (l : List S_Column) (n d : Int) : Int := if Int.tmod d n < (rd_TColumn l (Int.tdiv d n)).f0 then Int.tdiv d n else (rd_TColumn l (Int.tdiv d n)).f1
def pkB (l : List S_Column) (n d : Int) : Int × Bool := if fitsA l n = true ∧ inR d 0 ((l.length : Int) * n - 1) = true then (pk l n d, true) else (0, false)
theorem fits_bounds {l : List S_Column} {n : Int} (h : fitsA l n = true) : 1 ≤ l.length ∧ l.length ≤ 12 ∧ 1 ≤ n ∧ n ≤ 600 := by
  simp only [fitsA, goodA, Bool.and_eq_true, inR, decide_eq_true_eq] at h
  omega
theorem mul_bounds {a : Nat} {n : Int} (h1 : 1 ≤ a) (h2 : a ≤ 12) (h3 : 1 ≤ n) (h4 : n ≤ 600) : 1 ≤ (a : Int) * n ∧ (a : Int) * n ≤ 7200 := by
  have h5 : (1 : Int) * 1 ≤ (a : Int) * n := Int.mul_le_mul (by omega) h3 (by omega) (by omega)
  have h6 : (a : Int) * n ≤ 12 * 600 := Int.mul_le_mul (by omega) h4 (by omega) (by omega)
  omega
theorem div_bounds {a : Nat} {n d : Int} (h3 : 1 ≤ n) (h0 : 0 ≤ d) (h : d ≤ (a : Int) * n - 1) : 0 ≤ Int.tdiv d n ∧ Int.tdiv d n < a := by
  rw [Int.tdiv_eq_ediv_of_nonneg h0]
  refine ⟨Int.ediv_nonneg h0 (by omega), ?_⟩
  exact Int.ediv_lt_of_lt_mul (by omega) (by omega)
theorem specPick_eq (l : List S_Column) (n d : Int) (hl : l.length ≤ 1048576) : Ev (fun k => spec_PickBy.f k l n d) (pkB l n d) := by
  unfold spec_PickBy.f pkB
  refine Ev.bind' _ (specFits_eq l n hl) ?_
  cases hf : fitsA l n with
  | false =>
    refine Ev.ite_false ?_
    apply Ev.succ
    simp only [spec_PickBy.j0]
    exact Ev.const (by simp)
  | true =>
    obtain ⟨a1, a2, a3, a4⟩ := fits_bounds hf
    have hm := mul_bounds a1 a2 a3 a4
    refine Ev.ite_true ?_
    rw [w64 (i := (l.length : Int) * n) (by omega) (by omega), w64 (by omega) (by omega)]
    refine Ev.cbind _ (l1In_eq _ _ _) ?_
    apply Ev.succ
    simp only [spec_PickBy.j0]
    cases hd : inR d 0 ((l.length : Int) * n - 1) with
    | false => exact Ev.pos rfl (Ev.const (by simp))
    | true =>
      have hd' : 0 ≤ d ∧ d ≤ (l.length : Int) * n - 1 := by simpa [inR] using hd
      have hq := div_bounds a3 hd'.1 hd'.2
      refine Ev.neg (by simp) (Ev.neg (by omega) ?_)
      rw [w64 (by omega) (by omega)]
      refine Ev.pos hq.1 (Ev.pos hq.2 ?_)
      by_cases hp : Int.tmod d n < (rd_TColumn l (Int.tdiv d n)).f0
      · exact Ev.pos hp (Ev.const (by simp [pk, hp]))
      · exact Ev.neg hp (Ev.const (by simp [pk, hp]))
theorem implPick_eq (l : List S_Column) (n d : Int) (hl : l.length ≤ 1048576) : Ev (fun k => impl_PickBy.f k l n d) (pkB l n d) := by
  unfold impl_PickBy.f pkB
  refine Ev.bind' _ (implAre_eq l n hl) ?_
  cases hf : fitsA l n with
  | false => exact Ev.ite_false (Ev.const (by simp))
  | true =>
    obtain ⟨a1, a2, a3, a4⟩ := fits_bounds hf
    have hm := mul_bounds a1 a2 a3 a4
    refine Ev.ite_true ?_
    rw [w64 (i := (l.length : Int) * n) (by omega) (by omega), w64 (by omega) (by omega)]
    refine Ev.cbind _ (within_eq _ _ _) ?_
    cases hd : inR d 0 ((l.length : Int) * n - 1) with
    | false => exact Ev.ite_false (Ev.const (by simp))
    | true =>
      have hd' : 0 ≤ d ∧ d ≤ (l.length : Int) * n - 1 := by simpa [inR] using hd
      have hq := div_bounds a3 hd'.1 hd'.2
      refine Ev.ite_true (Ev.cbind (pk l n d) ?_ (Ev.const (by simp)))
      unfold impl_pickBy.f pk
      rw [if_neg (by omega), w64 (by omega) (by omega), if_pos hq.1, if_pos hq.2]
      split <;> rfl
end Go.Proofs.Ytioeomjjfajldaa.PL
end
section
/- What FnAlias's own loops come to. -/
set_option linter.unusedVariables false
set_option linter.unusedSimpArgs false
namespace Go.Proofs.Ytioeomjjfajldaa.PL
open Go.RowKit Go.Proofs.Ytioeomjjfajldaa.Pp Go.Proofs.Ytioeomjjfajldaa.PB Go.Proofs.YtioeomjjfajldaaW.PrintWords Go.Proofs.YtioeomjjfajldaaW.PrintLast
theorem wf8 (x : Int) (h : (Lit.int .u8 x).wf = true) : 0 ≤ x ∧ x ≤ 255 := by
  simp only [Lit.wf, Bool.and_eq_true, decide_eq_true_eq] at h
  have h0 : (IntKind.u8).min = 0 := rfl
  have h1 : (IntKind.u8).max = 255 := rfl
  omega
theorem same_eq (l : List Int) (hl : l.length ≤ 1048576) : Ev (fun k => laws_sameInts.f k l l) true := by
  unfold laws_sameInts.f
  refine Ev.pos rfl ?_
  refine loop_list l (fun k (_ : Unit) i => laws_sameInts.l0 k l l (l.length : Int) i) (fun _ _ => true) (fun _ _ => True) ?_ ?_ () trivial
  · intro _ _
    apply Ev.succ
    simp only [laws_sameInts.l0]
    exact Ev.neg (by omega) (Ev.const rfl)
  · intro p x t s e _ ih
    have hm := len_mid e
    apply Ev.succ
    simp only [laws_sameInts.l0]
    refine Ev.pos hm.1 (Ev.pos (by omega) (Ev.pos hm.1 (Ev.pos hm.1 (Ev.pos (by simp) ?_))))
    rw [w64 (by omega) (by omega)]
    exact ih () trivial
theorem aliasA_ok (l : List Int) : (aliasA l).2 = goodW l := by
  unfold aliasA
  cases goodW l <;> simp
/-- The counts are there, round for round. -/
theorem often_runs {C : List S_Column} {T : Int} (hC : C.length ≤ 12) (hT0 : 1 ≤ T) (hT : T ≤ 600) (hf : fitsA C T = true) : ∃ K, impl_OftenIn.l0 K C T (List.replicate C.length 0) ((C.length : Int) * T) 0 = some (oft T (List.replicate C.length 0) 0 C, true) := by
  have hub : (C.length : Int) * T ≤ 12 * 600 := Int.mul_le_mul (by omega) (by omega) (by omega) (by omega)
  have hnn : 0 ≤ (C.length : Int) * T := Int.mul_nonneg (by omega) (by omega)
  obtain ⟨K, h⟩ := Ev.get (implOften_eq C T (by omega))
  rw [oftenA, if_pos hf] at h
  unfold impl_OftenIn.f at h
  obtain ⟨b, _, h⟩ := Option.bind_eq_some_iff.1 h
  cases b with
  | false => simp at h
  | true =>
    rw [if_pos rfl, if_pos (by omega), if_pos (by omega), Int.toNat_natCast, w64 (by omega) (by omega)] at h
    exact ⟨K, h⟩
end Go.Proofs.Ytioeomjjfajldaa.PL
end
section
/- Of all draws each is picked just in the part that it weighs, for drawn weights; no condition beyond the row's own. -/
set_option linter.unusedVariables false
namespace Go.Proofs.Ytioeomjjfajldaa.Pure
open Go.RowKit Go.Proofs.Ytioeomjjfajldaa.Pp Go.Proofs.Ytioeomjjfajldaa.PB Go.Proofs.Ytioeomjjfajldaa.PL Go.Proofs.YtioeomjjfajldaaW.PrintWords Go.Proofs.YtioeomjjfajldaaW.PrintLast
section
variable {x1 : List Int} {m : List S_Column} {t d : Int} (hd : Ev (fun k => spec_DrawPickBy.f k x1) (m, t, d)) (hm : m.length ≤ 20)
include hd hm
theorem endP : Ev (fun k => (spec_DrawPickBy.f k x1).bind fun bt => ((impl_PickBy.f k bt.1 bt.2.1 bt.2.2).bind fun a => ((spec_PickBy.f k bt.1 bt.2.1 bt.2.2).bind fun b => (if (a.2 == b.2) = true then (some (a.1 == b.1)) else (some false))))) true :=
  Ev.bind' _ hd (Ev.bind' _ (implPick_eq m t d (by omega)) (Ev.bind' _ (specPick_eq m t d (by omega)) (Ev.pos (by simp) (Ev.const (by simp)))))
theorem l3_of {l : List Int} {C : List S_Column} {T : Int} {res : List Int} (hl : C.length = l.length) (hC : C.length ≤ 12) (hT0 : 1 ≤ T) (hT : T ≤ 600) (hf : fitsA C T = true) (hr : res.length ≤ 1048576) :
    ∀ (K : Nat) (x : List Int) (e : Int), 0 ≤ e → x.length = C.length → impl_OftenIn.l0 K C T x ((C.length : Int) * T) e = some (res, true) → Ev (fun k => laws_FnAlias.l3 k x1 l C T res x e) true := by
  have hub : (C.length : Int) * T ≤ 12 * 600 := Int.mul_le_mul (by omega) (by omega) (by omega) (by omega)
  have hnn : 0 ≤ (C.length : Int) * T := Int.mul_nonneg (by omega) (by omega)
  intro K
  induction K with
  | zero => intro x e _ _ h; simp [impl_OftenIn.l0] at h
  | succ K ih =>
    intro x e he hx h
    simp only [impl_OftenIn.l0] at h
    apply Ev.succ
    simp only [laws_FnAlias.l3]
    rw [← hl, w64 (i := (C.length : Int) * T) (by omega) (by omega)]
    by_cases hlt : e < (C.length : Int) * T
    · rw [if_pos hlt] at h
      obtain ⟨y, hy, h⟩ := Option.bind_eq_some_iff.1 h
      by_cases y0 : 0 ≤ y
      · rw [if_pos y0] at h
        by_cases y1 : y < (x.length : Int)
        · rw [if_pos y1, w64 (i := e + 1) (by omega) (by omega)] at h
          have hin : inR e 0 ((C.length : Int) * T - 1) = true := by
            simp only [inR, decide_eq_true_eq]
            omega
          have hp : Ev (fun k => impl_PickBy.f k C T e) (y, true) := by
            unfold impl_PickBy.f
            refine Ev.bind' _ (implAre_eq C T (by omega)) ?_
            rw [hf]
            refine Ev.ite_true ?_
            rw [w64 (i := (C.length : Int) * T) (by omega) (by omega), w64 (by omega) (by omega)]
            refine Ev.cbind _ (within_eq _ _ _) ?_
            rw [hin]
            exact Ev.ite_true (Ev.cbind _ hy (Ev.const rfl))
          refine Ev.pos hlt (Ev.bind' _ hp (Ev.ite_true (Ev.neg (by omega) (Ev.neg (by omega) (Ev.pos y0 (Ev.pos y1 ?_))))))
          rw [w64 (i := e + 1) (by omega) (by omega)]
          exact ih _ _ (by omega) (by rw [List.length_set]; exact hx) h
        · rw [if_neg y1] at h; cases h
      · rw [if_neg y0] at h; cases h
    · rw [if_neg hlt] at h
      simp only [Option.some.injEq, Prod.mk.injEq, and_true] at h
      subst h
      exact Ev.neg hlt (Ev.bind' _ (same_eq x (by omega)) (Ev.ite_true (endP hd hm)))
theorem law_ok (l : List Int) (hl : l.length ≤ 20) : Ev (fun k => laws_FnAlias.j0 k x1 l (aliasA l).1 (aliasA l).2 (aliasA l).1 false) true := by
  have hlen : (aliasA l).1.length ≤ 20 := Nat.le_trans (aliasA_len l) hl
  apply Ev.succ
  simp only [laws_FnAlias.j0]
  refine Ev.neg (by simp) ?_
  refine loop_list (aliasA l).1 (fun k (_ : Unit) i => laws_FnAlias.l0 k x1 l (aliasA l).1 (aliasA l).2 (aliasA l).1 ((aliasA l).1.length : Int) i) (fun _ _ => true) (fun _ _ => True) ?_ ?_ () trivial
  · intro _ _
    apply Ev.succ
    simp only [laws_FnAlias.l0]
    refine Ev.neg (by omega) ?_
    rw [aliasA_ok]
    cases hg : goodW l with
    | false => exact Ev.neg (by simp) (endP hd hm)
    | true =>
      refine Ev.pos rfl ?_
      obtain ⟨k1, k2, k3, k4, k5⟩ := goodW_out hg
      obtain ⟨f1, f2, f3⟩ := alias_often hg
      have hga : goodA (aliasA l).1 = true := by
        have := f1
        simp only [fitsA, Bool.and_eq_true] at this
        exact this.1
      generalize (aliasA l).1 = C at f1 f2 f3 hga hlen ⊢
      obtain ⟨K, hK⟩ := often_runs (C := C) (T := l.sum) (by omega) (by omega) k5 f1
      rw [← f2] at f3
      have hol : (oft l.sum (List.replicate C.length 0) 0 C).length = C.length := by rw [oft_length]; simp
      have hoe : Ev (fun k => impl_OftenIn.f k C l.sum) (oft l.sum (List.replicate C.length 0) 0 C, true) := by
        have := implOften_eq C l.sum (by omega)
        rw [oftenA, if_pos f1] at this
        exact this
      generalize oft l.sum (List.replicate C.length 0) 0 C = O at f3 hK hol hoe
      refine Ev.eq_ (loop_list l (fun k S i => laws_FnAlias.l1 k x1 l C S l (l.length : Int) i) (fun _ _ => true) (fun p S => S = p.sum ∧ 0 ≤ S ∧ S ≤ 50 * p.length) ?_ ?_ 0 (by simp)) rfl
      · rintro S ⟨rfl, hS⟩
        apply Ev.succ
        simp only [laws_FnAlias.l1]
        refine Ev.neg (by omega) (Ev.bind' _ hoe (Ev.ite_true (Ev.bind' _ (implGoodAlias_eq C (by omega)) ?_)))
        rw [hga]
        refine Ev.ite_true (Ev.succ ?_)
        simp only [laws_FnAlias.j3]
        refine Ev.neg (by simp [f2]) ?_
        refine Ev.eq_ (loop_list l (fun k (_ : Unit) i => laws_FnAlias.l2 k x1 l C l.sum O l (l.length : Int) i) (fun _ _ => true) (fun _ _ => True) ?_ ?_ () trivial) rfl
        · intro _ _
          apply Ev.succ
          simp only [laws_FnAlias.l2]
          refine Ev.neg (by omega) ?_
          by_cases h40 : l.sum ≤ 40
          · refine Ev.pos h40 (Ev.pos (by omega) (Ev.pos (by omega) ?_))
            rw [Int.toNat_natCast, ← f2]
            exact l3_of hd hm f2 (by omega) (by omega) k5 f1 (by omega) K _ 0 (by omega) (by simp) hK
          · exact Ev.neg h40 (endP hd hm)
        · intro p x t _ e _ ih
          have hmid := len_mid e
          have hb := k3 x (mem_mid e)
          have h1 : 0 ≤ x * (l.length : Int) := Int.mul_nonneg hb.1 (by omega)
          have h2 : x * (l.length : Int) ≤ 50 * 12 := Int.mul_le_mul hb.2 (by omega) (by omega) (by omega)
          have hx : l.getD p.length 0 = x := by rw [← rdn, rd_mid' e]
          apply Ev.succ
          simp only [laws_FnAlias.l2, rd_mid' e]
          refine Ev.pos hmid.1 (Ev.pos (by omega) (Ev.pos hmid.1 (Ev.pos (by omega) (Ev.pos ?_ ?_))))
          · rw [rdn, f3 _ (by omega), hx, w64 (by omega) (by omega), f2]
          · rw [w64 (by omega) (by omega)]
            exact ih () trivial
      · rintro p x t S e ⟨rfl, hS⟩ ih
        have hmid := len_mid e
        have hb := k3 x (mem_mid e)
        apply Ev.succ
        simp only [laws_FnAlias.l1, rd_mid' e]
        refine Ev.pos hmid.1 (Ev.pos (by omega) (Ev.pos hmid.1 ?_))
        rw [w64 (by omega) (by omega), w64 (by omega) (by omega)]
        exact ih _ ⟨by simp, by omega, by simp; omega⟩
  · intro p x t _ e _ ih
    have hmid := len_mid e
    apply Ev.succ
    simp only [laws_FnAlias.l0]
    refine Ev.pos hmid.1 (Ev.pos (by omega) (Ev.pos hmid.1 (Ev.pos hmid.1 (Ev.neg (by simp) ?_))))
    rw [w64 (by omega) (by omega)]
    exact ih () trivial
end
theorem FnAlias : laws_FnAlias.Pure := by
  rintro a b ⟨_, ha⟩ ⟨_, hb⟩
  refine Ev.get (g := fun k => laws_FnAlias.f k a b) ?_
  unfold laws_FnAlias.f
  by_cases h : wrap64 ((a.length : Int) + (b.length : Int)) > 1048576
  · exact Ev.pos h (Ev.const rfl)
  · have ca : bytesOk a := ⟨trivial, fun x hx => wf8 x (ha x hx)⟩
    have cb : bytesOk b := ⟨trivial, fun x hx => wf8 x (hb x hx)⟩
    obtain ⟨l, hl, hlen⟩ := drawAlias_ok ca
    obtain ⟨m, t, d, hd, hm⟩ := drawPick_ok cb
    refine Ev.neg h (Ev.bind' _ hl (Ev.bind' _ (implAlias_eq l (by omega)) (Ev.bind' _ (specAlias_eq l (by omega)) (Ev.neg (by simp) (Ev.pos rfl (Ev.bind' _ (implGW_eq l (by omega)) ?_))))))
    rw [aliasA_ok, bne_self_eq_false]
    have := law_ok hd hm l hlen
    rw [aliasA_ok] at this
    exact this
end Go.Proofs.Ytioeomjjfajldaa.Pure
end
