/- In as many turns as all weights together each is picked as often as it weighs, and then it begins anew. -/
import Derived.Test.YtioeomjjfajldaaZLPTurns
set_option linter.unusedVariables false
set_option linter.unusedSimpArgs false
namespace Go.Proofs.Ytioeomjjfajldaa.PL
open Go.RowKit Go.Proofs.Ytioeomjjfajldaa.Pp Go.Proofs.Ytioeomjjfajldaa.PB Go.Proofs.YtioeomjjfajldaaW.PrintWords Go.Proofs.YtioeomjjfajldaaW.PrintLast
def stT (w : List Int) : Nat → List Int → List Int
  | 0, b => b
  | n + 1, b => stT w n (nextL w b).1
theorem stT_add (w : List Int) : ∀ (m n : Nat) (b : List Int), stT w (m + n) b = stT w n (stT w m b)
  | 0, n, b => by rw [Nat.zero_add, stT]
  | m + 1, n, b => by
    rw [show m + 1 + n = (m + n) + 1 from by omega, stT, stT, stT_add w m n]
theorem stT_inv {w : List Int} : ∀ (n : Nat) {b : List Int}, invT w b → invT w (stT w n b)
  | 0, b, h => h
  | n + 1, b, h => stT_inv n (invT_next h)
def pkT (w : List Int) (i : Nat) (b : List Int) : Nat := (nextL w (stT w i b)).2
theorem runT_get (w : List Int) : ∀ (n i : Nat) (b : List Int), i < n → (runT w n b)[i]? = some (pkT w i b : Int)
  | 0, i, b, h => by omega
  | n + 1, 0, b, h => rfl
  | n + 1, i + 1, b, h => by
    rw [runT, List.getElem?_cons_succ, runT_get w n i _ (by omega)]
    rfl
/-- How often i is picked. -/
def cntT (l : List Int) (i : Nat) : Int := (l.map fun x => if x = (i : Int) then (1 : Int) else 0).sum
theorem nextL_get {w b : List Int} (h : invT w b) (i : Nat) (hi : i < w.length) : (nextL w b).1.getD i 0 = b.getD i 0 + w.getD i 0 - (if ((nextL w b).2 : Int) = (i : Int) then w.sum else 0) := by
  obtain ⟨h1, h2, h3, h4⟩ := h
  obtain ⟨k1, k2, k3, k4, k5⟩ := goodW_out h1
  have hl := addL_len h2
  have hp := bu_lt (addL b w) w.length w.length (Nat.le_refl _) (by omega)
  have hg := addL_get h2 i hi
  unfold nextL
  simp only
  generalize bu (addL b w) w.length = p at hp
  by_cases e : p = i
  · subst e
    rw [if_pos rfl, List.getD_eq_getElem?_getD, List.getElem?_set_self (by omega)]
    simp only [Option.getD_some]
    omega
  · rw [if_neg (by omega), List.getD_eq_getElem?_getD, List.getElem?_set_ne e, ← List.getD_eq_getElem?_getD]
    omega
theorem stT_get {w : List Int} (i : Nat) (hi : i < w.length) : ∀ (n : Nat) {b : List Int}, invT w b → (stT w n b).getD i 0 = b.getD i 0 + n * w.getD i 0 - w.sum * cntT (runT w n b) i
  | 0, b, h => by simp [stT, runT, cntT]
  | n + 1, b, h => by
    rw [stT, stT_get i hi n (invT_next h), nextL_get h i hi, runT]
    have e : cntT (((nextL w b).2 : Int) :: runT w n (nextL w b).1) i = (if ((nextL w b).2 : Int) = (i : Int) then (1 : Int) else 0) + cntT (runT w n (nextL w b).1) i := by simp [cntT]
    rw [e, Int.mul_add, show ((n + 1 : Nat) : Int) = (n : Int) + 1 from by omega, Int.add_mul, Int.one_mul]
    split
    · rw [Int.mul_one]; omega
    · rw [Int.mul_zero]; omega
theorem sum_zero (l : List Int) (h : ∀ v ∈ l, 0 ≤ v) (hs : l.sum = 0) : ∀ v ∈ l, v = 0 := by
  induction l with
  | nil => intro v hv; simp at hv
  | cons x t ih =>
    have hx := h x (by simp)
    have ht : 0 ≤ t.sum := by
      have : ∀ t : List Int, (∀ v ∈ t, 0 ≤ v) → 0 ≤ t.sum := by
        intro t
        induction t with
        | nil => intro _; simp
        | cons y s ih => intro h; have := h y (by simp); have := ih (fun v hv => h v (by simp [hv])); simp only [List.sum_cons]; omega
      exact this t (fun v hv => h v (by simp [hv]))
    simp only [List.sum_cons] at hs
    intro v hv
    rcases List.mem_cons.1 hv with rfl | hv
    · omega
    · exact ih (fun v hv => h v (by simp [hv])) (by omega) v hv
theorem period {w : List Int} (hg : goodW w = true) : stT w w.sum.toNat (List.replicate w.length 0) = List.replicate w.length 0 ∧ ∀ i, i < w.length → cntT (runT w w.sum.toNat (List.replicate w.length 0)) i = w.getD i 0 := by
  obtain ⟨k1, k2, k3, k4, k5⟩ := goodW_out hg
  have hi := stT_inv w.sum.toNat (invT_zero hg)
  have hget : ∀ i, i < w.length → (stT w w.sum.toNat (List.replicate w.length 0)).getD i 0 = w.sum * (w.getD i 0 - cntT (runT w w.sum.toNat (List.replicate w.length 0)) i) := fun i h => by
    rw [stT_get i h _ (invT_zero hg), List.getD_eq_getElem?_getD, List.getElem?_replicate, if_pos h, Int.mul_sub, show ((w.sum.toNat : Nat) : Int) = w.sum from by omega]
    simp only [Option.getD_some]
    omega
  generalize stT w w.sum.toNat (List.replicate w.length 0) = s at hi hget ⊢
  obtain ⟨i1, i2, i3, i4⟩ := hi
  have hnn : ∀ i, i < w.length → 0 ≤ w.getD i 0 - cntT (runT w w.sum.toNat (List.replicate w.length 0)) i := fun i h => by
    have h1 := i4 _ (getD_mem s i (by omega))
    rw [hget i h] at h1
    rcases Int.lt_or_le (w.getD i 0 - cntT (runT w w.sum.toNat (List.replicate w.length 0)) i) 0 with h2 | h2
    · have h3 : w.sum * (w.getD i 0 - cntT (runT w w.sum.toNat (List.replicate w.length 0)) i) ≤ w.sum * (-1) := Int.mul_le_mul_of_nonneg_left (by omega) (by omega)
      omega
    · exact h2
  have hz : ∀ v ∈ s, v = 0 := sum_zero s (fun v hv => by
    obtain ⟨j, hj, rfl⟩ := List.getElem_of_mem hv
    have h1 := hget j (by omega)
    rw [List.getD_eq_getElem?_getD, List.getElem?_eq_getElem hj] at h1
    simp only [Option.getD_some] at h1
    rw [h1]
    exact Int.mul_nonneg (by omega) (hnn j (by omega))) i3
  refine ⟨List.eq_replicate_iff.2 ⟨i2, hz⟩, fun i h => ?_⟩
  have h1 := hz _ (getD_mem s i (by omega))
  rw [hget i h] at h1
  rcases Int.mul_eq_zero.1 h1 with h2 | h2
  · omega
  · omega
theorem stT_mod {w : List Int} (hg : goodW w = true) : ∀ i : Nat, stT w i (List.replicate w.length 0) = stT w (i % w.sum.toNat) (List.replicate w.length 0) := by
  obtain ⟨k1, k2, k3, k4, k5⟩ := goodW_out hg
  intro i
  induction i using Nat.strongRecOn with
  | ind i ih =>
    by_cases h : i < w.sum.toNat
    · rw [Nat.mod_eq_of_lt h]
    · have e : i = w.sum.toNat + (i - w.sum.toNat) := by omega
      rw [Nat.mod_eq_sub_mod (by omega), ← ih (i - w.sum.toNat) (by omega)]
      conv => lhs; rw [e, stT_add, (period hg).1]
theorem run_mod {w : List Int} (hg : goodW w = true) (m i : Nat) (h : i < m) : rd (runT w m (List.replicate w.length 0)) (i : Int) = rd (runT w w.sum.toNat (List.replicate w.length 0)) (Int.tmod (i : Int) w.sum) := by
  obtain ⟨k1, k2, k3, k4, k5⟩ := goodW_out hg
  have e : Int.tmod (i : Int) w.sum = ((i % w.sum.toNat : Nat) : Int) := by
    rw [Int.tmod_eq_emod_of_nonneg (by omega)]
    conv => lhs; rw [show w.sum = ((w.sum.toNat : Nat) : Int) from by omega]
    exact (Int.natCast_emod _ _).symm
  have hlt : i % w.sum.toNat < w.sum.toNat := Nat.mod_lt _ (by omega)
  rw [e, rdn, rdn, List.getD_eq_getElem?_getD, List.getD_eq_getElem?_getD, runT_get w m i _ h, runT_get w _ _ _ hlt, pkT, pkT, stT_mod hg i]
theorem run_range {w : List Int} (hg : goodW w = true) (m : Nat) : ∀ x ∈ runT w m (List.replicate w.length 0), 0 ≤ x ∧ x < (w.length : Int) := fun x hx => by
  obtain ⟨k1, k2, k3, k4, k5⟩ := goodW_out hg
  obtain ⟨i, hi, rfl⟩ := List.getElem_of_mem hx
  have h := runT_get w m i (List.replicate w.length 0) (by rw [runT_len] at hi; exact hi)
  rw [List.getElem?_eq_getElem hi] at h
  rw [Option.some.inj h]
  have := bu_lt (addL (stT w i (List.replicate w.length 0)) w) w.length w.length (Nat.le_refl _) (by omega)
  unfold pkT nextL
  simp only
  omega
end Go.Proofs.Ytioeomjjfajldaa.PL
