/- A turn further: the program's and the reference's come to the same. -/
import Derived.Test.YtioeomjjfajldaaZLPGT
import Derived.Test.YtioeomjjfajldaaZLPNT
import Derived.Test.YtioeomjjfajldaaJFnTurns0
import Derived.Test.YtioeomjjfajldaaJFnTurns1
set_option linter.unusedVariables false
set_option linter.unusedSimpArgs false
namespace Go.Proofs.Ytioeomjjfajldaa.PL
open Go.RowKit Go.Proofs.Ytioeomjjfajldaa.Pp Go.Proofs.Ytioeomjjfajldaa.PB Go.Proofs.YtioeomjjfajldaaW.PrintWords Go.Proofs.YtioeomjjfajldaaW.PrintLast
theorem rdn (x : List Int) (i : Nat) : rd x (i : Int) = x.getD i 0 := by simp [rd]
theorem getD_mem (x : List Int) (i : Nat) (h : i < x.length) : x.getD i 0 ∈ x := by
  rw [List.getD_eq_getElem?_getD, List.getElem?_eq_getElem h]
  exact List.getElem_mem h
def addL (b w : List Int) : List Int := List.zipWith (· + ·) b w
theorem addL_len {b w : List Int} (h : b.length = w.length) : (addL b w).length = w.length := by simp [addL, h]
theorem addL_get {b w : List Int} (h : b.length = w.length) (i : Nat) (hi : i < w.length) : (addL b w).getD i 0 = b.getD i 0 + w.getD i 0 := by
  have hb : i < b.length := by omega
  simp [addL, List.getD_eq_getElem?_getD, List.getElem?_zipWith, hi, hb]
/-- The first of the greatest of the first n. -/
def bu (y : List Int) : Nat → Nat
  | 0 => 0
  | n + 1 => if y.getD n 0 > y.getD (bu y n) 0 then n else bu y n
theorem bu_le (y : List Int) : ∀ n, bu y (n + 1) ≤ n
  | 0 => by simp [bu]
  | n + 1 => by
    have h := bu_le y n
    have e : bu y (n + 1 + 1) = if y.getD (n + 1) 0 > y.getD (bu y (n + 1)) 0 then n + 1 else bu y (n + 1) := rfl
    rw [e]
    split <;> omega
theorem bu_lt (y : List Int) (n m : Nat) (h : n ≤ m) (hm : 0 < m) : bu y n < m := by
  cases n with
  | zero => exact hm
  | succ n => have := bu_le y n; omega
theorem bu_max (y : List Int) : ∀ n j, j < n → y.getD j 0 ≤ y.getD (bu y n) 0
  | 0, j, h => by omega
  | n + 1, j, h => by
    have e : bu y (n + 1) = if y.getD n 0 > y.getD (bu y n) 0 then n else bu y n := rfl
    rw [e]
    by_cases hj : j = n
    · subst hj
      split <;> omega
    · have := bu_max y n j (by omega)
      split <;> omega
def mix (y b : List Int) (i : Nat) : List Int := y.take i ++ b.drop i
theorem mix_len {y b : List Int} (h : y.length = b.length) (i : Nat) (hi : i ≤ y.length) : (mix y b i).length = b.length := by
  simp only [mix, List.length_append, List.length_take, List.length_drop]
  omega
theorem mix_lt {y b : List Int} (i j : Nat) (hi : i ≤ y.length) (hj : j < i) : (mix y b i).getD j 0 = y.getD j 0 := by
  have h1 : j < (y.take i).length := by rw [List.length_take]; omega
  rw [mix, List.getD_eq_getElem?_getD, List.getElem?_append_left h1, List.getElem?_take_of_lt hj, ← List.getD_eq_getElem?_getD]
theorem mix_at {y b : List Int} (i : Nat) (hi : i ≤ y.length) : (mix y b i).getD i 0 = b.getD i 0 := by
  have h1 : (y.take i).length = i := by rw [List.length_take]; omega
  rw [mix, List.getD_eq_getElem?_getD, List.getElem?_append_right (by omega), h1, Nat.sub_self, List.getElem?_drop, Nat.add_zero, ← List.getD_eq_getElem?_getD]
theorem take_snoc (y : List Int) (i : Nat) (hi : i < y.length) : y.take i ++ [y.getD i 0] = y.take (i + 1) := by
  rw [List.take_add_one, List.getD_eq_getElem?_getD, List.getElem?_eq_getElem hi]
  rfl
theorem mix_set {y b : List Int} (h : y.length = b.length) (i : Nat) (hi : i < y.length) : (mix y b i).set i (y.getD i 0) = mix y b (i + 1) := by
  have hb : i < b.length := by omega
  have h1 : (y.take i).length = i := by rw [List.length_take]; omega
  unfold mix
  rw [← take_snoc y i hi, List.drop_eq_getElem_cons hb, List.append_assoc]
  have := set_mid (y.take i) (b.drop (i + 1)) (y.getD i 0) b[i]
  rw [h1, Int.toNat_natCast] at this
  rw [this, List.append_assoc]
theorem mix_all {y b : List Int} (h : y.length = b.length) : mix y b y.length = y := by
  unfold mix
  rw [List.take_length, h, List.drop_length, List.append_nil]
def nextL (w b : List Int) : List Int × Nat := ((addL b w).set (bu (addL b w) w.length) ((addL b w).getD (bu (addL b w) w.length) 0 - w.sum), bu (addL b w) w.length)
def nextT (w b : List Int) : List Int × List Int × Int × Bool := if goodT w b = true then (if goodT w (nextL w b).1 = true then (w, (nextL w b).1, ((nextL w b).2 : Int), true) else ([], [], 0, false)) else ([], [], 0, false)
theorem goodW_out {w : List Int} (h : goodW w = true) : 1 ≤ w.length ∧ w.length ≤ 12 ∧ (∀ v ∈ w, 0 ≤ v ∧ v ≤ 50) ∧ 0 < w.sum ∧ w.sum ≤ 600 := by
  simp only [goodW, Bool.and_eq_true, inR, decide_eq_true_eq] at h
  obtain ⟨h1, h2, h3⟩ := h
  have hb := sum_bound' 0 50 w (by simpa [inR] using h2)
  refine ⟨by omega, by omega, fun v hv => ?_, by omega, by omega⟩
  have := List.all_eq_true.1 h2 v hv
  simpa using this
theorem goodT_out {w b : List Int} (h : goodT w b = true) : goodW w = true ∧ b.length = w.length ∧ (∀ v ∈ b, -10000 ≤ v ∧ v ≤ 10000) ∧ b.sum = 0 := by
  simp only [goodT, Bool.and_eq_true, decide_eq_true_eq] at h
  obtain ⟨h1, h2, h3, h4⟩ := h
  refine ⟨h1, h2, fun v hv => ?_, h4⟩
  have := List.all_eq_true.1 h3 v hv
  simpa [inR] using this
theorem nextL_len (w b : List Int) (h : b.length = w.length) : (nextL w b).1.length = w.length := by
  rw [nextL, List.length_set, addL_len h]
theorem specTotal_eq (l : List Int) (hl : l.length ≤ 1048576) (ha : ∀ v ∈ l, 0 ≤ v ∧ v ≤ 50) : Ev (fun k => spec_l12Total.f k l) l.sum := by
  unfold spec_l12Total.f
  refine Ev.eq_ (loop_list l (fun k S i => spec_l12Total.l0 k S l (l.length : Int) i) (fun S t => S + t.sum) (fun p S => 0 ≤ S ∧ S ≤ 50 * p.length) ?_ ?_ 0 (by simp)) (by simp)
  · intro S hS
    apply Ev.succ
    simp only [spec_l12Total.l0]
    exact Ev.neg (by omega) (Ev.const (by simp))
  · intro p x t S e hS ih
    have hm := len_mid e
    have hb := ha x (mem_mid e)
    apply Ev.succ
    simp only [spec_l12Total.l0, rd_mid' e]
    refine Ev.pos hm.1 (Ev.pos (by omega) (Ev.pos hm.1 ?_))
    rw [w64 (by omega) (by omega), w64 (by omega) (by omega)]
    refine Ev.eq_ (ih (S + x) ⟨by omega, by simp; omega⟩) ?_
    simp [Int.add_assoc]
theorem implNext_eq (w b : List Int) (hw : w.length ≤ 1048576) (hb : b.length ≤ 1048576) : Ev (fun k => impl_NextTurn.f k w b) (nextT w b) := by
  unfold impl_NextTurn.f nextT
  refine Ev.bind' _ (implGT_eq w b hw hb) ?_
  cases hg : goodT w b with
  | false => exact Ev.ite_false (Ev.const (by simp))
  | true =>
    obtain ⟨g1, g2, g3, g4⟩ := goodT_out hg
    obtain ⟨k1, k2, k3, k4, k5⟩ := goodW_out g1
    refine Ev.ite_true (Ev.cbind w (clone_eq w hw) (Ev.cbind b (clone_eq b hb) ?_))
    have hy : (addL b w).length = b.length := by rw [addL_len g2, g2]
    refine Ev.eq_ (loop_list w (fun k (s : Nat × List Int) i => impl_NextTurn.l0 k (s.1 : Int) w (w.length : Int) i w s.2) (fun _ _ => if goodT w (nextL w b).1 = true then (w, (nextL w b).1, ((nextL w b).2 : Int), true) else ([], [], 0, false)) (fun p s => s.1 = bu (addL b w) p.length ∧ s.2 = mix (addL b w) b p.length) ?_ ?_ (0, b) ⟨rfl, by simp [mix]⟩) (by simp)
    · rintro ⟨s1, s2⟩ ⟨h1, h2⟩
      simp only at h1 h2
      have hb2 := bu_lt (addL b w) w.length w.length (Nat.le_refl _) (by omega)
      rw [show w.length = (addL b w).length from (by omega), mix_all hy] at h2
      subst h2
      rw [← h1] at hb2
      apply Ev.succ
      simp only [impl_NextTurn.l0]
      refine Ev.neg (by omega) (Ev.pos (by omega) (Ev.pos (by omega) (Ev.bind' _ (total_eq 0 50 w (by omega) (by omega) (by omega) (by omega) hw ?_) (Ev.cbind _ rfl ?_))))
      · exact List.all_eq_true.2 (fun v hv => by simpa [inR] using k3 v hv)
      · have hv : -10000 ≤ b.getD s1 0 ∧ b.getD s1 0 ≤ 10000 := g3 _ (getD_mem b s1 (by omega))
        have hv2 : 0 ≤ w.getD s1 0 ∧ w.getD s1 0 ≤ 50 := k3 _ (getD_mem w s1 (by omega))
        have hv3 := addL_get g2 s1 (by omega)
        rw [rdn, Int.toNat_natCast, w64 (by omega) (by omega)]
        have hn : (nextL w b).1 = (addL b w).set s1 ((addL b w).getD s1 0 - w.sum) := by rw [nextL, ← h1]
        have hn2 : (nextL w b).2 = s1 := by rw [nextL, ← h1]
        rw [← hn, hn2]
        refine Ev.bind' _ (implGT_eq w (nextL w b).1 hw (by rw [nextL_len w b g2]; omega)) ?_
        cases goodT w (nextL w b).1 with
        | true => exact Ev.const (by simp)
        | false => exact Ev.const (by simp)
    · rintro p x t ⟨s1, s2⟩ e ⟨h1, h2⟩ ih
      simp only at h1 h2
      subst h1 h2
      have hm := len_mid e
      have hbl := bu_lt (addL b w) p.length w.length (by omega) (by omega)
      have hml := mix_len hy p.length (by omega)
      have hx : x = w.getD p.length 0 := by rw [← rdn, rd_mid' e]
      have hv : -10000 ≤ b.getD p.length 0 ∧ b.getD p.length 0 ≤ 10000 := g3 _ (getD_mem b _ (by omega))
      have hv2 : 0 ≤ w.getD p.length 0 ∧ w.getD p.length 0 ≤ 50 := k3 _ (getD_mem w _ (by omega))
      have hv3 := addL_get g2 p.length (by omega)
      have hset := mix_set hy p.length (by omega)
      apply Ev.succ
      simp only [impl_NextTurn.l0, rd_mid' e]
      refine Ev.pos hm.1 (Ev.pos (by omega) (Ev.pos hm.1 (Ev.pos (by omega) (Ev.cbind (mix (addL b w) b (p.length + 1)) ?_ ?_))))
      · rw [rdn, mix_at _ (by omega), hx, w64 (by omega) (by omega), ← hv3, Int.toNat_natCast, hset]
      · refine Ev.pos (by omega) (Ev.pos (by omega) ?_)
        rw [rdn, rdn, mix_lt _ _ (by omega) (by omega), mix_lt _ _ (by omega) (bu_lt _ _ _ (by omega) (by omega)), w64 (by omega) (by omega)]
        by_cases hc : (addL b w).getD p.length 0 > (addL b w).getD (bu (addL b w) p.length) 0
        · refine Ev.pos hc (Ev.eq_ (ih (p.length, mix (addL b w) b (p.length + 1)) ⟨?_, by simp⟩) rfl)
          simp only [List.length_append, List.length_cons, List.length_nil, Nat.zero_add, bu]
          rw [if_pos hc]
        · refine Ev.neg hc (Ev.eq_ (ih (bu (addL b w) p.length, mix (addL b w) b (p.length + 1)) ⟨?_, by simp⟩) rfl)
          simp only [List.length_append, List.length_cons, List.length_nil, Nat.zero_add, bu]
          rw [if_neg hc]
theorem specL12_eq (w b : List Int) (g1 : goodW w = true) (g2 : b.length = w.length) (g3 : ∀ v ∈ b, -10000 ≤ v ∧ v ≤ 10000) : Ev (fun k => spec_l12Next.f k w b) (w, (nextL w b).1, ((nextL w b).2 : Int)) := by
  obtain ⟨k1, k2, k3, k4, k5⟩ := goodW_out g1
  unfold spec_l12Next.f
  refine Ev.cbind [] rfl (Ev.pos (by simp; omega) ?_)
  rw [List.nil_append]
  have hy : (addL b w).length = b.length := by rw [addL_len g2, g2]
  refine Ev.eq_ (loop_list b (fun k (s : Nat × List Int) i => spec_l12Next.l0 k (s.1 : Int) b (b.length : Int) i w b w s.2) (fun _ _ => (w, (nextL w b).1, ((nextL w b).2 : Int))) (fun p s => s.1 = bu (addL b w) p.length ∧ s.2 = (addL b w).take p.length) ?_ ?_ (0, []) ⟨rfl, by simp⟩) rfl
  · rintro ⟨s1, s2⟩ ⟨h1, h2⟩
    simp only at h1 h2
    have hb2 := bu_lt (addL b w) b.length b.length (Nat.le_refl _) (by omega)
    rw [← hy, List.take_length] at h2
    subst h2
    rw [← h1] at hb2
    apply Ev.succ
    simp only [spec_l12Next.l0]
    have ht : Ev (fun k => spec_l12Total.f k w) w.sum := specTotal_eq w (by omega) (fun v hv => k3 v hv)
    refine Ev.neg (by omega) (Ev.pos (by omega) (Ev.pos (by omega) (Ev.bind' _ ht ?_)))
    have hv : -10000 ≤ b.getD s1 0 ∧ b.getD s1 0 ≤ 10000 := g3 _ (getD_mem b s1 (by omega))
    have hv2 : 0 ≤ w.getD s1 0 ∧ w.getD s1 0 ≤ 50 := k3 _ (getD_mem w s1 (by omega))
    have hv3 := addL_get g2 s1 (by omega)
    rw [rdn, Int.toNat_natCast, w64 (by omega) (by omega)]
    have hn : (nextL w b).1 = (addL b w).set s1 ((addL b w).getD s1 0 - w.sum) := by rw [nextL, ← g2, ← h1]
    have hn2 : (nextL w b).2 = s1 := by rw [nextL, ← g2, ← h1]
    rw [← hn, hn2]
    exact Ev.const rfl
  · rintro p x t ⟨s1, s2⟩ e ⟨h1, h2⟩ ih
    simp only at h1 h2
    subst h1 h2
    have hm := len_mid e
    have hbl := bu_lt (addL b w) p.length (p.length + 1) (by omega) (by omega)
    have hx : x = b.getD p.length 0 := by rw [← rdn, rd_mid' e]
    have hv : -10000 ≤ b.getD p.length 0 ∧ b.getD p.length 0 ≤ 10000 := g3 _ (getD_mem b _ (by omega))
    have hv2 : 0 ≤ w.getD p.length 0 ∧ w.getD p.length 0 ≤ 50 := k3 _ (getD_mem w _ (by omega))
    have hv3 := addL_get g2 p.length (by omega)
    have htl : ((addL b w).take (p.length + 1)).length = p.length + 1 := by rw [List.length_take]; omega
    have htg : ∀ j, j < p.length + 1 → ((addL b w).take (p.length + 1)).getD j 0 = (addL b w).getD j 0 := fun j hj => by rw [List.getD_eq_getElem?_getD, List.getElem?_take_of_lt hj, ← List.getD_eq_getElem?_getD]
    apply Ev.succ
    simp only [spec_l12Next.l0, rd_mid' e]
    refine Ev.pos hm.1 (Ev.pos (by omega) (Ev.pos hm.1 (Ev.pos (by omega) (Ev.pos (by rw [List.length_take]; omega) (Ev.cbind ((addL b w).take (p.length + 1)) ?_ ?_)))))
    · rw [rdn, hx, w64 (by omega) (by omega), ← hv3, take_snoc _ _ (by omega)]
    · refine Ev.pos (by omega) (Ev.pos (by omega) (Ev.pos (by omega) ?_))
      rw [rdn, rdn, htg _ (by omega), htg _ hbl, w64 (by omega) (by omega)]
      by_cases hc : (addL b w).getD p.length 0 > (addL b w).getD (bu (addL b w) p.length) 0
      · refine Ev.pos hc (Ev.eq_ (ih (p.length, (addL b w).take (p.length + 1)) ⟨?_, by simp⟩) rfl)
        simp only [List.length_append, List.length_cons, List.length_nil, Nat.zero_add, bu]
        rw [if_pos hc]
      · refine Ev.neg hc (Ev.eq_ (ih (bu (addL b w) p.length, (addL b w).take (p.length + 1)) ⟨?_, by simp⟩) rfl)
        simp only [List.length_append, List.length_cons, List.length_nil, Nat.zero_add, bu]
        rw [if_neg hc]
theorem specNext_eq (w b : List Int) (hw : w.length ≤ 1048576) (hb : b.length ≤ 1048576) : Ev (fun k => spec_NextTurn.f k w b) (nextT w b) := by
  unfold spec_NextTurn.f nextT
  refine Ev.bind' _ (specGT_eq w b hw hb) ?_
  cases hg : goodT w b with
  | false => exact Ev.ite_false (Ev.const (by simp))
  | true =>
    obtain ⟨g1, g2, g3, g4⟩ := goodT_out hg
    refine Ev.ite_true (Ev.bind' _ (specL12_eq w b g1 g2 g3) (Ev.bind' _ (specGT_eq w (nextL w b).1 hw (by rw [nextL_len w b g2]; exact hw)) ?_))
    cases goodT w (nextL w b).1 with
    | true => exact Ev.const (by simp)
    | false => exact Ev.const (by simp)
theorem nextT_len (w b : List Int) (hw : w.length ≤ 1048576) : (nextT w b).1.length ≤ 1048576 ∧ (nextT w b).2.1.length ≤ 1048576 := by
  unfold nextT
  split
  · rename_i hg
    obtain ⟨g1, g2, g3, g4⟩ := goodT_out hg
    split
    · exact ⟨hw, by rw [nextL_len w b g2]; exact hw⟩
    · exact ⟨by simp, by simp⟩
  · exact ⟨by simp, by simp⟩
end Go.Proofs.Ytioeomjjfajldaa.PL
