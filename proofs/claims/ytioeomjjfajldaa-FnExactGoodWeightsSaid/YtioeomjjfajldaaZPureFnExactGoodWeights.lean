/- The program's GoodWeights returns what the reference's returns, for all arguments; no condition beyond the row's own. -/
import Derived.Test.YtioeomjjfajldaaJFnExactGoodWeights0
import Derived.Test.YtioeomjjfajldaaXBase
namespace Go.Proofs.Ytioeomjjfajldaa.Pure
open Go.RowKit Go.Proofs.Ytioeomjjfajldaa.Pp Go.Proofs.Ytioeomjjfajldaa.PB Go.Proofs.YtioeomjjfajldaaW.PrintWords Go.Proofs.YtioeomjjfajldaaW.PrintLast

def inR (a b c : Int) : Bool := decide (b ≤ a ∧ a ≤ c)
theorem l1In_eq (a b c : Int) : spec_l1In.f a b c = some (inR a b c) := by
  unfold spec_l1In.f inR
  by_cases h : a ≥ b
  · rw [if_pos h]; simp [h]
  · rw [if_neg h]; simp; omega
theorem within_eq (a b c : Int) : impl_within.f a b c = some (inR a b c) := by
  unfold impl_within.f inR
  by_cases h : a ≥ b
  · rw [if_pos h]; simp [h]
  · rw [if_neg h]; simp; omega

def goodW (l : List Int) : Bool := inR l.length 1 12 && (l.all (inR · 0 50) && decide (l.sum > 0))

theorem sum_bound (l : List Int) (h : l.all (inR · 0 50) = true) : 0 ≤ l.sum ∧ l.sum ≤ 50 * l.length := by
  induction l with
  | nil => simp
  | cons x s ih =>
    simp only [List.all_cons, Bool.and_eq_true] at h
    have := ih h.2
    have hx := h.1
    simp only [inR, decide_eq_true_eq] at hx
    simp only [List.sum_cons, List.length_cons]
    omega

theorem specGW_loop (l : List Int) (hl : l.length ≤ 1048576) : ∀ (s p : List Int) (S : Int), l = p ++ s → 0 ≤ S → S ≤ 50 * p.length →
    Ev (fun k => spec_GoodWeights.l0 k l S l (l.length : Int) (p.length : Int)) (if s.all (inR · 0 50) then inR l.length 1 12 && decide (S + s.sum > 0) else false) := by
  intro s
  induction s with
  | nil =>
    intro p S e h0 h1
    apply Ev.succ
    simp only [spec_GoodWeights.l0]
    refine Ev.neg (by rw [e]; simp) ?_
    refine Ev.cbind _ (l1In_eq _ _ _) ?_
    cases inR (l.length : Int) 1 12 with
    | true => exact Ev.const (by simp)
    | false => exact Ev.const (by simp)
  | cons x s ih =>
    intro p S e h0 h1
    have hlen : l.length = p.length + (s.length + 1) := by rw [e]; simp
    have hrd : rd l (p.length : Int) = x := by rw [e]; exact rd_mid p x s
    apply Ev.succ
    simp only [spec_GoodWeights.l0, hrd]
    refine Ev.pos (by omega) (Ev.pos (by omega) (Ev.pos (by omega) ?_))
    refine Ev.cbind _ (l1In_eq _ _ _) ?_
    cases hx : inR x 0 50 with
    | false => exact Ev.const (by simp [hx])
    | true =>
      refine Ev.pos rfl ?_
      have hb : 0 ≤ x ∧ x ≤ 50 := by simpa [inR] using hx
      have h2 := ih (p ++ [x]) (S + x) (by rw [e]; simp) (by omega) (by simp; omega)
      rw [w64 (by omega) (by omega), w64 (by omega) (by omega)]
      refine Ev.eq_ (Ev.congr (fun k => ?_) h2) ?_
      · simp
      · simp [hx, Int.add_assoc]
theorem specGW (l : List Int) (hl : l.length ≤ 1048576) : Ev (fun k => spec_GoodWeights.f k l) (goodW l) := by
  refine Ev.eq_ (specGW_loop l hl l [] 0 rfl (by omega) (by simp)) ?_
  unfold goodW
  cases l.all (inR · 0 50) <;> simp

theorem total_loop (l : List Int) (hl : l.length ≤ 1048576) : ∀ (s p : List Int) (S : Int), l = p ++ s → s.all (inR · 0 50) = true → 0 ≤ S → S ≤ 50 * p.length →
    Ev (fun k => impl_totalOf.l0 k S l (l.length : Int) (p.length : Int)) (S + s.sum) := by
  intro s
  induction s with
  | nil =>
    intro p S e ha h0 h1
    apply Ev.succ
    simp only [impl_totalOf.l0]
    refine Ev.neg (by rw [e]; simp) ?_
    exact Ev.const (by simp)
  | cons x s ih =>
    intro p S e ha h0 h1
    have hlen : l.length = p.length + (s.length + 1) := by rw [e]; simp
    have hrd : rd l (p.length : Int) = x := by rw [e]; exact rd_mid p x s
    simp only [List.all_cons, Bool.and_eq_true] at ha
    have hb : 0 ≤ x ∧ x ≤ 50 := by simpa [inR] using ha.1
    apply Ev.succ
    simp only [impl_totalOf.l0, hrd]
    refine Ev.pos (by omega) (Ev.pos (by omega) (Ev.pos (by omega) ?_))
    have h2 := ih (p ++ [x]) (S + x) (by rw [e]; simp) ha.2 (by omega) (by simp; omega)
    rw [w64 (by omega) (by omega), w64 (by omega) (by omega)]
    refine Ev.eq_ (Ev.congr (fun k => ?_) h2) ?_
    · simp
    · simp [Int.add_assoc]
theorem implTotal (l : List Int) (hl : l.length ≤ 1048576) (ha : l.all (inR · 0 50) = true) : Ev (fun k => impl_totalOf.f k l) l.sum := by
  refine Ev.eq_ (total_loop l hl l [] 0 rfl ha (by omega) (by simp)) (by simp)

theorem idx_loop (l : List Int) (hl : l.length ≤ 1048576) : ∀ (s p : List Int), l = p ++ s →
    Ev (fun k => slices_IndexFunc_int_int_GoodWeights_1.l0 k l (l.length : Int) (p.length : Int)) (match s.findIdx? (fun x => !inR x 0 50) with | some i => (p.length : Int) + i | none => -1) := by
  intro s
  induction s with
  | nil =>
    intro p e
    apply Ev.succ
    simp only [slices_IndexFunc_int_int_GoodWeights_1.l0]
    refine Ev.neg (by rw [e]; simp) ?_
    exact Ev.const (by simp)
  | cons x s ih =>
    intro p e
    have hlen : l.length = p.length + (s.length + 1) := by rw [e]; simp
    have hrd : rd l (p.length : Int) = x := by rw [e]; exact rd_mid p x s
    apply Ev.succ
    simp only [slices_IndexFunc_int_int_GoodWeights_1.l0, hrd]
    refine Ev.pos (by omega) (Ev.pos (by omega) (Ev.pos (by omega) ?_))
    refine Ev.cbind (!inR x 0 50) (by simp [impl_GoodWeights_1.f, within_eq]) ?_
    cases hx : inR x 0 50 with
    | false => exact Ev.const (by simp [List.findIdx?_cons, hx])
    | true =>
      refine Ev.neg (by simp) ?_
      have h2 := ih (p ++ [x]) (by rw [e]; simp)
      rw [w64 (by omega) (by omega)]
      refine Ev.eq_ (Ev.congr (fun k => ?_) h2) ?_
      · simp
      · simp only [List.findIdx?_cons, hx]
        cases s.findIdx? (fun x => !inR x 0 50) with
        | none => simp
        | some i => simp; omega
theorem implContains (l : List Int) (hl : l.length ≤ 1048576) : Ev (fun k => slices_ContainsFunc_int_int_GoodWeights_1.f k l) (!l.all (inR · 0 50)) := by
  unfold slices_ContainsFunc_int_int_GoodWeights_1.f slices_IndexFunc_int_int_GoodWeights_1.f
  refine Ev.bind' _ (idx_loop l hl l [] rfl) (Ev.const ?_)
  cases h : l.findIdx? (fun x => !inR x 0 50) with
  | none =>
    have : l.all (inR · 0 50) = true := by
      rw [List.findIdx?_eq_none_iff] at h
      rw [List.all_eq_true]
      intro x hx
      simpa using h x hx
    simp [this]
  | some i =>
    have : l.all (inR · 0 50) = false := by
      rw [List.findIdx?_eq_some_iff_getElem] at h
      obtain ⟨hi, hp, _⟩ := h
      rw [List.all_eq_false]
      exact ⟨l[i], List.getElem_mem hi, by simpa using hp⟩
    simp [this]
theorem implGW (l : List Int) (hl : l.length ≤ 1048576) : Ev (fun k => impl_GoodWeights.f k l) (goodW l) := by
  unfold impl_GoodWeights.f goodW
  refine Ev.cbind _ (within_eq _ _ _) ?_
  cases inR (l.length : Int) 1 12 with
  | false => exact Ev.const (by simp)
  | true =>
    refine Ev.pos rfl ?_
    refine Ev.bind' _ (implContains l hl) ?_
    cases ha : l.all (inR · 0 50) with
    | false => exact Ev.const (by simp)
    | true =>
      refine Ev.neg (by simp) ?_
      refine Ev.bind' _ (implTotal l hl ha) ?_
      exact Ev.const (by simp)

theorem toInt_loop (l : List Int) (hl : l.length ≤ 1048576) : ∀ (s p q : List Int), l = p ++ s → q.length = s.length →
    Ev (fun k => laws_toIntS.l0 k l (p ++ q) (p.length : Int)) l := by
  intro s
  induction s with
  | nil =>
    intro p q e hq
    apply Ev.succ
    simp only [laws_toIntS.l0]
    refine Ev.neg (by rw [e]; simp) ?_
    have : q = [] := List.eq_nil_of_length_eq_zero (by simpa using hq)
    exact Ev.const (by rw [e, this])
  | cons x s ih =>
    intro p q e hq
    have hlen : l.length = p.length + (s.length + 1) := by rw [e]; simp
    have hrd : rd l (p.length : Int) = x := by rw [e]; exact rd_mid p x s
    cases q with
    | nil => simp at hq
    | cons y q =>
      simp only [List.length_cons, Nat.add_right_cancel_iff] at hq
      apply Ev.succ
      simp only [laws_toIntS.l0, hrd]
      refine Ev.pos (by omega) (Ev.pos (by omega) (Ev.pos (by simp; omega) ?_))
      have h2 := ih (p ++ [x]) q (by rw [e]; simp) hq
      rw [w64 (by omega) (by omega)]
      refine Ev.congr (fun k => ?_) h2
      simp
theorem toInt (l : List Int) (hl : l.length ≤ 1048576) : Ev (fun k => laws_toIntS.f k l) l := by
  unfold laws_toIntS.f
  refine Ev.pos (by omega) (Ev.pos (by simp; omega) ?_)
  exact toInt_loop l hl l [] (List.replicate _ 0) rfl (by simp)
theorem eqInt_loop (l : List Int) (hl : l.length ≤ 1048576) : ∀ (s p : List Int), l = p ++ s →
    Ev (fun k => laws_eqIntS.l0 k l l (p.length : Int)) true := by
  intro s
  induction s with
  | nil =>
    intro p e
    apply Ev.succ
    simp only [laws_eqIntS.l0]
    refine Ev.neg (by rw [e]; simp) ?_
    exact Ev.const rfl
  | cons x s ih =>
    intro p e
    have hlen : l.length = p.length + (s.length + 1) := by rw [e]; simp
    apply Ev.succ
    simp only [laws_eqIntS.l0]
    refine Ev.pos (by omega) (Ev.pos (by omega) (Ev.pos (by omega) (Ev.pos trivial ?_)))
    have h2 := ih (p ++ [x]) (by rw [e]; simp)
    rw [w64 (by omega) (by omega)]
    refine Ev.congr (fun k => ?_) h2
    simp
theorem eqInt (l : List Int) (hl : l.length ≤ 1048576) : Ev (fun k => laws_eqIntS.f k l l) true := by
  unfold laws_eqIntS.f
  exact Ev.pos rfl (eqInt_loop l hl l [] rfl)

theorem FnExactGoodWeights : laws_FnExactGoodWeights.Pure := by
  intro l _
  by_cases h : (l.length : Int) > 1048576
  · exact ⟨0, by unfold laws_FnExactGoodWeights.f; rw [if_pos h]⟩
  · have hl : l.length ≤ 1048576 := by omega
    refine Ev.get (g := fun k => laws_FnExactGoodWeights.f k l) ?_
    unfold laws_FnExactGoodWeights.f
    refine Ev.neg h ?_
    refine Ev.bind' _ (toInt l hl) (Ev.bind' _ (specGW l hl) (Ev.bind' _ (toInt l hl) (Ev.bind' _ (implGW l hl) ?_)))
    refine Ev.neg (by simp) ?_
    refine Ev.bind' _ (toInt l hl) (Ev.bind' _ (eqInt l hl) ?_)
    exact Ev.const (by simp)

end Go.Proofs.Ytioeomjjfajldaa.Pure
