/- OftenIn: counted by draws, or by what the columns keep: the two come to the same. -/
import Derived.Test.YtioeomjjfajldaaZLPPick
import Derived.Test.YtioeomjjfajldaaJFnExactOftenIn0
import Derived.Test.YtioeomjjfajldaaJFnExactOftenIn1
set_option linter.unusedVariables false
set_option linter.unusedSimpArgs false
namespace Go.Proofs.Ytioeomjjfajldaa.PL
open Go.RowKit Go.Proofs.Ytioeomjjfajldaa.Pp Go.Proofs.Ytioeomjjfajldaa.PB Go.Proofs.YtioeomjjfajldaaW.PrintWords Go.Proofs.YtioeomjjfajldaaW.PrintLast
def addAt (x : List Int) (i : Nat) (v : Int) : List Int := x.set i (x.getD i 0 + v)
theorem addAt_length (x : List Int) (i : Nat) (v : Int) : (addAt x i v).length = x.length := by simp [addAt]
theorem addAt_get (x : List Int) (i : Nat) (v : Int) (h : i < x.length) : (addAt x i v).getD i 0 = x.getD i 0 + v := by
  simp [addAt, List.getD_eq_getElem?_getD, h]
theorem addAt_twice (x : List Int) (i : Nat) (u v : Int) (h : i < x.length) : addAt (addAt x i u) i v = addAt x i (u + v) := by
  have e := addAt_get x i u h
  unfold addAt at e ⊢
  rw [e, List.set_set, Int.add_assoc]
theorem addAt_zero (x : List Int) (i : Nat) (h : i < x.length) : addAt x i 0 = x := by
  unfold addAt
  rw [Int.add_zero, List.getD_eq_getElem?_getD, List.getElem?_eq_getElem h]
  simp
def bnd (x : List Int) (B : Int) : Prop := ∀ v ∈ x, 0 ≤ v ∧ v ≤ B
theorem bnd_getD {x : List Int} {B : Int} (h : bnd x B) (i : Nat) (hi : i < x.length) : 0 ≤ x.getD i 0 ∧ x.getD i 0 ≤ B := by
  rw [List.getD_eq_getElem?_getD, List.getElem?_eq_getElem hi]
  exact h _ (List.getElem_mem hi)
theorem bnd_add {x : List Int} {B : Int} (h : bnd x B) (i : Nat) (v : Int) (hi : i < x.length) (hv : 0 ≤ v) : bnd (addAt x i v) (B + v) := by
  intro y hy
  unfold addAt at hy
  rcases List.mem_or_eq_of_mem_set hy with h1 | h1
  · have := h y h1; omega
  · have := bnd_getD h i hi; omega
def stepC (n : Int) (x : List Int) (i : Nat) (c : S_Column) : List Int := addAt (addAt x i c.f0) c.f1.toNat (n - c.f0)
def oft (n : Int) : List Int → Nat → List S_Column → List Int
  | x, _, [] => x
  | x, i, c :: t => oft n (stepC n x i c) (i + 1) t
def colFit (n : Int) (m : Nat) (c : S_Column) : Prop := 0 ≤ c.f0 ∧ c.f0 ≤ n ∧ 0 ≤ c.f1 ∧ c.f1.toNat < m
theorem stepC_length (n : Int) (x : List Int) (i : Nat) (c : S_Column) : (stepC n x i c).length = x.length := by simp [stepC, addAt_length]
theorem stepC_bnd (n : Int) (x : List Int) (i : Nat) (c : S_Column) (B : Int) (h : bnd x B) (hi : i < x.length) (hc : colFit n x.length c) : bnd (stepC n x i c) (B + n) := by
  obtain ⟨h1, h2, h3, h4⟩ := hc
  have := bnd_add (bnd_add h i c.f0 hi h1) c.f1.toNat (n - c.f0) (by rw [addAt_length]; exact h4) (by omega)
  have e : B + c.f0 + (n - c.f0) = B + n := by omega
  rw [e] at this
  exact this
theorem oft_length (n : Int) : ∀ (t : List S_Column) (x : List Int) (i : Nat), (oft n x i t).length = x.length
  | [], _, _ => rfl
  | c :: t, x, i => by rw [oft, oft_length n t, stepC_length]
theorem rd_nat (x : List Int) (i : Nat) : rd x (i : Int) = x.getD i 0 := by simp [rd]
/-- One column's draws, m of them left. -/
theorem col_draws (l : List S_Column) (n : Nat) (c : S_Column) (i : Nat) (hl : l.length ≤ 12) (hn1 : 1 ≤ n) (hn : n ≤ 600) (hc : l[i]? = some c) (hf : colFit n l.length c) (res : List Int × Bool) :
    ∀ (m r : Nat) (x : List Int) (B : Int), r + m = n → x.length = l.length → bnd x B → 0 ≤ B → B + m ≤ 100000 →
      Ev (fun k => impl_OftenIn.l0 k l n (addAt (addAt x i (max (c.f0 - r) 0)) c.f1.toNat (n - max (r : Int) c.f0)) ((l.length : Int) * n) ((((i + 1 : Nat)) : Int) * n)) res →
      Ev (fun k => impl_OftenIn.l0 k l n x ((l.length : Int) * n) ((i : Int) * n + r)) res := by
  obtain ⟨g1, g2, g3, g4⟩ := hf
  have hi : i < l.length := by
    rcases Nat.lt_or_ge i l.length with h | h
    · exact h
    · rw [List.getElem?_eq_none h] at hc; cases hc
  intro m
  induction m with
  | zero =>
    intro r x B hr hx hb hB hBm h
    have e1 : max (c.f0 - (r : Int)) 0 = 0 := by omega
    have e2 : (n : Int) - max (r : Int) c.f0 = 0 := by omega
    rw [e1, e2, addAt_zero x i (by omega), addAt_zero x c.f1.toNat (by omega)] at h
    have e3 : (i : Int) * n + r = (((i + 1 : Nat)) : Int) * n := by
      have : (((i + 1 : Nat)) : Int) = (i : Int) + 1 := by omega
      rw [this, Int.add_mul]
      omega
    rw [e3]
    exact h
  | succ m ih =>
    intro r x B hr hx hb hB hBm h
    apply Ev.succ
    simp only [impl_OftenIn.l0]
    have hlt : (i : Int) * n + r < (l.length : Int) * n := by
      have h1 : ((i : Int) + 1) * n ≤ (l.length : Int) * n := Int.mul_le_mul_of_nonneg_right (by omega) (by omega)
      rw [Int.add_mul] at h1
      omega
    have hnn : 0 ≤ (i : Int) * n := Int.mul_nonneg (by omega) (by omega)
    have hub : (l.length : Int) * n ≤ 12 * 600 := Int.mul_le_mul (by omega) (by omega) (by omega) (by omega)
    have hq : Int.tdiv ((i : Int) * n + r) n = i := by
      rw [Int.tdiv_eq_ediv_of_nonneg (by omega), Int.add_comm, Int.add_mul_ediv_right _ _ (by omega), Int.ediv_eq_zero_of_lt (by omega) (by omega)]
      omega
    have hm : Int.tmod ((i : Int) * n + r) n = r := by
      rw [Int.tmod_eq_emod_of_nonneg (by omega), Int.add_comm, Int.add_mul_emod_self_right, Int.emod_eq_of_lt (by omega) (by omega)]
    have hrd : rd_TColumn l (i : Int) = c := by
      simp [rd_TColumn, List.getD_eq_getElem?_getD, hc]
    have hnext : (i : Int) * n + r + 1 = (i : Int) * n + ((r + 1 : Nat) : Int) := by omega
    have hp : impl_pickBy.f l n ((i : Int) * n + r) = some (if (r : Int) < c.f0 then (i : Int) else c.f1) := by
      unfold impl_pickBy.f
      rw [hq, hm, w64 (i := (i : Int)) (by omega) (by omega), hrd, if_neg (by omega), if_pos (by omega), if_pos (by omega)]
      split <;> rfl
    refine Ev.pos hlt (Ev.cbind _ hp ?_)
    rw [w64 (i := (i : Int) * n + r + 1) (by omega) (by omega), hnext]
    by_cases hr0 : (r : Int) < c.f0
    · rw [if_pos hr0]
      have hbi := bnd_getD hb i (by omega)
      refine Ev.pos (by omega) (Ev.pos (by omega) ?_)
      rw [rd_nat, w64 (by omega) (by omega)]
      have e : x.set ((i : Int)).toNat (x.getD i 0 + 1) = addAt x i 1 := by simp [addAt]
      rw [e]
      refine ih (r + 1) (addAt x i 1) (B + 1) (by omega) (by rw [addAt_length]; exact hx) (bnd_add hb i 1 (by omega) (by omega)) (by omega) (by omega) ?_
      rw [addAt_twice _ _ _ _ (by omega)]
      have e1 : 1 + max (c.f0 - ((r + 1 : Nat) : Int)) 0 = max (c.f0 - (r : Int)) 0 := by omega
      have e2 : (n : Int) - max (((r + 1 : Nat)) : Int) c.f0 = n - max (r : Int) c.f0 := by omega
      rw [e1, e2]
      exact h
    · rw [if_neg hr0]
      have hbi := bnd_getD hb c.f1.toNat (by omega)
      have ef : ((c.f1.toNat : Nat) : Int) = c.f1 := by omega
      refine Ev.pos (by omega) (Ev.pos (by omega) ?_)
      have e : x.set c.f1.toNat (wrap64 (rd x c.f1 + 1)) = addAt x c.f1.toNat 1 := by
        have : rd x c.f1 = x.getD c.f1.toNat 0 := rfl
        rw [this, w64 (by omega) (by omega)]
        rfl
      rw [e]
      refine ih (r + 1) (addAt x c.f1.toNat 1) (B + 1) (by omega) (by rw [addAt_length]; exact hx) (bnd_add hb _ 1 (by omega) (by omega)) (by omega) (by omega) ?_
      have e1 : max (c.f0 - ((r + 1 : Nat) : Int)) 0 = 0 := by omega
      have e1' : max (c.f0 - (r : Int)) 0 = 0 := by omega
      rw [e1, addAt_zero _ _ (by rw [addAt_length]; omega), addAt_twice _ _ _ _ (by omega)]
      rw [e1', addAt_zero _ _ (by omega)] at h
      have e2 : 1 + ((n : Int) - max (((r + 1 : Nat)) : Int) c.f0) = n - max (r : Int) c.f0 := by omega
      rw [e2]
      exact h
def oftenA (l : List S_Column) (n : Int) : List Int × Bool := if fitsA l n = true then (oft n (List.replicate l.length 0) 0 l, true) else ([], false)
theorem fitsA_out {l : List S_Column} {n : Int} (h : fitsA l n = true) : l.length ≤ 12 ∧ 1 ≤ n ∧ n ≤ 600 ∧ ∀ c ∈ l, colFit n l.length c := by
  unfold fitsA goodA at h
  simp only [Bool.and_eq_true, List.all_eq_true, decide_eq_true_eq, inR, colOk] at h
  obtain ⟨⟨h1, h2⟩, h3, h4⟩ := h
  refine ⟨by omega, h3.1, h3.2, fun c hc => ?_⟩
  have a := h2 c hc
  have b := h4 c hc
  exact ⟨by omega, by omega, by omega, by omega⟩
theorem oftenA_len (l : List S_Column) (n : Int) : (oftenA l n).1.length ≤ l.length := by
  unfold oftenA
  split
  · rw [oft_length]; simp
  · simp
theorem implOften_eq (l : List S_Column) (n : Int) (hl : l.length ≤ 1048576) : Ev (fun k => impl_OftenIn.f k l n) (oftenA l n) := by
  unfold impl_OftenIn.f oftenA
  refine Ev.bind' _ (implAre_eq l n hl) ?_
  cases hf : fitsA l n with
  | false => exact Ev.ite_false (Ev.const (by simp))
  | true =>
    obtain ⟨h12, h1, h600, hc⟩ := fitsA_out hf
    obtain ⟨N, rfl⟩ : ∃ N : Nat, n = N := ⟨n.toNat, by omega⟩
    have hub : (l.length : Int) * (N : Int) ≤ 12 * 600 := Int.mul_le_mul (by omega) (by omega) (by omega) (by omega)
    have hnn : 0 ≤ (l.length : Int) * (N : Int) := Int.mul_nonneg (by omega) (by omega)
    refine Ev.ite_true (Ev.pos (by omega) (Ev.pos (by simp; omega) ?_))
    rw [w64 (by omega) (by omega)]
    have main : ∀ (t p : List S_Column) (x : List Int) (B : Int), l = p ++ t → x.length = l.length → bnd x B → 0 ≤ B → B + 600 * t.length ≤ 90000 →
        Ev (fun k => impl_OftenIn.l0 k l N x ((l.length : Int) * N) ((p.length : Int) * N)) (oft N x p.length t, true) := by
      intro t
      induction t with
      | nil =>
        intro p x B e hx hb hB hBt
        have : p = l := by rw [e]; simp
        subst this
        apply Ev.succ
        simp only [impl_OftenIn.l0]
        exact Ev.neg (by omega) (Ev.const rfl)
      | cons c t ih =>
        intro p x B e hx hb hB hBt
        have hm := len_mid e
        have hcm := hc c (mem_mid e)
        have hBt' : B + 600 * ((t.length : Int) + 1) ≤ 90000 := by
          have : (((c :: t).length : Nat) : Int) = (t.length : Int) + 1 := by simp
          rw [this] at hBt
          exact hBt
        have hget : l[p.length]? = some c := by rw [e]; simp
        have key := col_draws l N c p.length h12 (by omega) (by omega) hget hcm (oft N x p.length (c :: t), true) N 0 x B (by omega) hx hb hB (by omega)
        have e0 : (p.length : Int) * N + ((0 : Nat) : Int) = (p.length : Int) * N := by omega
        rw [e0] at key
        apply key
        have ea : max (c.f0 - ((0 : Nat) : Int)) 0 = c.f0 := by have := hcm.1; omega
        have eb : (N : Int) - max ((0 : Nat) : Int) c.f0 = N - c.f0 := by have := hcm.1; omega
        rw [ea, eb]
        have := ih (p ++ [c]) (stepC N x p.length c) (B + N) (by rw [e]; simp) (by rw [stepC_length]; exact hx) (stepC_bnd _ _ _ _ _ hb (by omega) (by rw [hx]; exact hcm)) (by omega) (by omega)
        simpa [oft, stepC] using this
    have h0 := main l [] (List.replicate l.length 0) 0 rfl (by simp) (fun v hv => by have := List.eq_of_mem_replicate hv; omega) (by omega) (by omega)
    simpa using h0
theorem specOften_eq (l : List S_Column) (n : Int) (hl : l.length ≤ 1048576) : Ev (fun k => spec_OftenIn.f k l n) (oftenA l n) := by
  unfold spec_OftenIn.f oftenA
  refine Ev.bind' _ (specFits_eq l n hl) ?_
  cases hf : fitsA l n with
  | false => exact Ev.ite_false (Ev.const (by simp))
  | true =>
    obtain ⟨h12, h1, h600, hc⟩ := fitsA_out hf
    refine Ev.ite_true (Ev.pos (by omega) (Ev.pos (by simp; omega) ?_))
    refine Ev.eq_ (loop_list l (fun k (x : List Int) i => spec_OftenIn.l0 k n x l (l.length : Int) i) (fun x t => (oft n x (l.length - t.length) t, true)) (fun p x => x.length = l.length ∧ bnd x (600 * p.length)) ?_ ?_ _ ⟨by simp, fun v hv => ?_⟩) (by simp)
    · intro x hx
      apply Ev.succ
      simp only [spec_OftenIn.l0]
      exact Ev.neg (by omega) (Ev.const rfl)
    · rintro p c t x e ⟨hx, hb⟩ ih
      have hm := len_mid e
      obtain ⟨g1, g2, g3, g4⟩ := hc c (mem_mid e)
      have hbi := bnd_getD hb p.length (by omega)
      apply Ev.succ
      simp only [spec_OftenIn.l0, rd_TColumn, getD_mid e]
      refine Ev.pos hm.1 (Ev.pos (by omega) (Ev.pos hm.1 (Ev.pos (by omega) (Ev.cbind _ rfl (Ev.pos g3 (Ev.pos (by omega) ?_))))))
      rw [rd_nat, w64 (i := x.getD p.length 0 + c.f0) (by omega) (by omega), w64 (i := n - c.f0) (by omega) (by omega), w64 (i := (p.length : Int) + 1) (by omega) (by omega)]
      have e1 : x.set ((p.length : Int)).toNat (x.getD p.length 0 + c.f0) = addAt x p.length c.f0 := by simp [addAt]
      rw [e1]
      have hb2 := bnd_add hb p.length c.f0 (by omega) g1
      have hbj := bnd_getD hb2 c.f1.toNat (by rw [addAt_length]; omega)
      have e2 : (addAt x p.length c.f0).set c.f1.toNat (wrap64 (rd (addAt x p.length c.f0) c.f1 + (n - c.f0))) = stepC n x p.length c := by
        have : rd (addAt x p.length c.f0) c.f1 = (addAt x p.length c.f0).getD c.f1.toNat 0 := rfl
        rw [this, w64 (by omega) (by omega)]
        rfl
      rw [e2]
      have hb3 := stepC_bnd n x p.length c _ hb (by omega) (by rw [hx]; exact ⟨g1, g2, g3, g4⟩)
      refine Ev.eq_ (ih (stepC n x p.length c) ⟨by rw [stepC_length]; exact hx, fun v hv => ?_⟩) ?_
      · have := hb3 v hv
        simp only [List.length_append, List.length_cons, List.length_nil]
        omega
      · have ea : l.length - (c :: t).length = p.length := by simp only [List.length_cons]; omega
        have eb : l.length - t.length = p.length + 1 := by omega
        rw [ea, eb, oft]
    · have := List.eq_of_mem_replicate hv
      simp
      omega
end Go.Proofs.Ytioeomjjfajldaa.PL
