/- Turns in a row: from the start on none fails, and both hand out the same. -/
import Derived.Test.YtioeomjjfajldaaZLPNext
import Derived.Test.YtioeomjjfajldaaJFnTurns0
import Derived.Test.YtioeomjjfajldaaJFnTurns1
set_option linter.unusedVariables false
set_option linter.unusedSimpArgs false
namespace Go.Proofs.Ytioeomjjfajldaa.PL
open Go.RowKit Go.Proofs.Ytioeomjjfajldaa.Pp Go.Proofs.Ytioeomjjfajldaa.PB Go.Proofs.YtioeomjjfajldaaW.PrintWords Go.Proofs.YtioeomjjfajldaaW.PrintLast
theorem sum_set (l : List Int) (i : Nat) (v : Int) (h : i < l.length) : (l.set i v).sum = l.sum - l.getD i 0 + v := by
  induction l generalizing i with
  | nil => simp at h
  | cons x t ih =>
    cases i with
    | zero => simp only [List.set_cons_zero, List.sum_cons, List.getD_cons_zero]; omega
    | succ i =>
      have := ih i (by simpa using h)
      simp only [List.set_cons_succ, List.sum_cons, List.getD_cons_succ, this]
      omega
theorem addL_sum : ∀ (b w : List Int), b.length = w.length → (addL b w).sum = b.sum + w.sum
  | [], [], _ => rfl
  | x :: b, y :: w, h => by
    have h2 := addL_sum b w (by simpa using h)
    unfold addL at h2 ⊢
    simp only [List.zipWith_cons_cons, List.sum_cons, h2]
    omega
  | [], y :: w, h => by simp at h
  | x :: b, [], h => by simp at h
theorem sum_nonpos (l : List Int) (h : ∀ v ∈ l, v ≤ 0) : l.sum ≤ 0 := by
  induction l with
  | nil => simp
  | cons x t ih =>
    have h1 := h x (by simp)
    have h2 := ih (fun v hv => h v (by simp [hv]))
    simp only [List.sum_cons]
    omega
theorem sum_ge (l : List Int) (h : ∀ v ∈ l, -600 ≤ v) : -600 * (l.length : Int) ≤ l.sum := by
  induction l with
  | nil => simp
  | cons x t ih =>
    have h1 := h x (by simp)
    have h2 := ih (fun v hv => h v (by simp [hv]))
    simp only [List.sum_cons, List.length_cons]
    omega
theorem sum_top (l : List Int) (h : ∀ v ∈ l, -600 ≤ v) : ∀ v ∈ l, v ≤ l.sum + 600 * ((l.length : Int) - 1) := by
  induction l with
  | nil => intro v hv; simp at hv
  | cons x t ih =>
    intro v hv
    have h1 := h x (by simp)
    have h2 := sum_ge t (fun v hv => h v (by simp [hv]))
    simp only [List.sum_cons, List.length_cons]
    rcases List.mem_cons.1 hv with rfl | hv
    · omega
    · have := ih (fun v hv => h v (by simp [hv])) v hv
      omega
/-- What holds of a turn from the start on. -/
def invT (w b : List Int) : Prop := goodW w = true ∧ b.length = w.length ∧ b.sum = 0 ∧ ∀ v ∈ b, -w.sum < v
theorem invT_good {w b : List Int} (h : invT w b) : goodT w b = true := by
  obtain ⟨h1, h2, h3, h4⟩ := h
  obtain ⟨k1, k2, k3, k4, k5⟩ := goodW_out h1
  have hall : b.all (inR · (-10000) 10000) = true := by
    refine List.all_eq_true.2 (fun v hv => ?_)
    have a1 := h4 v hv
    have a2 := sum_top b (fun v hv => by have := h4 v hv; omega) v hv
    simp only [inR, decide_eq_true_eq]
    omega
  simp [goodT, h1, h2, hall, h3]
theorem invT_next {w b : List Int} (h : invT w b) : invT w (nextL w b).1 := by
  obtain ⟨h1, h2, h3, h4⟩ := h
  obtain ⟨k1, k2, k3, k4, k5⟩ := goodW_out h1
  have hl := addL_len h2
  have hs := addL_sum b w h2
  have hp := bu_lt (addL b w) w.length w.length (Nat.le_refl _) (by omega)
  have hmax := bu_max (addL b w) w.length
  have hpos : 0 < (addL b w).getD (bu (addL b w) w.length) 0 := by
    rcases Int.lt_or_le 0 ((addL b w).getD (bu (addL b w) w.length) 0) with h | h
    · exact h
    · have := sum_nonpos (addL b w) (fun v hv => by
        obtain ⟨j, hj, rfl⟩ := List.getElem_of_mem hv
        have := hmax j (by omega)
        rw [List.getD_eq_getElem?_getD, List.getElem?_eq_getElem hj] at this
        simp only [Option.getD_some] at this
        omega)
      omega
  refine ⟨h1, nextL_len w b h2, ?_, fun v hv => ?_⟩
  · rw [nextL, sum_set _ _ _ (by omega)]
    omega
  · rcases List.mem_or_eq_of_mem_set hv with hv | hv
    · obtain ⟨j, hj, rfl⟩ := List.getElem_of_mem hv
      have e := addL_get h2 j (by omega)
      rw [List.getD_eq_getElem?_getD, List.getElem?_eq_getElem hj] at e
      simp only [Option.getD_some] at e
      have a1 := h4 _ (getD_mem b j (by omega))
      have a2 := k3 _ (getD_mem w j (by omega))
      omega
    · omega
theorem invT_zero {w : List Int} (h : goodW w = true) : invT w (List.replicate w.length 0) := by
  obtain ⟨k1, k2, k3, k4, k5⟩ := goodW_out h
  refine ⟨h, by simp, by simp, fun v hv => ?_⟩
  have := List.eq_of_mem_replicate hv
  omega
def runT (w : List Int) : Nat → List Int → List Int
  | 0, _ => []
  | n + 1, b => ((nextL w b).2 : Int) :: runT w n (nextL w b).1
theorem runT_len (w : List Int) : ∀ n b, (runT w n b).length = n
  | 0, _ => rfl
  | n + 1, b => by rw [runT, List.length_cons, runT_len w n]
def turnsA (w : List Int) (m : Int) : List Int × Bool := if goodW w = true then (if inR m 0 600 = true then (runT w m.toNat (List.replicate w.length 0), true) else ([], false)) else ([], false)
theorem nextT_inv {w b : List Int} (h : invT w b) : nextT w b = (w, (nextL w b).1, ((nextL w b).2 : Int), true) := by
  rw [nextT, if_pos (invT_good h), if_pos (invT_good (invT_next h))]
theorem implTurns_loop (w : List Int) (m : Nat) (hm : m ≤ 600) : ∀ (n i : Nat) (b out : List Int), i + n = m → out.length = i → invT w b → Ev (fun k => impl_TurnsOf.l0 k out (m : Int) (i : Int) w b) (out ++ runT w n b, true) := by
  intro n
  induction n with
  | zero =>
    intro i b out hi ho h
    apply Ev.succ
    simp only [impl_TurnsOf.l0]
    exact Ev.neg (by omega) (Ev.const (by simp [runT]))
  | succ n ih =>
    intro i b out hi ho h
    obtain ⟨k1, k2, k3, k4, k5⟩ := goodW_out h.1
    apply Ev.succ
    simp only [impl_TurnsOf.l0]
    refine Ev.pos (by omega) (Ev.bind' _ (implNext_eq w b (by omega) (by have := h.2.1; omega)) ?_)
    rw [nextT_inv h]
    refine Ev.pos rfl (Ev.pos (by omega) ?_)
    rw [w64 (by omega) (by omega)]
    refine Ev.eq_ (ih (i + 1) (nextL w b).1 (out ++ [((nextL w b).2 : Int)]) (by omega) (by simp [ho]) (invT_next h)) ?_
    simp [runT]
theorem specTurns_loop (w : List Int) : ∀ (n : Nat) (b out : List Int), n + out.length ≤ 600 → invT w b → Ev (fun k => spec_TurnsOf.l0 k (n : Int) out w b) (out ++ runT w n b, true) := by
  intro n
  induction n with
  | zero =>
    intro b out ho h
    apply Ev.succ
    simp only [spec_TurnsOf.l0]
    exact Ev.neg (by omega) (Ev.const (by simp [runT]))
  | succ n ih =>
    intro b out ho h
    obtain ⟨g1, g2, g3, g4⟩ := goodT_out (invT_good h)
    apply Ev.succ
    simp only [spec_TurnsOf.l0]
    refine Ev.pos (by omega) (Ev.bind' _ (specL12_eq w b g1 g2 g3) (Ev.pos (by omega) ?_))
    rw [w64 (by omega) (by omega), show ((n + 1 : Nat) : Int) - 1 = (n : Int) from by omega]
    refine Ev.eq_ (ih (nextL w b).1 (out ++ [((nextL w b).2 : Int)]) (by simp; omega) (invT_next h)) ?_
    simp [runT]
theorem implTurns_eq (w : List Int) (m : Int) (hw : w.length ≤ 1048576) : Ev (fun k => impl_TurnsOf.f k w m) (turnsA w m) := by
  unfold impl_TurnsOf.f turnsA
  refine Ev.bind' _ (implNT w hw) ?_
  unfold newT
  cases hg : goodW w with
  | false =>
    rw [if_neg (by simp), if_neg (by simp)]
    refine Ev.ite_false (Ev.succ ?_)
    simp only [impl_TurnsOf.j0]
    exact Ev.const (by simp)
  | true =>
    rw [if_pos rfl, if_pos rfl]
    refine Ev.ite_true (Ev.cbind _ (within_eq _ _ _) (Ev.succ ?_))
    simp only [impl_TurnsOf.j0]
    cases hr : inR m 0 600 with
    | false => exact Ev.const (by simp)
    | true =>
      have hb : 0 ≤ m ∧ m ≤ 600 := by simpa [inR] using hr
      refine Ev.neg (by simp) ?_
      rw [if_pos rfl]
      have := implTurns_loop w m.toNat (by omega) m.toNat 0 (List.replicate w.length 0) [] (by omega) rfl (invT_zero hg)
      rw [show ((m.toNat : Nat) : Int) = m from by omega] at this
      exact this
theorem specTurns_eq (w : List Int) (m : Int) (hw : w.length ≤ 1048576) : Ev (fun k => spec_TurnsOf.f k w m) (turnsA w m) := by
  unfold spec_TurnsOf.f turnsA
  refine Ev.bind' _ (specNT w hw) ?_
  unfold newT
  cases hg : goodW w with
  | false =>
    rw [if_neg (by simp), if_neg (by simp)]
    refine Ev.ite_false (Ev.succ ?_)
    simp only [spec_TurnsOf.j0]
    exact Ev.const (by simp)
  | true =>
    rw [if_pos rfl, if_pos rfl]
    refine Ev.ite_true (Ev.cbind _ (l1In_eq _ _ _) (Ev.succ ?_))
    simp only [spec_TurnsOf.j0]
    cases hr : inR m 0 600 with
    | false => exact Ev.const (by simp)
    | true =>
      have hb : 0 ≤ m ∧ m ≤ 600 := by simpa [inR] using hr
      refine Ev.neg (by simp) ?_
      rw [if_pos rfl]
      have := specTurns_loop w m.toNat (List.replicate w.length 0) [] (by simp; omega) (invT_zero hg)
      rw [show ((m.toNat : Nat) : Int) = m from by omega] at this
      exact this
theorem turnsA_len (w : List Int) (m : Int) : (turnsA w m).1.length ≤ 1048576 := by
  unfold turnsA
  split
  · split
    · rename_i h
      simp only [inR, decide_eq_true_eq] at h
      rw [runT_len]
      omega
    · simp
  · simp
end Go.Proofs.Ytioeomjjfajldaa.PL
