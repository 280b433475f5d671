/- NewHealth: the two come to the same. -/
import Derived.Test.YthckpgglghfiiaaDoorZLPHealth
import Derived.Test.YthckpgglghfiiaaDoorJFnExactNewHealth0
import Derived.Test.YthckpgglghfiiaaDoorJFnExactNewHealth1
import Derived.Test.YthckpgglghfiiaaDoorJFnExactNewHealth2
import Derived.Test.YthckpgglghfiiaaDoorJFnExactNewHealth3
import Derived.Test.YthckpgglghfiiaaDoorJFnExactNewHealth4
set_option linter.unusedVariables false
set_option linter.unusedSimpArgs false
namespace Go.Proofs.YthckpgglghfiiaaDoor.PL
open Go.RowKit Go.Proofs.YthckpgglghfiiaaDoor.Pp Go.Proofs.YthckpgglghfiiaaDoor.PB Go.Proofs.YthckpgglghfiiaaDoorW.PrintWords Go.Proofs.YthckpgglghfiiaaDoorW.PrintLast
def mkHost (x : ByteArray) : S_Host := ⟨x, true, 0⟩
def newH (n m : Int) (l : List ByteArray) : Int × Int × List S_Host × Bool := if (inR n 1 10 && inR m 1 10 && (namesFrom [] l && inR l.length 1 12)) = true then (n, m, l.map mkHost, true) else (0, 0, [], false)
theorem newH_len (n m : Int) (l : List ByteArray) : (newH n m l).2.2.1.length ≤ l.length := by
  unfold newH
  split <;> simp
theorem specNewHealth_eq (n m : Int) (l : List ByteArray) (hl : l.length ≤ 1048576) (hs : ∀ x ∈ l, x.size ≤ 1048576) : Ev (fun k => spec_NewHealth.f k n m l) (newH n m l) := by
  unfold spec_NewHealth.f newH
  refine Ev.cbind _ (l1In_eq _ _ _) ?_
  cases h1 : inR n 1 10 with
  | false =>
    refine Ev.ite_false (Ev.succ ?_)
    simp only [spec_NewHealth.j0]
    exact Ev.const (by simp)
  | true =>
    refine Ev.ite_true (Ev.cbind _ (l1In_eq _ _ _) ?_)
    cases h2 : inR m 1 10 with
    | false =>
      refine Ev.ite_false (Ev.succ ?_)
      simp only [spec_NewHealth.j0]
      exact Ev.const (by simp)
    | true =>
      refine Ev.ite_true (Ev.bind' _ (spec13Names_eq l hl hs) (Ev.succ ?_))
      simp only [spec_NewHealth.j0]
      cases h3 : namesFrom [] l && inR (l.length : Int) 1 12 with
      | false => exact Ev.pos (by simp) (Ev.const (by simp))
      | true =>
        refine Ev.neg (by simp) ?_
        refine Ev.eq_ (loop_list l (fun k (s : List S_Host) i => spec_NewHealth.l0 k l (l.length : Int) i n m s) (fun s t => (n, m, s ++ t.map mkHost, true)) (fun p s => s.length ≤ p.length) ?_ ?_ [] (by simp)) (by simp)
        · intro s _
          apply Ev.succ
          simp only [spec_NewHealth.l0]
          exact Ev.neg (by omega) (Ev.const (by simp))
        · intro p x t s e hs ih
          have hm := len_mid e
          apply Ev.succ
          simp only [spec_NewHealth.l0, rdOf_mid e]
          rw [w64 (i := (p.length : Int) + 1) (by omega) (by omega)]
          exact Ev.pos hm.1 (Ev.pos (by omega) (Ev.pos hm.1 (Ev.pos (by omega) (Ev.eq_ (ih (s ++ [⟨x, true, 0⟩]) (by simp; omega)) (by simp [mkHost])))))
theorem goodH_new (n m : Int) (l : List ByteArray) : goodH n m (l.map mkHost) = (inR n 1 10 && inR m 1 10 && (namesFrom [] l && inR l.length 1 12)) := by
  unfold goodH
  have e : (l.map mkHost).map (·.f0) = l := by
    rw [List.map_map]
    exact (List.map_congr_left (fun x _ => rfl)).trans (List.map_id l)
  rw [e, List.length_map]
  cases h2 : inR m 1 10 with
  | false => simp
  | true =>
    have hr : (l.map mkHost).all (rowH n m) = true := by
      rw [List.all_eq_true]
      intro x hx
      obtain ⟨y, _, rfl⟩ := List.mem_map.mp hx
      have : 1 ≤ m ∧ m ≤ 10 := of_decide_eq_true h2
      have hm : mostH n m (mkHost y) = m := rfl
      unfold rowH
      rw [hm, w64 (by omega) (by omega)]
      exact decide_eq_true ⟨Int.le_refl 0, by show (0 : Int) ≤ m - 1; omega⟩
    rw [hr]
    simp only [Bool.true_and, Bool.and_true, Bool.and_assoc, Bool.and_comm, Bool.and_left_comm]
theorem implNewHealth_eq (n m : Int) (l : List ByteArray) (hl : l.length ≤ 1048576) (hs : ∀ x ∈ l, x.size ≤ 1048576) : Ev (fun k => impl_NewHealth.f k n m l) (newH n m l) := by
  unfold impl_NewHealth.f newH
  by_cases h12 : (l.length : Int) > 12
  · refine Ev.pos h12 (Ev.const ?_)
    have : inR (l.length : Int) 1 12 = false := decide_eq_false (by omega)
    simp [this]
  · refine Ev.neg h12 ?_
    refine Ev.eq_ (loop_list l (fun k (s : List S_Host) i => impl_NewHealth.l0 k l (l.length : Int) i n m s) (fun s t => if (inR n 1 10 && inR m 1 10 && (namesFrom [] l && inR l.length 1 12)) = true then (n, m, s ++ t.map mkHost, true) else (0, 0, [], false)) (fun p s => s = p.map mkHost) ?_ ?_ [] (by simp)) (by simp)
    · intro s hp
      subst hp
      apply Ev.succ
      simp only [impl_NewHealth.l0]
      refine Ev.neg (by omega) (Ev.bind' _ (implGoodHealth_eq n m (l.map mkHost) (by simpa using hl) (fun x hx => ?_)) ?_)
      · obtain ⟨y, hy, rfl⟩ := List.mem_map.mp hx
        exact hs y hy
      · rw [goodH_new]
        cases inR n 1 10 && inR m 1 10 && (namesFrom [] l && inR (l.length : Int) 1 12) with
        | true => exact Ev.ite_true (Ev.const (by simp))
        | false => exact Ev.ite_false (Ev.const (by simp))
    · intro p x t s e hp ih
      subst hp
      have hm := len_mid e
      apply Ev.succ
      simp only [impl_NewHealth.l0, rdOf_mid e]
      rw [w64 (i := (p.length : Int) + 1) (by omega) (by omega)]
      exact Ev.pos hm.1 (Ev.pos (by omega) (Ev.pos hm.1 (Ev.pos (by simp; omega) (Ev.eq_ (ih (p.map mkHost ++ [⟨x, true, 0⟩]) (by simp [mkHost])) (by simp [mkHost])))))
end Go.Proofs.YthckpgglghfiiaaDoor.PL
