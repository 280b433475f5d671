/- Lists of numbers: marked, and held against their marks. -/
import Derived.Test.YtioeomjjfajldaaXBase
import Derived.Test.YtioeomjjfajldaaJFnExactTurnsOf0
import Derived.Test.YtioeomjjfajldaaJFnExactTurnsOf1
set_option linter.unusedVariables false
set_option linter.unusedSimpArgs false
namespace Go.Proofs.Ytioeomjjfajldaa.PL
open Go.RowKit Go.Proofs.Ytioeomjjfajldaa.Pp Go.Proofs.Ytioeomjjfajldaa.PB Go.Proofs.YtioeomjjfajldaaW.PrintWords Go.Proofs.YtioeomjjfajldaaW.PrintLast
def marks (a : Int) : Nat → List Int
  | 0 => []
  | n + 1 => a :: marks (a + 1) n
theorem marks_length (a : Int) (n : Nat) : (marks a n).length = n := by
  induction n generalizing a with
  | zero => rfl
  | succ n ih => simp [marks, ih]
theorem marks_snoc (a : Int) (n : Nat) : marks a (n + 1) = marks a n ++ [a + n] := by
  induction n generalizing a with
  | zero => simp [marks]
  | succ n ih =>
    rw [marks, ih (a + 1)]
    simp [marks]
    omega
theorem markIntS_eq (l : List Int) (a : Int) (hl : l.length ≤ 1073741824) (h0 : 0 ≤ a) (h1 : a ≤ 4611686018427387904) : Ev (fun k => laws_markIntS.f k l a) (a + l.length, marks a l.length) := by
  unfold laws_markIntS.f
  refine Ev.congr (fun k => rfl) (loop_list l (fun k (s : Int × List Int) i => laws_markIntS.l0 k s.2 s.1 i) (fun s _ => (a + l.length, marks a l.length)) (fun p s => s.1 = a + p.length ∧ ∃ q, s.2 = marks a p.length ++ q ∧ s.2.length = l.length) ?_ ?_ (a, l) ⟨by simp, l, by simp [marks], rfl⟩)
  · rintro ⟨b, s⟩ ⟨hb, q, hs, hq⟩
    simp only at hb hs hq
    subst hb hs
    apply Ev.succ
    simp only [laws_markIntS.l0]
    have : q = [] := List.eq_nil_of_length_eq_zero (by simpa [marks_length] using hq)
    refine Ev.neg (by omega) (Ev.const ?_)
    simp [this]
  · rintro p x t ⟨b, s⟩ e ⟨hb, q, hs, hq⟩ ih
    simp only at hb hs hq
    subst hb hs
    have hm := len_mid e
    cases q with
    | nil => simp [marks_length] at hq; omega
    | cons y q =>
      apply Ev.succ
      simp only [laws_markIntS.l0]
      refine Ev.pos (by omega) (Ev.pos (by omega) ?_)
      rw [w64 (by omega) (by omega), w64 (by omega) (by omega)]
      have e2 : (marks a p.length ++ y :: q).set ((p.length : Int)).toNat (a + p.length) = marks a (p.length + 1) ++ q := by
        have := set_mid (marks a p.length) q (a + p.length) y
        rw [marks_length] at this
        rw [this, marks_snoc]
      rw [e2]
      exact ih (a + p.length + 1, marks a (p.length + 1) ++ q) ⟨by simp; omega, q, by simp, by simp [marks_length] at hq ⊢; omega⟩
theorem heldIntS_eq (n : Nat) (a : Int) (hl : n ≤ 1073741824) (h0 : 0 ≤ a) (h1 : a ≤ 4611686018427387904) : Ev (fun k => laws_heldIntS.f k (marks a n) a) (a + n) := by
  unfold laws_heldIntS.f
  refine Ev.eq_ (loop_list (marks a n) (fun k s i => laws_heldIntS.l0 k (marks a n) s i) (fun s t => a + n) (fun p s => s = a + p.length) ?_ ?_ a (by simp)) rfl
  · intro s hs
    apply Ev.succ
    simp only [laws_heldIntS.l0]
    refine Ev.neg (by omega) (Ev.const ?_)
    rw [hs, marks_length]
  · intro p x t s e hs ih
    have hm := len_mid e
    have hx : x = a + p.length := by
      have h2 : (marks a n)[p.length]? = some x := by rw [e]; simp
      have h3 : ∀ (n : Nat) (a : Int) (j : Nat), j < n → (marks a n)[j]? = some (a + j) := by
        intro n
        induction n with
        | zero => intro a j hj; omega
        | succ n ih =>
          intro a j hj
          cases j with
          | zero => simp [marks]
          | succ j => simp only [marks, List.getElem?_cons_succ]; rw [ih (a + 1) j (by omega)]; simp; omega
      rw [h3 n a p.length (by rw [marks_length] at hm; omega)] at h2
      exact (Option.some.inj h2).symm
    rw [marks_length] at hm
    apply Ev.succ
    simp only [laws_heldIntS.l0, rd_mid' e]
    refine Ev.pos (by rw [marks_length]; omega) (Ev.pos (by omega) (Ev.pos (by rw [hs, hx]) ?_))
    rw [w64 (by omega) (by omega), w64 (by omega) (by omega)]
    exact ih _ (by rw [hs]; simp; omega)
end Go.Proofs.Ytioeomjjfajldaa.PL
