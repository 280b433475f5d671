/- The order of names: the reference's and the program's come to the same, for good names. -/
import Derived.Test.YthckpgglghfiiaaDoorZLPName
import Derived.Test.YthckpgglghfiiaaDoorJFnExactClosestBy0
import Derived.Test.YthckpgglghfiiaaDoorJFnExactClosestBy1
import Derived.Test.YthckpgglghfiiaaDoorJFnExactClosestBy2
set_option linter.unusedVariables false
set_option linter.unusedSimpArgs false
namespace Go.Proofs.YthckpgglghfiiaaDoor.PL
open Go.RowKit Go.Proofs.YthckpgglghfiiaaDoor.Pp Go.Proofs.YthckpgglghfiiaaDoor.PB Go.Proofs.YthckpgglghfiiaaDoorW.PrintWords Go.Proofs.YthckpgglghfiiaaDoorW.PrintLast
def ltS (a b : ByteArray) : Bool := Op.bytesLess (bts a) (bts b)
def cmpR : List ByteArray → List ByteArray → Int
  | [], [] => 0
  | [], _ :: _ => -1
  | _ :: _, [] => 1
  | a :: s, b :: t => if ltS a b = true then -1 else if bts a = bts b then cmpR s t else 1
def cmpN (a b : ByteArray) : Int := cmpR (labels a).reverse (labels b).reverse
theorem rev_at {α : Type} {l p t : List α} {x d : α} (e : l.reverse = p ++ x :: t) : rdOf d l ((l.length : Int) - ((p.length : Int) + 1)) = x := by
  have hl : l = t.reverse ++ x :: p.reverse := by
    have := congrArg List.reverse e
    rw [List.reverse_reverse] at this
    rw [this]
    simp
  have hn : ((l.length : Int) - ((p.length : Int) + 1)) = ((t.reverse.length : Nat) : Int) := by
    rw [hl]
    simp <;> omega
  rw [hn]
  exact rdOf_mid hl
theorem specCompare_loop (x y : List ByteArray) (hx : x.length ≤ 1048577) (hy : y.length ≤ 1048577) : ∀ (s t p q : List ByteArray), x.reverse = p ++ s → y.reverse = q ++ t → p.length = q.length → Ev (fun k => spec_l1Compare.l0 k x y ((p.length : Int) + 1)) (cmpR s t)
  | [], t, p, q, e1, e2, hp => by
    have l1 : x.length = p.length := by have := congrArg List.length e1; simpa using this
    have l2 : y.length = q.length + t.length := by have := congrArg List.length e2; simpa using this
    apply Ev.succ
    simp only [spec_l1Compare.l0]
    refine Ev.neg (by omega) (Ev.succ ?_)
    simp only [spec_l1Compare.j1]
    cases t with
    | nil =>
      simp only [List.length_nil] at l2
      first
        | exact Ev.neg (by simp) (Ev.neg (by omega) (Ev.neg (by omega) (Ev.const rfl)))
        | exact Ev.neg (by omega) (Ev.neg (by omega) (Ev.const rfl))
    | cons b t =>
      simp only [List.length_cons] at l2
      first
        | exact Ev.neg (by simp) (Ev.pos (by omega) (Ev.const rfl))
        | exact Ev.pos (by omega) (Ev.const rfl)
  | a :: s, [], p, q, e1, e2, hp => by
    have l1 : x.length = p.length + (s.length + 1) := by have := congrArg List.length e1; simpa using this
    have l2 : y.length = q.length := by have := congrArg List.length e2; simpa using this
    apply Ev.succ
    simp only [spec_l1Compare.l0]
    refine Ev.pos (by omega) (Ev.succ ?_)
    simp only [spec_l1Compare.j1]
    refine Ev.neg (by simp; omega) (Ev.neg (by omega) (Ev.pos (by omega) (Ev.const rfl)))
  | a :: s, b :: t, p, q, e1, e2, hp => by
    have l1 : x.length = p.length + (s.length + 1) := by have := congrArg List.length e1; simpa using this
    have l2 : y.length = q.length + (t.length + 1) := by have := congrArg List.length e2; simpa using this
    have ra : rdOf ByteArray.empty x ((x.length : Int) - ((p.length : Int) + 1)) = a := rev_at e1
    have rb : rdOf ByteArray.empty y ((y.length : Int) - ((p.length : Int) + 1)) = b := by rw [hp]; exact rev_at e2
    have ih := specCompare_loop x y hx hy s t (p ++ [a]) (q ++ [b]) (by rw [e1]; simp) (by rw [e2]; simp) (by simp [hp])
    have ec : (((p ++ [a]).length : Nat) : Int) + 1 = (p.length : Int) + 1 + 1 := by simp
    rw [ec] at ih
    apply Ev.succ
    simp only [spec_l1Compare.l0]
    refine Ev.pos (by omega) (Ev.succ ?_)
    simp only [spec_l1Compare.j1]
    rw [w64 (i := (x.length : Int) - ((p.length : Int) + 1)) (by omega) (by omega), w64 (i := (y.length : Int) - ((p.length : Int) + 1)) (by omega) (by omega), w64 (i := (p.length : Int) + 1 + 1) (by omega) (by omega), ra, rb, toList_bts, toList_bts]
    refine Ev.pos (by simp; omega) (Ev.pos (by omega) (Ev.pos (by omega) (Ev.pos (by omega) (Ev.pos (by omega) ?_))))
    have hc : cmpR (a :: s) (b :: t) = if ltS a b = true then -1 else if bts a = bts b then cmpR s t else 1 := rfl
    rw [hc]
    by_cases h1 : ltS a b = true
    · rw [if_pos h1]
      exact Ev.pos h1 (Ev.const rfl)
    · rw [if_neg h1]
      refine Ev.neg h1 ?_
      by_cases h2 : bts a = bts b
      · rw [if_pos h2]
        exact Ev.pos h2 ih
      · rw [if_neg h2]
        exact Ev.neg h2 (Ev.const rfl)
theorem specCompare_eq (a b : ByteArray) (ha : a.size ≤ 1048576) (hb : b.size ≤ 1048576) (ga : (labels a).all labelOk = true) (gb : (labels b).all labelOk = true) : Ev (fun k => spec_l1Compare.f k a b) (cmpN a b) := by
  have la := labels_len a
  have lb := labels_len b
  unfold spec_l1Compare.f
  have h1 := specLabels_eq a ha
  have h2 := specLabels_eq b hb
  rw [if_pos ga] at h1
  rw [if_pos gb] at h2
  refine Ev.bind' _ h1 (Ev.bind' _ h2 ?_)
  have := specCompare_loop (labels a) (labels b) (by omega) (by omega) (labels a).reverse (labels b).reverse [] [] rfl rfl rfl
  unfold cmpN
  simpa using this
theorem reverse_loop : ∀ (n : Nat) (M A B : List ByteArray), M.length ≤ n → A.length = B.length → (A ++ M ++ B).length ≤ 1048577 → Ev (fun k => slices_Reverse_string_string.l0 k (A ++ M ++ B) (A.length : Int) ((A.length : Int) + M.length - 1)) (A ++ M.reverse ++ B)
  | n, [], A, B, hn, hAB, hl => by
    apply Ev.succ
    simp only [slices_Reverse_string_string.l0]
    exact Ev.neg (by simp <;> omega) (Ev.const (by simp))
  | n, [m], A, B, hn, hAB, hl => by
    apply Ev.succ
    simp only [slices_Reverse_string_string.l0]
    exact Ev.neg (by simp <;> omega) (Ev.const (by simp))
  | 0, m1 :: m2 :: M, A, B, hn, hAB, hl => by simp at hn
  | n + 1, m1 :: m2 :: M, A, B, hn, hAB, hl => by
    obtain ⟨M', z, hM⟩ : ∃ M' z, m2 :: M = M' ++ [z] := ⟨(m2 :: M).dropLast, (m2 :: M).getLast (by simp), (List.dropLast_concat_getLast _).symm⟩
    rw [hM] at hn hl ⊢
    have hlen : (A ++ (m1 :: (M' ++ [z])) ++ B).length = A.length + (M'.length + 2) + B.length := by simp; omega
    rw [hlen] at hl
    simp only [List.length_cons, List.length_append, List.length_nil] at hn
    have e1 : A ++ (m1 :: (M' ++ [z])) ++ B = A ++ m1 :: (M' ++ z :: B) := by simp
    have e2 : A ++ (m1 :: (M' ++ [z])) ++ B = (A ++ m1 :: M') ++ z :: B := by simp
    have hj : (A.length : Int) + (((m1 :: (M' ++ [z])).length : Nat) : Int) - 1 = (((A ++ m1 :: M').length : Nat) : Int) := by simp; omega
    have hj2 : (((A ++ m1 :: M').length : Nat) : Int) = (A.length : Int) + M'.length + 1 := by simp; omega
    rw [hj]
    have ih := reverse_loop n M' (A ++ [z]) (m1 :: B) (by omega) (by simp; omega) (by simp; omega)
    apply Ev.succ
    simp only [slices_Reverse_string_string.l0]
    have r1 : rdOf ByteArray.empty (A ++ (m1 :: (M' ++ [z])) ++ B) (A.length : Int) = m1 := rdOf_mid e1
    have r2 : rdOf ByteArray.empty (A ++ (m1 :: (M' ++ [z])) ++ B) (((A ++ m1 :: M').length : Nat) : Int) = z := rdOf_mid e2
    rw [r1, r2, w64 (i := (A.length : Int) + 1) (by omega) (by omega), w64 (i := (((A ++ m1 :: M').length : Nat) : Int) - 1) (by omega) (by omega)]
    refine Ev.pos (by omega) (Ev.pos (by omega) (Ev.pos (by rw [hlen]; omega) (Ev.pos (by omega) (Ev.pos (by rw [hlen]; omega) ?_))))
    have s1 : (A ++ (m1 :: (M' ++ [z])) ++ B).set ((A.length : Int)).toNat z = (A ++ z :: M') ++ z :: B := by
      rw [e1, set_mid]
      simp
    have s2 : ((A ++ z :: M') ++ z :: B).set ((((A ++ m1 :: M').length : Nat) : Int)).toNat m1 = (A ++ [z]) ++ M' ++ (m1 :: B) := by
      have : (((A ++ m1 :: M').length : Nat) : Int) = (((A ++ z :: M').length : Nat) : Int) := by simp
      rw [this, set_mid]
      simp
    rw [s1, s2]
    have c1 : (((A ++ [z]).length : Nat) : Int) = (A.length : Int) + 1 := by simp
    have c2 : (A.length : Int) + 1 + (M'.length : Int) - 1 = (((A ++ m1 :: M').length : Nat) : Int) - 1 := by rw [hj2]; omega
    rw [c1, c2] at ih
    refine Ev.eq_ ih ?_
    simp
theorem reverse_eq (l : List ByteArray) (hl : l.length ≤ 1048577) : Ev (fun k => slices_Reverse_string_string.f k l) l.reverse := by
  unfold slices_Reverse_string_string.f
  rw [w64 (by omega) (by omega)]
  have := reverse_loop l.length l [] [] (Nat.le_refl _) rfl (by simpa using hl)
  simpa using this
theorem cmpStr_eq (a b : ByteArray) : cmp_Compare_string.f a b = some (if ltS a b = true then -1 else if bts a = bts b then 0 else 1) := by
  unfold cmp_Compare_string.f cmp_isNaN_string.f ltS
  simp only [Option.bind_some, bne_self_eq_false, Bool.false_eq_true, if_false, toList_bts]
  split
  · rfl
  · split <;> rfl
theorem sliceCompare_eq (x y : List ByteArray) (hx : x.length ≤ 1048577) (hy : y.length ≤ 1048577) : Ev (fun k => slices_Compare_string_string.f k x y) (cmpR x y) := by
  unfold slices_Compare_string_string.f
  have main : ∀ (s t p q : List ByteArray), x = p ++ s → y = q ++ t → p.length = q.length → Ev (fun k => slices_Compare_string_string.l0 k x y x (x.length : Int) (p.length : Int)) (cmpR s t) := by
    intro s
    induction s with
    | nil =>
      intro t p q e1 e2 hp
      have l1 : x.length = p.length := by rw [e1]; simp
      have l2 : y.length = q.length + t.length := by rw [e2]; simp
      apply Ev.succ
      simp only [slices_Compare_string_string.l0]
      refine Ev.neg (by omega) ?_
      cases t with
      | nil => simp only [List.length_nil] at l2; exact Ev.neg (by omega) (Ev.const rfl)
      | cons b t => simp only [List.length_cons] at l2; exact Ev.pos (by omega) (Ev.const rfl)
    | cons a s ih =>
      intro t p q e1 e2 hp
      have m1 := len_mid e1
      apply Ev.succ
      simp only [slices_Compare_string_string.l0, rdOf_mid e1]
      refine Ev.pos m1.1 (Ev.pos (by omega) (Ev.pos m1.1 ?_))
      cases t with
      | nil =>
        have l2 : y.length = q.length := by rw [e2]; simp
        exact Ev.pos (by omega) (Ev.const rfl)
      | cons b t =>
        have m2 := len_mid e2
        have rb : rdOf ByteArray.empty y (p.length : Int) = b := by rw [hp]; exact rdOf_mid e2
        have hg := ih t (p ++ [a]) (q ++ [b]) (by rw [e1]; simp) (by rw [e2]; simp) (by simp [hp])
        have ec : (((p ++ [a]).length : Nat) : Int) = (p.length : Int) + 1 := by simp
        rw [ec] at hg
        rw [rb, w64 (i := (p.length : Int) + 1) (by omega) (by omega)]
        refine Ev.neg (by omega) (Ev.pos (by omega) (Ev.cbind _ (cmpStr_eq a b) ?_))
        have hc : cmpR (a :: s) (b :: t) = if ltS a b = true then -1 else if bts a = bts b then cmpR s t else 1 := rfl
        rw [hc]
        by_cases h1 : ltS a b = true
        · rw [if_pos h1, if_pos h1]
          exact Ev.neg (by omega) (Ev.const rfl)
        · rw [if_neg h1, if_neg h1]
          by_cases h2 : bts a = bts b
          · rw [if_pos h2, if_pos h2]
            exact Ev.pos rfl hg
          · rw [if_neg h2, if_neg h2]
            exact Ev.neg (by omega) (Ev.const rfl)
  simpa using main x y [] [] rfl rfl rfl
theorem compareNames_eq (a b : ByteArray) (ha : a.size ≤ 1048576) (hb : b.size ≤ 1048576) : Ev (fun k => impl_compareNames.f k a b) (cmpN a b) := by
  have la := labels_len a
  have lb := labels_len b
  unfold impl_compareNames.f
  refine Ev.bind' _ (labelsOf_eq a ha) (Ev.bind' _ (labelsOf_eq b hb) (Ev.bind' _ (reverse_eq _ (by omega)) (Ev.bind' _ (reverse_eq _ (by omega)) (Ev.bind' _ (sliceCompare_eq _ _ (by simp; omega) (by simp; omega)) (Ev.const rfl)))))
theorem nameOk_labels {s : ByteArray} (h : nameOk s = true) : (labels s).all labelOk = true ∧ (bts s).length ≤ 60 := by
  unfold nameOk at h
  simp only [Bool.and_eq_true, decide_eq_true_eq] at h
  exact ⟨h.2, h.1.1⟩
end Go.Proofs.YthckpgglghfiiaaDoor.PL
