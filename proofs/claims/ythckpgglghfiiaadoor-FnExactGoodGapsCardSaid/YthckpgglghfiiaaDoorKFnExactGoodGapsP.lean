/- Texts that belong together, joined by claimit.py. -/
import Derived.Test.YthckpgglghfiiaaDoorXBase
import Derived.Test.YthckpgglghfiiaaDoorJFnExactGoodGaps0
import Derived.Test.YthckpgglghfiiaaDoorJFnExactGoodGaps1
import Derived.Test.YthckpgglghfiiaaDoorLPTy
import Derived.Test.YthckpgglghfiiaaDoorLPBytes
section
/- Rows of types: each one known, rising. -/
set_option linter.unusedVariables false
set_option linter.unusedSimpArgs false
namespace Go.Proofs.YthckpgglghfiiaaDoor.PL
open Go.RowKit Go.Proofs.YthckpgglghfiiaaDoor.Pp Go.Proofs.YthckpgglghfiiaaDoor.PB Go.Proofs.YthckpgglghfiiaaDoorW.PrintWords Go.Proofs.YthckpgglghfiiaaDoorW.PrintLast
theorem nil_or_snoc {α : Type} (l : List α) : l = [] ∨ ∃ q y, l = q ++ [y] := by
  rcases List.eq_nil_or_concat l with h | ⟨q, y, h⟩
  · exact Or.inl h
  · exact Or.inr ⟨q, y, by rw [h]; simp⟩
def hasI (l : List Int) (a : Int) : Bool := l.any (fun x => decide (x = a))
def tyOk (a : Int) : Bool := hasI [1, 2, 5, 6, 15, 16] a
theorem l1Has_eq (l : List Int) (a : Int) (hl : l.length ≤ 1048576) : Ev (fun k => spec_l1Has.f k l a) (hasI l a) := by
  unfold spec_l1Has.f hasI
  refine Ev.eq_ (loop_list l (fun k (_ : Unit) i => spec_l1Has.l0 k a l (l.length : Int) i) (fun _ t => t.any (fun x => decide (x = a))) (fun _ _ => True) ?_ ?_ () trivial) rfl
  · intro _ _
    apply Ev.succ
    simp only [spec_l1Has.l0]
    exact Ev.neg (by omega) (Ev.const rfl)
  · intro p x t _ e _ ih
    have hm := len_mid e
    apply Ev.succ
    simp only [spec_l1Has.l0, rd_mid' e]
    refine Ev.pos hm.1 (Ev.pos (by omega) (Ev.pos hm.1 ?_))
    rw [w64 (i := (p.length : Int) + 1) (by omega) (by omega)]
    by_cases hq : x = a
    · exact Ev.pos hq (Ev.const (by simp [hq]))
    · exact Ev.neg hq (Ev.eq_ (ih () trivial) (by simp [hq]))
theorem indexI_eq (l : List Int) (a : Int) (hl : l.length ≤ 1048576) : Ev (fun k => slices_Index_int_int.f k l a) (idxP (fun x => decide (x = a)) l) := by
  unfold slices_Index_int_int.f
  refine Ev.eq_ (loop_list l (fun k (_ : Nat) i => slices_Index_int_int.l0 k l a (l.length : Int) i) (fun n t => if 0 ≤ idxP (fun x => decide (x = a)) t then (n : Int) + idxP (fun x => decide (x = a)) t else -1) (fun p n => n = p.length) ?_ ?_ 0 rfl) ?_
  · intro n hn
    apply Ev.succ
    simp only [slices_Index_int_int.l0]
    exact Ev.neg (by omega) (Ev.const (by simp [idxP]))
  · intro p x t n e hn ih
    have hm := len_mid e
    apply Ev.succ
    simp only [slices_Index_int_int.l0, rd_mid' e]
    refine Ev.pos hm.1 (Ev.pos (by omega) (Ev.pos hm.1 ?_))
    have hq : idxP (fun x => decide (x = a)) (x :: t) = (if decide (x = a) then 0 else if 0 ≤ idxP (fun x => decide (x = a)) t then idxP (fun x => decide (x = a)) t + 1 else -1) := rfl
    rw [hq]
    by_cases hx : a = x
    · exact Ev.pos hx (Ev.const (by simp [hn, hx]))
    · refine Ev.neg hx ?_
      have hx2 : ¬ x = a := fun h => hx h.symm
      rw [w64 (by omega) (by omega)]
      refine Ev.eq_ (ih (n + 1) (by simp [hn])) ?_
      by_cases h2 : 0 ≤ idxP (fun x => decide (x = a)) t
      · simp [h2, hx2]; omega
      · simp [h2, hx2]
  · by_cases h2 : 0 ≤ idxP (fun x => decide (x = a)) l
    · simp [h2]
    · rw [if_neg h2]
      exact (idxP_neg _ l h2).symm
theorem isType_eq (a : Int) : Ev (fun k => impl_isType.f k a) (tyOk a) := by
  unfold impl_isType.f slices_Contains_int_int.f
  refine Ev.bind' _ (Ev.bind' _ (indexI_eq [1, 2, 5, 6, 15, 16] a (by simp)) (Ev.const rfl)) (Ev.const ?_)
  rw [idxP_nonneg]
  rfl
theorem l3Type_eq (a : Int) : Ev (fun k => spec_l3Type.f k a) (tyOk a) := by
  unfold spec_l3Type.f
  exact Ev.bind' _ (l1Has_eq [1, 2, 5, 6, 15, 16] a (by simp)) (Ev.const rfl)
/-- Known types, each above the one ahead of it. -/
def tys : Option Int → List Int → Bool
  | _, [] => true
  | none, x :: t => tyOk x && tys (some x) t
  | some p, x :: t => tyOk x && (decide (p < x) && tys (some x) t)
def areT (l : List Int) : Bool := decide (0 < l.length) && tys none l
theorem specTypes_loop (a : ByteArray) (l : List S_Gap) (i : Int) (o n : ByteArray) (ts : List Int) (hl : ts.length ≤ 1048576) (R : Bool) (hR : Ev (fun k => spec_GoodGaps.l0 k a l l (l.length : Int) (wrap64 (i + 1))) R) :
    Ev (fun k => spec_GoodGaps.l1 k a l l (l.length : Int) i ts (ts.length : Int) 0 o n ts) (if tys none ts then R else false) := by
  refine loop_list ts (fun k (_ : Option Int) j => spec_GoodGaps.l1 k a l l (l.length : Int) i ts (ts.length : Int) j o n ts) (fun s t => if tys s t then R else false) (fun p s => s = p.getLast?) ?_ ?_ none rfl
  · intro s _
    apply Ev.succ
    simp only [spec_GoodGaps.l1]
    exact Ev.neg (by omega) (Ev.eq_ hR (by cases s <;> simp [tys]))
  · intro p x t s e hs ih
    have hm := len_mid e
    apply Ev.succ
    simp only [spec_GoodGaps.l1, rd_mid' e]
    refine Ev.pos hm.1 (Ev.pos (by omega) (Ev.pos hm.1 (Ev.bind' _ (l3Type_eq x) ?_)))
    rw [w64 (i := (p.length : Int) + 1) (by omega) (by omega)]
    cases hx : tyOk x with
    | false => exact Ev.ite_false (Ev.const (by cases s <;> simp [tys, hx]))
    | true =>
      refine Ev.ite_true ?_
      rcases nil_or_snoc p with rfl | ⟨q, y, rfl⟩
      · refine Ev.neg (by simp) (Ev.eq_ (ih (some x) (by simp)) ?_)
        subst hs
        simp [tys, hx]
      · have e2 : ts = q ++ y :: (x :: t) := by rw [e]; simp
        have hq := len_mid e2
        have e3 : (((q ++ [y]).length : Nat) : Int) - 1 = (q.length : Int) := by simp
        have e4 : ((q ++ [y]).length : Int) > 0 := by simp only [List.length_append, List.length_cons, List.length_nil]; omega
        rw [w64 (i := ((q ++ [y]).length : Int) - 1) (by omega) (by omega), e3, rd_mid' e2]
        refine Ev.pos e4 (Ev.pos (by omega) (Ev.pos hq.1 ?_))
        have hs2 : s = some y := by rw [hs]; simp
        subst hs2
        by_cases hy : y ≥ x
        · refine Ev.pos hy (Ev.const ?_)
          have : ¬ y < x := by omega
          simp [tys, hx, this]
        · refine Ev.neg hy (Ev.eq_ (ih (some x) (by simp)) ?_)
          have : y < x := by omega
          simp [tys, hx, this]
theorem areTypes_eq (l : List Int) (hl : l.length ≤ 1048576) : Ev (fun k => impl_areTypes.f k l) (areT l) := by
  unfold impl_areTypes.f
  refine Ev.eq_ (loop_list l (fun k (_ : Option Int) j => impl_areTypes.l0 k l l (l.length : Int) j) (fun s t => tys s t && decide (0 < l.length)) (fun p s => s = p.getLast?) ?_ ?_ none rfl) (by unfold areT; rw [Bool.and_comm])
  · intro s _
    apply Ev.succ
    simp only [impl_areTypes.l0]
    refine Ev.neg (by omega) (Ev.const ?_)
    have : decide ((l.length : Int) > 0) = decide (0 < l.length) := by
      rw [Bool.eq_iff_iff]; simp
    rw [this]
    cases s <;> simp [tys]
  · intro p x t s e hs ih
    have hm := len_mid e
    apply Ev.succ
    simp only [impl_areTypes.l0, rd_mid' e]
    refine Ev.pos hm.1 (Ev.pos (by omega) (Ev.pos hm.1 (Ev.bind' _ (isType_eq x) ?_)))
    rw [w64 (i := (p.length : Int) + 1) (by omega) (by omega)]
    cases hx : tyOk x with
    | false => exact Ev.ite_false (Ev.const (by cases s <;> simp [tys, hx]))
    | true =>
      refine Ev.ite_true ?_
      rcases nil_or_snoc p with rfl | ⟨q, y, rfl⟩
      · refine Ev.neg (by simp) (Ev.eq_ (ih (some x) (by simp)) ?_)
        subst hs
        simp [tys, hx]
      · have e2 : l = q ++ y :: (x :: t) := by rw [e]; simp
        have hq := len_mid e2
        have e3 : (((q ++ [y]).length : Nat) : Int) - 1 = (q.length : Int) := by simp
        have e4 : ((q ++ [y]).length : Int) > 0 := by simp only [List.length_append, List.length_cons, List.length_nil]; omega
        rw [w64 (i := ((q ++ [y]).length : Int) - 1) (by omega) (by omega), e3, rd_mid' e2]
        refine Ev.pos e4 (Ev.pos (by omega) (Ev.pos hq.1 ?_))
        have hs2 : s = some y := by rw [hs]; simp
        subst hs2
        by_cases hy : x ≤ y
        · refine Ev.pos hy (Ev.const ?_)
          have : ¬ y < x := by omega
          simp [tys, hx, this]
        · refine Ev.neg hy (Ev.eq_ (ih (some x) (by simp)) ?_)
          have : y < x := by omega
          simp [tys, hx, this]
end Go.Proofs.YthckpgglghfiiaaDoor.PL
end
section
/- Lists of numbers: copied, compared. -/
set_option linter.unusedVariables false
set_option linter.unusedSimpArgs false
namespace Go.Proofs.YthckpgglghfiiaaDoor.PL
open Go.RowKit Go.Proofs.YthckpgglghfiiaaDoor.Pp Go.Proofs.YthckpgglghfiiaaDoor.PB Go.Proofs.YthckpgglghfiiaaDoorW.PrintWords Go.Proofs.YthckpgglghfiiaaDoorW.PrintLast
theorem toIntS_eq (l : List Int) (hl : l.length ≤ 1048576) : Ev (fun k => laws_toIntS.f k l) l := by
  unfold laws_toIntS.f
  refine Ev.pos (by omega) (Ev.pos (by simp; omega) ?_)
  refine loop_list l (fun k s i => laws_toIntS.l0 k l s i) (fun _ _ => l) (fun p s => ∃ q, s = p ++ q ∧ s.length = l.length) ?_ ?_ _ ⟨_, rfl, by simp⟩
  · rintro s ⟨q, rfl, hq⟩
    apply Ev.succ
    simp only [laws_toIntS.l0]
    refine Ev.neg (by omega) (Ev.const ?_)
    have : q = [] := List.eq_nil_of_length_eq_zero (by simpa using hq)
    simp [this]
  · rintro p x t s e ⟨q, rfl, hq⟩ ih
    have hm := len_mid e
    cases q with
    | nil => simp at hq; omega
    | cons y q =>
      apply Ev.succ
      simp only [laws_toIntS.l0, rd_mid' e]
      refine Ev.pos hm.1 (Ev.pos (by omega) (Ev.pos (by omega) ?_))
      rw [w64 (by omega) (by omega), set_mid]
      exact ih _ ⟨q, rfl, by simpa using hq⟩
theorem eqIntS_eq (l : List Int) (hl : l.length ≤ 1048576) : Ev (fun k => laws_eqIntS.f k l l) true := by
  unfold laws_eqIntS.f
  refine Ev.pos rfl ?_
  refine loop_list l (fun k (_ : Unit) i => laws_eqIntS.l0 k l l i) (fun _ _ => true) (fun _ _ => True) ?_ ?_ () trivial
  · intro _ _
    apply Ev.succ
    simp only [laws_eqIntS.l0]
    exact Ev.neg (by omega) (Ev.const rfl)
  · intro p x t s e _ ih
    have hm := len_mid e
    apply Ev.succ
    simp only [laws_eqIntS.l0]
    refine Ev.pos hm.1 (Ev.pos (by omega) (Ev.pos hm.1 (Ev.pos trivial ?_)))
    rw [w64 (by omega) (by omega)]
    exact ih () trivial
end Go.Proofs.YthckpgglghfiiaaDoor.PL
end
section
/- A gap: sized, copied, compared. -/
set_option linter.unusedVariables false
set_option linter.unusedSimpArgs false
namespace Go.Proofs.YthckpgglghfiiaaDoor.PL
open Go.RowKit Go.Proofs.YthckpgglghfiiaaDoor.Pp Go.Proofs.YthckpgglghfiiaaDoor.PB Go.Proofs.YthckpgglghfiiaaDoorW.PrintWords Go.Proofs.YthckpgglghfiiaaDoorW.PrintLast
theorem szIntS_eq (l : List Int) (h : l.length ≤ maxLen) (a : Int) (h0 : 0 ≤ a) (h1 : a ≤ 1048576) : Szd (fun _ => laws_szIntS.f l a) a (l.length ≤ 1048576) := by
  have hm : maxLen = 9223372036854775807 := rfl
  unfold laws_szIntS.f
  exact (Szd.size _ (by omega) h0 h1 (fun a' e ha hb => by rw [e]; exact Szd.end_ ha)).mono (fun h => h.1)
theorem szGap_eq (o n : ByteArray) (l : List Int) (ho : o.size ≤ maxLen) (hn : n.size ≤ maxLen) (hl : l.length ≤ maxLen) (a : Int) (h0 : 0 ≤ a) (h1 : a ≤ 1048576) : Szd (fun _ => laws_szGap.f o n l a) a (o.size ≤ 1048576 ∧ n.size ≤ 1048576 ∧ l.length ≤ 1048576) := by
  have hm : maxLen = 9223372036854775807 := rfl
  unfold laws_szGap.f
  refine (Szd.size _ (by omega) h0 h1 (fun a' e ha hb => ?_))
  rw [e]
  refine (Szd.size _ (by omega) ha hb (fun a2 e2 ha2 hb2 => ?_))
  rw [e2]
  exact (Szd.cbind (szIntS_eq l hl a2 ha2 hb2) hb2 (fun r h3 _ => Szd.end_ h3)).mono (fun h => h.1)
theorem toGap_eq (o n : ByteArray) (l : List Int) (hl : l.length ≤ 1048576) : Ev (fun k => laws_toGap.f k o n l) (o, n, l) := by
  unfold laws_toGap.f
  exact Ev.bind' _ (toIntS_eq l hl) (Ev.const rfl)
theorem eqGap_eq (o n : ByteArray) (l : List Int) (hl : l.length ≤ 1048576) : Ev (fun k => laws_eqGap.f k o n l o n l) true := by
  unfold laws_eqGap.f
  exact Ev.pos rfl (Ev.pos rfl (Ev.bind' _ (eqIntS_eq l hl) (Ev.ite_true (Ev.const rfl))))
end Go.Proofs.YthckpgglghfiiaaDoor.PL
end
section
/- Rows of gaps: sized, copied, compared. -/
set_option linter.unusedVariables false
set_option linter.unusedSimpArgs false
namespace Go.Proofs.YthckpgglghfiiaaDoor.PL
open Go.RowKit Go.Proofs.YthckpgglghfiiaaDoor.Pp Go.Proofs.YthckpgglghfiiaaDoor.PB Go.Proofs.YthckpgglghfiiaaDoorW.PrintWords Go.Proofs.YthckpgglghfiiaaDoorW.PrintLast
def cGap (x : S_LGap) : S_Gap := ⟨x.f0, x.f1, x.f2⟩
def szG (x : S_Gap) : Prop := x.f0.size ≤ 1048576 ∧ x.f1.size ≤ 1048576 ∧ x.f2.length ≤ 1048576
def szLG (x : S_LGap) : Prop := x.f0.size ≤ 1048576 ∧ x.f1.size ≤ 1048576 ∧ x.f2.length ≤ 1048576
theorem szG_map {l : List S_LGap} (h : ∀ x ∈ l, szLG x) : ∀ x ∈ l.map cGap, szG x := by
  intro x hx
  obtain ⟨y, hy, rfl⟩ := List.mem_map.mp hx
  exact h y hy
theorem szGapS_eq (l : List S_LGap) (h : l.length ≤ maxLen ∧ ∀ x ∈ l, WF_LGap x) (a : Int) (h0 : 0 ≤ a) (h1 : a ≤ 1048576) : Szd (fun k => laws_szGapS.f k l a) a (l.length ≤ 1048576 ∧ ∀ x ∈ l, szLG x) := by
  have hm : maxLen = 9223372036854775807 := rfl
  unfold laws_szGapS.f
  by_cases hl : l.length ≤ 1048576
  · refine Szd.size _ (by omega) h0 h1 (fun a' e ha hb => ?_)
    rw [e]
    refine Szd.list l hl (fun k a i => laws_szGapS.l0 k l a i) szLG ?_ ?_ a' ha hb
    · intro a ha hb
      refine ⟨a, Ev.succ ?_, Or.inr ⟨ha, Int.le_refl _, trivial⟩⟩
      simp only [laws_szGapS.l0]
      exact Ev.neg (by omega) (Ev.const rfl)
    · intro p x t a e ha hb _ C hC
      have hm2 := len_mid e
      have hx := h.2 x (mem_mid e)
      have hel : Szd (fun _ : Nat => laws_szGap.f x.f0 x.f1 x.f2 a) a (szLG x) := szGap_eq x.f0 x.f1 x.f2 hx.1 hx.2.1 hx.2.2.1 a ha hb
      obtain ⟨r, hr, hh⟩ := Szd.cbind (g := fun k t => laws_szGapS.l0 k l t ((p.length : Int) + 1)) hel hb (fun r h3 h4 => hC r h3 h4)
      refine ⟨r, Ev.succ ?_, hh⟩
      simp only [laws_szGapS.l0, rd_TLGap, getD_mid e]
      rw [w64 (i := (p.length : Int) + 1) (by omega) (by omega)]
      exact Ev.pos hm2.1 (Ev.pos (by omega) hr)
  · have := h.1
    refine ⟨-1, Ev.pos ?_ (Ev.const rfl), Or.inl (by omega)⟩
    rw [w64 (by omega) (by omega)]
    omega
theorem toGapS_eq (l : List S_LGap) (hl : l.length ≤ 1048576) (hs : ∀ x ∈ l, szLG x) : Ev (fun k => laws_toGapS.f k l) (l.map cGap) := by
  unfold laws_toGapS.f
  refine Ev.pos (by omega) (Ev.pos (by simp; omega) ?_)
  refine to_list l cGap (fun k s i => laws_toGapS.l0 k l s i) ?_ ?_ _ (by simp)
  · intro s
    apply Ev.succ
    simp only [laws_toGapS.l0]
    exact Ev.neg (by omega) (Ev.const rfl)
  · intro p x t s r e hps h
    have hm := len_mid e
    have hx := hs x (mem_mid e)
    apply Ev.succ
    simp only [laws_toGapS.l0, rd_TLGap, getD_mid e]
    rw [w64 (i := (p.length : Int) + 1) (by omega) (by omega)]
    exact Ev.pos hm.1 (Ev.pos (by omega) (Ev.bind' _ (toGap_eq x.f0 x.f1 x.f2 hx.2.2) (Ev.pos (by omega) h)))
theorem eqGapS_eq (l : List S_Gap) (hl : l.length ≤ 1048576) (hs : ∀ x ∈ l, szG x) : Ev (fun k => laws_eqGapS.f k l l) true := by
  unfold laws_eqGapS.f
  refine Ev.pos rfl (eq_list l (fun k i => laws_eqGapS.l0 k l l i) ?_ ?_)
  · apply Ev.succ
    simp only [laws_eqGapS.l0]
    exact Ev.neg (by omega) (Ev.const rfl)
  · intro p x t e h
    have hm := len_mid e
    have hx := hs x (mem_mid e)
    apply Ev.succ
    simp only [laws_eqGapS.l0, rd_TGap, getD_mid e]
    rw [w64 (i := (p.length : Int) + 1) (by omega) (by omega)]
    exact Ev.pos hm.1 (Ev.pos (by omega) (Ev.pos hm.1 (Ev.bind' _ (eqGap_eq x.f0 x.f1 x.f2 hx.2.2) (Ev.ite_true h))))
end Go.Proofs.YthckpgglghfiiaaDoor.PL
end
section
/- Is a number in a range: the reference's and the program's words. -/
set_option linter.unusedVariables false
set_option linter.unusedSimpArgs false
namespace Go.Proofs.YthckpgglghfiiaaDoor.PL
open Go.RowKit Go.Proofs.YthckpgglghfiiaaDoor.Pp Go.Proofs.YthckpgglghfiiaaDoor.PB Go.Proofs.YthckpgglghfiiaaDoorW.PrintWords Go.Proofs.YthckpgglghfiiaaDoorW.PrintLast
def inR (a b c : Int) : Bool := decide (b ≤ a ∧ a ≤ c)
theorem l1In_eq (a b c : Int) : spec_l1In.f a b c = some (inR a b c) := by
  unfold spec_l1In.f inR
  by_cases h : a ≥ b
  · rw [if_pos h]; simp [h]
  · rw [if_neg h]; simp; omega
theorem within_eq (a b c : Int) : impl_within.f a b c = some (inR a b c) := by
  unfold impl_within.f inR
  by_cases h : a ≥ b
  · rw [if_pos h]; simp [h]
  · rw [if_neg h]; simp; omega
end Go.Proofs.YthckpgglghfiiaaDoor.PL
end
section
/- slices.IndexFunc and ContainsFunc at one function value: the first place at which it answers yes. Written by gen_idx.py. -/
set_option linter.unusedVariables false
set_option linter.unusedSimpArgs false
namespace Go.Proofs.YthckpgglghfiiaaDoor.PL
open Go.RowKit Go.Proofs.YthckpgglghfiiaaDoor.Pp Go.Proofs.YthckpgglghfiiaaDoor.PB Go.Proofs.YthckpgglghfiiaaDoorW.PrintWords Go.Proofs.YthckpgglghfiiaaDoorW.PrintLast
theorem slices_IndexFunc_string_string_GoodName_1.idx (l0 : List ByteArray) (q : ByteArray → Bool) (hl : l0.length ≤ 1048576) (h : ∀ x ∈ l0, Ev (fun k => impl_GoodName_1.f x) (q x)) : Ev (fun k => slices_IndexFunc_string_string_GoodName_1.f k l0 ) (idxP q l0) := by
  unfold slices_IndexFunc_string_string_GoodName_1.f
  refine Ev.eq_ (loop_list l0 (fun k (_ : Nat) i => slices_IndexFunc_string_string_GoodName_1.l0 k l0 (l0.length : Int) i) (fun n t => if 0 ≤ idxP q t then (n : Int) + idxP q t else -1) (fun p n => n = p.length) ?_ ?_ 0 rfl) ?_
  · intro n hn
    apply Ev.succ
    simp only [slices_IndexFunc_string_string_GoodName_1.l0]
    exact Ev.neg (by omega) (Ev.const (by simp [idxP]))
  · intro p x t n e hn ih
    have hm := len_mid e
    have hx := h x (mem_mid e)
    apply Ev.succ
    simp only [slices_IndexFunc_string_string_GoodName_1.l0, rdOf_mid e]
    refine Ev.pos hm.1 (Ev.pos (by omega) (Ev.pos hm.1 (Ev.bind' _ hx ?_)))
    have hq : idxP q (x :: t) = (if q x then 0 else if 0 ≤ idxP q t then idxP q t + 1 else -1) := rfl
    rw [hq]
    cases q x with
    | true => exact Ev.ite_true (Ev.const (by simp [hn]))
    | false =>
      refine Ev.ite_false ?_
      rw [w64 (by omega) (by omega)]
      refine Ev.eq_ (ih (n + 1) (by simp [hn])) ?_
      by_cases h2 : 0 ≤ idxP q t
      · simp [h2]; omega
      · simp [h2]
  · by_cases h2 : 0 ≤ idxP q l0
    · simp [h2]
    · rw [if_neg h2]
      exact (idxP_neg q l0 h2).symm
theorem slices_ContainsFunc_string_string_GoodName_1.any (l0 : List ByteArray) (q : ByteArray → Bool) (hl : l0.length ≤ 1048576) (h : ∀ x ∈ l0, Ev (fun k => impl_GoodName_1.f x) (q x)) : Ev (fun k => slices_ContainsFunc_string_string_GoodName_1.f k l0 ) (l0.any q) := by
  unfold slices_ContainsFunc_string_string_GoodName_1.f
  refine Ev.bind' _ (slices_IndexFunc_string_string_GoodName_1.idx l0  q hl h) (Ev.const ?_)
  rw [idxP_nonneg]
end Go.Proofs.YthckpgglghfiiaaDoor.PL
end
section
/- Names: the reference's and the program's come to the same. -/
set_option linter.unusedVariables false
set_option linter.unusedSimpArgs false
namespace Go.Proofs.YthckpgglghfiiaaDoor.PL
open Go.RowKit Go.Proofs.YthckpgglghfiiaaDoor.Pp Go.Proofs.YthckpgglghfiiaaDoor.PB Go.Proofs.YthckpgglghfiiaaDoorW.PrintWords Go.Proofs.YthckpgglghfiiaaDoorW.PrintLast
def okB (b : UInt8) : Bool := (decide (97 ≤ (b.toNat : Int)) && decide ((b.toNat : Int) ≤ 122)) || (decide (48 ≤ (b.toNat : Int)) && decide ((b.toNat : Int) ≤ 57)) || decide ((b.toNat : Int) = 45) || decide ((b.toNat : Int) = 95)
def labelOk (s : ByteArray) : Bool := decide (bts s = [42]) || ((bts s).all okB && inR (bts s).length 1 20)
def labels (s : ByteArray) : List ByteArray := if bts s = [] then [] else splitC 46 [] (bts s)
def nameOk (s : ByteArray) : Bool := decide ((bts s).length ≤ 60) && decide ((labels s).length ≤ 8) && (labels s).all labelOk

theorem specSplit_eq (s : ByteArray) (hs : s.size ≤ 1048576) : Ev (fun k => spec_l1Split.f k s 46) (splitC 46 [] (bts s)) := by
  unfold spec_l1Split.f
  have hz := size_bts s
  refine Ev.eq_ (loop_list (bts s) (fun k (st : List ByteArray × Nat × List UInt8) i => spec_l1Split.l0 k s 46 st.1 st.2.1 i) (fun st t => st.1 ++ splitC 46 st.2.2 t) (fun p st => st.2.1 ≤ p.length ∧ st.2.2 = p.drop st.2.1 ∧ st.1.length ≤ p.length) ?_ ?_ ([], 0, []) ⟨Nat.zero_le _, rfl, Nat.zero_le _⟩) (by simp)
  · rintro ⟨acc, fr, cur⟩ ⟨h1, h2, h3⟩
    apply Ev.succ
    simp only [spec_l1Split.l0]
    simp only at h1 h2 h3
    refine Ev.neg (by omega) (Ev.pos (by omega) (Ev.pos (by omega) (Ev.pos (by omega) (Ev.const ?_))))
    simp only [splitC]
    rw [extract_bts, h2]
    congr 4
    rw [List.take_of_length_le]
    · simp
    · simp [hz]
  · rintro p b t ⟨acc, fr, cur⟩ e ⟨h1, h2, h3⟩ ih
    have hm := len_mid e
    simp only at h1 h2 h3
    apply Ev.succ
    simp only [spec_l1Split.l0]
    refine Ev.pos (by omega) (Ev.pos (by omega) ?_)
    rw [bt_mid e, w64 (i := (p.length : Int) + 1) (by omega) (by omega)]
    by_cases hb : b = 46
    · subst hb
      refine Ev.pos (by decide) (Ev.pos (by omega) (Ev.pos (by omega) (Ev.pos (by omega) (Ev.pos (by omega) ?_))))
      have hx : s.extract ((fr : Nat) : Int).toNat ((p.length : Nat) : Int).toNat = ⟨cur.toArray⟩ := by
        rw [extract_bts, h2]
        congr 2
        rw [e]
        simp only [Int.toNat_natCast]
        rw [List.drop_append_of_le_length h1, List.take_append_of_le_length (by simp), List.take_of_length_le (by simp)]
      rw [hx]
      have hc : ((p.length : Int) + 1) = (((p.length + 1 : Nat)) : Int) := by omega
      refine Ev.eq_ (ih (acc ++ [⟨cur.toArray⟩], p.length + 1, []) ⟨by simp, by simp, by simp; omega⟩) ?_
      simp [splitC]
    · have : ¬ ((b.toNat : Int) = 46) := by
        intro h
        apply hb
        apply UInt8.toNat_inj.mp
        have h46 : (46 : UInt8).toNat = 46 := rfl
        omega
      refine Ev.neg this ?_
      refine Ev.eq_ (ih (acc, fr, cur ++ [b]) ⟨by simp; omega, ?_, by simp; omega⟩) ?_
      · simp only
        rw [h2, List.drop_append_of_le_length h1]
      · simp [splitC, hb]

theorem genSplit_loop (n : Nat) (hn : n ≤ 1048576) : ∀ (m : Nat) (s : ByteArray) (A B : List ByteArray), s.size ≤ 1048576 → Go.Lib.countByte (bts s) 46 = m → A.length + m = n → A.length + B.length = n + 1 →
    Ev (fun k => strings_genSplit.l0 k s (⟨#[46]⟩ : ByteArray) 0 (n : Int) (A ++ B) (A.length : Int)) (A ++ splitC 46 [] (bts s))
  | 0, s, A, B, hs, hc, hA, hB => by
    obtain ⟨hnone, _⟩ := index_none _ _ hc
    apply Ev.succ
    simp only [strings_genSplit.l0]
    have hl : (A ++ B).length = n + 1 := by simp; omega
    refine Ev.neg (by omega) (Ev.pos (by omega) (Ev.pos (by rw [hl]; omega) ?_))
    rw [w64 (i := (A.length : Int) + 1) (by omega) (by omega)]
    refine Ev.pos (by omega) (Ev.pos (by rw [hl]; omega) (Ev.const ?_))
    rw [splitC_none _ _ _ hnone]
    obtain ⟨b, B', rfl⟩ : ∃ b B', B = b :: B' := by
      cases B with
      | nil => simp at hB; omega
      | cons b B' => exact ⟨b, B', rfl⟩
    rw [set_mid]
    have : (((A.length : Int) + 1)).toNat = (A ++ [s]).length := by simp <;> omega
    rw [this, List.take_left']
    · simp [mk_bts]
    · rfl
  | m + 1, s, A, B, hs, hc, hA, hB => by
    obtain ⟨pre, post, e, hm, hi, hc2⟩ := index_some (bts s) 46 (by omega)
    have hz := size_bts s
    have hlen : (bts s).length = pre.length + (post.length + 1) := by rw [e]; simp
    apply Ev.succ
    simp only [strings_genSplit.l0]
    have hl : (A ++ B).length = n + 1 := by simp; omega
    refine Ev.pos (by omega) (Ev.cbind (pre.length : Int) ?_ ?_)
    · unfold strings_Index.f
      rw [if_pos (by rfl)]
      exact congrArg some hi
    · refine Ev.neg (by omega) ?_
      have hsz1 : ((⟨#[46]⟩ : ByteArray).size : Int) = 1 := rfl
      rw [hsz1, Int.add_zero, w64 (i := (pre.length : Int)) (by omega) (by omega), w64 (i := (pre.length : Int) + 1) (by omega) (by omega), w64 (i := (A.length : Int) + 1) (by omega) (by omega)]
      refine Ev.pos (by omega) (Ev.pos (by omega) (Ev.pos (by omega) (Ev.pos (by rw [hl]; omega) (Ev.pos (by omega) (Ev.pos (by omega) ?_)))))
      obtain ⟨b, B', rfl⟩ : ∃ b B', B = b :: B' := by
        cases B with
        | nil => simp at hB; omega
        | cons b B' => exact ⟨b, B', rfl⟩
      rw [set_mid]
      have hx1 : s.extract 0 ((pre.length : Int)).toNat = ⟨pre.toArray⟩ := by
        rw [extract_bts]
        congr 2
        rw [e]
        simp
      have hx2 : s.extract (((pre.length : Int) + 1)).toNat s.size = ⟨post.toArray⟩ := by
        rw [extract_bts]
        congr 2
        have e' : bts s = (pre ++ [46]) ++ post := by simpa using e
        have h1 : (((pre.length : Int) + 1)).toNat = (pre ++ [46]).length := by simp <;> omega
        rw [e', h1, List.drop_left, List.take_of_length_le]
        simp at hlen ⊢
        omega
      rw [hx1, hx2]
      have hb1 : bts (⟨post.toArray⟩ : ByteArray) = post := bts_mk post
      have hb2 : (⟨post.toArray⟩ : ByteArray).size = post.length := by rw [size_bts, hb1]
      have := genSplit_loop n hn m ⟨post.toArray⟩ (A ++ [⟨pre.toArray⟩]) B' (by omega) (by rw [hb1]; omega) (by simp; omega) (by simp at hB ⊢; omega)
      have hcast : (((A ++ [(⟨pre.toArray⟩ : ByteArray)]).length : Nat) : Int) = (A.length : Int) + 1 := by simp
      rw [hcast] at this
      refine Ev.eq_ this ?_
      rw [hb1, e, splitC_pre _ _ _ _ hm]
      simp
theorem strSplit_eq (s : ByteArray) (hs : s.size ≤ 1048576) : Ev (fun k => strings_Split.f k s (⟨#[46]⟩ : ByteArray)) (splitC 46 [] (bts s)) := by
  unfold strings_Split.f strings_genSplit.f
  have hz := size_bts s
  have hcl := count_le (bts s) 46
  refine Ev.bind' _ (Ev.neg (by omega) (Ev.neg (by rw [toList_bts]; decide) (Ev.pos (by omega) (Ev.cbind (Go.Lib.countByte (bts s) 46 : Int) (by unfold strings_Count.f; rw [if_pos (by rfl)]; rfl) ?_)))) (Ev.const rfl)
  apply Ev.succ
  simp only [strings_genSplit.j0]
  rw [w64 (i := ((Go.Lib.countByte (bts s) 46 : Nat) : Int) + 1) (by omega) (by omega), w64 (i := (s.size : Int) + 1) (by omega) (by omega)]
  have hmn : mn (((Go.Lib.countByte (bts s) 46 : Nat) : Int) + 1) ((s.size : Int) + 1) = ((Go.Lib.countByte (bts s) 46 + 1 : Nat) : Int) := by
    unfold mn
    split <;> omega
  rw [hmn]
  rw [w64 (i := ((Go.Lib.countByte (bts s) 46 + 1 : Nat) : Int) - 1) (by omega) (by omega)]
  refine Ev.pos (by omega) (Ev.pos (by omega) ?_)
  have h1 : (((Go.Lib.countByte (bts s) 46 + 1 : Nat) : Int) - 1) = ((Go.Lib.countByte (bts s) 46 : Nat) : Int) := by omega
  rw [h1]
  have := genSplit_loop (Go.Lib.countByte (bts s) 46) (by omega) _ s [] (List.replicate ((Go.Lib.countByte (bts s) 46 + 1 : Nat) : Int).toNat (⟨#[]⟩ : ByteArray)) hs rfl (by simp) (by simp)
  simpa using this
theorem okB_in (b : UInt8) : ([97, 98, 99, 100, 101, 102, 103, 104, 105, 106, 107, 108, 109, 110, 111, 112, 113, 114, 115, 116, 117, 118, 119, 120, 121, 122, 48, 49, 50, 51, 52, 53, 54, 55, 56, 57, 45, 95] : List UInt8).contains b = okB b :=
  all8 (fun b => ([97, 98, 99, 100, 101, 102, 103, 104, 105, 106, 107, 108, 109, 110, 111, 112, 113, 114, 115, 116, 117, 118, 119, 120, 121, 122, 48, 49, 50, 51, 52, 53, 54, 55, 56, 57, 45, 95] : List UInt8).contains b) okB (by decide +kernel) b
theorem isLabel_eq (s : ByteArray) (hs : s.size ≤ 1048576) : impl_isLabel.f s = some (labelOk s) := by
  have hz := size_bts s
  unfold impl_isLabel.f labelOk
  rw [toList_bts]
  by_cases h : bts s = [42]
  · rw [if_pos h]; simp [h]
  · rw [if_neg h, within_eq]
    simp only [Option.bind_some, h, decide_false, Bool.false_or]
    rw [hz]
    cases hr : inR ((bts s).length : Int) 1 20 with
    | false => simp
    | true =>
      simp only [if_true, Bool.and_true]
      unfold strings_Trim.f
      rw [if_pos ⟨by omega, by decide, by decide +kernel⟩]
      simp only [Option.bind_some]
      congr 1
      rw [toList_bts, bts_mk, trimS_nil]
      congr 1
      funext b
      exact okB_in b
theorem specLabel_eq (s : ByteArray) (hs : s.size ≤ 1048576) : Ev (fun k => spec_l1Label.f k s) (labelOk s) := by
  have hz := size_bts s
  unfold spec_l1Label.f labelOk
  rw [toList_bts]
  by_cases h : bts s = [42]
  · exact Ev.pos h (Ev.const (by simp [h]))
  · refine Ev.neg h ?_
    refine Ev.eq_ (loop_list (bts s) (fun k (_ : Unit) i => spec_l1Label.l0 k s i) (fun _ t => t.all okB && inR (bts s).length 1 20) (fun _ _ => True) ?_ ?_ () trivial) (by simp [h])
    · intro _ _
      apply Ev.succ
      simp only [spec_l1Label.l0]
      refine Ev.neg (by omega) (Ev.cbind _ (l1In_eq _ _ _) (Ev.const (by simp [hz])))
    · intro p b t _ e _ ih
      have hm := len_mid e
      apply Ev.succ
      simp only [spec_l1Label.l0]
      refine Ev.pos (by omega) (Ev.pos (by omega) ?_)
      rw [bt_mid e, w64 (i := (p.length : Int) + 1) (by omega) (by omega)]
      have hgo := ih () trivial
      have hb := b.toNat_lt
      have key : ∀ (g : Nat → Option Bool), (okB b = true → Ev g (t.all okB && inR (bts s).length 1 20)) → (okB b = false → Ev g false) → Ev g ((b :: t).all okB && inR (bts s).length 1 20) := by
        intro g h1 h2
        cases ho : okB b with
        | true => simpa [ho] using h1 ho
        | false => simpa [ho] using h2 ho
      refine key _ (fun ho => ?_) (fun ho => ?_)
      · simp only [okB, Bool.or_eq_true, Bool.and_eq_true, decide_eq_true_eq] at ho
        by_cases c1 : (b.toNat : Int) ≥ 97
        · refine Ev.pos c1 ?_
          by_cases c2 : (b.toNat : Int) ≤ 122
          · exact Ev.pos c2 hgo
          · refine Ev.neg c2 (Ev.pos (by omega) (Ev.neg (by omega) (Ev.neg (by omega) (Ev.neg (by omega) ?_))))
            omega
        · refine Ev.neg c1 ?_
          by_cases c3 : (b.toNat : Int) ≥ 48
          · refine Ev.pos c3 ?_
            by_cases c4 : (b.toNat : Int) ≤ 57
            · exact Ev.pos c4 hgo
            · refine Ev.neg c4 ?_
              by_cases c5 : (b.toNat : Int) = 45
              · exact Ev.pos c5 hgo
              · exact Ev.neg c5 (Ev.pos (by omega) hgo)
          · refine Ev.neg c3 ?_
            by_cases c5 : (b.toNat : Int) = 45
            · exact Ev.pos c5 hgo
            · exact Ev.neg c5 (Ev.pos (by omega) hgo)
      · simp only [okB, Bool.or_eq_false_iff, Bool.and_eq_false_iff, decide_eq_false_iff_not] at ho
        by_cases c1 : (b.toNat : Int) ≥ 97
        · exact Ev.pos c1 (Ev.neg (by omega) (Ev.pos (by omega) (Ev.neg (by omega) (Ev.neg (by omega) (Ev.neg (by omega) (Ev.const rfl))))))
        · refine Ev.neg c1 ?_
          by_cases c3 : (b.toNat : Int) ≥ 48
          · exact Ev.pos c3 (Ev.neg (by omega) (Ev.neg (by omega) (Ev.neg (by omega) (Ev.const rfl))))
          · exact Ev.neg c3 (Ev.neg (by omega) (Ev.neg (by omega) (Ev.const rfl)))
theorem splitC_sizes (c : UInt8) : ∀ (l cur : List UInt8), ∀ x ∈ splitC c cur l, x.size ≤ cur.length + l.length
  | [], cur, x, h => by
    simp only [splitC, List.mem_singleton] at h
    subst h
    rw [size_bts, bts_mk]
    simp
  | b :: l, cur, x, h => by
    unfold splitC at h
    split at h
    · rcases List.mem_cons.mp h with rfl | h2
      · rw [size_bts, bts_mk]; simp
      · have := splitC_sizes c l [] x h2
        simp at this ⊢
        omega
    · have := splitC_sizes c l (cur ++ [b]) x h
      simp at this ⊢
      omega
theorem specLabels_eq (s : ByteArray) (hs : s.size ≤ 1048576) : Ev (fun k => spec_l1Labels.f k s) (if (labels s).all labelOk = true then (labels s, decide ((bts s).length ≤ 60) && decide ((labels s).length ≤ 8)) else ([], false)) := by
  have hz := size_bts s
  unfold spec_l1Labels.f
  rw [toList_bts]
  by_cases h : bts s = []
  · refine Ev.pos h (Ev.const ?_)
    have : labels s = [] := by unfold labels; rw [if_pos h]
    simp [this, h]
  · have hlab : labels s = splitC 46 [] (bts s) := by unfold labels; rw [if_neg h]
    rw [hlab]
    refine Ev.neg h (Ev.bind' _ (specSplit_eq s hs) ?_)
    have hlen := splitC_len 46 (bts s) []
    have hsz := splitC_sizes 46 (bts s) []
    generalize splitC 46 [] (bts s) = L at hlen hsz
    refine Ev.eq_ (loop_list L (fun k (_ : Unit) i => spec_l1Labels.l0 k s L L (L.length : Int) i) (fun _ t => if t.all labelOk = true then (L, decide ((bts s).length ≤ 60) && decide (L.length ≤ 8)) else ([], false)) (fun _ _ => True) ?_ ?_ () trivial) rfl
    · intro _ _
      apply Ev.succ
      simp only [spec_l1Labels.l0]
      refine Ev.neg (by omega) ?_
      by_cases h60 : (s.size : Int) ≤ 60
      · refine Ev.pos h60 (Ev.const ?_)
        have : (bts s).length ≤ 60 := by omega
        simp [this]
        omega
      · refine Ev.neg h60 (Ev.const ?_)
        have : ¬ (bts s).length ≤ 60 := by omega
        simp [this]
    · intro p x t _ e _ ih
      have hm := len_mid e
      have hx : x.size ≤ 1048576 := by have := hsz x (mem_mid e); simp at this; omega
      apply Ev.succ
      simp only [spec_l1Labels.l0, rdOf_mid e]
      refine Ev.pos hm.1 (Ev.pos (by omega) (Ev.pos hm.1 (Ev.bind' _ (specLabel_eq x hx) ?_)))
      cases hl : labelOk x with
      | false => exact Ev.ite_false (Ev.const (by simp [hl]))
      | true =>
        refine Ev.ite_true ?_
        rw [w64 (i := (p.length : Int) + 1) (by omega) (by omega)]
        refine Ev.eq_ (ih () trivial) ?_
        simp [hl]
theorem specGoodName_eq (s : ByteArray) (hs : s.size ≤ 1048576) : Ev (fun k => spec_GoodName.f k s) (nameOk s) := by
  unfold spec_GoodName.f nameOk
  refine Ev.bind' _ (specLabels_eq s hs) (Ev.const ?_)
  cases (labels s).all labelOk <;> simp
theorem labelsOf_eq (s : ByteArray) (hs : s.size ≤ 1048576) : Ev (fun k => impl_labelsOf.f k s) (labels s) := by
  unfold impl_labelsOf.f labels
  rw [toList_bts]
  by_cases h : bts s = []
  · exact Ev.pos h (Ev.const (by rw [if_pos h]))
  · rw [if_neg h]
    exact Ev.neg h (Ev.bind' _ (strSplit_eq s hs) (Ev.const rfl))
theorem labels_len (s : ByteArray) : (labels s).length ≤ s.size + 1 := by
  have hz := size_bts s
  unfold labels
  split
  · simp
  · have := splitC_len 46 (bts s) []; omega
theorem labels_sizes (s : ByteArray) : ∀ x ∈ labels s, x.size ≤ s.size := by
  have hz := size_bts s
  unfold labels
  split
  · simp
  · intro x hx
    have := splitC_sizes 46 (bts s) [] x hx
    simp at this
    omega
theorem implGoodName_eq (s : ByteArray) (hs : s.size ≤ 1048576) : Ev (fun k => impl_GoodName.f k s) (nameOk s) := by
  have hz := size_bts s
  have hll := labels_len s
  have hls := labels_sizes s
  unfold impl_GoodName.f nameOk
  by_cases h : (s.size : Int) > 60
  · refine Ev.pos h (Ev.const ?_)
    have : ¬ (bts s).length ≤ 60 := by omega
    simp [this]
  · refine Ev.neg h (Ev.bind' _ (labelsOf_eq s hs) ?_)
    have h60 : (bts s).length ≤ 60 := by omega
    by_cases h8 : ((labels s).length : Int) ≤ 8
    · refine Ev.pos h8 (Ev.bind' _ (slices_ContainsFunc_string_string_GoodName_1.any (labels s) (fun x => !labelOk x) (by omega) ?_) (Ev.const ?_))
      · intro x hx
        unfold impl_GoodName_1.f
        exact Ev.cbind _ (isLabel_eq x (by have := hls x hx; omega)) (Ev.const rfl)
      · have h8' : (labels s).length ≤ 8 := by omega
        rw [any_not]
        simp [h60, h8']
    · refine Ev.neg h8 (Ev.const ?_)
      have h8' : ¬ (labels s).length ≤ 8 := by omega
      simp [h8']
end Go.Proofs.YthckpgglghfiiaaDoor.PL
end
section
/- One name below another: the two come to the same. -/
set_option linter.unusedVariables false
set_option linter.unusedSimpArgs false
namespace Go.Proofs.YthckpgglghfiiaaDoor.PL
open Go.RowKit Go.Proofs.YthckpgglghfiiaaDoor.Pp Go.Proofs.YthckpgglghfiiaaDoor.PB Go.Proofs.YthckpgglghfiiaaDoorW.PrintWords Go.Proofs.YthckpgglghfiiaaDoorW.PrintLast
def belowN (a b : ByteArray) : Bool := decide (bts b = []) || decide (bts a = bts b) || (46 :: bts b).isSuffixOf (bts a)
theorem suffix_drop {α : Type} [BEq α] [LawfulBEq α] (l m : List α) : m.isSuffixOf l = (decide (m.length ≤ l.length) && (l.drop (l.length - m.length) == m)) := by
  rw [Bool.eq_iff_iff, List.isSuffixOf_iff_suffix]
  simp only [Bool.and_eq_true, decide_eq_true_eq, beq_iff_eq]
  constructor
  · rintro ⟨p, rfl⟩
    refine ⟨by simp, ?_⟩
    simp
  · rintro ⟨h1, h2⟩
    exact ⟨l.take (l.length - m.length), by rw [← h2, List.length_drop]; have : l.length - (l.length - (l.length - m.length)) = l.length - m.length := by omega
                                            rw [this]; exact List.take_append_drop _ _⟩
theorem specBelow_eq (a b : ByteArray) (ha : a.size ≤ 1048576) (hb : b.size ≤ 1048576) : spec_l1Below.f a b = some (belowN a b) := by
  have za := size_bts a
  have zb := size_bts b
  unfold spec_l1Below.f belowN
  simp only [toList_bts]
  by_cases h1 : bts b = []
  · rw [if_pos h1]; simp [h1]
  · rw [if_neg h1]
    by_cases h2 : bts a = bts b
    · rw [if_pos h2]; simp [h2]
    · rw [if_neg h2]
      have hn : (decide (bts b = []) || decide (bts a = bts b)) = false := by simp [h1, h2]
      rw [hn, Bool.false_or, suffix_drop]
      rw [w64 (i := (a.size : Int) - (b.size : Int)) (by omega) (by omega)]
      by_cases h3 : (a.size : Int) - (b.size : Int) > 0
      · rw [if_pos h3, if_pos (by omega), if_pos (by omega), w64 (i := (a.size : Int) - (b.size : Int) - 1) (by omega) (by omega)]
        obtain ⟨c, hc⟩ : ∃ c : Nat, a.size = b.size + (c + 1) := ⟨a.size - b.size - 1, by omega⟩
        have e1 : ((a.size : Int) - (b.size : Int)).toNat = c + 1 := by omega
        have e2 : (a.size : Int) - (b.size : Int) - 1 = (c : Int) := by omega
        have hl : (bts a).length = (bts b).length + (c + 1) := by omega
        obtain ⟨p, x, t, e, hp⟩ : ∃ p x t, bts a = p ++ x :: t ∧ p.length = c := by
          refine ⟨(bts a).take c, (bts a)[c]'(by omega), (bts a).drop (c + 1), ?_, by simp; omega⟩
          rw [List.getElem_cons_drop]
          exact (List.take_append_drop _ _).symm
        have hx : bt a (c : Int) = (x.toNat : Int) := by rw [← hp]; exact bt_mid e
        have ht : bts (a.extract (c + 1) a.size) = t := by
          rw [extract_bts, bts_mk, e, ← hp]
          have : p ++ x :: t = (p ++ [x]) ++ t := by simp
          rw [this, show p.length + 1 = (p ++ [x]).length from by simp, List.drop_left, List.take_of_length_le]
          have hz : (bts a).length = p.length + (t.length + 1) := by rw [e]; simp
          have hlp : (p ++ [x]).length = p.length + 1 := by simp
          omega
        have htl : t.length = (bts b).length := by
          have hz : (bts a).length = p.length + (t.length + 1) := by rw [e]; simp
          omega
        rw [e1, ht, e2, hx]
        have hd : (bts a).drop ((bts a).length - (46 :: bts b).length) = x :: t := by
          have : (bts a).length - (46 :: bts b).length = p.length := by simp; omega
          rw [this, e, List.drop_left]
        rw [hd]
        have hle : decide ((46 :: bts b).length ≤ (bts a).length) = true := decide_eq_true (by simp; omega)
        rw [hle, Bool.true_and]
        by_cases h4 : t = bts b
        · rw [if_pos h4, if_pos (by omega), if_pos (by omega)]
          congr 1
          rw [h4]
          by_cases h5 : x = 46
          · subst h5
            simp
          · have : ¬ ((x.toNat : Int) = 46) := by
              intro h
              apply h5
              apply UInt8.toNat_inj.mp
              have h46 : (46 : UInt8).toNat = 46 := rfl
              omega
            have a1 : (((x.toNat : Int)) == 46) = false := beq_eq_false_iff_ne.mpr this
            have a2 : (x == 46) = false := beq_eq_false_iff_ne.mpr h5
            simp [a1, a2]
        · rw [if_neg h4]
          simp [h4]
      · rw [if_neg h3]
        have hle : decide ((46 :: bts b).length ≤ (bts a).length) = false := decide_eq_false (by simp; omega)
        rw [hle, Bool.false_and]
theorem implBelow_eq (a b : ByteArray) (ha : a.size ≤ 1048576) (hb : b.size ≤ 1048576) : impl_isBelow.f a b = some (belowN a b) := by
  have za := size_bts a
  have zb := size_bts b
  unfold impl_isBelow.f belowN
  simp only [toList_bts]
  by_cases h2 : bts a = bts b
  · rw [if_pos h2]; simp [h2]
  · rw [if_neg h2]
    by_cases h1 : bts b = []
    · rw [if_pos h1]; simp [h1]
    · rw [if_neg h1, if_pos (by omega)]
      have hn : (decide (bts b = []) || decide (bts a = bts b)) = false := by simp [h1, h2]
      rw [hn, Bool.false_or, suffix_drop]
      have hs : bts ((⟨#[46]⟩ : ByteArray) ++ b) = 46 :: bts b := by
        unfold bts
        rw [ByteArray.data_append]
        simp
      have hz : ((⟨#[46]⟩ : ByteArray) ++ b).size = b.size + 1 := by rw [size_bts, hs]; simp; omega
      unfold strings_HasSuffix.f stringslite_HasSuffix.f
      by_cases h3 : (a.size : Int) ≥ (((⟨#[46]⟩ : ByteArray) ++ b).size : Int)
      · rw [if_pos h3]
        rw [hz] at h3
        rw [hz, w64 (i := (a.size : Int) - ((b.size + 1 : Nat) : Int)) (by omega) (by omega), if_pos (by omega), if_pos (by omega)]
        simp only [Option.bind_some]
        congr 1
        have e1 : ((a.size : Int) - ((b.size + 1 : Nat) : Int)).toNat = (bts a).length - (46 :: bts b).length := by simp; omega
        rw [e1, toList_bts, toList_bts, extract_bts, bts_mk, hs, List.take_of_length_le (by simp; omega)]
        have hle : decide ((46 :: bts b).length ≤ (bts a).length) = true := decide_eq_true (by simp; omega)
        rw [hle, Bool.true_and]
      · rw [if_neg h3]
        rw [hz] at h3
        have hle : decide ((46 :: bts b).length ≤ (bts a).length) = false := decide_eq_false (by simp; omega)
        rw [hle, Bool.false_and]
        rfl
end Go.Proofs.YthckpgglghfiiaaDoor.PL
end
section
/- The order of names: the reference's and the program's come to the same, for good names. -/
set_option linter.unusedVariables false
set_option linter.unusedSimpArgs false
namespace Go.Proofs.YthckpgglghfiiaaDoor.PL
open Go.RowKit Go.Proofs.YthckpgglghfiiaaDoor.Pp Go.Proofs.YthckpgglghfiiaaDoor.PB Go.Proofs.YthckpgglghfiiaaDoorW.PrintWords Go.Proofs.YthckpgglghfiiaaDoorW.PrintLast
def ltS (a b : ByteArray) : Bool := Op.bytesLess (bts a) (bts b)
def cmpR : List ByteArray → List ByteArray → Int
  | [], [] => 0
  | [], _ :: _ => -1
  | _ :: _, [] => 1
  | a :: s, b :: t => if ltS a b = true then -1 else if bts a = bts b then cmpR s t else 1
def cmpN (a b : ByteArray) : Int := cmpR (labels a).reverse (labels b).reverse
theorem rev_at {α : Type} {l p t : List α} {x d : α} (e : l.reverse = p ++ x :: t) : rdOf d l ((l.length : Int) - ((p.length : Int) + 1)) = x := by
  have hl : l = t.reverse ++ x :: p.reverse := by
    have := congrArg List.reverse e
    rw [List.reverse_reverse] at this
    rw [this]
    simp
  have hn : ((l.length : Int) - ((p.length : Int) + 1)) = ((t.reverse.length : Nat) : Int) := by
    rw [hl]
    simp <;> omega
  rw [hn]
  exact rdOf_mid hl
theorem specCompare_loop (x y : List ByteArray) (hx : x.length ≤ 1048577) (hy : y.length ≤ 1048577) : ∀ (s t p q : List ByteArray), x.reverse = p ++ s → y.reverse = q ++ t → p.length = q.length → Ev (fun k => spec_l1Compare.l0 k x y ((p.length : Int) + 1)) (cmpR s t)
  | [], t, p, q, e1, e2, hp => by
    have l1 : x.length = p.length := by have := congrArg List.length e1; simpa using this
    have l2 : y.length = q.length + t.length := by have := congrArg List.length e2; simpa using this
    apply Ev.succ
    simp only [spec_l1Compare.l0]
    refine Ev.neg (by omega) (Ev.succ ?_)
    simp only [spec_l1Compare.j1]
    cases t with
    | nil =>
      simp only [List.length_nil] at l2
      first
        | exact Ev.neg (by simp) (Ev.neg (by omega) (Ev.neg (by omega) (Ev.const rfl)))
        | exact Ev.neg (by omega) (Ev.neg (by omega) (Ev.const rfl))
    | cons b t =>
      simp only [List.length_cons] at l2
      first
        | exact Ev.neg (by simp) (Ev.pos (by omega) (Ev.const rfl))
        | exact Ev.pos (by omega) (Ev.const rfl)
  | a :: s, [], p, q, e1, e2, hp => by
    have l1 : x.length = p.length + (s.length + 1) := by have := congrArg List.length e1; simpa using this
    have l2 : y.length = q.length := by have := congrArg List.length e2; simpa using this
    apply Ev.succ
    simp only [spec_l1Compare.l0]
    refine Ev.pos (by omega) (Ev.succ ?_)
    simp only [spec_l1Compare.j1]
    refine Ev.neg (by simp; omega) (Ev.neg (by omega) (Ev.pos (by omega) (Ev.const rfl)))
  | a :: s, b :: t, p, q, e1, e2, hp => by
    have l1 : x.length = p.length + (s.length + 1) := by have := congrArg List.length e1; simpa using this
    have l2 : y.length = q.length + (t.length + 1) := by have := congrArg List.length e2; simpa using this
    have ra : rdOf ByteArray.empty x ((x.length : Int) - ((p.length : Int) + 1)) = a := rev_at e1
    have rb : rdOf ByteArray.empty y ((y.length : Int) - ((p.length : Int) + 1)) = b := by rw [hp]; exact rev_at e2
    have ih := specCompare_loop x y hx hy s t (p ++ [a]) (q ++ [b]) (by rw [e1]; simp) (by rw [e2]; simp) (by simp [hp])
    have ec : (((p ++ [a]).length : Nat) : Int) + 1 = (p.length : Int) + 1 + 1 := by simp
    rw [ec] at ih
    apply Ev.succ
    simp only [spec_l1Compare.l0]
    refine Ev.pos (by omega) (Ev.succ ?_)
    simp only [spec_l1Compare.j1]
    rw [w64 (i := (x.length : Int) - ((p.length : Int) + 1)) (by omega) (by omega), w64 (i := (y.length : Int) - ((p.length : Int) + 1)) (by omega) (by omega), w64 (i := (p.length : Int) + 1 + 1) (by omega) (by omega), ra, rb, toList_bts, toList_bts]
    refine Ev.pos (by simp; omega) (Ev.pos (by omega) (Ev.pos (by omega) (Ev.pos (by omega) (Ev.pos (by omega) ?_))))
    have hc : cmpR (a :: s) (b :: t) = if ltS a b = true then -1 else if bts a = bts b then cmpR s t else 1 := rfl
    rw [hc]
    by_cases h1 : ltS a b = true
    · rw [if_pos h1]
      exact Ev.pos h1 (Ev.const rfl)
    · rw [if_neg h1]
      refine Ev.neg h1 ?_
      by_cases h2 : bts a = bts b
      · rw [if_pos h2]
        exact Ev.pos h2 ih
      · rw [if_neg h2]
        exact Ev.neg h2 (Ev.const rfl)
theorem specCompare_eq (a b : ByteArray) (ha : a.size ≤ 1048576) (hb : b.size ≤ 1048576) (ga : (labels a).all labelOk = true) (gb : (labels b).all labelOk = true) : Ev (fun k => spec_l1Compare.f k a b) (cmpN a b) := by
  have la := labels_len a
  have lb := labels_len b
  unfold spec_l1Compare.f
  have h1 := specLabels_eq a ha
  have h2 := specLabels_eq b hb
  rw [if_pos ga] at h1
  rw [if_pos gb] at h2
  refine Ev.bind' _ h1 (Ev.bind' _ h2 ?_)
  have := specCompare_loop (labels a) (labels b) (by omega) (by omega) (labels a).reverse (labels b).reverse [] [] rfl rfl rfl
  unfold cmpN
  simpa using this
theorem reverse_loop : ∀ (n : Nat) (M A B : List ByteArray), M.length ≤ n → A.length = B.length → (A ++ M ++ B).length ≤ 1048577 → Ev (fun k => slices_Reverse_string_string.l0 k (A ++ M ++ B) (A.length : Int) ((A.length : Int) + M.length - 1)) (A ++ M.reverse ++ B)
  | n, [], A, B, hn, hAB, hl => by
    apply Ev.succ
    simp only [slices_Reverse_string_string.l0]
    exact Ev.neg (by simp <;> omega) (Ev.const (by simp))
  | n, [m], A, B, hn, hAB, hl => by
    apply Ev.succ
    simp only [slices_Reverse_string_string.l0]
    exact Ev.neg (by simp <;> omega) (Ev.const (by simp))
  | 0, m1 :: m2 :: M, A, B, hn, hAB, hl => by simp at hn
  | n + 1, m1 :: m2 :: M, A, B, hn, hAB, hl => by
    obtain ⟨M', z, hM⟩ : ∃ M' z, m2 :: M = M' ++ [z] := ⟨(m2 :: M).dropLast, (m2 :: M).getLast (by simp), (List.dropLast_concat_getLast _).symm⟩
    rw [hM] at hn hl ⊢
    have hlen : (A ++ (m1 :: (M' ++ [z])) ++ B).length = A.length + (M'.length + 2) + B.length := by simp; omega
    rw [hlen] at hl
    simp only [List.length_cons, List.length_append, List.length_nil] at hn
    have e1 : A ++ (m1 :: (M' ++ [z])) ++ B = A ++ m1 :: (M' ++ z :: B) := by simp
    have e2 : A ++ (m1 :: (M' ++ [z])) ++ B = (A ++ m1 :: M') ++ z :: B := by simp
    have hj : (A.length : Int) + (((m1 :: (M' ++ [z])).length : Nat) : Int) - 1 = (((A ++ m1 :: M').length : Nat) : Int) := by simp; omega
    have hj2 : (((A ++ m1 :: M').length : Nat) : Int) = (A.length : Int) + M'.length + 1 := by simp; omega
    rw [hj]
    have ih := reverse_loop n M' (A ++ [z]) (m1 :: B) (by omega) (by simp; omega) (by simp; omega)
    apply Ev.succ
    simp only [slices_Reverse_string_string.l0]
    have r1 : rdOf ByteArray.empty (A ++ (m1 :: (M' ++ [z])) ++ B) (A.length : Int) = m1 := rdOf_mid e1
    have r2 : rdOf ByteArray.empty (A ++ (m1 :: (M' ++ [z])) ++ B) (((A ++ m1 :: M').length : Nat) : Int) = z := rdOf_mid e2
    rw [r1, r2, w64 (i := (A.length : Int) + 1) (by omega) (by omega), w64 (i := (((A ++ m1 :: M').length : Nat) : Int) - 1) (by omega) (by omega)]
    refine Ev.pos (by omega) (Ev.pos (by omega) (Ev.pos (by rw [hlen]; omega) (Ev.pos (by omega) (Ev.pos (by rw [hlen]; omega) ?_))))
    have s1 : (A ++ (m1 :: (M' ++ [z])) ++ B).set ((A.length : Int)).toNat z = (A ++ z :: M') ++ z :: B := by
      rw [e1, set_mid]
      simp
    have s2 : ((A ++ z :: M') ++ z :: B).set ((((A ++ m1 :: M').length : Nat) : Int)).toNat m1 = (A ++ [z]) ++ M' ++ (m1 :: B) := by
      have : (((A ++ m1 :: M').length : Nat) : Int) = (((A ++ z :: M').length : Nat) : Int) := by simp
      rw [this, set_mid]
      simp
    rw [s1, s2]
    have c1 : (((A ++ [z]).length : Nat) : Int) = (A.length : Int) + 1 := by simp
    have c2 : (A.length : Int) + 1 + (M'.length : Int) - 1 = (((A ++ m1 :: M').length : Nat) : Int) - 1 := by rw [hj2]; omega
    rw [c1, c2] at ih
    refine Ev.eq_ ih ?_
    simp
theorem reverse_eq (l : List ByteArray) (hl : l.length ≤ 1048577) : Ev (fun k => slices_Reverse_string_string.f k l) l.reverse := by
  unfold slices_Reverse_string_string.f
  rw [w64 (by omega) (by omega)]
  have := reverse_loop l.length l [] [] (Nat.le_refl _) rfl (by simpa using hl)
  simpa using this
theorem cmpStr_eq (a b : ByteArray) : cmp_Compare_string.f a b = some (if ltS a b = true then -1 else if bts a = bts b then 0 else 1) := by
  unfold cmp_Compare_string.f cmp_isNaN_string.f ltS
  simp only [Option.bind_some, bne_self_eq_false, Bool.false_eq_true, if_false, toList_bts]
  split
  · rfl
  · split <;> rfl
theorem sliceCompare_eq (x y : List ByteArray) (hx : x.length ≤ 1048577) (hy : y.length ≤ 1048577) : Ev (fun k => slices_Compare_string_string.f k x y) (cmpR x y) := by
  unfold slices_Compare_string_string.f
  have main : ∀ (s t p q : List ByteArray), x = p ++ s → y = q ++ t → p.length = q.length → Ev (fun k => slices_Compare_string_string.l0 k x y x (x.length : Int) (p.length : Int)) (cmpR s t) := by
    intro s
    induction s with
    | nil =>
      intro t p q e1 e2 hp
      have l1 : x.length = p.length := by rw [e1]; simp
      have l2 : y.length = q.length + t.length := by rw [e2]; simp
      apply Ev.succ
      simp only [slices_Compare_string_string.l0]
      refine Ev.neg (by omega) ?_
      cases t with
      | nil => simp only [List.length_nil] at l2; exact Ev.neg (by omega) (Ev.const rfl)
      | cons b t => simp only [List.length_cons] at l2; exact Ev.pos (by omega) (Ev.const rfl)
    | cons a s ih =>
      intro t p q e1 e2 hp
      have m1 := len_mid e1
      apply Ev.succ
      simp only [slices_Compare_string_string.l0, rdOf_mid e1]
      refine Ev.pos m1.1 (Ev.pos (by omega) (Ev.pos m1.1 ?_))
      cases t with
      | nil =>
        have l2 : y.length = q.length := by rw [e2]; simp
        exact Ev.pos (by omega) (Ev.const rfl)
      | cons b t =>
        have m2 := len_mid e2
        have rb : rdOf ByteArray.empty y (p.length : Int) = b := by rw [hp]; exact rdOf_mid e2
        have hg := ih t (p ++ [a]) (q ++ [b]) (by rw [e1]; simp) (by rw [e2]; simp) (by simp [hp])
        have ec : (((p ++ [a]).length : Nat) : Int) = (p.length : Int) + 1 := by simp
        rw [ec] at hg
        rw [rb, w64 (i := (p.length : Int) + 1) (by omega) (by omega)]
        refine Ev.neg (by omega) (Ev.pos (by omega) (Ev.cbind _ (cmpStr_eq a b) ?_))
        have hc : cmpR (a :: s) (b :: t) = if ltS a b = true then -1 else if bts a = bts b then cmpR s t else 1 := rfl
        rw [hc]
        by_cases h1 : ltS a b = true
        · rw [if_pos h1, if_pos h1]
          exact Ev.neg (by omega) (Ev.const rfl)
        · rw [if_neg h1, if_neg h1]
          by_cases h2 : bts a = bts b
          · rw [if_pos h2, if_pos h2]
            exact Ev.pos rfl hg
          · rw [if_neg h2, if_neg h2]
            exact Ev.neg (by omega) (Ev.const rfl)
  simpa using main x y [] [] rfl rfl rfl
theorem compareNames_eq (a b : ByteArray) (ha : a.size ≤ 1048576) (hb : b.size ≤ 1048576) : Ev (fun k => impl_compareNames.f k a b) (cmpN a b) := by
  have la := labels_len a
  have lb := labels_len b
  unfold impl_compareNames.f
  refine Ev.bind' _ (labelsOf_eq a ha) (Ev.bind' _ (labelsOf_eq b hb) (Ev.bind' _ (reverse_eq _ (by omega)) (Ev.bind' _ (reverse_eq _ (by omega)) (Ev.bind' _ (sliceCompare_eq _ _ (by simp; omega) (by simp; omega)) (Ev.const rfl)))))
theorem nameOk_labels {s : ByteArray} (h : nameOk s = true) : (labels s).all labelOk = true ∧ (bts s).length ≤ 60 := by
  unfold nameOk at h
  simp only [Bool.and_eq_true, decide_eq_true_eq] at h
  exact ⟨h.2, h.1.1⟩
end Go.Proofs.YthckpgglghfiiaaDoor.PL
end
section
/- Rings of gaps: good ones. Both come to the same. -/
set_option linter.unusedVariables false
set_option linter.unusedSimpArgs false
namespace Go.Proofs.YthckpgglghfiiaaDoor.PL
open Go.RowKit Go.Proofs.YthckpgglghfiiaaDoor.Pp Go.Proofs.YthckpgglghfiiaaDoor.PB Go.Proofs.YthckpgglghfiiaaDoorW.PrintWords Go.Proofs.YthckpgglghfiiaaDoorW.PrintLast
/-- The owner of the gap behind. -/
def nxt (f : ByteArray) : List S_Gap → ByteArray
  | [] => f
  | h :: _ => h.f0
def above : Option ByteArray → ByteArray → Bool
  | none, _ => true
  | some q, o => decide (cmpN q o < 0)
def gOk (a : ByteArray) (s : Option ByteArray) (n : ByteArray) (g : S_Gap) : Bool := nameOk g.f0 && belowN g.f0 a && decide (bts g.f1 = bts n) && areT g.f2 && above s g.f0
def ring (a f : ByteArray) : Option ByteArray → List S_Gap → Bool
  | _, [] => true
  | s, g :: t => gOk a s (nxt f t) g && ring a f (some g.f0) t
def gaps (a : ByteArray) : List S_Gap → Bool
  | [] => false
  | g :: t => nameOk a && decide ((g :: t).length ≤ 40) && decide (bts g.f0 = bts a) && ring a g.f0 none (g :: t)
/-- The gap behind, by its number. -/
theorem at_next {l p t : List S_Gap} {x : S_Gap} {f : ByteArray} (z : S_Gap) (e : l = p ++ x :: t) (hl : l.length ≤ 1048576) (hf : (l.getD 0 z).f0 = f) :
    (0 ≤ Int.tmod ((p.length : Int) + 1) (l.length : Int)) ∧ (Int.tmod ((p.length : Int) + 1) (l.length : Int) < (l.length : Int)) ∧ (l.getD (Int.tmod ((p.length : Int) + 1) (l.length : Int)).toNat z).f0 = nxt f t := by
  have hm := len_mid e
  have e0 : Int.tmod ((p.length : Int) + 1) (l.length : Int) = (((p.length + 1) % l.length : Nat) : Int) := by
    rw [show (p.length : Int) + 1 = ((p.length + 1 : Nat) : Int) from by omega]
    exact (Int.ofNat_tmod _ _).symm
  rw [e0]
  have h1 : (p.length + 1) % l.length < l.length := Nat.mod_lt _ (by omega)
  refine ⟨by omega, by omega, ?_⟩
  rw [Int.toNat_natCast]
  cases t with
  | nil =>
    have : p.length + 1 = l.length := by have := hm.2.2; simp at this; omega
    rw [this, Nat.mod_self]
    exact hf
  | cons h t =>
    have : p.length + 1 < l.length := by have := hm.2.2; simp at this; omega
    rw [Nat.mod_eq_of_lt this, e]
    simp [List.getD_eq_getElem?_getD, nxt]
theorem implRing_eq (a : ByteArray) (l : List S_Gap) (f : ByteArray) (hf : (l.getD 0 z_Gap).f0 = f) (ha : a.size ≤ 1048576) (hl : l.length ≤ 1048576) (hs : ∀ x ∈ l, szG x) : Ev (fun k => impl_GoodGaps.l0 k a l l (l.length : Int) 0) (ring a f none l) := by
  refine loop_list l (fun k (_ : Option ByteArray) i => impl_GoodGaps.l0 k a l l (l.length : Int) i) (fun s t => ring a f s t) (fun p s => s = p.getLast?.map (fun g => g.f0)) ?_ ?_ none rfl
  · intro s _
    apply Ev.succ
    simp only [impl_GoodGaps.l0]
    exact Ev.neg (by omega) (Ev.const (by cases s <;> rfl))
  · intro p x t s e hp ih
    have hm := len_mid e
    have hx := hs x (mem_mid e)
    obtain ⟨n1, n2, n3⟩ := at_next z_Gap e hl hf
    have hr : ring a f s (x :: t) = (gOk a s (nxt f t) x && ring a f (some x.f0) t) := rfl
    rw [hr]
    apply Ev.succ
    simp only [impl_GoodGaps.l0, rd_TGap, getD_mid e]
    rw [w64 (i := (p.length : Int) + 1) (by omega) (by omega), n3]
    refine Ev.pos hm.1 (Ev.pos (by omega) (Ev.pos hm.1 (Ev.bind' _ (implGoodName_eq x.f0 hx.1) ?_)))
    cases c1 : nameOk x.f0 with
    | false => exact Ev.ite_false (Ev.const (by simp [gOk, c1]))
    | true =>
      refine Ev.ite_true (Ev.cbind _ (implBelow_eq x.f0 a hx.1 ha) ?_)
      cases c2 : belowN x.f0 a with
      | false => exact Ev.ite_false (Ev.const (by simp [gOk, c2]))
      | true =>
        refine Ev.ite_true (Ev.neg (by omega) (Ev.pos n1 (Ev.pos n2 ?_)))
        by_cases c3 : x.f1.toList = (nxt f t).toList
        · refine Ev.pos c3 (Ev.bind' _ (areTypes_eq x.f2 hx.2.2) ?_)
          rw [toList_bts, toList_bts] at c3
          cases c4 : areT x.f2 with
          | false => exact Ev.ite_false (Ev.const (by simp [gOk, c4]))
          | true =>
            refine Ev.ite_true ?_
            rcases nil_or_snoc p with rfl | ⟨q, y, rfl⟩
            · subst hp
              refine Ev.neg (by simp) (Ev.eq_ (ih (some x.f0) (by simp)) ?_)
              simp [gOk, c1, c2, c3, c4, above]
            · have e2 : l = q ++ y :: (x :: t) := by rw [e]; simp
              have hq := len_mid e2
              have hy := hs y (mem_mid e2)
              have e3 : (((q ++ [y]).length : Nat) : Int) - 1 = (q.length : Int) := by simp
              have e4 : ((q ++ [y]).length : Int) > 0 := by simp only [List.length_append, List.length_cons, List.length_nil]; omega
              rw [w64 (i := ((q ++ [y]).length : Int) - 1) (by omega) (by omega), e3, getD_mid e2]
              refine Ev.pos e4 (Ev.pos (by omega) (Ev.pos hq.1 (Ev.bind' _ (compareNames_eq y.f0 x.f0 hy.1 hx.1) ?_)))
              have hs2 : s = some y.f0 := by rw [hp]; simp
              subst hs2
              by_cases c5 : cmpN y.f0 x.f0 ≥ 0
              · refine Ev.pos c5 (Ev.const ?_)
                have : ¬ cmpN y.f0 x.f0 < 0 := by omega
                simp [gOk, above, this]
              · refine Ev.neg c5 (Ev.eq_ (ih (some x.f0) (by simp)) ?_)
                have : cmpN y.f0 x.f0 < 0 := by omega
                simp [gOk, c1, c2, c3, c4, above, this]
        · refine Ev.neg c3 (Ev.const ?_)
          rw [toList_bts, toList_bts] at c3
          simp [gOk, c3]
theorem specRing_eq (a : ByteArray) (l : List S_Gap) (f : ByteArray) (hf : (l.getD 0 z_Gap).f0 = f) (ha : a.size ≤ 1048576) (hl : l.length ≤ 1048576) (hs : ∀ x ∈ l, szG x) : Ev (fun k => spec_GoodGaps.l0 k a l l (l.length : Int) 0) (ring a f none l) := by
  refine loop_list l (fun k (_ : Option ByteArray) i => spec_GoodGaps.l0 k a l l (l.length : Int) i) (fun s t => ring a f s t) (fun p s => s = p.getLast?.map (fun g => g.f0) ∧ ∀ q, s = some q → nameOk q = true) ?_ ?_ none ⟨rfl, fun _ h => by cases h⟩
  · intro s _
    apply Ev.succ
    simp only [spec_GoodGaps.l0]
    exact Ev.neg (by omega) (Ev.const (by cases s <;> rfl))
  · rintro p x t s e ⟨hp, hgood⟩ ih
    have hm := len_mid e
    have hx := hs x (mem_mid e)
    obtain ⟨n1, n2, n3⟩ := at_next z_Gap e hl hf
    have hr : ring a f s (x :: t) = (gOk a s (nxt f t) x && ring a f (some x.f0) t) := rfl
    rw [hr]
    have hbad : gOk a s (nxt f t) x = false → Ev (fun k => spec_GoodGaps.j2 k a l l (l.length : Int) (p.length : Int) true x.f0 x.f1 x.f2) (gOk a s (nxt f t) x && ring a f (some x.f0) t) := by
      intro h
      apply Ev.succ
      simp only [spec_GoodGaps.j2]
      exact Ev.pos (by first | rfl | trivial) (Ev.const (by rw [h]; rfl))
    have hend : nameOk x.f0 = true → gOk a s (nxt f t) x = areT x.f2 → Ev (fun k => spec_GoodGaps.j2 k a l l (l.length : Int) (p.length : Int) ((x.f2.length : Int) == 0) x.f0 x.f1 x.f2) (gOk a s (nxt f t) x && ring a f (some x.f0) t) := by
      intro hn h
      apply Ev.succ
      simp only [spec_GoodGaps.j2]
      by_cases h0 : x.f2.length = 0
      · refine Ev.pos (by simp [h0]) (Ev.const ?_)
        rw [h]
        simp [areT, h0]
      · refine Ev.neg (by simp; intro h; simp [h] at h0) (Ev.eq_ (specTypes_loop a l (p.length : Int) x.f0 x.f1 x.f2 hx.2.2 _ (by rw [w64 (by omega) (by omega)]; exact ih (some x.f0) ⟨by simp, fun q hq => by cases hq; exact hn⟩)) ?_)
        rw [h]
        have : 0 < x.f2.length := by omega
        simp only [areT, this, decide_true, Bool.true_and]
        cases tys none x.f2 <;> simp
    apply Ev.succ
    simp only [spec_GoodGaps.l0, rd_TGap, getD_mid e]
    rw [w64 (i := (p.length : Int) + 1) (by omega) (by omega), n3]
    refine Ev.pos hm.1 (Ev.pos (by omega) (Ev.pos hm.1 (Ev.bind' _ (specGoodName_eq x.f0 hx.1) ?_)))
    cases c1 : nameOk x.f0 with
    | false => exact Ev.ite_false (hbad (by simp [gOk, c1]))
    | true =>
      refine Ev.ite_true (Ev.cbind _ (specBelow_eq x.f0 a hx.1 ha) ?_)
      cases c2 : belowN x.f0 a with
      | false => exact Ev.ite_false (hbad (by simp [gOk, c2]))
      | true =>
        refine Ev.ite_true ?_
        rcases nil_or_snoc p with rfl | ⟨q, y, rfl⟩
        · subst hp
          refine Ev.neg (by simp) (Ev.neg (by omega) (Ev.pos n1 (Ev.pos n2 ?_)))
          by_cases c3 : x.f1.toList = (nxt f t).toList
          · refine Ev.pos c3 (hend c1 ?_)
            rw [toList_bts, toList_bts] at c3
            simp [gOk, c1, c2, c3, above]
          · refine Ev.neg c3 (hbad ?_)
            rw [toList_bts, toList_bts] at c3
            simp [gOk, c3]
        · have e2 : l = q ++ y :: (x :: t) := by rw [e]; simp
          have hq := len_mid e2
          have hy := hs y (mem_mid e2)
          have e3 : (((q ++ [y]).length : Nat) : Int) - 1 = (q.length : Int) := by simp
          have e4 : ((q ++ [y]).length : Int) > 0 := by simp only [List.length_append, List.length_cons, List.length_nil]; omega
          have hs2 : s = some y.f0 := by rw [hp]; simp
          subst hs2
          rw [w64 (i := ((q ++ [y]).length : Int) - 1) (by omega) (by omega), e3, getD_mid e2]
          refine Ev.pos e4 (Ev.pos (by omega) (Ev.pos hq.1 (Ev.bind' _ (specCompare_eq y.f0 x.f0 hy.1 hx.1 (nameOk_labels (hgood _ rfl)).1 (nameOk_labels c1).1) ?_)))
          by_cases c5 : cmpN y.f0 x.f0 ≥ 0
          · refine Ev.pos c5 (hbad ?_)
            have : ¬ cmpN y.f0 x.f0 < 0 := by omega
            simp [gOk, above, this]
          · have h5 : cmpN y.f0 x.f0 < 0 := by omega
            refine Ev.neg c5 (Ev.neg (by omega) (Ev.pos n1 (Ev.pos n2 ?_)))
            by_cases c3 : x.f1.toList = (nxt f t).toList
            · refine Ev.pos c3 (hend c1 ?_)
              rw [toList_bts, toList_bts] at c3
              simp [gOk, c1, c2, c3, above, h5]
            · refine Ev.neg c3 (hbad ?_)
              rw [toList_bts, toList_bts] at c3
              simp [gOk, c3]
end Go.Proofs.YthckpgglghfiiaaDoor.PL
end
section
/- GoodGaps: both come to the same. -/
set_option linter.unusedVariables false
set_option linter.unusedSimpArgs false
namespace Go.Proofs.YthckpgglghfiiaaDoor.PL
open Go.RowKit Go.Proofs.YthckpgglghfiiaaDoor.Pp Go.Proofs.YthckpgglghfiiaaDoor.PB Go.Proofs.YthckpgglghfiiaaDoorW.PrintWords Go.Proofs.YthckpgglghfiiaaDoorW.PrintLast
theorem specGoodGaps_eq (a : ByteArray) (l : List S_Gap) (ha : a.size ≤ 1048576) (hl : l.length ≤ 1048576) (hs : ∀ x ∈ l, szG x) : Ev (fun k => spec_GoodGaps.f k a l) (gaps a l) := by
  have hbad : gaps a l = false → Ev (fun k => spec_GoodGaps.j0 k a l true) (gaps a l) := by
    intro h
    apply Ev.succ
    simp only [spec_GoodGaps.j0]
    exact Ev.pos (by first | rfl | trivial) (Ev.const (by rw [h]))
  unfold spec_GoodGaps.f
  refine Ev.bind' _ (specGoodName_eq a ha) ?_
  cases c1 : nameOk a with
  | false => exact Ev.ite_false (hbad (by cases l <;> simp [gaps, c1]))
  | true =>
    refine Ev.ite_true (Ev.cbind _ (l1In_eq _ _ _) ?_)
    cases l with
    | nil => exact Ev.neg (by simp [inR]) (hbad (by simp [gaps]))
    | cons g t =>
      by_cases c2 : (g :: t).length ≤ 40
      · refine Ev.pos ?_ (Ev.pos (by simp only [List.length_cons]; omega) ?_)
        · simp only [inR, decide_eq_true_eq, Bool.and_eq_true]
          simp only [List.length_cons] at c2 ⊢
          omega
        · simp only [rd_TGap]
          apply Ev.succ
          simp only [spec_GoodGaps.j0]
          by_cases c3 : bts g.f0 = bts a
          · refine Ev.neg (by simp [toList_bts, c3]) (Ev.eq_ (specRing_eq a (g :: t) g.f0 (by simp) ha hl hs) ?_)
            simp only [gaps, c1, c2, c3, decide_true, Bool.true_and]
          · refine Ev.pos (by simp [toList_bts, c3]) (Ev.const ?_)
            simp [gaps, c3]
      · refine Ev.neg ?_ (hbad ?_)
        · simp only [inR, decide_eq_true_eq, Bool.and_eq_true]
          omega
        · have : decide ((g :: t).length ≤ 40) = false := decide_eq_false c2
          simp only [gaps, this, Bool.and_false, Bool.false_and]
theorem implGoodGaps_eq (a : ByteArray) (l : List S_Gap) (ha : a.size ≤ 1048576) (hl : l.length ≤ 1048576) (hs : ∀ x ∈ l, szG x) : Ev (fun k => impl_GoodGaps.f k a l) (gaps a l) := by
  have hbad : gaps a l = false → Ev (fun k => impl_GoodGaps.j0 k a l true) (gaps a l) := by
    intro h
    apply Ev.succ
    simp only [impl_GoodGaps.j0]
    exact Ev.pos (by first | rfl | trivial) (Ev.const (by rw [h]))
  unfold impl_GoodGaps.f
  refine Ev.bind' _ (implGoodName_eq a ha) ?_
  cases c1 : nameOk a with
  | false => exact Ev.ite_false (hbad (by cases l <;> simp [gaps, c1]))
  | true =>
    refine Ev.ite_true (Ev.cbind _ (within_eq _ _ _) ?_)
    cases l with
    | nil => exact Ev.neg (by simp [inR]) (hbad (by simp [gaps]))
    | cons g t =>
      by_cases c2 : (g :: t).length ≤ 40
      · refine Ev.pos ?_ (Ev.pos (by simp only [List.length_cons]; omega) ?_)
        · simp only [inR, decide_eq_true_eq, Bool.and_eq_true]
          simp only [List.length_cons] at c2 ⊢
          omega
        · simp only [rd_TGap]
          apply Ev.succ
          simp only [impl_GoodGaps.j0]
          by_cases c3 : bts g.f0 = bts a
          · refine Ev.neg (by simp [toList_bts, c3]) (Ev.eq_ (implRing_eq a (g :: t) g.f0 (by simp) ha hl hs) ?_)
            simp only [gaps, c1, c2, c3, decide_true, Bool.true_and]
          · refine Ev.pos (by simp [toList_bts, c3]) (Ev.const ?_)
            simp [gaps, c3]
      · refine Ev.neg ?_ (hbad ?_)
        · simp only [inR, decide_eq_true_eq, Bool.and_eq_true]
          omega
        · have : decide ((g :: t).length ≤ 40) = false := decide_eq_false c2
          simp only [gaps, this, Bool.and_false, Bool.false_and]
end Go.Proofs.YthckpgglghfiiaaDoor.PL
end
section
/- GoodGaps: the program answers as the reference does. -/
set_option linter.unusedVariables false
set_option linter.unusedSimpArgs false
namespace Go.Proofs.YthckpgglghfiiaaDoor.Pure
open Go.RowKit Go.Proofs.YthckpgglghfiiaaDoor.Pp Go.Proofs.YthckpgglghfiiaaDoor.PB Go.Proofs.YthckpgglghfiiaaDoor.PL Go.Proofs.YthckpgglghfiiaaDoorW.PrintWords Go.Proofs.YthckpgglghfiiaaDoorW.PrintLast
theorem FnExactGoodGaps : laws_FnExactGoodGaps.Pure := by
  intro a l hz0 h
  refine Ev.get (g := fun k => laws_FnExactGoodGaps.f k a l) ?_
  unfold laws_FnExactGoodGaps.f
  by_cases hz : (a.size : Int) > 1048576
  · exact Ev.pos hz (Ev.const rfl)
  have ha : a.size ≤ 1048576 := by omega
  refine Ev.neg hz ?_
  obtain ⟨t, ht, hs⟩ := szGapS_eq l h 1048576 (by omega) (by omega)
  refine Ev.bind' _ ht ?_
  rcases hs with hs | ⟨hs, _, hl, hb⟩
  · exact Ev.pos hs (Ev.const rfl)
  · have hto := toGapS_eq l hl hb
    have g1 : (l.map cGap).length ≤ 1048576 := by simpa using hl
    refine Ev.neg (by omega) (Ev.bind' _ hto (Ev.bind' _ (specGoodGaps_eq a _ ha g1 (szG_map hb)) (Ev.bind' _ hto (Ev.bind' _ (implGoodGaps_eq a _ ha g1 (szG_map hb)) ?_))))
    exact Ev.neg (by simp) (Ev.bind' _ hto (Ev.bind' _ (eqGapS_eq _ g1 (szG_map hb)) (Ev.ite_true (Ev.const rfl))))
end Go.Proofs.YthckpgglghfiiaaDoor.Pure
end
