/- The name above a name: the two come to the same. -/
import Derived.Test.YthckpgglghfiiaaDoorZLPName
import Derived.Test.YthckpgglghfiiaaDoorJFnExactClosestBy0
import Derived.Test.YthckpgglghfiiaaDoorJFnExactClosestBy1
import Derived.Test.YthckpgglghfiiaaDoorJFnExactClosestBy2
set_option linter.unusedVariables false
set_option linter.unusedSimpArgs false
namespace Go.Proofs.YthckpgglghfiiaaDoor.PL
open Go.RowKit Go.Proofs.YthckpgglghfiiaaDoor.Pp Go.Proofs.YthckpgglghfiiaaDoor.PB Go.Proofs.YthckpgglghfiiaaDoorW.PrintWords Go.Proofs.YthckpgglghfiiaaDoorW.PrintLast
def after : List UInt8 → List UInt8
  | [] => []
  | b :: t => if b = 46 then t else after t
def parentN (s : ByteArray) : ByteArray := ⟨(after (bts s)).toArray⟩
theorem after_pre (post : List UInt8) : ∀ pre : List UInt8, 46 ∉ pre → after (pre ++ 46 :: post) = post
  | [], _ => by simp [after]
  | b :: pre, h => by
    have hb : b ≠ 46 := fun e => h (by simp [e])
    rw [List.cons_append, show after (b :: (pre ++ 46 :: post)) = if b = 46 then pre ++ 46 :: post else after (pre ++ 46 :: post) from rfl, if_neg hb]
    exact after_pre post pre (fun hm => h (by simp [hm]))
theorem after_none : ∀ l : List UInt8, 46 ∉ l → after l = []
  | [], _ => rfl
  | b :: l, h => by
    have hb : b ≠ 46 := fun e => h (by simp [e])
    rw [show after (b :: l) = if b = 46 then l else after l from rfl, if_neg hb]
    exact after_none l (fun hm => h (by simp [hm]))
theorem after_len : ∀ l : List UInt8, l ≠ [] → (after l).length < l.length
  | [], h => absurd rfl h
  | b :: l, _ => by
    unfold after
    split
    · simp
    · cases l with
      | nil => simp [after]
      | cons c l => have := after_len (c :: l) (by simp); simp at this ⊢; omega
theorem parentN_size (s : ByteArray) : (parentN s).size ≤ s.size := by
  rw [size_bts, size_bts, parentN, bts_mk]
  cases h : bts s with
  | nil => simp [after]
  | cons b l => have := after_len (b :: l) (by simp); omega
theorem dot_split (l : List UInt8) : 46 ∉ l ∧ Go.Lib.indexByte l 46 = -1 ∨ ∃ pre post, l = pre ++ 46 :: post ∧ 46 ∉ pre ∧ Go.Lib.indexByte l 46 = (pre.length : Int) := by
  rcases Nat.eq_zero_or_pos (Go.Lib.countByte l 46) with h | h
  · exact Or.inl (index_none l 46 h)
  · obtain ⟨pre, post, h1, h2, h3, _⟩ := index_some l 46 h
    exact Or.inr ⟨pre, post, h1, h2, h3⟩
theorem implParent_eq (s : ByteArray) (hs : s.size ≤ 1048576) : impl_parentOf.f s = some (parentN s) := by
  have hz := size_bts s
  unfold impl_parentOf.f strings_Cut.f stringslite_Cut.f stringslite_Index.f
  rw [if_pos (by rfl)]
  simp only [Option.bind_some]
  have hh : (((⟨#[46]⟩ : ByteArray).data.toList).headD 0) = 46 := rfl
  have h1 : ((⟨#[46]⟩ : ByteArray).size : Int) = 1 := rfl
  rw [hh, h1]
  have hb : s.data.toList = bts s := rfl
  rw [hb]
  rcases dot_split (bts s) with ⟨h2, h3⟩ | ⟨pre, post, e, h2, h3⟩
  · rw [h3, if_neg (by omega)]
    simp only [Option.bind_some]
    unfold parentN
    rw [after_none _ h2]
  · have hl : (bts s).length = pre.length + (post.length + 1) := by rw [e]; simp
    rw [h3, if_pos (by omega), if_pos (by omega), if_pos (by omega), w64 (i := (pre.length : Int) + 1) (by omega) (by omega), if_pos (by omega), if_pos (by omega)]
    simp only [Option.bind_some]
    unfold parentN
    rw [e, after_pre _ _ h2, extract_bts]
    congr 3
    have h5 : ((pre.length : Int) + 1).toNat = (pre ++ [46]).length := by simp <;> omega
    have h6 : bts s = (pre ++ [46]) ++ post := by rw [e]; simp
    have h7 : (pre ++ [46]).length = pre.length + 1 := by simp
    rw [h5, h6, List.drop_left, List.take_of_length_le]
    omega
theorem specParent_eq (s : ByteArray) (hs : s.size ≤ 1048576) : Ev (fun k => spec_l1Parent.f k s) (parentN s) := by
  have hz := size_bts s
  unfold spec_l1Parent.f
  refine Ev.eq_ (loop_list (bts s) (fun k (_ : Unit) i => spec_l1Parent.l0 k s i) (fun _ t => (⟨(after t).toArray⟩ : ByteArray)) (fun _ _ => True) ?_ ?_ () trivial) rfl
  · intro _ _
    apply Ev.succ
    simp only [spec_l1Parent.l0]
    exact Ev.neg (by omega) (Ev.const rfl)
  · intro p b t _ e _ ih
    have hm := len_mid e
    apply Ev.succ
    simp only [spec_l1Parent.l0]
    refine Ev.pos (by omega) (Ev.pos (by omega) ?_)
    rw [bt_mid e, w64 (i := (p.length : Int) + 1) (by omega) (by omega)]
    by_cases h5 : b = 46
    · subst h5
      refine Ev.pos rfl (Ev.pos (by omega) (Ev.pos (by omega) (Ev.const ?_)))
      rw [extract_bts]
      have h6 : bts s = (p ++ [46]) ++ t := by rw [e]; simp
      have h7 : (p ++ [46]).length = p.length + 1 := by simp
      have h8 : ((p.length : Int) + 1).toNat = (p ++ [46]).length := by omega
      rw [h8, h6, List.drop_left, List.take_of_length_le (by omega)]
      simp [after]
    · have : ¬ ((b.toNat : Int) = 46) := by
        intro h
        apply h5
        apply UInt8.toNat_inj.mp
        have h46 : (46 : UInt8).toNat = 46 := rfl
        omega
      refine Ev.neg this (Ev.eq_ (ih () trivial) ?_)
      simp [after, h5]
theorem parent_labels (s : ByteArray) (h : (labels s).all labelOk = true) : (labels (parentN s)).all labelOk = true := by
  rcases dot_split (bts s) with ⟨h2, h3⟩ | ⟨pre, post, e, h2, h3⟩
  · have : bts (parentN s) = [] := by rw [parentN, bts_mk, after_none _ h2]
    simp [labels, this]
  · have e1 : bts (parentN s) = post := by rw [parentN, bts_mk, e, after_pre _ _ h2]
    have e2 : labels s = ⟨pre.toArray⟩ :: splitC 46 [] post := by
      unfold labels
      rw [if_neg (by rw [e]; simp), e, splitC_pre _ _ _ _ h2]
      simp
    rw [e2, List.all_cons, Bool.and_eq_true] at h
    unfold labels
    rw [e1]
    split
    · rfl
    · exact h.2
end Go.Proofs.YthckpgglghfiiaaDoor.PL
