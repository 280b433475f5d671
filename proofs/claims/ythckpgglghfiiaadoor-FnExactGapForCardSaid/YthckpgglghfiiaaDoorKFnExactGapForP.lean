/- Texts that belong together, joined by claimit.py. -/
import Derived.Test.YthckpgglghfiiaaDoorXBase
import Derived.Test.YthckpgglghfiiaaDoorJFnExactGapFor0
import Derived.Test.YthckpgglghfiiaaDoorJFnExactGapFor1
import Derived.Test.YthckpgglghfiiaaDoorJFnExactGapFor2
import Derived.Test.YthckpgglghfiiaaDoorLPBytes
import Derived.Test.YthckpgglghfiiaaDoorLPTy
section
/- Is a number in a range: the reference's and the program's words. -/
set_option linter.unusedVariables false
set_option linter.unusedSimpArgs false
namespace Go.Proofs.YthckpgglghfiiaaDoor.PL
open Go.RowKit Go.Proofs.YthckpgglghfiiaaDoor.Pp Go.Proofs.YthckpgglghfiiaaDoor.PB Go.Proofs.YthckpgglghfiiaaDoorW.PrintWords Go.Proofs.YthckpgglghfiiaaDoorW.PrintLast
def inR (a b c : Int) : Bool := decide (b ≤ a ∧ a ≤ c)
theorem l1In_eq (a b c : Int) : spec_l1In.f a b c = some (inR a b c) := by
  unfold spec_l1In.f inR
  by_cases h : a ≥ b
  · rw [if_pos h]; simp [h]
  · rw [if_neg h]; simp; omega
theorem within_eq (a b c : Int) : impl_within.f a b c = some (inR a b c) := by
  unfold impl_within.f inR
  by_cases h : a ≥ b
  · rw [if_pos h]; simp [h]
  · rw [if_neg h]; simp; omega
end Go.Proofs.YthckpgglghfiiaaDoor.PL
end
section
/- slices.IndexFunc and ContainsFunc at one function value: the first place at which it answers yes. Written by gen_idx.py. -/
set_option linter.unusedVariables false
set_option linter.unusedSimpArgs false
namespace Go.Proofs.YthckpgglghfiiaaDoor.PL
open Go.RowKit Go.Proofs.YthckpgglghfiiaaDoor.Pp Go.Proofs.YthckpgglghfiiaaDoor.PB Go.Proofs.YthckpgglghfiiaaDoorW.PrintWords Go.Proofs.YthckpgglghfiiaaDoorW.PrintLast
theorem slices_IndexFunc_string_string_GoodName_1.idx (l0 : List ByteArray) (q : ByteArray → Bool) (hl : l0.length ≤ 1048576) (h : ∀ x ∈ l0, Ev (fun k => impl_GoodName_1.f x) (q x)) : Ev (fun k => slices_IndexFunc_string_string_GoodName_1.f k l0 ) (idxP q l0) := by
  unfold slices_IndexFunc_string_string_GoodName_1.f
  refine Ev.eq_ (loop_list l0 (fun k (_ : Nat) i => slices_IndexFunc_string_string_GoodName_1.l0 k l0 (l0.length : Int) i) (fun n t => if 0 ≤ idxP q t then (n : Int) + idxP q t else -1) (fun p n => n = p.length) ?_ ?_ 0 rfl) ?_
  · intro n hn
    apply Ev.succ
    simp only [slices_IndexFunc_string_string_GoodName_1.l0]
    exact Ev.neg (by omega) (Ev.const (by simp [idxP]))
  · intro p x t n e hn ih
    have hm := len_mid e
    have hx := h x (mem_mid e)
    apply Ev.succ
    simp only [slices_IndexFunc_string_string_GoodName_1.l0, rdOf_mid e]
    refine Ev.pos hm.1 (Ev.pos (by omega) (Ev.pos hm.1 (Ev.bind' _ hx ?_)))
    have hq : idxP q (x :: t) = (if q x then 0 else if 0 ≤ idxP q t then idxP q t + 1 else -1) := rfl
    rw [hq]
    cases q x with
    | true => exact Ev.ite_true (Ev.const (by simp [hn]))
    | false =>
      refine Ev.ite_false ?_
      rw [w64 (by omega) (by omega)]
      refine Ev.eq_ (ih (n + 1) (by simp [hn])) ?_
      by_cases h2 : 0 ≤ idxP q t
      · simp [h2]; omega
      · simp [h2]
  · by_cases h2 : 0 ≤ idxP q l0
    · simp [h2]
    · rw [if_neg h2]
      exact (idxP_neg q l0 h2).symm
theorem slices_ContainsFunc_string_string_GoodName_1.any (l0 : List ByteArray) (q : ByteArray → Bool) (hl : l0.length ≤ 1048576) (h : ∀ x ∈ l0, Ev (fun k => impl_GoodName_1.f x) (q x)) : Ev (fun k => slices_ContainsFunc_string_string_GoodName_1.f k l0 ) (l0.any q) := by
  unfold slices_ContainsFunc_string_string_GoodName_1.f
  refine Ev.bind' _ (slices_IndexFunc_string_string_GoodName_1.idx l0  q hl h) (Ev.const ?_)
  rw [idxP_nonneg]
end Go.Proofs.YthckpgglghfiiaaDoor.PL
end
section
/- Names: the reference's and the program's come to the same. -/
set_option linter.unusedVariables false
set_option linter.unusedSimpArgs false
namespace Go.Proofs.YthckpgglghfiiaaDoor.PL
open Go.RowKit Go.Proofs.YthckpgglghfiiaaDoor.Pp Go.Proofs.YthckpgglghfiiaaDoor.PB Go.Proofs.YthckpgglghfiiaaDoorW.PrintWords Go.Proofs.YthckpgglghfiiaaDoorW.PrintLast
def okB (b : UInt8) : Bool := (decide (97 ≤ (b.toNat : Int)) && decide ((b.toNat : Int) ≤ 122)) || (decide (48 ≤ (b.toNat : Int)) && decide ((b.toNat : Int) ≤ 57)) || decide ((b.toNat : Int) = 45) || decide ((b.toNat : Int) = 95)
def labelOk (s : ByteArray) : Bool := decide (bts s = [42]) || ((bts s).all okB && inR (bts s).length 1 20)
def labels (s : ByteArray) : List ByteArray := if bts s = [] then [] else splitC 46 [] (bts s)
def nameOk (s : ByteArray) : Bool := decide ((bts s).length ≤ 60) && decide ((labels s).length ≤ 8) && (labels s).all labelOk

theorem specSplit_eq (s : ByteArray) (hs : s.size ≤ 1048576) : Ev (fun k => spec_l1Split.f k s 46) (splitC 46 [] (bts s)) := by
  unfold spec_l1Split.f
  have hz := size_bts s
  refine Ev.eq_ (loop_list (bts s) (fun k (st : List ByteArray × Nat × List UInt8) i => spec_l1Split.l0 k s 46 st.1 st.2.1 i) (fun st t => st.1 ++ splitC 46 st.2.2 t) (fun p st => st.2.1 ≤ p.length ∧ st.2.2 = p.drop st.2.1 ∧ st.1.length ≤ p.length) ?_ ?_ ([], 0, []) ⟨Nat.zero_le _, rfl, Nat.zero_le _⟩) (by simp)
  · rintro ⟨acc, fr, cur⟩ ⟨h1, h2, h3⟩
    apply Ev.succ
    simp only [spec_l1Split.l0]
    simp only at h1 h2 h3
    refine Ev.neg (by omega) (Ev.pos (by omega) (Ev.pos (by omega) (Ev.pos (by omega) (Ev.const ?_))))
    simp only [splitC]
    rw [extract_bts, h2]
    congr 4
    rw [List.take_of_length_le]
    · simp
    · simp [hz]
  · rintro p b t ⟨acc, fr, cur⟩ e ⟨h1, h2, h3⟩ ih
    have hm := len_mid e
    simp only at h1 h2 h3
    apply Ev.succ
    simp only [spec_l1Split.l0]
    refine Ev.pos (by omega) (Ev.pos (by omega) ?_)
    rw [bt_mid e, w64 (i := (p.length : Int) + 1) (by omega) (by omega)]
    by_cases hb : b = 46
    · subst hb
      refine Ev.pos (by decide) (Ev.pos (by omega) (Ev.pos (by omega) (Ev.pos (by omega) (Ev.pos (by omega) ?_))))
      have hx : s.extract ((fr : Nat) : Int).toNat ((p.length : Nat) : Int).toNat = ⟨cur.toArray⟩ := by
        rw [extract_bts, h2]
        congr 2
        rw [e]
        simp only [Int.toNat_natCast]
        rw [List.drop_append_of_le_length h1, List.take_append_of_le_length (by simp), List.take_of_length_le (by simp)]
      rw [hx]
      have hc : ((p.length : Int) + 1) = (((p.length + 1 : Nat)) : Int) := by omega
      refine Ev.eq_ (ih (acc ++ [⟨cur.toArray⟩], p.length + 1, []) ⟨by simp, by simp, by simp; omega⟩) ?_
      simp [splitC]
    · have : ¬ ((b.toNat : Int) = 46) := by
        intro h
        apply hb
        apply UInt8.toNat_inj.mp
        have h46 : (46 : UInt8).toNat = 46 := rfl
        omega
      refine Ev.neg this ?_
      refine Ev.eq_ (ih (acc, fr, cur ++ [b]) ⟨by simp; omega, ?_, by simp; omega⟩) ?_
      · simp only
        rw [h2, List.drop_append_of_le_length h1]
      · simp [splitC, hb]

theorem genSplit_loop (n : Nat) (hn : n ≤ 1048576) : ∀ (m : Nat) (s : ByteArray) (A B : List ByteArray), s.size ≤ 1048576 → Go.Lib.countByte (bts s) 46 = m → A.length + m = n → A.length + B.length = n + 1 →
    Ev (fun k => strings_genSplit.l0 k s (⟨#[46]⟩ : ByteArray) 0 (n : Int) (A ++ B) (A.length : Int)) (A ++ splitC 46 [] (bts s))
  | 0, s, A, B, hs, hc, hA, hB => by
    obtain ⟨hnone, _⟩ := index_none _ _ hc
    apply Ev.succ
    simp only [strings_genSplit.l0]
    have hl : (A ++ B).length = n + 1 := by simp; omega
    refine Ev.neg (by omega) (Ev.pos (by omega) (Ev.pos (by rw [hl]; omega) ?_))
    rw [w64 (i := (A.length : Int) + 1) (by omega) (by omega)]
    refine Ev.pos (by omega) (Ev.pos (by rw [hl]; omega) (Ev.const ?_))
    rw [splitC_none _ _ _ hnone]
    obtain ⟨b, B', rfl⟩ : ∃ b B', B = b :: B' := by
      cases B with
      | nil => simp at hB; omega
      | cons b B' => exact ⟨b, B', rfl⟩
    rw [set_mid]
    have : (((A.length : Int) + 1)).toNat = (A ++ [s]).length := by simp <;> omega
    rw [this, List.take_left']
    · simp [mk_bts]
    · rfl
  | m + 1, s, A, B, hs, hc, hA, hB => by
    obtain ⟨pre, post, e, hm, hi, hc2⟩ := index_some (bts s) 46 (by omega)
    have hz := size_bts s
    have hlen : (bts s).length = pre.length + (post.length + 1) := by rw [e]; simp
    apply Ev.succ
    simp only [strings_genSplit.l0]
    have hl : (A ++ B).length = n + 1 := by simp; omega
    refine Ev.pos (by omega) (Ev.cbind (pre.length : Int) ?_ ?_)
    · unfold strings_Index.f
      rw [if_pos (by rfl)]
      exact congrArg some hi
    · refine Ev.neg (by omega) ?_
      have hsz1 : ((⟨#[46]⟩ : ByteArray).size : Int) = 1 := rfl
      rw [hsz1, Int.add_zero, w64 (i := (pre.length : Int)) (by omega) (by omega), w64 (i := (pre.length : Int) + 1) (by omega) (by omega), w64 (i := (A.length : Int) + 1) (by omega) (by omega)]
      refine Ev.pos (by omega) (Ev.pos (by omega) (Ev.pos (by omega) (Ev.pos (by rw [hl]; omega) (Ev.pos (by omega) (Ev.pos (by omega) ?_)))))
      obtain ⟨b, B', rfl⟩ : ∃ b B', B = b :: B' := by
        cases B with
        | nil => simp at hB; omega
        | cons b B' => exact ⟨b, B', rfl⟩
      rw [set_mid]
      have hx1 : s.extract 0 ((pre.length : Int)).toNat = ⟨pre.toArray⟩ := by
        rw [extract_bts]
        congr 2
        rw [e]
        simp
      have hx2 : s.extract (((pre.length : Int) + 1)).toNat s.size = ⟨post.toArray⟩ := by
        rw [extract_bts]
        congr 2
        have e' : bts s = (pre ++ [46]) ++ post := by simpa using e
        have h1 : (((pre.length : Int) + 1)).toNat = (pre ++ [46]).length := by simp <;> omega
        rw [e', h1, List.drop_left, List.take_of_length_le]
        simp at hlen ⊢
        omega
      rw [hx1, hx2]
      have hb1 : bts (⟨post.toArray⟩ : ByteArray) = post := bts_mk post
      have hb2 : (⟨post.toArray⟩ : ByteArray).size = post.length := by rw [size_bts, hb1]
      have := genSplit_loop n hn m ⟨post.toArray⟩ (A ++ [⟨pre.toArray⟩]) B' (by omega) (by rw [hb1]; omega) (by simp; omega) (by simp at hB ⊢; omega)
      have hcast : (((A ++ [(⟨pre.toArray⟩ : ByteArray)]).length : Nat) : Int) = (A.length : Int) + 1 := by simp
      rw [hcast] at this
      refine Ev.eq_ this ?_
      rw [hb1, e, splitC_pre _ _ _ _ hm]
      simp
theorem strSplit_eq (s : ByteArray) (hs : s.size ≤ 1048576) : Ev (fun k => strings_Split.f k s (⟨#[46]⟩ : ByteArray)) (splitC 46 [] (bts s)) := by
  unfold strings_Split.f strings_genSplit.f
  have hz := size_bts s
  have hcl := count_le (bts s) 46
  refine Ev.bind' _ (Ev.neg (by omega) (Ev.neg (by rw [toList_bts]; decide) (Ev.pos (by omega) (Ev.cbind (Go.Lib.countByte (bts s) 46 : Int) (by unfold strings_Count.f; rw [if_pos (by rfl)]; rfl) ?_)))) (Ev.const rfl)
  apply Ev.succ
  simp only [strings_genSplit.j0]
  rw [w64 (i := ((Go.Lib.countByte (bts s) 46 : Nat) : Int) + 1) (by omega) (by omega), w64 (i := (s.size : Int) + 1) (by omega) (by omega)]
  have hmn : mn (((Go.Lib.countByte (bts s) 46 : Nat) : Int) + 1) ((s.size : Int) + 1) = ((Go.Lib.countByte (bts s) 46 + 1 : Nat) : Int) := by
    unfold mn
    split <;> omega
  rw [hmn]
  rw [w64 (i := ((Go.Lib.countByte (bts s) 46 + 1 : Nat) : Int) - 1) (by omega) (by omega)]
  refine Ev.pos (by omega) (Ev.pos (by omega) ?_)
  have h1 : (((Go.Lib.countByte (bts s) 46 + 1 : Nat) : Int) - 1) = ((Go.Lib.countByte (bts s) 46 : Nat) : Int) := by omega
  rw [h1]
  have := genSplit_loop (Go.Lib.countByte (bts s) 46) (by omega) _ s [] (List.replicate ((Go.Lib.countByte (bts s) 46 + 1 : Nat) : Int).toNat (⟨#[]⟩ : ByteArray)) hs rfl (by simp) (by simp)
  simpa using this
theorem okB_in (b : UInt8) : ([97, 98, 99, 100, 101, 102, 103, 104, 105, 106, 107, 108, 109, 110, 111, 112, 113, 114, 115, 116, 117, 118, 119, 120, 121, 122, 48, 49, 50, 51, 52, 53, 54, 55, 56, 57, 45, 95] : List UInt8).contains b = okB b :=
  all8 (fun b => ([97, 98, 99, 100, 101, 102, 103, 104, 105, 106, 107, 108, 109, 110, 111, 112, 113, 114, 115, 116, 117, 118, 119, 120, 121, 122, 48, 49, 50, 51, 52, 53, 54, 55, 56, 57, 45, 95] : List UInt8).contains b) okB (by decide +kernel) b
theorem isLabel_eq (s : ByteArray) (hs : s.size ≤ 1048576) : impl_isLabel.f s = some (labelOk s) := by
  have hz := size_bts s
  unfold impl_isLabel.f labelOk
  rw [toList_bts]
  by_cases h : bts s = [42]
  · rw [if_pos h]; simp [h]
  · rw [if_neg h, within_eq]
    simp only [Option.bind_some, h, decide_false, Bool.false_or]
    rw [hz]
    cases hr : inR ((bts s).length : Int) 1 20 with
    | false => simp
    | true =>
      simp only [if_true, Bool.and_true]
      unfold strings_Trim.f
      rw [if_pos ⟨by omega, by decide, by decide +kernel⟩]
      simp only [Option.bind_some]
      congr 1
      rw [toList_bts, bts_mk, trimS_nil]
      congr 1
      funext b
      exact okB_in b
theorem specLabel_eq (s : ByteArray) (hs : s.size ≤ 1048576) : Ev (fun k => spec_l1Label.f k s) (labelOk s) := by
  have hz := size_bts s
  unfold spec_l1Label.f labelOk
  rw [toList_bts]
  by_cases h : bts s = [42]
  · exact Ev.pos h (Ev.const (by simp [h]))
  · refine Ev.neg h ?_
    refine Ev.eq_ (loop_list (bts s) (fun k (_ : Unit) i => spec_l1Label.l0 k s i) (fun _ t => t.all okB && inR (bts s).length 1 20) (fun _ _ => True) ?_ ?_ () trivial) (by simp [h])
    · intro _ _
      apply Ev.succ
      simp only [spec_l1Label.l0]
      refine Ev.neg (by omega) (Ev.cbind _ (l1In_eq _ _ _) (Ev.const (by simp [hz])))
    · intro p b t _ e _ ih
      have hm := len_mid e
      apply Ev.succ
      simp only [spec_l1Label.l0]
      refine Ev.pos (by omega) (Ev.pos (by omega) ?_)
      rw [bt_mid e, w64 (i := (p.length : Int) + 1) (by omega) (by omega)]
      have hgo := ih () trivial
      have hb := b.toNat_lt
      have key : ∀ (g : Nat → Option Bool), (okB b = true → Ev g (t.all okB && inR (bts s).length 1 20)) → (okB b = false → Ev g false) → Ev g ((b :: t).all okB && inR (bts s).length 1 20) := by
        intro g h1 h2
        cases ho : okB b with
        | true => simpa [ho] using h1 ho
        | false => simpa [ho] using h2 ho
      refine key _ (fun ho => ?_) (fun ho => ?_)
      · simp only [okB, Bool.or_eq_true, Bool.and_eq_true, decide_eq_true_eq] at ho
        by_cases c1 : (b.toNat : Int) ≥ 97
        · refine Ev.pos c1 ?_
          by_cases c2 : (b.toNat : Int) ≤ 122
          · exact Ev.pos c2 hgo
          · refine Ev.neg c2 (Ev.pos (by omega) (Ev.neg (by omega) (Ev.neg (by omega) (Ev.neg (by omega) ?_))))
            omega
        · refine Ev.neg c1 ?_
          by_cases c3 : (b.toNat : Int) ≥ 48
          · refine Ev.pos c3 ?_
            by_cases c4 : (b.toNat : Int) ≤ 57
            · exact Ev.pos c4 hgo
            · refine Ev.neg c4 ?_
              by_cases c5 : (b.toNat : Int) = 45
              · exact Ev.pos c5 hgo
              · exact Ev.neg c5 (Ev.pos (by omega) hgo)
          · refine Ev.neg c3 ?_
            by_cases c5 : (b.toNat : Int) = 45
            · exact Ev.pos c5 hgo
            · exact Ev.neg c5 (Ev.pos (by omega) hgo)
      · simp only [okB, Bool.or_eq_false_iff, Bool.and_eq_false_iff, decide_eq_false_iff_not] at ho
        by_cases c1 : (b.toNat : Int) ≥ 97
        · exact Ev.pos c1 (Ev.neg (by omega) (Ev.pos (by omega) (Ev.neg (by omega) (Ev.neg (by omega) (Ev.neg (by omega) (Ev.const rfl))))))
        · refine Ev.neg c1 ?_
          by_cases c3 : (b.toNat : Int) ≥ 48
          · exact Ev.pos c3 (Ev.neg (by omega) (Ev.neg (by omega) (Ev.neg (by omega) (Ev.const rfl))))
          · exact Ev.neg c3 (Ev.neg (by omega) (Ev.neg (by omega) (Ev.const rfl)))
theorem splitC_sizes (c : UInt8) : ∀ (l cur : List UInt8), ∀ x ∈ splitC c cur l, x.size ≤ cur.length + l.length
  | [], cur, x, h => by
    simp only [splitC, List.mem_singleton] at h
    subst h
    rw [size_bts, bts_mk]
    simp
  | b :: l, cur, x, h => by
    unfold splitC at h
    split at h
    · rcases List.mem_cons.mp h with rfl | h2
      · rw [size_bts, bts_mk]; simp
      · have := splitC_sizes c l [] x h2
        simp at this ⊢
        omega
    · have := splitC_sizes c l (cur ++ [b]) x h
      simp at this ⊢
      omega
theorem specLabels_eq (s : ByteArray) (hs : s.size ≤ 1048576) : Ev (fun k => spec_l1Labels.f k s) (if (labels s).all labelOk = true then (labels s, decide ((bts s).length ≤ 60) && decide ((labels s).length ≤ 8)) else ([], false)) := by
  have hz := size_bts s
  unfold spec_l1Labels.f
  rw [toList_bts]
  by_cases h : bts s = []
  · refine Ev.pos h (Ev.const ?_)
    have : labels s = [] := by unfold labels; rw [if_pos h]
    simp [this, h]
  · have hlab : labels s = splitC 46 [] (bts s) := by unfold labels; rw [if_neg h]
    rw [hlab]
    refine Ev.neg h (Ev.bind' _ (specSplit_eq s hs) ?_)
    have hlen := splitC_len 46 (bts s) []
    have hsz := splitC_sizes 46 (bts s) []
    generalize splitC 46 [] (bts s) = L at hlen hsz
    refine Ev.eq_ (loop_list L (fun k (_ : Unit) i => spec_l1Labels.l0 k s L L (L.length : Int) i) (fun _ t => if t.all labelOk = true then (L, decide ((bts s).length ≤ 60) && decide (L.length ≤ 8)) else ([], false)) (fun _ _ => True) ?_ ?_ () trivial) rfl
    · intro _ _
      apply Ev.succ
      simp only [spec_l1Labels.l0]
      refine Ev.neg (by omega) ?_
      by_cases h60 : (s.size : Int) ≤ 60
      · refine Ev.pos h60 (Ev.const ?_)
        have : (bts s).length ≤ 60 := by omega
        simp [this]
        omega
      · refine Ev.neg h60 (Ev.const ?_)
        have : ¬ (bts s).length ≤ 60 := by omega
        simp [this]
    · intro p x t _ e _ ih
      have hm := len_mid e
      have hx : x.size ≤ 1048576 := by have := hsz x (mem_mid e); simp at this; omega
      apply Ev.succ
      simp only [spec_l1Labels.l0, rdOf_mid e]
      refine Ev.pos hm.1 (Ev.pos (by omega) (Ev.pos hm.1 (Ev.bind' _ (specLabel_eq x hx) ?_)))
      cases hl : labelOk x with
      | false => exact Ev.ite_false (Ev.const (by simp [hl]))
      | true =>
        refine Ev.ite_true ?_
        rw [w64 (i := (p.length : Int) + 1) (by omega) (by omega)]
        refine Ev.eq_ (ih () trivial) ?_
        simp [hl]
theorem specGoodName_eq (s : ByteArray) (hs : s.size ≤ 1048576) : Ev (fun k => spec_GoodName.f k s) (nameOk s) := by
  unfold spec_GoodName.f nameOk
  refine Ev.bind' _ (specLabels_eq s hs) (Ev.const ?_)
  cases (labels s).all labelOk <;> simp
theorem labelsOf_eq (s : ByteArray) (hs : s.size ≤ 1048576) : Ev (fun k => impl_labelsOf.f k s) (labels s) := by
  unfold impl_labelsOf.f labels
  rw [toList_bts]
  by_cases h : bts s = []
  · exact Ev.pos h (Ev.const (by rw [if_pos h]))
  · rw [if_neg h]
    exact Ev.neg h (Ev.bind' _ (strSplit_eq s hs) (Ev.const rfl))
theorem labels_len (s : ByteArray) : (labels s).length ≤ s.size + 1 := by
  have hz := size_bts s
  unfold labels
  split
  · simp
  · have := splitC_len 46 (bts s) []; omega
theorem labels_sizes (s : ByteArray) : ∀ x ∈ labels s, x.size ≤ s.size := by
  have hz := size_bts s
  unfold labels
  split
  · simp
  · intro x hx
    have := splitC_sizes 46 (bts s) [] x hx
    simp at this
    omega
theorem implGoodName_eq (s : ByteArray) (hs : s.size ≤ 1048576) : Ev (fun k => impl_GoodName.f k s) (nameOk s) := by
  have hz := size_bts s
  have hll := labels_len s
  have hls := labels_sizes s
  unfold impl_GoodName.f nameOk
  by_cases h : (s.size : Int) > 60
  · refine Ev.pos h (Ev.const ?_)
    have : ¬ (bts s).length ≤ 60 := by omega
    simp [this]
  · refine Ev.neg h (Ev.bind' _ (labelsOf_eq s hs) ?_)
    have h60 : (bts s).length ≤ 60 := by omega
    by_cases h8 : ((labels s).length : Int) ≤ 8
    · refine Ev.pos h8 (Ev.bind' _ (slices_ContainsFunc_string_string_GoodName_1.any (labels s) (fun x => !labelOk x) (by omega) ?_) (Ev.const ?_))
      · intro x hx
        unfold impl_GoodName_1.f
        exact Ev.cbind _ (isLabel_eq x (by have := hls x hx; omega)) (Ev.const rfl)
      · have h8' : (labels s).length ≤ 8 := by omega
        rw [any_not]
        simp [h60, h8']
    · refine Ev.neg h8 (Ev.const ?_)
      have h8' : ¬ (labels s).length ≤ 8 := by omega
      simp [h8']
end Go.Proofs.YthckpgglghfiiaaDoor.PL
end
section
/- The order of names: the reference's and the program's come to the same, for good names. -/
set_option linter.unusedVariables false
set_option linter.unusedSimpArgs false
namespace Go.Proofs.YthckpgglghfiiaaDoor.PL
open Go.RowKit Go.Proofs.YthckpgglghfiiaaDoor.Pp Go.Proofs.YthckpgglghfiiaaDoor.PB Go.Proofs.YthckpgglghfiiaaDoorW.PrintWords Go.Proofs.YthckpgglghfiiaaDoorW.PrintLast
def ltS (a b : ByteArray) : Bool := Op.bytesLess (bts a) (bts b)
def cmpR : List ByteArray → List ByteArray → Int
  | [], [] => 0
  | [], _ :: _ => -1
  | _ :: _, [] => 1
  | a :: s, b :: t => if ltS a b = true then -1 else if bts a = bts b then cmpR s t else 1
def cmpN (a b : ByteArray) : Int := cmpR (labels a).reverse (labels b).reverse
theorem rev_at {α : Type} {l p t : List α} {x d : α} (e : l.reverse = p ++ x :: t) : rdOf d l ((l.length : Int) - ((p.length : Int) + 1)) = x := by
  have hl : l = t.reverse ++ x :: p.reverse := by
    have := congrArg List.reverse e
    rw [List.reverse_reverse] at this
    rw [this]
    simp
  have hn : ((l.length : Int) - ((p.length : Int) + 1)) = ((t.reverse.length : Nat) : Int) := by
    rw [hl]
    simp <;> omega
  rw [hn]
  exact rdOf_mid hl
theorem specCompare_loop (x y : List ByteArray) (hx : x.length ≤ 1048577) (hy : y.length ≤ 1048577) : ∀ (s t p q : List ByteArray), x.reverse = p ++ s → y.reverse = q ++ t → p.length = q.length → Ev (fun k => spec_l1Compare.l0 k x y ((p.length : Int) + 1)) (cmpR s t)
  | [], t, p, q, e1, e2, hp => by
    have l1 : x.length = p.length := by have := congrArg List.length e1; simpa using this
    have l2 : y.length = q.length + t.length := by have := congrArg List.length e2; simpa using this
    apply Ev.succ
    simp only [spec_l1Compare.l0]
    refine Ev.neg (by omega) (Ev.succ ?_)
    simp only [spec_l1Compare.j1]
    cases t with
    | nil =>
      simp only [List.length_nil] at l2
      first
        | exact Ev.neg (by simp) (Ev.neg (by omega) (Ev.neg (by omega) (Ev.const rfl)))
        | exact Ev.neg (by omega) (Ev.neg (by omega) (Ev.const rfl))
    | cons b t =>
      simp only [List.length_cons] at l2
      first
        | exact Ev.neg (by simp) (Ev.pos (by omega) (Ev.const rfl))
        | exact Ev.pos (by omega) (Ev.const rfl)
  | a :: s, [], p, q, e1, e2, hp => by
    have l1 : x.length = p.length + (s.length + 1) := by have := congrArg List.length e1; simpa using this
    have l2 : y.length = q.length := by have := congrArg List.length e2; simpa using this
    apply Ev.succ
    simp only [spec_l1Compare.l0]
    refine Ev.pos (by omega) (Ev.succ ?_)
    simp only [spec_l1Compare.j1]
    refine Ev.neg (by simp; omega) (Ev.neg (by omega) (Ev.pos (by omega) (Ev.const rfl)))
  | a :: s, b :: t, p, q, e1, e2, hp => by
    have l1 : x.length = p.length + (s.length + 1) := by have := congrArg List.length e1; simpa using this
    have l2 : y.length = q.length + (t.length + 1) := by have := congrArg List.length e2; simpa using this
    have ra : rdOf ByteArray.empty x ((x.length : Int) - ((p.length : Int) + 1)) = a := rev_at e1
    have rb : rdOf ByteArray.empty y ((y.length : Int) - ((p.length : Int) + 1)) = b := by rw [hp]; exact rev_at e2
    have ih := specCompare_loop x y hx hy s t (p ++ [a]) (q ++ [b]) (by rw [e1]; simp) (by rw [e2]; simp) (by simp [hp])
    have ec : (((p ++ [a]).length : Nat) : Int) + 1 = (p.length : Int) + 1 + 1 := by simp
    rw [ec] at ih
    apply Ev.succ
    simp only [spec_l1Compare.l0]
    refine Ev.pos (by omega) (Ev.succ ?_)
    simp only [spec_l1Compare.j1]
    rw [w64 (i := (x.length : Int) - ((p.length : Int) + 1)) (by omega) (by omega), w64 (i := (y.length : Int) - ((p.length : Int) + 1)) (by omega) (by omega), w64 (i := (p.length : Int) + 1 + 1) (by omega) (by omega), ra, rb, toList_bts, toList_bts]
    refine Ev.pos (by simp; omega) (Ev.pos (by omega) (Ev.pos (by omega) (Ev.pos (by omega) (Ev.pos (by omega) ?_))))
    have hc : cmpR (a :: s) (b :: t) = if ltS a b = true then -1 else if bts a = bts b then cmpR s t else 1 := rfl
    rw [hc]
    by_cases h1 : ltS a b = true
    · rw [if_pos h1]
      exact Ev.pos h1 (Ev.const rfl)
    · rw [if_neg h1]
      refine Ev.neg h1 ?_
      by_cases h2 : bts a = bts b
      · rw [if_pos h2]
        exact Ev.pos h2 ih
      · rw [if_neg h2]
        exact Ev.neg h2 (Ev.const rfl)
theorem specCompare_eq (a b : ByteArray) (ha : a.size ≤ 1048576) (hb : b.size ≤ 1048576) (ga : (labels a).all labelOk = true) (gb : (labels b).all labelOk = true) : Ev (fun k => spec_l1Compare.f k a b) (cmpN a b) := by
  have la := labels_len a
  have lb := labels_len b
  unfold spec_l1Compare.f
  have h1 := specLabels_eq a ha
  have h2 := specLabels_eq b hb
  rw [if_pos ga] at h1
  rw [if_pos gb] at h2
  refine Ev.bind' _ h1 (Ev.bind' _ h2 ?_)
  have := specCompare_loop (labels a) (labels b) (by omega) (by omega) (labels a).reverse (labels b).reverse [] [] rfl rfl rfl
  unfold cmpN
  simpa using this
theorem reverse_loop : ∀ (n : Nat) (M A B : List ByteArray), M.length ≤ n → A.length = B.length → (A ++ M ++ B).length ≤ 1048577 → Ev (fun k => slices_Reverse_string_string.l0 k (A ++ M ++ B) (A.length : Int) ((A.length : Int) + M.length - 1)) (A ++ M.reverse ++ B)
  | n, [], A, B, hn, hAB, hl => by
    apply Ev.succ
    simp only [slices_Reverse_string_string.l0]
    exact Ev.neg (by simp <;> omega) (Ev.const (by simp))
  | n, [m], A, B, hn, hAB, hl => by
    apply Ev.succ
    simp only [slices_Reverse_string_string.l0]
    exact Ev.neg (by simp <;> omega) (Ev.const (by simp))
  | 0, m1 :: m2 :: M, A, B, hn, hAB, hl => by simp at hn
  | n + 1, m1 :: m2 :: M, A, B, hn, hAB, hl => by
    obtain ⟨M', z, hM⟩ : ∃ M' z, m2 :: M = M' ++ [z] := ⟨(m2 :: M).dropLast, (m2 :: M).getLast (by simp), (List.dropLast_concat_getLast _).symm⟩
    rw [hM] at hn hl ⊢
    have hlen : (A ++ (m1 :: (M' ++ [z])) ++ B).length = A.length + (M'.length + 2) + B.length := by simp; omega
    rw [hlen] at hl
    simp only [List.length_cons, List.length_append, List.length_nil] at hn
    have e1 : A ++ (m1 :: (M' ++ [z])) ++ B = A ++ m1 :: (M' ++ z :: B) := by simp
    have e2 : A ++ (m1 :: (M' ++ [z])) ++ B = (A ++ m1 :: M') ++ z :: B := by simp
    have hj : (A.length : Int) + (((m1 :: (M' ++ [z])).length : Nat) : Int) - 1 = (((A ++ m1 :: M').length : Nat) : Int) := by simp; omega
    have hj2 : (((A ++ m1 :: M').length : Nat) : Int) = (A.length : Int) + M'.length + 1 := by simp; omega
    rw [hj]
    have ih := reverse_loop n M' (A ++ [z]) (m1 :: B) (by omega) (by simp; omega) (by simp; omega)
    apply Ev.succ
    simp only [slices_Reverse_string_string.l0]
    have r1 : rdOf ByteArray.empty (A ++ (m1 :: (M' ++ [z])) ++ B) (A.length : Int) = m1 := rdOf_mid e1
    have r2 : rdOf ByteArray.empty (A ++ (m1 :: (M' ++ [z])) ++ B) (((A ++ m1 :: M').length : Nat) : Int) = z := rdOf_mid e2
    rw [r1, r2, w64 (i := (A.length : Int) + 1) (by omega) (by omega), w64 (i := (((A ++ m1 :: M').length : Nat) : Int) - 1) (by omega) (by omega)]
    refine Ev.pos (by omega) (Ev.pos (by omega) (Ev.pos (by rw [hlen]; omega) (Ev.pos (by omega) (Ev.pos (by rw [hlen]; omega) ?_))))
    have s1 : (A ++ (m1 :: (M' ++ [z])) ++ B).set ((A.length : Int)).toNat z = (A ++ z :: M') ++ z :: B := by
      rw [e1, set_mid]
      simp
    have s2 : ((A ++ z :: M') ++ z :: B).set ((((A ++ m1 :: M').length : Nat) : Int)).toNat m1 = (A ++ [z]) ++ M' ++ (m1 :: B) := by
      have : (((A ++ m1 :: M').length : Nat) : Int) = (((A ++ z :: M').length : Nat) : Int) := by simp
      rw [this, set_mid]
      simp
    rw [s1, s2]
    have c1 : (((A ++ [z]).length : Nat) : Int) = (A.length : Int) + 1 := by simp
    have c2 : (A.length : Int) + 1 + (M'.length : Int) - 1 = (((A ++ m1 :: M').length : Nat) : Int) - 1 := by rw [hj2]; omega
    rw [c1, c2] at ih
    refine Ev.eq_ ih ?_
    simp
theorem reverse_eq (l : List ByteArray) (hl : l.length ≤ 1048577) : Ev (fun k => slices_Reverse_string_string.f k l) l.reverse := by
  unfold slices_Reverse_string_string.f
  rw [w64 (by omega) (by omega)]
  have := reverse_loop l.length l [] [] (Nat.le_refl _) rfl (by simpa using hl)
  simpa using this
theorem cmpStr_eq (a b : ByteArray) : cmp_Compare_string.f a b = some (if ltS a b = true then -1 else if bts a = bts b then 0 else 1) := by
  unfold cmp_Compare_string.f cmp_isNaN_string.f ltS
  simp only [Option.bind_some, bne_self_eq_false, Bool.false_eq_true, if_false, toList_bts]
  split
  · rfl
  · split <;> rfl
theorem sliceCompare_eq (x y : List ByteArray) (hx : x.length ≤ 1048577) (hy : y.length ≤ 1048577) : Ev (fun k => slices_Compare_string_string.f k x y) (cmpR x y) := by
  unfold slices_Compare_string_string.f
  have main : ∀ (s t p q : List ByteArray), x = p ++ s → y = q ++ t → p.length = q.length → Ev (fun k => slices_Compare_string_string.l0 k x y x (x.length : Int) (p.length : Int)) (cmpR s t) := by
    intro s
    induction s with
    | nil =>
      intro t p q e1 e2 hp
      have l1 : x.length = p.length := by rw [e1]; simp
      have l2 : y.length = q.length + t.length := by rw [e2]; simp
      apply Ev.succ
      simp only [slices_Compare_string_string.l0]
      refine Ev.neg (by omega) ?_
      cases t with
      | nil => simp only [List.length_nil] at l2; exact Ev.neg (by omega) (Ev.const rfl)
      | cons b t => simp only [List.length_cons] at l2; exact Ev.pos (by omega) (Ev.const rfl)
    | cons a s ih =>
      intro t p q e1 e2 hp
      have m1 := len_mid e1
      apply Ev.succ
      simp only [slices_Compare_string_string.l0, rdOf_mid e1]
      refine Ev.pos m1.1 (Ev.pos (by omega) (Ev.pos m1.1 ?_))
      cases t with
      | nil =>
        have l2 : y.length = q.length := by rw [e2]; simp
        exact Ev.pos (by omega) (Ev.const rfl)
      | cons b t =>
        have m2 := len_mid e2
        have rb : rdOf ByteArray.empty y (p.length : Int) = b := by rw [hp]; exact rdOf_mid e2
        have hg := ih t (p ++ [a]) (q ++ [b]) (by rw [e1]; simp) (by rw [e2]; simp) (by simp [hp])
        have ec : (((p ++ [a]).length : Nat) : Int) = (p.length : Int) + 1 := by simp
        rw [ec] at hg
        rw [rb, w64 (i := (p.length : Int) + 1) (by omega) (by omega)]
        refine Ev.neg (by omega) (Ev.pos (by omega) (Ev.cbind _ (cmpStr_eq a b) ?_))
        have hc : cmpR (a :: s) (b :: t) = if ltS a b = true then -1 else if bts a = bts b then cmpR s t else 1 := rfl
        rw [hc]
        by_cases h1 : ltS a b = true
        · rw [if_pos h1, if_pos h1]
          exact Ev.neg (by omega) (Ev.const rfl)
        · rw [if_neg h1, if_neg h1]
          by_cases h2 : bts a = bts b
          · rw [if_pos h2, if_pos h2]
            exact Ev.pos rfl hg
          · rw [if_neg h2, if_neg h2]
            exact Ev.neg (by omega) (Ev.const rfl)
  simpa using main x y [] [] rfl rfl rfl
theorem compareNames_eq (a b : ByteArray) (ha : a.size ≤ 1048576) (hb : b.size ≤ 1048576) : Ev (fun k => impl_compareNames.f k a b) (cmpN a b) := by
  have la := labels_len a
  have lb := labels_len b
  unfold impl_compareNames.f
  refine Ev.bind' _ (labelsOf_eq a ha) (Ev.bind' _ (labelsOf_eq b hb) (Ev.bind' _ (reverse_eq _ (by omega)) (Ev.bind' _ (reverse_eq _ (by omega)) (Ev.bind' _ (sliceCompare_eq _ _ (by simp; omega) (by simp; omega)) (Ev.const rfl)))))
theorem nameOk_labels {s : ByteArray} (h : nameOk s = true) : (labels s).all labelOk = true ∧ (bts s).length ≤ 60 := by
  unfold nameOk at h
  simp only [Bool.and_eq_true, decide_eq_true_eq] at h
  exact ⟨h.2, h.1.1⟩
end Go.Proofs.YthckpgglghfiiaaDoor.PL
end
section
/- Covers: the two come to the same, for good names. -/
set_option linter.unusedVariables false
set_option linter.unusedSimpArgs false
namespace Go.Proofs.YthckpgglghfiiaaDoor.PL
open Go.RowKit Go.Proofs.YthckpgglghfiiaaDoor.Pp Go.Proofs.YthckpgglghfiiaaDoor.PB Go.Proofs.YthckpgglghfiiaaDoorW.PrintWords Go.Proofs.YthckpgglghfiiaaDoorW.PrintLast
def covN (o n x : ByteArray) : Bool := decide (cmpN o x < 0) && (decide (cmpN n o ≤ 0) || decide (cmpN x n < 0))
theorem spec8Covers_eq (o n x : ByteArray) (l : List Int) (ho : o.size ≤ 1048576) (hn : n.size ≤ 1048576) (hx : x.size ≤ 1048576) (go : (labels o).all labelOk = true) (gn : (labels n).all labelOk = true) (gx : (labels x).all labelOk = true) : Ev (fun k => spec_l8Covers.f k o n l x) (covN o n x) := by
  unfold spec_l8Covers.f covN
  refine Ev.bind' _ (specCompare_eq o x ho hx go gx) ?_
  by_cases h1 : cmpN o x ≥ 0
  · exact Ev.pos h1 (Ev.const (by have : ¬ cmpN o x < 0 := by omega
                                  simp [this]))
  · refine Ev.neg h1 (Ev.bind' _ (specCompare_eq n o hn ho gn go) ?_)
    have h1' : cmpN o x < 0 := by omega
    by_cases h2 : cmpN n o ≤ 0
    · exact Ev.pos h2 (Ev.const (by simp [h1', h2]))
    · exact Ev.neg h2 (Ev.bind' _ (specCompare_eq x n hx hn gx gn) (Ev.const (by simp [h1', h2])))
theorem covers_eq (o n x : ByteArray) (l : List Int) (ho : o.size ≤ 1048576) (hn : n.size ≤ 1048576) (hx : x.size ≤ 1048576) : Ev (fun k => impl_covers.f k o n l x) (covN o n x) := by
  unfold impl_covers.f covN
  refine Ev.bind' _ (compareNames_eq o x ho hx) ?_
  by_cases h1 : cmpN o x ≥ 0
  · exact Ev.pos h1 (Ev.const (by have : ¬ cmpN o x < 0 := by omega
                                  simp [this]))
  · refine Ev.neg h1 (Ev.bind' _ (compareNames_eq n o hn ho) ?_)
    have h1' : cmpN o x < 0 := by omega
    by_cases h2 : cmpN n o ≤ 0
    · exact Ev.pos h2 (Ev.const (by simp [h1', h2]))
    · exact Ev.neg h2 (Ev.bind' _ (compareNames_eq x n hx hn) (Ev.const (by simp [h1', h2])))
end Go.Proofs.YthckpgglghfiiaaDoor.PL
end
section
/- The gap for a name: both come to the same where there is one. -/
set_option linter.unusedVariables false
set_option linter.unusedSimpArgs false
namespace Go.Proofs.YthckpgglghfiiaaDoor.PL
open Go.RowKit Go.Proofs.YthckpgglghfiiaaDoor.Pp Go.Proofs.YthckpgglghfiiaaDoor.PB Go.Proofs.YthckpgglghfiiaaDoorW.PrintWords Go.Proofs.YthckpgglghfiiaaDoorW.PrintLast
def hitG (g : S_Gap) (x : ByteArray) : Bool := decide (bts g.f0 = bts x) || covN g.f0 g.f1 x
def gapZ : S_Gap := ⟨(⟨#[]⟩ : ByteArray), (⟨#[]⟩ : ByteArray), []⟩
theorem cloneI_eq (l : List Int) (h : l.length ≤ 1048576) : slices_Clone_int_int.f l = some l := by
  unfold slices_Clone_int_int.f
  rw [Option.bind_some, if_pos (by simp; omega)]
  simp
theorem gapFor_eq (l : List S_Gap) (x : ByteArray) (hl : l.length ≤ 1048576) (hx : x.size ≤ 1048576) (hs : ∀ g ∈ l, g.f0.size ≤ 1048576 ∧ g.f1.size ≤ 1048576 ∧ g.f2.length ≤ 1048576) :
    Ev (fun k => impl_gapFor.f k l x) (((l.find? (fun g => hitG g x)).getD gapZ).f0, ((l.find? (fun g => hitG g x)).getD gapZ).f1, ((l.find? (fun g => hitG g x)).getD gapZ).f2) := by
  unfold impl_gapFor.f
  refine Ev.eq_ (loop_list l (fun k (_ : Unit) i => impl_gapFor.l0 k x l (l.length : Int) i) (fun _ t => (((t.find? (fun g => hitG g x)).getD gapZ).f0, ((t.find? (fun g => hitG g x)).getD gapZ).f1, ((t.find? (fun g => hitG g x)).getD gapZ).f2)) (fun _ _ => True) ?_ ?_ () trivial) rfl
  · intro _ _
    apply Ev.succ
    simp only [impl_gapFor.l0]
    exact Ev.neg (by omega) (Ev.const rfl)
  · intro p g t _ e _ ih
    have hm := len_mid e
    have hg := hs g (mem_mid e)
    have own : impl_ownGap.f g.f0 g.f1 g.f2 = some (g.f0, g.f1, g.f2) := by
      unfold impl_ownGap.f
      rw [cloneI_eq _ hg.2.2]
      rfl
    apply Ev.succ
    simp only [impl_gapFor.l0, rd_TGap, getD_mid e, toList_bts]
    rw [w64 (i := (p.length : Int) + 1) (by omega) (by omega)]
    refine Ev.pos hm.1 (Ev.pos (by omega) (Ev.pos hm.1 ?_))
    by_cases h1 : bts g.f0 = bts x
    · refine Ev.pos h1 (Ev.cbind _ own (Ev.const ?_))
      rw [List.find?_cons_of_pos (by simp [hitG, h1])]
      rfl
    · refine Ev.neg h1 (Ev.bind' _ (covers_eq g.f0 g.f1 x g.f2 hg.1 hg.2.1 hx) ?_)
      cases hc : covN g.f0 g.f1 x with
      | true =>
        refine Ev.ite_true (Ev.cbind _ own (Ev.const ?_))
        rw [List.find?_cons_of_pos (by simp [hitG, hc])]
        rfl
      | false =>
        refine Ev.ite_false (Ev.eq_ (ih () trivial) ?_)
        rw [List.find?_cons_of_neg (by simp [hitG, hc, h1])]
theorem l8For_eq (l : List S_Gap) (x : ByteArray) (hl : l.length ≤ 1048576) (hx : x.size ≤ 1048576) (gx : (labels x).all labelOk = true) (hs : ∀ g ∈ l, (g.f0.size ≤ 1048576 ∧ (labels g.f0).all labelOk = true) ∧ (g.f1.size ≤ 1048576 ∧ (labels g.f1).all labelOk = true)) :
    Ev (fun k => spec_l8For.f k l x) (if 0 ≤ idxP (fun g => hitG g x) l then idxP (fun g => hitG g x) l else 0) := by
  unfold spec_l8For.f
  refine Ev.eq_ (loop_list l (fun k (_ : Nat) i => spec_l8For.l0 k x l (l.length : Int) i) (fun n t => if 0 ≤ idxP (fun g => hitG g x) t then (n : Int) + idxP (fun g => hitG g x) t else 0) (fun p n => n = p.length) ?_ ?_ 0 rfl) ?_
  · intro n hn
    apply Ev.succ
    simp only [spec_l8For.l0]
    exact Ev.neg (by omega) (Ev.const (by simp [idxP]))
  · intro p g t n e hn ih
    have hm := len_mid e
    obtain ⟨⟨g1, g2⟩, g3, g4⟩ := hs g (mem_mid e)
    have hq : idxP (fun g => hitG g x) (g :: t) = (if hitG g x then 0 else if 0 ≤ idxP (fun g => hitG g x) t then idxP (fun g => hitG g x) t + 1 else -1) := rfl
    apply Ev.succ
    simp only [spec_l8For.l0, rd_TGap, getD_mid e, toList_bts]
    rw [w64 (i := (p.length : Int) + 1) (by omega) (by omega), hq]
    refine Ev.pos hm.1 (Ev.pos (by omega) (Ev.pos hm.1 ?_))
    by_cases h1 : bts g.f0 = bts x
    · exact Ev.pos h1 (Ev.const (by simp [hitG, h1, hn]))
    · refine Ev.neg h1 (Ev.bind' _ (spec8Covers_eq g.f0 g.f1 x g.f2 g1 g3 hx g2 g4 gx) ?_)
      cases hc : covN g.f0 g.f1 x with
      | true => exact Ev.ite_true (Ev.const (by simp [hitG, hc, hn]))
      | false =>
        refine Ev.ite_false (Ev.eq_ (ih (n + 1) (by simp; omega)) ?_)
        have hh : hitG g x = false := by simp [hitG, hc, h1]
        rw [hh]
        generalize idxP (fun g => hitG g x) t = q
        simp only [Bool.false_eq_true, if_false]
        repeat' split
        all_goals omega
  · simp
end Go.Proofs.YthckpgglghfiiaaDoor.PL
end
section
/- One name below another: the two come to the same. -/
set_option linter.unusedVariables false
set_option linter.unusedSimpArgs false
namespace Go.Proofs.YthckpgglghfiiaaDoor.PL
open Go.RowKit Go.Proofs.YthckpgglghfiiaaDoor.Pp Go.Proofs.YthckpgglghfiiaaDoor.PB Go.Proofs.YthckpgglghfiiaaDoorW.PrintWords Go.Proofs.YthckpgglghfiiaaDoorW.PrintLast
def belowN (a b : ByteArray) : Bool := decide (bts b = []) || decide (bts a = bts b) || (46 :: bts b).isSuffixOf (bts a)
theorem suffix_drop {α : Type} [BEq α] [LawfulBEq α] (l m : List α) : m.isSuffixOf l = (decide (m.length ≤ l.length) && (l.drop (l.length - m.length) == m)) := by
  rw [Bool.eq_iff_iff, List.isSuffixOf_iff_suffix]
  simp only [Bool.and_eq_true, decide_eq_true_eq, beq_iff_eq]
  constructor
  · rintro ⟨p, rfl⟩
    refine ⟨by simp, ?_⟩
    simp
  · rintro ⟨h1, h2⟩
    exact ⟨l.take (l.length - m.length), by rw [← h2, List.length_drop]; have : l.length - (l.length - (l.length - m.length)) = l.length - m.length := (by omega); rw [this]; exact List.take_append_drop _ _⟩
theorem specBelow_eq (a b : ByteArray) (ha : a.size ≤ 1048576) (hb : b.size ≤ 1048576) : spec_l1Below.f a b = some (belowN a b) := by
  have za := size_bts a
  have zb := size_bts b
  unfold spec_l1Below.f belowN
  simp only [toList_bts]
  by_cases h1 : bts b = []
  · rw [if_pos h1]; simp [h1]
  · rw [if_neg h1]
    by_cases h2 : bts a = bts b
    · rw [if_pos h2]; simp [h2]
    · rw [if_neg h2]
      have hn : (decide (bts b = []) || decide (bts a = bts b)) = false := by simp [h1, h2]
      rw [hn, Bool.false_or, suffix_drop]
      rw [w64 (i := (a.size : Int) - (b.size : Int)) (by omega) (by omega)]
      by_cases h3 : (a.size : Int) - (b.size : Int) > 0
      · rw [if_pos h3, if_pos (by omega), if_pos (by omega), w64 (i := (a.size : Int) - (b.size : Int) - 1) (by omega) (by omega)]
        obtain ⟨c, hc⟩ : ∃ c : Nat, a.size = b.size + (c + 1) := ⟨a.size - b.size - 1, by omega⟩
        have e1 : ((a.size : Int) - (b.size : Int)).toNat = c + 1 := by omega
        have e2 : (a.size : Int) - (b.size : Int) - 1 = (c : Int) := by omega
        have hl : (bts a).length = (bts b).length + (c + 1) := by omega
        obtain ⟨p, x, t, e, hp⟩ : ∃ p x t, bts a = p ++ x :: t ∧ p.length = c := by
          refine ⟨(bts a).take c, (bts a)[c]'(by omega), (bts a).drop (c + 1), ?_, by simp; omega⟩
          rw [List.getElem_cons_drop]
          exact (List.take_append_drop _ _).symm
        have hx : bt a (c : Int) = (x.toNat : Int) := by rw [← hp]; exact bt_mid e
        have ht : bts (a.extract (c + 1) a.size) = t := by
          rw [extract_bts, bts_mk, e, ← hp]
          have : p ++ x :: t = (p ++ [x]) ++ t := by simp
          rw [this, show p.length + 1 = (p ++ [x]).length from by simp, List.drop_left, List.take_of_length_le]
          have hz : (bts a).length = p.length + (t.length + 1) := by rw [e]; simp
          have hlp : (p ++ [x]).length = p.length + 1 := by simp
          omega
        have htl : t.length = (bts b).length := by
          have hz : (bts a).length = p.length + (t.length + 1) := by rw [e]; simp
          omega
        rw [e1, ht, e2, hx]
        have hd : (bts a).drop ((bts a).length - (46 :: bts b).length) = x :: t := by
          have : (bts a).length - (46 :: bts b).length = p.length := by simp; omega
          rw [this, e, List.drop_left]
        rw [hd]
        have hle : decide ((46 :: bts b).length ≤ (bts a).length) = true := decide_eq_true (by simp; omega)
        rw [hle, Bool.true_and]
        by_cases h4 : t = bts b
        · rw [if_pos h4, if_pos (by omega), if_pos (by omega)]
          congr 1
          rw [h4]
          by_cases h5 : x = 46
          · subst h5
            simp
          · have : ¬ ((x.toNat : Int) = 46) := by
              intro h
              apply h5
              apply UInt8.toNat_inj.mp
              have h46 : (46 : UInt8).toNat = 46 := rfl
              omega
            have a1 : (((x.toNat : Int)) == 46) = false := beq_eq_false_iff_ne.mpr this
            have a2 : (x == 46) = false := beq_eq_false_iff_ne.mpr h5
            simp [a1, a2]
        · rw [if_neg h4]
          simp [h4]
      · rw [if_neg h3]
        have hle : decide ((46 :: bts b).length ≤ (bts a).length) = false := decide_eq_false (by simp; omega)
        rw [hle, Bool.false_and]
theorem implBelow_eq (a b : ByteArray) (ha : a.size ≤ 1048576) (hb : b.size ≤ 1048576) : impl_isBelow.f a b = some (belowN a b) := by
  have za := size_bts a
  have zb := size_bts b
  unfold impl_isBelow.f belowN
  simp only [toList_bts]
  by_cases h2 : bts a = bts b
  · rw [if_pos h2]; simp [h2]
  · rw [if_neg h2]
    by_cases h1 : bts b = []
    · rw [if_pos h1]; simp [h1]
    · rw [if_neg h1, if_pos (by omega)]
      have hn : (decide (bts b = []) || decide (bts a = bts b)) = false := by simp [h1, h2]
      rw [hn, Bool.false_or, suffix_drop]
      have hs : bts ((⟨#[46]⟩ : ByteArray) ++ b) = 46 :: bts b := by
        unfold bts
        rw [ByteArray.data_append]
        simp
      have hz : ((⟨#[46]⟩ : ByteArray) ++ b).size = b.size + 1 := by rw [size_bts, hs]; simp; omega
      unfold strings_HasSuffix.f stringslite_HasSuffix.f
      by_cases h3 : (a.size : Int) ≥ (((⟨#[46]⟩ : ByteArray) ++ b).size : Int)
      · rw [if_pos h3]
        rw [hz] at h3
        rw [hz, w64 (i := (a.size : Int) - ((b.size + 1 : Nat) : Int)) (by omega) (by omega), if_pos (by omega), if_pos (by omega)]
        simp only [Option.bind_some]
        congr 1
        have e1 : ((a.size : Int) - ((b.size + 1 : Nat) : Int)).toNat = (bts a).length - (46 :: bts b).length := by simp; omega
        rw [e1, toList_bts, toList_bts, extract_bts, bts_mk, hs, List.take_of_length_le (by simp; omega)]
        have hle : decide ((46 :: bts b).length ≤ (bts a).length) = true := decide_eq_true (by simp; omega)
        rw [hle, Bool.true_and]
      · rw [if_neg h3]
        rw [hz] at h3
        have hle : decide ((46 :: bts b).length ≤ (bts a).length) = false := decide_eq_false (by simp; omega)
        rw [hle, Bool.false_and]
        rfl
end Go.Proofs.YthckpgglghfiiaaDoor.PL
end
section
/- Names in order, without records. -/
set_option linter.unusedVariables false
set_option linter.unusedSimpArgs false
namespace Go.Proofs.YthckpgglghfiiaaDoor.PL
open Go.RowKit Go.Proofs.YthckpgglghfiiaaDoor.Pp Go.Proofs.YthckpgglghfiiaaDoor.PB Go.Proofs.YthckpgglghfiiaaDoorW.PrintWords Go.Proofs.YthckpgglghfiiaaDoorW.PrintLast
def cmpI (a b : Int) : Int := if a < b then -1 else if a > b then 1 else 0
def cmpB (a b : List UInt8) : Int := if Op.bytesLess a b = true then -1 else if a = b then 0 else 1
theorem bytesLess_irr : ∀ (a : List UInt8), Op.bytesLess a a = false
  | [] => rfl
  | x :: a => by
    have h : ¬ x < x := by simp
    unfold Op.bytesLess
    simp [h, bytesLess_irr a]
theorem cmpI_zero {a b : Int} : cmpI a b = 0 ↔ a = b := by
  unfold cmpI
  by_cases h1 : a < b
  · simp [h1]; omega
  · by_cases h2 : a > b
    · simp [h1, h2]; omega
    · simp [h1, h2]; omega
theorem below_iff {a b : ByteArray} : belowN a b = true ↔ bts b = [] ∨ bts a = bts b ∨ (46 :: bts b) <:+ bts a := by
  unfold belowN
  simp only [Bool.or_eq_true, decide_eq_true_eq, List.isSuffixOf_iff_suffix, or_assoc]
structure Cmp {α : Type} (c : α → α → Int) : Prop where
  anti : ∀ a b, c b a = - c a b
  trans : ∀ a b d, c a b ≤ 0 → c b d ≤ 0 → c a d ≤ 0
theorem Cmp.self {α : Type} {c : α → α → Int} (h : Cmp c) (a : α) : c a a = 0 := by
  have := h.anti a a
  omega
theorem Cmp.lt_le {α : Type} {c : α → α → Int} (h : Cmp c) {a b d : α} (h1 : c a b < 0) (h2 : c b d ≤ 0) : c a d < 0 := by
  have h3 := h.trans a b d (by omega) h2
  by_cases h4 : c a d = 0
  · have h5 := h.anti a d
    have h6 := h.trans b d a h2 (by omega)
    have h7 := h.anti a b
    omega
  · omega
theorem Cmp.le_lt {α : Type} {c : α → α → Int} (h : Cmp c) {a b d : α} (h1 : c a b ≤ 0) (h2 : c b d < 0) : c a d < 0 := by
  have h3 := h.trans a b d h1 (by omega)
  by_cases h4 : c a d = 0
  · have h5 := h.anti a d
    have h6 := h.trans d a b (by omega) h1
    have h7 := h.anti b d
    omega
  · omega
theorem Cmp.lt_trans {α : Type} {c : α → α → Int} (h : Cmp c) {a b d : α} (h1 : c a b < 0) (h2 : c b d < 0) : c a d < 0 := h.lt_le h1 (by omega)
theorem Cmp.eq_trans {α : Type} {c : α → α → Int} (h : Cmp c) {a b d : α} (h1 : c a b = 0) (h2 : c b d = 0) : c a d = 0 := by
  have h3 := h.trans a b d (by omega) (by omega)
  have h4 := h.anti a b
  have h5 := h.anti b d
  have h6 := h.trans d b a (by omega) (by omega)
  have h7 := h.anti a d
  omega
theorem Cmp.pull {α β : Type} {c : α → α → Int} (h : Cmp c) (f : β → α) : Cmp (fun a b => c (f a) (f b)) := ⟨fun a b => h.anti _ _, fun a b d => h.trans _ _ _⟩
theorem Cmp.lex {α : Type} {c c2 : α → α → Int} (h : Cmp c) (h2 : Cmp c2) : Cmp (fun a b => if c a b = 0 then c2 a b else c a b) := by
  refine ⟨fun a b => ?_, fun a b d => ?_⟩
  · have h3 := h.anti a b
    have h4 := h2.anti a b
    show (if c b a = 0 then c2 b a else c b a) = - (if c a b = 0 then c2 a b else c a b)
    by_cases e : c a b = 0
    · rw [if_pos e, if_pos (by omega)]; omega
    · rw [if_neg e, if_neg (by omega)]; omega
  · show (if c a b = 0 then c2 a b else c a b) ≤ 0 → (if c b d = 0 then c2 b d else c b d) ≤ 0 → (if c a d = 0 then c2 a d else c a d) ≤ 0
    intro x y
    by_cases e1 : c a b = 0
    · rw [if_pos e1] at x
      by_cases e2 : c b d = 0
      · rw [if_pos e2] at y
        rw [if_pos (h.eq_trans e1 e2)]
        exact h2.trans a b d x y
      · rw [if_neg e2] at y
        have := h.le_lt (a := a) (b := b) (d := d) (by omega) (by omega)
        rw [if_neg (by omega)]
        omega
    · rw [if_neg e1] at x
      have hle : c b d ≤ 0 := by
        by_cases e2 : c b d = 0
        · omega
        · rw [if_neg e2] at y; omega
      have := h.lt_le (a := a) (b := b) (d := d) (by omega) hle
      rw [if_neg (by omega)]
      omega
/-- Lists by their first difference, a beginning ahead. -/
def lexL {α : Type} (c : α → α → Int) : List α → List α → Int
  | [], [] => 0
  | [], _ :: _ => -1
  | _ :: _, [] => 1
  | a :: s, b :: t => if c a b = 0 then lexL c s t else c a b
theorem Cmp.lexL {α : Type} {c : α → α → Int} (h : Cmp c) : Cmp (PL.lexL c) := by
  refine ⟨?_, ?_⟩
  · intro a
    induction a with
    | nil => intro b; cases b <;> simp [PL.lexL]
    | cons x s ih =>
      intro b
      cases b with
      | nil => simp [PL.lexL]
      | cons y t =>
        have h3 := h.anti x y
        have h4 := ih t
        simp only [PL.lexL]
        by_cases e : c x y = 0
        · rw [if_pos e, if_pos (by omega)]; omega
        · rw [if_neg e, if_neg (by omega)]; omega
  · intro a
    induction a with
    | nil => intro b d _ _; cases d <;> simp [PL.lexL]
    | cons x s ih =>
      intro b d
      cases b with
      | nil => intro h1; simp [PL.lexL] at h1
      | cons y t =>
        cases d with
        | nil => intro _ h2; simp [PL.lexL] at h2
        | cons z u =>
          simp only [PL.lexL]
          intro p q
          by_cases e1 : c x y = 0
          · rw [if_pos e1] at p
            by_cases e2 : c y z = 0
            · rw [if_pos e2] at q
              rw [if_pos (h.eq_trans e1 e2)]
              exact ih t u p q
            · rw [if_neg e2] at q
              have := h.le_lt (a := x) (b := y) (d := z) (by omega) (by omega)
              rw [if_neg (by omega)]
              omega
          · rw [if_neg e1] at p
            have hle : c y z ≤ 0 := by
              by_cases e2 : c y z = 0
              · omega
              · rw [if_neg e2] at q; omega
            have := h.lt_le (a := x) (b := y) (d := z) (by omega) hle
            rw [if_neg (by omega)]
            omega
theorem lexL_zero {α : Type} {c : α → α → Int} (h : ∀ a b, c a b = 0 → a = b) : ∀ s t : List α, lexL c s t = 0 → s = t
  | [], [], _ => rfl
  | [], _ :: _, h1 => by simp [lexL] at h1
  | _ :: _, [], h1 => by simp [lexL] at h1
  | a :: s, b :: t, h1 => by
    simp only [lexL] at h1
    by_cases e : c a b = 0
    · rw [if_pos e] at h1
      rw [h a b e, lexL_zero h s t h1]
    · rw [if_neg e] at h1
      exact absurd h1 e
theorem cmpI_cmp : Cmp cmpI := by
  refine ⟨fun a b => ?_, fun a b d => ?_⟩
  · unfold cmpI
    by_cases h1 : a < b
    · rw [if_neg (by omega), if_pos (by omega), if_pos h1]; rfl
    · by_cases h2 : a > b
      · rw [if_pos (by omega), if_neg h1, if_pos h2]
      · rw [if_neg (by omega), if_neg (by omega), if_neg h1, if_neg h2]; rfl
  · unfold cmpI
    intro h1 h2
    by_cases e1 : a < d
    · rw [if_pos e1]; omega
    · rw [if_neg e1]
      by_cases e2 : a > d
      · exfalso
        by_cases f1 : a < b
        · have f2 : ¬ b < d := by omega
          rw [if_neg f2, if_pos (by omega)] at h2
          omega
        · rw [if_neg f1] at h1
          by_cases f3 : a > b
          · rw [if_pos f3] at h1; omega
          · have f2 : ¬ b < d := by omega
            rw [if_neg f2, if_pos (by omega)] at h2
            omega
      · rw [if_neg e2]; omega
def cmpU (a b : UInt8) : Int := cmpI (a.toNat : Int) (b.toNat : Int)
theorem cmpU_cmp : Cmp cmpU := cmpI_cmp.pull (fun b : UInt8 => (b.toNat : Int))
theorem cmpU_zero (a b : UInt8) (h : cmpU a b = 0) : a = b := by
  have := cmpI_zero.mp h
  exact UInt8.toNat_inj.mp (by omega)
theorem cmpB_lex : ∀ a b : List UInt8, cmpB a b = lexL cmpU a b
  | [], [] => by simp [cmpB, lexL, Op.bytesLess]
  | [], _ :: _ => by simp [cmpB, lexL, Op.bytesLess]
  | _ :: _, [] => by simp [cmpB, lexL, Op.bytesLess]
  | x :: s, y :: t => by
    have ih := cmpB_lex s t
    simp only [lexL]
    rw [← ih]
    have hL : Op.bytesLess (x :: s) (y :: t) = (decide (x < y) || (x == y && Op.bytesLess s t)) := rfl
    unfold cmpB
    rw [hL]
    by_cases h1 : x = y
    · subst h1
      have h0 : cmpU x x = 0 := cmpU_cmp.self x
      rw [if_pos h0]
      have hx : ¬ x < x := UInt8.lt_irrefl x
      simp [hx]
    · have h0 : cmpU x y ≠ 0 := fun h => h1 (cmpU_zero x y h)
      rw [if_neg h0]
      have hb : (x == y) = false := beq_eq_false_iff_ne.mpr h1
      have hn : x.toNat ≠ y.toNat := fun h => h1 (UInt8.toNat_inj.mp h)
      rw [hb, Bool.false_and, Bool.or_false]
      by_cases h2 : x < y
      · have h3 : x.toNat < y.toNat := UInt8.lt_iff_toNat_lt.mp h2
        unfold cmpU cmpI
        rw [if_pos (decide_eq_true h2), if_pos (by omega)]
      · have h3 : ¬ x.toNat < y.toNat := fun h => h2 (UInt8.lt_iff_toNat_lt.mpr h)
        unfold cmpU cmpI
        rw [if_neg (by simp [h2]), if_neg (by simp [h1]), if_neg (by omega), if_pos (by omega)]
theorem cmpB_cmp : Cmp cmpB := by
  have : cmpB = lexL cmpU := funext fun a => funext fun b => cmpB_lex a b
  rw [this]
  exact cmpU_cmp.lexL
theorem cmpB_zero (a b : List UInt8) (h : cmpB a b = 0) : a = b := by
  rw [cmpB_lex] at h
  exact lexL_zero cmpU_zero a b h
theorem cmpR_lex : ∀ a b : List ByteArray, cmpR a b = lexL (fun x y => cmpB (bts x) (bts y)) a b
  | [], [] => rfl
  | [], _ :: _ => rfl
  | _ :: _, [] => rfl
  | x :: s, y :: t => by
    have ih := cmpR_lex s t
    simp only [lexL, cmpR]
    rw [← ih]
    unfold ltS cmpB
    by_cases h1 : Op.bytesLess (bts x) (bts y) = true
    · rw [if_pos h1, if_pos h1, if_neg (by omega)]
    · rw [if_neg h1, if_neg h1]
      by_cases h2 : bts x = bts y
      · rw [if_pos h2, if_pos h2, if_pos rfl]
      · rw [if_neg h2, if_neg h2, if_neg (by omega)]
theorem cmpR_cmp : Cmp cmpR := by
  have : cmpR = lexL (fun x y => cmpB (bts x) (bts y)) := funext fun a => funext fun b => cmpR_lex a b
  rw [this]
  exact (cmpB_cmp.pull bts).lexL
theorem cmpR_zero (a b : List ByteArray) (h : cmpR a b = 0) : a = b := by
  rw [cmpR_lex] at h
  exact lexL_zero (fun x y e => bts_inj (cmpB_zero _ _ e)) a b h
theorem cmpN_cmp : Cmp cmpN := cmpR_cmp.pull (fun s : ByteArray => (labels s).reverse)
/-- A list of labels with dots between. -/
def joinD (c : UInt8) : List ByteArray → List UInt8
  | [] => []
  | [x] => bts x
  | x :: y :: t => bts x ++ c :: joinD c (y :: t)
theorem splitC_cons (c : UInt8) : ∀ (l cur : List UInt8), ∃ x t, splitC c cur l = x :: t
  | [], cur => ⟨_, _, rfl⟩
  | b :: l, cur => by
    unfold splitC
    split
    · exact ⟨_, _, rfl⟩
    · exact splitC_cons c l _
theorem joinD_split (c : UInt8) : ∀ (l cur : List UInt8), joinD c (splitC c cur l) = cur ++ l
  | [], cur => by simp [splitC, joinD, bts_mk]
  | b :: l, cur => by
    unfold splitC
    by_cases h : b = c
    · rw [if_pos h]
      obtain ⟨x, t, e⟩ := splitC_cons c l []
      have := joinD_split c l []
      rw [e] at this ⊢
      simp only [joinD, bts_mk]
      rw [this, h]
      simp
    · rw [if_neg h, joinD_split c l (cur ++ [b])]
      simp
theorem labels_join (s : ByteArray) : joinD 46 (labels s) = bts s := by
  unfold labels
  split
  · rename_i h; rw [h]; rfl
  · rw [joinD_split]; rfl
theorem labels_inj {a b : ByteArray} (h : labels a = labels b) : a = b := by
  apply bts_inj
  rw [← labels_join a, ← labels_join b, h]
theorem cmpN_zero {a b : ByteArray} : cmpN a b = 0 ↔ a = b := by
  constructor
  · intro h
    have := cmpR_zero _ _ h
    exact labels_inj (List.reverse_inj.mp this)
  · intro h
    rw [h]
    exact cmpN_cmp.self b
theorem cmpN_bts {a b : ByteArray} : cmpN a b = 0 ↔ bts a = bts b := cmpN_zero.trans ⟨fun h => by rw [h], bts_inj⟩
end Go.Proofs.YthckpgglghfiiaaDoor.PL
end
section
/- A ring of gaps (without records): one of them is for each name at or behind the first. -/
set_option linter.unusedVariables false
set_option linter.unusedSimpArgs false
namespace Go.Proofs.YthckpgglghfiiaaDoor.PL
open Go.RowKit Go.Proofs.YthckpgglghfiiaaDoor.Pp Go.Proofs.YthckpgglghfiiaaDoor.PB Go.Proofs.YthckpgglghfiiaaDoorW.PrintWords Go.Proofs.YthckpgglghfiiaaDoorW.PrintLast
theorem splitC_step (c : UInt8) (cur : List UInt8) (b : UInt8) (l : List UInt8) : splitC c cur (b :: l) = if b = c then (⟨cur.toArray⟩ : ByteArray) :: splitC c [] l else splitC c (cur ++ [b]) l := rfl
theorem splitC_app (c : UInt8) : ∀ (p cur q : List UInt8), splitC c cur (p ++ c :: q) = splitC c cur p ++ splitC c [] q
  | [], cur, q => by simp [splitC]
  | b :: p, cur, q => by
    show splitC c cur (b :: (p ++ c :: q)) = splitC c cur (b :: p) ++ splitC c [] q
    rw [splitC_step, splitC_step]
    by_cases hb : b = c
    · rw [if_pos hb, if_pos hb, splitC_app c p [] q]
      rfl
    · rw [if_neg hb, if_neg hb, splitC_app c p _ q]
theorem ltS_self (a : ByteArray) : ltS a a = false := bytesLess_irr _
theorem cmpR_pre : ∀ (s t : List ByteArray), cmpR s (s ++ t) ≤ 0
  | [], [] => by simp [cmpR]
  | [], _ :: _ => by simp [cmpR]
  | a :: s, t => by
    show cmpR (a :: s) (a :: (s ++ t)) ≤ 0
    rw [cmpR, ltS_self]
    simpa using cmpR_pre s t
theorem below_labels {x a : ByteArray} (h : belowN x a = true) : ∃ p, labels x = p ++ labels a := by
  rcases below_iff.mp h with h1 | h1 | ⟨p, h1⟩
  · exact ⟨labels x, by simp [labels, h1]⟩
  · exact ⟨[], by rw [bts_inj h1]; rfl⟩
  · by_cases ha : bts a = []
    · exact ⟨labels x, by simp [labels, ha]⟩
    · refine ⟨splitC 46 [] p, ?_⟩
      unfold labels
      rw [if_neg ha, if_neg (by rw [← h1]; simp), ← h1, splitC_app]
theorem below_cmp {x a : ByteArray} (h : belowN x a = true) : cmpN a x ≤ 0 := by
  obtain ⟨p, e⟩ := below_labels h
  unfold cmpN
  rw [e, List.reverse_append]
  exact cmpR_pre _ _
/-- Gaps whose owners are these names, in order, each with the next one, the last with the first. -/
structure Ring (ns : List ByteArray) (l : List S_Gap) : Prop where
  len : l.length = ns.length
  own : ∀ (i : Nat) (g : S_Gap), l[i]? = some g → ns[i]? = some g.f0 ∧ ns[(i + 1) % ns.length]? = some g.f1
theorem ring_hit {ns : List ByteArray} {l : List S_Gap} (hr : Ring ns l) (hp : ns.Pairwise (fun a b => cmpN a b < 0)) (x : ByteArray) : ∀ (n i : Nat) (o : ByteArray), ns.length - i = n → ns[i]? = some o → cmpN o x ≤ 0 → ∃ j, i ≤ j ∧ ∃ g, l[j]? = some g ∧ hitG g x = true
  | 0, i, o, hn, ho, _ => by
    have := (List.getElem?_eq_some_iff.mp ho).1
    omega
  | n + 1, i, o, hn, ho, hx => by
    have hi : i < ns.length := (List.getElem?_eq_some_iff.mp ho).1
    have hil : i < l.length := by rw [hr.len]; exact hi
    obtain ⟨e0, e1⟩ := hr.own i l[i] (List.getElem?_eq_getElem hil)
    have hog : l[i].f0 = o := by rw [ho] at e0; exact (Option.some.inj e0).symm
    by_cases h0 : cmpN o x = 0
    · exact ⟨i, Nat.le_refl _, l[i], List.getElem?_eq_getElem hil, by simp [hitG, hog, cmpN_bts.mp h0]⟩
    · have hlt : cmpN o x < 0 := by omega
      by_cases hlast : i + 1 < ns.length
      · rw [Nat.mod_eq_of_lt hlast] at e1
        by_cases h1 : cmpN x l[i].f1 < 0
        · exact ⟨i, Nat.le_refl _, l[i], List.getElem?_eq_getElem hil, by simp [hitG, covN, hog, hlt, h1]⟩
        · have h2 : cmpN l[i].f1 x ≤ 0 := by
            have := cmpN_cmp.anti l[i].f1 x
            omega
          obtain ⟨j, hj, r⟩ := ring_hit hr hp x n (i + 1) l[i].f1 (by omega) e1 h2
          exact ⟨j, by omega, r⟩
      · have hz : (i + 1) % ns.length = 0 := by
          rw [show i + 1 = ns.length from by omega]
          exact Nat.mod_self _
        rw [hz] at e1
        have h3 : cmpN l[i].f1 o ≤ 0 := by
          cases i with
          | zero =>
            rw [ho] at e1
            rw [← Option.some.inj e1, cmpN_cmp.self]
            exact Int.le_refl _
          | succ i =>
            obtain ⟨b1, b2⟩ := List.getElem?_eq_some_iff.mp ho
            obtain ⟨c1, c2⟩ := List.getElem?_eq_some_iff.mp e1
            have := List.pairwise_iff_getElem.mp hp 0 (i + 1) c1 b1 (by omega)
            rw [b2, c2] at this
            omega
        exact ⟨i, Nat.le_refl _, l[i], List.getElem?_eq_getElem hil, by simp [hitG, covN, hog, hlt, h3]⟩
/-- The first hit's place and the first hit. -/
theorem idx_find {α : Type} (q : α → Bool) : ∀ (l : List α), l.any q = true → ∃ (j : Nat) (g : α), idxP q l = (j : Int) ∧ l[j]? = some g ∧ l.find? q = some g ∧ q g = true
  | [], h => by cases h
  | a :: t, h => by
    have hq : idxP q (a :: t) = (if q a then 0 else if 0 ≤ idxP q t then idxP q t + 1 else -1) := rfl
    cases ha : q a with
    | true => exact ⟨0, a, by rw [hq, ha]; rfl, rfl, by rw [List.find?_cons_of_pos ha], ha⟩
    | false =>
      obtain ⟨j, g, h1, h2, h3, h4⟩ := idx_find q t (by simpa [ha] using h)
      refine ⟨j + 1, g, ?_, h2, by rw [List.find?_cons_of_neg (by simp [ha])]; exact h3, h4⟩
      rw [hq, ha, h1, if_neg (by simp), if_pos (by omega)]
      omega
theorem ring_any {ns : List ByteArray} {l : List S_Gap} (hr : Ring ns l) (hp : ns.Pairwise (fun a b => cmpN a b < 0)) (x o : ByteArray) (ho : ns[0]? = some o) (hx : cmpN o x ≤ 0) : l.any (fun g => hitG g x) = true := by
  obtain ⟨j, _, g, h1, h2⟩ := ring_hit hr hp x ns.length 0 o (by omega) ho hx
  rw [List.any_eq_true]
  exact ⟨g, List.mem_of_getElem? h1, h2⟩
/-- Two gaps with one owner are one. -/
theorem ring_owner {ns : List ByteArray} {l : List S_Gap} (hr : Ring ns l) (hp : ns.Pairwise (fun a b => cmpN a b < 0)) {i j : Nat} {g h : S_Gap} (hi : l[i]? = some g) (hj : l[j]? = some h) : g.f0 = h.f0 ↔ i = j := by
  constructor
  · intro e
    have e1 := (hr.own i g hi).1
    have e2 := (hr.own j h hj).1
    rw [← e] at e2
    obtain ⟨b1, b2⟩ := List.getElem?_eq_some_iff.mp e1
    obtain ⟨c1, c2⟩ := List.getElem?_eq_some_iff.mp e2
    rcases Nat.lt_trichotomy i j with h1 | h1 | h1
    · have := List.pairwise_iff_getElem.mp hp i j b1 c1 h1
      rw [b2, c2, cmpN_cmp.self] at this
      omega
    · exact h1
    · have := List.pairwise_iff_getElem.mp hp j i c1 b1 h1
      rw [b2, c2, cmpN_cmp.self] at this
      omega
  · rintro rfl
    rw [hi] at hj
    rw [Option.some.inj hj]
end Go.Proofs.YthckpgglghfiiaaDoor.PL
end
section
/- Rows of types: each one known, rising. -/
set_option linter.unusedVariables false
set_option linter.unusedSimpArgs false
namespace Go.Proofs.YthckpgglghfiiaaDoor.PL
open Go.RowKit Go.Proofs.YthckpgglghfiiaaDoor.Pp Go.Proofs.YthckpgglghfiiaaDoor.PB Go.Proofs.YthckpgglghfiiaaDoorW.PrintWords Go.Proofs.YthckpgglghfiiaaDoorW.PrintLast
theorem nil_or_snoc {α : Type} (l : List α) : l = [] ∨ ∃ q y, l = q ++ [y] := by
  rcases List.eq_nil_or_concat l with h | ⟨q, y, h⟩
  · exact Or.inl h
  · exact Or.inr ⟨q, y, by rw [h]; simp⟩
def hasI (l : List Int) (a : Int) : Bool := l.any (fun x => decide (x = a))
def tyOk (a : Int) : Bool := hasI [1, 2, 5, 6, 15, 16] a
theorem l1Has_eq (l : List Int) (a : Int) (hl : l.length ≤ 1048576) : Ev (fun k => spec_l1Has.f k l a) (hasI l a) := by
  unfold spec_l1Has.f hasI
  refine Ev.eq_ (loop_list l (fun k (_ : Unit) i => spec_l1Has.l0 k a l (l.length : Int) i) (fun _ t => t.any (fun x => decide (x = a))) (fun _ _ => True) ?_ ?_ () trivial) rfl
  · intro _ _
    apply Ev.succ
    simp only [spec_l1Has.l0]
    exact Ev.neg (by omega) (Ev.const rfl)
  · intro p x t _ e _ ih
    have hm := len_mid e
    apply Ev.succ
    simp only [spec_l1Has.l0, rd_mid' e]
    refine Ev.pos hm.1 (Ev.pos (by omega) (Ev.pos hm.1 ?_))
    rw [w64 (i := (p.length : Int) + 1) (by omega) (by omega)]
    by_cases hq : x = a
    · exact Ev.pos hq (Ev.const (by simp [hq]))
    · exact Ev.neg hq (Ev.eq_ (ih () trivial) (by simp [hq]))
theorem indexI_eq (l : List Int) (a : Int) (hl : l.length ≤ 1048576) : Ev (fun k => slices_Index_int_int.f k l a) (idxP (fun x => decide (x = a)) l) := by
  unfold slices_Index_int_int.f
  refine Ev.eq_ (loop_list l (fun k (_ : Nat) i => slices_Index_int_int.l0 k l a (l.length : Int) i) (fun n t => if 0 ≤ idxP (fun x => decide (x = a)) t then (n : Int) + idxP (fun x => decide (x = a)) t else -1) (fun p n => n = p.length) ?_ ?_ 0 rfl) ?_
  · intro n hn
    apply Ev.succ
    simp only [slices_Index_int_int.l0]
    exact Ev.neg (by omega) (Ev.const (by simp [idxP]))
  · intro p x t n e hn ih
    have hm := len_mid e
    apply Ev.succ
    simp only [slices_Index_int_int.l0, rd_mid' e]
    refine Ev.pos hm.1 (Ev.pos (by omega) (Ev.pos hm.1 ?_))
    have hq : idxP (fun x => decide (x = a)) (x :: t) = (if decide (x = a) then 0 else if 0 ≤ idxP (fun x => decide (x = a)) t then idxP (fun x => decide (x = a)) t + 1 else -1) := rfl
    rw [hq]
    by_cases hx : a = x
    · exact Ev.pos hx (Ev.const (by simp [hn, hx]))
    · refine Ev.neg hx ?_
      have hx2 : ¬ x = a := fun h => hx h.symm
      rw [w64 (by omega) (by omega)]
      refine Ev.eq_ (ih (n + 1) (by simp [hn])) ?_
      by_cases h2 : 0 ≤ idxP (fun x => decide (x = a)) t
      · simp [h2, hx2]; omega
      · simp [h2, hx2]
  · by_cases h2 : 0 ≤ idxP (fun x => decide (x = a)) l
    · simp [h2]
    · rw [if_neg h2]
      exact (idxP_neg _ l h2).symm
theorem isType_eq (a : Int) : Ev (fun k => impl_isType.f k a) (tyOk a) := by
  unfold impl_isType.f slices_Contains_int_int.f
  refine Ev.bind' _ (Ev.bind' _ (indexI_eq [1, 2, 5, 6, 15, 16] a (by simp)) (Ev.const rfl)) (Ev.const ?_)
  rw [idxP_nonneg]
  rfl
theorem l3Type_eq (a : Int) : Ev (fun k => spec_l3Type.f k a) (tyOk a) := by
  unfold spec_l3Type.f
  exact Ev.bind' _ (l1Has_eq [1, 2, 5, 6, 15, 16] a (by simp)) (Ev.const rfl)
/-- Known types, each above the one ahead of it. -/
def tys : Option Int → List Int → Bool
  | _, [] => true
  | none, x :: t => tyOk x && tys (some x) t
  | some p, x :: t => tyOk x && (decide (p < x) && tys (some x) t)
def areT (l : List Int) : Bool := decide (0 < l.length) && tys none l
theorem specTypes_loop (a : ByteArray) (l : List S_Gap) (i : Int) (o n : ByteArray) (ts : List Int) (hl : ts.length ≤ 1048576) (R : Bool) (hR : Ev (fun k => spec_GoodGaps.l0 k a l l (l.length : Int) (wrap64 (i + 1))) R) :
    Ev (fun k => spec_GoodGaps.l1 k a l l (l.length : Int) i ts (ts.length : Int) 0 o n ts) (if tys none ts then R else false) := by
  refine loop_list ts (fun k (_ : Option Int) j => spec_GoodGaps.l1 k a l l (l.length : Int) i ts (ts.length : Int) j o n ts) (fun s t => if tys s t then R else false) (fun p s => s = p.getLast?) ?_ ?_ none rfl
  · intro s _
    apply Ev.succ
    simp only [spec_GoodGaps.l1]
    exact Ev.neg (by omega) (Ev.eq_ hR (by cases s <;> simp [tys]))
  · intro p x t s e hs ih
    have hm := len_mid e
    apply Ev.succ
    simp only [spec_GoodGaps.l1, rd_mid' e]
    refine Ev.pos hm.1 (Ev.pos (by omega) (Ev.pos hm.1 (Ev.bind' _ (l3Type_eq x) ?_)))
    rw [w64 (i := (p.length : Int) + 1) (by omega) (by omega)]
    cases hx : tyOk x with
    | false => exact Ev.ite_false (Ev.const (by cases s <;> simp [tys, hx]))
    | true =>
      refine Ev.ite_true ?_
      rcases nil_or_snoc p with rfl | ⟨q, y, rfl⟩
      · refine Ev.neg (by simp) (Ev.eq_ (ih (some x) (by simp)) ?_)
        subst hs
        simp [tys, hx]
      · have e2 : ts = q ++ y :: (x :: t) := by rw [e]; simp
        have hq := len_mid e2
        have e3 : (((q ++ [y]).length : Nat) : Int) - 1 = (q.length : Int) := by simp
        have e4 : ((q ++ [y]).length : Int) > 0 := by simp only [List.length_append, List.length_cons, List.length_nil]; omega
        rw [w64 (i := ((q ++ [y]).length : Int) - 1) (by omega) (by omega), e3, rd_mid' e2]
        refine Ev.pos e4 (Ev.pos (by omega) (Ev.pos hq.1 ?_))
        have hs2 : s = some y := by rw [hs]; simp
        subst hs2
        by_cases hy : y ≥ x
        · refine Ev.pos hy (Ev.const ?_)
          have : ¬ y < x := by omega
          simp [tys, hx, this]
        · refine Ev.neg hy (Ev.eq_ (ih (some x) (by simp)) ?_)
          have : y < x := by omega
          simp [tys, hx, this]
theorem areTypes_eq (l : List Int) (hl : l.length ≤ 1048576) : Ev (fun k => impl_areTypes.f k l) (areT l) := by
  unfold impl_areTypes.f
  refine Ev.eq_ (loop_list l (fun k (_ : Option Int) j => impl_areTypes.l0 k l l (l.length : Int) j) (fun s t => tys s t && decide (0 < l.length)) (fun p s => s = p.getLast?) ?_ ?_ none rfl) (by unfold areT; rw [Bool.and_comm])
  · intro s _
    apply Ev.succ
    simp only [impl_areTypes.l0]
    refine Ev.neg (by omega) (Ev.const ?_)
    have : decide ((l.length : Int) > 0) = decide (0 < l.length) := by
      rw [Bool.eq_iff_iff]; simp
    rw [this]
    cases s <;> simp [tys]
  · intro p x t s e hs ih
    have hm := len_mid e
    apply Ev.succ
    simp only [impl_areTypes.l0, rd_mid' e]
    refine Ev.pos hm.1 (Ev.pos (by omega) (Ev.pos hm.1 (Ev.bind' _ (isType_eq x) ?_)))
    rw [w64 (i := (p.length : Int) + 1) (by omega) (by omega)]
    cases hx : tyOk x with
    | false => exact Ev.ite_false (Ev.const (by cases s <;> simp [tys, hx]))
    | true =>
      refine Ev.ite_true ?_
      rcases nil_or_snoc p with rfl | ⟨q, y, rfl⟩
      · refine Ev.neg (by simp) (Ev.eq_ (ih (some x) (by simp)) ?_)
        subst hs
        simp [tys, hx]
      · have e2 : l = q ++ y :: (x :: t) := by rw [e]; simp
        have hq := len_mid e2
        have e3 : (((q ++ [y]).length : Nat) : Int) - 1 = (q.length : Int) := by simp
        have e4 : ((q ++ [y]).length : Int) > 0 := by simp only [List.length_append, List.length_cons, List.length_nil]; omega
        rw [w64 (i := ((q ++ [y]).length : Int) - 1) (by omega) (by omega), e3, rd_mid' e2]
        refine Ev.pos e4 (Ev.pos (by omega) (Ev.pos hq.1 ?_))
        have hs2 : s = some y := by rw [hs]; simp
        subst hs2
        by_cases hy : x ≤ y
        · refine Ev.pos hy (Ev.const ?_)
          have : ¬ y < x := by omega
          simp [tys, hx, this]
        · refine Ev.neg hy (Ev.eq_ (ih (some x) (by simp)) ?_)
          have : y < x := by omega
          simp [tys, hx, this]
end Go.Proofs.YthckpgglghfiiaaDoor.PL
end
section
/- Lists of numbers: copied, compared. -/
set_option linter.unusedVariables false
set_option linter.unusedSimpArgs false
namespace Go.Proofs.YthckpgglghfiiaaDoor.PL
open Go.RowKit Go.Proofs.YthckpgglghfiiaaDoor.Pp Go.Proofs.YthckpgglghfiiaaDoor.PB Go.Proofs.YthckpgglghfiiaaDoorW.PrintWords Go.Proofs.YthckpgglghfiiaaDoorW.PrintLast
theorem toIntS_eq (l : List Int) (hl : l.length ≤ 1048576) : Ev (fun k => laws_toIntS.f k l) l := by
  unfold laws_toIntS.f
  refine Ev.pos (by omega) (Ev.pos (by simp; omega) ?_)
  refine loop_list l (fun k s i => laws_toIntS.l0 k l s i) (fun _ _ => l) (fun p s => ∃ q, s = p ++ q ∧ s.length = l.length) ?_ ?_ _ ⟨_, rfl, by simp⟩
  · rintro s ⟨q, rfl, hq⟩
    apply Ev.succ
    simp only [laws_toIntS.l0]
    refine Ev.neg (by omega) (Ev.const ?_)
    have : q = [] := List.eq_nil_of_length_eq_zero (by simpa using hq)
    simp [this]
  · rintro p x t s e ⟨q, rfl, hq⟩ ih
    have hm := len_mid e
    cases q with
    | nil => simp at hq; omega
    | cons y q =>
      apply Ev.succ
      simp only [laws_toIntS.l0, rd_mid' e]
      refine Ev.pos hm.1 (Ev.pos (by omega) (Ev.pos (by omega) ?_))
      rw [w64 (by omega) (by omega), set_mid]
      exact ih _ ⟨q, rfl, by simpa using hq⟩
theorem eqIntS_eq (l : List Int) (hl : l.length ≤ 1048576) : Ev (fun k => laws_eqIntS.f k l l) true := by
  unfold laws_eqIntS.f
  refine Ev.pos rfl ?_
  refine loop_list l (fun k (_ : Unit) i => laws_eqIntS.l0 k l l i) (fun _ _ => true) (fun _ _ => True) ?_ ?_ () trivial
  · intro _ _
    apply Ev.succ
    simp only [laws_eqIntS.l0]
    exact Ev.neg (by omega) (Ev.const rfl)
  · intro p x t s e _ ih
    have hm := len_mid e
    apply Ev.succ
    simp only [laws_eqIntS.l0]
    refine Ev.pos hm.1 (Ev.pos (by omega) (Ev.pos hm.1 (Ev.pos trivial ?_)))
    rw [w64 (by omega) (by omega)]
    exact ih () trivial
end Go.Proofs.YthckpgglghfiiaaDoor.PL
end
section
/- A gap: sized, copied, compared. -/
set_option linter.unusedVariables false
set_option linter.unusedSimpArgs false
namespace Go.Proofs.YthckpgglghfiiaaDoor.PL
open Go.RowKit Go.Proofs.YthckpgglghfiiaaDoor.Pp Go.Proofs.YthckpgglghfiiaaDoor.PB Go.Proofs.YthckpgglghfiiaaDoorW.PrintWords Go.Proofs.YthckpgglghfiiaaDoorW.PrintLast
theorem szIntS_eq (l : List Int) (h : l.length ≤ maxLen) (a : Int) (h0 : 0 ≤ a) (h1 : a ≤ 1048576) : Szd (fun _ => laws_szIntS.f l a) a (l.length ≤ 1048576) := by
  have hm : maxLen = 9223372036854775807 := rfl
  unfold laws_szIntS.f
  exact (Szd.size _ (by omega) h0 h1 (fun a' e ha hb => by rw [e]; exact Szd.end_ ha)).mono (fun h => h.1)
theorem szGap_eq (o n : ByteArray) (l : List Int) (ho : o.size ≤ maxLen) (hn : n.size ≤ maxLen) (hl : l.length ≤ maxLen) (a : Int) (h0 : 0 ≤ a) (h1 : a ≤ 1048576) : Szd (fun _ => laws_szGap.f o n l a) a (o.size ≤ 1048576 ∧ n.size ≤ 1048576 ∧ l.length ≤ 1048576) := by
  have hm : maxLen = 9223372036854775807 := rfl
  unfold laws_szGap.f
  refine (Szd.size _ (by omega) h0 h1 (fun a' e ha hb => ?_))
  rw [e]
  refine (Szd.size _ (by omega) ha hb (fun a2 e2 ha2 hb2 => ?_))
  rw [e2]
  exact (Szd.cbind (szIntS_eq l hl a2 ha2 hb2) hb2 (fun r h3 _ => Szd.end_ h3)).mono (fun h => h.1)
theorem toGap_eq (o n : ByteArray) (l : List Int) (hl : l.length ≤ 1048576) : Ev (fun k => laws_toGap.f k o n l) (o, n, l) := by
  unfold laws_toGap.f
  exact Ev.bind' _ (toIntS_eq l hl) (Ev.const rfl)
theorem eqGap_eq (o n : ByteArray) (l : List Int) (hl : l.length ≤ 1048576) : Ev (fun k => laws_eqGap.f k o n l o n l) true := by
  unfold laws_eqGap.f
  exact Ev.pos rfl (Ev.pos rfl (Ev.bind' _ (eqIntS_eq l hl) (Ev.ite_true (Ev.const rfl))))
end Go.Proofs.YthckpgglghfiiaaDoor.PL
end
section
/- Rows of gaps: sized, copied, compared. -/
set_option linter.unusedVariables false
set_option linter.unusedSimpArgs false
namespace Go.Proofs.YthckpgglghfiiaaDoor.PL
open Go.RowKit Go.Proofs.YthckpgglghfiiaaDoor.Pp Go.Proofs.YthckpgglghfiiaaDoor.PB Go.Proofs.YthckpgglghfiiaaDoorW.PrintWords Go.Proofs.YthckpgglghfiiaaDoorW.PrintLast
def cGap (x : S_LGap) : S_Gap := ⟨x.f0, x.f1, x.f2⟩
def szG (x : S_Gap) : Prop := x.f0.size ≤ 1048576 ∧ x.f1.size ≤ 1048576 ∧ x.f2.length ≤ 1048576
def szLG (x : S_LGap) : Prop := x.f0.size ≤ 1048576 ∧ x.f1.size ≤ 1048576 ∧ x.f2.length ≤ 1048576
theorem szG_map {l : List S_LGap} (h : ∀ x ∈ l, szLG x) : ∀ x ∈ l.map cGap, szG x := by
  intro x hx
  obtain ⟨y, hy, rfl⟩ := List.mem_map.mp hx
  exact h y hy
theorem szGapS_eq (l : List S_LGap) (h : l.length ≤ maxLen ∧ ∀ x ∈ l, WF_LGap x) (a : Int) (h0 : 0 ≤ a) (h1 : a ≤ 1048576) : Szd (fun k => laws_szGapS.f k l a) a (l.length ≤ 1048576 ∧ ∀ x ∈ l, szLG x) := by
  have hm : maxLen = 9223372036854775807 := rfl
  unfold laws_szGapS.f
  by_cases hl : l.length ≤ 1048576
  · refine Szd.size _ (by omega) h0 h1 (fun a' e ha hb => ?_)
    rw [e]
    refine Szd.list l hl (fun k a i => laws_szGapS.l0 k l a i) szLG ?_ ?_ a' ha hb
    · intro a ha hb
      refine ⟨a, Ev.succ ?_, Or.inr ⟨ha, Int.le_refl _, trivial⟩⟩
      simp only [laws_szGapS.l0]
      exact Ev.neg (by omega) (Ev.const rfl)
    · intro p x t a e ha hb _ C hC
      have hm2 := len_mid e
      have hx := h.2 x (mem_mid e)
      have hel : Szd (fun _ : Nat => laws_szGap.f x.f0 x.f1 x.f2 a) a (szLG x) := szGap_eq x.f0 x.f1 x.f2 hx.1 hx.2.1 hx.2.2.1 a ha hb
      obtain ⟨r, hr, hh⟩ := Szd.cbind (g := fun k t => laws_szGapS.l0 k l t ((p.length : Int) + 1)) hel hb (fun r h3 h4 => hC r h3 h4)
      refine ⟨r, Ev.succ ?_, hh⟩
      simp only [laws_szGapS.l0, rd_TLGap, getD_mid e]
      rw [w64 (i := (p.length : Int) + 1) (by omega) (by omega)]
      exact Ev.pos hm2.1 (Ev.pos (by omega) hr)
  · have := h.1
    refine ⟨-1, Ev.pos ?_ (Ev.const rfl), Or.inl (by omega)⟩
    rw [w64 (by omega) (by omega)]
    omega
theorem toGapS_eq (l : List S_LGap) (hl : l.length ≤ 1048576) (hs : ∀ x ∈ l, szLG x) : Ev (fun k => laws_toGapS.f k l) (l.map cGap) := by
  unfold laws_toGapS.f
  refine Ev.pos (by omega) (Ev.pos (by simp; omega) ?_)
  refine to_list l cGap (fun k s i => laws_toGapS.l0 k l s i) ?_ ?_ _ (by simp)
  · intro s
    apply Ev.succ
    simp only [laws_toGapS.l0]
    exact Ev.neg (by omega) (Ev.const rfl)
  · intro p x t s r e hps h
    have hm := len_mid e
    have hx := hs x (mem_mid e)
    apply Ev.succ
    simp only [laws_toGapS.l0, rd_TLGap, getD_mid e]
    rw [w64 (i := (p.length : Int) + 1) (by omega) (by omega)]
    exact Ev.pos hm.1 (Ev.pos (by omega) (Ev.bind' _ (toGap_eq x.f0 x.f1 x.f2 hx.2.2) (Ev.pos (by omega) h)))
theorem eqGapS_eq (l : List S_Gap) (hl : l.length ≤ 1048576) (hs : ∀ x ∈ l, szG x) : Ev (fun k => laws_eqGapS.f k l l) true := by
  unfold laws_eqGapS.f
  refine Ev.pos rfl (eq_list l (fun k i => laws_eqGapS.l0 k l l i) ?_ ?_)
  · apply Ev.succ
    simp only [laws_eqGapS.l0]
    exact Ev.neg (by omega) (Ev.const rfl)
  · intro p x t e h
    have hm := len_mid e
    have hx := hs x (mem_mid e)
    apply Ev.succ
    simp only [laws_eqGapS.l0, rd_TGap, getD_mid e]
    rw [w64 (i := (p.length : Int) + 1) (by omega) (by omega)]
    exact Ev.pos hm.1 (Ev.pos (by omega) (Ev.pos hm.1 (Ev.bind' _ (eqGap_eq x.f0 x.f1 x.f2 hx.2.2) (Ev.ite_true h))))
end Go.Proofs.YthckpgglghfiiaaDoor.PL
end
section
/- Rings of gaps: good ones. Both come to the same. -/
set_option linter.unusedVariables false
set_option linter.unusedSimpArgs false
namespace Go.Proofs.YthckpgglghfiiaaDoor.PL
open Go.RowKit Go.Proofs.YthckpgglghfiiaaDoor.Pp Go.Proofs.YthckpgglghfiiaaDoor.PB Go.Proofs.YthckpgglghfiiaaDoorW.PrintWords Go.Proofs.YthckpgglghfiiaaDoorW.PrintLast
/-- The owner of the gap behind. -/
def nxt (f : ByteArray) : List S_Gap → ByteArray
  | [] => f
  | h :: _ => h.f0
def above : Option ByteArray → ByteArray → Bool
  | none, _ => true
  | some q, o => decide (cmpN q o < 0)
def gOk (a : ByteArray) (s : Option ByteArray) (n : ByteArray) (g : S_Gap) : Bool := nameOk g.f0 && belowN g.f0 a && decide (bts g.f1 = bts n) && areT g.f2 && above s g.f0
def ring (a f : ByteArray) : Option ByteArray → List S_Gap → Bool
  | _, [] => true
  | s, g :: t => gOk a s (nxt f t) g && ring a f (some g.f0) t
def gaps (a : ByteArray) : List S_Gap → Bool
  | [] => false
  | g :: t => nameOk a && decide ((g :: t).length ≤ 40) && decide (bts g.f0 = bts a) && ring a g.f0 none (g :: t)
/-- The gap behind, by its number. -/
theorem at_next {l p t : List S_Gap} {x : S_Gap} {f : ByteArray} (z : S_Gap) (e : l = p ++ x :: t) (hl : l.length ≤ 1048576) (hf : (l.getD 0 z).f0 = f) :
    (0 ≤ Int.tmod ((p.length : Int) + 1) (l.length : Int)) ∧ (Int.tmod ((p.length : Int) + 1) (l.length : Int) < (l.length : Int)) ∧ (l.getD (Int.tmod ((p.length : Int) + 1) (l.length : Int)).toNat z).f0 = nxt f t := by
  have hm := len_mid e
  have e0 : Int.tmod ((p.length : Int) + 1) (l.length : Int) = (((p.length + 1) % l.length : Nat) : Int) := by
    rw [show (p.length : Int) + 1 = ((p.length + 1 : Nat) : Int) from by omega]
    exact (Int.ofNat_tmod _ _).symm
  rw [e0]
  have h1 : (p.length + 1) % l.length < l.length := Nat.mod_lt _ (by omega)
  refine ⟨by omega, by omega, ?_⟩
  rw [Int.toNat_natCast]
  cases t with
  | nil =>
    have : p.length + 1 = l.length := by have := hm.2.2; simp at this; omega
    rw [this, Nat.mod_self]
    exact hf
  | cons h t =>
    have : p.length + 1 < l.length := by have := hm.2.2; simp at this; omega
    rw [Nat.mod_eq_of_lt this, e]
    simp [List.getD_eq_getElem?_getD, nxt]
theorem implRing_eq (a : ByteArray) (l : List S_Gap) (f : ByteArray) (hf : (l.getD 0 z_Gap).f0 = f) (ha : a.size ≤ 1048576) (hl : l.length ≤ 1048576) (hs : ∀ x ∈ l, szG x) : Ev (fun k => impl_GoodGaps.l0 k a l l (l.length : Int) 0) (ring a f none l) := by
  refine loop_list l (fun k (_ : Option ByteArray) i => impl_GoodGaps.l0 k a l l (l.length : Int) i) (fun s t => ring a f s t) (fun p s => s = p.getLast?.map (fun g => g.f0)) ?_ ?_ none rfl
  · intro s _
    apply Ev.succ
    simp only [impl_GoodGaps.l0]
    exact Ev.neg (by omega) (Ev.const (by cases s <;> rfl))
  · intro p x t s e hp ih
    have hm := len_mid e
    have hx := hs x (mem_mid e)
    obtain ⟨n1, n2, n3⟩ := at_next z_Gap e hl hf
    have hr : ring a f s (x :: t) = (gOk a s (nxt f t) x && ring a f (some x.f0) t) := rfl
    rw [hr]
    apply Ev.succ
    simp only [impl_GoodGaps.l0, rd_TGap, getD_mid e]
    rw [w64 (i := (p.length : Int) + 1) (by omega) (by omega), n3]
    refine Ev.pos hm.1 (Ev.pos (by omega) (Ev.pos hm.1 (Ev.bind' _ (implGoodName_eq x.f0 hx.1) ?_)))
    cases c1 : nameOk x.f0 with
    | false => exact Ev.ite_false (Ev.const (by simp [gOk, c1]))
    | true =>
      refine Ev.ite_true (Ev.cbind _ (implBelow_eq x.f0 a hx.1 ha) ?_)
      cases c2 : belowN x.f0 a with
      | false => exact Ev.ite_false (Ev.const (by simp [gOk, c2]))
      | true =>
        refine Ev.ite_true (Ev.neg (by omega) (Ev.pos n1 (Ev.pos n2 ?_)))
        by_cases c3 : x.f1.toList = (nxt f t).toList
        · refine Ev.pos c3 (Ev.bind' _ (areTypes_eq x.f2 hx.2.2) ?_)
          rw [toList_bts, toList_bts] at c3
          cases c4 : areT x.f2 with
          | false => exact Ev.ite_false (Ev.const (by simp [gOk, c4]))
          | true =>
            refine Ev.ite_true ?_
            rcases nil_or_snoc p with rfl | ⟨q, y, rfl⟩
            · subst hp
              refine Ev.neg (by simp) (Ev.eq_ (ih (some x.f0) (by simp)) ?_)
              simp [gOk, c1, c2, c3, c4, above]
            · have e2 : l = q ++ y :: (x :: t) := by rw [e]; simp
              have hq := len_mid e2
              have hy := hs y (mem_mid e2)
              have e3 : (((q ++ [y]).length : Nat) : Int) - 1 = (q.length : Int) := by simp
              have e4 : ((q ++ [y]).length : Int) > 0 := by simp only [List.length_append, List.length_cons, List.length_nil]; omega
              rw [w64 (i := ((q ++ [y]).length : Int) - 1) (by omega) (by omega), e3, getD_mid e2]
              refine Ev.pos e4 (Ev.pos (by omega) (Ev.pos hq.1 (Ev.bind' _ (compareNames_eq y.f0 x.f0 hy.1 hx.1) ?_)))
              have hs2 : s = some y.f0 := by rw [hp]; simp
              subst hs2
              by_cases c5 : cmpN y.f0 x.f0 ≥ 0
              · refine Ev.pos c5 (Ev.const ?_)
                have : ¬ cmpN y.f0 x.f0 < 0 := by omega
                simp [gOk, above, this]
              · refine Ev.neg c5 (Ev.eq_ (ih (some x.f0) (by simp)) ?_)
                have : cmpN y.f0 x.f0 < 0 := by omega
                simp [gOk, c1, c2, c3, c4, above, this]
        · refine Ev.neg c3 (Ev.const ?_)
          rw [toList_bts, toList_bts] at c3
          simp [gOk, c3]
theorem specRing_eq (a : ByteArray) (l : List S_Gap) (f : ByteArray) (hf : (l.getD 0 z_Gap).f0 = f) (ha : a.size ≤ 1048576) (hl : l.length ≤ 1048576) (hs : ∀ x ∈ l, szG x) : Ev (fun k => spec_GoodGaps.l0 k a l l (l.length : Int) 0) (ring a f none l) := by
  refine loop_list l (fun k (_ : Option ByteArray) i => spec_GoodGaps.l0 k a l l (l.length : Int) i) (fun s t => ring a f s t) (fun p s => s = p.getLast?.map (fun g => g.f0) ∧ ∀ q, s = some q → nameOk q = true) ?_ ?_ none ⟨rfl, fun _ h => by cases h⟩
  · intro s _
    apply Ev.succ
    simp only [spec_GoodGaps.l0]
    exact Ev.neg (by omega) (Ev.const (by cases s <;> rfl))
  · rintro p x t s e ⟨hp, hgood⟩ ih
    have hm := len_mid e
    have hx := hs x (mem_mid e)
    obtain ⟨n1, n2, n3⟩ := at_next z_Gap e hl hf
    have hr : ring a f s (x :: t) = (gOk a s (nxt f t) x && ring a f (some x.f0) t) := rfl
    rw [hr]
    have hbad : gOk a s (nxt f t) x = false → Ev (fun k => spec_GoodGaps.j2 k a l l (l.length : Int) (p.length : Int) true x.f0 x.f1 x.f2) (gOk a s (nxt f t) x && ring a f (some x.f0) t) := by
      intro h
      apply Ev.succ
      simp only [spec_GoodGaps.j2]
      exact Ev.pos (by first | rfl | trivial) (Ev.const (by rw [h]; rfl))
    have hend : nameOk x.f0 = true → gOk a s (nxt f t) x = areT x.f2 → Ev (fun k => spec_GoodGaps.j2 k a l l (l.length : Int) (p.length : Int) ((x.f2.length : Int) == 0) x.f0 x.f1 x.f2) (gOk a s (nxt f t) x && ring a f (some x.f0) t) := by
      intro hn h
      apply Ev.succ
      simp only [spec_GoodGaps.j2]
      by_cases h0 : x.f2.length = 0
      · refine Ev.pos (by simp [h0]) (Ev.const ?_)
        rw [h]
        simp [areT, h0]
      · refine Ev.neg (by simp; intro h; simp [h] at h0) (Ev.eq_ (specTypes_loop a l (p.length : Int) x.f0 x.f1 x.f2 hx.2.2 _ (by rw [w64 (by omega) (by omega)]; exact ih (some x.f0) ⟨by simp, fun q hq => by cases hq; exact hn⟩)) ?_)
        rw [h]
        have : 0 < x.f2.length := by omega
        simp only [areT, this, decide_true, Bool.true_and]
        cases tys none x.f2 <;> simp
    apply Ev.succ
    simp only [spec_GoodGaps.l0, rd_TGap, getD_mid e]
    rw [w64 (i := (p.length : Int) + 1) (by omega) (by omega), n3]
    refine Ev.pos hm.1 (Ev.pos (by omega) (Ev.pos hm.1 (Ev.bind' _ (specGoodName_eq x.f0 hx.1) ?_)))
    cases c1 : nameOk x.f0 with
    | false => exact Ev.ite_false (hbad (by simp [gOk, c1]))
    | true =>
      refine Ev.ite_true (Ev.cbind _ (specBelow_eq x.f0 a hx.1 ha) ?_)
      cases c2 : belowN x.f0 a with
      | false => exact Ev.ite_false (hbad (by simp [gOk, c2]))
      | true =>
        refine Ev.ite_true ?_
        rcases nil_or_snoc p with rfl | ⟨q, y, rfl⟩
        · subst hp
          refine Ev.neg (by simp) (Ev.neg (by omega) (Ev.pos n1 (Ev.pos n2 ?_)))
          by_cases c3 : x.f1.toList = (nxt f t).toList
          · refine Ev.pos c3 (hend c1 ?_)
            rw [toList_bts, toList_bts] at c3
            simp [gOk, c1, c2, c3, above]
          · refine Ev.neg c3 (hbad ?_)
            rw [toList_bts, toList_bts] at c3
            simp [gOk, c3]
        · have e2 : l = q ++ y :: (x :: t) := by rw [e]; simp
          have hq := len_mid e2
          have hy := hs y (mem_mid e2)
          have e3 : (((q ++ [y]).length : Nat) : Int) - 1 = (q.length : Int) := by simp
          have e4 : ((q ++ [y]).length : Int) > 0 := by simp only [List.length_append, List.length_cons, List.length_nil]; omega
          have hs2 : s = some y.f0 := by rw [hp]; simp
          subst hs2
          rw [w64 (i := ((q ++ [y]).length : Int) - 1) (by omega) (by omega), e3, getD_mid e2]
          refine Ev.pos e4 (Ev.pos (by omega) (Ev.pos hq.1 (Ev.bind' _ (specCompare_eq y.f0 x.f0 hy.1 hx.1 (nameOk_labels (hgood _ rfl)).1 (nameOk_labels c1).1) ?_)))
          by_cases c5 : cmpN y.f0 x.f0 ≥ 0
          · refine Ev.pos c5 (hbad ?_)
            have : ¬ cmpN y.f0 x.f0 < 0 := by omega
            simp [gOk, above, this]
          · have h5 : cmpN y.f0 x.f0 < 0 := by omega
            refine Ev.neg c5 (Ev.neg (by omega) (Ev.pos n1 (Ev.pos n2 ?_)))
            by_cases c3 : x.f1.toList = (nxt f t).toList
            · refine Ev.pos c3 (hend c1 ?_)
              rw [toList_bts, toList_bts] at c3
              simp [gOk, c1, c2, c3, above, h5]
            · refine Ev.neg c3 (hbad ?_)
              rw [toList_bts, toList_bts] at c3
              simp [gOk, c3]
end Go.Proofs.YthckpgglghfiiaaDoor.PL
end
section
/- GoodGaps: both come to the same. -/
set_option linter.unusedVariables false
set_option linter.unusedSimpArgs false
namespace Go.Proofs.YthckpgglghfiiaaDoor.PL
open Go.RowKit Go.Proofs.YthckpgglghfiiaaDoor.Pp Go.Proofs.YthckpgglghfiiaaDoor.PB Go.Proofs.YthckpgglghfiiaaDoorW.PrintWords Go.Proofs.YthckpgglghfiiaaDoorW.PrintLast
theorem specGoodGaps_eq (a : ByteArray) (l : List S_Gap) (ha : a.size ≤ 1048576) (hl : l.length ≤ 1048576) (hs : ∀ x ∈ l, szG x) : Ev (fun k => spec_GoodGaps.f k a l) (gaps a l) := by
  have hbad : gaps a l = false → Ev (fun k => spec_GoodGaps.j0 k a l true) (gaps a l) := by
    intro h
    apply Ev.succ
    simp only [spec_GoodGaps.j0]
    exact Ev.pos (by first | rfl | trivial) (Ev.const (by rw [h]))
  unfold spec_GoodGaps.f
  refine Ev.bind' _ (specGoodName_eq a ha) ?_
  cases c1 : nameOk a with
  | false => exact Ev.ite_false (hbad (by cases l <;> simp [gaps, c1]))
  | true =>
    refine Ev.ite_true (Ev.cbind _ (l1In_eq _ _ _) ?_)
    cases l with
    | nil => exact Ev.neg (by simp [inR]) (hbad (by simp [gaps]))
    | cons g t =>
      by_cases c2 : (g :: t).length ≤ 40
      · refine Ev.pos ?_ (Ev.pos (by simp only [List.length_cons]; omega) ?_)
        · simp only [inR, decide_eq_true_eq, Bool.and_eq_true]
          simp only [List.length_cons] at c2 ⊢
          omega
        · simp only [rd_TGap]
          apply Ev.succ
          simp only [spec_GoodGaps.j0]
          by_cases c3 : bts g.f0 = bts a
          · refine Ev.neg (by simp [toList_bts, c3]) (Ev.eq_ (specRing_eq a (g :: t) g.f0 (by simp) ha hl hs) ?_)
            simp only [gaps, c1, c2, c3, decide_true, Bool.true_and]
          · refine Ev.pos (by simp [toList_bts, c3]) (Ev.const ?_)
            simp [gaps, c3]
      · refine Ev.neg ?_ (hbad ?_)
        · simp only [inR, decide_eq_true_eq, Bool.and_eq_true]
          omega
        · have : decide ((g :: t).length ≤ 40) = false := decide_eq_false c2
          simp only [gaps, this, Bool.and_false, Bool.false_and]
theorem implGoodGaps_eq (a : ByteArray) (l : List S_Gap) (ha : a.size ≤ 1048576) (hl : l.length ≤ 1048576) (hs : ∀ x ∈ l, szG x) : Ev (fun k => impl_GoodGaps.f k a l) (gaps a l) := by
  have hbad : gaps a l = false → Ev (fun k => impl_GoodGaps.j0 k a l true) (gaps a l) := by
    intro h
    apply Ev.succ
    simp only [impl_GoodGaps.j0]
    exact Ev.pos (by first | rfl | trivial) (Ev.const (by rw [h]))
  unfold impl_GoodGaps.f
  refine Ev.bind' _ (implGoodName_eq a ha) ?_
  cases c1 : nameOk a with
  | false => exact Ev.ite_false (hbad (by cases l <;> simp [gaps, c1]))
  | true =>
    refine Ev.ite_true (Ev.cbind _ (within_eq _ _ _) ?_)
    cases l with
    | nil => exact Ev.neg (by simp [inR]) (hbad (by simp [gaps]))
    | cons g t =>
      by_cases c2 : (g :: t).length ≤ 40
      · refine Ev.pos ?_ (Ev.pos (by simp only [List.length_cons]; omega) ?_)
        · simp only [inR, decide_eq_true_eq, Bool.and_eq_true]
          simp only [List.length_cons] at c2 ⊢
          omega
        · simp only [rd_TGap]
          apply Ev.succ
          simp only [impl_GoodGaps.j0]
          by_cases c3 : bts g.f0 = bts a
          · refine Ev.neg (by simp [toList_bts, c3]) (Ev.eq_ (implRing_eq a (g :: t) g.f0 (by simp) ha hl hs) ?_)
            simp only [gaps, c1, c2, c3, decide_true, Bool.true_and]
          · refine Ev.pos (by simp [toList_bts, c3]) (Ev.const ?_)
            simp [gaps, c3]
      · refine Ev.neg ?_ (hbad ?_)
        · simp only [inR, decide_eq_true_eq, Bool.and_eq_true]
          omega
        · have : decide ((g :: t).length ≤ 40) = false := decide_eq_false c2
          simp only [gaps, this, Bool.and_false, Bool.false_and]
end Go.Proofs.YthckpgglghfiiaaDoor.PL
end
section
/- The law's mark of a number. -/
set_option linter.unusedVariables false
set_option linter.unusedSimpArgs false
namespace Go.Proofs.YthckpgglghfiiaaDoor.PL
open Go.RowKit Go.Proofs.YthckpgglghfiiaaDoor.Pp Go.Proofs.YthckpgglghfiiaaDoor.PB Go.Proofs.YthckpgglghfiiaaDoorW.PrintWords Go.Proofs.YthckpgglghfiiaaDoorW.PrintLast
theorem strOfNums_one (x : Int) : (strOfNums [x]).size = 1 := rfl
theorem markText_eq (a : Int) (h0 : 0 ≤ a) (h1 : a ≤ 4611686018427387904) : ∃ s, Ev (fun k => laws_markText.f k a) s := by
  have main : ∀ (n : Nat) (a : Int) (x : ByteArray), a.toNat ≤ n → 0 ≤ a → a ≤ 4611686018427387904 → x.size + a.toNat ≤ 4611686018427388904 → ∃ s, Ev (fun k => laws_markText.l0 k a x) s := by
    intro n
    induction n with
    | zero =>
      intro a x hn h0 h1 hx
      refine ⟨(⟨#[109]⟩ : ByteArray) ++ x, Ev.succ ?_⟩
      simp only [laws_markText.l0]
      exact Ev.neg (by omega) (Ev.pos (by omega) (Ev.const rfl))
    | succ n ih =>
      intro a x hn h0 h1 hx
      by_cases hp : a > 0
      · have hd : Int.tdiv a 10 = a / 10 := Int.tdiv_eq_ediv_of_nonneg h0
        have hd2 : a / 10 < a := by omega
        have hd3 : 0 ≤ a / 10 := by omega
        have hsz : (strOfNums [(wrap64 (48 + Int.tmod a 10)) % 256] ++ x).size = 1 + x.size := by rw [ByteArray.size_append, strOfNums_one]
        obtain ⟨s, hs⟩ := ih (a / 10) (strOfNums [(wrap64 (48 + Int.tmod a 10)) % 256] ++ x) (by omega) hd3 (by omega) (by rw [hsz]; omega)
        refine ⟨s, Ev.succ ?_⟩
        simp only [laws_markText.l0]
        refine Ev.pos hp (Ev.cbind _ rfl (Ev.pos (by rw [strOfNums_one]; omega) ?_))
        rw [hd, w64 (by omega) (by omega)]
        exact hs
      · refine ⟨(⟨#[109]⟩ : ByteArray) ++ x, Ev.succ ?_⟩
        simp only [laws_markText.l0]
        exact Ev.neg hp (Ev.pos (by omega) (Ev.const rfl))
  by_cases h : a ≤ 0
  · refine ⟨⟨#[109, 48]⟩, ?_⟩
    unfold laws_markText.f
    exact Ev.pos h (Ev.const rfl)
  · obtain ⟨s, hs⟩ := main a.toNat a ⟨#[]⟩ (Nat.le_refl _) h0 h1 (by have : (⟨#[]⟩ : ByteArray).size = 0 := rfl; omega)
    refine ⟨s, ?_⟩
    unfold laws_markText.f
    exact Ev.neg h hs
end Go.Proofs.YthckpgglghfiiaaDoor.PL
end
section
/- Lists of numbers: marked, and held against their marks. -/
set_option linter.unusedVariables false
set_option linter.unusedSimpArgs false
namespace Go.Proofs.YthckpgglghfiiaaDoor.PL
open Go.RowKit Go.Proofs.YthckpgglghfiiaaDoor.Pp Go.Proofs.YthckpgglghfiiaaDoor.PB Go.Proofs.YthckpgglghfiiaaDoorW.PrintWords Go.Proofs.YthckpgglghfiiaaDoorW.PrintLast
def marks (a : Int) : Nat → List Int
  | 0 => []
  | n + 1 => a :: marks (a + 1) n
theorem marks_length (a : Int) (n : Nat) : (marks a n).length = n := by
  induction n generalizing a with
  | zero => rfl
  | succ n ih => simp [marks, ih]
theorem marks_snoc (a : Int) (n : Nat) : marks a (n + 1) = marks a n ++ [a + n] := by
  induction n generalizing a with
  | zero => simp [marks]
  | succ n ih =>
    rw [marks, ih (a + 1)]
    simp [marks]
    omega
theorem markIntS_eq (l : List Int) (a : Int) (hl : l.length ≤ 1073741824) (h0 : 0 ≤ a) (h1 : a ≤ 4611686018427387904) : Ev (fun k => laws_markIntS.f k l a) (a + l.length, marks a l.length) := by
  unfold laws_markIntS.f
  refine Ev.congr (fun k => rfl) (loop_list l (fun k (s : Int × List Int) i => laws_markIntS.l0 k s.2 s.1 i) (fun s _ => (a + l.length, marks a l.length)) (fun p s => s.1 = a + p.length ∧ ∃ q, s.2 = marks a p.length ++ q ∧ s.2.length = l.length) ?_ ?_ (a, l) ⟨by simp, l, by simp [marks], rfl⟩)
  · rintro ⟨b, s⟩ ⟨hb, q, hs, hq⟩
    simp only at hb hs hq
    subst hb hs
    apply Ev.succ
    simp only [laws_markIntS.l0]
    have : q = [] := List.eq_nil_of_length_eq_zero (by simpa [marks_length] using hq)
    refine Ev.neg (by omega) (Ev.const ?_)
    simp [this]
  · rintro p x t ⟨b, s⟩ e ⟨hb, q, hs, hq⟩ ih
    simp only at hb hs hq
    subst hb hs
    have hm := len_mid e
    cases q with
    | nil => simp [marks_length] at hq; omega
    | cons y q =>
      apply Ev.succ
      simp only [laws_markIntS.l0]
      refine Ev.pos (by omega) (Ev.pos (by omega) ?_)
      rw [w64 (by omega) (by omega), w64 (by omega) (by omega)]
      have e2 : (marks a p.length ++ y :: q).set ((p.length : Int)).toNat (a + p.length) = marks a (p.length + 1) ++ q := by
        have := set_mid (marks a p.length) q (a + p.length) y
        rw [marks_length] at this
        rw [this, marks_snoc]
      rw [e2]
      exact ih (a + p.length + 1, marks a (p.length + 1) ++ q) ⟨by simp; omega, q, by simp, by simp [marks_length] at hq ⊢; omega⟩
theorem heldIntS_eq (n : Nat) (a : Int) (hl : n ≤ 1073741824) (h0 : 0 ≤ a) (h1 : a ≤ 4611686018427387904) : Ev (fun k => laws_heldIntS.f k (marks a n) a) (a + n) := by
  unfold laws_heldIntS.f
  refine Ev.eq_ (loop_list (marks a n) (fun k s i => laws_heldIntS.l0 k (marks a n) s i) (fun s t => a + n) (fun p s => s = a + p.length) ?_ ?_ a (by simp)) rfl
  · intro s hs
    apply Ev.succ
    simp only [laws_heldIntS.l0]
    refine Ev.neg (by omega) (Ev.const ?_)
    rw [hs, marks_length]
  · intro p x t s e hs ih
    have hm := len_mid e
    have hx : x = a + p.length := by
      have h2 : (marks a n)[p.length]? = some x := by rw [e]; simp
      have h3 : ∀ (n : Nat) (a : Int) (j : Nat), j < n → (marks a n)[j]? = some (a + j) := by
        intro n
        induction n with
        | zero => intro a j hj; omega
        | succ n ih =>
          intro a j hj
          cases j with
          | zero => simp [marks]
          | succ j => simp only [marks, List.getElem?_cons_succ]; rw [ih (a + 1) j (by omega)]; simp; omega
      rw [h3 n a p.length (by rw [marks_length] at hm; omega)] at h2
      exact (Option.some.inj h2).symm
    rw [marks_length] at hm
    apply Ev.succ
    simp only [laws_heldIntS.l0, rd_mid' e]
    refine Ev.pos (by rw [marks_length]; omega) (Ev.pos (by omega) (Ev.pos (by rw [hs, hx]) ?_))
    rw [w64 (by omega) (by omega), w64 (by omega) (by omega)]
    exact ih _ (by rw [hs]; simp; omega)
end Go.Proofs.YthckpgglghfiiaaDoor.PL
end
section
/- Rows of gaps: marked. -/
set_option linter.unusedVariables false
set_option linter.unusedSimpArgs false
namespace Go.Proofs.YthckpgglghfiiaaDoor.PL
open Go.RowKit Go.Proofs.YthckpgglghfiiaaDoor.Pp Go.Proofs.YthckpgglghfiiaaDoor.PB Go.Proofs.YthckpgglghfiiaaDoorW.PrintWords Go.Proofs.YthckpgglghfiiaaDoorW.PrintLast
theorem markGapK_eq (l : List S_Gap) (hl : l.length ≤ 1048576) (hs : ∀ x ∈ l, x.f2.length ≤ 1048576) (a : Int) (ha : 0 ≤ a) (hb : a ≤ 1073741824) : ∃ r l', Ev (fun k => laws_markGapS.f k l a) (r, l') ∧ a ≤ r := by
  unfold laws_markGapS.f
  have main : ∀ (t p : List S_Gap) (a : Int), (∀ x ∈ t, x.f2.length ≤ 1048576) → (p ++ t).length ≤ 1048576 → 0 ≤ a → a + 1048578 * t.length ≤ 4611686018427380000 → ∃ r t', Ev (fun k => laws_markGapS.l0 k (p ++ t) a (p.length : Int)) (r, p ++ t') ∧ a ≤ r := by
    intro t
    induction t with
    | nil =>
      intro p a _ hp ha hM
      refine ⟨a, [], ?_, Int.le_refl _⟩
      apply Ev.succ
      simp only [laws_markGapS.l0]
      exact Ev.neg (by simp) (Ev.const rfl)
    | cons x t ih =>
      intro p a hq hp ha hM
      have hx := hq x (by simp)
      have hlen : (((x :: t).length : Nat) : Int) = (t.length : Int) + 1 := by simp
      rw [hlen] at hM
      obtain ⟨s, hs⟩ := markText_eq a ha (by omega)
      obtain ⟨s2, hs2⟩ := markText_eq (a + 1) (by omega) (by omega)
      have hi := markIntS_eq x.f2 (a + 1 + 1) (by omega) (by omega) (by omega)
      obtain ⟨r, t', c1, c2⟩ := ih (p ++ [⟨s, s2, marks (a + 1 + 1) x.f2.length⟩]) (a + 1 + 1 + x.f2.length) (fun y hy => hq y (by simp [hy])) (by simpa using hp) (by omega) (by omega)
      refine ⟨r, ⟨s, s2, marks (a + 1 + 1) x.f2.length⟩ :: t', ?_, by omega⟩
      have hm := len_mid (l := p ++ x :: t) rfl
      apply Ev.succ
      simp only [laws_markGapS.l0, rd_TGap, getD_mid rfl]
      rw [w64 (i := (p.length : Int) + 1) (by omega) (by omega), w64 (i := a + 1) (by omega) (by omega), w64 (i := a + 1 + 1) (by omega) (by omega)]
      refine Ev.pos hm.1 (Ev.pos (by omega) (Ev.bind' _ hs (Ev.bind' _ hs2 (Ev.bind' _ hi ?_))))
      rw [set_mid]
      simpa using c1
  obtain ⟨r, t', h1, h2⟩ := main l [] a hs (by simpa using hl) ha (by omega)
  exact ⟨r, t', by simpa using h1, h2⟩
end Go.Proofs.YthckpgglghfiiaaDoor.PL
end
section
/- GapFor: both come to the same; gaps marked. -/
set_option linter.unusedVariables false
set_option linter.unusedSimpArgs false
namespace Go.Proofs.YthckpgglghfiiaaDoor.PL
open Go.RowKit Go.Proofs.YthckpgglghfiiaaDoor.Pp Go.Proofs.YthckpgglghfiiaaDoor.PB Go.Proofs.YthckpgglghfiiaaDoorW.PrintWords Go.Proofs.YthckpgglghfiiaaDoorW.PrintLast
/-- What the good gaps of a ring say of their owners. -/
theorem ring_own (a f : ByteArray) : ∀ (t : List S_Gap) (s : Option ByteArray), ring a f s t = true →
    (∀ g ∈ t, nameOk g.f0 = true) ∧ (t.map (fun g => g.f0)).Pairwise (fun x y => cmpN x y < 0) ∧ (∀ q, s = some q → ∀ g ∈ t, cmpN q g.f0 < 0) ∧ ∀ (i : Nat) (g : S_Gap), t[i]? = some g → bts g.f1 = bts (((t.drop (i + 1)).head?.map (fun h => h.f0)).getD f)
  | [], s, _ => by simp
  | g :: t, s, h => by
    have h : (gOk a s (nxt f t) g && ring a f (some g.f0) t) = true := h
    simp only [Bool.and_eq_true] at h
    obtain ⟨h1, h2⟩ := h
    unfold gOk at h1
    simp only [Bool.and_eq_true, decide_eq_true_eq] at h1
    obtain ⟨⟨⟨⟨n1, _⟩, n3⟩, _⟩, n5⟩ := h1
    obtain ⟨i1, i2, i3, i4⟩ := ring_own a f t (some g.f0) h2
    refine ⟨fun x hx => ?_, ?_, fun q hq x hx => ?_, fun i x hx => ?_⟩
    · rcases List.mem_cons.mp hx with rfl | hx
      · exact n1
      · exact i1 x hx
    · rw [List.map_cons, List.pairwise_cons]
      refine ⟨fun m hm => ?_, i2⟩
      obtain ⟨y, hy, rfl⟩ := List.mem_map.mp hm
      exact i3 g.f0 rfl y hy
    · subst hq
      have n5 : cmpN q g.f0 < 0 := by simpa [above] using n5
      rcases List.mem_cons.mp hx with rfl | hx
      · exact n5
      · exact cmpN_cmp.lt_trans n5 (i3 g.f0 rfl x hx)
    · cases i with
      | zero =>
        have : g = x := by simpa using hx
        subst this
        rw [n3]
        cases t with
        | nil => rfl
        | cons y t => rfl
      | succ i => exact i4 i x (by simpa using hx)
theorem gaps_ring {a : ByteArray} {l : List S_Gap} (h : gaps a l = true) : Ring (l.map (fun g => g.f0)) l ∧ (l.map (fun g => g.f0)).Pairwise (fun x y => cmpN x y < 0) ∧ (l.map (fun g => g.f0))[0]? = some a ∧ l.length ≤ 40 ∧ ∀ g ∈ l, nameOk g.f0 = true ∧ nameOk g.f1 = true := by
  cases l with
  | nil => cases h
  | cons g t =>
    have h : (nameOk a && decide ((g :: t).length ≤ 40) && decide (bts g.f0 = bts a) && ring a g.f0 none (g :: t)) = true := h
    simp only [Bool.and_eq_true, decide_eq_true_eq] at h
    obtain ⟨⟨⟨h1, h2⟩, h3⟩, h4⟩ := h
    obtain ⟨i1, i2, _, i4⟩ := ring_own a g.f0 (g :: t) none h4
    have hown : ∀ (i : Nat) (x : S_Gap), (g :: t)[i]? = some x → ((g :: t).map (fun g => g.f0))[(i + 1) % ((g :: t).map (fun g => g.f0)).length]? = some x.f1 := by
      intro i x hx
      have hb := i4 i x hx
      have hi := (List.getElem?_eq_some_iff.mp hx).1
      rw [List.length_map]
      by_cases hl : i + 1 < (g :: t).length
      · rw [Nat.mod_eq_of_lt hl, List.getElem?_map]
        rw [List.head?_drop, List.getElem?_eq_getElem hl] at hb
        rw [List.getElem?_eq_getElem hl]
        simp only [Option.map_some, Option.getD_some] at hb ⊢
        rw [bts_inj hb]
      · have he : i + 1 = (g :: t).length := by omega
        rw [he, Nat.mod_self]
        rw [he, List.head?_drop, List.getElem?_eq_none (Nat.le_refl _)] at hb
        simp only [Option.map_none, Option.getD_none] at hb
        rw [bts_inj hb]
        rfl
    refine ⟨⟨by rw [List.length_map], fun i x hx => ⟨by rw [List.getElem?_map, hx]; rfl, hown i x hx⟩⟩, i2, by rw [← bts_inj h3]; rfl, h2, fun x hx => ⟨i1 x hx, ?_⟩⟩
    obtain ⟨i, hi⟩ := List.mem_iff_getElem?.mp hx
    have := List.mem_of_getElem? (hown i x hi)
    obtain ⟨y, hy, e⟩ := List.mem_map.mp this
    rw [← e]
    exact i1 y hy
def gapForR (l : List S_Gap) (x : ByteArray) : S_Gap × Bool :=
  match l with
  | [] => (gapZ, false)
  | g :: t => if gaps g.f0 (g :: t) = true then (if nameOk x = true then (if belowN x g.f0 = true then ((((g :: t).find? (fun g => hitG g x)).getD gapZ), true) else (gapZ, false)) else (gapZ, false)) else (gapZ, false)
theorem gf0 {g : S_Gap} {t : List S_Gap} {x : ByteArray} (h : gaps g.f0 (g :: t) = false) : gapForR (g :: t) x = (gapZ, false) := by
  show (if gaps g.f0 (g :: t) = true then _ else _) = _
  rw [h]; rfl
theorem gf1 {g : S_Gap} {t : List S_Gap} {x : ByteArray} (h : gaps g.f0 (g :: t) = true) (h2 : nameOk x = false) : gapForR (g :: t) x = (gapZ, false) := by
  show (if gaps g.f0 (g :: t) = true then (if nameOk x = true then _ else _) else _) = _
  rw [h, h2]; rfl
theorem gf2 {g : S_Gap} {t : List S_Gap} {x : ByteArray} (h : gaps g.f0 (g :: t) = true) (h2 : nameOk x = true) (h3 : belowN x g.f0 = false) : gapForR (g :: t) x = (gapZ, false) := by
  show (if gaps g.f0 (g :: t) = true then (if nameOk x = true then (if belowN x g.f0 = true then _ else _) else _) else _) = _
  rw [h, h2, h3]; rfl
theorem gf3 {g : S_Gap} {t : List S_Gap} {x : ByteArray} (h : gaps g.f0 (g :: t) = true) (h2 : nameOk x = true) (h3 : belowN x g.f0 = true) : gapForR (g :: t) x = (((g :: t).find? (fun g => hitG g x)).getD gapZ, true) := by
  show (if gaps g.f0 (g :: t) = true then (if nameOk x = true then (if belowN x g.f0 = true then _ else _) else _) else _) = _
  rw [h, h2, h3]; rfl
section
variable (l : List S_Gap) (x : ByteArray) (hl : l.length ≤ 1048576) (hs : ∀ g ∈ l, szG g) (hx : x.size ≤ 1048576)
include hl hs hx
theorem implGapFor_eq : Ev (fun k => impl_GapFor.f k l x) ((gapForR l x).1.f0, (gapForR l x).1.f1, (gapForR l x).1.f2, (gapForR l x).2) := by
  unfold impl_GapFor.f
  cases l with
  | nil => exact Ev.pos (by simp) (Ev.const rfl)
  | cons g t =>
    have hg := hs g (by simp)
    have e0 : rd_TGap (g :: t) 0 = g := rfl
    simp only [e0]
    refine Ev.neg (by simp <;> omega) (Ev.pos (by simp <;> omega) (Ev.bind' _ (implGoodGaps_eq g.f0 (g :: t) hg.1 hl hs) ?_))
    cases h1 : gaps g.f0 (g :: t) with
    | false => exact Ev.ite_false (Ev.const (by rw [gf0 h1]; rfl))
    | true =>
      refine Ev.ite_true (Ev.bind' _ (implGoodName_eq x hx) ?_)
      cases h2 : nameOk x with
      | false => exact Ev.ite_false (Ev.const (by rw [gf1 h1 h2]; rfl))
      | true =>
        refine Ev.ite_true (Ev.cbind _ (implBelow_eq x g.f0 hx hg.1) ?_)
        cases h3 : belowN x g.f0 with
        | false => exact Ev.ite_false (Ev.const (by rw [gf2 h1 h2 h3]; rfl))
        | true => exact Ev.ite_true (Ev.bind' _ (gapFor_eq (g :: t) x hl hx hs) (Ev.const (by rw [gf3 h1 h2 h3])))
theorem specGapFor_eq : Ev (fun k => spec_GapFor.f k l x) ((gapForR l x).1.f0, (gapForR l x).1.f1, (gapForR l x).1.f2, (gapForR l x).2) := by
  unfold spec_GapFor.f
  have hno : ∀ r : ByteArray × ByteArray × List Int × Bool, r = (⟨#[]⟩, ⟨#[]⟩, [], false) → Ev (fun k => spec_GapFor.j0 k l x true) r := fun r hr => by
    apply Ev.succ
    simp only [spec_GapFor.j0]
    exact Ev.pos trivial (Ev.const (by rw [hr]))
  cases l with
  | nil => exact Ev.pos (by simp) (hno _ rfl)
  | cons g t =>
    have hg := hs g (by simp)
    have e0 : rd_TGap (g :: t) 0 = g := rfl
    simp only [e0]
    refine Ev.neg (by simp <;> omega) (Ev.pos (by simp <;> omega) (Ev.bind' _ (specGoodGaps_eq g.f0 (g :: t) hg.1 hl hs) ?_))
    cases h1 : gaps g.f0 (g :: t) with
    | false => exact Ev.ite_false (hno _ (by rw [gf0 h1]; rfl))
    | true =>
      refine Ev.ite_true (Ev.bind' _ (specGoodName_eq x hx) ?_)
      cases h2 : nameOk x with
      | false => exact Ev.ite_false (hno _ (by rw [gf1 h1 h2]; rfl))
      | true =>
        refine Ev.ite_true (Ev.cbind _ (specBelow_eq x g.f0 hx hg.1) ?_)
        cases h3 : belowN x g.f0 with
        | false => exact hno _ (by rw [gf2 h1 h2 h3]; rfl)
        | true =>
          obtain ⟨q1, q2, q3, q4, q5⟩ := gaps_ring h1
          obtain ⟨i, y, a1, a2, a3, a4⟩ := idx_find (fun g => hitG g x) (g :: t) (ring_any q1 q2 x g.f0 q3 (below_cmp h3))
          have hok : ∀ s : ByteArray, nameOk s = true → s.size ≤ 1048576 ∧ (labels s).all labelOk = true := fun s h => by
            obtain ⟨h6, h7⟩ := nameOk_labels h
            exact ⟨by rw [size_bts]; omega, h6⟩
          have f1 := l8For_eq (g :: t) x hl hx (nameOk_labels h2).1 (fun z hz => ⟨hok _ (q5 z hz).1, hok _ (q5 z hz).2⟩)
          rw [a1, if_pos (by omega)] at f1
          have i1 := (List.getElem?_eq_some_iff.mp a2).1
          have hig : rd_TGap (g :: t) (i : Int) = y := by
            show (g :: t).getD ((i : Int)).toNat _ = y
            rw [Int.toNat_natCast, List.getD_eq_getElem?_getD, a2]; rfl
          have hy := hs y (List.mem_of_getElem? a2)
          have own : spec_l8Own.f y.f0 y.f1 y.f2 = some (y.f0, y.f1, y.f2) := by
            have := hy.2.2
            unfold spec_l8Own.f
            rw [Option.bind_some, if_pos (by simp <;> omega)]
            simp
          apply Ev.succ
          simp only [spec_GapFor.j0]
          refine Ev.neg (by simp) (Ev.bind' _ f1 (Ev.pos (by omega) (Ev.pos (by omega) ?_)))
          rw [hig]
          exact Ev.cbind _ own (Ev.const (by rw [gf3 h1 h2 h3, a3]; rfl))
end
theorem gapForR_len (l : List S_Gap) (x : ByteArray) (hs : ∀ g ∈ l, szG g) : (gapForR l x).1.f2.length ≤ 1048576 := by
  have h0 : gapZ.f2.length ≤ 1048576 := by simp [gapZ]
  unfold gapForR
  cases l with
  | nil => exact h0
  | cons g t =>
    simp only
    split
    · split
      · split
        · cases hf : (g :: t).find? (fun g => hitG g x) with
          | none => exact h0
          | some y => exact (hs y (List.mem_of_find?_eq_some hf)).2.2
        · exact h0
      · exact h0
    · exact h0
theorem markGap_eq (a b : ByteArray) (l : List Int) (hl : l.length ≤ 1048576) : ∃ r l', Ev (fun k => laws_markGap.f k a b l 1) (r, l') ∧ Ev (fun k => laws_heldGap.f k a b l' 1) r ∧ 0 ≤ r := by
  have h1 := markIntS_eq l 1 (by omega) (by omega) (by omega)
  have h2 := heldIntS_eq l.length 1 (by omega) (by omega) (by omega)
  refine ⟨1 + l.length, marks 1 l.length, ?_, ?_, by omega⟩
  · unfold laws_markGap.f
    exact Ev.bind' _ h1 (Ev.const rfl)
  · unfold laws_heldGap.f
    exact Ev.bind' _ h2 (Ev.neg (by omega) (Ev.const rfl))
end Go.Proofs.YthckpgglghfiiaaDoor.PL
end
section
/- GapFor: the program answers as the reference does; what it hands out is its own. -/
set_option linter.unusedVariables false
set_option linter.unusedSimpArgs false
namespace Go.Proofs.YthckpgglghfiiaaDoor.Pure
open Go.RowKit Go.Proofs.YthckpgglghfiiaaDoor.Pp Go.Proofs.YthckpgglghfiiaaDoor.PB Go.Proofs.YthckpgglghfiiaaDoor.PL Go.Proofs.YthckpgglghfiiaaDoorW.PrintWords Go.Proofs.YthckpgglghfiiaaDoorW.PrintLast
theorem FnExactGapFor : laws_FnExactGapFor.Pure := by
  intro l x h hx
  refine Ev.get (g := fun k => laws_FnExactGapFor.f k l x) ?_
  unfold laws_FnExactGapFor.f
  by_cases hxs : (x.size : Int) > 1048576
  · exact Ev.pos hxs (Ev.const rfl)
  refine Ev.neg hxs ?_
  have hx2 : x.size ≤ 1048576 := by omega
  obtain ⟨t, ht, hs⟩ := szGapS_eq l h 1048576 (by omega) (by omega)
  refine Ev.bind' _ ht ?_
  rcases hs with hs | ⟨hs, _, hl, hb⟩
  · exact Ev.pos hs (Ev.const rfl)
  · have hto := toGapS_eq l hl hb
    have g1 : (l.map cGap).length ≤ 1048576 := by simpa using hl
    have g2 := szG_map hb
    have hsp := specGapFor_eq _ x g1 g2 hx2
    have him := implGapFor_eq _ x g1 g2 hx2
    have hln := gapForR_len (l.map cGap) x g2
    generalize gapForR (l.map cGap) x = R at hsp him hln
    have heq := eqGap_eq R.1.f0 R.1.f1 R.1.f2 hln
    have hea := eqGapS_eq _ g1 g2
    obtain ⟨r1, u1, a1, a2⟩ := markGapK_eq (l.map cGap) g1 (fun y hy => (g2 y hy).2.2) 1 (by omega) (by omega)
    obtain ⟨r2, u2, b1, b2, b3⟩ := markGap_eq R.1.f0 R.1.f1 R.1.f2 hln
    exact Ev.neg (by omega) (Ev.bind' _ hto (Ev.bind' _ hsp (Ev.bind' _ him (Ev.bind' _ heq (Ev.ite_true (Ev.pos rfl (Ev.bind' _ hea (Ev.ite_true (Ev.bind' _ a1 (Ev.neg (by omega) (Ev.bind' _ b1 (Ev.bind' _ b2 (Ev.neg (by omega) (Ev.pos rfl (Ev.neg (by omega) (Ev.const rfl))))))))))))))))
end Go.Proofs.YthckpgglghfiiaaDoor.Pure
end
