/- Names: the reference's and the program's come to the same. -/
import Derived.Test.YthckpgglghfiiaaDoorLPBytes
import Derived.Test.YthckpgglghfiiaaDoorZLPIn
import Derived.Test.YthckpgglghfiiaaDoorJFnExactClosestBy0
import Derived.Test.YthckpgglghfiiaaDoorJFnExactClosestBy1
import Derived.Test.YthckpgglghfiiaaDoorJFnExactClosestBy2
import Derived.Test.YthckpgglghfiiaaDoorZLIdxstringstringGoodName1
set_option linter.unusedVariables false
set_option linter.unusedSimpArgs false
namespace Go.Proofs.YthckpgglghfiiaaDoor.PL
open Go.RowKit Go.Proofs.YthckpgglghfiiaaDoor.Pp Go.Proofs.YthckpgglghfiiaaDoor.PB Go.Proofs.YthckpgglghfiiaaDoorW.PrintWords Go.Proofs.YthckpgglghfiiaaDoorW.PrintLast
def okB (b : UInt8) : Bool := (decide (97 ≤ (b.toNat : Int)) && decide ((b.toNat : Int) ≤ 122)) || (decide (48 ≤ (b.toNat : Int)) && decide ((b.toNat : Int) ≤ 57)) || decide ((b.toNat : Int) = 45) || decide ((b.toNat : Int) = 95)
def labelOk (s : ByteArray) : Bool := decide (bts s = [42]) || ((bts s).all okB && inR (bts s).length 1 20)
def labels (s : ByteArray) : List ByteArray := if bts s = [] then [] else splitC 46 [] (bts s)
def nameOk (s : ByteArray) : Bool := decide ((bts s).length ≤ 60) && decide ((labels s).length ≤ 8) && (labels s).all labelOk

theorem specSplit_eq (s : ByteArray) (hs : s.size ≤ 1048576) : Ev (fun k => spec_l1Split.f k s 46) (splitC 46 [] (bts s)) := by
  unfold spec_l1Split.f
  have hz := size_bts s
  refine Ev.eq_ (loop_list (bts s) (fun k (st : List ByteArray × Nat × List UInt8) i => spec_l1Split.l0 k s 46 st.1 st.2.1 i) (fun st t => st.1 ++ splitC 46 st.2.2 t) (fun p st => st.2.1 ≤ p.length ∧ st.2.2 = p.drop st.2.1 ∧ st.1.length ≤ p.length) ?_ ?_ ([], 0, []) ⟨Nat.zero_le _, rfl, Nat.zero_le _⟩) (by simp)
  · rintro ⟨acc, fr, cur⟩ ⟨h1, h2, h3⟩
    apply Ev.succ
    simp only [spec_l1Split.l0]
    simp only at h1 h2 h3
    refine Ev.neg (by omega) (Ev.pos (by omega) (Ev.pos (by omega) (Ev.pos (by omega) (Ev.const ?_))))
    simp only [splitC]
    rw [extract_bts, h2]
    congr 4
    rw [List.take_of_length_le]
    · simp
    · simp [hz]
  · rintro p b t ⟨acc, fr, cur⟩ e ⟨h1, h2, h3⟩ ih
    have hm := len_mid e
    simp only at h1 h2 h3
    apply Ev.succ
    simp only [spec_l1Split.l0]
    refine Ev.pos (by omega) (Ev.pos (by omega) ?_)
    rw [bt_mid e, w64 (i := (p.length : Int) + 1) (by omega) (by omega)]
    by_cases hb : b = 46
    · subst hb
      refine Ev.pos (by decide) (Ev.pos (by omega) (Ev.pos (by omega) (Ev.pos (by omega) (Ev.pos (by omega) ?_))))
      have hx : s.extract ((fr : Nat) : Int).toNat ((p.length : Nat) : Int).toNat = ⟨cur.toArray⟩ := by
        rw [extract_bts, h2]
        congr 2
        rw [e]
        simp only [Int.toNat_natCast]
        rw [List.drop_append_of_le_length h1, List.take_append_of_le_length (by simp), List.take_of_length_le (by simp)]
      rw [hx]
      have hc : ((p.length : Int) + 1) = (((p.length + 1 : Nat)) : Int) := by omega
      refine Ev.eq_ (ih (acc ++ [⟨cur.toArray⟩], p.length + 1, []) ⟨by simp, by simp, by simp; omega⟩) ?_
      simp [splitC]
    · have : ¬ ((b.toNat : Int) = 46) := by
        intro h
        apply hb
        apply UInt8.toNat_inj.mp
        have h46 : (46 : UInt8).toNat = 46 := rfl
        omega
      refine Ev.neg this ?_
      refine Ev.eq_ (ih (acc, fr, cur ++ [b]) ⟨by simp; omega, ?_, by simp; omega⟩) ?_
      · simp only
        rw [h2, List.drop_append_of_le_length h1]
      · simp [splitC, hb]

theorem genSplit_loop (n : Nat) (hn : n ≤ 1048576) : ∀ (m : Nat) (s : ByteArray) (A B : List ByteArray), s.size ≤ 1048576 → Go.Lib.countByte (bts s) 46 = m → A.length + m = n → A.length + B.length = n + 1 →
    Ev (fun k => strings_genSplit.l0 k s (⟨#[46]⟩ : ByteArray) 0 (n : Int) (A ++ B) (A.length : Int)) (A ++ splitC 46 [] (bts s))
  | 0, s, A, B, hs, hc, hA, hB => by
    obtain ⟨hnone, _⟩ := index_none _ _ hc
    apply Ev.succ
    simp only [strings_genSplit.l0]
    have hl : (A ++ B).length = n + 1 := by simp; omega
    refine Ev.neg (by omega) (Ev.pos (by omega) (Ev.pos (by rw [hl]; omega) ?_))
    rw [w64 (i := (A.length : Int) + 1) (by omega) (by omega)]
    refine Ev.pos (by omega) (Ev.pos (by rw [hl]; omega) (Ev.const ?_))
    rw [splitC_none _ _ _ hnone]
    obtain ⟨b, B', rfl⟩ : ∃ b B', B = b :: B' := by
      cases B with
      | nil => simp at hB; omega
      | cons b B' => exact ⟨b, B', rfl⟩
    rw [set_mid]
    have : (((A.length : Int) + 1)).toNat = (A ++ [s]).length := by simp <;> omega
    rw [this, List.take_left']
    · simp [mk_bts]
    · rfl
  | m + 1, s, A, B, hs, hc, hA, hB => by
    obtain ⟨pre, post, e, hm, hi, hc2⟩ := index_some (bts s) 46 (by omega)
    have hz := size_bts s
    have hlen : (bts s).length = pre.length + (post.length + 1) := by rw [e]; simp
    apply Ev.succ
    simp only [strings_genSplit.l0]
    have hl : (A ++ B).length = n + 1 := by simp; omega
    refine Ev.pos (by omega) (Ev.cbind (pre.length : Int) ?_ ?_)
    · unfold strings_Index.f
      rw [if_pos (by rfl)]
      exact congrArg some hi
    · refine Ev.neg (by omega) ?_
      have hsz1 : ((⟨#[46]⟩ : ByteArray).size : Int) = 1 := rfl
      rw [hsz1, Int.add_zero, w64 (i := (pre.length : Int)) (by omega) (by omega), w64 (i := (pre.length : Int) + 1) (by omega) (by omega), w64 (i := (A.length : Int) + 1) (by omega) (by omega)]
      refine Ev.pos (by omega) (Ev.pos (by omega) (Ev.pos (by omega) (Ev.pos (by rw [hl]; omega) (Ev.pos (by omega) (Ev.pos (by omega) ?_)))))
      obtain ⟨b, B', rfl⟩ : ∃ b B', B = b :: B' := by
        cases B with
        | nil => simp at hB; omega
        | cons b B' => exact ⟨b, B', rfl⟩
      rw [set_mid]
      have hx1 : s.extract 0 ((pre.length : Int)).toNat = ⟨pre.toArray⟩ := by
        rw [extract_bts]
        congr 2
        rw [e]
        simp
      have hx2 : s.extract (((pre.length : Int) + 1)).toNat s.size = ⟨post.toArray⟩ := by
        rw [extract_bts]
        congr 2
        have e' : bts s = (pre ++ [46]) ++ post := by simpa using e
        have h1 : (((pre.length : Int) + 1)).toNat = (pre ++ [46]).length := by simp <;> omega
        rw [e', h1, List.drop_left, List.take_of_length_le]
        simp at hlen ⊢
        omega
      rw [hx1, hx2]
      have hb1 : bts (⟨post.toArray⟩ : ByteArray) = post := bts_mk post
      have hb2 : (⟨post.toArray⟩ : ByteArray).size = post.length := by rw [size_bts, hb1]
      have := genSplit_loop n hn m ⟨post.toArray⟩ (A ++ [⟨pre.toArray⟩]) B' (by omega) (by rw [hb1]; omega) (by simp; omega) (by simp at hB ⊢; omega)
      have hcast : (((A ++ [(⟨pre.toArray⟩ : ByteArray)]).length : Nat) : Int) = (A.length : Int) + 1 := by simp
      rw [hcast] at this
      refine Ev.eq_ this ?_
      rw [hb1, e, splitC_pre _ _ _ _ hm]
      simp
theorem strSplit_eq (s : ByteArray) (hs : s.size ≤ 1048576) : Ev (fun k => strings_Split.f k s (⟨#[46]⟩ : ByteArray)) (splitC 46 [] (bts s)) := by
  unfold strings_Split.f strings_genSplit.f
  have hz := size_bts s
  have hcl := count_le (bts s) 46
  refine Ev.bind' _ (Ev.neg (by omega) (Ev.neg (by rw [toList_bts]; decide) (Ev.pos (by omega) (Ev.cbind (Go.Lib.countByte (bts s) 46 : Int) (by unfold strings_Count.f; rw [if_pos (by rfl)]; rfl) ?_)))) (Ev.const rfl)
  apply Ev.succ
  simp only [strings_genSplit.j0]
  rw [w64 (i := ((Go.Lib.countByte (bts s) 46 : Nat) : Int) + 1) (by omega) (by omega), w64 (i := (s.size : Int) + 1) (by omega) (by omega)]
  have hmn : mn (((Go.Lib.countByte (bts s) 46 : Nat) : Int) + 1) ((s.size : Int) + 1) = ((Go.Lib.countByte (bts s) 46 + 1 : Nat) : Int) := by
    unfold mn
    split <;> omega
  rw [hmn]
  rw [w64 (i := ((Go.Lib.countByte (bts s) 46 + 1 : Nat) : Int) - 1) (by omega) (by omega)]
  refine Ev.pos (by omega) (Ev.pos (by omega) ?_)
  have h1 : (((Go.Lib.countByte (bts s) 46 + 1 : Nat) : Int) - 1) = ((Go.Lib.countByte (bts s) 46 : Nat) : Int) := by omega
  rw [h1]
  have := genSplit_loop (Go.Lib.countByte (bts s) 46) (by omega) _ s [] (List.replicate ((Go.Lib.countByte (bts s) 46 + 1 : Nat) : Int).toNat (⟨#[]⟩ : ByteArray)) hs rfl (by simp) (by simp)
  simpa using this
theorem okB_in (b : UInt8) : ([97, 98, 99, 100, 101, 102, 103, 104, 105, 106, 107, 108, 109, 110, 111, 112, 113, 114, 115, 116, 117, 118, 119, 120, 121, 122, 48, 49, 50, 51, 52, 53, 54, 55, 56, 57, 45, 95] : List UInt8).contains b = okB b :=
  all8 (fun b => ([97, 98, 99, 100, 101, 102, 103, 104, 105, 106, 107, 108, 109, 110, 111, 112, 113, 114, 115, 116, 117, 118, 119, 120, 121, 122, 48, 49, 50, 51, 52, 53, 54, 55, 56, 57, 45, 95] : List UInt8).contains b) okB (by decide +kernel) b
theorem isLabel_eq (s : ByteArray) (hs : s.size ≤ 1048576) : impl_isLabel.f s = some (labelOk s) := by
  have hz := size_bts s
  unfold impl_isLabel.f labelOk
  rw [toList_bts]
  by_cases h : bts s = [42]
  · rw [if_pos h]; simp [h]
  · rw [if_neg h, within_eq]
    simp only [Option.bind_some, h, decide_false, Bool.false_or]
    rw [hz]
    cases hr : inR ((bts s).length : Int) 1 20 with
    | false => simp
    | true =>
      simp only [if_true, Bool.and_true]
      unfold strings_Trim.f
      rw [if_pos ⟨by omega, by decide, by decide +kernel⟩]
      simp only [Option.bind_some]
      congr 1
      rw [toList_bts, bts_mk, trimS_nil]
      congr 1
      funext b
      exact okB_in b
theorem specLabel_eq (s : ByteArray) (hs : s.size ≤ 1048576) : Ev (fun k => spec_l1Label.f k s) (labelOk s) := by
  have hz := size_bts s
  unfold spec_l1Label.f labelOk
  rw [toList_bts]
  by_cases h : bts s = [42]
  · exact Ev.pos h (Ev.const (by simp [h]))
  · refine Ev.neg h ?_
    refine Ev.eq_ (loop_list (bts s) (fun k (_ : Unit) i => spec_l1Label.l0 k s i) (fun _ t => t.all okB && inR (bts s).length 1 20) (fun _ _ => True) ?_ ?_ () trivial) (by simp [h])
    · intro _ _
      apply Ev.succ
      simp only [spec_l1Label.l0]
      refine Ev.neg (by omega) (Ev.cbind _ (l1In_eq _ _ _) (Ev.const (by simp [hz])))
    · intro p b t _ e _ ih
      have hm := len_mid e
      apply Ev.succ
      simp only [spec_l1Label.l0]
      refine Ev.pos (by omega) (Ev.pos (by omega) ?_)
      rw [bt_mid e, w64 (i := (p.length : Int) + 1) (by omega) (by omega)]
      have hgo := ih () trivial
      have hb := b.toNat_lt
      have key : ∀ (g : Nat → Option Bool), (okB b = true → Ev g (t.all okB && inR (bts s).length 1 20)) → (okB b = false → Ev g false) → Ev g ((b :: t).all okB && inR (bts s).length 1 20) := by
        intro g h1 h2
        cases ho : okB b with
        | true => simpa [ho] using h1 ho
        | false => simpa [ho] using h2 ho
      refine key _ (fun ho => ?_) (fun ho => ?_)
      · simp only [okB, Bool.or_eq_true, Bool.and_eq_true, decide_eq_true_eq] at ho
        by_cases c1 : (b.toNat : Int) ≥ 97
        · refine Ev.pos c1 ?_
          by_cases c2 : (b.toNat : Int) ≤ 122
          · exact Ev.pos c2 hgo
          · refine Ev.neg c2 (Ev.pos (by omega) (Ev.neg (by omega) (Ev.neg (by omega) (Ev.neg (by omega) ?_))))
            omega
        · refine Ev.neg c1 ?_
          by_cases c3 : (b.toNat : Int) ≥ 48
          · refine Ev.pos c3 ?_
            by_cases c4 : (b.toNat : Int) ≤ 57
            · exact Ev.pos c4 hgo
            · refine Ev.neg c4 ?_
              by_cases c5 : (b.toNat : Int) = 45
              · exact Ev.pos c5 hgo
              · exact Ev.neg c5 (Ev.pos (by omega) hgo)
          · refine Ev.neg c3 ?_
            by_cases c5 : (b.toNat : Int) = 45
            · exact Ev.pos c5 hgo
            · exact Ev.neg c5 (Ev.pos (by omega) hgo)
      · simp only [okB, Bool.or_eq_false_iff, Bool.and_eq_false_iff, decide_eq_false_iff_not] at ho
        by_cases c1 : (b.toNat : Int) ≥ 97
        · exact Ev.pos c1 (Ev.neg (by omega) (Ev.pos (by omega) (Ev.neg (by omega) (Ev.neg (by omega) (Ev.neg (by omega) (Ev.const rfl))))))
        · refine Ev.neg c1 ?_
          by_cases c3 : (b.toNat : Int) ≥ 48
          · exact Ev.pos c3 (Ev.neg (by omega) (Ev.neg (by omega) (Ev.neg (by omega) (Ev.const rfl))))
          · exact Ev.neg c3 (Ev.neg (by omega) (Ev.neg (by omega) (Ev.const rfl)))
theorem splitC_sizes (c : UInt8) : ∀ (l cur : List UInt8), ∀ x ∈ splitC c cur l, x.size ≤ cur.length + l.length
  | [], cur, x, h => by
    simp only [splitC, List.mem_singleton] at h
    subst h
    rw [size_bts, bts_mk]
    simp
  | b :: l, cur, x, h => by
    unfold splitC at h
    split at h
    · rcases List.mem_cons.mp h with rfl | h2
      · rw [size_bts, bts_mk]; simp
      · have := splitC_sizes c l [] x h2
        simp at this ⊢
        omega
    · have := splitC_sizes c l (cur ++ [b]) x h
      simp at this ⊢
      omega
theorem specLabels_eq (s : ByteArray) (hs : s.size ≤ 1048576) : Ev (fun k => spec_l1Labels.f k s) (if (labels s).all labelOk = true then (labels s, decide ((bts s).length ≤ 60) && decide ((labels s).length ≤ 8)) else ([], false)) := by
  have hz := size_bts s
  unfold spec_l1Labels.f
  rw [toList_bts]
  by_cases h : bts s = []
  · refine Ev.pos h (Ev.const ?_)
    have : labels s = [] := by unfold labels; rw [if_pos h]
    simp [this, h]
  · have hlab : labels s = splitC 46 [] (bts s) := by unfold labels; rw [if_neg h]
    rw [hlab]
    refine Ev.neg h (Ev.bind' _ (specSplit_eq s hs) ?_)
    have hlen := splitC_len 46 (bts s) []
    have hsz := splitC_sizes 46 (bts s) []
    generalize splitC 46 [] (bts s) = L at hlen hsz
    refine Ev.eq_ (loop_list L (fun k (_ : Unit) i => spec_l1Labels.l0 k s L L (L.length : Int) i) (fun _ t => if t.all labelOk = true then (L, decide ((bts s).length ≤ 60) && decide (L.length ≤ 8)) else ([], false)) (fun _ _ => True) ?_ ?_ () trivial) rfl
    · intro _ _
      apply Ev.succ
      simp only [spec_l1Labels.l0]
      refine Ev.neg (by omega) ?_
      by_cases h60 : (s.size : Int) ≤ 60
      · refine Ev.pos h60 (Ev.const ?_)
        have : (bts s).length ≤ 60 := by omega
        simp [this]
        omega
      · refine Ev.neg h60 (Ev.const ?_)
        have : ¬ (bts s).length ≤ 60 := by omega
        simp [this]
    · intro p x t _ e _ ih
      have hm := len_mid e
      have hx : x.size ≤ 1048576 := by have := hsz x (mem_mid e); simp at this; omega
      apply Ev.succ
      simp only [spec_l1Labels.l0, rdOf_mid e]
      refine Ev.pos hm.1 (Ev.pos (by omega) (Ev.pos hm.1 (Ev.bind' _ (specLabel_eq x hx) ?_)))
      cases hl : labelOk x with
      | false => exact Ev.ite_false (Ev.const (by simp [hl]))
      | true =>
        refine Ev.ite_true ?_
        rw [w64 (i := (p.length : Int) + 1) (by omega) (by omega)]
        refine Ev.eq_ (ih () trivial) ?_
        simp [hl]
theorem specGoodName_eq (s : ByteArray) (hs : s.size ≤ 1048576) : Ev (fun k => spec_GoodName.f k s) (nameOk s) := by
  unfold spec_GoodName.f nameOk
  refine Ev.bind' _ (specLabels_eq s hs) (Ev.const ?_)
  cases (labels s).all labelOk <;> simp
theorem labelsOf_eq (s : ByteArray) (hs : s.size ≤ 1048576) : Ev (fun k => impl_labelsOf.f k s) (labels s) := by
  unfold impl_labelsOf.f labels
  rw [toList_bts]
  by_cases h : bts s = []
  · exact Ev.pos h (Ev.const (by rw [if_pos h]))
  · rw [if_neg h]
    exact Ev.neg h (Ev.bind' _ (strSplit_eq s hs) (Ev.const rfl))
theorem labels_len (s : ByteArray) : (labels s).length ≤ s.size + 1 := by
  have hz := size_bts s
  unfold labels
  split
  · simp
  · have := splitC_len 46 (bts s) []; omega
theorem labels_sizes (s : ByteArray) : ∀ x ∈ labels s, x.size ≤ s.size := by
  have hz := size_bts s
  unfold labels
  split
  · simp
  · intro x hx
    have := splitC_sizes 46 (bts s) [] x hx
    simp at this
    omega
theorem implGoodName_eq (s : ByteArray) (hs : s.size ≤ 1048576) : Ev (fun k => impl_GoodName.f k s) (nameOk s) := by
  have hz := size_bts s
  have hll := labels_len s
  have hls := labels_sizes s
  unfold impl_GoodName.f nameOk
  by_cases h : (s.size : Int) > 60
  · refine Ev.pos h (Ev.const ?_)
    have : ¬ (bts s).length ≤ 60 := by omega
    simp [this]
  · refine Ev.neg h (Ev.bind' _ (labelsOf_eq s hs) ?_)
    have h60 : (bts s).length ≤ 60 := by omega
    by_cases h8 : ((labels s).length : Int) ≤ 8
    · refine Ev.pos h8 (Ev.bind' _ (slices_ContainsFunc_string_string_GoodName_1.any (labels s) (fun x => !labelOk x) (by omega) ?_) (Ev.const ?_))
      · intro x hx
        unfold impl_GoodName_1.f
        exact Ev.cbind _ (isLabel_eq x (by have := hls x hx; omega)) (Ev.const rfl)
      · have h8' : (labels s).length ≤ 8 := by omega
        rw [any_not]
        simp [h60, h8']
    · refine Ev.neg h8 (Ev.const ?_)
      have h8' : ¬ (labels s).length ≤ 8 := by omega
      simp [h8']
end Go.Proofs.YthckpgglghfiiaaDoor.PL
