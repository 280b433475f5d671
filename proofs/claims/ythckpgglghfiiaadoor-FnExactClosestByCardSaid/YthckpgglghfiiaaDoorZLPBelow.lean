/- One name below another: the two come to the same. -/
import Derived.Test.YthckpgglghfiiaaDoorLPBytes
import Derived.Test.YthckpgglghfiiaaDoorJFnExactClosestBy0
import Derived.Test.YthckpgglghfiiaaDoorJFnExactClosestBy1
import Derived.Test.YthckpgglghfiiaaDoorJFnExactClosestBy2
set_option linter.unusedVariables false
set_option linter.unusedSimpArgs false
namespace Go.Proofs.YthckpgglghfiiaaDoor.PL
open Go.RowKit Go.Proofs.YthckpgglghfiiaaDoor.Pp Go.Proofs.YthckpgglghfiiaaDoor.PB Go.Proofs.YthckpgglghfiiaaDoorW.PrintWords Go.Proofs.YthckpgglghfiiaaDoorW.PrintLast
def belowN (a b : ByteArray) : Bool := decide (bts b = []) || decide (bts a = bts b) || (46 :: bts b).isSuffixOf (bts a)
theorem suffix_drop {α : Type} [BEq α] [LawfulBEq α] (l m : List α) : m.isSuffixOf l = (decide (m.length ≤ l.length) && (l.drop (l.length - m.length) == m)) := by
  rw [Bool.eq_iff_iff, List.isSuffixOf_iff_suffix]
  simp only [Bool.and_eq_true, decide_eq_true_eq, beq_iff_eq]
  constructor
  · rintro ⟨p, rfl⟩
    refine ⟨by simp, ?_⟩
    simp
  · rintro ⟨h1, h2⟩
    exact ⟨l.take (l.length - m.length), by rw [← h2, List.length_drop]; have : l.length - (l.length - (l.length - m.length)) = l.length - m.length := by omega
                                            rw [this]; exact List.take_append_drop _ _⟩
theorem specBelow_eq (a b : ByteArray) (ha : a.size ≤ 1048576) (hb : b.size ≤ 1048576) : spec_l1Below.f a b = some (belowN a b) := by
  have za := size_bts a
  have zb := size_bts b
  unfold spec_l1Below.f belowN
  simp only [toList_bts]
  by_cases h1 : bts b = []
  · rw [if_pos h1]; simp [h1]
  · rw [if_neg h1]
    by_cases h2 : bts a = bts b
    · rw [if_pos h2]; simp [h2]
    · rw [if_neg h2]
      have hn : (decide (bts b = []) || decide (bts a = bts b)) = false := by simp [h1, h2]
      rw [hn, Bool.false_or, suffix_drop]
      rw [w64 (i := (a.size : Int) - (b.size : Int)) (by omega) (by omega)]
      by_cases h3 : (a.size : Int) - (b.size : Int) > 0
      · rw [if_pos h3, if_pos (by omega), if_pos (by omega), w64 (i := (a.size : Int) - (b.size : Int) - 1) (by omega) (by omega)]
        obtain ⟨c, hc⟩ : ∃ c : Nat, a.size = b.size + (c + 1) := ⟨a.size - b.size - 1, by omega⟩
        have e1 : ((a.size : Int) - (b.size : Int)).toNat = c + 1 := by omega
        have e2 : (a.size : Int) - (b.size : Int) - 1 = (c : Int) := by omega
        have hl : (bts a).length = (bts b).length + (c + 1) := by omega
        obtain ⟨p, x, t, e, hp⟩ : ∃ p x t, bts a = p ++ x :: t ∧ p.length = c := by
          refine ⟨(bts a).take c, (bts a)[c]'(by omega), (bts a).drop (c + 1), ?_, by simp; omega⟩
          rw [List.getElem_cons_drop]
          exact (List.take_append_drop _ _).symm
        have hx : bt a (c : Int) = (x.toNat : Int) := by rw [← hp]; exact bt_mid e
        have ht : bts (a.extract (c + 1) a.size) = t := by
          rw [extract_bts, bts_mk, e, ← hp]
          have : p ++ x :: t = (p ++ [x]) ++ t := by simp
          rw [this, show p.length + 1 = (p ++ [x]).length from by simp, List.drop_left, List.take_of_length_le]
          have hz : (bts a).length = p.length + (t.length + 1) := by rw [e]; simp
          have hlp : (p ++ [x]).length = p.length + 1 := by simp
          omega
        have htl : t.length = (bts b).length := by
          have hz : (bts a).length = p.length + (t.length + 1) := by rw [e]; simp
          omega
        rw [e1, ht, e2, hx]
        have hd : (bts a).drop ((bts a).length - (46 :: bts b).length) = x :: t := by
          have : (bts a).length - (46 :: bts b).length = p.length := by simp; omega
          rw [this, e, List.drop_left]
        rw [hd]
        have hle : decide ((46 :: bts b).length ≤ (bts a).length) = true := decide_eq_true (by simp; omega)
        rw [hle, Bool.true_and]
        by_cases h4 : t = bts b
        · rw [if_pos h4, if_pos (by omega), if_pos (by omega)]
          congr 1
          rw [h4]
          by_cases h5 : x = 46
          · subst h5
            simp
          · have : ¬ ((x.toNat : Int) = 46) := by
              intro h
              apply h5
              apply UInt8.toNat_inj.mp
              have h46 : (46 : UInt8).toNat = 46 := rfl
              omega
            have a1 : (((x.toNat : Int)) == 46) = false := beq_eq_false_iff_ne.mpr this
            have a2 : (x == 46) = false := beq_eq_false_iff_ne.mpr h5
            simp [a1, a2]
        · rw [if_neg h4]
          simp [h4]
      · rw [if_neg h3]
        have hle : decide ((46 :: bts b).length ≤ (bts a).length) = false := decide_eq_false (by simp; omega)
        rw [hle, Bool.false_and]
theorem implBelow_eq (a b : ByteArray) (ha : a.size ≤ 1048576) (hb : b.size ≤ 1048576) : impl_isBelow.f a b = some (belowN a b) := by
  have za := size_bts a
  have zb := size_bts b
  unfold impl_isBelow.f belowN
  simp only [toList_bts]
  by_cases h2 : bts a = bts b
  · rw [if_pos h2]; simp [h2]
  · rw [if_neg h2]
    by_cases h1 : bts b = []
    · rw [if_pos h1]; simp [h1]
    · rw [if_neg h1, if_pos (by omega)]
      have hn : (decide (bts b = []) || decide (bts a = bts b)) = false := by simp [h1, h2]
      rw [hn, Bool.false_or, suffix_drop]
      have hs : bts ((⟨#[46]⟩ : ByteArray) ++ b) = 46 :: bts b := by
        unfold bts
        rw [ByteArray.data_append]
        simp
      have hz : ((⟨#[46]⟩ : ByteArray) ++ b).size = b.size + 1 := by rw [size_bts, hs]; simp; omega
      unfold strings_HasSuffix.f stringslite_HasSuffix.f
      by_cases h3 : (a.size : Int) ≥ (((⟨#[46]⟩ : ByteArray) ++ b).size : Int)
      · rw [if_pos h3]
        rw [hz] at h3
        rw [hz, w64 (i := (a.size : Int) - ((b.size + 1 : Nat) : Int)) (by omega) (by omega), if_pos (by omega), if_pos (by omega)]
        simp only [Option.bind_some]
        congr 1
        have e1 : ((a.size : Int) - ((b.size + 1 : Nat) : Int)).toNat = (bts a).length - (46 :: bts b).length := by simp; omega
        rw [e1, toList_bts, toList_bts, extract_bts, bts_mk, hs, List.take_of_length_le (by simp; omega)]
        have hle : decide ((46 :: bts b).length ≤ (bts a).length) = true := decide_eq_true (by simp; omega)
        rw [hle, Bool.true_and]
      · rw [if_neg h3]
        rw [hz] at h3
        have hle : decide ((46 :: bts b).length ≤ (bts a).length) = false := decide_eq_false (by simp; omega)
        rw [hle, Bool.false_and]
        rfl
end Go.Proofs.YthckpgglghfiiaaDoor.PL
