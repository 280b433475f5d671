/- The law's cursor: whatever the bytes are, it draws something in its range. -/
import Derived.Test.YtioeomjjfajldaaXBase
import Derived.Test.YtioeomjjfajldaaJFnTurns0
import Derived.Test.YtioeomjjfajldaaJFnTurns1
set_option linter.unusedVariables false
set_option linter.unusedSimpArgs false
namespace Go.Proofs.Ytioeomjjfajldaa.PL
open Go.RowKit Go.Proofs.Ytioeomjjfajldaa.Pp Go.Proofs.Ytioeomjjfajldaa.PB Go.Proofs.YtioeomjjfajldaaW.PrintWords Go.Proofs.YtioeomjjfajldaaW.PrintLast
def bytesOk (l : List Int) : Prop := True ∧ ∀ x ∈ l, 0 ≤ x ∧ x ≤ 255
theorem and255 (x : Int) : 0 ≤ Go.bits .and .u64 x 255 ∧ Go.bits .and .u64 x 255 ≤ 255 := by
  have h : (BitVec.ofInt 64 x &&& BitVec.ofInt 64 255).toNat ≤ 255 := by
    rw [BitVec.toNat_and]
    exact Nat.le_trans Nat.and_le_right (by decide)
  have e : Go.bits .and .u64 x 255 = IntKind.u64.wrap ((BitVec.ofInt 64 x &&& BitVec.ofInt 64 255).toNat : Int) := rfl
  rw [e]
  generalize (BitVec.ofInt 64 x &&& BitVec.ofInt 64 255).toNat = n at h
  have e2 : IntKind.u64.wrap (n : Int) = (n : Int) := by
    simp only [IntKind.wrap, IntKind.signed, IntKind.bits]
    first | omega | (simp; omega)
  rw [e2]
  omega
theorem next_ok {code : List Int} (hc : bytesOk code) (a s : Int) (h0 : 0 ≤ a) (h1 : a ≤ 1000000000000) : ∃ b s', spec_l1Cur_next.f code a s = some (b, a + 1, s') ∧ 0 ≤ b ∧ b ≤ 255 := by
  have h255 : ∀ x, 0 ≤ wrap64 (Go.bits .and .u64 x 255) ∧ wrap64 (Go.bits .and .u64 x 255) ≤ 255 := fun x => by
    have := and255 x
    rw [w64 (by omega) (by omega)]
    exact this
  unfold spec_l1Cur_next.f
  rw [w64 (i := a + 1) (by omega) (by omega)]
  by_cases h : a < (code.length : Int)
  · have hm : 0 ≤ rd code a ∧ rd code a ≤ 255 := by
      have e : rd code a = code.getD a.toNat 0 := rfl
      rw [e, List.getD_eq_getElem?_getD, List.getElem?_eq_getElem (by omega)]
      exact hc.2 _ (List.getElem_mem (by omega))
    rw [if_pos h, if_pos h0, if_pos (by omega), w64 (i := rd code a) (by omega) (by omega)]
    exact ⟨_, _, rfl, hm.1, hm.2⟩
  · rw [if_neg h, if_neg (by omega)]
    exact ⟨_, _, rfl, (h255 _).1, (h255 _).2⟩
theorem pick_ok {code : List Int} (hc : bytesOk code) (a s n : Int) (h0 : 0 ≤ a) (h1 : a ≤ 900000000000) (hn : n ≤ 65535) : ∃ x a' s', spec_l1Cur_pick.f code a s n = some (x, a', s') ∧ 0 ≤ x ∧ (1 ≤ n → x < n) ∧ a ≤ a' ∧ a' ≤ a + 2 := by
  unfold spec_l1Cur_pick.f
  by_cases h : n ≤ 1
  · rw [if_pos h]
    exact ⟨0, a, s, rfl, by omega, fun h2 => by omega, by omega, by omega⟩
  · rw [if_neg h]
    obtain ⟨b, s1, e1, b0, b1⟩ := next_ok hc a s h0 (by omega)
    rw [e1, Option.bind_some]
    by_cases h2 : n > 200
    · obtain ⟨d, s2, e2, d0, d1⟩ := next_ok hc (a + 1) s1 (by omega) (by omega)
      rw [if_pos h2]
      simp only [e2, Option.bind_some]
      rw [if_neg (by omega), w64 (i := b * 256) (by omega) (by omega), w64 (by omega) (by omega)]
      refine ⟨_, _, _, rfl, ?_, fun _ => ?_, by omega, by omega⟩
      · rw [Int.tmod_eq_emod_of_nonneg (by omega)]; exact Int.emod_nonneg _ (by omega)
      · rw [Int.tmod_eq_emod_of_nonneg (by omega)]; exact Int.emod_lt_of_pos _ (by omega)
    · rw [if_neg h2, if_neg (by omega)]
      refine ⟨Int.tmod b n, a + 1, s1, rfl, ?_, fun _ => ?_, by omega, by omega⟩
      · rw [Int.tmod_eq_emod_of_nonneg (by omega)]; exact Int.emod_nonneg _ (by omega)
      · rw [Int.tmod_eq_emod_of_nonneg (by omega)]; exact Int.emod_lt_of_pos _ (by omega)
theorem one_ok {code : List Int} (hc : bytesOk code) (a s n : Int) (h0 : 0 ≤ a) (h1 : a ≤ 900000000000) (hn : n ≤ 65535) : ∃ b a' s', spec_l1Cur_one.f code a s n = some (b, a', s') ∧ a ≤ a' ∧ a' ≤ a + 2 := by
  obtain ⟨x, a', s', e, _, _, h2, h3⟩ := pick_ok hc a s n h0 h1 hn
  unfold spec_l1Cur_one.f
  rw [e]
  exact ⟨_, _, _, rfl, h2, h3⟩
theorem among_ok {code : List Int} (hc : bytesOk code) (a s : Int) (l : List Int) (h0 : 0 ≤ a) (h1 : a ≤ 900000000000) (hl : 1 ≤ l.length) (hn : l.length ≤ 65535) : ∃ x a' s', spec_l1Cur_among.f code a s l = some (x, a', s') ∧ x ∈ l ∧ a ≤ a' ∧ a' ≤ a + 2 := by
  obtain ⟨x, a', s', e, x0, x1, h2, h3⟩ := pick_ok hc a s (l.length : Int) h0 h1 (by omega)
  unfold spec_l1Cur_among.f
  rw [e]
  simp only [Option.bind_some]
  rw [if_pos x0, if_pos (x1 (by omega))]
  refine ⟨_, _, _, rfl, ?_, h2, h3⟩
  have e : rd l x = l.getD x.toNat 0 := rfl
  have hx : x.toNat < l.length := by have := x1 (by omega); omega
  rw [e, List.getD_eq_getElem?_getD, List.getElem?_eq_getElem hx]
  exact List.getElem_mem hx
end Go.Proofs.Ytioeomjjfajldaa.PL
