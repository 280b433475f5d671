/- The functions that the law reaches, one Lean function and its proof for each; written by wip/pp of this workplace, joined by claimit.py. -/
import Derived.Test.YthohohfmdieohaaGreatDoorProg
import Derived.Below
import Derived.Deep.Draws
import Derived.Deep.AppendLies
import Derived.Maps.AppendAt
import Derived.OwnWalk
import Derived.Laws.BytesArg
import Derived.Laws.MakeOwn
import Derived.Laws.OwnMore
import Derived.Deep.OwnRows
import Derived.Tactics
import Derived.Lib.ConvBytes
import Derived.Laws.Slices
import Derived.WalkKit
import Derived.KernelRfl
import Derived.RowKit3
import Derived.Deep.LoopGhost
import Derived.Deep.QuietTactic
import Derived.BigQuiet
import Derived.WideLaws
import Derived.Deep.DeepCutAuto
import Derived.Deep.CutBlock
import Derived.Deep.RegionHeld3
import Derived.Laws.Rows
import Derived.Lib.AppendStr
import Derived.ArgAppend
import Derived.Laws.IdiomCopy
import Derived.OrdersHeld
import Derived.Laws.BitsLemmas
import Derived.RowKit
import Derived.Test.YthohohfmdieohaaGreatDoorKFnExactOldestInW
import Derived.Test.YthohohfmdieohaaGreatDoorJFnExactOldestIn0
namespace Go.Proofs.YthohohfmdieohaaGreatDoor.Pp
open Go.RowKit Go.Proofs.YthohohfmdieohaaGreatDoorW.PrintWords Go.Proofs.YthohohfmdieohaaGreatDoorW.PrintLast Go.Proofs.YthohohfmdieohaaGreatDoorW.PrintMore
attribute [local go_sem] max2_int min2_int max_two min_two max_three min_three max_four min_four   -- for this text's walks alone
set_option linter.unusedVariables false
set_option linter.unusedSimpArgs false
set_option maxHeartbeats 8000000
set_option maxRecDepth 100000

section
/-! ### spec_l3Bytes: function 160 -/
mutual
def spec_l3Bytes.l0 : Nat → ByteArray → List ByteArray → List ByteArray → Int → Int → Option (ByteArray × Bool)
 | 0, _, _, _, _, _ => none
 | k + 1, x6, x7, x19, x20, x21 => if x21 < x20 then (if 0 ≤ x21 then (if x21 < (x19.length : Int) then ((spec_l1Int.f k (rdOf ByteArray.empty x19 x21)).bind fun t163 => ((spec_l1In.f t163 0 255).bind fun t164 => (if t164 = true then ((spec_l3Number.f k t163 1).bind fun t165 => (if x6.size + t165.size ≤ 9223372036854775807 then (spec_l3Bytes.l0 k (x6 ++ t165) x7 x19 x20 (wrap64 (x21 + 1))) else (none))) else (some ((⟨#[]⟩ : ByteArray), false))))) else (none)) else (none)) else (some (x6, ((x7.length : Int) == 4)))
def spec_l3Bytes.j1 : Nat → ByteArray → Int → Bool → Option (ByteArray × Bool)
 | 0, _, _, _ => none
 | k + 1, x1, x14, x39 => if x39 = true then ((spec_l3Target.f k x1).bind fun t166 => (if t166 = true then ((spec_l2Bytes.f k x1).bind fun t167 => (some (t167, true))) else (some ((⟨#[]⟩ : ByteArray), false)))) else (if x14 = 6 then ((spec_l1Int.f k x1).bind fun t168 => ((spec_l3Number.f k t168 4).bind fun t169 => ((spec_l1In.f t168 0 4294967295).bind fun t170 => (some (t169, t170))))) else (if x14 = 15 then ((spec_l1Split.f k x1 32).bind fun t171 => (if (t171.length : Int) = 2 then (if 0 < (t171.length : Int) then ((spec_l1Int.f k (rdOf ByteArray.empty t171 0)).bind fun t175 => ((spec_l1In.f t175 0 65535).bind fun t176 => (if t176 = true then (if 1 < (t171.length : Int) then ((spec_l3Target.f k (rdOf ByteArray.empty t171 1)).bind fun t178 => (spec_l3Bytes.j2 k t171 (!t178))) else (none)) else (spec_l3Bytes.j2 k t171 true)))) else (none)) else (spec_l3Bytes.j2 k t171 true))) else (if x14 = 16 then (spec_l3Bytes.l1 k x1 0) else (some ((⟨#[]⟩ : ByteArray), false)))))
def spec_l3Bytes.j2 : Nat → List ByteArray → Bool → Option (ByteArray × Bool)
 | 0, _, _ => none
 | k + 1, x12, x76 => if x76 = true then (some ((⟨#[]⟩ : ByteArray), false)) else (if 0 < (x12.length : Int) then ((spec_l1Int.f k (rdOf ByteArray.empty x12 0)).bind fun t180 => ((spec_l3Number.f k t180 2).bind fun t181 => (if 1 < (x12.length : Int) then ((spec_l2Bytes.f k (rdOf ByteArray.empty x12 1)).bind fun t183 => (if t181.size + t183.size ≤ 9223372036854775807 then (some (t181 ++ t183, true)) else (none))) else (none)))) else (none))
def spec_l3Bytes.l1 : Nat → ByteArray → Int → Option (ByteArray × Bool)
 | 0, _, _ => none
 | k + 1, x1, x13 => if x13 < (x1.size : Int) then (if 0 ≤ x13 then (if (bt x1 x13) < 32 then (some ((⟨#[]⟩ : ByteArray), false)) else (if (bt x1 x13) > 126 then (some ((⟨#[]⟩ : ByteArray), false)) else (spec_l3Bytes.l1 k x1 (wrap64 (x13 + 1))))) else (none)) else ((some (([((x1.size : Int)) % 256] : List Int) : List Int)).bind fun y184 => (if (strOfNums y184).size + x1.size ≤ 9223372036854775807 then (some ((strOfNums y184) ++ x1, decide ((x1.size : Int) ≤ 30))) else (none)))
end
def spec_l3Bytes.f (k : Nat) (a0 : Int) (a1 : ByteArray) : Option (ByteArray × Bool) := if a0 = 1 then ((spec_l1Split.f k a1 46).bind fun t159 => (spec_l3Bytes.l0 k (⟨#[]⟩ : ByteArray) t159 t159 (t159.length : Int) 0)) else (if a0 = 2 then (spec_l3Bytes.j1 k a1 a0 (a0 == 2)) else (spec_l3Bytes.j1 k a1 a0 (a0 == 5)))
def spec_l3Bytes.T26 : Bool × List (List Nat × List Nat) := (true, [([], []), ([0], [0]), ([1], [1]), ([2], [2]), ([3, 3], [3]), ([], []), ([5], [5]), ([6], [6]), ([7, 4], [7]), ([4, 8], [4, 8]), ([9, 8, 0, 1, 2, 3, 4, 5, 6, 7, 8, 9], [9]), ([10, 0, 1, 2, 3, 4, 5, 6, 7, 8, 9, 10], [])])
def spec_l3Bytes.B26 : List Nat := [0, 1, 3, 7, 15, 0, 32, 96, 255, 511, 1023, 2047]
theorem spec_l3Bytes.tab26 : rtab .any (opsOf Tryz.f160 26) = spec_l3Bytes.T26 := by kernel_rfl
theorem spec_l3Bytes.bits26 : waitsOk spec_l3Bytes.T26.2 spec_l3Bytes.B26 = true := by kernel_rfl
theorem spec_l3Bytes.calls (k : Nat) (a0 : Int) (a1 : ByteArray) (r1 : ByteArray) (r2 : Bool) (w : World) (h : spec_l3Bytes.f k a0 a1 = some (r1, r2)) :
  Calls Tryz.prog 160 #[.int .i64 a0, .string a1] w fun e w' => e = .returned (.tuple #[.string r1, .bool r2]) ∧ Below w.heap.size w w' := by
 have HB := Aside0.mk (Below.refl w.heap.size w)
 have H : (if a0 = 1 then ((spec_l1Split.f k a1 46).bind fun t159 => (spec_l3Bytes.l0 k (⟨#[]⟩ : ByteArray) t159 t159 (t159.length : Int) 0)) else (if a0 = 2 then (spec_l3Bytes.j1 k a1 a0 (a0 == 2)) else (spec_l3Bytes.j1 k a1 a0 (a0 == 5)))) = some (r1, r2) := h
 clear h
 by_cases c3 : a0 = 1
 ·rw [if_pos c3] at H
  have c3b0 : (a0 == 1) = true := beq_iff_eq.mpr c3
  have c3b1 : (a0 != 1) = false := bne_eq_false_iff_eq.mpr c3
  clear c3
  obtain ⟨t159, A4, H⟩ := bnd H
  have H' := Aside0.mk H
  clear H
  go_enter Tryz.func160, Tryz.ntmps160
  go_wp2_with (first | ((with_reducible refine gate_callee (f := 164) rfl ?_); refine goesL_ (some 18) rfl rfl Tryz.func164 KR rfl #[.string a1, .int .u8 46] rfl TA ?_; (with_reducible refine (spec_l1Split.calls k a1 46 t159 _ A4.out).mono ?_); rintro e w5 ⟨v160, rfl, ho0, hb⟩; refine ⟨_, rfl, ?_⟩; have HO161 := RL ho0; replace HB := BS hb; clear hb; (try clear ho0); obtain ⟨Ao6, co6, eo6⟩ := Kd.R_slice HO161.out; subst eo6))
  go_loopg [6, 21] k (fun kq v6 v21 w' => ∃ (x6_1 : ByteArray) (x21_1 : Int), v6 = .string x6_1 ∧ v21 = .int .i64 x21_1 ∧ Aside0 (spec_l3Bytes.l0 kq x6_1 t159 t159 (t159.length : Int) x21_1 = some (r1, r2)) ∧ Aside0 (kq ≤ k) ∧ Aside0 (Kd.R Kd.string 9 w' w.heap.size (fun _ => True) (.slice Ao6 t159.length co6) t159) ∧ Aside0 (Kd.R Kd.string 9 w' w.heap.size (fun _ => True) (.slice Ao6 t159.length co6) t159) ∧ Aside0 (Below w.heap.size w w'))
  case atStart => exact ⟨((⟨#[]⟩ : ByteArray)), (0), TF, TF, H', ⟨Nat.le_refl _⟩, RW HO161, RW HO161, ⟨TB⟩⟩
  case round =>
   clear H'
   obtain ⟨x6_1, x21_1, rfl, rfl, HA, HK1, HO_7, HO_19, HB⟩ := hrel
   cases gk with
   | zero => exact absurd HA.out (by simp [spec_l3Bytes.l0])
   | succ k1 =>
    have H := HA.out
    clear HA
    simp only [spec_l3Bytes.l0] at H
    by_cases c7 : x21_1 < (t159.length : Int)
    ·rw [if_pos c7] at H
     have c7b0 : decide (x21_1 < (t159.length : Int)) = true := decide_eq_true c7
     clear c7
     obtain ⟨c8, H⟩ := ifn H
     have c8b0 : decide (0 ≤ x21_1) = true := decide_eq_true c8
     clear c8
     obtain ⟨c9, H⟩ := ifn H
     have c9b0 : decide (x21_1 < (t159.length : Int)) = true := decide_eq_true c9
     clear c9
     obtain ⟨t163, A10, H⟩ := bnd H
     obtain ⟨t164, A11, H⟩ := bnd H
     by_cases c12 : t164 = true
     ·subst c12
      replace H := ift H
      obtain ⟨t165, A13, H⟩ := bnd H
      obtain ⟨c14, H⟩ := ifn H
      have c14b0 := eq_true c14
      have c14b1 : decide (x6_1.size + t165.size ≤ 9223372036854775807) = true := decide_eq_true c14
      try have c14b2 : (9223372036854775807 < x6_1.size + t165.size) = False := eq_false (Nat.not_lt.2 c14)
      have H' := Aside0.mk H
      clear H
      have p162 : 0 ≤ (x21_1 : Int) := TD
      have q162 : x21_1 < (t159.length : Int) := TD
      obtain ⟨ad162, e162, hx162_0⟩ := Kd.at_string (Kd.R_reads' HO_19.out).2.2 x21_1 p162 q162
      cases e162
      replace p162 := eq_true p162
      replace q162 := eq_true q162
      go_wp2_with (first | ((with_reducible refine gate_callee (f := 183) rfl ?_); refine goesL_ (some 26) rfl rfl Tryz.func183 KR rfl #[.string (rdOf ByteArray.empty t159 x21_1)] rfl TA ?_; (with_reducible refine (spec_l1Int.calls k1 (rdOf ByteArray.empty t159 x21_1) t163 _ A10.out).mono ?_); rintro e w' ⟨rfl, ⟨nd, rfl⟩⟩; refine ⟨_, rfl, ?_⟩) | ((with_reducible refine gate_callee (f := 80) rfl ?_); refine goesL_ (some 28) rfl rfl Tryz.func80 KR rfl #[.int .i64 t163, .int .i64 0, .int .i64 255] rfl TA ?_; (with_reducible refine (spec_l1In.calls t163 0 255 true _ A11.out).mono ?_); rintro e w' ⟨rfl, ⟨nd, rfl⟩⟩; refine ⟨_, rfl, ?_⟩) | ((with_reducible refine gate_callee (f := 184) rfl ?_); refine goesL_ (some 32) rfl rfl Tryz.func184 KR rfl #[.int .i64 t163, .int .i64 1] rfl TA ?_; (with_reducible refine (spec_l3Number.calls k1 t163 1 t165 _ A13.out).mono ?_); rintro e w15 ⟨rfl, hb⟩; refine ⟨_, rfl, ?_⟩; replace HO_7 := RB HO_7 hb; replace HO_19 := RB HO_19 hb; replace HB := BS hb; clear hb))
      go_roundg k1
      case measure => have := HK1.out; omega
      case rel => exact ⟨(x6_1 ++ t165), (wrap64 (x21_1 + 1)), TF, TF, H', ⟨TM⟩, RW HO_7, RW HO_19, ⟨TB⟩⟩
     ·replace c12 := Bool.eq_false_iff.mpr c12
      subst c12
      replace H := iff' H
      simp only [Option.some.injEq, Prod.mk.injEq] at H
      obtain ⟨rfl, rfl⟩ := H
      have p162 : 0 ≤ (x21_1 : Int) := TD
      have q162 : x21_1 < (t159.length : Int) := TD
      obtain ⟨ad162, e162, hx162_0⟩ := Kd.at_string (Kd.R_reads' HO_19.out).2.2 x21_1 p162 q162
      cases e162
      replace p162 := eq_true p162
      replace q162 := eq_true q162
      go_wp2_with (first | ((with_reducible refine gate_callee (f := 183) rfl ?_); refine goesL_ (some 26) rfl rfl Tryz.func183 KR rfl #[.string (rdOf ByteArray.empty t159 x21_1)] rfl TA ?_; (with_reducible refine (spec_l1Int.calls k1 (rdOf ByteArray.empty t159 x21_1) t163 _ A10.out).mono ?_); rintro e w' ⟨rfl, ⟨nd, rfl⟩⟩; refine ⟨_, rfl, ?_⟩) | ((with_reducible refine gate_callee (f := 80) rfl ?_); refine goesL_ (some 28) rfl rfl Tryz.func80 KR rfl #[.int .i64 t163, .int .i64 0, .int .i64 255] rfl TA ?_; (with_reducible refine (spec_l1In.calls t163 0 255 false _ A11.out).mono ?_); rintro e w' ⟨rfl, ⟨nd, rfl⟩⟩; refine ⟨_, rfl, ?_⟩))
      go_ret2
      exact ⟨TE, TB⟩
    ·rw [if_neg c7] at H
     have c7b0 : decide (x21_1 < (t159.length : Int)) = false := decide_eq_false c7
     clear c7
     simp only [Option.some.injEq, Prod.mk.injEq] at H
     obtain ⟨rfl, rfl⟩ := H
     go_wp2
     go_ret2
     exact ⟨TE, TB⟩
 ·rw [if_neg c3] at H
  have c3b0 : (a0 == 1) = false := beq_eq_false_iff_ne.mpr c3
  have c3b1 : (a0 != 1) = true := bne_iff_ne.mpr c3
  have HC16 := Aside0.mk H
  clear H
  go_enter Tryz.func160, Tryz.ntmps160
  go_upto_if 39 with (fail)
  go_cut [39] (fun v39 wc => ∃ (kq : Nat) (x39_15 : Bool), v39 = .bool x39_15 ∧ Aside0 (spec_l3Bytes.j1 kq a1 a0 x39_15 = some (r1, r2)) ∧ Aside0 (kq ≤ k) ∧ Aside0 (Below w.heap.size w wc))
  case first =>
   have H := HC16.out
   clear HC16
   by_cases c17 : a0 = 2
   ·rw [if_pos c17] at H
    have c17b0 : (a0 == 2) = true := beq_iff_eq.mpr c17
    have c17b1 : (a0 != 2) = false := bne_eq_false_iff_eq.mpr c17
    clear c17
    (first | rw [c17b0] | (simp only [i64_w, i32_w]; rw [c17b0]) | rw [c17b1] | skip)
    have H' := Aside0.mk H
    clear H
    go_wp2
    go_meet
    case rel => exact ⟨_, ((a0 == 2)), TF, H', ⟨by first | omega | exact Nat.le_refl _⟩, ⟨TB⟩⟩
   ·rw [if_neg c17] at H
    have c17b0 : (a0 == 2) = false := beq_eq_false_iff_ne.mpr c17
    have c17b1 : (a0 != 2) = true := bne_iff_ne.mpr c17
    (first | rw [c17b0] | (simp only [i64_w, i32_w]; rw [c17b0]) | rw [c17b1] | skip)
    have H' := Aside0.mk H
    clear H
    go_wp2
    go_meet
    case rel => exact ⟨_, ((a0 == 5)), TF, H', ⟨by first | omega | exact Nat.le_refl _⟩, ⟨TB⟩⟩
  case rest =>
   clear HC16
   obtain ⟨kq, x39_15, rfl, HA, HJ15, HB⟩ := hcut
   cases kq with
   | zero => exact absurd HA.out (by simp [spec_l3Bytes.j1])
   | succ kj15 =>
    have H := HA.out
    clear HA
    simp only [spec_l3Bytes.j1] at H
    by_cases c18 : x39_15 = true
    ·subst c18
     replace H := ift H
     obtain ⟨t166, A19, H⟩ := bnd H
     by_cases c20 : t166 = true
     ·subst c20
      replace H := ift H
      obtain ⟨t167, A21, H⟩ := bnd H
      simp only [Option.some.injEq, Prod.mk.injEq] at H
      obtain ⟨rfl, rfl⟩ := H
      go_wp2_with (first | ((with_reducible refine gate_callee (f := 185) rfl ?_); refine goesL_ (some 43) rfl rfl Tryz.func185 KR rfl #[.string a1] rfl TA ?_; (with_reducible refine (spec_l3Target.calls kj15 a1 true _ A19.out).mono ?_); rintro e w22 ⟨rfl, hb⟩; refine ⟨_, rfl, ?_⟩; replace HB := BS hb; clear hb) | ((with_reducible refine gate_callee (f := 186) rfl ?_); refine goesL_ (some 46) rfl rfl Tryz.func186 KR rfl #[.string a1] rfl TA ?_; (with_reducible refine (spec_l2Bytes.calls kj15 a1 t167 _ A21.out).mono ?_); rintro e w23 ⟨rfl, hb⟩; refine ⟨_, rfl, ?_⟩; replace HB := BS hb; clear hb))
      go_ret2
      exact ⟨TE, TB⟩
     ·replace c20 := Bool.eq_false_iff.mpr c20
      subst c20
      replace H := iff' H
      simp only [Option.some.injEq, Prod.mk.injEq] at H
      obtain ⟨rfl, rfl⟩ := H
      go_wp2_with (first | ((with_reducible refine gate_callee (f := 185) rfl ?_); refine goesL_ (some 43) rfl rfl Tryz.func185 KR rfl #[.string a1] rfl TA ?_; (with_reducible refine (spec_l3Target.calls kj15 a1 false _ A19.out).mono ?_); rintro e w24 ⟨rfl, hb⟩; refine ⟨_, rfl, ?_⟩; replace HB := BS hb; clear hb))
      go_ret2
      exact ⟨TE, TB⟩
    ·replace c18 := Bool.eq_false_iff.mpr c18
     subst c18
     replace H := iff' H
     by_cases c25 : a0 = 6
     ·rw [if_pos c25] at H
      have c25b0 : (a0 == 6) = true := beq_iff_eq.mpr c25
      have c25b1 : (a0 != 6) = false := bne_eq_false_iff_eq.mpr c25
      clear c25
      obtain ⟨t168, A26, H⟩ := bnd H
      obtain ⟨t169, A27, H⟩ := bnd H
      obtain ⟨t170, A28, H⟩ := bnd H
      simp only [Option.some.injEq, Prod.mk.injEq] at H
      obtain ⟨rfl, rfl⟩ := H
      go_wp2_with (first | ((with_reducible refine gate_callee (f := 183) rfl ?_); refine goesL_ (some 50) rfl rfl Tryz.func183 KR rfl #[.string a1] rfl TA ?_; (with_reducible refine (spec_l1Int.calls kj15 a1 t168 _ A26.out).mono ?_); rintro e w' ⟨rfl, ⟨nd, rfl⟩⟩; refine ⟨_, rfl, ?_⟩) | ((with_reducible refine gate_callee (f := 184) rfl ?_); refine goesL_ (some 52) rfl rfl Tryz.func184 KR rfl #[.int .i64 t168, .int .i64 4] rfl TA ?_; (with_reducible refine (spec_l3Number.calls kj15 t168 4 t169 _ A27.out).mono ?_); rintro e w29 ⟨rfl, hb⟩; refine ⟨_, rfl, ?_⟩; replace HB := BS hb; clear hb) | ((with_reducible refine gate_callee (f := 80) rfl ?_); refine goesL_ (some 54) rfl rfl Tryz.func80 KR rfl #[.int .i64 t168, .int .i64 0, .int .i64 4294967295] rfl TA ?_; (with_reducible refine (spec_l1In.calls t168 0 4294967295 t170 _ A28.out).mono ?_); rintro e w' ⟨rfl, ⟨nd, rfl⟩⟩; refine ⟨_, rfl, ?_⟩))
      go_ret2
      exact ⟨TE, TB⟩
     ·rw [if_neg c25] at H
      have c25b0 : (a0 == 6) = false := beq_eq_false_iff_ne.mpr c25
      have c25b1 : (a0 != 6) = true := bne_iff_ne.mpr c25
      by_cases c30 : a0 = 15
      ·rw [if_pos c30] at H
       have c30b0 : (a0 == 15) = true := beq_iff_eq.mpr c30
       have c30b1 : (a0 != 15) = false := bne_eq_false_iff_eq.mpr c30
       clear c30
       obtain ⟨t171, A31, H⟩ := bnd H
       have HC32 := Aside0.mk H
       clear H
       go_upto_region 24 with (first | ((with_reducible refine gate_callee (f := 164) rfl ?_); refine goesL_ (some 58) rfl rfl Tryz.func164 KR rfl #[.string a1, .int .u8 32] rfl TA ?_; (with_reducible refine (spec_l1Split.calls kj15 a1 32 t171 _ A31.out).mono ?_); rintro e w33 ⟨v172, rfl, ho0, hb⟩; refine ⟨_, rfl, ?_⟩; have HO173 := RL ho0; replace HB := BS hb; clear hb; (try clear ho0)))
       (try simp only [Act.put, List.setIfInBounds_toArray, List.set_cons_zero, List.set_cons_succ])
       go_cut [76] (fun v76 wc => ∃ (kq : Nat) (x76_31 : Bool), v76 = .bool x76_31 ∧ Aside0 (spec_l3Bytes.j2 kq t171 x76_31 = some (r1, r2)) ∧ Aside0 (kq ≤ kj15) ∧ Aside0 (Kd.R Kd.string 9 wc w.heap.size (fun _ => True) v172 t171) ∧ Aside0 (Below w.heap.size w wc))
       case first =>
        have H := HC32.out
        clear HC32
        by_cases c34 : (t171.length : Int) = 2
        ·rw [if_pos c34] at H
         have c34b0 : ((t171.length : Int) == 2) = true := beq_iff_eq.mpr c34
         have c34b1 : ((t171.length : Int) != 2) = false := bne_eq_false_iff_eq.mpr c34
         clear c34
         (first | rw [c34b0] | (simp only [i64_w, i32_w]; rw [c34b0]) | rw [c34b1] | skip)
         obtain ⟨c35, H⟩ := ifn H
         have c35b0 : decide (0 < (t171.length : Int)) = true := decide_eq_true c35
         have c35b1 : decide (0 < t171.length) = true := decide_eq_true (by omega)
         clear c35
         obtain ⟨t175, A36, H⟩ := bnd H
         obtain ⟨t176, A37, H⟩ := bnd H
         by_cases c38 : t176 = true
         ·subst c38
          replace H := ift H
          obtain ⟨c39, H⟩ := ifn H
          have c39b0 : decide (1 < (t171.length : Int)) = true := decide_eq_true c39
          have c39b1 : decide (1 < t171.length) = true := decide_eq_true (by omega)
          clear c39
          obtain ⟨t178, A40, H⟩ := bnd H
          have H' := Aside0.mk H
          clear H
          obtain ⟨Ao41, co41, eo41⟩ := Kd.R_slice HO173.out
          subst eo41
          have p174 : 0 ≤ (0 : Int) := (by omega)
          have q174 : 0 < (t171.length : Int) := TD
          obtain ⟨ad174, e174, hx174_0⟩ := Kd.at_string (Kd.R_reads' HO173.out).2.2 0 p174 q174
          cases e174
          have qi174 : (0 < t171.length) = True := eq_true (by omega)
          (try rw [show ((0 : Int)).toNat = 0 from rfl] at hx174_0)
          (try rw [Addr.add_zero'] at hx174_0)
          replace p174 := eq_true p174
          replace q174 := eq_true q174
          go_wp2_with (first | (go_at_call 183; (with_reducible refine (spec_l1Int.calls kj15 (rdOf ByteArray.empty t171 0) t175 _ A36.out).mono ?_); rintro e w' ⟨rfl, ⟨nd, rfl⟩⟩) | (go_at_call 80; (with_reducible refine (spec_l1In.calls t175 0 65535 true _ A37.out).mono ?_); rintro e w' ⟨rfl, ⟨nd, rfl⟩⟩; have p177 : 0 ≤ (1 : Int) := (by omega); have q177 : 1 < (t171.length : Int) := TD; obtain ⟨ad177, e177, hx177_0⟩ := Kd.at_string (Kd.R_reads' HO173.out).2.2 1 p177 q177; obtain rfl : ad174 = ad177 := (by injection e177); (try simp only [show (1 : Int).toNat = 1 from rfl, Nat.reduceMul, Nat.reduceEqDiff, Go.Addr.add, ↓reduceIte] at hx177_0); have qi177 : (1 < t171.length) = True := eq_true (by omega); (try rw [show ((1 : Int)).toNat = 1 from rfl] at hx177_0); replace p177 := eq_true p177; replace q177 := eq_true q177) | (go_at_call 185; (with_reducible refine (spec_l3Target.calls kj15 (rdOf ByteArray.empty t171 1) t178 _ A40.out).mono ?_); rintro e w42 ⟨rfl, hb⟩; replace HO173 := RB HO173 hb; replace HB := BS hb; clear hb))
          go_meet
          case rel => exact ⟨_, (!t178), TF, H', ⟨by have := HJ15.out; first | omega | exact Nat.le_refl _⟩, RW HO173, ⟨TB⟩⟩
         ·replace c38 := Bool.eq_false_iff.mpr c38
          subst c38
          replace H := iff' H
          have H' := Aside0.mk H
          clear H
          obtain ⟨Ao43, co43, eo43⟩ := Kd.R_slice HO173.out
          subst eo43
          have p174 : 0 ≤ (0 : Int) := (by omega)
          have q174 : 0 < (t171.length : Int) := TD
          obtain ⟨ad174, e174, hx174_0⟩ := Kd.at_string (Kd.R_reads' HO173.out).2.2 0 p174 q174
          cases e174
          have qi174 : (0 < t171.length) = True := eq_true (by omega)
          (try rw [show ((0 : Int)).toNat = 0 from rfl] at hx174_0)
          (try rw [Addr.add_zero'] at hx174_0)
          replace p174 := eq_true p174
          replace q174 := eq_true q174
          go_wp2_with (first | (go_at_call 183; (with_reducible refine (spec_l1Int.calls kj15 (rdOf ByteArray.empty t171 0) t175 _ A36.out).mono ?_); rintro e w' ⟨rfl, ⟨nd, rfl⟩⟩) | (go_at_call 80; (with_reducible refine (spec_l1In.calls t175 0 65535 false _ A37.out).mono ?_); rintro e w' ⟨rfl, ⟨nd, rfl⟩⟩))
          go_meet
          case rel => exact ⟨_, (true), TF, H', ⟨by have := HJ15.out; first | omega | exact Nat.le_refl _⟩, RW HO173, ⟨TB⟩⟩
        ·rw [if_neg c34] at H
         have c34b0 : ((t171.length : Int) == 2) = false := beq_eq_false_iff_ne.mpr c34
         have c34b1 : ((t171.length : Int) != 2) = true := bne_iff_ne.mpr c34
         (first | rw [c34b0] | (simp only [i64_w, i32_w]; rw [c34b0]) | rw [c34b1] | skip)
         have H' := Aside0.mk H
         clear H
         obtain ⟨Ao44, co44, eo44⟩ := Kd.R_slice HO173.out
         subst eo44
         go_wp2
         go_meet
         case rel => exact ⟨_, (true), TF, H', ⟨by have := HJ15.out; first | omega | exact Nat.le_refl _⟩, RW HO173, ⟨TB⟩⟩
       case rest =>
        clear HC32
        obtain ⟨kq, x76_31, rfl, HA, HJ31, HO_12, HB⟩ := hcut
        cases kq with
        | zero => exact absurd HA.out (by simp [spec_l3Bytes.j2])
        | succ kj31 =>
         have H := HA.out
         clear HA
         simp only [spec_l3Bytes.j2] at H
         by_cases c45 : x76_31 = true
         ·subst c45
          replace H := ift H
          simp only [Option.some.injEq, Prod.mk.injEq] at H
          obtain ⟨rfl, rfl⟩ := H
          go_wp2
          go_ret2
          exact ⟨TE, TB⟩
         ·replace c45 := Bool.eq_false_iff.mpr c45
          subst c45
          replace H := iff' H
          obtain ⟨c46, H⟩ := ifn H
          have c46b0 : decide (0 < (t171.length : Int)) = true := decide_eq_true c46
          have c46b1 : decide (0 < t171.length) = true := decide_eq_true (by omega)
          clear c46
          obtain ⟨t180, A47, H⟩ := bnd H
          obtain ⟨t181, A48, H⟩ := bnd H
          obtain ⟨c49, H⟩ := ifn H
          have c49b0 : decide (1 < (t171.length : Int)) = true := decide_eq_true c49
          have c49b1 : decide (1 < t171.length) = true := decide_eq_true (by omega)
          clear c49
          obtain ⟨t183, A50, H⟩ := bnd H
          obtain ⟨c51, H⟩ := ifn H
          have c51b0 := eq_true c51
          have c51b1 : decide (t181.size + t183.size ≤ 9223372036854775807) = true := decide_eq_true c51
          try have c51b2 : (9223372036854775807 < t181.size + t183.size) = False := eq_false (Nat.not_lt.2 c51)
          simp only [Option.some.injEq, Prod.mk.injEq] at H
          obtain ⟨rfl, rfl⟩ := H
          try go_wp2
          replace HO_12 := Aside0.mk (Kd.R_drew HO_12.out)
          replace HB := Aside0.mk (below_drew1 HB.out)
          obtain ⟨Ao53, co53, eo53⟩ := Kd.R_slice HO_12.out
          (first | subst eo53 | (injection eo53 with f1_ f2_ f3_; have f4_ := f1_.symm; have f5_ := f3_.symm; clear f1_ f2_ f3_; subst f4_; subst f5_))
          have p179 : 0 ≤ (0 : Int) := (by omega)
          have q179 : 0 < (t171.length : Int) := TD
          obtain ⟨ad179, e179, hx179_0⟩ := Kd.at_string (Kd.R_reads' HO_12.out).2.2 0 p179 q179
          cases e179
          have qi179 : (0 < t171.length) = True := eq_true (by omega)
          (try rw [show ((0 : Int)).toNat = 0 from rfl] at hx179_0)
          (try rw [Addr.add_zero'] at hx179_0)
          replace p179 := eq_true p179
          replace q179 := eq_true q179
          have p182 : 0 ≤ (1 : Int) := (by omega)
          have q182 : 1 < (t171.length : Int) := TD
          obtain ⟨ad182, e182, hx182_0⟩ := Kd.at_string (Kd.R_reads' HO_12.out).2.2 1 p182 q182
          obtain rfl : ad179 = ad182 := (by injection e182)
          (try simp only [show (1 : Int).toNat = 1 from rfl, Nat.reduceMul, Nat.reduceEqDiff, Go.Addr.add, ↓reduceIte] at hx182_0)
          have qi182 : (1 < t171.length) = True := eq_true (by omega)
          (try rw [show ((1 : Int)).toNat = 1 from rfl] at hx182_0)
          replace p182 := eq_true p182
          replace q182 := eq_true q182
          refine start_ (n := 12) (S := fun w' => w'.cell? ad179 = some (.string (rdOf ByteArray.empty t171 0)) ∧ w'.cell? ⟨ad179.block, ad179.off + 1, none⟩ = some (.string (rdOf ByteArray.empty t171 1))) (ds := []) #[false, false, false, false, false, false, false, false, false, false, false, false] KR rfl rfl ⟨hx179_0, hx182_0⟩ (fun hHeld => ?_); refine with_tabW spec_l3Bytes.tab26 spec_l3Bytes.bits26 (fun HT_ HW_ => ?_)
          generalize wc.drew = w52 at HO_12 HB hx179_0 hx182_0 hHeld ⊢
          refine pA 0 77 (mL 12 1) HT_ rfl rfl ?_
          refine pA 1 78 (mL 12 3) HT_ rfl rfl ?_
          refine pA 5 82 (mL 12 35) HT_ rfl rfl ?_
          refine pA 6 83 (mL 12 99) HT_ rfl rfl ?_
          refine tA 2 79 (mL 12 103) HT_ HW_ hHeld rfl rfl (by rintro w' ⟨s0, s1⟩; go_simp; with_reducible rfl) ?_
          refine tA 7 84 (mL 12 231) HT_ HW_ hHeld rfl rfl (by rintro w' ⟨s0, s1⟩; go_simp; with_reducible rfl) ?_
          refine one_ (i := 3) (N := some 80) (mL 12 239) rfl rfl (one_of HT_.out KR) (by decide) (fun K hK => ?_)
          refine goes_ Tryz.func183 KR rfl #[.string (rdOf ByteArray.empty t171 0)] (by rfl) rfl rfl TA ?_
          with_reducible refine (spec_l1Int.calls kj31 (rdOf ByteArray.empty t171 0) t180 _ A47.out).mono ?_
          rintro e w' ⟨rfl, ⟨nd, rfl⟩⟩
          refine ⟨_, rfl, ?_⟩
          refine hK.out _ _ ⟨hHeld.1, hHeld.2⟩ (fun hHeld => ?_)
          clear hK K
          refine nA ?_
          refine one_ (i := 4) (N := some 81) (mL 12 255) rfl rfl (one_of HT_.out KR) (by decide) (fun K hK => ?_)
          refine goes_ Tryz.func184 KR rfl #[.int .i64 t180, .int .i64 2] (by rfl) rfl rfl TA ?_
          with_reducible refine (spec_l3Number.calls kj31 t180 2 t181 _ A48.out).mono ?_
          rintro e w54 ⟨rfl, hb⟩
          have HS0_ := (hb.cell (World.block_lt_of_cell? _ _ (hHeld.1))).trans (hHeld.1)
          have HS1_ := (hb.cell (World.block_lt_of_cell? _ _ (hHeld.2))).trans (hHeld.2)
          refine ⟨_, rfl, ?_⟩
          replace HO_12 := RB HO_12 hb
          replace HB := BS hb
          (try clear hb)
          (try clear hb2)
          (try clear hk)
          (try clear hi)
          refine hK.out _ _ ⟨HS0_, HS1_⟩ (fun hHeld => ?_)
          clear hK K
          refine nA ?_
          refine one_ (i := 8) (N := some 85) (mL 12 511) rfl rfl (one_of HT_.out KR) (by decide) (fun K hK => ?_)
          refine goes_ Tryz.func186 KR rfl #[.string (rdOf ByteArray.empty t171 1)] (by rfl) rfl rfl TA ?_
          with_reducible refine (spec_l2Bytes.calls kj31 (rdOf ByteArray.empty t171 1) t183 _ A50.out).mono ?_
          rintro e w55 ⟨rfl, hb⟩
          have HS0_ := (hb.cell (World.block_lt_of_cell? _ _ (hHeld.1))).trans (hHeld.1)
          have HS1_ := (hb.cell (World.block_lt_of_cell? _ _ (hHeld.2))).trans (hHeld.2)
          refine ⟨_, rfl, ?_⟩
          replace HO_12 := RB HO_12 hb
          replace HB := BS hb
          (try clear hb)
          (try clear hb2)
          (try clear hk)
          (try clear hi)
          refine hK.out _ _ ⟨HS0_, HS1_⟩ (fun hHeld => ?_)
          clear hK K
          refine nA ?_
          refine pA 9 86 (mL 12 1023) HT_ rfl rfl ?_
          refine pA 10 4 (mL 12 2047) HT_ rfl rfl ?_
          refine pA 11 5 (mL 12 4095) HT_ rfl rfl ?_
          refine done_ (done_of HT_.out KR) ?_
          try go_wp2
          go_ret2
          exact ⟨TE, TB⟩
      ·rw [if_neg c30] at H
       have c30b0 : (a0 == 15) = false := beq_eq_false_iff_ne.mpr c30
       have c30b1 : (a0 != 15) = true := bne_iff_ne.mpr c30
       by_cases c56 : a0 = 16
       ·rw [if_pos c56] at H
        have c56b0 : (a0 == 16) = true := beq_iff_eq.mpr c56
        have c56b1 : (a0 != 16) = false := bne_eq_false_iff_eq.mpr c56
        clear c56
        have H' := Aside0.mk H
        clear H
        go_wp2
        go_loopg [13] kj15 (fun kq v13 w' => ∃ (x13_2 : Int), v13 = .int .i64 x13_2 ∧ Aside0 (spec_l3Bytes.l1 kq a1 x13_2 = some (r1, r2)) ∧ Aside0 (kq ≤ kj15) ∧ Aside0 (Below w.heap.size w w'))
        case atStart => exact ⟨(0), TF, H', ⟨Nat.le_refl _⟩, ⟨TB⟩⟩
        case round =>
         clear H'
         obtain ⟨x13_2, rfl, HA, HK2, HB⟩ := hrel
         cases gk with
         | zero => exact absurd HA.out (by simp [spec_l3Bytes.l1])
         | succ k2 =>
          have H := HA.out
          clear HA
          simp only [spec_l3Bytes.l1] at H
          by_cases c57 : x13_2 < (a1.size : Int)
          ·rw [if_pos c57] at H
           have c57b0 : decide (x13_2 < (a1.size : Int)) = true := decide_eq_true c57
           clear c57
           obtain ⟨c58, H⟩ := ifn H
           have c58b0 : decide (0 ≤ x13_2) = true := decide_eq_true c58
           clear c58
           by_cases c60 : (bt a1 x13_2) < 32
           ·rw [if_pos c60] at H
            have c60b0 : decide ((bt a1 x13_2) < 32) = true := decide_eq_true c60
            clear c60
            simp only [Option.some.injEq, Prod.mk.injEq] at H
            obtain ⟨rfl, rfl⟩ := H
            have p59 : 0 ≤ (x13_2 : Int) := TD
            have q59 : x13_2 < (a1.size : Int) := TD
            have hx59 := bt_at a1 x13_2
            replace p59 := eq_true p59
            replace q59 := eq_true q59
            go_wp2
            go_ret2
            exact ⟨TE, TB⟩
           ·rw [if_neg c60] at H
            have c60b0 : decide ((bt a1 x13_2) < 32) = false := decide_eq_false c60
            clear c60
            by_cases c62 : (bt a1 x13_2) > 126
            ·rw [if_pos c62] at H
             have c62b0 : decide (126 < (bt a1 x13_2)) = true := decide_eq_true c62
             clear c62
             simp only [Option.some.injEq, Prod.mk.injEq] at H
             obtain ⟨rfl, rfl⟩ := H
             have p59 : 0 ≤ (x13_2 : Int) := TD
             have q59 : x13_2 < (a1.size : Int) := TD
             have hx59 := bt_at a1 x13_2
             replace p59 := eq_true p59
             replace q59 := eq_true q59
             have p61 : 0 ≤ (x13_2 : Int) := TD
             have q61 : x13_2 < (a1.size : Int) := TD
             have hx61 := bt_at a1 x13_2
             replace p61 := eq_true p61
             replace q61 := eq_true q61
             go_wp2
             go_ret2
             exact ⟨TE, TB⟩
            ·rw [if_neg c62] at H
             have c62b0 : decide (126 < (bt a1 x13_2)) = false := decide_eq_false c62
             clear c62
             have H' := Aside0.mk H
             clear H
             have p59 : 0 ≤ (x13_2 : Int) := TD
             have q59 : x13_2 < (a1.size : Int) := TD
             have hx59 := bt_at a1 x13_2
             replace p59 := eq_true p59
             replace q59 := eq_true q59
             have p61 : 0 ≤ (x13_2 : Int) := TD
             have q61 : x13_2 < (a1.size : Int) := TD
             have hx61 := bt_at a1 x13_2
             replace p61 := eq_true p61
             replace q61 := eq_true q61
             go_wp2
             go_roundg k2
             case measure => have := HJ15.out; have := HK2.out; omega
             case rel => exact ⟨(wrap64 (x13_2 + 1)), TF, H', ⟨by have := HJ15.out; have := HK2.out; omega⟩, ⟨TB⟩⟩
          ·rw [if_neg c57] at H
           have c57b0 : decide (x13_2 < (a1.size : Int)) = false := decide_eq_false c57
           clear c57
           obtain ⟨y184, hy184⟩ : ∃ y_ : List Int, y_ = (([((a1.size : Int)) % 256] : List Int)) := ⟨_, rfl⟩
           replace H : (if (strOfNums y184).size + a1.size ≤ 9223372036854775807 then (some ((strOfNums y184) ++ a1, decide ((a1.size : Int) ≤ 30))) else (none)) = some (r1, r2) := by first | (rw [hy184]; with_reducible exact H) | (have H2_ := (Option.bind_some _ _).symm.trans H; rw [hy184]; with_reducible exact H2_) | (have H2_ := (Option.bind_some _ _).symm.trans H; with_reducible exact H2_) | with_reducible exact H | (rw [hy184]; exact H) | exact H
           have Ny184 := Aside0.mk hy184
           clear hy184
           obtain ⟨c63, H⟩ := ifn H
           have c63b0 := eq_true c63
           have c63b1 : decide ((strOfNums y184).size + a1.size ≤ 9223372036854775807) = true := decide_eq_true c63
           try have c63b2 : (9223372036854775807 < (strOfNums y184).size + a1.size) = False := eq_false (Nat.not_lt.2 c63)
           simp only [Option.some.injEq, Prod.mk.injEq] at H
           obtain ⟨rfl, rfl⟩ := H
           go_wp2_with (first | ((with_reducible refine gate_dst (N := 108) rfl ?_); refine Kd.R_lit (Kd.int .u8) _ 5 ?hg (N := 108) ?hd (xs := ([((a1.size : Int)) % 256] : List Int)) (inner := [.int .u8 (((a1.size : Int)) % 256)]) (ok := fun _ => True) (okp := fun _ => True) ?hr ?hp (fun _ hk => hk) trivial (Below.refl _ _) (Nat.le_refl _) (by simp) ?_; (case hd => rfl); (case hg => rfl); (case hr => first | (go_simp; done) | (go_simp; rfl)); (case hp => exact (Reps.one (show Kd.M (Kd.int .u8) _ _ _ (((a1.size : Int)) % 256) [.int .u8 (((a1.size : Int)) % 256)] from rfl) (Reps.none _ _))); intro v185 w64 ho65 hb hg_ hnew_; clear hg_ hnew_; (first | rw [← Ny184.out] at ho65 | (simp only [Int.reduceToNat] at ho65; rw [← Ny184.out] at ho65)); have HO186 := RL ho65; replace HB := BS hb; clear hb ho65; have hcv66 := own_string (P := Tryz.prog) Tryz.underlying162 Tryz.underlying5 Tryz.underlying9 (Kd.own_of_R HO186.out)))
           go_ret2
           exact ⟨TE, TB⟩
       ·rw [if_neg c56] at H
        have c56b0 : (a0 == 16) = false := beq_eq_false_iff_ne.mpr c56
        have c56b1 : (a0 != 16) = true := bne_iff_ne.mpr c56
        simp only [Option.some.injEq, Prod.mk.injEq] at H
        obtain ⟨rfl, rfl⟩ := H
        go_wp2
        go_ret2
        exact ⟨TE, TB⟩
end
section
/-! ### spec_GoodRecord: function 118 -/
def spec_GoodRecord.f (k : Nat) (a0_0 : ByteArray) (a0_1 : Int) (a0_2 : Int) (a0_3 : ByteArray) : Option (Bool) := (spec_l3Bytes.f k a0_1 a0_3).bind fun bt192 => (if bt192.2 = true then ((spec_GoodName.f k a0_0).bind fun t194 => (if t194 = true then ((spec_l1In.f a0_2 0 100000).bind fun t195 => (some t195)) else (some false))) else (some false))
theorem spec_GoodRecord.calls (k : Nat) (a0_0 : ByteArray) (a0_1 : Int) (a0_2 : Int) (a0_3 : ByteArray) (r : Bool) (w : World) (h : spec_GoodRecord.f k a0_0 a0_1 a0_2 a0_3 = some r) :
  Calls Tryz.prog 118 #[.agg #[.string a0_0, .int .i64 a0_1, .int .i64 a0_2, .string a0_3]] w fun e w' => e = .returned (.bool r) ∧ Below w.heap.size w w' := by
 have hu93 := Tryz.underlying93
 have HB := Aside0.mk (Below.refl w.heap.size w)
 have H : ((spec_l3Bytes.f k a0_1 a0_3).bind fun bt192 => (if bt192.2 = true then ((spec_GoodName.f k a0_0).bind fun t194 => (if t194 = true then ((spec_l1In.f a0_2 0 100000).bind fun t195 => (some t195)) else (some false))) else (some false))) = some r := h
 clear h
 obtain ⟨⟨t192, t193⟩, A2, H⟩ := bnd H
 try dsimp only at H
 by_cases c3 : t193 = true
 ·subst c3
  replace H := ift H
  obtain ⟨t194, A4, H⟩ := bnd H
  by_cases c5 : t194 = true
  ·subst c5
   replace H := ift H
   obtain ⟨t195, A6, H⟩ := bnd H
   obtain rfl := Option.some.inj H
   go_enter Tryz.func118, Tryz.ntmps118
   go_wp2_with (first | ((with_reducible refine gate_dst (N := 1) rfl ?_); refine bE 1 #[.string a0_0, .int .i64 a0_1, .int .i64 a0_2, .string a0_3] 93 ?_; intro gb191 hg w7 hbox hb; have BK191 := Aside0.mk (hbox); have GE191 := bG hg; replace HB := BS hb; clear hb hbox hg; have hcz8 := cz4 BK191) | ((with_reducible refine gate_callee (f := 160) rfl ?_); refine goesL_ (some 10) rfl rfl Tryz.func160 KR rfl #[.int .i64 a0_1, .string a0_3] rfl TA ?_; (with_reducible refine (spec_l3Bytes.calls k a0_1 a0_3 t192 true _ A2.out).mono ?_); rintro e w9 ⟨rfl, hb⟩; refine ⟨_, rfl, ?_⟩; replace BK191 := KB BK191 hb; replace HB := BS hb; clear hb; have hcz10 := cz4 BK191) | (go_at_call 81; (with_reducible refine (spec_GoodName.calls k a0_0 true _ A4.out).mono ?_); rintro e w11 ⟨rfl, hb⟩; replace BK191 := KB BK191 hb; replace HB := BS hb; clear hb; have hcz12 := cz4 BK191) | (go_at_call 80; (with_reducible refine (spec_l1In.calls a0_2 0 100000 t195 _ A6.out).mono ?_); rintro e w' ⟨rfl, ⟨nd, rfl⟩⟩))
   go_ret
   exact ⟨TE, TB⟩
  ·replace c5 := Bool.eq_false_iff.mpr c5
   subst c5
   replace H := iff' H
   obtain rfl := Option.some.inj H
   go_enter Tryz.func118, Tryz.ntmps118
   go_wp2_with (first | ((with_reducible refine gate_dst (N := 1) rfl ?_); refine bE 1 #[.string a0_0, .int .i64 a0_1, .int .i64 a0_2, .string a0_3] 93 ?_; intro gb191 hg w13 hbox hb; have BK191 := Aside0.mk (hbox); have GE191 := bG hg; replace HB := BS hb; clear hb hbox hg; have hcz14 := cz4 BK191) | ((with_reducible refine gate_callee (f := 160) rfl ?_); refine goesL_ (some 10) rfl rfl Tryz.func160 KR rfl #[.int .i64 a0_1, .string a0_3] rfl TA ?_; (with_reducible refine (spec_l3Bytes.calls k a0_1 a0_3 t192 true _ A2.out).mono ?_); rintro e w15 ⟨rfl, hb⟩; refine ⟨_, rfl, ?_⟩; replace BK191 := KB BK191 hb; replace HB := BS hb; clear hb; have hcz16 := cz4 BK191) | (go_at_call 81; (with_reducible refine (spec_GoodName.calls k a0_0 false _ A4.out).mono ?_); rintro e w17 ⟨rfl, hb⟩; replace BK191 := KB BK191 hb; replace HB := BS hb; clear hb))
   go_ret
   exact ⟨TE, TB⟩
 ·replace c3 := Bool.eq_false_iff.mpr c3
  subst c3
  replace H := iff' H
  obtain rfl := Option.some.inj H
  go_enter Tryz.func118, Tryz.ntmps118
  go_wp2_with (first | ((with_reducible refine gate_dst (N := 1) rfl ?_); refine bE 1 #[.string a0_0, .int .i64 a0_1, .int .i64 a0_2, .string a0_3] 93 ?_; intro gb191 hg w18 hbox hb; have BK191 := Aside0.mk (hbox); have GE191 := bG hg; replace HB := BS hb; clear hb hbox hg; have hcz19 := cz4 BK191) | ((with_reducible refine gate_callee (f := 160) rfl ?_); refine goesL_ (some 10) rfl rfl Tryz.func160 KR rfl #[.int .i64 a0_1, .string a0_3] rfl TA ?_; (with_reducible refine (spec_l3Bytes.calls k a0_1 a0_3 t192 false _ A2.out).mono ?_); rintro e w20 ⟨rfl, hb⟩; refine ⟨_, rfl, ?_⟩; replace BK191 := KB BK191 hb; replace HB := BS hb; clear hb))
  go_ret
  exact ⟨TE, TB⟩
end
section
/-! ### spec_l3Less: function 161 -/
def spec_l3Less.f (a0 : Bool) : Option (Int) := if a0 = true then (some (-1)) else (some 1)
theorem spec_l3Less.calls (a0 : Bool) (r : Int) (w : World) (h : spec_l3Less.f a0 = some r) :
  Calls Tryz.prog 161 #[.bool a0] w fun e w' => e = .returned (.int .i64 r) ∧ Drawn0 w w' := by
 have H : (if a0 = true then (some (-1)) else (some 1)) = some r := h
 clear h
 by_cases c2 : a0 = true
 ·subst c2
  replace H := ift H
  obtain rfl := Option.some.inj H
  go_enter Tryz.func161, Tryz.ntmps161
  go_wp2
  go_ret
  exact ⟨TF, TN⟩
 ·replace c2 := Bool.eq_false_iff.mpr c2
  subst c2
  replace H := iff' H
  obtain rfl := Option.some.inj H
  go_enter Tryz.func161, Tryz.ntmps161
  go_wp2
  go_ret
  exact ⟨TF, TN⟩
end
section
/-! ### spec_l3Compare: function 119 -/
def spec_l3Compare.f (k : Nat) (a0_0 : ByteArray) (a0_1 : Int) (a0_2 : Int) (a0_3 : ByteArray) (a1_0 : ByteArray) (a1_1 : Int) (a1_2 : Int) (a1_3 : ByteArray) : Option (Int) := (spec_l1Compare.f k a0_0 a1_0).bind fun t208 => (if t208 = 0 then ((spec_l3Bytes.f k a0_1 a0_3).bind fun bt209 => ((spec_l3Bytes.f k a1_1 a1_3).bind fun bt211 => (if a0_1 = a1_1 then (if bt209.1.toList = bt211.1.toList then (if a0_2 = a1_2 then (some 0) else ((spec_l3Less.f (decide (a0_2 < a1_2))).bind fun t213 => (some t213))) else ((spec_l3Less.f (Op.bytesLess bt209.1.toList bt211.1.toList)).bind fun t214 => (some t214))) else ((spec_l3Less.f (decide (a0_1 < a1_1))).bind fun t215 => (some t215))))) else (some t208))
theorem spec_l3Compare.calls (k : Nat) (a0_0 : ByteArray) (a0_1 : Int) (a0_2 : Int) (a0_3 : ByteArray) (a1_0 : ByteArray) (a1_1 : Int) (a1_2 : Int) (a1_3 : ByteArray) (r : Int) (w : World) (h : spec_l3Compare.f k a0_0 a0_1 a0_2 a0_3 a1_0 a1_1 a1_2 a1_3 = some r) :
  Calls Tryz.prog 119 #[.agg #[.string a0_0, .int .i64 a0_1, .int .i64 a0_2, .string a0_3], .agg #[.string a1_0, .int .i64 a1_1, .int .i64 a1_2, .string a1_3]] w fun e w' => e = .returned (.int .i64 r) ∧ Below w.heap.size w w' := by
 have hu93 := Tryz.underlying93
 have HB := Aside0.mk (Below.refl w.heap.size w)
 have H : ((spec_l1Compare.f k a0_0 a1_0).bind fun t208 => (if t208 = 0 then ((spec_l3Bytes.f k a0_1 a0_3).bind fun bt209 => ((spec_l3Bytes.f k a1_1 a1_3).bind fun bt211 => (if a0_1 = a1_1 then (if bt209.1.toList = bt211.1.toList then (if a0_2 = a1_2 then (some 0) else ((spec_l3Less.f (decide (a0_2 < a1_2))).bind fun t213 => (some t213))) else ((spec_l3Less.f (Op.bytesLess bt209.1.toList bt211.1.toList)).bind fun t214 => (some t214))) else ((spec_l3Less.f (decide (a0_1 < a1_1))).bind fun t215 => (some t215))))) else (some t208))) = some r := h
 clear h
 obtain ⟨t208, A3, H⟩ := bnd H
 by_cases c4 : t208 = 0
 ·rw [if_pos c4] at H
  have c4b0 : (t208 == 0) = true := beq_iff_eq.mpr c4
  have c4b1 : (t208 != 0) = false := bne_eq_false_iff_eq.mpr c4
  clear c4
  obtain ⟨⟨t209, t210⟩, A5, H⟩ := bnd H
  try dsimp only at H
  obtain ⟨⟨t211, t212⟩, A6, H⟩ := bnd H
  try dsimp only at H
  by_cases c7 : a0_1 = a1_1
  ·rw [if_pos c7] at H
   have c7b0 : (a0_1 == a1_1) = true := beq_iff_eq.mpr c7
   have c7b1 : (a0_1 != a1_1) = false := bne_eq_false_iff_eq.mpr c7
   clear c7
   by_cases c8 : t209.toList = t211.toList
   ·rw [if_pos c8] at H
    have c8b0 : (t209.toList == t211.toList) = true := beq_iff_eq.mpr c8
    have c8b1 : (t209.toList != t211.toList) = false := bne_eq_false_iff_eq.mpr c8
    clear c8
    by_cases c9 : a0_2 = a1_2
    ·rw [if_pos c9] at H
     have c9b0 : (a0_2 == a1_2) = true := beq_iff_eq.mpr c9
     have c9b1 : (a0_2 != a1_2) = false := bne_eq_false_iff_eq.mpr c9
     clear c9
     obtain rfl := Option.some.inj H
     go_enter Tryz.func119, Tryz.ntmps119
     go_wp2_with (first | ((with_reducible refine gate_dst (N := 2) rfl ?_); refine bE 2 #[.string a0_0, .int .i64 a0_1, .int .i64 a0_2, .string a0_3] 93 ?_; intro gb206 hg w10 hbox hb; have BK206 := Aside0.mk (hbox); have GE206 := bG hg; replace HB := BS hb; clear hb hbox hg) | ((with_reducible refine gate_dst (N := 3) rfl ?_); refine bE 3 #[.string a1_0, .int .i64 a1_1, .int .i64 a1_2, .string a1_3] 93 ?_; intro gb207 hg w11 hbox hb; have BK207 := Aside0.mk (hbox); have GE207 := bG hg; replace HB := BS hb; have NB206_207 := bN BK206 hg; have NB207_206 := bM BK206 hg; replace BK206 := KB BK206 hb; clear hb hbox hg; obtain ⟨hnb12, hnc12⟩ := nn NB206_207; have hcz13 := cz4 BK206; have hcz14 := cz4 BK207) | ((with_reducible refine gate_callee (f := 134) rfl ?_); refine goesL_ (some 14) rfl rfl Tryz.func134 KR rfl #[.string a0_0, .string a1_0] rfl TA ?_; (with_reducible refine (spec_l1Compare.calls k a0_0 a1_0 t208 _ A3.out).mono ?_); rintro e w15 ⟨rfl, hb⟩; refine ⟨_, rfl, ?_⟩; replace BK206 := KB BK206 hb; replace BK207 := KB BK207 hb; replace HB := BS hb; clear hb; have hcz16 := cz4 BK206) | ((with_reducible refine gate_callee (f := 160) rfl ?_); refine goesL_ (some 23) rfl rfl Tryz.func160 KR rfl #[.int .i64 a0_1, .string a0_3] rfl TA ?_; (with_reducible refine (spec_l3Bytes.calls k a0_1 a0_3 t209 t210 _ A5.out).mono ?_); rintro e w17 ⟨rfl, hb⟩; refine ⟨_, rfl, ?_⟩; replace BK206 := KB BK206 hb; replace BK207 := KB BK207 hb; replace HB := BS hb; clear hb; have hcz18 := cz4 BK207) | ((with_reducible refine gate_callee (f := 160) rfl ?_); refine goesL_ (some 31) rfl rfl Tryz.func160 KR rfl #[.int .i64 a1_1, .string a1_3] rfl TA ?_; (with_reducible refine (spec_l3Bytes.calls k a1_1 a1_3 t211 t212 _ A6.out).mono ?_); rintro e w19 ⟨rfl, hb⟩; refine ⟨_, rfl, ?_⟩; replace BK206 := KB BK206 hb; replace BK207 := KB BK207 hb; replace HB := BS hb; clear hb; have hcz20 := cz4 BK206; have hcz21 := cz4 BK207))
     go_ret
     exact ⟨TE, TB⟩
    ·rw [if_neg c9] at H
     have c9b0 : (a0_2 == a1_2) = false := beq_eq_false_iff_ne.mpr c9
     have c9b1 : (a0_2 != a1_2) = true := bne_iff_ne.mpr c9
     obtain ⟨t213, A22, H⟩ := bnd H
     obtain rfl := Option.some.inj H
     go_enter Tryz.func119, Tryz.ntmps119
     go_wp2_with (first | ((with_reducible refine gate_dst (N := 2) rfl ?_); refine bE 2 #[.string a0_0, .int .i64 a0_1, .int .i64 a0_2, .string a0_3] 93 ?_; intro gb206 hg w23 hbox hb; have BK206 := Aside0.mk (hbox); have GE206 := bG hg; replace HB := BS hb; clear hb hbox hg) | ((with_reducible refine gate_dst (N := 3) rfl ?_); refine bE 3 #[.string a1_0, .int .i64 a1_1, .int .i64 a1_2, .string a1_3] 93 ?_; intro gb207 hg w24 hbox hb; have BK207 := Aside0.mk (hbox); have GE207 := bG hg; replace HB := BS hb; have NB206_207 := bN BK206 hg; have NB207_206 := bM BK206 hg; replace BK206 := KB BK206 hb; clear hb hbox hg; obtain ⟨hnb25, hnc25⟩ := nn NB206_207; have hcz26 := cz4 BK206; have hcz27 := cz4 BK207) | ((with_reducible refine gate_callee (f := 134) rfl ?_); refine goesL_ (some 14) rfl rfl Tryz.func134 KR rfl #[.string a0_0, .string a1_0] rfl TA ?_; (with_reducible refine (spec_l1Compare.calls k a0_0 a1_0 t208 _ A3.out).mono ?_); rintro e w28 ⟨rfl, hb⟩; refine ⟨_, rfl, ?_⟩; replace BK206 := KB BK206 hb; replace BK207 := KB BK207 hb; replace HB := BS hb; clear hb; have hcz29 := cz4 BK206) | ((with_reducible refine gate_callee (f := 160) rfl ?_); refine goesL_ (some 23) rfl rfl Tryz.func160 KR rfl #[.int .i64 a0_1, .string a0_3] rfl TA ?_; (with_reducible refine (spec_l3Bytes.calls k a0_1 a0_3 t209 t210 _ A5.out).mono ?_); rintro e w30 ⟨rfl, hb⟩; refine ⟨_, rfl, ?_⟩; replace BK206 := KB BK206 hb; replace BK207 := KB BK207 hb; replace HB := BS hb; clear hb; have hcz31 := cz4 BK207) | ((with_reducible refine gate_callee (f := 160) rfl ?_); refine goesL_ (some 31) rfl rfl Tryz.func160 KR rfl #[.int .i64 a1_1, .string a1_3] rfl TA ?_; (with_reducible refine (spec_l3Bytes.calls k a1_1 a1_3 t211 t212 _ A6.out).mono ?_); rintro e w32 ⟨rfl, hb⟩; refine ⟨_, rfl, ?_⟩; replace BK206 := KB BK206 hb; replace BK207 := KB BK207 hb; replace HB := BS hb; clear hb; have hcz33 := cz4 BK206; have hcz34 := cz4 BK207) | ((with_reducible refine gate_callee (f := 161) rfl ?_); refine goesL_ (some 65) rfl rfl Tryz.func161 KR rfl #[.bool (decide (a0_2 < a1_2))] rfl TA ?_; (with_reducible refine (spec_l3Less.calls (decide (a0_2 < a1_2)) t213 _ A22.out).mono ?_); rintro e w' ⟨rfl, ⟨nd, rfl⟩⟩; refine ⟨_, rfl, ?_⟩))
     go_ret
     exact ⟨TE, TB⟩
   ·rw [if_neg c8] at H
    have c8b0 : (t209.toList == t211.toList) = false := beq_eq_false_iff_ne.mpr c8
    have c8b1 : (t209.toList != t211.toList) = true := bne_iff_ne.mpr c8
    obtain ⟨t214, A35, H⟩ := bnd H
    obtain rfl := Option.some.inj H
    go_enter Tryz.func119, Tryz.ntmps119
    go_wp2_with (first | ((with_reducible refine gate_dst (N := 2) rfl ?_); refine bE 2 #[.string a0_0, .int .i64 a0_1, .int .i64 a0_2, .string a0_3] 93 ?_; intro gb206 hg w36 hbox hb; have BK206 := Aside0.mk (hbox); have GE206 := bG hg; replace HB := BS hb; clear hb hbox hg) | ((with_reducible refine gate_dst (N := 3) rfl ?_); refine bE 3 #[.string a1_0, .int .i64 a1_1, .int .i64 a1_2, .string a1_3] 93 ?_; intro gb207 hg w37 hbox hb; have BK207 := Aside0.mk (hbox); have GE207 := bG hg; replace HB := BS hb; have NB206_207 := bN BK206 hg; have NB207_206 := bM BK206 hg; replace BK206 := KB BK206 hb; clear hb hbox hg; obtain ⟨hnb38, hnc38⟩ := nn NB206_207; have hcz39 := cz4 BK206; have hcz40 := cz4 BK207) | ((with_reducible refine gate_callee (f := 134) rfl ?_); refine goesL_ (some 14) rfl rfl Tryz.func134 KR rfl #[.string a0_0, .string a1_0] rfl TA ?_; (with_reducible refine (spec_l1Compare.calls k a0_0 a1_0 t208 _ A3.out).mono ?_); rintro e w41 ⟨rfl, hb⟩; refine ⟨_, rfl, ?_⟩; replace BK206 := KB BK206 hb; replace BK207 := KB BK207 hb; replace HB := BS hb; clear hb; have hcz42 := cz4 BK206) | ((with_reducible refine gate_callee (f := 160) rfl ?_); refine goesL_ (some 23) rfl rfl Tryz.func160 KR rfl #[.int .i64 a0_1, .string a0_3] rfl TA ?_; (with_reducible refine (spec_l3Bytes.calls k a0_1 a0_3 t209 t210 _ A5.out).mono ?_); rintro e w43 ⟨rfl, hb⟩; refine ⟨_, rfl, ?_⟩; replace BK206 := KB BK206 hb; replace BK207 := KB BK207 hb; replace HB := BS hb; clear hb; have hcz44 := cz4 BK207) | ((with_reducible refine gate_callee (f := 160) rfl ?_); refine goesL_ (some 31) rfl rfl Tryz.func160 KR rfl #[.int .i64 a1_1, .string a1_3] rfl TA ?_; (with_reducible refine (spec_l3Bytes.calls k a1_1 a1_3 t211 t212 _ A6.out).mono ?_); rintro e w45 ⟨rfl, hb⟩; refine ⟨_, rfl, ?_⟩; replace BK206 := KB BK206 hb; replace BK207 := KB BK207 hb; replace HB := BS hb; clear hb; have hcz46 := cz4 BK206; have hcz47 := cz4 BK207) | ((with_reducible refine gate_callee (f := 161) rfl ?_); refine goesL_ (some 53) rfl rfl Tryz.func161 KR rfl #[.bool (Op.bytesLess t209.toList t211.toList)] rfl TA ?_; (with_reducible refine (spec_l3Less.calls (Op.bytesLess t209.toList t211.toList) t214 _ A35.out).mono ?_); rintro e w' ⟨rfl, ⟨nd, rfl⟩⟩; refine ⟨_, rfl, ?_⟩))
    go_ret
    exact ⟨TE, TB⟩
  ·rw [if_neg c7] at H
   have c7b0 : (a0_1 == a1_1) = false := beq_eq_false_iff_ne.mpr c7
   have c7b1 : (a0_1 != a1_1) = true := bne_iff_ne.mpr c7
   obtain ⟨t215, A48, H⟩ := bnd H
   obtain rfl := Option.some.inj H
   go_enter Tryz.func119, Tryz.ntmps119
   go_wp2_with (first | ((with_reducible refine gate_dst (N := 2) rfl ?_); refine bE 2 #[.string a0_0, .int .i64 a0_1, .int .i64 a0_2, .string a0_3] 93 ?_; intro gb206 hg w49 hbox hb; have BK206 := Aside0.mk (hbox); have GE206 := bG hg; replace HB := BS hb; clear hb hbox hg) | ((with_reducible refine gate_dst (N := 3) rfl ?_); refine bE 3 #[.string a1_0, .int .i64 a1_1, .int .i64 a1_2, .string a1_3] 93 ?_; intro gb207 hg w50 hbox hb; have BK207 := Aside0.mk (hbox); have GE207 := bG hg; replace HB := BS hb; have NB206_207 := bN BK206 hg; have NB207_206 := bM BK206 hg; replace BK206 := KB BK206 hb; clear hb hbox hg; obtain ⟨hnb51, hnc51⟩ := nn NB206_207; have hcz52 := cz4 BK206; have hcz53 := cz4 BK207) | ((with_reducible refine gate_callee (f := 134) rfl ?_); refine goesL_ (some 14) rfl rfl Tryz.func134 KR rfl #[.string a0_0, .string a1_0] rfl TA ?_; (with_reducible refine (spec_l1Compare.calls k a0_0 a1_0 t208 _ A3.out).mono ?_); rintro e w54 ⟨rfl, hb⟩; refine ⟨_, rfl, ?_⟩; replace BK206 := KB BK206 hb; replace BK207 := KB BK207 hb; replace HB := BS hb; clear hb; have hcz55 := cz4 BK206) | ((with_reducible refine gate_callee (f := 160) rfl ?_); refine goesL_ (some 23) rfl rfl Tryz.func160 KR rfl #[.int .i64 a0_1, .string a0_3] rfl TA ?_; (with_reducible refine (spec_l3Bytes.calls k a0_1 a0_3 t209 t210 _ A5.out).mono ?_); rintro e w56 ⟨rfl, hb⟩; refine ⟨_, rfl, ?_⟩; replace BK206 := KB BK206 hb; replace BK207 := KB BK207 hb; replace HB := BS hb; clear hb; have hcz57 := cz4 BK207) | ((with_reducible refine gate_callee (f := 160) rfl ?_); refine goesL_ (some 31) rfl rfl Tryz.func160 KR rfl #[.int .i64 a1_1, .string a1_3] rfl TA ?_; (with_reducible refine (spec_l3Bytes.calls k a1_1 a1_3 t211 t212 _ A6.out).mono ?_); rintro e w58 ⟨rfl, hb⟩; refine ⟨_, rfl, ?_⟩; replace BK206 := KB BK206 hb; replace BK207 := KB BK207 hb; replace HB := BS hb; clear hb; have hcz59 := cz4 BK206; have hcz60 := cz4 BK207) | ((with_reducible refine gate_callee (f := 161) rfl ?_); refine goesL_ (some 45) rfl rfl Tryz.func161 KR rfl #[.bool (decide (a0_1 < a1_1))] rfl TA ?_; (with_reducible refine (spec_l3Less.calls (decide (a0_1 < a1_1)) t215 _ A48.out).mono ?_); rintro e w' ⟨rfl, ⟨nd, rfl⟩⟩; refine ⟨_, rfl, ?_⟩))
   go_ret
   exact ⟨TE, TB⟩
 ·rw [if_neg c4] at H
  have c4b0 : (t208 == 0) = false := beq_eq_false_iff_ne.mpr c4
  have c4b1 : (t208 != 0) = true := bne_iff_ne.mpr c4
  obtain rfl := Option.some.inj H
  go_enter Tryz.func119, Tryz.ntmps119
  go_wp2_with (first | ((with_reducible refine gate_dst (N := 2) rfl ?_); refine bE 2 #[.string a0_0, .int .i64 a0_1, .int .i64 a0_2, .string a0_3] 93 ?_; intro gb206 hg w61 hbox hb; have BK206 := Aside0.mk (hbox); have GE206 := bG hg; replace HB := BS hb; clear hb hbox hg) | ((with_reducible refine gate_dst (N := 3) rfl ?_); refine bE 3 #[.string a1_0, .int .i64 a1_1, .int .i64 a1_2, .string a1_3] 93 ?_; intro gb207 hg w62 hbox hb; have BK207 := Aside0.mk (hbox); have GE207 := bG hg; replace HB := BS hb; have NB206_207 := bN BK206 hg; have NB207_206 := bM BK206 hg; replace BK206 := KB BK206 hb; clear hb hbox hg; obtain ⟨hnb63, hnc63⟩ := nn NB206_207; have hcz64 := cz4 BK206; have hcz65 := cz4 BK207) | ((with_reducible refine gate_callee (f := 134) rfl ?_); refine goesL_ (some 14) rfl rfl Tryz.func134 KR rfl #[.string a0_0, .string a1_0] rfl TA ?_; (with_reducible refine (spec_l1Compare.calls k a0_0 a1_0 t208 _ A3.out).mono ?_); rintro e w66 ⟨rfl, hb⟩; refine ⟨_, rfl, ?_⟩; replace BK206 := KB BK206 hb; replace BK207 := KB BK207 hb; replace HB := BS hb; clear hb))
  go_ret
  exact ⟨TE, TB⟩
end
section
/-! ### spec_l10Same: function 84 -/
def spec_l10Same.l0 : Nat → List (S_Record) → List (S_Record) → Int → Int → Option (Bool)
 | 0, _, _, _, _ => none
 | k + 1, x0, x5, x6, x7 => if x7 < x6 then (if 0 ≤ x7 then (if x7 < (x5.length : Int) then ((spec_GoodRecord.f k ((rd_TRecord x5 x7).f0) ((rd_TRecord x5 x7).f1) ((rd_TRecord x5 x7).f2) ((rd_TRecord x5 x7).f3)).bind fun t908 => (if t908 = true then (if 0 < (x0.length : Int) then (if ((rd_TRecord x5 x7).f0).toList = ((rd_TRecord x0 0).f0).toList then (if ((rd_TRecord x5 x7).f1) = ((rd_TRecord x0 0).f1) then (if ((rd_TRecord x5 x7).f2) = ((rd_TRecord x0 0).f2) then (if x7 > 0 then (if 0 ≤ (wrap64 (x7 - 1)) then (if (wrap64 (x7 - 1)) < (x0.length : Int) then ((spec_l3Compare.f k ((rd_TRecord x0 (wrap64 (x7 - 1))).f0) ((rd_TRecord x0 (wrap64 (x7 - 1))).f1) ((rd_TRecord x0 (wrap64 (x7 - 1))).f2) ((rd_TRecord x0 (wrap64 (x7 - 1))).f3) ((rd_TRecord x5 x7).f0) ((rd_TRecord x5 x7).f1) ((rd_TRecord x5 x7).f2) ((rd_TRecord x5 x7).f3)).bind fun t913 => (if t913 ≥ 0 then (some false) else (spec_l10Same.l0 k x0 x5 x6 (wrap64 (x7 + 1))))) else (none)) else (none)) else (spec_l10Same.l0 k x0 x5 x6 (wrap64 (x7 + 1)))) else (some false)) else (some false)) else (some false)) else (none)) else (some false))) else (none)) else (none)) else ((spec_l1In.f (x0.length : Int) 1 12).bind fun t905 => (some t905))
def spec_l10Same.f (k : Nat) (l0 : List (S_Record)) : Option (Bool) := spec_l10Same.l0 k l0 l0 (l0.length : Int) 0
def spec_l10Same.T4 : Bool × List (List Nat × List Nat) := (true, [([], []), ([0], [0]), ([1], [1]), ([2, 1], [2]), ([3], [3]), ([4, 3], [3, 4]), ([3], [3]), ([6, 3], [3, 6]), ([7, 3], [3, 7]), ([8, 3], [3, 8]), ([5, 9, 3], [3, 5, 9]), ([3, 10], [3, 10]), ([11, 3], [11]), ([12], [12]), ([13, 12], [12, 13]), ([12], [12]), ([15, 12], [12, 15]), ([16, 12], [12, 16]), ([17, 12], [12, 17]), ([14, 18, 12], [12, 14, 18]), ([12, 19], [12, 19]), ([20, 12], [20]), ([21], [21]), ([22, 21], [21, 22]), ([21], [21]), ([24, 21], [21, 24]), ([25, 21], [21, 25]), ([26, 21], [21, 26]), ([23, 27, 21], [21, 23, 27]), ([21, 28], [21, 28]), ([29, 21], [29]), ([30], [30]), ([31, 30], [30, 31]), ([32, 30, 30], [30, 32]), ([33], [33]), ([33], [33]), ([35, 33], [33, 35]), ([34, 36, 33], [33, 34, 36]), ([37, 33], [33, 37]), ([33], [33]), ([38, 39, 33, 33], [33, 38, 39]), ([40, 33], [33, 40]), ([33, 41, 30], [30, 33, 41]), ([30, 42], [30, 42])])
def spec_l10Same.B4 : List Nat := [0, 1, 3, 7, 15, 31, 15, 79, 207, 463, 1023, 2047, 4095, 8191, 16383, 8191, 40959, 106495, 237567, 524287, 1048575, 2097151, 4194303, 8388607, 4194303, 20971519, 54525951, 121634815, 268435455, 536870911, 1073741823, 2147483647, 4294967295, 8589934591, 17179869183, 17179869183, 51539607551, 137438953471, 274877906943, 17179869183, 1099511627775, 2199023255551, 4398046511103, 8796093022207]
theorem spec_l10Same.tab4 : rtab .any (opsOf Tryz.f84 4) = spec_l10Same.T4 := by kernel_rfl
theorem spec_l10Same.bits4 : waitsOk spec_l10Same.T4.2 spec_l10Same.B4 = true := by kernel_rfl
theorem spec_l10Same.calls (k : Nat) (A0 : Option Addr) (c0 : Nat) (l0 : List (S_Record)) (r : Bool) (w : World) (hr0 : Kd.C k_Record w A0 l0.length l0) (hc0 : l0.length ≤ c0) (h : spec_l10Same.f k l0 = some r) :
  Calls Tryz.prog 84 #[.slice A0 l0.length c0] w fun e w' => e = .returned (.bool r) ∧ Below w.heap.size w w' := by
 have hu93 := Tryz.underlying93
 have HR0 := Aside0.mk hr0
 have HC0 := Aside0.mk hc0
 clear hr0 hc0
 have HB := Aside0.mk (Below.refl w.heap.size w)
 have H : (spec_l10Same.l0 k l0 l0 (l0.length : Int) 0) = some r := h
 clear h
 have H' := Aside0.mk H
 clear H
 go_enter Tryz.func84, Tryz.ntmps84
 go_wp2
 go_loopg [7] k (fun kq v7 w' => ∃ (x7_1 : Int), v7 = .int .i64 x7_1 ∧ Aside0 (spec_l10Same.l0 kq l0 l0 (l0.length : Int) x7_1 = some r) ∧ Aside0 (kq ≤ k) ∧ Aside0 (Below w.heap.size w w'))
 case atStart => exact ⟨(0), TF, H', ⟨Nat.le_refl _⟩, ⟨TB⟩⟩
 case round =>
  clear H'
  obtain ⟨x7_1, rfl, HA, HK1, HB⟩ := hrel
  cases gk with
  | zero => exact absurd HA.out (by simp [spec_l10Same.l0])
  | succ k1 =>
   have H := HA.out
   clear HA
   simp only [spec_l10Same.l0] at H
   by_cases c2 : x7_1 < (l0.length : Int)
   ·rw [if_pos c2] at H
    have c2b0 : decide (x7_1 < (l0.length : Int)) = true := decide_eq_true c2
    clear c2
    obtain ⟨c3, H⟩ := ifn H
    have c3b0 : decide (0 ≤ x7_1) = true := decide_eq_true c3
    clear c3
    obtain ⟨c4, H⟩ := ifn H
    have c4b0 : decide (x7_1 < (l0.length : Int)) = true := decide_eq_true c4
    clear c4
    obtain ⟨t908, A5, H⟩ := bnd H
    by_cases c6 : t908 = true
    ·subst c6
     replace H := ift H
     obtain ⟨c7, H⟩ := ifn H
     have c7b0 : decide (0 < (l0.length : Int)) = true := decide_eq_true c7
     have c7b1 : decide (0 < l0.length) = true := decide_eq_true (by omega)
     clear c7
     by_cases c8 : ((rd_TRecord l0 x7_1).f0).toList = ((rd_TRecord l0 0).f0).toList
     ·rw [if_pos c8] at H
      have c8b0 : (((rd_TRecord l0 x7_1).f0).toList == ((rd_TRecord l0 0).f0).toList) = true := beq_iff_eq.mpr c8
      have c8b1 : (((rd_TRecord l0 x7_1).f0).toList != ((rd_TRecord l0 0).f0).toList) = false := bne_eq_false_iff_eq.mpr c8
      clear c8
      by_cases c9 : ((rd_TRecord l0 x7_1).f1) = ((rd_TRecord l0 0).f1)
      ·rw [if_pos c9] at H
       have c9b0 : (((rd_TRecord l0 x7_1).f1) == ((rd_TRecord l0 0).f1)) = true := beq_iff_eq.mpr c9
       have c9b1 : (((rd_TRecord l0 x7_1).f1) != ((rd_TRecord l0 0).f1)) = false := bne_eq_false_iff_eq.mpr c9
       clear c9
       by_cases c10 : ((rd_TRecord l0 x7_1).f2) = ((rd_TRecord l0 0).f2)
       ·rw [if_pos c10] at H
        have c10b0 : (((rd_TRecord l0 x7_1).f2) == ((rd_TRecord l0 0).f2)) = true := beq_iff_eq.mpr c10
        have c10b1 : (((rd_TRecord l0 x7_1).f2) != ((rd_TRecord l0 0).f2)) = false := bne_eq_false_iff_eq.mpr c10
        clear c10
        by_cases c11 : x7_1 > 0
        ·rw [if_pos c11] at H
         have c11b0 : decide (0 < x7_1) = true := decide_eq_true c11
         clear c11
         obtain ⟨ji12, hji12⟩ : ∃ j_ : Int, (wrap64 (x7_1 - 1)) = j_ := ⟨_, rfl⟩
         replace H : (if 0 ≤ (ji12) then (if (ji12) < (l0.length : Int) then ((spec_l3Compare.f k1 ((rd_TRecord l0 (ji12)).f0) ((rd_TRecord l0 (ji12)).f1) ((rd_TRecord l0 (ji12)).f2) ((rd_TRecord l0 (ji12)).f3) ((rd_TRecord l0 x7_1).f0) ((rd_TRecord l0 x7_1).f1) ((rd_TRecord l0 x7_1).f2) ((rd_TRecord l0 x7_1).f3)).bind fun t913 => (if t913 ≥ 0 then (some false) else (spec_l10Same.l0 k1 l0 l0 (l0.length : Int) (wrap64 (x7_1 + 1))))) else (none)) else (none)) = some r := by first | (rw [hji12] at H; exact H) | (simp only [hji12] at H ⊢; exact H)
         (try rw [hji12] at A5)
         have hji12w : (IntKind.i64.wrap (x7_1 - 1)) = ji12 := (i64_w _).trans hji12
         obtain ⟨c13, H⟩ := ifn H
         have c13b0 : decide (0 ≤ (ji12)) = true := decide_eq_true c13
         clear c13
         obtain ⟨c14, H⟩ := ifn H
         have c14b0 : decide ((ji12) < (l0.length : Int)) = true := decide_eq_true c14
         clear c14
         obtain ⟨t913, A15, H⟩ := bnd H
         by_cases c16 : t913 ≥ 0
         ·rw [if_pos c16] at H
          have c16b0 : decide (0 ≤ t913) = true := decide_eq_true c16
          clear c16
          obtain rfl := Option.some.inj H
          have p906 : 0 ≤ (x7_1 : Int) := TD
          have q906 : x7_1 < (l0.length : Int) := TD
          obtain ⟨ad906, e906, hx906_0, hx906_1, hx906_2, hx906_3⟩ := at_TRecord (Kd.C_below HR0.out HB.out) x7_1 p906 q906
          cases e906
          replace p906 := eq_true p906
          replace q906 := eq_true q906
          try go_wp2_with (first | ((with_reducible refine gate_dst (N := 4) rfl ?_); refine bE 4 #[.string (⟨#[]⟩ : ByteArray), .int .i64 0, .int .i64 0, .string (⟨#[]⟩ : ByteArray)] 93 ?_; intro gb907 hg w17 hbox hb; have BK907 := Aside0.mk (hbox); have GE907 := bG hg; replace HB := BS hb; clear hb hbox hg; have hcz18 := cz4 BK907))
          have n0_ : Aside0 (((((w17.setCell ⟨gb907, 0, none⟩ (.string ((rd_TRecord l0 x7_1).f0))).setCell ⟨gb907, 1, none⟩ (.int .i64 ((rd_TRecord l0 x7_1).f1))).setCell ⟨gb907, 2, none⟩ (.int .i64 ((rd_TRecord l0 x7_1).f2))).setCell ⟨gb907, 3, none⟩ (.string ((rd_TRecord l0 x7_1).f3))).heap[gb907]? = some (.cells #[.string ((rd_TRecord l0 x7_1).f0), .int .i64 ((rd_TRecord l0 x7_1).f1), .int .i64 ((rd_TRecord l0 x7_1).f2), .string ((rd_TRecord l0 x7_1).f3)] 93 (0, 0))) := ⟨TS⟩
          have n1_ : Aside0 (Below w.heap.size w ((((w17.setCell ⟨gb907, 0, none⟩ (.string ((rd_TRecord l0 x7_1).f0))).setCell ⟨gb907, 1, none⟩ (.int .i64 ((rd_TRecord l0 x7_1).f1))).setCell ⟨gb907, 2, none⟩ (.int .i64 ((rd_TRecord l0 x7_1).f2))).setCell ⟨gb907, 3, none⟩ (.string ((rd_TRecord l0 x7_1).f3)))) := ⟨TB⟩
          (try clear BK907)
          (try clear HB)
          generalize ((((w17.setCell ⟨gb907, 0, none⟩ (.string ((rd_TRecord l0 x7_1).f0))).setCell ⟨gb907, 1, none⟩ (.int .i64 ((rd_TRecord l0 x7_1).f1))).setCell ⟨gb907, 2, none⟩ (.int .i64 ((rd_TRecord l0 x7_1).f2))).setCell ⟨gb907, 3, none⟩ (.string ((rd_TRecord l0 x7_1).f3))) = w19 at n0_ n1_ ⊢
          have BK907 := n0_
          have HB := n1_
          clear n0_ n1_
          replace BK907 := Aside0.mk (blk_drew BK907.out)
          replace HB := Aside0.mk (below_drew1 HB.out)
          have p909 : 0 ≤ (0 : Int) := (by omega)
          have q909 : 0 < (l0.length : Int) := TD
          obtain ⟨ad909, e909, hx909_0, hx909_1, hx909_2, hx909_3⟩ := at_TRecord HR0.out 0 p909 q909
          have hw909_3 := hx909_3
          (try rw [show ((0 : Int)).toNat = 0 from rfl] at hw909_3)
          (try rw [show 0 * 4 = 0 from rfl] at hw909_3)
          (try rw [Addr.add_zero'] at hw909_3)
          have hw909_2 := hx909_2
          (try rw [show ((0 : Int)).toNat = 0 from rfl] at hw909_2)
          (try rw [show 0 * 4 = 0 from rfl] at hw909_2)
          (try rw [Addr.add_zero'] at hw909_2)
          have hw909_1 := hx909_1
          (try rw [show ((0 : Int)).toNat = 0 from rfl] at hw909_1)
          (try rw [show 0 * 4 = 0 from rfl] at hw909_1)
          (try rw [Addr.add_zero'] at hw909_1)
          have hw909_0 := hx909_0
          (try rw [show ((0 : Int)).toNat = 0 from rfl] at hw909_0)
          (try rw [show 0 * 4 = 0 from rfl] at hw909_0)
          (try rw [Addr.add_zero'] at hw909_0)
          obtain rfl : ad906 = ad909 := (by injection e909)
          have qi909 : (0 < l0.length) = True := eq_true (by omega)
          (try rw [show ((0 : Int)).toNat = 0 from rfl] at hx909_0)
          (try rw [show 0 * 4 = 0 from rfl] at hx909_0)
          (try rw [Addr.add_zero'] at hx909_0)
          (try rw [show ((0 : Int)).toNat = 0 from rfl] at hx909_1)
          (try rw [show 0 * 4 = 0 from rfl] at hx909_1)
          (try rw [Addr.add_zero'] at hx909_1)
          (try rw [show ((0 : Int)).toNat = 0 from rfl] at hx909_2)
          (try rw [show 0 * 4 = 0 from rfl] at hx909_2)
          (try rw [Addr.add_zero'] at hx909_2)
          (try rw [show ((0 : Int)).toNat = 0 from rfl] at hx909_3)
          (try rw [show 0 * 4 = 0 from rfl] at hx909_3)
          (try rw [Addr.add_zero'] at hx909_3)
          replace hx909_0 := hBc HB hx909_0
          replace hx909_1 := hBc HB hx909_1
          replace hx909_2 := hBc HB hx909_2
          replace hx909_3 := hBc HB hx909_3
          replace p909 := eq_true p909
          replace q909 := eq_true q909
          have p910 : 0 ≤ (0 : Int) := (by omega)
          have q910 : 0 < (l0.length : Int) := TD
          obtain ⟨ad910, e910, hx910_0, hx910_1, hx910_2, hx910_3⟩ := at_TRecord HR0.out 0 p910 q910
          have hw910_3 := hx910_3
          (try rw [show ((0 : Int)).toNat = 0 from rfl] at hw910_3)
          (try rw [show 0 * 4 = 0 from rfl] at hw910_3)
          (try rw [Addr.add_zero'] at hw910_3)
          have hw910_2 := hx910_2
          (try rw [show ((0 : Int)).toNat = 0 from rfl] at hw910_2)
          (try rw [show 0 * 4 = 0 from rfl] at hw910_2)
          (try rw [Addr.add_zero'] at hw910_2)
          have hw910_1 := hx910_1
          (try rw [show ((0 : Int)).toNat = 0 from rfl] at hw910_1)
          (try rw [show 0 * 4 = 0 from rfl] at hw910_1)
          (try rw [Addr.add_zero'] at hw910_1)
          have hw910_0 := hx910_0
          (try rw [show ((0 : Int)).toNat = 0 from rfl] at hw910_0)
          (try rw [show 0 * 4 = 0 from rfl] at hw910_0)
          (try rw [Addr.add_zero'] at hw910_0)
          obtain rfl : ad906 = ad910 := (by injection e910)
          have qi910 : (0 < l0.length) = True := eq_true (by omega)
          (try rw [show ((0 : Int)).toNat = 0 from rfl] at hx910_0)
          (try rw [show 0 * 4 = 0 from rfl] at hx910_0)
          (try rw [Addr.add_zero'] at hx910_0)
          (try rw [show ((0 : Int)).toNat = 0 from rfl] at hx910_1)
          (try rw [show 0 * 4 = 0 from rfl] at hx910_1)
          (try rw [Addr.add_zero'] at hx910_1)
          (try rw [show ((0 : Int)).toNat = 0 from rfl] at hx910_2)
          (try rw [show 0 * 4 = 0 from rfl] at hx910_2)
          (try rw [Addr.add_zero'] at hx910_2)
          (try rw [show ((0 : Int)).toNat = 0 from rfl] at hx910_3)
          (try rw [show 0 * 4 = 0 from rfl] at hx910_3)
          (try rw [Addr.add_zero'] at hx910_3)
          replace hx910_0 := hBc HB hx910_0
          replace hx910_1 := hBc HB hx910_1
          replace hx910_2 := hBc HB hx910_2
          replace hx910_3 := hBc HB hx910_3
          replace p910 := eq_true p910
          replace q910 := eq_true q910
          have p911 : 0 ≤ (0 : Int) := (by omega)
          have q911 : 0 < (l0.length : Int) := TD
          obtain ⟨ad911, e911, hx911_0, hx911_1, hx911_2, hx911_3⟩ := at_TRecord HR0.out 0 p911 q911
          have hw911_3 := hx911_3
          (try rw [show ((0 : Int)).toNat = 0 from rfl] at hw911_3)
          (try rw [show 0 * 4 = 0 from rfl] at hw911_3)
          (try rw [Addr.add_zero'] at hw911_3)
          have hw911_2 := hx911_2
          (try rw [show ((0 : Int)).toNat = 0 from rfl] at hw911_2)
          (try rw [show 0 * 4 = 0 from rfl] at hw911_2)
          (try rw [Addr.add_zero'] at hw911_2)
          have hw911_1 := hx911_1
          (try rw [show ((0 : Int)).toNat = 0 from rfl] at hw911_1)
          (try rw [show 0 * 4 = 0 from rfl] at hw911_1)
          (try rw [Addr.add_zero'] at hw911_1)
          have hw911_0 := hx911_0
          (try rw [show ((0 : Int)).toNat = 0 from rfl] at hw911_0)
          (try rw [show 0 * 4 = 0 from rfl] at hw911_0)
          (try rw [Addr.add_zero'] at hw911_0)
          obtain rfl : ad906 = ad911 := (by injection e911)
          have qi911 : (0 < l0.length) = True := eq_true (by omega)
          (try rw [show ((0 : Int)).toNat = 0 from rfl] at hx911_0)
          (try rw [show 0 * 4 = 0 from rfl] at hx911_0)
          (try rw [Addr.add_zero'] at hx911_0)
          (try rw [show ((0 : Int)).toNat = 0 from rfl] at hx911_1)
          (try rw [show 0 * 4 = 0 from rfl] at hx911_1)
          (try rw [Addr.add_zero'] at hx911_1)
          (try rw [show ((0 : Int)).toNat = 0 from rfl] at hx911_2)
          (try rw [show 0 * 4 = 0 from rfl] at hx911_2)
          (try rw [Addr.add_zero'] at hx911_2)
          (try rw [show ((0 : Int)).toNat = 0 from rfl] at hx911_3)
          (try rw [show 0 * 4 = 0 from rfl] at hx911_3)
          (try rw [Addr.add_zero'] at hx911_3)
          replace hx911_0 := hBc HB hx911_0
          replace hx911_1 := hBc HB hx911_1
          replace hx911_2 := hBc HB hx911_2
          replace hx911_3 := hBc HB hx911_3
          replace p911 := eq_true p911
          replace q911 := eq_true q911
          have p912 : 0 ≤ ((ji12) : Int) := TD
          have q912 : (ji12) < (l0.length : Int) := TD
          obtain ⟨ad912, e912, hx912_0, hx912_1, hx912_2, hx912_3⟩ := at_TRecord HR0.out (ji12) p912 q912
          have hw912_3 := hx912_3
          have hw912_2 := hx912_2
          have hw912_1 := hx912_1
          have hw912_0 := hx912_0
          obtain rfl : ad906 = ad912 := (by injection e912)
          replace hx912_0 := hBc HB hx912_0
          replace hx912_1 := hBc HB hx912_1
          replace hx912_2 := hBc HB hx912_2
          replace hx912_3 := hBc HB hx912_3
          replace p912 := eq_true p912
          replace q912 := eq_true q912
          refine start_ (n := 44) (S := fun w' => w'.cell? ⟨gb907, 0, none⟩ = some (.string ((rd_TRecord l0 x7_1).f0)) ∧ w'.cell? ⟨gb907, 1, none⟩ = some (.int .i64 ((rd_TRecord l0 x7_1).f1)) ∧ w'.cell? ⟨gb907, 2, none⟩ = some (.int .i64 ((rd_TRecord l0 x7_1).f2)) ∧ w'.cell? ⟨gb907, 3, none⟩ = some (.string ((rd_TRecord l0 x7_1).f3)) ∧ w'.cell? ad906 = some (.string ((rd_TRecord l0 0).f0)) ∧ w'.cell? ⟨ad906.block, ad906.off + 1, none⟩ = some (.int .i64 ((rd_TRecord l0 0).f1)) ∧ w'.cell? ⟨ad906.block, ad906.off + 2, none⟩ = some (.int .i64 ((rd_TRecord l0 0).f2)) ∧ w'.cell? ⟨ad906.block, ad906.off + 3, none⟩ = some (.string ((rd_TRecord l0 0).f3)) ∧ w'.cell? ad906 = some (.string ((rd_TRecord l0 0).f0)) ∧ w'.cell? ⟨ad906.block, ad906.off + 1, none⟩ = some (.int .i64 ((rd_TRecord l0 0).f1)) ∧ w'.cell? ⟨ad906.block, ad906.off + 2, none⟩ = some (.int .i64 ((rd_TRecord l0 0).f2)) ∧ w'.cell? ⟨ad906.block, ad906.off + 3, none⟩ = some (.string ((rd_TRecord l0 0).f3)) ∧ w'.cell? ad906 = some (.string ((rd_TRecord l0 0).f0)) ∧ w'.cell? ⟨ad906.block, ad906.off + 1, none⟩ = some (.int .i64 ((rd_TRecord l0 0).f1)) ∧ w'.cell? ⟨ad906.block, ad906.off + 2, none⟩ = some (.int .i64 ((rd_TRecord l0 0).f2)) ∧ w'.cell? ⟨ad906.block, ad906.off + 3, none⟩ = some (.string ((rd_TRecord l0 0).f3)) ∧ w'.cell? (ad906.add (((ji12)).toNat * 4)) = some (.string ((rd_TRecord l0 (ji12)).f0)) ∧ w'.cell? ⟨(ad906.add (((ji12)).toNat * 4)).block, (ad906.add (((ji12)).toNat * 4)).off + 1, none⟩ = some (.int .i64 ((rd_TRecord l0 (ji12)).f1)) ∧ w'.cell? ⟨(ad906.add (((ji12)).toNat * 4)).block, (ad906.add (((ji12)).toNat * 4)).off + 2, none⟩ = some (.int .i64 ((rd_TRecord l0 (ji12)).f2)) ∧ w'.cell? ⟨(ad906.add (((ji12)).toNat * 4)).block, (ad906.add (((ji12)).toNat * 4)).off + 3, none⟩ = some (.string ((rd_TRecord l0 (ji12)).f3))) (ds := []) #[false, false, false, false, false, false, false, false, false, false, false, false, false, false, false, false, false, false, false, false, false, false, false, false, false, false, false, false, false, false, false, false, false, false, false, false, false, false, false, false, false, false, false, false] KR rfl rfl ⟨bc 0 BK907, bc 1 BK907, bc 2 BK907, bc 3 BK907, ((HB.out.cell (World.block_lt_of_cell? w _ hw909_0)).trans hw909_0), ((HB.out.cell (World.block_lt_of_cell? w _ hw909_1)).trans hw909_1), ((HB.out.cell (World.block_lt_of_cell? w _ hw909_2)).trans hw909_2), ((HB.out.cell (World.block_lt_of_cell? w _ hw909_3)).trans hw909_3), ((HB.out.cell (World.block_lt_of_cell? w _ hw910_0)).trans hw910_0), ((HB.out.cell (World.block_lt_of_cell? w _ hw910_1)).trans hw910_1), ((HB.out.cell (World.block_lt_of_cell? w _ hw910_2)).trans hw910_2), ((HB.out.cell (World.block_lt_of_cell? w _ hw910_3)).trans hw910_3), ((HB.out.cell (World.block_lt_of_cell? w _ hw911_0)).trans hw911_0), ((HB.out.cell (World.block_lt_of_cell? w _ hw911_1)).trans hw911_1), ((HB.out.cell (World.block_lt_of_cell? w _ hw911_2)).trans hw911_2), ((HB.out.cell (World.block_lt_of_cell? w _ hw911_3)).trans hw911_3), ((HB.out.cell (World.block_lt_of_cell? w _ hw912_0)).trans hw912_0), ((HB.out.cell (World.block_lt_of_cell? w _ hw912_1)).trans hw912_1), ((HB.out.cell (World.block_lt_of_cell? w _ hw912_2)).trans hw912_2), ((HB.out.cell (World.block_lt_of_cell? w _ hw912_3)).trans hw912_3)⟩ (fun hHeld => ?_); refine with_tabW spec_l10Same.tab4 spec_l10Same.bits4 (fun HT_ HW_ => ?_)
          generalize w19.drew = w20 at BK907 HB hx909_0 hx909_1 hx909_2 hx909_3 hx910_0 hx910_1 hx910_2 hx910_3 hx911_0 hx911_1 hx911_2 hx911_3 hx912_0 hx912_1 hx912_2 hx912_3 hHeld ⊢
          refine tA 0 12 (mL 44 1) HT_ HW_ hHeld rfl rfl (by rintro w' ⟨s0, s1, s2, s3, s4, s5, s6, s7, s8, s9, s10, s11, s12, s13, s14, s15, s16, s17, s18, s19⟩; go_simp; with_reducible rfl) ?_
          refine one_ (i := 1) (N := some 13) (mL 44 3) rfl rfl (one_of HT_.out KR) (by decide) (fun K hK => ?_)
          refine goes_ Tryz.func118 KR rfl #[.agg #[.string ((rd_TRecord l0 x7_1).f0), .int .i64 ((rd_TRecord l0 x7_1).f1), .int .i64 ((rd_TRecord l0 x7_1).f2), .string ((rd_TRecord l0 x7_1).f3)]] (by rfl) rfl rfl TA ?_
          with_reducible refine (spec_GoodRecord.calls k1 ((rd_TRecord l0 x7_1).f0) ((rd_TRecord l0 x7_1).f1) ((rd_TRecord l0 x7_1).f2) ((rd_TRecord l0 x7_1).f3) true _ A5.out).mono ?_
          rintro e w21 ⟨rfl, hb⟩
          refine ⟨_, rfl, ?_⟩
          replace BK907 := KB BK907 hb
          replace HB := BS hb
          (try clear hb)
          (try clear hb2)
          (try clear hk)
          (try clear hi)
          refine hK.out _ _ ⟨bc 0 BK907, bc 1 BK907, bc 2 BK907, bc 3 BK907, ((HB.out.cell (World.block_lt_of_cell? w _ hw909_0)).trans hw909_0), ((HB.out.cell (World.block_lt_of_cell? w _ hw909_1)).trans hw909_1), ((HB.out.cell (World.block_lt_of_cell? w _ hw909_2)).trans hw909_2), ((HB.out.cell (World.block_lt_of_cell? w _ hw909_3)).trans hw909_3), ((HB.out.cell (World.block_lt_of_cell? w _ hw910_0)).trans hw910_0), ((HB.out.cell (World.block_lt_of_cell? w _ hw910_1)).trans hw910_1), ((HB.out.cell (World.block_lt_of_cell? w _ hw910_2)).trans hw910_2), ((HB.out.cell (World.block_lt_of_cell? w _ hw910_3)).trans hw910_3), ((HB.out.cell (World.block_lt_of_cell? w _ hw911_0)).trans hw911_0), ((HB.out.cell (World.block_lt_of_cell? w _ hw911_1)).trans hw911_1), ((HB.out.cell (World.block_lt_of_cell? w _ hw911_2)).trans hw911_2), ((HB.out.cell (World.block_lt_of_cell? w _ hw911_3)).trans hw911_3), ((HB.out.cell (World.block_lt_of_cell? w _ hw912_0)).trans hw912_0), ((HB.out.cell (World.block_lt_of_cell? w _ hw912_1)).trans hw912_1), ((HB.out.cell (World.block_lt_of_cell? w _ hw912_2)).trans hw912_2), ((HB.out.cell (World.block_lt_of_cell? w _ hw912_3)).trans hw912_3)⟩ (fun hHeld => ?_)
          clear hK K
          refine nA ?_
          refine pA 2 14 (mL 44 7) HT_ rfl rfl ?_
          refine pA 3 15 (mL 44 15) HT_ rfl rfl ?_
          refine pA 4 16 (mL 44 31) HT_ rfl rfl ?_
          refine pA 6 18 (mL 44 95) HT_ rfl rfl ?_
          refine pA 7 19 (mL 44 223) HT_ rfl rfl ?_
          refine pA 8 20 (mL 44 479) HT_ rfl rfl ?_
          refine tA 5 17 (mL 44 511) HT_ HW_ hHeld rfl rfl (by rintro w' ⟨s0, s1, s2, s3, s4, s5, s6, s7, s8, s9, s10, s11, s12, s13, s14, s15, s16, s17, s18, s19⟩; go_simp; with_reducible rfl) ?_
          refine tA 9 21 (mL 44 1023) HT_ HW_ hHeld rfl rfl (by rintro w' ⟨s0, s1, s2, s3, s4, s5, s6, s7, s8, s9, s10, s11, s12, s13, s14, s15, s16, s17, s18, s19⟩; go_simp; with_reducible rfl) ?_
          refine pA 10 22 (mL 44 2047) HT_ rfl rfl ?_
          refine pA 11 23 (mL 44 4095) HT_ rfl rfl ?_
          refine pA 12 24 (mL 44 8191) HT_ rfl rfl ?_
          refine pA 13 25 (mL 44 16383) HT_ rfl rfl ?_
          refine pA 15 27 (mL 44 49151) HT_ rfl rfl ?_
          refine pA 16 28 (mL 44 114687) HT_ rfl rfl ?_
          refine pA 17 29 (mL 44 245759) HT_ rfl rfl ?_
          refine tA 14 26 (mL 44 262143) HT_ HW_ hHeld rfl rfl (by rintro w' ⟨s0, s1, s2, s3, s4, s5, s6, s7, s8, s9, s10, s11, s12, s13, s14, s15, s16, s17, s18, s19⟩; go_simp; with_reducible rfl) ?_
          refine tA 18 30 (mL 44 524287) HT_ HW_ hHeld rfl rfl (by rintro w' ⟨s0, s1, s2, s3, s4, s5, s6, s7, s8, s9, s10, s11, s12, s13, s14, s15, s16, s17, s18, s19⟩; go_simp; with_reducible rfl) ?_
          refine pA 19 31 (mL 44 1048575) HT_ rfl rfl ?_
          refine pA 20 32 (mL 44 2097151) HT_ rfl rfl ?_
          refine pA 21 33 (mL 44 4194303) HT_ rfl rfl ?_
          refine pA 22 34 (mL 44 8388607) HT_ rfl rfl ?_
          refine pA 24 36 (mL 44 25165823) HT_ rfl rfl ?_
          refine pA 25 37 (mL 44 58720255) HT_ rfl rfl ?_
          refine pA 26 38 (mL 44 125829119) HT_ rfl rfl ?_
          refine tA 23 35 (mL 44 134217727) HT_ HW_ hHeld rfl rfl (by rintro w' ⟨s0, s1, s2, s3, s4, s5, s6, s7, s8, s9, s10, s11, s12, s13, s14, s15, s16, s17, s18, s19⟩; go_simp; with_reducible rfl) ?_
          refine tA 27 39 (mL 44 268435455) HT_ HW_ hHeld rfl rfl (by rintro w' ⟨s0, s1, s2, s3, s4, s5, s6, s7, s8, s9, s10, s11, s12, s13, s14, s15, s16, s17, s18, s19⟩; go_simp; with_reducible rfl) ?_
          refine pA 28 40 (mL 44 536870911) HT_ rfl rfl ?_
          refine pA 29 41 (mL 44 1073741823) HT_ rfl rfl ?_
          refine pA 30 42 (mL 44 2147483647) HT_ rfl rfl ?_
          refine pA 31 43 (mL 44 4294967295) HT_ rfl rfl ?_
          refine pA 32 44 (mL 44 8589934591) HT_ rfl rfl ?_
          refine pA 33 45 (mL 44 17179869183) HT_ rfl rfl ?_
          refine pA 34 46 (mL 44 34359738367) HT_ rfl rfl ?_
          refine pA 35 47 (mL 44 68719476735) HT_ rfl rfl ?_
          refine pA 36 48 (mL 44 137438953471) HT_ rfl rfl ?_
          refine pA 37 49 (mL 44 274877906943) HT_ rfl rfl ?_
          refine tA 38 50 (mL 44 549755813887) HT_ HW_ hHeld rfl rfl (by rintro w' ⟨s0, s1, s2, s3, s4, s5, s6, s7, s8, s9, s10, s11, s12, s13, s14, s15, s16, s17, s18, s19⟩; go_simp; with_reducible rfl) ?_
          refine tA 39 51 (mL 44 1099511627775) HT_ HW_ hHeld rfl rfl (by rintro w' ⟨s0, s1, s2, s3, s4, s5, s6, s7, s8, s9, s10, s11, s12, s13, s14, s15, s16, s17, s18, s19⟩; go_simp; with_reducible rfl) ?_
          refine one_ (i := 40) (N := some 52) (mL 44 2199023255551) rfl rfl (one_of HT_.out KR) (by decide) (fun K hK => ?_)
          refine goes_ Tryz.func119 KR rfl #[.agg #[.string ((rd_TRecord l0 (ji12)).f0), .int .i64 ((rd_TRecord l0 (ji12)).f1), .int .i64 ((rd_TRecord l0 (ji12)).f2), .string ((rd_TRecord l0 (ji12)).f3)], .agg #[.string ((rd_TRecord l0 x7_1).f0), .int .i64 ((rd_TRecord l0 x7_1).f1), .int .i64 ((rd_TRecord l0 x7_1).f2), .string ((rd_TRecord l0 x7_1).f3)]] (by rfl) rfl rfl (by (try simp only [List.map_toArray, List.map_cons, List.map_nil]); first | done | (simp only [hji12]; rfl) | rfl | (simp only [List.length_drop, List.length_take]; rfl)) ?_
          with_reducible refine (spec_l3Compare.calls k1 ((rd_TRecord l0 (ji12)).f0) ((rd_TRecord l0 (ji12)).f1) ((rd_TRecord l0 (ji12)).f2) ((rd_TRecord l0 (ji12)).f3) ((rd_TRecord l0 x7_1).f0) ((rd_TRecord l0 x7_1).f1) ((rd_TRecord l0 x7_1).f2) ((rd_TRecord l0 x7_1).f3) t913 _ A15.out).mono ?_
          rintro e w22 ⟨rfl, hb⟩
          refine ⟨_, rfl, ?_⟩
          replace BK907 := KB BK907 hb
          replace HB := BS hb
          (try clear hb)
          (try clear hb2)
          (try clear hk)
          (try clear hi)
          refine hK.out _ _ ⟨bc 0 BK907, bc 1 BK907, bc 2 BK907, bc 3 BK907, ((HB.out.cell (World.block_lt_of_cell? w _ hw909_0)).trans hw909_0), ((HB.out.cell (World.block_lt_of_cell? w _ hw909_1)).trans hw909_1), ((HB.out.cell (World.block_lt_of_cell? w _ hw909_2)).trans hw909_2), ((HB.out.cell (World.block_lt_of_cell? w _ hw909_3)).trans hw909_3), ((HB.out.cell (World.block_lt_of_cell? w _ hw910_0)).trans hw910_0), ((HB.out.cell (World.block_lt_of_cell? w _ hw910_1)).trans hw910_1), ((HB.out.cell (World.block_lt_of_cell? w _ hw910_2)).trans hw910_2), ((HB.out.cell (World.block_lt_of_cell? w _ hw910_3)).trans hw910_3), ((HB.out.cell (World.block_lt_of_cell? w _ hw911_0)).trans hw911_0), ((HB.out.cell (World.block_lt_of_cell? w _ hw911_1)).trans hw911_1), ((HB.out.cell (World.block_lt_of_cell? w _ hw911_2)).trans hw911_2), ((HB.out.cell (World.block_lt_of_cell? w _ hw911_3)).trans hw911_3), ((HB.out.cell (World.block_lt_of_cell? w _ hw912_0)).trans hw912_0), ((HB.out.cell (World.block_lt_of_cell? w _ hw912_1)).trans hw912_1), ((HB.out.cell (World.block_lt_of_cell? w _ hw912_2)).trans hw912_2), ((HB.out.cell (World.block_lt_of_cell? w _ hw912_3)).trans hw912_3)⟩ (fun hHeld => ?_)
          clear hK K
          refine nA ?_
          refine pA 41 53 (mL 44 4398046511103) HT_ rfl rfl ?_
          refine pA 42 54 (mL 44 8796093022207) HT_ rfl rfl ?_
          refine pA 43 55 (mL 44 17592186044415) HT_ rfl rfl ?_
          refine done_ (done_of HT_.out KR) ?_
          try go_wp2
          go_ret
          exact ⟨by first | rfl | (simp [errW_none, errW_some] <;> rfl) | (simp only [← hji12]; first | rfl | (simp [errW_none, errW_some] <;> rfl)) | (simp [*, errW_none, errW_some] <;> rfl), TB⟩
         ·rw [if_neg c16] at H
          have c16b0 : decide (0 ≤ t913) = false := decide_eq_false c16
          clear c16
          have H' := Aside0.mk H
          clear H
          have p906 : 0 ≤ (x7_1 : Int) := TD
          have q906 : x7_1 < (l0.length : Int) := TD
          obtain ⟨ad906, e906, hx906_0, hx906_1, hx906_2, hx906_3⟩ := at_TRecord (Kd.C_below HR0.out HB.out) x7_1 p906 q906
          cases e906
          replace p906 := eq_true p906
          replace q906 := eq_true q906
          try go_wp2_with (first | ((with_reducible refine gate_dst (N := 4) rfl ?_); refine bE 4 #[.string (⟨#[]⟩ : ByteArray), .int .i64 0, .int .i64 0, .string (⟨#[]⟩ : ByteArray)] 93 ?_; intro gb907 hg w23 hbox hb; have BK907 := Aside0.mk (hbox); have GE907 := bG hg; replace HB := BS hb; clear hb hbox hg; have hcz24 := cz4 BK907))
          have n0_ : Aside0 (((((w23.setCell ⟨gb907, 0, none⟩ (.string ((rd_TRecord l0 x7_1).f0))).setCell ⟨gb907, 1, none⟩ (.int .i64 ((rd_TRecord l0 x7_1).f1))).setCell ⟨gb907, 2, none⟩ (.int .i64 ((rd_TRecord l0 x7_1).f2))).setCell ⟨gb907, 3, none⟩ (.string ((rd_TRecord l0 x7_1).f3))).heap[gb907]? = some (.cells #[.string ((rd_TRecord l0 x7_1).f0), .int .i64 ((rd_TRecord l0 x7_1).f1), .int .i64 ((rd_TRecord l0 x7_1).f2), .string ((rd_TRecord l0 x7_1).f3)] 93 (0, 0))) := ⟨TS⟩
          have n1_ : Aside0 (Below w.heap.size w ((((w23.setCell ⟨gb907, 0, none⟩ (.string ((rd_TRecord l0 x7_1).f0))).setCell ⟨gb907, 1, none⟩ (.int .i64 ((rd_TRecord l0 x7_1).f1))).setCell ⟨gb907, 2, none⟩ (.int .i64 ((rd_TRecord l0 x7_1).f2))).setCell ⟨gb907, 3, none⟩ (.string ((rd_TRecord l0 x7_1).f3)))) := ⟨TB⟩
          (try clear BK907)
          (try clear HB)
          generalize ((((w23.setCell ⟨gb907, 0, none⟩ (.string ((rd_TRecord l0 x7_1).f0))).setCell ⟨gb907, 1, none⟩ (.int .i64 ((rd_TRecord l0 x7_1).f1))).setCell ⟨gb907, 2, none⟩ (.int .i64 ((rd_TRecord l0 x7_1).f2))).setCell ⟨gb907, 3, none⟩ (.string ((rd_TRecord l0 x7_1).f3))) = w25 at n0_ n1_ ⊢
          have BK907 := n0_
          have HB := n1_
          clear n0_ n1_
          replace BK907 := Aside0.mk (blk_drew BK907.out)
          replace HB := Aside0.mk (below_drew1 HB.out)
          have p909 : 0 ≤ (0 : Int) := (by omega)
          have q909 : 0 < (l0.length : Int) := TD
          obtain ⟨ad909, e909, hx909_0, hx909_1, hx909_2, hx909_3⟩ := at_TRecord HR0.out 0 p909 q909
          have hw909_3 := hx909_3
          (try rw [show ((0 : Int)).toNat = 0 from rfl] at hw909_3)
          (try rw [show 0 * 4 = 0 from rfl] at hw909_3)
          (try rw [Addr.add_zero'] at hw909_3)
          have hw909_2 := hx909_2
          (try rw [show ((0 : Int)).toNat = 0 from rfl] at hw909_2)
          (try rw [show 0 * 4 = 0 from rfl] at hw909_2)
          (try rw [Addr.add_zero'] at hw909_2)
          have hw909_1 := hx909_1
          (try rw [show ((0 : Int)).toNat = 0 from rfl] at hw909_1)
          (try rw [show 0 * 4 = 0 from rfl] at hw909_1)
          (try rw [Addr.add_zero'] at hw909_1)
          have hw909_0 := hx909_0
          (try rw [show ((0 : Int)).toNat = 0 from rfl] at hw909_0)
          (try rw [show 0 * 4 = 0 from rfl] at hw909_0)
          (try rw [Addr.add_zero'] at hw909_0)
          obtain rfl : ad906 = ad909 := (by injection e909)
          have qi909 : (0 < l0.length) = True := eq_true (by omega)
          (try rw [show ((0 : Int)).toNat = 0 from rfl] at hx909_0)
          (try rw [show 0 * 4 = 0 from rfl] at hx909_0)
          (try rw [Addr.add_zero'] at hx909_0)
          (try rw [show ((0 : Int)).toNat = 0 from rfl] at hx909_1)
          (try rw [show 0 * 4 = 0 from rfl] at hx909_1)
          (try rw [Addr.add_zero'] at hx909_1)
          (try rw [show ((0 : Int)).toNat = 0 from rfl] at hx909_2)
          (try rw [show 0 * 4 = 0 from rfl] at hx909_2)
          (try rw [Addr.add_zero'] at hx909_2)
          (try rw [show ((0 : Int)).toNat = 0 from rfl] at hx909_3)
          (try rw [show 0 * 4 = 0 from rfl] at hx909_3)
          (try rw [Addr.add_zero'] at hx909_3)
          replace hx909_0 := hBc HB hx909_0
          replace hx909_1 := hBc HB hx909_1
          replace hx909_2 := hBc HB hx909_2
          replace hx909_3 := hBc HB hx909_3
          replace p909 := eq_true p909
          replace q909 := eq_true q909
          have p910 : 0 ≤ (0 : Int) := (by omega)
          have q910 : 0 < (l0.length : Int) := TD
          obtain ⟨ad910, e910, hx910_0, hx910_1, hx910_2, hx910_3⟩ := at_TRecord HR0.out 0 p910 q910
          have hw910_3 := hx910_3
          (try rw [show ((0 : Int)).toNat = 0 from rfl] at hw910_3)
          (try rw [show 0 * 4 = 0 from rfl] at hw910_3)
          (try rw [Addr.add_zero'] at hw910_3)
          have hw910_2 := hx910_2
          (try rw [show ((0 : Int)).toNat = 0 from rfl] at hw910_2)
          (try rw [show 0 * 4 = 0 from rfl] at hw910_2)
          (try rw [Addr.add_zero'] at hw910_2)
          have hw910_1 := hx910_1
          (try rw [show ((0 : Int)).toNat = 0 from rfl] at hw910_1)
          (try rw [show 0 * 4 = 0 from rfl] at hw910_1)
          (try rw [Addr.add_zero'] at hw910_1)
          have hw910_0 := hx910_0
          (try rw [show ((0 : Int)).toNat = 0 from rfl] at hw910_0)
          (try rw [show 0 * 4 = 0 from rfl] at hw910_0)
          (try rw [Addr.add_zero'] at hw910_0)
          obtain rfl : ad906 = ad910 := (by injection e910)
          have qi910 : (0 < l0.length) = True := eq_true (by omega)
          (try rw [show ((0 : Int)).toNat = 0 from rfl] at hx910_0)
          (try rw [show 0 * 4 = 0 from rfl] at hx910_0)
          (try rw [Addr.add_zero'] at hx910_0)
          (try rw [show ((0 : Int)).toNat = 0 from rfl] at hx910_1)
          (try rw [show 0 * 4 = 0 from rfl] at hx910_1)
          (try rw [Addr.add_zero'] at hx910_1)
          (try rw [show ((0 : Int)).toNat = 0 from rfl] at hx910_2)
          (try rw [show 0 * 4 = 0 from rfl] at hx910_2)
          (try rw [Addr.add_zero'] at hx910_2)
          (try rw [show ((0 : Int)).toNat = 0 from rfl] at hx910_3)
          (try rw [show 0 * 4 = 0 from rfl] at hx910_3)
          (try rw [Addr.add_zero'] at hx910_3)
          replace hx910_0 := hBc HB hx910_0
          replace hx910_1 := hBc HB hx910_1
          replace hx910_2 := hBc HB hx910_2
          replace hx910_3 := hBc HB hx910_3
          replace p910 := eq_true p910
          replace q910 := eq_true q910
          have p911 : 0 ≤ (0 : Int) := (by omega)
          have q911 : 0 < (l0.length : Int) := TD
          obtain ⟨ad911, e911, hx911_0, hx911_1, hx911_2, hx911_3⟩ := at_TRecord HR0.out 0 p911 q911
          have hw911_3 := hx911_3
          (try rw [show ((0 : Int)).toNat = 0 from rfl] at hw911_3)
          (try rw [show 0 * 4 = 0 from rfl] at hw911_3)
          (try rw [Addr.add_zero'] at hw911_3)
          have hw911_2 := hx911_2
          (try rw [show ((0 : Int)).toNat = 0 from rfl] at hw911_2)
          (try rw [show 0 * 4 = 0 from rfl] at hw911_2)
          (try rw [Addr.add_zero'] at hw911_2)
          have hw911_1 := hx911_1
          (try rw [show ((0 : Int)).toNat = 0 from rfl] at hw911_1)
          (try rw [show 0 * 4 = 0 from rfl] at hw911_1)
          (try rw [Addr.add_zero'] at hw911_1)
          have hw911_0 := hx911_0
          (try rw [show ((0 : Int)).toNat = 0 from rfl] at hw911_0)
          (try rw [show 0 * 4 = 0 from rfl] at hw911_0)
          (try rw [Addr.add_zero'] at hw911_0)
          obtain rfl : ad906 = ad911 := (by injection e911)
          have qi911 : (0 < l0.length) = True := eq_true (by omega)
          (try rw [show ((0 : Int)).toNat = 0 from rfl] at hx911_0)
          (try rw [show 0 * 4 = 0 from rfl] at hx911_0)
          (try rw [Addr.add_zero'] at hx911_0)
          (try rw [show ((0 : Int)).toNat = 0 from rfl] at hx911_1)
          (try rw [show 0 * 4 = 0 from rfl] at hx911_1)
          (try rw [Addr.add_zero'] at hx911_1)
          (try rw [show ((0 : Int)).toNat = 0 from rfl] at hx911_2)
          (try rw [show 0 * 4 = 0 from rfl] at hx911_2)
          (try rw [Addr.add_zero'] at hx911_2)
          (try rw [show ((0 : Int)).toNat = 0 from rfl] at hx911_3)
          (try rw [show 0 * 4 = 0 from rfl] at hx911_3)
          (try rw [Addr.add_zero'] at hx911_3)
          replace hx911_0 := hBc HB hx911_0
          replace hx911_1 := hBc HB hx911_1
          replace hx911_2 := hBc HB hx911_2
          replace hx911_3 := hBc HB hx911_3
          replace p911 := eq_true p911
          replace q911 := eq_true q911
          have p912 : 0 ≤ ((ji12) : Int) := TD
          have q912 : (ji12) < (l0.length : Int) := TD
          obtain ⟨ad912, e912, hx912_0, hx912_1, hx912_2, hx912_3⟩ := at_TRecord HR0.out (ji12) p912 q912
          have hw912_3 := hx912_3
          have hw912_2 := hx912_2
          have hw912_1 := hx912_1
          have hw912_0 := hx912_0
          obtain rfl : ad906 = ad912 := (by injection e912)
          replace hx912_0 := hBc HB hx912_0
          replace hx912_1 := hBc HB hx912_1
          replace hx912_2 := hBc HB hx912_2
          replace hx912_3 := hBc HB hx912_3
          replace p912 := eq_true p912
          replace q912 := eq_true q912
          refine start_ (n := 44) (S := fun w' => w'.cell? ⟨gb907, 0, none⟩ = some (.string ((rd_TRecord l0 x7_1).f0)) ∧ w'.cell? ⟨gb907, 1, none⟩ = some (.int .i64 ((rd_TRecord l0 x7_1).f1)) ∧ w'.cell? ⟨gb907, 2, none⟩ = some (.int .i64 ((rd_TRecord l0 x7_1).f2)) ∧ w'.cell? ⟨gb907, 3, none⟩ = some (.string ((rd_TRecord l0 x7_1).f3)) ∧ w'.cell? ad906 = some (.string ((rd_TRecord l0 0).f0)) ∧ w'.cell? ⟨ad906.block, ad906.off + 1, none⟩ = some (.int .i64 ((rd_TRecord l0 0).f1)) ∧ w'.cell? ⟨ad906.block, ad906.off + 2, none⟩ = some (.int .i64 ((rd_TRecord l0 0).f2)) ∧ w'.cell? ⟨ad906.block, ad906.off + 3, none⟩ = some (.string ((rd_TRecord l0 0).f3)) ∧ w'.cell? ad906 = some (.string ((rd_TRecord l0 0).f0)) ∧ w'.cell? ⟨ad906.block, ad906.off + 1, none⟩ = some (.int .i64 ((rd_TRecord l0 0).f1)) ∧ w'.cell? ⟨ad906.block, ad906.off + 2, none⟩ = some (.int .i64 ((rd_TRecord l0 0).f2)) ∧ w'.cell? ⟨ad906.block, ad906.off + 3, none⟩ = some (.string ((rd_TRecord l0 0).f3)) ∧ w'.cell? ad906 = some (.string ((rd_TRecord l0 0).f0)) ∧ w'.cell? ⟨ad906.block, ad906.off + 1, none⟩ = some (.int .i64 ((rd_TRecord l0 0).f1)) ∧ w'.cell? ⟨ad906.block, ad906.off + 2, none⟩ = some (.int .i64 ((rd_TRecord l0 0).f2)) ∧ w'.cell? ⟨ad906.block, ad906.off + 3, none⟩ = some (.string ((rd_TRecord l0 0).f3)) ∧ w'.cell? (ad906.add (((ji12)).toNat * 4)) = some (.string ((rd_TRecord l0 (ji12)).f0)) ∧ w'.cell? ⟨(ad906.add (((ji12)).toNat * 4)).block, (ad906.add (((ji12)).toNat * 4)).off + 1, none⟩ = some (.int .i64 ((rd_TRecord l0 (ji12)).f1)) ∧ w'.cell? ⟨(ad906.add (((ji12)).toNat * 4)).block, (ad906.add (((ji12)).toNat * 4)).off + 2, none⟩ = some (.int .i64 ((rd_TRecord l0 (ji12)).f2)) ∧ w'.cell? ⟨(ad906.add (((ji12)).toNat * 4)).block, (ad906.add (((ji12)).toNat * 4)).off + 3, none⟩ = some (.string ((rd_TRecord l0 (ji12)).f3))) (ds := []) #[false, false, false, false, false, false, false, false, false, false, false, false, false, false, false, false, false, false, false, false, false, false, false, false, false, false, false, false, false, false, false, false, false, false, false, false, false, false, false, false, false, false, false, false] KR rfl rfl ⟨bc 0 BK907, bc 1 BK907, bc 2 BK907, bc 3 BK907, ((HB.out.cell (World.block_lt_of_cell? w _ hw909_0)).trans hw909_0), ((HB.out.cell (World.block_lt_of_cell? w _ hw909_1)).trans hw909_1), ((HB.out.cell (World.block_lt_of_cell? w _ hw909_2)).trans hw909_2), ((HB.out.cell (World.block_lt_of_cell? w _ hw909_3)).trans hw909_3), ((HB.out.cell (World.block_lt_of_cell? w _ hw910_0)).trans hw910_0), ((HB.out.cell (World.block_lt_of_cell? w _ hw910_1)).trans hw910_1), ((HB.out.cell (World.block_lt_of_cell? w _ hw910_2)).trans hw910_2), ((HB.out.cell (World.block_lt_of_cell? w _ hw910_3)).trans hw910_3), ((HB.out.cell (World.block_lt_of_cell? w _ hw911_0)).trans hw911_0), ((HB.out.cell (World.block_lt_of_cell? w _ hw911_1)).trans hw911_1), ((HB.out.cell (World.block_lt_of_cell? w _ hw911_2)).trans hw911_2), ((HB.out.cell (World.block_lt_of_cell? w _ hw911_3)).trans hw911_3), ((HB.out.cell (World.block_lt_of_cell? w _ hw912_0)).trans hw912_0), ((HB.out.cell (World.block_lt_of_cell? w _ hw912_1)).trans hw912_1), ((HB.out.cell (World.block_lt_of_cell? w _ hw912_2)).trans hw912_2), ((HB.out.cell (World.block_lt_of_cell? w _ hw912_3)).trans hw912_3)⟩ (fun hHeld => ?_); refine with_tabW spec_l10Same.tab4 spec_l10Same.bits4 (fun HT_ HW_ => ?_)
          generalize w25.drew = w26 at BK907 HB hx909_0 hx909_1 hx909_2 hx909_3 hx910_0 hx910_1 hx910_2 hx910_3 hx911_0 hx911_1 hx911_2 hx911_3 hx912_0 hx912_1 hx912_2 hx912_3 hHeld ⊢
          refine tA 0 12 (mL 44 1) HT_ HW_ hHeld rfl rfl (by rintro w' ⟨s0, s1, s2, s3, s4, s5, s6, s7, s8, s9, s10, s11, s12, s13, s14, s15, s16, s17, s18, s19⟩; go_simp; with_reducible rfl) ?_
          refine one_ (i := 1) (N := some 13) (mL 44 3) rfl rfl (one_of HT_.out KR) (by decide) (fun K hK => ?_)
          refine goes_ Tryz.func118 KR rfl #[.agg #[.string ((rd_TRecord l0 x7_1).f0), .int .i64 ((rd_TRecord l0 x7_1).f1), .int .i64 ((rd_TRecord l0 x7_1).f2), .string ((rd_TRecord l0 x7_1).f3)]] (by rfl) rfl rfl TA ?_
          with_reducible refine (spec_GoodRecord.calls k1 ((rd_TRecord l0 x7_1).f0) ((rd_TRecord l0 x7_1).f1) ((rd_TRecord l0 x7_1).f2) ((rd_TRecord l0 x7_1).f3) true _ A5.out).mono ?_
          rintro e w27 ⟨rfl, hb⟩
          refine ⟨_, rfl, ?_⟩
          replace BK907 := KB BK907 hb
          replace HB := BS hb
          (try clear hb)
          (try clear hb2)
          (try clear hk)
          (try clear hi)
          refine hK.out _ _ ⟨bc 0 BK907, bc 1 BK907, bc 2 BK907, bc 3 BK907, ((HB.out.cell (World.block_lt_of_cell? w _ hw909_0)).trans hw909_0), ((HB.out.cell (World.block_lt_of_cell? w _ hw909_1)).trans hw909_1), ((HB.out.cell (World.block_lt_of_cell? w _ hw909_2)).trans hw909_2), ((HB.out.cell (World.block_lt_of_cell? w _ hw909_3)).trans hw909_3), ((HB.out.cell (World.block_lt_of_cell? w _ hw910_0)).trans hw910_0), ((HB.out.cell (World.block_lt_of_cell? w _ hw910_1)).trans hw910_1), ((HB.out.cell (World.block_lt_of_cell? w _ hw910_2)).trans hw910_2), ((HB.out.cell (World.block_lt_of_cell? w _ hw910_3)).trans hw910_3), ((HB.out.cell (World.block_lt_of_cell? w _ hw911_0)).trans hw911_0), ((HB.out.cell (World.block_lt_of_cell? w _ hw911_1)).trans hw911_1), ((HB.out.cell (World.block_lt_of_cell? w _ hw911_2)).trans hw911_2), ((HB.out.cell (World.block_lt_of_cell? w _ hw911_3)).trans hw911_3), ((HB.out.cell (World.block_lt_of_cell? w _ hw912_0)).trans hw912_0), ((HB.out.cell (World.block_lt_of_cell? w _ hw912_1)).trans hw912_1), ((HB.out.cell (World.block_lt_of_cell? w _ hw912_2)).trans hw912_2), ((HB.out.cell (World.block_lt_of_cell? w _ hw912_3)).trans hw912_3)⟩ (fun hHeld => ?_)
          clear hK K
          refine nA ?_
          refine pA 2 14 (mL 44 7) HT_ rfl rfl ?_
          refine pA 3 15 (mL 44 15) HT_ rfl rfl ?_
          refine pA 4 16 (mL 44 31) HT_ rfl rfl ?_
          refine pA 6 18 (mL 44 95) HT_ rfl rfl ?_
          refine pA 7 19 (mL 44 223) HT_ rfl rfl ?_
          refine pA 8 20 (mL 44 479) HT_ rfl rfl ?_
          refine tA 5 17 (mL 44 511) HT_ HW_ hHeld rfl rfl (by rintro w' ⟨s0, s1, s2, s3, s4, s5, s6, s7, s8, s9, s10, s11, s12, s13, s14, s15, s16, s17, s18, s19⟩; go_simp; with_reducible rfl) ?_
          refine tA 9 21 (mL 44 1023) HT_ HW_ hHeld rfl rfl (by rintro w' ⟨s0, s1, s2, s3, s4, s5, s6, s7, s8, s9, s10, s11, s12, s13, s14, s15, s16, s17, s18, s19⟩; go_simp; with_reducible rfl) ?_
          refine pA 10 22 (mL 44 2047) HT_ rfl rfl ?_
          refine pA 11 23 (mL 44 4095) HT_ rfl rfl ?_
          refine pA 12 24 (mL 44 8191) HT_ rfl rfl ?_
          refine pA 13 25 (mL 44 16383) HT_ rfl rfl ?_
          refine pA 15 27 (mL 44 49151) HT_ rfl rfl ?_
          refine pA 16 28 (mL 44 114687) HT_ rfl rfl ?_
          refine pA 17 29 (mL 44 245759) HT_ rfl rfl ?_
          refine tA 14 26 (mL 44 262143) HT_ HW_ hHeld rfl rfl (by rintro w' ⟨s0, s1, s2, s3, s4, s5, s6, s7, s8, s9, s10, s11, s12, s13, s14, s15, s16, s17, s18, s19⟩; go_simp; with_reducible rfl) ?_
          refine tA 18 30 (mL 44 524287) HT_ HW_ hHeld rfl rfl (by rintro w' ⟨s0, s1, s2, s3, s4, s5, s6, s7, s8, s9, s10, s11, s12, s13, s14, s15, s16, s17, s18, s19⟩; go_simp; with_reducible rfl) ?_
          refine pA 19 31 (mL 44 1048575) HT_ rfl rfl ?_
          refine pA 20 32 (mL 44 2097151) HT_ rfl rfl ?_
          refine pA 21 33 (mL 44 4194303) HT_ rfl rfl ?_
          refine pA 22 34 (mL 44 8388607) HT_ rfl rfl ?_
          refine pA 24 36 (mL 44 25165823) HT_ rfl rfl ?_
          refine pA 25 37 (mL 44 58720255) HT_ rfl rfl ?_
          refine pA 26 38 (mL 44 125829119) HT_ rfl rfl ?_
          refine tA 23 35 (mL 44 134217727) HT_ HW_ hHeld rfl rfl (by rintro w' ⟨s0, s1, s2, s3, s4, s5, s6, s7, s8, s9, s10, s11, s12, s13, s14, s15, s16, s17, s18, s19⟩; go_simp; with_reducible rfl) ?_
          refine tA 27 39 (mL 44 268435455) HT_ HW_ hHeld rfl rfl (by rintro w' ⟨s0, s1, s2, s3, s4, s5, s6, s7, s8, s9, s10, s11, s12, s13, s14, s15, s16, s17, s18, s19⟩; go_simp; with_reducible rfl) ?_
          refine pA 28 40 (mL 44 536870911) HT_ rfl rfl ?_
          refine pA 29 41 (mL 44 1073741823) HT_ rfl rfl ?_
          refine pA 30 42 (mL 44 2147483647) HT_ rfl rfl ?_
          refine pA 31 43 (mL 44 4294967295) HT_ rfl rfl ?_
          refine pA 32 44 (mL 44 8589934591) HT_ rfl rfl ?_
          refine pA 33 45 (mL 44 17179869183) HT_ rfl rfl ?_
          refine pA 34 46 (mL 44 34359738367) HT_ rfl rfl ?_
          refine pA 35 47 (mL 44 68719476735) HT_ rfl rfl ?_
          refine pA 36 48 (mL 44 137438953471) HT_ rfl rfl ?_
          refine pA 37 49 (mL 44 274877906943) HT_ rfl rfl ?_
          refine tA 38 50 (mL 44 549755813887) HT_ HW_ hHeld rfl rfl (by rintro w' ⟨s0, s1, s2, s3, s4, s5, s6, s7, s8, s9, s10, s11, s12, s13, s14, s15, s16, s17, s18, s19⟩; go_simp; with_reducible rfl) ?_
          refine tA 39 51 (mL 44 1099511627775) HT_ HW_ hHeld rfl rfl (by rintro w' ⟨s0, s1, s2, s3, s4, s5, s6, s7, s8, s9, s10, s11, s12, s13, s14, s15, s16, s17, s18, s19⟩; go_simp; with_reducible rfl) ?_
          refine one_ (i := 40) (N := some 52) (mL 44 2199023255551) rfl rfl (one_of HT_.out KR) (by decide) (fun K hK => ?_)
          refine goes_ Tryz.func119 KR rfl #[.agg #[.string ((rd_TRecord l0 (ji12)).f0), .int .i64 ((rd_TRecord l0 (ji12)).f1), .int .i64 ((rd_TRecord l0 (ji12)).f2), .string ((rd_TRecord l0 (ji12)).f3)], .agg #[.string ((rd_TRecord l0 x7_1).f0), .int .i64 ((rd_TRecord l0 x7_1).f1), .int .i64 ((rd_TRecord l0 x7_1).f2), .string ((rd_TRecord l0 x7_1).f3)]] (by rfl) rfl rfl (by (try simp only [List.map_toArray, List.map_cons, List.map_nil]); first | done | (simp only [hji12]; rfl) | rfl | (simp only [List.length_drop, List.length_take]; rfl)) ?_
          with_reducible refine (spec_l3Compare.calls k1 ((rd_TRecord l0 (ji12)).f0) ((rd_TRecord l0 (ji12)).f1) ((rd_TRecord l0 (ji12)).f2) ((rd_TRecord l0 (ji12)).f3) ((rd_TRecord l0 x7_1).f0) ((rd_TRecord l0 x7_1).f1) ((rd_TRecord l0 x7_1).f2) ((rd_TRecord l0 x7_1).f3) t913 _ A15.out).mono ?_
          rintro e w28 ⟨rfl, hb⟩
          refine ⟨_, rfl, ?_⟩
          replace BK907 := KB BK907 hb
          replace HB := BS hb
          (try clear hb)
          (try clear hb2)
          (try clear hk)
          (try clear hi)
          refine hK.out _ _ ⟨bc 0 BK907, bc 1 BK907, bc 2 BK907, bc 3 BK907, ((HB.out.cell (World.block_lt_of_cell? w _ hw909_0)).trans hw909_0), ((HB.out.cell (World.block_lt_of_cell? w _ hw909_1)).trans hw909_1), ((HB.out.cell (World.block_lt_of_cell? w _ hw909_2)).trans hw909_2), ((HB.out.cell (World.block_lt_of_cell? w _ hw909_3)).trans hw909_3), ((HB.out.cell (World.block_lt_of_cell? w _ hw910_0)).trans hw910_0), ((HB.out.cell (World.block_lt_of_cell? w _ hw910_1)).trans hw910_1), ((HB.out.cell (World.block_lt_of_cell? w _ hw910_2)).trans hw910_2), ((HB.out.cell (World.block_lt_of_cell? w _ hw910_3)).trans hw910_3), ((HB.out.cell (World.block_lt_of_cell? w _ hw911_0)).trans hw911_0), ((HB.out.cell (World.block_lt_of_cell? w _ hw911_1)).trans hw911_1), ((HB.out.cell (World.block_lt_of_cell? w _ hw911_2)).trans hw911_2), ((HB.out.cell (World.block_lt_of_cell? w _ hw911_3)).trans hw911_3), ((HB.out.cell (World.block_lt_of_cell? w _ hw912_0)).trans hw912_0), ((HB.out.cell (World.block_lt_of_cell? w _ hw912_1)).trans hw912_1), ((HB.out.cell (World.block_lt_of_cell? w _ hw912_2)).trans hw912_2), ((HB.out.cell (World.block_lt_of_cell? w _ hw912_3)).trans hw912_3)⟩ (fun hHeld => ?_)
          clear hK K
          refine nA ?_
          refine pA 41 53 (mL 44 4398046511103) HT_ rfl rfl ?_
          refine pA 42 54 (mL 44 8796093022207) HT_ rfl rfl ?_
          refine pA 43 55 (mL 44 17592186044415) HT_ rfl rfl ?_
          refine done_ (done_of HT_.out KR) ?_
          try go_wp2
          go_roundg k1
          case measure => have := HK1.out; omega
          case rel => exact ⟨(wrap64 (x7_1 + 1)), TF, H', ⟨TM⟩, ⟨TB⟩⟩
        ·rw [if_neg c11] at H
         have c11b0 : decide (0 < x7_1) = false := decide_eq_false c11
         clear c11
         have H' := Aside0.mk H
         clear H
         have p906 : 0 ≤ (x7_1 : Int) := TD
         have q906 : x7_1 < (l0.length : Int) := TD
         obtain ⟨ad906, e906, hx906_0, hx906_1, hx906_2, hx906_3⟩ := at_TRecord (Kd.C_below HR0.out HB.out) x7_1 p906 q906
         cases e906
         replace p906 := eq_true p906
         replace q906 := eq_true q906
         try go_wp2_with (first | ((with_reducible refine gate_dst (N := 4) rfl ?_); refine bE 4 #[.string (⟨#[]⟩ : ByteArray), .int .i64 0, .int .i64 0, .string (⟨#[]⟩ : ByteArray)] 93 ?_; intro gb907 hg w29 hbox hb; have BK907 := Aside0.mk (hbox); have GE907 := bG hg; replace HB := BS hb; clear hb hbox hg; have hcz30 := cz4 BK907))
         have n0_ : Aside0 (((((w29.setCell ⟨gb907, 0, none⟩ (.string ((rd_TRecord l0 x7_1).f0))).setCell ⟨gb907, 1, none⟩ (.int .i64 ((rd_TRecord l0 x7_1).f1))).setCell ⟨gb907, 2, none⟩ (.int .i64 ((rd_TRecord l0 x7_1).f2))).setCell ⟨gb907, 3, none⟩ (.string ((rd_TRecord l0 x7_1).f3))).heap[gb907]? = some (.cells #[.string ((rd_TRecord l0 x7_1).f0), .int .i64 ((rd_TRecord l0 x7_1).f1), .int .i64 ((rd_TRecord l0 x7_1).f2), .string ((rd_TRecord l0 x7_1).f3)] 93 (0, 0))) := ⟨TS⟩
         have n1_ : Aside0 (Below w.heap.size w ((((w29.setCell ⟨gb907, 0, none⟩ (.string ((rd_TRecord l0 x7_1).f0))).setCell ⟨gb907, 1, none⟩ (.int .i64 ((rd_TRecord l0 x7_1).f1))).setCell ⟨gb907, 2, none⟩ (.int .i64 ((rd_TRecord l0 x7_1).f2))).setCell ⟨gb907, 3, none⟩ (.string ((rd_TRecord l0 x7_1).f3)))) := ⟨TB⟩
         (try clear BK907)
         (try clear HB)
         generalize ((((w29.setCell ⟨gb907, 0, none⟩ (.string ((rd_TRecord l0 x7_1).f0))).setCell ⟨gb907, 1, none⟩ (.int .i64 ((rd_TRecord l0 x7_1).f1))).setCell ⟨gb907, 2, none⟩ (.int .i64 ((rd_TRecord l0 x7_1).f2))).setCell ⟨gb907, 3, none⟩ (.string ((rd_TRecord l0 x7_1).f3))) = w31 at n0_ n1_ ⊢
         have BK907 := n0_
         have HB := n1_
         clear n0_ n1_
         replace BK907 := Aside0.mk (blk_drew BK907.out)
         replace HB := Aside0.mk (below_drew1 HB.out)
         have p909 : 0 ≤ (0 : Int) := (by omega)
         have q909 : 0 < (l0.length : Int) := TD
         obtain ⟨ad909, e909, hx909_0, hx909_1, hx909_2, hx909_3⟩ := at_TRecord HR0.out 0 p909 q909
         have hw909_3 := hx909_3
         (try rw [show ((0 : Int)).toNat = 0 from rfl] at hw909_3)
         (try rw [show 0 * 4 = 0 from rfl] at hw909_3)
         (try rw [Addr.add_zero'] at hw909_3)
         have hw909_2 := hx909_2
         (try rw [show ((0 : Int)).toNat = 0 from rfl] at hw909_2)
         (try rw [show 0 * 4 = 0 from rfl] at hw909_2)
         (try rw [Addr.add_zero'] at hw909_2)
         have hw909_1 := hx909_1
         (try rw [show ((0 : Int)).toNat = 0 from rfl] at hw909_1)
         (try rw [show 0 * 4 = 0 from rfl] at hw909_1)
         (try rw [Addr.add_zero'] at hw909_1)
         have hw909_0 := hx909_0
         (try rw [show ((0 : Int)).toNat = 0 from rfl] at hw909_0)
         (try rw [show 0 * 4 = 0 from rfl] at hw909_0)
         (try rw [Addr.add_zero'] at hw909_0)
         obtain rfl : ad906 = ad909 := (by injection e909)
         have qi909 : (0 < l0.length) = True := eq_true (by omega)
         (try rw [show ((0 : Int)).toNat = 0 from rfl] at hx909_0)
         (try rw [show 0 * 4 = 0 from rfl] at hx909_0)
         (try rw [Addr.add_zero'] at hx909_0)
         (try rw [show ((0 : Int)).toNat = 0 from rfl] at hx909_1)
         (try rw [show 0 * 4 = 0 from rfl] at hx909_1)
         (try rw [Addr.add_zero'] at hx909_1)
         (try rw [show ((0 : Int)).toNat = 0 from rfl] at hx909_2)
         (try rw [show 0 * 4 = 0 from rfl] at hx909_2)
         (try rw [Addr.add_zero'] at hx909_2)
         (try rw [show ((0 : Int)).toNat = 0 from rfl] at hx909_3)
         (try rw [show 0 * 4 = 0 from rfl] at hx909_3)
         (try rw [Addr.add_zero'] at hx909_3)
         replace hx909_0 := hBc HB hx909_0
         replace hx909_1 := hBc HB hx909_1
         replace hx909_2 := hBc HB hx909_2
         replace hx909_3 := hBc HB hx909_3
         replace p909 := eq_true p909
         replace q909 := eq_true q909
         have p910 : 0 ≤ (0 : Int) := (by omega)
         have q910 : 0 < (l0.length : Int) := TD
         obtain ⟨ad910, e910, hx910_0, hx910_1, hx910_2, hx910_3⟩ := at_TRecord HR0.out 0 p910 q910
         have hw910_3 := hx910_3
         (try rw [show ((0 : Int)).toNat = 0 from rfl] at hw910_3)
         (try rw [show 0 * 4 = 0 from rfl] at hw910_3)
         (try rw [Addr.add_zero'] at hw910_3)
         have hw910_2 := hx910_2
         (try rw [show ((0 : Int)).toNat = 0 from rfl] at hw910_2)
         (try rw [show 0 * 4 = 0 from rfl] at hw910_2)
         (try rw [Addr.add_zero'] at hw910_2)
         have hw910_1 := hx910_1
         (try rw [show ((0 : Int)).toNat = 0 from rfl] at hw910_1)
         (try rw [show 0 * 4 = 0 from rfl] at hw910_1)
         (try rw [Addr.add_zero'] at hw910_1)
         have hw910_0 := hx910_0
         (try rw [show ((0 : Int)).toNat = 0 from rfl] at hw910_0)
         (try rw [show 0 * 4 = 0 from rfl] at hw910_0)
         (try rw [Addr.add_zero'] at hw910_0)
         obtain rfl : ad906 = ad910 := (by injection e910)
         have qi910 : (0 < l0.length) = True := eq_true (by omega)
         (try rw [show ((0 : Int)).toNat = 0 from rfl] at hx910_0)
         (try rw [show 0 * 4 = 0 from rfl] at hx910_0)
         (try rw [Addr.add_zero'] at hx910_0)
         (try rw [show ((0 : Int)).toNat = 0 from rfl] at hx910_1)
         (try rw [show 0 * 4 = 0 from rfl] at hx910_1)
         (try rw [Addr.add_zero'] at hx910_1)
         (try rw [show ((0 : Int)).toNat = 0 from rfl] at hx910_2)
         (try rw [show 0 * 4 = 0 from rfl] at hx910_2)
         (try rw [Addr.add_zero'] at hx910_2)
         (try rw [show ((0 : Int)).toNat = 0 from rfl] at hx910_3)
         (try rw [show 0 * 4 = 0 from rfl] at hx910_3)
         (try rw [Addr.add_zero'] at hx910_3)
         replace hx910_0 := hBc HB hx910_0
         replace hx910_1 := hBc HB hx910_1
         replace hx910_2 := hBc HB hx910_2
         replace hx910_3 := hBc HB hx910_3
         replace p910 := eq_true p910
         replace q910 := eq_true q910
         have p911 : 0 ≤ (0 : Int) := (by omega)
         have q911 : 0 < (l0.length : Int) := TD
         obtain ⟨ad911, e911, hx911_0, hx911_1, hx911_2, hx911_3⟩ := at_TRecord HR0.out 0 p911 q911
         have hw911_3 := hx911_3
         (try rw [show ((0 : Int)).toNat = 0 from rfl] at hw911_3)
         (try rw [show 0 * 4 = 0 from rfl] at hw911_3)
         (try rw [Addr.add_zero'] at hw911_3)
         have hw911_2 := hx911_2
         (try rw [show ((0 : Int)).toNat = 0 from rfl] at hw911_2)
         (try rw [show 0 * 4 = 0 from rfl] at hw911_2)
         (try rw [Addr.add_zero'] at hw911_2)
         have hw911_1 := hx911_1
         (try rw [show ((0 : Int)).toNat = 0 from rfl] at hw911_1)
         (try rw [show 0 * 4 = 0 from rfl] at hw911_1)
         (try rw [Addr.add_zero'] at hw911_1)
         have hw911_0 := hx911_0
         (try rw [show ((0 : Int)).toNat = 0 from rfl] at hw911_0)
         (try rw [show 0 * 4 = 0 from rfl] at hw911_0)
         (try rw [Addr.add_zero'] at hw911_0)
         obtain rfl : ad906 = ad911 := (by injection e911)
         have qi911 : (0 < l0.length) = True := eq_true (by omega)
         (try rw [show ((0 : Int)).toNat = 0 from rfl] at hx911_0)
         (try rw [show 0 * 4 = 0 from rfl] at hx911_0)
         (try rw [Addr.add_zero'] at hx911_0)
         (try rw [show ((0 : Int)).toNat = 0 from rfl] at hx911_1)
         (try rw [show 0 * 4 = 0 from rfl] at hx911_1)
         (try rw [Addr.add_zero'] at hx911_1)
         (try rw [show ((0 : Int)).toNat = 0 from rfl] at hx911_2)
         (try rw [show 0 * 4 = 0 from rfl] at hx911_2)
         (try rw [Addr.add_zero'] at hx911_2)
         (try rw [show ((0 : Int)).toNat = 0 from rfl] at hx911_3)
         (try rw [show 0 * 4 = 0 from rfl] at hx911_3)
         (try rw [Addr.add_zero'] at hx911_3)
         replace hx911_0 := hBc HB hx911_0
         replace hx911_1 := hBc HB hx911_1
         replace hx911_2 := hBc HB hx911_2
         replace hx911_3 := hBc HB hx911_3
         replace p911 := eq_true p911
         replace q911 := eq_true q911
         refine start_ (n := 44) (S := fun w' => w'.cell? ⟨gb907, 0, none⟩ = some (.string ((rd_TRecord l0 x7_1).f0)) ∧ w'.cell? ⟨gb907, 1, none⟩ = some (.int .i64 ((rd_TRecord l0 x7_1).f1)) ∧ w'.cell? ⟨gb907, 2, none⟩ = some (.int .i64 ((rd_TRecord l0 x7_1).f2)) ∧ w'.cell? ⟨gb907, 3, none⟩ = some (.string ((rd_TRecord l0 x7_1).f3)) ∧ w'.cell? ad906 = some (.string ((rd_TRecord l0 0).f0)) ∧ w'.cell? ⟨ad906.block, ad906.off + 1, none⟩ = some (.int .i64 ((rd_TRecord l0 0).f1)) ∧ w'.cell? ⟨ad906.block, ad906.off + 2, none⟩ = some (.int .i64 ((rd_TRecord l0 0).f2)) ∧ w'.cell? ⟨ad906.block, ad906.off + 3, none⟩ = some (.string ((rd_TRecord l0 0).f3)) ∧ w'.cell? ad906 = some (.string ((rd_TRecord l0 0).f0)) ∧ w'.cell? ⟨ad906.block, ad906.off + 1, none⟩ = some (.int .i64 ((rd_TRecord l0 0).f1)) ∧ w'.cell? ⟨ad906.block, ad906.off + 2, none⟩ = some (.int .i64 ((rd_TRecord l0 0).f2)) ∧ w'.cell? ⟨ad906.block, ad906.off + 3, none⟩ = some (.string ((rd_TRecord l0 0).f3)) ∧ w'.cell? ad906 = some (.string ((rd_TRecord l0 0).f0)) ∧ w'.cell? ⟨ad906.block, ad906.off + 1, none⟩ = some (.int .i64 ((rd_TRecord l0 0).f1)) ∧ w'.cell? ⟨ad906.block, ad906.off + 2, none⟩ = some (.int .i64 ((rd_TRecord l0 0).f2)) ∧ w'.cell? ⟨ad906.block, ad906.off + 3, none⟩ = some (.string ((rd_TRecord l0 0).f3))) (ds := []) #[false, false, false, false, false, false, false, false, false, false, false, false, false, false, false, false, false, false, false, false, false, false, false, false, false, false, false, false, false, false, false, false, false, false, false, false, false, false, false, false, false, false, false, false] KR rfl rfl ⟨bc 0 BK907, bc 1 BK907, bc 2 BK907, bc 3 BK907, ((HB.out.cell (World.block_lt_of_cell? w _ hw909_0)).trans hw909_0), ((HB.out.cell (World.block_lt_of_cell? w _ hw909_1)).trans hw909_1), ((HB.out.cell (World.block_lt_of_cell? w _ hw909_2)).trans hw909_2), ((HB.out.cell (World.block_lt_of_cell? w _ hw909_3)).trans hw909_3), ((HB.out.cell (World.block_lt_of_cell? w _ hw910_0)).trans hw910_0), ((HB.out.cell (World.block_lt_of_cell? w _ hw910_1)).trans hw910_1), ((HB.out.cell (World.block_lt_of_cell? w _ hw910_2)).trans hw910_2), ((HB.out.cell (World.block_lt_of_cell? w _ hw910_3)).trans hw910_3), ((HB.out.cell (World.block_lt_of_cell? w _ hw911_0)).trans hw911_0), ((HB.out.cell (World.block_lt_of_cell? w _ hw911_1)).trans hw911_1), ((HB.out.cell (World.block_lt_of_cell? w _ hw911_2)).trans hw911_2), ((HB.out.cell (World.block_lt_of_cell? w _ hw911_3)).trans hw911_3)⟩ (fun hHeld => ?_); refine with_tabW spec_l10Same.tab4 spec_l10Same.bits4 (fun HT_ HW_ => ?_)
         generalize w31.drew = w32 at BK907 HB hx909_0 hx909_1 hx909_2 hx909_3 hx910_0 hx910_1 hx910_2 hx910_3 hx911_0 hx911_1 hx911_2 hx911_3 hHeld ⊢
         refine tA 0 12 (mL 44 1) HT_ HW_ hHeld rfl rfl (by rintro w' ⟨s0, s1, s2, s3, s4, s5, s6, s7, s8, s9, s10, s11, s12, s13, s14, s15⟩; go_simp; with_reducible rfl) ?_
         refine one_ (i := 1) (N := some 13) (mL 44 3) rfl rfl (one_of HT_.out KR) (by decide) (fun K hK => ?_)
         refine goes_ Tryz.func118 KR rfl #[.agg #[.string ((rd_TRecord l0 x7_1).f0), .int .i64 ((rd_TRecord l0 x7_1).f1), .int .i64 ((rd_TRecord l0 x7_1).f2), .string ((rd_TRecord l0 x7_1).f3)]] (by rfl) rfl rfl TA ?_
         with_reducible refine (spec_GoodRecord.calls k1 ((rd_TRecord l0 x7_1).f0) ((rd_TRecord l0 x7_1).f1) ((rd_TRecord l0 x7_1).f2) ((rd_TRecord l0 x7_1).f3) true _ A5.out).mono ?_
         rintro e w33 ⟨rfl, hb⟩
         refine ⟨_, rfl, ?_⟩
         replace BK907 := KB BK907 hb
         replace HB := BS hb
         (try clear hb)
         (try clear hb2)
         (try clear hk)
         (try clear hi)
         refine hK.out _ _ ⟨bc 0 BK907, bc 1 BK907, bc 2 BK907, bc 3 BK907, ((HB.out.cell (World.block_lt_of_cell? w _ hw909_0)).trans hw909_0), ((HB.out.cell (World.block_lt_of_cell? w _ hw909_1)).trans hw909_1), ((HB.out.cell (World.block_lt_of_cell? w _ hw909_2)).trans hw909_2), ((HB.out.cell (World.block_lt_of_cell? w _ hw909_3)).trans hw909_3), ((HB.out.cell (World.block_lt_of_cell? w _ hw910_0)).trans hw910_0), ((HB.out.cell (World.block_lt_of_cell? w _ hw910_1)).trans hw910_1), ((HB.out.cell (World.block_lt_of_cell? w _ hw910_2)).trans hw910_2), ((HB.out.cell (World.block_lt_of_cell? w _ hw910_3)).trans hw910_3), ((HB.out.cell (World.block_lt_of_cell? w _ hw911_0)).trans hw911_0), ((HB.out.cell (World.block_lt_of_cell? w _ hw911_1)).trans hw911_1), ((HB.out.cell (World.block_lt_of_cell? w _ hw911_2)).trans hw911_2), ((HB.out.cell (World.block_lt_of_cell? w _ hw911_3)).trans hw911_3)⟩ (fun hHeld => ?_)
         clear hK K
         refine nA ?_
         refine pA 2 14 (mL 44 7) HT_ rfl rfl ?_
         refine pA 3 15 (mL 44 15) HT_ rfl rfl ?_
         refine pA 4 16 (mL 44 31) HT_ rfl rfl ?_
         refine pA 6 18 (mL 44 95) HT_ rfl rfl ?_
         refine pA 7 19 (mL 44 223) HT_ rfl rfl ?_
         refine pA 8 20 (mL 44 479) HT_ rfl rfl ?_
         refine tA 5 17 (mL 44 511) HT_ HW_ hHeld rfl rfl (by rintro w' ⟨s0, s1, s2, s3, s4, s5, s6, s7, s8, s9, s10, s11, s12, s13, s14, s15⟩; go_simp; with_reducible rfl) ?_
         refine tA 9 21 (mL 44 1023) HT_ HW_ hHeld rfl rfl (by rintro w' ⟨s0, s1, s2, s3, s4, s5, s6, s7, s8, s9, s10, s11, s12, s13, s14, s15⟩; go_simp; with_reducible rfl) ?_
         refine pA 10 22 (mL 44 2047) HT_ rfl rfl ?_
         refine pA 11 23 (mL 44 4095) HT_ rfl rfl ?_
         refine pA 12 24 (mL 44 8191) HT_ rfl rfl ?_
         refine pA 13 25 (mL 44 16383) HT_ rfl rfl ?_
         refine pA 15 27 (mL 44 49151) HT_ rfl rfl ?_
         refine pA 16 28 (mL 44 114687) HT_ rfl rfl ?_
         refine pA 17 29 (mL 44 245759) HT_ rfl rfl ?_
         refine tA 14 26 (mL 44 262143) HT_ HW_ hHeld rfl rfl (by rintro w' ⟨s0, s1, s2, s3, s4, s5, s6, s7, s8, s9, s10, s11, s12, s13, s14, s15⟩; go_simp; with_reducible rfl) ?_
         refine tA 18 30 (mL 44 524287) HT_ HW_ hHeld rfl rfl (by rintro w' ⟨s0, s1, s2, s3, s4, s5, s6, s7, s8, s9, s10, s11, s12, s13, s14, s15⟩; go_simp; with_reducible rfl) ?_
         refine pA 19 31 (mL 44 1048575) HT_ rfl rfl ?_
         refine pA 20 32 (mL 44 2097151) HT_ rfl rfl ?_
         refine pA 21 33 (mL 44 4194303) HT_ rfl rfl ?_
         refine pA 22 34 (mL 44 8388607) HT_ rfl rfl ?_
         refine pA 24 36 (mL 44 25165823) HT_ rfl rfl ?_
         refine pA 25 37 (mL 44 58720255) HT_ rfl rfl ?_
         refine pA 26 38 (mL 44 125829119) HT_ rfl rfl ?_
         refine tA 23 35 (mL 44 134217727) HT_ HW_ hHeld rfl rfl (by rintro w' ⟨s0, s1, s2, s3, s4, s5, s6, s7, s8, s9, s10, s11, s12, s13, s14, s15⟩; go_simp; with_reducible rfl) ?_
         refine tA 27 39 (mL 44 268435455) HT_ HW_ hHeld rfl rfl (by rintro w' ⟨s0, s1, s2, s3, s4, s5, s6, s7, s8, s9, s10, s11, s12, s13, s14, s15⟩; go_simp; with_reducible rfl) ?_
         refine pA 28 40 (mL 44 536870911) HT_ rfl rfl ?_
         refine pA 29 41 (mL 44 1073741823) HT_ rfl rfl ?_
         refine pA 30 42 (mL 44 2147483647) HT_ rfl rfl ?_
         refine pA 31 43 (mL 44 4294967295) HT_ rfl rfl ?_
         refine pA 32 44 (mL 44 8589934591) HT_ rfl rfl ?_
         refine pA 33 45 (mL 44 17179869183) HT_ rfl rfl ?_
         refine pU 34 46 (mL 44 34359738367) HT_ rfl rfl ?_
         refine pU 35 47 (mL 44 68719476735) HT_ rfl rfl ?_
         refine pU 36 48 (mL 44 137438953471) HT_ rfl rfl ?_
         refine pU 37 49 (mL 44 274877906943) HT_ rfl rfl ?_
         refine pU 38 50 (mL 44 549755813887) HT_ rfl rfl ?_
         refine pU 39 51 (mL 44 1099511627775) HT_ rfl rfl ?_
         refine pU 40 52 (mL 44 2199023255551) HT_ rfl rfl ?_
         refine pU 41 53 (mL 44 4398046511103) HT_ rfl rfl ?_
         refine pA 42 54 (mL 44 8796093022207) HT_ rfl rfl ?_
         refine pA 43 55 (mL 44 17592186044415) HT_ rfl rfl ?_
         refine done_ (done_of HT_.out KR) ?_
         try go_wp2
         go_roundg k1
         case measure => have := HK1.out; omega
         case rel => exact ⟨(wrap64 (x7_1 + 1)), TF, H', ⟨TM⟩, ⟨TB⟩⟩
       ·rw [if_neg c10] at H
        have c10b0 : (((rd_TRecord l0 x7_1).f2) == ((rd_TRecord l0 0).f2)) = false := beq_eq_false_iff_ne.mpr c10
        have c10b1 : (((rd_TRecord l0 x7_1).f2) != ((rd_TRecord l0 0).f2)) = true := bne_iff_ne.mpr c10
        obtain rfl := Option.some.inj H
        have p906 : 0 ≤ (x7_1 : Int) := TD
        have q906 : x7_1 < (l0.length : Int) := TD
        obtain ⟨ad906, e906, hx906_0, hx906_1, hx906_2, hx906_3⟩ := at_TRecord (Kd.C_below HR0.out HB.out) x7_1 p906 q906
        cases e906
        replace p906 := eq_true p906
        replace q906 := eq_true q906
        try go_wp2_with (first | ((with_reducible refine gate_dst (N := 4) rfl ?_); refine bE 4 #[.string (⟨#[]⟩ : ByteArray), .int .i64 0, .int .i64 0, .string (⟨#[]⟩ : ByteArray)] 93 ?_; intro gb907 hg w34 hbox hb; have BK907 := Aside0.mk (hbox); have GE907 := bG hg; replace HB := BS hb; clear hb hbox hg; have hcz35 := cz4 BK907))
        have n0_ : Aside0 (((((w34.setCell ⟨gb907, 0, none⟩ (.string ((rd_TRecord l0 x7_1).f0))).setCell ⟨gb907, 1, none⟩ (.int .i64 ((rd_TRecord l0 x7_1).f1))).setCell ⟨gb907, 2, none⟩ (.int .i64 ((rd_TRecord l0 x7_1).f2))).setCell ⟨gb907, 3, none⟩ (.string ((rd_TRecord l0 x7_1).f3))).heap[gb907]? = some (.cells #[.string ((rd_TRecord l0 x7_1).f0), .int .i64 ((rd_TRecord l0 x7_1).f1), .int .i64 ((rd_TRecord l0 x7_1).f2), .string ((rd_TRecord l0 x7_1).f3)] 93 (0, 0))) := ⟨TS⟩
        have n1_ : Aside0 (Below w.heap.size w ((((w34.setCell ⟨gb907, 0, none⟩ (.string ((rd_TRecord l0 x7_1).f0))).setCell ⟨gb907, 1, none⟩ (.int .i64 ((rd_TRecord l0 x7_1).f1))).setCell ⟨gb907, 2, none⟩ (.int .i64 ((rd_TRecord l0 x7_1).f2))).setCell ⟨gb907, 3, none⟩ (.string ((rd_TRecord l0 x7_1).f3)))) := ⟨TB⟩
        (try clear BK907)
        (try clear HB)
        generalize ((((w34.setCell ⟨gb907, 0, none⟩ (.string ((rd_TRecord l0 x7_1).f0))).setCell ⟨gb907, 1, none⟩ (.int .i64 ((rd_TRecord l0 x7_1).f1))).setCell ⟨gb907, 2, none⟩ (.int .i64 ((rd_TRecord l0 x7_1).f2))).setCell ⟨gb907, 3, none⟩ (.string ((rd_TRecord l0 x7_1).f3))) = w36 at n0_ n1_ ⊢
        have BK907 := n0_
        have HB := n1_
        clear n0_ n1_
        replace BK907 := Aside0.mk (blk_drew BK907.out)
        replace HB := Aside0.mk (below_drew1 HB.out)
        have p909 : 0 ≤ (0 : Int) := (by omega)
        have q909 : 0 < (l0.length : Int) := TD
        obtain ⟨ad909, e909, hx909_0, hx909_1, hx909_2, hx909_3⟩ := at_TRecord HR0.out 0 p909 q909
        have hw909_3 := hx909_3
        (try rw [show ((0 : Int)).toNat = 0 from rfl] at hw909_3)
        (try rw [show 0 * 4 = 0 from rfl] at hw909_3)
        (try rw [Addr.add_zero'] at hw909_3)
        have hw909_2 := hx909_2
        (try rw [show ((0 : Int)).toNat = 0 from rfl] at hw909_2)
        (try rw [show 0 * 4 = 0 from rfl] at hw909_2)
        (try rw [Addr.add_zero'] at hw909_2)
        have hw909_1 := hx909_1
        (try rw [show ((0 : Int)).toNat = 0 from rfl] at hw909_1)
        (try rw [show 0 * 4 = 0 from rfl] at hw909_1)
        (try rw [Addr.add_zero'] at hw909_1)
        have hw909_0 := hx909_0
        (try rw [show ((0 : Int)).toNat = 0 from rfl] at hw909_0)
        (try rw [show 0 * 4 = 0 from rfl] at hw909_0)
        (try rw [Addr.add_zero'] at hw909_0)
        obtain rfl : ad906 = ad909 := (by injection e909)
        have qi909 : (0 < l0.length) = True := eq_true (by omega)
        (try rw [show ((0 : Int)).toNat = 0 from rfl] at hx909_0)
        (try rw [show 0 * 4 = 0 from rfl] at hx909_0)
        (try rw [Addr.add_zero'] at hx909_0)
        (try rw [show ((0 : Int)).toNat = 0 from rfl] at hx909_1)
        (try rw [show 0 * 4 = 0 from rfl] at hx909_1)
        (try rw [Addr.add_zero'] at hx909_1)
        (try rw [show ((0 : Int)).toNat = 0 from rfl] at hx909_2)
        (try rw [show 0 * 4 = 0 from rfl] at hx909_2)
        (try rw [Addr.add_zero'] at hx909_2)
        (try rw [show ((0 : Int)).toNat = 0 from rfl] at hx909_3)
        (try rw [show 0 * 4 = 0 from rfl] at hx909_3)
        (try rw [Addr.add_zero'] at hx909_3)
        replace hx909_0 := hBc HB hx909_0
        replace hx909_1 := hBc HB hx909_1
        replace hx909_2 := hBc HB hx909_2
        replace hx909_3 := hBc HB hx909_3
        replace p909 := eq_true p909
        replace q909 := eq_true q909
        have p910 : 0 ≤ (0 : Int) := (by omega)
        have q910 : 0 < (l0.length : Int) := TD
        obtain ⟨ad910, e910, hx910_0, hx910_1, hx910_2, hx910_3⟩ := at_TRecord HR0.out 0 p910 q910
        have hw910_3 := hx910_3
        (try rw [show ((0 : Int)).toNat = 0 from rfl] at hw910_3)
        (try rw [show 0 * 4 = 0 from rfl] at hw910_3)
        (try rw [Addr.add_zero'] at hw910_3)
        have hw910_2 := hx910_2
        (try rw [show ((0 : Int)).toNat = 0 from rfl] at hw910_2)
        (try rw [show 0 * 4 = 0 from rfl] at hw910_2)
        (try rw [Addr.add_zero'] at hw910_2)
        have hw910_1 := hx910_1
        (try rw [show ((0 : Int)).toNat = 0 from rfl] at hw910_1)
        (try rw [show 0 * 4 = 0 from rfl] at hw910_1)
        (try rw [Addr.add_zero'] at hw910_1)
        have hw910_0 := hx910_0
        (try rw [show ((0 : Int)).toNat = 0 from rfl] at hw910_0)
        (try rw [show 0 * 4 = 0 from rfl] at hw910_0)
        (try rw [Addr.add_zero'] at hw910_0)
        obtain rfl : ad906 = ad910 := (by injection e910)
        have qi910 : (0 < l0.length) = True := eq_true (by omega)
        (try rw [show ((0 : Int)).toNat = 0 from rfl] at hx910_0)
        (try rw [show 0 * 4 = 0 from rfl] at hx910_0)
        (try rw [Addr.add_zero'] at hx910_0)
        (try rw [show ((0 : Int)).toNat = 0 from rfl] at hx910_1)
        (try rw [show 0 * 4 = 0 from rfl] at hx910_1)
        (try rw [Addr.add_zero'] at hx910_1)
        (try rw [show ((0 : Int)).toNat = 0 from rfl] at hx910_2)
        (try rw [show 0 * 4 = 0 from rfl] at hx910_2)
        (try rw [Addr.add_zero'] at hx910_2)
        (try rw [show ((0 : Int)).toNat = 0 from rfl] at hx910_3)
        (try rw [show 0 * 4 = 0 from rfl] at hx910_3)
        (try rw [Addr.add_zero'] at hx910_3)
        replace hx910_0 := hBc HB hx910_0
        replace hx910_1 := hBc HB hx910_1
        replace hx910_2 := hBc HB hx910_2
        replace hx910_3 := hBc HB hx910_3
        replace p910 := eq_true p910
        replace q910 := eq_true q910
        have p911 : 0 ≤ (0 : Int) := (by omega)
        have q911 : 0 < (l0.length : Int) := TD
        obtain ⟨ad911, e911, hx911_0, hx911_1, hx911_2, hx911_3⟩ := at_TRecord HR0.out 0 p911 q911
        have hw911_3 := hx911_3
        (try rw [show ((0 : Int)).toNat = 0 from rfl] at hw911_3)
        (try rw [show 0 * 4 = 0 from rfl] at hw911_3)
        (try rw [Addr.add_zero'] at hw911_3)
        have hw911_2 := hx911_2
        (try rw [show ((0 : Int)).toNat = 0 from rfl] at hw911_2)
        (try rw [show 0 * 4 = 0 from rfl] at hw911_2)
        (try rw [Addr.add_zero'] at hw911_2)
        have hw911_1 := hx911_1
        (try rw [show ((0 : Int)).toNat = 0 from rfl] at hw911_1)
        (try rw [show 0 * 4 = 0 from rfl] at hw911_1)
        (try rw [Addr.add_zero'] at hw911_1)
        have hw911_0 := hx911_0
        (try rw [show ((0 : Int)).toNat = 0 from rfl] at hw911_0)
        (try rw [show 0 * 4 = 0 from rfl] at hw911_0)
        (try rw [Addr.add_zero'] at hw911_0)
        obtain rfl : ad906 = ad911 := (by injection e911)
        have qi911 : (0 < l0.length) = True := eq_true (by omega)
        (try rw [show ((0 : Int)).toNat = 0 from rfl] at hx911_0)
        (try rw [show 0 * 4 = 0 from rfl] at hx911_0)
        (try rw [Addr.add_zero'] at hx911_0)
        (try rw [show ((0 : Int)).toNat = 0 from rfl] at hx911_1)
        (try rw [show 0 * 4 = 0 from rfl] at hx911_1)
        (try rw [Addr.add_zero'] at hx911_1)
        (try rw [show ((0 : Int)).toNat = 0 from rfl] at hx911_2)
        (try rw [show 0 * 4 = 0 from rfl] at hx911_2)
        (try rw [Addr.add_zero'] at hx911_2)
        (try rw [show ((0 : Int)).toNat = 0 from rfl] at hx911_3)
        (try rw [show 0 * 4 = 0 from rfl] at hx911_3)
        (try rw [Addr.add_zero'] at hx911_3)
        replace hx911_0 := hBc HB hx911_0
        replace hx911_1 := hBc HB hx911_1
        replace hx911_2 := hBc HB hx911_2
        replace hx911_3 := hBc HB hx911_3
        replace p911 := eq_true p911
        replace q911 := eq_true q911
        refine start_ (n := 44) (S := fun w' => w'.cell? ⟨gb907, 0, none⟩ = some (.string ((rd_TRecord l0 x7_1).f0)) ∧ w'.cell? ⟨gb907, 1, none⟩ = some (.int .i64 ((rd_TRecord l0 x7_1).f1)) ∧ w'.cell? ⟨gb907, 2, none⟩ = some (.int .i64 ((rd_TRecord l0 x7_1).f2)) ∧ w'.cell? ⟨gb907, 3, none⟩ = some (.string ((rd_TRecord l0 x7_1).f3)) ∧ w'.cell? ad906 = some (.string ((rd_TRecord l0 0).f0)) ∧ w'.cell? ⟨ad906.block, ad906.off + 1, none⟩ = some (.int .i64 ((rd_TRecord l0 0).f1)) ∧ w'.cell? ⟨ad906.block, ad906.off + 2, none⟩ = some (.int .i64 ((rd_TRecord l0 0).f2)) ∧ w'.cell? ⟨ad906.block, ad906.off + 3, none⟩ = some (.string ((rd_TRecord l0 0).f3)) ∧ w'.cell? ad906 = some (.string ((rd_TRecord l0 0).f0)) ∧ w'.cell? ⟨ad906.block, ad906.off + 1, none⟩ = some (.int .i64 ((rd_TRecord l0 0).f1)) ∧ w'.cell? ⟨ad906.block, ad906.off + 2, none⟩ = some (.int .i64 ((rd_TRecord l0 0).f2)) ∧ w'.cell? ⟨ad906.block, ad906.off + 3, none⟩ = some (.string ((rd_TRecord l0 0).f3)) ∧ w'.cell? ad906 = some (.string ((rd_TRecord l0 0).f0)) ∧ w'.cell? ⟨ad906.block, ad906.off + 1, none⟩ = some (.int .i64 ((rd_TRecord l0 0).f1)) ∧ w'.cell? ⟨ad906.block, ad906.off + 2, none⟩ = some (.int .i64 ((rd_TRecord l0 0).f2)) ∧ w'.cell? ⟨ad906.block, ad906.off + 3, none⟩ = some (.string ((rd_TRecord l0 0).f3))) (ds := []) #[false, false, false, false, false, false, false, false, false, false, false, false, false, false, false, false, false, false, false, false, false, false, false, false, false, false, false, false, false, false, false, false, false, false, false, false, false, false, false, false, false, false, false, false] KR rfl rfl ⟨bc 0 BK907, bc 1 BK907, bc 2 BK907, bc 3 BK907, ((HB.out.cell (World.block_lt_of_cell? w _ hw909_0)).trans hw909_0), ((HB.out.cell (World.block_lt_of_cell? w _ hw909_1)).trans hw909_1), ((HB.out.cell (World.block_lt_of_cell? w _ hw909_2)).trans hw909_2), ((HB.out.cell (World.block_lt_of_cell? w _ hw909_3)).trans hw909_3), ((HB.out.cell (World.block_lt_of_cell? w _ hw910_0)).trans hw910_0), ((HB.out.cell (World.block_lt_of_cell? w _ hw910_1)).trans hw910_1), ((HB.out.cell (World.block_lt_of_cell? w _ hw910_2)).trans hw910_2), ((HB.out.cell (World.block_lt_of_cell? w _ hw910_3)).trans hw910_3), ((HB.out.cell (World.block_lt_of_cell? w _ hw911_0)).trans hw911_0), ((HB.out.cell (World.block_lt_of_cell? w _ hw911_1)).trans hw911_1), ((HB.out.cell (World.block_lt_of_cell? w _ hw911_2)).trans hw911_2), ((HB.out.cell (World.block_lt_of_cell? w _ hw911_3)).trans hw911_3)⟩ (fun hHeld => ?_); refine with_tabW spec_l10Same.tab4 spec_l10Same.bits4 (fun HT_ HW_ => ?_)
        generalize w36.drew = w37 at BK907 HB hx909_0 hx909_1 hx909_2 hx909_3 hx910_0 hx910_1 hx910_2 hx910_3 hx911_0 hx911_1 hx911_2 hx911_3 hHeld ⊢
        refine tA 0 12 (mL 44 1) HT_ HW_ hHeld rfl rfl (by rintro w' ⟨s0, s1, s2, s3, s4, s5, s6, s7, s8, s9, s10, s11, s12, s13, s14, s15⟩; go_simp; with_reducible rfl) ?_
        refine one_ (i := 1) (N := some 13) (mL 44 3) rfl rfl (one_of HT_.out KR) (by decide) (fun K hK => ?_)
        refine goes_ Tryz.func118 KR rfl #[.agg #[.string ((rd_TRecord l0 x7_1).f0), .int .i64 ((rd_TRecord l0 x7_1).f1), .int .i64 ((rd_TRecord l0 x7_1).f2), .string ((rd_TRecord l0 x7_1).f3)]] (by rfl) rfl rfl TA ?_
        with_reducible refine (spec_GoodRecord.calls k1 ((rd_TRecord l0 x7_1).f0) ((rd_TRecord l0 x7_1).f1) ((rd_TRecord l0 x7_1).f2) ((rd_TRecord l0 x7_1).f3) true _ A5.out).mono ?_
        rintro e w38 ⟨rfl, hb⟩
        refine ⟨_, rfl, ?_⟩
        replace BK907 := KB BK907 hb
        replace HB := BS hb
        (try clear hb)
        (try clear hb2)
        (try clear hk)
        (try clear hi)
        refine hK.out _ _ ⟨bc 0 BK907, bc 1 BK907, bc 2 BK907, bc 3 BK907, ((HB.out.cell (World.block_lt_of_cell? w _ hw909_0)).trans hw909_0), ((HB.out.cell (World.block_lt_of_cell? w _ hw909_1)).trans hw909_1), ((HB.out.cell (World.block_lt_of_cell? w _ hw909_2)).trans hw909_2), ((HB.out.cell (World.block_lt_of_cell? w _ hw909_3)).trans hw909_3), ((HB.out.cell (World.block_lt_of_cell? w _ hw910_0)).trans hw910_0), ((HB.out.cell (World.block_lt_of_cell? w _ hw910_1)).trans hw910_1), ((HB.out.cell (World.block_lt_of_cell? w _ hw910_2)).trans hw910_2), ((HB.out.cell (World.block_lt_of_cell? w _ hw910_3)).trans hw910_3), ((HB.out.cell (World.block_lt_of_cell? w _ hw911_0)).trans hw911_0), ((HB.out.cell (World.block_lt_of_cell? w _ hw911_1)).trans hw911_1), ((HB.out.cell (World.block_lt_of_cell? w _ hw911_2)).trans hw911_2), ((HB.out.cell (World.block_lt_of_cell? w _ hw911_3)).trans hw911_3)⟩ (fun hHeld => ?_)
        clear hK K
        refine nA ?_
        refine pA 2 14 (mL 44 7) HT_ rfl rfl ?_
        refine pA 3 15 (mL 44 15) HT_ rfl rfl ?_
        refine pA 4 16 (mL 44 31) HT_ rfl rfl ?_
        refine pA 6 18 (mL 44 95) HT_ rfl rfl ?_
        refine pA 7 19 (mL 44 223) HT_ rfl rfl ?_
        refine pA 8 20 (mL 44 479) HT_ rfl rfl ?_
        refine tA 5 17 (mL 44 511) HT_ HW_ hHeld rfl rfl (by rintro w' ⟨s0, s1, s2, s3, s4, s5, s6, s7, s8, s9, s10, s11, s12, s13, s14, s15⟩; go_simp; with_reducible rfl) ?_
        refine tA 9 21 (mL 44 1023) HT_ HW_ hHeld rfl rfl (by rintro w' ⟨s0, s1, s2, s3, s4, s5, s6, s7, s8, s9, s10, s11, s12, s13, s14, s15⟩; go_simp; with_reducible rfl) ?_
        refine pA 10 22 (mL 44 2047) HT_ rfl rfl ?_
        refine pA 11 23 (mL 44 4095) HT_ rfl rfl ?_
        refine pA 12 24 (mL 44 8191) HT_ rfl rfl ?_
        refine pA 13 25 (mL 44 16383) HT_ rfl rfl ?_
        refine pA 15 27 (mL 44 49151) HT_ rfl rfl ?_
        refine pA 16 28 (mL 44 114687) HT_ rfl rfl ?_
        refine pA 17 29 (mL 44 245759) HT_ rfl rfl ?_
        refine tA 14 26 (mL 44 262143) HT_ HW_ hHeld rfl rfl (by rintro w' ⟨s0, s1, s2, s3, s4, s5, s6, s7, s8, s9, s10, s11, s12, s13, s14, s15⟩; go_simp; with_reducible rfl) ?_
        refine tA 18 30 (mL 44 524287) HT_ HW_ hHeld rfl rfl (by rintro w' ⟨s0, s1, s2, s3, s4, s5, s6, s7, s8, s9, s10, s11, s12, s13, s14, s15⟩; go_simp; with_reducible rfl) ?_
        refine pA 19 31 (mL 44 1048575) HT_ rfl rfl ?_
        refine pA 20 32 (mL 44 2097151) HT_ rfl rfl ?_
        refine pA 21 33 (mL 44 4194303) HT_ rfl rfl ?_
        refine pA 22 34 (mL 44 8388607) HT_ rfl rfl ?_
        refine pA 24 36 (mL 44 25165823) HT_ rfl rfl ?_
        refine pA 25 37 (mL 44 58720255) HT_ rfl rfl ?_
        refine pA 26 38 (mL 44 125829119) HT_ rfl rfl ?_
        refine tA 23 35 (mL 44 134217727) HT_ HW_ hHeld rfl rfl (by rintro w' ⟨s0, s1, s2, s3, s4, s5, s6, s7, s8, s9, s10, s11, s12, s13, s14, s15⟩; go_simp; with_reducible rfl) ?_
        refine tA 27 39 (mL 44 268435455) HT_ HW_ hHeld rfl rfl (by rintro w' ⟨s0, s1, s2, s3, s4, s5, s6, s7, s8, s9, s10, s11, s12, s13, s14, s15⟩; go_simp; with_reducible rfl) ?_
        refine pA 28 40 (mL 44 536870911) HT_ rfl rfl ?_
        refine pA 29 41 (mL 44 1073741823) HT_ rfl rfl ?_
        refine pA 30 42 (mL 44 2147483647) HT_ rfl rfl ?_
        refine pU 31 43 (mL 44 4294967295) HT_ rfl rfl ?_
        refine pU 32 44 (mL 44 8589934591) HT_ rfl rfl ?_
        refine pU 33 45 (mL 44 17179869183) HT_ rfl rfl ?_
        refine pU 34 46 (mL 44 34359738367) HT_ rfl rfl ?_
        refine pU 35 47 (mL 44 68719476735) HT_ rfl rfl ?_
        refine pU 36 48 (mL 44 137438953471) HT_ rfl rfl ?_
        refine pU 37 49 (mL 44 274877906943) HT_ rfl rfl ?_
        refine pU 38 50 (mL 44 549755813887) HT_ rfl rfl ?_
        refine pU 39 51 (mL 44 1099511627775) HT_ rfl rfl ?_
        refine pU 40 52 (mL 44 2199023255551) HT_ rfl rfl ?_
        refine pU 41 53 (mL 44 4398046511103) HT_ rfl rfl ?_
        refine pU 42 54 (mL 44 8796093022207) HT_ rfl rfl ?_
        refine pA 43 55 (mL 44 17592186044415) HT_ rfl rfl ?_
        refine done_ (done_of HT_.out KR) ?_
        try go_wp2
        go_ret
        exact ⟨TE, TB⟩
      ·rw [if_neg c9] at H
       have c9b0 : (((rd_TRecord l0 x7_1).f1) == ((rd_TRecord l0 0).f1)) = false := beq_eq_false_iff_ne.mpr c9
       have c9b1 : (((rd_TRecord l0 x7_1).f1) != ((rd_TRecord l0 0).f1)) = true := bne_iff_ne.mpr c9
       obtain rfl := Option.some.inj H
       have p906 : 0 ≤ (x7_1 : Int) := TD
       have q906 : x7_1 < (l0.length : Int) := TD
       obtain ⟨ad906, e906, hx906_0, hx906_1, hx906_2, hx906_3⟩ := at_TRecord (Kd.C_below HR0.out HB.out) x7_1 p906 q906
       cases e906
       replace p906 := eq_true p906
       replace q906 := eq_true q906
       try go_wp2_with (first | ((with_reducible refine gate_dst (N := 4) rfl ?_); refine bE 4 #[.string (⟨#[]⟩ : ByteArray), .int .i64 0, .int .i64 0, .string (⟨#[]⟩ : ByteArray)] 93 ?_; intro gb907 hg w39 hbox hb; have BK907 := Aside0.mk (hbox); have GE907 := bG hg; replace HB := BS hb; clear hb hbox hg; have hcz40 := cz4 BK907))
       have n0_ : Aside0 (((((w39.setCell ⟨gb907, 0, none⟩ (.string ((rd_TRecord l0 x7_1).f0))).setCell ⟨gb907, 1, none⟩ (.int .i64 ((rd_TRecord l0 x7_1).f1))).setCell ⟨gb907, 2, none⟩ (.int .i64 ((rd_TRecord l0 x7_1).f2))).setCell ⟨gb907, 3, none⟩ (.string ((rd_TRecord l0 x7_1).f3))).heap[gb907]? = some (.cells #[.string ((rd_TRecord l0 x7_1).f0), .int .i64 ((rd_TRecord l0 x7_1).f1), .int .i64 ((rd_TRecord l0 x7_1).f2), .string ((rd_TRecord l0 x7_1).f3)] 93 (0, 0))) := ⟨TS⟩
       have n1_ : Aside0 (Below w.heap.size w ((((w39.setCell ⟨gb907, 0, none⟩ (.string ((rd_TRecord l0 x7_1).f0))).setCell ⟨gb907, 1, none⟩ (.int .i64 ((rd_TRecord l0 x7_1).f1))).setCell ⟨gb907, 2, none⟩ (.int .i64 ((rd_TRecord l0 x7_1).f2))).setCell ⟨gb907, 3, none⟩ (.string ((rd_TRecord l0 x7_1).f3)))) := ⟨TB⟩
       (try clear BK907)
       (try clear HB)
       generalize ((((w39.setCell ⟨gb907, 0, none⟩ (.string ((rd_TRecord l0 x7_1).f0))).setCell ⟨gb907, 1, none⟩ (.int .i64 ((rd_TRecord l0 x7_1).f1))).setCell ⟨gb907, 2, none⟩ (.int .i64 ((rd_TRecord l0 x7_1).f2))).setCell ⟨gb907, 3, none⟩ (.string ((rd_TRecord l0 x7_1).f3))) = w41 at n0_ n1_ ⊢
       have BK907 := n0_
       have HB := n1_
       clear n0_ n1_
       replace BK907 := Aside0.mk (blk_drew BK907.out)
       replace HB := Aside0.mk (below_drew1 HB.out)
       have p909 : 0 ≤ (0 : Int) := (by omega)
       have q909 : 0 < (l0.length : Int) := TD
       obtain ⟨ad909, e909, hx909_0, hx909_1, hx909_2, hx909_3⟩ := at_TRecord HR0.out 0 p909 q909
       have hw909_3 := hx909_3
       (try rw [show ((0 : Int)).toNat = 0 from rfl] at hw909_3)
       (try rw [show 0 * 4 = 0 from rfl] at hw909_3)
       (try rw [Addr.add_zero'] at hw909_3)
       have hw909_2 := hx909_2
       (try rw [show ((0 : Int)).toNat = 0 from rfl] at hw909_2)
       (try rw [show 0 * 4 = 0 from rfl] at hw909_2)
       (try rw [Addr.add_zero'] at hw909_2)
       have hw909_1 := hx909_1
       (try rw [show ((0 : Int)).toNat = 0 from rfl] at hw909_1)
       (try rw [show 0 * 4 = 0 from rfl] at hw909_1)
       (try rw [Addr.add_zero'] at hw909_1)
       have hw909_0 := hx909_0
       (try rw [show ((0 : Int)).toNat = 0 from rfl] at hw909_0)
       (try rw [show 0 * 4 = 0 from rfl] at hw909_0)
       (try rw [Addr.add_zero'] at hw909_0)
       obtain rfl : ad906 = ad909 := (by injection e909)
       have qi909 : (0 < l0.length) = True := eq_true (by omega)
       (try rw [show ((0 : Int)).toNat = 0 from rfl] at hx909_0)
       (try rw [show 0 * 4 = 0 from rfl] at hx909_0)
       (try rw [Addr.add_zero'] at hx909_0)
       (try rw [show ((0 : Int)).toNat = 0 from rfl] at hx909_1)
       (try rw [show 0 * 4 = 0 from rfl] at hx909_1)
       (try rw [Addr.add_zero'] at hx909_1)
       (try rw [show ((0 : Int)).toNat = 0 from rfl] at hx909_2)
       (try rw [show 0 * 4 = 0 from rfl] at hx909_2)
       (try rw [Addr.add_zero'] at hx909_2)
       (try rw [show ((0 : Int)).toNat = 0 from rfl] at hx909_3)
       (try rw [show 0 * 4 = 0 from rfl] at hx909_3)
       (try rw [Addr.add_zero'] at hx909_3)
       replace hx909_0 := hBc HB hx909_0
       replace hx909_1 := hBc HB hx909_1
       replace hx909_2 := hBc HB hx909_2
       replace hx909_3 := hBc HB hx909_3
       replace p909 := eq_true p909
       replace q909 := eq_true q909
       have p910 : 0 ≤ (0 : Int) := (by omega)
       have q910 : 0 < (l0.length : Int) := TD
       obtain ⟨ad910, e910, hx910_0, hx910_1, hx910_2, hx910_3⟩ := at_TRecord HR0.out 0 p910 q910
       have hw910_3 := hx910_3
       (try rw [show ((0 : Int)).toNat = 0 from rfl] at hw910_3)
       (try rw [show 0 * 4 = 0 from rfl] at hw910_3)
       (try rw [Addr.add_zero'] at hw910_3)
       have hw910_2 := hx910_2
       (try rw [show ((0 : Int)).toNat = 0 from rfl] at hw910_2)
       (try rw [show 0 * 4 = 0 from rfl] at hw910_2)
       (try rw [Addr.add_zero'] at hw910_2)
       have hw910_1 := hx910_1
       (try rw [show ((0 : Int)).toNat = 0 from rfl] at hw910_1)
       (try rw [show 0 * 4 = 0 from rfl] at hw910_1)
       (try rw [Addr.add_zero'] at hw910_1)
       have hw910_0 := hx910_0
       (try rw [show ((0 : Int)).toNat = 0 from rfl] at hw910_0)
       (try rw [show 0 * 4 = 0 from rfl] at hw910_0)
       (try rw [Addr.add_zero'] at hw910_0)
       obtain rfl : ad906 = ad910 := (by injection e910)
       have qi910 : (0 < l0.length) = True := eq_true (by omega)
       (try rw [show ((0 : Int)).toNat = 0 from rfl] at hx910_0)
       (try rw [show 0 * 4 = 0 from rfl] at hx910_0)
       (try rw [Addr.add_zero'] at hx910_0)
       (try rw [show ((0 : Int)).toNat = 0 from rfl] at hx910_1)
       (try rw [show 0 * 4 = 0 from rfl] at hx910_1)
       (try rw [Addr.add_zero'] at hx910_1)
       (try rw [show ((0 : Int)).toNat = 0 from rfl] at hx910_2)
       (try rw [show 0 * 4 = 0 from rfl] at hx910_2)
       (try rw [Addr.add_zero'] at hx910_2)
       (try rw [show ((0 : Int)).toNat = 0 from rfl] at hx910_3)
       (try rw [show 0 * 4 = 0 from rfl] at hx910_3)
       (try rw [Addr.add_zero'] at hx910_3)
       replace hx910_0 := hBc HB hx910_0
       replace hx910_1 := hBc HB hx910_1
       replace hx910_2 := hBc HB hx910_2
       replace hx910_3 := hBc HB hx910_3
       replace p910 := eq_true p910
       replace q910 := eq_true q910
       refine start_ (n := 44) (S := fun w' => w'.cell? ⟨gb907, 0, none⟩ = some (.string ((rd_TRecord l0 x7_1).f0)) ∧ w'.cell? ⟨gb907, 1, none⟩ = some (.int .i64 ((rd_TRecord l0 x7_1).f1)) ∧ w'.cell? ⟨gb907, 2, none⟩ = some (.int .i64 ((rd_TRecord l0 x7_1).f2)) ∧ w'.cell? ⟨gb907, 3, none⟩ = some (.string ((rd_TRecord l0 x7_1).f3)) ∧ w'.cell? ad906 = some (.string ((rd_TRecord l0 0).f0)) ∧ w'.cell? ⟨ad906.block, ad906.off + 1, none⟩ = some (.int .i64 ((rd_TRecord l0 0).f1)) ∧ w'.cell? ⟨ad906.block, ad906.off + 2, none⟩ = some (.int .i64 ((rd_TRecord l0 0).f2)) ∧ w'.cell? ⟨ad906.block, ad906.off + 3, none⟩ = some (.string ((rd_TRecord l0 0).f3)) ∧ w'.cell? ad906 = some (.string ((rd_TRecord l0 0).f0)) ∧ w'.cell? ⟨ad906.block, ad906.off + 1, none⟩ = some (.int .i64 ((rd_TRecord l0 0).f1)) ∧ w'.cell? ⟨ad906.block, ad906.off + 2, none⟩ = some (.int .i64 ((rd_TRecord l0 0).f2)) ∧ w'.cell? ⟨ad906.block, ad906.off + 3, none⟩ = some (.string ((rd_TRecord l0 0).f3))) (ds := []) #[false, false, false, false, false, false, false, false, false, false, false, false, false, false, false, false, false, false, false, false, false, false, false, false, false, false, false, false, false, false, false, false, false, false, false, false, false, false, false, false, false, false, false, false] KR rfl rfl ⟨bc 0 BK907, bc 1 BK907, bc 2 BK907, bc 3 BK907, ((HB.out.cell (World.block_lt_of_cell? w _ hw909_0)).trans hw909_0), ((HB.out.cell (World.block_lt_of_cell? w _ hw909_1)).trans hw909_1), ((HB.out.cell (World.block_lt_of_cell? w _ hw909_2)).trans hw909_2), ((HB.out.cell (World.block_lt_of_cell? w _ hw909_3)).trans hw909_3), ((HB.out.cell (World.block_lt_of_cell? w _ hw910_0)).trans hw910_0), ((HB.out.cell (World.block_lt_of_cell? w _ hw910_1)).trans hw910_1), ((HB.out.cell (World.block_lt_of_cell? w _ hw910_2)).trans hw910_2), ((HB.out.cell (World.block_lt_of_cell? w _ hw910_3)).trans hw910_3)⟩ (fun hHeld => ?_); refine with_tabW spec_l10Same.tab4 spec_l10Same.bits4 (fun HT_ HW_ => ?_)
       generalize w41.drew = w42 at BK907 HB hx909_0 hx909_1 hx909_2 hx909_3 hx910_0 hx910_1 hx910_2 hx910_3 hHeld ⊢
       refine tA 0 12 (mL 44 1) HT_ HW_ hHeld rfl rfl (by rintro w' ⟨s0, s1, s2, s3, s4, s5, s6, s7, s8, s9, s10, s11⟩; go_simp; with_reducible rfl) ?_
       refine one_ (i := 1) (N := some 13) (mL 44 3) rfl rfl (one_of HT_.out KR) (by decide) (fun K hK => ?_)
       refine goes_ Tryz.func118 KR rfl #[.agg #[.string ((rd_TRecord l0 x7_1).f0), .int .i64 ((rd_TRecord l0 x7_1).f1), .int .i64 ((rd_TRecord l0 x7_1).f2), .string ((rd_TRecord l0 x7_1).f3)]] (by rfl) rfl rfl TA ?_
       with_reducible refine (spec_GoodRecord.calls k1 ((rd_TRecord l0 x7_1).f0) ((rd_TRecord l0 x7_1).f1) ((rd_TRecord l0 x7_1).f2) ((rd_TRecord l0 x7_1).f3) true _ A5.out).mono ?_
       rintro e w43 ⟨rfl, hb⟩
       refine ⟨_, rfl, ?_⟩
       replace BK907 := KB BK907 hb
       replace HB := BS hb
       (try clear hb)
       (try clear hb2)
       (try clear hk)
       (try clear hi)
       refine hK.out _ _ ⟨bc 0 BK907, bc 1 BK907, bc 2 BK907, bc 3 BK907, ((HB.out.cell (World.block_lt_of_cell? w _ hw909_0)).trans hw909_0), ((HB.out.cell (World.block_lt_of_cell? w _ hw909_1)).trans hw909_1), ((HB.out.cell (World.block_lt_of_cell? w _ hw909_2)).trans hw909_2), ((HB.out.cell (World.block_lt_of_cell? w _ hw909_3)).trans hw909_3), ((HB.out.cell (World.block_lt_of_cell? w _ hw910_0)).trans hw910_0), ((HB.out.cell (World.block_lt_of_cell? w _ hw910_1)).trans hw910_1), ((HB.out.cell (World.block_lt_of_cell? w _ hw910_2)).trans hw910_2), ((HB.out.cell (World.block_lt_of_cell? w _ hw910_3)).trans hw910_3)⟩ (fun hHeld => ?_)
       clear hK K
       refine nA ?_
       refine pA 2 14 (mL 44 7) HT_ rfl rfl ?_
       refine pA 3 15 (mL 44 15) HT_ rfl rfl ?_
       refine pA 4 16 (mL 44 31) HT_ rfl rfl ?_
       refine pA 6 18 (mL 44 95) HT_ rfl rfl ?_
       refine pA 7 19 (mL 44 223) HT_ rfl rfl ?_
       refine pA 8 20 (mL 44 479) HT_ rfl rfl ?_
       refine tA 5 17 (mL 44 511) HT_ HW_ hHeld rfl rfl (by rintro w' ⟨s0, s1, s2, s3, s4, s5, s6, s7, s8, s9, s10, s11⟩; go_simp; with_reducible rfl) ?_
       refine tA 9 21 (mL 44 1023) HT_ HW_ hHeld rfl rfl (by rintro w' ⟨s0, s1, s2, s3, s4, s5, s6, s7, s8, s9, s10, s11⟩; go_simp; with_reducible rfl) ?_
       refine pA 10 22 (mL 44 2047) HT_ rfl rfl ?_
       refine pA 11 23 (mL 44 4095) HT_ rfl rfl ?_
       refine pA 12 24 (mL 44 8191) HT_ rfl rfl ?_
       refine pA 13 25 (mL 44 16383) HT_ rfl rfl ?_
       refine pA 15 27 (mL 44 49151) HT_ rfl rfl ?_
       refine pA 16 28 (mL 44 114687) HT_ rfl rfl ?_
       refine pA 17 29 (mL 44 245759) HT_ rfl rfl ?_
       refine tA 14 26 (mL 44 262143) HT_ HW_ hHeld rfl rfl (by rintro w' ⟨s0, s1, s2, s3, s4, s5, s6, s7, s8, s9, s10, s11⟩; go_simp; with_reducible rfl) ?_
       refine tA 18 30 (mL 44 524287) HT_ HW_ hHeld rfl rfl (by rintro w' ⟨s0, s1, s2, s3, s4, s5, s6, s7, s8, s9, s10, s11⟩; go_simp; with_reducible rfl) ?_
       refine pA 19 31 (mL 44 1048575) HT_ rfl rfl ?_
       refine pA 20 32 (mL 44 2097151) HT_ rfl rfl ?_
       refine pA 21 33 (mL 44 4194303) HT_ rfl rfl ?_
       refine pU 22 34 (mL 44 8388607) HT_ rfl rfl ?_
       refine pU 23 35 (mL 44 16777215) HT_ rfl rfl ?_
       refine pU 24 36 (mL 44 33554431) HT_ rfl rfl ?_
       refine pU 25 37 (mL 44 67108863) HT_ rfl rfl ?_
       refine pU 26 38 (mL 44 134217727) HT_ rfl rfl ?_
       refine pU 27 39 (mL 44 268435455) HT_ rfl rfl ?_
       refine pU 28 40 (mL 44 536870911) HT_ rfl rfl ?_
       refine pA 29 41 (mL 44 1073741823) HT_ rfl rfl ?_
       refine pA 30 42 (mL 44 2147483647) HT_ rfl rfl ?_
       refine pU 31 43 (mL 44 4294967295) HT_ rfl rfl ?_
       refine pU 32 44 (mL 44 8589934591) HT_ rfl rfl ?_
       refine pU 33 45 (mL 44 17179869183) HT_ rfl rfl ?_
       refine pU 34 46 (mL 44 34359738367) HT_ rfl rfl ?_
       refine pU 35 47 (mL 44 68719476735) HT_ rfl rfl ?_
       refine pU 36 48 (mL 44 137438953471) HT_ rfl rfl ?_
       refine pU 37 49 (mL 44 274877906943) HT_ rfl rfl ?_
       refine pU 38 50 (mL 44 549755813887) HT_ rfl rfl ?_
       refine pU 39 51 (mL 44 1099511627775) HT_ rfl rfl ?_
       refine pU 40 52 (mL 44 2199023255551) HT_ rfl rfl ?_
       refine pU 41 53 (mL 44 4398046511103) HT_ rfl rfl ?_
       refine pU 42 54 (mL 44 8796093022207) HT_ rfl rfl ?_
       refine pA 43 55 (mL 44 17592186044415) HT_ rfl rfl ?_
       refine done_ (done_of HT_.out KR) ?_
       try go_wp2
       go_ret
       exact ⟨TE, TB⟩
     ·rw [if_neg c8] at H
      have c8b0 : (((rd_TRecord l0 x7_1).f0).toList == ((rd_TRecord l0 0).f0).toList) = false := beq_eq_false_iff_ne.mpr c8
      have c8b1 : (((rd_TRecord l0 x7_1).f0).toList != ((rd_TRecord l0 0).f0).toList) = true := bne_iff_ne.mpr c8
      obtain rfl := Option.some.inj H
      have p906 : 0 ≤ (x7_1 : Int) := TD
      have q906 : x7_1 < (l0.length : Int) := TD
      obtain ⟨ad906, e906, hx906_0, hx906_1, hx906_2, hx906_3⟩ := at_TRecord (Kd.C_below HR0.out HB.out) x7_1 p906 q906
      cases e906
      replace p906 := eq_true p906
      replace q906 := eq_true q906
      try go_wp2_with (first | ((with_reducible refine gate_dst (N := 4) rfl ?_); refine bE 4 #[.string (⟨#[]⟩ : ByteArray), .int .i64 0, .int .i64 0, .string (⟨#[]⟩ : ByteArray)] 93 ?_; intro gb907 hg w44 hbox hb; have BK907 := Aside0.mk (hbox); have GE907 := bG hg; replace HB := BS hb; clear hb hbox hg; have hcz45 := cz4 BK907))
      have n0_ : Aside0 (((((w44.setCell ⟨gb907, 0, none⟩ (.string ((rd_TRecord l0 x7_1).f0))).setCell ⟨gb907, 1, none⟩ (.int .i64 ((rd_TRecord l0 x7_1).f1))).setCell ⟨gb907, 2, none⟩ (.int .i64 ((rd_TRecord l0 x7_1).f2))).setCell ⟨gb907, 3, none⟩ (.string ((rd_TRecord l0 x7_1).f3))).heap[gb907]? = some (.cells #[.string ((rd_TRecord l0 x7_1).f0), .int .i64 ((rd_TRecord l0 x7_1).f1), .int .i64 ((rd_TRecord l0 x7_1).f2), .string ((rd_TRecord l0 x7_1).f3)] 93 (0, 0))) := ⟨TS⟩
      have n1_ : Aside0 (Below w.heap.size w ((((w44.setCell ⟨gb907, 0, none⟩ (.string ((rd_TRecord l0 x7_1).f0))).setCell ⟨gb907, 1, none⟩ (.int .i64 ((rd_TRecord l0 x7_1).f1))).setCell ⟨gb907, 2, none⟩ (.int .i64 ((rd_TRecord l0 x7_1).f2))).setCell ⟨gb907, 3, none⟩ (.string ((rd_TRecord l0 x7_1).f3)))) := ⟨TB⟩
      (try clear BK907)
      (try clear HB)
      generalize ((((w44.setCell ⟨gb907, 0, none⟩ (.string ((rd_TRecord l0 x7_1).f0))).setCell ⟨gb907, 1, none⟩ (.int .i64 ((rd_TRecord l0 x7_1).f1))).setCell ⟨gb907, 2, none⟩ (.int .i64 ((rd_TRecord l0 x7_1).f2))).setCell ⟨gb907, 3, none⟩ (.string ((rd_TRecord l0 x7_1).f3))) = w46 at n0_ n1_ ⊢
      have BK907 := n0_
      have HB := n1_
      clear n0_ n1_
      replace BK907 := Aside0.mk (blk_drew BK907.out)
      replace HB := Aside0.mk (below_drew1 HB.out)
      have p909 : 0 ≤ (0 : Int) := (by omega)
      have q909 : 0 < (l0.length : Int) := TD
      obtain ⟨ad909, e909, hx909_0, hx909_1, hx909_2, hx909_3⟩ := at_TRecord HR0.out 0 p909 q909
      have hw909_3 := hx909_3
      (try rw [show ((0 : Int)).toNat = 0 from rfl] at hw909_3)
      (try rw [show 0 * 4 = 0 from rfl] at hw909_3)
      (try rw [Addr.add_zero'] at hw909_3)
      have hw909_2 := hx909_2
      (try rw [show ((0 : Int)).toNat = 0 from rfl] at hw909_2)
      (try rw [show 0 * 4 = 0 from rfl] at hw909_2)
      (try rw [Addr.add_zero'] at hw909_2)
      have hw909_1 := hx909_1
      (try rw [show ((0 : Int)).toNat = 0 from rfl] at hw909_1)
      (try rw [show 0 * 4 = 0 from rfl] at hw909_1)
      (try rw [Addr.add_zero'] at hw909_1)
      have hw909_0 := hx909_0
      (try rw [show ((0 : Int)).toNat = 0 from rfl] at hw909_0)
      (try rw [show 0 * 4 = 0 from rfl] at hw909_0)
      (try rw [Addr.add_zero'] at hw909_0)
      obtain rfl : ad906 = ad909 := (by injection e909)
      have qi909 : (0 < l0.length) = True := eq_true (by omega)
      (try rw [show ((0 : Int)).toNat = 0 from rfl] at hx909_0)
      (try rw [show 0 * 4 = 0 from rfl] at hx909_0)
      (try rw [Addr.add_zero'] at hx909_0)
      (try rw [show ((0 : Int)).toNat = 0 from rfl] at hx909_1)
      (try rw [show 0 * 4 = 0 from rfl] at hx909_1)
      (try rw [Addr.add_zero'] at hx909_1)
      (try rw [show ((0 : Int)).toNat = 0 from rfl] at hx909_2)
      (try rw [show 0 * 4 = 0 from rfl] at hx909_2)
      (try rw [Addr.add_zero'] at hx909_2)
      (try rw [show ((0 : Int)).toNat = 0 from rfl] at hx909_3)
      (try rw [show 0 * 4 = 0 from rfl] at hx909_3)
      (try rw [Addr.add_zero'] at hx909_3)
      replace hx909_0 := hBc HB hx909_0
      replace hx909_1 := hBc HB hx909_1
      replace hx909_2 := hBc HB hx909_2
      replace hx909_3 := hBc HB hx909_3
      replace p909 := eq_true p909
      replace q909 := eq_true q909
      refine start_ (n := 44) (S := fun w' => w'.cell? ⟨gb907, 0, none⟩ = some (.string ((rd_TRecord l0 x7_1).f0)) ∧ w'.cell? ⟨gb907, 1, none⟩ = some (.int .i64 ((rd_TRecord l0 x7_1).f1)) ∧ w'.cell? ⟨gb907, 2, none⟩ = some (.int .i64 ((rd_TRecord l0 x7_1).f2)) ∧ w'.cell? ⟨gb907, 3, none⟩ = some (.string ((rd_TRecord l0 x7_1).f3)) ∧ w'.cell? ad906 = some (.string ((rd_TRecord l0 0).f0)) ∧ w'.cell? ⟨ad906.block, ad906.off + 1, none⟩ = some (.int .i64 ((rd_TRecord l0 0).f1)) ∧ w'.cell? ⟨ad906.block, ad906.off + 2, none⟩ = some (.int .i64 ((rd_TRecord l0 0).f2)) ∧ w'.cell? ⟨ad906.block, ad906.off + 3, none⟩ = some (.string ((rd_TRecord l0 0).f3))) (ds := []) #[false, false, false, false, false, false, false, false, false, false, false, false, false, false, false, false, false, false, false, false, false, false, false, false, false, false, false, false, false, false, false, false, false, false, false, false, false, false, false, false, false, false, false, false] KR rfl rfl ⟨bc 0 BK907, bc 1 BK907, bc 2 BK907, bc 3 BK907, ((HB.out.cell (World.block_lt_of_cell? w _ hw909_0)).trans hw909_0), ((HB.out.cell (World.block_lt_of_cell? w _ hw909_1)).trans hw909_1), ((HB.out.cell (World.block_lt_of_cell? w _ hw909_2)).trans hw909_2), ((HB.out.cell (World.block_lt_of_cell? w _ hw909_3)).trans hw909_3)⟩ (fun hHeld => ?_); refine with_tabW spec_l10Same.tab4 spec_l10Same.bits4 (fun HT_ HW_ => ?_)
      generalize w46.drew = w47 at BK907 HB hx909_0 hx909_1 hx909_2 hx909_3 hHeld ⊢
      refine tA 0 12 (mL 44 1) HT_ HW_ hHeld rfl rfl (by rintro w' ⟨s0, s1, s2, s3, s4, s5, s6, s7⟩; go_simp; with_reducible rfl) ?_
      refine one_ (i := 1) (N := some 13) (mL 44 3) rfl rfl (one_of HT_.out KR) (by decide) (fun K hK => ?_)
      refine goes_ Tryz.func118 KR rfl #[.agg #[.string ((rd_TRecord l0 x7_1).f0), .int .i64 ((rd_TRecord l0 x7_1).f1), .int .i64 ((rd_TRecord l0 x7_1).f2), .string ((rd_TRecord l0 x7_1).f3)]] (by rfl) rfl rfl TA ?_
      with_reducible refine (spec_GoodRecord.calls k1 ((rd_TRecord l0 x7_1).f0) ((rd_TRecord l0 x7_1).f1) ((rd_TRecord l0 x7_1).f2) ((rd_TRecord l0 x7_1).f3) true _ A5.out).mono ?_
      rintro e w48 ⟨rfl, hb⟩
      refine ⟨_, rfl, ?_⟩
      replace BK907 := KB BK907 hb
      replace HB := BS hb
      (try clear hb)
      (try clear hb2)
      (try clear hk)
      (try clear hi)
      refine hK.out _ _ ⟨bc 0 BK907, bc 1 BK907, bc 2 BK907, bc 3 BK907, ((HB.out.cell (World.block_lt_of_cell? w _ hw909_0)).trans hw909_0), ((HB.out.cell (World.block_lt_of_cell? w _ hw909_1)).trans hw909_1), ((HB.out.cell (World.block_lt_of_cell? w _ hw909_2)).trans hw909_2), ((HB.out.cell (World.block_lt_of_cell? w _ hw909_3)).trans hw909_3)⟩ (fun hHeld => ?_)
      clear hK K
      refine nA ?_
      refine pA 2 14 (mL 44 7) HT_ rfl rfl ?_
      refine pA 3 15 (mL 44 15) HT_ rfl rfl ?_
      refine pA 4 16 (mL 44 31) HT_ rfl rfl ?_
      refine pA 6 18 (mL 44 95) HT_ rfl rfl ?_
      refine pA 7 19 (mL 44 223) HT_ rfl rfl ?_
      refine pA 8 20 (mL 44 479) HT_ rfl rfl ?_
      refine tA 5 17 (mL 44 511) HT_ HW_ hHeld rfl rfl (by rintro w' ⟨s0, s1, s2, s3, s4, s5, s6, s7⟩; go_simp; with_reducible rfl) ?_
      refine tA 9 21 (mL 44 1023) HT_ HW_ hHeld rfl rfl (by rintro w' ⟨s0, s1, s2, s3, s4, s5, s6, s7⟩; go_simp; with_reducible rfl) ?_
      refine pA 10 22 (mL 44 2047) HT_ rfl rfl ?_
      refine pA 11 23 (mL 44 4095) HT_ rfl rfl ?_
      refine pA 12 24 (mL 44 8191) HT_ rfl rfl ?_
      refine pU 13 25 (mL 44 16383) HT_ rfl rfl ?_
      refine pU 14 26 (mL 44 32767) HT_ rfl rfl ?_
      refine pU 15 27 (mL 44 65535) HT_ rfl rfl ?_
      refine pU 16 28 (mL 44 131071) HT_ rfl rfl ?_
      refine pU 17 29 (mL 44 262143) HT_ rfl rfl ?_
      refine pU 18 30 (mL 44 524287) HT_ rfl rfl ?_
      refine pU 19 31 (mL 44 1048575) HT_ rfl rfl ?_
      refine pA 20 32 (mL 44 2097151) HT_ rfl rfl ?_
      refine pA 21 33 (mL 44 4194303) HT_ rfl rfl ?_
      refine pU 22 34 (mL 44 8388607) HT_ rfl rfl ?_
      refine pU 23 35 (mL 44 16777215) HT_ rfl rfl ?_
      refine pU 24 36 (mL 44 33554431) HT_ rfl rfl ?_
      refine pU 25 37 (mL 44 67108863) HT_ rfl rfl ?_
      refine pU 26 38 (mL 44 134217727) HT_ rfl rfl ?_
      refine pU 27 39 (mL 44 268435455) HT_ rfl rfl ?_
      refine pU 28 40 (mL 44 536870911) HT_ rfl rfl ?_
      refine pA 29 41 (mL 44 1073741823) HT_ rfl rfl ?_
      refine pA 30 42 (mL 44 2147483647) HT_ rfl rfl ?_
      refine pU 31 43 (mL 44 4294967295) HT_ rfl rfl ?_
      refine pU 32 44 (mL 44 8589934591) HT_ rfl rfl ?_
      refine pU 33 45 (mL 44 17179869183) HT_ rfl rfl ?_
      refine pU 34 46 (mL 44 34359738367) HT_ rfl rfl ?_
      refine pU 35 47 (mL 44 68719476735) HT_ rfl rfl ?_
      refine pU 36 48 (mL 44 137438953471) HT_ rfl rfl ?_
      refine pU 37 49 (mL 44 274877906943) HT_ rfl rfl ?_
      refine pU 38 50 (mL 44 549755813887) HT_ rfl rfl ?_
      refine pU 39 51 (mL 44 1099511627775) HT_ rfl rfl ?_
      refine pU 40 52 (mL 44 2199023255551) HT_ rfl rfl ?_
      refine pU 41 53 (mL 44 4398046511103) HT_ rfl rfl ?_
      refine pU 42 54 (mL 44 8796093022207) HT_ rfl rfl ?_
      refine pA 43 55 (mL 44 17592186044415) HT_ rfl rfl ?_
      refine done_ (done_of HT_.out KR) ?_
      try go_wp2
      go_ret
      exact ⟨TE, TB⟩
    ·replace c6 := Bool.eq_false_iff.mpr c6
     subst c6
     replace H := iff' H
     obtain rfl := Option.some.inj H
     have p906 : 0 ≤ (x7_1 : Int) := TD
     have q906 : x7_1 < (l0.length : Int) := TD
     obtain ⟨ad906, e906, hx906_0, hx906_1, hx906_2, hx906_3⟩ := at_TRecord (Kd.C_below HR0.out HB.out) x7_1 p906 q906
     cases e906
     replace p906 := eq_true p906
     replace q906 := eq_true q906
     try go_wp2_with (first | ((with_reducible refine gate_dst (N := 4) rfl ?_); refine bE 4 #[.string (⟨#[]⟩ : ByteArray), .int .i64 0, .int .i64 0, .string (⟨#[]⟩ : ByteArray)] 93 ?_; intro gb907 hg w49 hbox hb; have BK907 := Aside0.mk (hbox); have GE907 := bG hg; replace HB := BS hb; clear hb hbox hg; have hcz50 := cz4 BK907))
     have n0_ : Aside0 (((((w49.setCell ⟨gb907, 0, none⟩ (.string ((rd_TRecord l0 x7_1).f0))).setCell ⟨gb907, 1, none⟩ (.int .i64 ((rd_TRecord l0 x7_1).f1))).setCell ⟨gb907, 2, none⟩ (.int .i64 ((rd_TRecord l0 x7_1).f2))).setCell ⟨gb907, 3, none⟩ (.string ((rd_TRecord l0 x7_1).f3))).heap[gb907]? = some (.cells #[.string ((rd_TRecord l0 x7_1).f0), .int .i64 ((rd_TRecord l0 x7_1).f1), .int .i64 ((rd_TRecord l0 x7_1).f2), .string ((rd_TRecord l0 x7_1).f3)] 93 (0, 0))) := ⟨TS⟩
     have n1_ : Aside0 (Below w.heap.size w ((((w49.setCell ⟨gb907, 0, none⟩ (.string ((rd_TRecord l0 x7_1).f0))).setCell ⟨gb907, 1, none⟩ (.int .i64 ((rd_TRecord l0 x7_1).f1))).setCell ⟨gb907, 2, none⟩ (.int .i64 ((rd_TRecord l0 x7_1).f2))).setCell ⟨gb907, 3, none⟩ (.string ((rd_TRecord l0 x7_1).f3)))) := ⟨TB⟩
     (try clear BK907)
     (try clear HB)
     generalize ((((w49.setCell ⟨gb907, 0, none⟩ (.string ((rd_TRecord l0 x7_1).f0))).setCell ⟨gb907, 1, none⟩ (.int .i64 ((rd_TRecord l0 x7_1).f1))).setCell ⟨gb907, 2, none⟩ (.int .i64 ((rd_TRecord l0 x7_1).f2))).setCell ⟨gb907, 3, none⟩ (.string ((rd_TRecord l0 x7_1).f3))) = w51 at n0_ n1_ ⊢
     have BK907 := n0_
     have HB := n1_
     clear n0_ n1_
     replace BK907 := Aside0.mk (blk_drew BK907.out)
     replace HB := Aside0.mk (below_drew1 HB.out)
     refine start_ (n := 44) (S := fun w' => w'.cell? ⟨gb907, 0, none⟩ = some (.string ((rd_TRecord l0 x7_1).f0)) ∧ w'.cell? ⟨gb907, 1, none⟩ = some (.int .i64 ((rd_TRecord l0 x7_1).f1)) ∧ w'.cell? ⟨gb907, 2, none⟩ = some (.int .i64 ((rd_TRecord l0 x7_1).f2)) ∧ w'.cell? ⟨gb907, 3, none⟩ = some (.string ((rd_TRecord l0 x7_1).f3))) (ds := []) #[false, false, false, false, false, false, false, false, false, false, false, false, false, false, false, false, false, false, false, false, false, false, false, false, false, false, false, false, false, false, false, false, false, false, false, false, false, false, false, false, false, false, false, false] KR rfl rfl ⟨bc 0 BK907, bc 1 BK907, bc 2 BK907, bc 3 BK907⟩ (fun hHeld => ?_); refine with_tabW spec_l10Same.tab4 spec_l10Same.bits4 (fun HT_ HW_ => ?_)
     generalize w51.drew = w52 at BK907 HB hHeld ⊢
     refine tA 0 12 (mL 44 1) HT_ HW_ hHeld rfl rfl (by rintro w' ⟨s0, s1, s2, s3⟩; go_simp; with_reducible rfl) ?_
     refine one_ (i := 1) (N := some 13) (mL 44 3) rfl rfl (one_of HT_.out KR) (by decide) (fun K hK => ?_)
     refine goes_ Tryz.func118 KR rfl #[.agg #[.string ((rd_TRecord l0 x7_1).f0), .int .i64 ((rd_TRecord l0 x7_1).f1), .int .i64 ((rd_TRecord l0 x7_1).f2), .string ((rd_TRecord l0 x7_1).f3)]] (by rfl) rfl rfl TA ?_
     with_reducible refine (spec_GoodRecord.calls k1 ((rd_TRecord l0 x7_1).f0) ((rd_TRecord l0 x7_1).f1) ((rd_TRecord l0 x7_1).f2) ((rd_TRecord l0 x7_1).f3) false _ A5.out).mono ?_
     rintro e w53 ⟨rfl, hb⟩
     refine ⟨_, rfl, ?_⟩
     replace BK907 := KB BK907 hb
     replace HB := BS hb
     (try clear hb)
     (try clear hb2)
     (try clear hk)
     (try clear hi)
     refine hK.out _ _ ⟨bc 0 BK907, bc 1 BK907, bc 2 BK907, bc 3 BK907⟩ (fun hHeld => ?_)
     clear hK K
     refine nA ?_
     refine pA 2 14 (mL 44 7) HT_ rfl rfl ?_
     refine pA 3 15 (mL 44 15) HT_ rfl rfl ?_
     refine pU 4 16 (mL 44 31) HT_ rfl rfl ?_
     refine pU 5 17 (mL 44 63) HT_ rfl rfl ?_
     refine pU 6 18 (mL 44 127) HT_ rfl rfl ?_
     refine pU 7 19 (mL 44 255) HT_ rfl rfl ?_
     refine pU 8 20 (mL 44 511) HT_ rfl rfl ?_
     refine pU 9 21 (mL 44 1023) HT_ rfl rfl ?_
     refine pU 10 22 (mL 44 2047) HT_ rfl rfl ?_
     refine pA 11 23 (mL 44 4095) HT_ rfl rfl ?_
     refine pA 12 24 (mL 44 8191) HT_ rfl rfl ?_
     refine pU 13 25 (mL 44 16383) HT_ rfl rfl ?_
     refine pU 14 26 (mL 44 32767) HT_ rfl rfl ?_
     refine pU 15 27 (mL 44 65535) HT_ rfl rfl ?_
     refine pU 16 28 (mL 44 131071) HT_ rfl rfl ?_
     refine pU 17 29 (mL 44 262143) HT_ rfl rfl ?_
     refine pU 18 30 (mL 44 524287) HT_ rfl rfl ?_
     refine pU 19 31 (mL 44 1048575) HT_ rfl rfl ?_
     refine pA 20 32 (mL 44 2097151) HT_ rfl rfl ?_
     refine pA 21 33 (mL 44 4194303) HT_ rfl rfl ?_
     refine pU 22 34 (mL 44 8388607) HT_ rfl rfl ?_
     refine pU 23 35 (mL 44 16777215) HT_ rfl rfl ?_
     refine pU 24 36 (mL 44 33554431) HT_ rfl rfl ?_
     refine pU 25 37 (mL 44 67108863) HT_ rfl rfl ?_
     refine pU 26 38 (mL 44 134217727) HT_ rfl rfl ?_
     refine pU 27 39 (mL 44 268435455) HT_ rfl rfl ?_
     refine pU 28 40 (mL 44 536870911) HT_ rfl rfl ?_
     refine pA 29 41 (mL 44 1073741823) HT_ rfl rfl ?_
     refine pA 30 42 (mL 44 2147483647) HT_ rfl rfl ?_
     refine pU 31 43 (mL 44 4294967295) HT_ rfl rfl ?_
     refine pU 32 44 (mL 44 8589934591) HT_ rfl rfl ?_
     refine pU 33 45 (mL 44 17179869183) HT_ rfl rfl ?_
     refine pU 34 46 (mL 44 34359738367) HT_ rfl rfl ?_
     refine pU 35 47 (mL 44 68719476735) HT_ rfl rfl ?_
     refine pU 36 48 (mL 44 137438953471) HT_ rfl rfl ?_
     refine pU 37 49 (mL 44 274877906943) HT_ rfl rfl ?_
     refine pU 38 50 (mL 44 549755813887) HT_ rfl rfl ?_
     refine pU 39 51 (mL 44 1099511627775) HT_ rfl rfl ?_
     refine pU 40 52 (mL 44 2199023255551) HT_ rfl rfl ?_
     refine pU 41 53 (mL 44 4398046511103) HT_ rfl rfl ?_
     refine pU 42 54 (mL 44 8796093022207) HT_ rfl rfl ?_
     refine pA 43 55 (mL 44 17592186044415) HT_ rfl rfl ?_
     refine done_ (done_of HT_.out KR) ?_
     try go_wp2
     go_ret
     exact ⟨TE, TB⟩
   ·rw [if_neg c2] at H
    have c2b0 : decide (x7_1 < (l0.length : Int)) = false := decide_eq_false c2
    clear c2
    obtain ⟨t905, A54, H⟩ := bnd H
    obtain rfl := Option.some.inj H
    go_wp2_with (first | ((with_reducible refine gate_callee (f := 80) rfl ?_); refine goesL_ (some 59) rfl rfl Tryz.func80 KR rfl #[.int .i64 (l0.length : Int), .int .i64 1, .int .i64 12] rfl TA ?_; (with_reducible refine (spec_l1In.calls (l0.length : Int) 1 12 t905 _ A54.out).mono ?_); rintro e w' ⟨rfl, ⟨nd, rfl⟩⟩; refine ⟨_, rfl, ?_⟩))
    go_ret
    exact ⟨TE, TB⟩
end
end Go.Proofs.YthohohfmdieohaaGreatDoor.Pp
