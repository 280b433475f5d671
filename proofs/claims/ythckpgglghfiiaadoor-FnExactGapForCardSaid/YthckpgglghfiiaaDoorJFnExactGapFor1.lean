/- The functions that the law reaches, one Lean function and its proof for each; written by wip/pp of this workplace, joined by claimit.py. -/
import Derived.Test.YthckpgglghfiiaaDoorProg
import Derived.Below
import Derived.Deep.Draws
import Derived.Deep.AppendLies
import Derived.Maps.AppendAt
import Derived.OwnWalk
import Derived.Laws.BytesArg
import Derived.Laws.MakeOwn
import Derived.Laws.OwnMore
import Derived.Deep.OwnRows
import Derived.Tactics
import Derived.Lib.ConvBytes
import Derived.Laws.Slices
import Derived.WalkKit
import Derived.KernelRfl
import Derived.RowKit3
import Derived.Deep.LoopGhost
import Derived.Deep.QuietTactic
import Derived.BigQuiet
import Derived.WideLaws
import Derived.Deep.DeepCutAuto
import Derived.Deep.CutBlock
import Derived.Deep.RegionHeld3
import Derived.Laws.Rows
import Derived.Lib.AppendStr
import Derived.ArgAppend
import Derived.Laws.IdiomCopy
import Derived.OrdersHeld
import Derived.Laws.BitsLemmas
import Derived.RowKit
import Derived.Test.YthckpgglghfiiaaDoorXWords
import Derived.Test.YthckpgglghfiiaaDoorXSq
import Derived.Test.YthckpgglghfiiaaDoorXShelf
import Derived.Test.YthckpgglghfiiaaDoorXBytes
import Derived.Test.YthckpgglghfiiaaDoorWWords
import Derived.Test.YthckpgglghfiiaaDoorWLast
import Derived.Test.YthckpgglghfiiaaDoorWTab
import Derived.Test.YthckpgglghfiiaaDoorWFour
import Derived.Test.YthckpgglghfiiaaDoorWQPut
import Derived.Test.YthckpgglghfiiaaDoorWApart
import Derived.Test.YthckpgglghfiiaaDoorWArr
import Derived.Test.YthckpgglghfiiaaDoorWZeros
import Derived.Test.YthckpgglghfiiaaDoorWFoot
import Derived.Test.YthckpgglghfiiaaDoorWKept
import Derived.Test.YthckpgglghfiiaaDoorWShare
import Derived.Test.YthckpgglghfiiaaDoorWN
import Derived.Test.YthckpgglghfiiaaDoorWFootNe
import Derived.Test.YthckpgglghfiiaaDoorWAt
import Derived.Test.YthckpgglghfiiaaDoorWEqStruct
import Derived.Test.YthckpgglghfiiaaDoorWRepsOne
import Derived.Test.YthckpgglghfiiaaDoorWInv
import Derived.Test.YthckpgglghfiiaaDoorWInvWords
import Derived.Test.YthckpgglghfiiaaDoorWGuard
import Derived.Test.YthckpgglghfiiaaDoorWNEv
import Derived.Test.YthckpgglghfiiaaDoorWMore
import Derived.Test.YthckpgglghfiiaaDoorJFnExactGapFor0
namespace Go.Proofs.YthckpgglghfiiaaDoor.Pp
open Go.RowKit Go.Proofs.YthckpgglghfiiaaDoorW.PrintWords Go.Proofs.YthckpgglghfiiaaDoorW.PrintLast Go.Proofs.YthckpgglghfiiaaDoorW.PrintMore
attribute [local go_sem] max2_int min2_int max_two min_two max_three min_three max_four min_four   -- for this text's walks alone
set_option linter.unusedVariables false
set_option linter.unusedSimpArgs false
set_option maxHeartbeats 8000000
set_option maxRecDepth 100000

section
/-! ### impl_GoodName_1: function 96 -/
def impl_GoodName_1.f (a0 : ByteArray) : Option (Bool) := (impl_isLabel.f a0).bind fun t208 => (some (!t208))
theorem impl_GoodName_1.calls (a0 : ByteArray) (r : Bool) (w : World) (h : impl_GoodName_1.f a0 = some r) :
  Calls Tryd.prog 96 #[.string a0] w fun e w' => e = .returned (.bool r) ∧ Below w.heap.size w w' := by
 have HB := Aside0.mk (Below.refl w.heap.size w)
 have H : ((impl_isLabel.f a0).bind fun t208 => (some (!t208))) = some r := h
 clear h
 obtain ⟨t208, A2, H⟩ := bnd H
 obtain rfl := Option.some.inj H
 go_enter Tryd.func96, Tryd.ntmps96
 go_wp2_with (first | ((with_reducible refine gate_callee (f := 97) rfl ?_); refine goesL_ (some 4) rfl rfl Tryd.func97 KR rfl #[.string a0] rfl TA ?_; (with_reducible refine (impl_isLabel.calls a0 t208 _ A2.out).mono ?_); rintro e w3 ⟨rfl, hb⟩; refine ⟨_, rfl, ?_⟩; replace HB := BS hb; clear hb))
 go_ret
 exact ⟨TE, TB⟩
end
section
/-! ### slices_IndexFunc_string_string_GoodName_1: function 116 -/
def slices_IndexFunc_string_string_GoodName_1.l0 : Nat → List ByteArray → Int → Int → Option (Int)
 | 0, _, _, _ => none
 | k + 1, x0, x7, x8 => if x8 < x7 then (if 0 ≤ x8 then (if x8 < (x0.length : Int) then ((impl_GoodName_1.f (rdOf ByteArray.empty x0 x8)).bind fun t210 => (if t210 = true then (some x8) else (slices_IndexFunc_string_string_GoodName_1.l0 k x0 x7 (wrap64 (x8 + 1))))) else (none)) else (none)) else (some (-1))
def slices_IndexFunc_string_string_GoodName_1.f (k : Nat) (l0 : List ByteArray)  : Option (Int) := slices_IndexFunc_string_string_GoodName_1.l0 k l0 (l0.length : Int) 0
theorem slices_IndexFunc_string_string_GoodName_1.calls (k : Nat) (A0 : Option Addr) (c0 : Nat) (l0 : List ByteArray)  (r : Int) (w : World) (hr0 : Kd.C Kd.string w A0 l0.length l0) (hc0 : l0.length ≤ c0) (h : slices_IndexFunc_string_string_GoodName_1.f k l0 = some r) :
  Calls Tryd.prog 116 #[.slice A0 l0.length c0, .func (.func 96) #[] #[]] w fun e w' => e = .returned (.int .i64 r) ∧ Below w.heap.size w w' := by
 have HR0 := Aside0.mk hr0
 have HC0 := Aside0.mk hc0
 clear hr0 hc0
 have HB := Aside0.mk (Below.refl w.heap.size w)
 have H : (slices_IndexFunc_string_string_GoodName_1.l0 k l0 (l0.length : Int) 0) = some r := h
 clear h
 have H' := Aside0.mk H
 clear H
 go_enter Tryd.func116, Tryd.ntmps116
 go_wp2
 go_loopg [8] k (fun kq v8 w' => ∃ (x8_1 : Int), v8 = .int .i64 x8_1 ∧ Aside0 (slices_IndexFunc_string_string_GoodName_1.l0 kq l0 (l0.length : Int) x8_1 = some r) ∧ Aside0 (kq ≤ k) ∧ Aside0 (Below w.heap.size w w'))
 case atStart => exact ⟨(0), TF, H', ⟨Nat.le_refl _⟩, ⟨TB⟩⟩
 case round =>
  clear H'
  obtain ⟨x8_1, rfl, HA, HK1, HB⟩ := hrel
  cases gk with
  | zero => exact absurd HA.out (by simp [slices_IndexFunc_string_string_GoodName_1.l0])
  | succ k1 =>
   have H := HA.out
   clear HA
   simp only [slices_IndexFunc_string_string_GoodName_1.l0] at H
   by_cases c3 : x8_1 < (l0.length : Int)
   ·rw [if_pos c3] at H
    have c3b0 : decide (x8_1 < (l0.length : Int)) = true := decide_eq_true c3
    clear c3
    obtain ⟨c4, H⟩ := ifn H
    have c4b0 : decide (0 ≤ x8_1) = true := decide_eq_true c4
    clear c4
    obtain ⟨c5, H⟩ := ifn H
    have c5b0 : decide (x8_1 < (l0.length : Int)) = true := decide_eq_true c5
    clear c5
    obtain ⟨t210, A6, H⟩ := bnd H
    by_cases c7 : t210 = true
    ·subst c7
     replace H := ift H
     obtain rfl := Option.some.inj H
     have p209 : 0 ≤ (x8_1 : Int) := TD
     have q209 : x8_1 < (l0.length : Int) := TD
     obtain ⟨ad209, e209, hx209_0⟩ := Kd.at_string (Kd.C_below HR0.out HB.out) x8_1 p209 q209
     cases e209
     replace p209 := eq_true p209
     replace q209 := eq_true q209
     go_wp2_with (first | (go_at_call 96; (with_reducible refine (impl_GoodName_1.calls (rdOf ByteArray.empty l0 x8_1) true _ A6.out).mono ?_); rintro e w8 ⟨rfl, hb⟩; replace HB := BS hb; clear hb))
     go_ret
     exact ⟨TE, TB⟩
    ·replace c7 := Bool.eq_false_iff.mpr c7
     subst c7
     replace H := iff' H
     have H' := Aside0.mk H
     clear H
     have p209 : 0 ≤ (x8_1 : Int) := TD
     have q209 : x8_1 < (l0.length : Int) := TD
     obtain ⟨ad209, e209, hx209_0⟩ := Kd.at_string (Kd.C_below HR0.out HB.out) x8_1 p209 q209
     cases e209
     replace p209 := eq_true p209
     replace q209 := eq_true q209
     go_wp2_with (first | (go_at_call 96; (with_reducible refine (impl_GoodName_1.calls (rdOf ByteArray.empty l0 x8_1) false _ A6.out).mono ?_); rintro e w9 ⟨rfl, hb⟩; replace HB := BS hb; clear hb))
     go_roundg k1
     case measure => have := HK1.out; omega
     case rel => exact ⟨(wrap64 (x8_1 + 1)), TF, H', ⟨TM⟩, ⟨TB⟩⟩
   ·rw [if_neg c3] at H
    have c3b0 : decide (x8_1 < (l0.length : Int)) = false := decide_eq_false c3
    clear c3
    obtain rfl := Option.some.inj H
    go_wp2
    go_ret
    exact ⟨TE, TB⟩
end
section
/-! ### slices_ContainsFunc_string_string_GoodName_1: function 95 -/
def slices_ContainsFunc_string_string_GoodName_1.f (k : Nat) (l0 : List ByteArray)  : Option (Bool) := (slices_IndexFunc_string_string_GoodName_1.f k l0).bind fun t211 => (some (decide (t211 ≥ 0)))
theorem slices_ContainsFunc_string_string_GoodName_1.calls (k : Nat) (A0 : Option Addr) (c0 : Nat) (l0 : List ByteArray)  (r : Bool) (w : World) (hr0 : Kd.C Kd.string w A0 l0.length l0) (hc0 : l0.length ≤ c0) (h : slices_ContainsFunc_string_string_GoodName_1.f k l0 = some r) :
  Calls Tryd.prog 95 #[.slice A0 l0.length c0, .func (.func 96) #[] #[]] w fun e w' => e = .returned (.bool r) ∧ Below w.heap.size w w' := by
 have HR0 := Aside0.mk hr0
 have HC0 := Aside0.mk hc0
 clear hr0 hc0
 have HB := Aside0.mk (Below.refl w.heap.size w)
 have H : ((slices_IndexFunc_string_string_GoodName_1.f k l0).bind fun t211 => (some (decide (t211 ≥ 0)))) = some r := h
 clear h
 obtain ⟨t211, A3, H⟩ := bnd H
 obtain rfl := Option.some.inj H
 go_enter Tryd.func95, Tryd.ntmps95
 go_wp2_with (first | ((with_reducible refine gate_callee (f := 116) rfl ?_); refine goesL_ (some 7) rfl rfl Tryd.func116 KR rfl #[.slice A0 l0.length c0, .func (.func 96) #[] #[]] rfl TA ?_; (with_reducible refine (slices_IndexFunc_string_string_GoodName_1.calls k _ _ l0  t211 _ ?side1 ?side2 A3.out).mono ?_); (case side1 => exact CW (HR0.out)); (case side2 => exact HC0.out); rintro e w4 ⟨rfl, hb⟩; refine ⟨_, rfl, ?_⟩; replace HB := BS hb; clear hb))
 go_ret
 exact ⟨TE, TB⟩
end
section
/-! ### impl_GoodName: function 58 -/
def impl_GoodName.f (k : Nat) (a0 : ByteArray) : Option (Bool) := if (a0.size : Int) > 60 then (some false) else ((impl_labelsOf.f k a0).bind fun t212 => (if (t212.length : Int) ≤ 8 then ((slices_ContainsFunc_string_string_GoodName_1.f k t212).bind fun t215 => (some (!t215))) else (some false)))
theorem impl_GoodName.calls (k : Nat) (a0 : ByteArray) (r : Bool) (w : World) (h : impl_GoodName.f k a0 = some r) :
  Calls Tryd.prog 58 #[.string a0] w fun e w' => e = .returned (.bool r) ∧ Below w.heap.size w w' := by
 have HB := Aside0.mk (Below.refl w.heap.size w)
 have H : (if (a0.size : Int) > 60 then (some false) else ((impl_labelsOf.f k a0).bind fun t212 => (if (t212.length : Int) ≤ 8 then ((slices_ContainsFunc_string_string_GoodName_1.f k t212).bind fun t215 => (some (!t215))) else (some false)))) = some r := h
 clear h
 by_cases c2 : (a0.size : Int) > 60
 ·rw [if_pos c2] at H
  have c2b0 : decide (60 < (a0.size : Int)) = true := decide_eq_true c2
  have c2b1 : decide (60 < a0.size) = true := decide_eq_true (by omega)
  clear c2
  obtain rfl := Option.some.inj H
  go_enter Tryd.func58, Tryd.ntmps58
  go_wp2
  go_ret
  exact ⟨TE, TB⟩
 ·rw [if_neg c2] at H
  have c2b0 : decide (60 < (a0.size : Int)) = false := decide_eq_false c2
  have c2b1 : decide (60 < a0.size) = false := decide_eq_false (by omega)
  clear c2
  obtain ⟨t212, A3, H⟩ := bnd H
  by_cases c4 : (t212.length : Int) ≤ 8
  ·rw [if_pos c4] at H
   have c4b0 : decide ((t212.length : Int) ≤ 8) = true := decide_eq_true c4
   have c4b1 : decide (t212.length ≤ 8) = true := decide_eq_true (by omega)
   clear c4
   obtain ⟨t215, A5, H⟩ := bnd H
   obtain rfl := Option.some.inj H
   go_enter Tryd.func58, Tryd.ntmps58
   go_wp2_with (first | ((with_reducible refine gate_callee (f := 94) rfl ?_); refine goesL_ (some 8) rfl rfl Tryd.func94 KR rfl #[.string a0] rfl TA ?_; (with_reducible refine (impl_labelsOf.calls k a0 t212 _ A3.out).mono ?_); rintro e w6 ⟨v213, rfl, ho0, hb⟩; refine ⟨_, rfl, ?_⟩; have HO214 := RL ho0; replace HB := BS hb; clear hb; (try clear ho0); obtain ⟨Ao7, co7, eo7⟩ := Kd.R_slice HO214.out; subst eo7) | (go_at_call 95; (with_reducible refine (slices_ContainsFunc_string_string_GoodName_1.calls k _ _ t212  t215 _ ?side1 ?side2 A5.out).mono ?_); (case side1 => exact CW ((Kd.R_reads' HO214.out).2.2)); (case side2 => exact RI HO214); rintro e w8 ⟨rfl, hb⟩; replace HO214 := RB HO214 hb; replace HB := BS hb; clear hb))
   go_ret
   exact ⟨TE, TB⟩
  ·rw [if_neg c4] at H
   have c4b0 : decide ((t212.length : Int) ≤ 8) = false := decide_eq_false c4
   have c4b1 : decide (t212.length ≤ 8) = false := decide_eq_false (by omega)
   clear c4
   obtain rfl := Option.some.inj H
   go_enter Tryd.func58, Tryd.ntmps58
   go_wp2_with (first | ((with_reducible refine gate_callee (f := 94) rfl ?_); refine goesL_ (some 8) rfl rfl Tryd.func94 KR rfl #[.string a0] rfl TA ?_; (with_reducible refine (impl_labelsOf.calls k a0 t212 _ A3.out).mono ?_); rintro e w9 ⟨v213, rfl, ho0, hb⟩; refine ⟨_, rfl, ?_⟩; have HO214 := RL ho0; replace HB := BS hb; clear hb; (try clear ho0); obtain ⟨Ao10, co10, eo10⟩ := Kd.R_slice HO214.out; subst eo10))
   go_ret
   exact ⟨TE, TB⟩
end
section
/-! ### stringslite_HasSuffix: function 120 -/
def stringslite_HasSuffix.f (a0 : ByteArray) (a1 : ByteArray) : Option (Bool) := if (a0.size : Int) ≥ (a1.size : Int) then (if 0 ≤ (wrap64 ((a0.size : Int) - (a1.size : Int))) then (if (wrap64 ((a0.size : Int) - (a1.size : Int))) ≤ (a0.size : Int) then (some ((a0.extract ((wrap64 ((a0.size : Int) - (a1.size : Int))) : Int).toNat a0.size).toList == a1.toList)) else (none)) else (none)) else (some false)
theorem stringslite_HasSuffix.calls (a0 : ByteArray) (a1 : ByteArray) (r : Bool) (w : World) (h : stringslite_HasSuffix.f a0 a1 = some r) :
  Calls Tryd.prog 120 #[.string a0, .string a1] w fun e w' => e = .returned (.bool r) ∧ Drawn0 w w' := by
 have H : (if (a0.size : Int) ≥ (a1.size : Int) then (if 0 ≤ (wrap64 ((a0.size : Int) - (a1.size : Int))) then (if (wrap64 ((a0.size : Int) - (a1.size : Int))) ≤ (a0.size : Int) then (some ((a0.extract ((wrap64 ((a0.size : Int) - (a1.size : Int))) : Int).toNat a0.size).toList == a1.toList)) else (none)) else (none)) else (some false)) = some r := h
 clear h
 by_cases c3 : (a0.size : Int) ≥ (a1.size : Int)
 ·rw [if_pos c3] at H
  have c3b0 : decide ((a1.size : Int) ≤ (a0.size : Int)) = true := decide_eq_true c3
  have c3b1 : decide (a1.size ≤ a0.size) = true := decide_eq_true (Int.ofNat_le.mp c3)
  clear c3
  obtain ⟨ji4, hji4⟩ : ∃ j_ : Int, (wrap64 ((a0.size : Int) - (a1.size : Int))) = j_ := ⟨_, rfl⟩
  replace H : (if 0 ≤ (ji4) then (if (ji4) ≤ (a0.size : Int) then (some ((a0.extract ((ji4) : Int).toNat a0.size).toList == a1.toList)) else (none)) else (none)) = some r := by first | (rw [hji4] at H; exact H) | (simp only [hji4] at H ⊢; exact H)
  have hji4w : (IntKind.i64.wrap ((a0.size : Int) - (a1.size : Int))) = ji4 := (i64_w _).trans hji4
  obtain ⟨c5, H⟩ := ifn H
  have c5b0 := eq_true c5
  have c5b1 : decide (0 ≤ (ji4)) = true := decide_eq_true c5
  clear c5
  obtain ⟨c6, H⟩ := ifn H
  have c6b0 := eq_true c6
  have c6b1 : decide ((ji4) ≤ (a0.size : Int)) = true := decide_eq_true c6
  clear c6
  obtain rfl := Option.some.inj H
  go_enter Tryd.func120, Tryd.ntmps120
  go_wp2
  go_ret
  exact ⟨by first | rfl | (simp; done) | (simp only [← hji4] <;> (first | rfl | simp)) | (simp [*]; done), TN⟩
 ·rw [if_neg c3] at H
  have c3b0 : decide ((a1.size : Int) ≤ (a0.size : Int)) = false := decide_eq_false c3
  have c3b1 : decide (a1.size ≤ a0.size) = false := decide_eq_false (fun h => c3 (Int.ofNat_le.mpr h))
  clear c3
  obtain rfl := Option.some.inj H
  go_enter Tryd.func120, Tryd.ntmps120
  go_wp2
  go_ret
  exact ⟨TF, TN⟩
end
section
/-! ### strings_HasSuffix: function 104 -/
def strings_HasSuffix.f (a0 : ByteArray) (a1 : ByteArray) : Option (Bool) := (stringslite_HasSuffix.f a0 a1).bind fun t221 => (some t221)
theorem strings_HasSuffix.calls (a0 : ByteArray) (a1 : ByteArray) (r : Bool) (w : World) (h : strings_HasSuffix.f a0 a1 = some r) :
  Calls Tryd.prog 104 #[.string a0, .string a1] w fun e w' => e = .returned (.bool r) ∧ Drawn0 w w' := by
 have H : ((stringslite_HasSuffix.f a0 a1).bind fun t221 => (some t221)) = some r := h
 clear h
 obtain ⟨t221, A3, H⟩ := bnd H
 obtain rfl := Option.some.inj H
 go_enter Tryd.func104, Tryd.ntmps104
 go_wp2_with (first | ((with_reducible refine gate_callee (f := 120) rfl ?_); refine goesL_ (some 7) rfl rfl Tryd.func120 KR rfl #[.string a0, .string a1] rfl TA ?_; (with_reducible refine (stringslite_HasSuffix.calls a0 a1 t221 _ A3.out).mono ?_); rintro e w' ⟨rfl, ⟨nd, rfl⟩⟩; refine ⟨_, rfl, ?_⟩))
 go_ret
 exact ⟨TF, TN⟩
end
section
/-! ### impl_isBelow: function 77 -/
def impl_isBelow.f (a0 : ByteArray) (a1 : ByteArray) : Option (Bool) := if a0.toList = a1.toList then (some true) else (if a1.toList = ([] : List UInt8) then (some true) else (if 1 + a1.size ≤ 9223372036854775807 then ((strings_HasSuffix.f a0 ((⟨#[46]⟩ : ByteArray) ++ a1)).bind fun t222 => (some t222)) else (none)))
theorem impl_isBelow.calls (a0 : ByteArray) (a1 : ByteArray) (r : Bool) (w : World) (h : impl_isBelow.f a0 a1 = some r) :
  Calls Tryd.prog 77 #[.string a0, .string a1] w fun e w' => e = .returned (.bool r) ∧ Drawn0 w w' := by
 have H : (if a0.toList = a1.toList then (some true) else (if a1.toList = ([] : List UInt8) then (some true) else (if 1 + a1.size ≤ 9223372036854775807 then ((strings_HasSuffix.f a0 ((⟨#[46]⟩ : ByteArray) ++ a1)).bind fun t222 => (some t222)) else (none)))) = some r := h
 clear h
 by_cases c3 : a0.toList = a1.toList
 ·rw [if_pos c3] at H
  have c3b0 : (a0.toList == a1.toList) = true := beq_iff_eq.mpr c3
  have c3b1 : (a0.toList != a1.toList) = false := bne_eq_false_iff_eq.mpr c3
  clear c3
  obtain rfl := Option.some.inj H
  go_enter Tryd.func77, Tryd.ntmps77
  go_wp2
  go_ret
  exact ⟨TF, TN⟩
 ·rw [if_neg c3] at H
  have c3b0 : (a0.toList == a1.toList) = false := beq_eq_false_iff_ne.mpr c3
  have c3b1 : (a0.toList != a1.toList) = true := bne_iff_ne.mpr c3
  by_cases c4 : a1.toList = ([] : List UInt8)
  ·rw [if_pos c4] at H
   have c4b0 : (a1.toList == ([] : List UInt8)) = true := beq_iff_eq.mpr c4
   have c4b1 : (a1.toList != ([] : List UInt8)) = false := bne_eq_false_iff_eq.mpr c4
   clear c4
   obtain rfl := Option.some.inj H
   go_enter Tryd.func77, Tryd.ntmps77
   go_wp2
   go_ret
   exact ⟨TF, TN⟩
  ·rw [if_neg c4] at H
   have c4b0 : (a1.toList == ([] : List UInt8)) = false := beq_eq_false_iff_ne.mpr c4
   have c4b1 : (a1.toList != ([] : List UInt8)) = true := bne_iff_ne.mpr c4
   obtain ⟨c5, H⟩ := ifn H
   have c5b0 := eq_true c5
   have c5b1 : decide (1 + a1.size ≤ 9223372036854775807) = true := decide_eq_true c5
   try have c5b2 : (9223372036854775807 < 1 + a1.size) = False := eq_false (Nat.not_lt.2 c5)
   obtain ⟨t222, A6, H⟩ := bnd H
   obtain rfl := Option.some.inj H
   go_enter Tryd.func77, Tryd.ntmps77
   go_wp2_with (first | (go_at_call 104; (with_reducible refine (strings_HasSuffix.calls a0 ((⟨#[46]⟩ : ByteArray) ++ a1) t222 _ A6.out).mono ?_); rintro e w' ⟨rfl, ⟨nd, rfl⟩⟩))
   go_ret
   exact ⟨TF, TN⟩
end
section
/-! ### slices_Reverse_string_string: function 106 -/
def slices_Reverse_string_string.l0 : Nat → List ByteArray → Int → Int → Option (List ByteArray)
 | 0, _, _, _ => none
 | k + 1, x0, x2, x3 => if x2 < x3 then (if 0 ≤ x3 then (if x3 < (x0.length : Int) then (if 0 ≤ x2 then (if x2 < (x0.length : Int) then (slices_Reverse_string_string.l0 k ((x0.set (x2 : Int).toNat (rdOf ByteArray.empty x0 x3)).set (x3 : Int).toNat (rdOf ByteArray.empty x0 x2)) (wrap64 (x2 + 1)) (wrap64 (x3 - 1))) else (none)) else (none)) else (none)) else (none)) else (some x0)
def slices_Reverse_string_string.f (k : Nat) (l0 : List ByteArray) : Option (List ByteArray) := slices_Reverse_string_string.l0 k l0 0 (wrap64 ((l0.length : Int) - 1))
def slices_Reverse_string_string.T3 : Bool × List (List Nat × List Nat) := (true, [([], []), ([], []), ([], []), ([], []), ([], []), ([], []), ([4, 5], [4, 5]), ([6], [6]), ([], []), ([], []), ([8, 9], [8, 9]), ([10], [10]), ([0, 1, 0, 1, 4, 5, 6, 7, 11], [0, 1]), ([12, 7, 0, 1, 4, 5, 6, 7, 11], [7, 12]), ([2, 3, 0, 1, 2, 3, 4, 5, 6, 7, 8, 9, 10, 11, 12, 13], [2, 3]), ([14, 11, 13, 0, 1, 2, 3, 4, 5, 6, 7, 8, 9, 10, 11, 12, 13], [11, 14])])
def slices_Reverse_string_string.B3 : List Nat := [0, 0, 0, 0, 0, 0, 48, 112, 0, 0, 768, 1792, 4083, 8179, 16383, 32767]
theorem slices_Reverse_string_string.tab3 : rtab .any (opsOf Tryd.f106 3) = slices_Reverse_string_string.T3 := by kernel_rfl
theorem slices_Reverse_string_string.bits3 : waitsOk slices_Reverse_string_string.T3.2 slices_Reverse_string_string.B3 = true := by kernel_rfl
theorem slices_Reverse_string_string.calls (k : Nat) (P0_ : Nat → Prop) (u9000_ : Value) (l0 : List ByteArray) (r : List ByteArray) (w0 w : World) (hB : Below w0.heap.size w0 w) (ho0 : Kd.R Kd.string 9 w w0.heap.size P0_ u9000_ l0) (h : slices_Reverse_string_string.f k l0 = some r) :
  Calls Tryd.prog 106 #[u9000_] w fun e w' => e = .returned (.tuple #[]) ∧ Kd.R Kd.string 9 w' w0.heap.size (fun k_ => (P0_ k_ ∨ w.heap.size ≤ k_)) u9000_ r ∧ Below w0.heap.size w0 w' ∧ Kept w w' (fun k_ => P0_ k_) := by
 have HO0 := Aside0.mk (show Kd.R Kd.string 9 w w0.heap.size (fun k_ => (P0_ k_ ∨ w.heap.size ≤ k_)) u9000_ l0 from Kd.R_mono ho0 (fun k_ hk => (.inl hk)))
 have HK := Aside0.mk (Kept.refl w (fun k_ => P0_ k_))
 have HW0 := Aside0.mk hB.size
 have HB := Aside0.mk hB
 clear hB
 have H : (slices_Reverse_string_string.l0 k l0 0 (wrap64 ((l0.length : Int) - 1))) = some r := h
 clear h
 have H' := Aside0.mk H
 clear H
 obtain ⟨Ao2, co2, eo2⟩ := Kd.R_slice HO0.out
 subst eo2
 go_enter Tryd.func106, Tryd.ntmps106
 go_wp2
 go_loopg [2, 3] k (fun kq v2 v3 w' => ∃ (x0_1 : List ByteArray) (x2_1 : Int) (x3_1 : Int), v2 = .int .i64 x2_1 ∧ v3 = .int .i64 x3_1 ∧ Aside0 (slices_Reverse_string_string.l0 kq x0_1 x2_1 x3_1 = some r) ∧ Aside0 (kq ≤ k) ∧ Aside0 (Kd.R Kd.string 9 w' w0.heap.size (fun k_ => (P0_ k_ ∨ w.heap.size ≤ k_)) (.slice Ao2 l0.length co2) x0_1) ∧ Aside0 (Kept w w' (fun k_ => P0_ k_)) ∧ Aside0 (Below w0.heap.size w0 w'))
 case atStart => exact ⟨(l0), (0), (wrap64 ((l0.length : Int) - 1)), TF, TF, H', ⟨Nat.le_refl _⟩, RW HO0, ⟨TK⟩, ⟨TB⟩⟩
 case round =>
  clear H'
  obtain ⟨x0_1, x2_1, x3_1, rfl, rfl, HA, HK1, HO_0, HK, HB⟩ := hrel
  have hl0_1 := (Kd.R_reads' HO_0.out).1
  rw [hl0_1] at HO_0
  (try simp only [hl0_1])
  cases gk with
  | zero => exact absurd HA.out (by simp [slices_Reverse_string_string.l0])
  | succ k1 =>
   have H := HA.out
   clear HA
   simp only [slices_Reverse_string_string.l0] at H
   by_cases c3 : x2_1 < x3_1
   ·rw [if_pos c3] at H
    have c3b0 : decide (x2_1 < x3_1) = true := decide_eq_true c3
    clear c3
    obtain ⟨c4, H⟩ := ifn H
    have c4b0 : decide (0 ≤ x3_1) = true := decide_eq_true c4
    clear c4
    obtain ⟨c5, H⟩ := ifn H
    have c5b0 : decide (x3_1 < (x0_1.length : Int)) = true := decide_eq_true c5
    clear c5
    obtain ⟨c6, H⟩ := ifn H
    have c6b0 : decide (0 ≤ x2_1) = true := decide_eq_true c6
    clear c6
    obtain ⟨c7, H⟩ := ifn H
    have c7b0 : decide (x2_1 < (x0_1.length : Int)) = true := decide_eq_true c7
    clear c7
    obtain ⟨y233, hy233⟩ : ∃ y_ : List ByteArray, y_ = (x0_1.set (x2_1 : Int).toNat (rdOf ByteArray.empty x0_1 x3_1)) := ⟨_, rfl⟩
    replace H : (slices_Reverse_string_string.l0 k1 (y233.set (x3_1 : Int).toNat (rdOf ByteArray.empty x0_1 x2_1)) (wrap64 (x2_1 + 1)) (wrap64 (x3_1 - 1))) = some r := by first | (rw [hy233]; with_reducible exact H) | (have H2_ := (Option.bind_some _ _).symm.trans H; rw [hy233]; with_reducible exact H2_) | (have H2_ := (Option.bind_some _ _).symm.trans H; with_reducible exact H2_) | with_reducible exact H | (rw [hy233]; exact H) | exact H
    have Ny233 := Aside0.mk hy233
    clear hy233
    obtain ⟨y234, hy234⟩ : ∃ y_ : List ByteArray, y_ = (y233.set (x3_1 : Int).toNat (rdOf ByteArray.empty x0_1 x2_1)) := ⟨_, rfl⟩
    replace H : (slices_Reverse_string_string.l0 k1 y234 (wrap64 (x2_1 + 1)) (wrap64 (x3_1 - 1))) = some r := by first | (rw [hy234]; with_reducible exact H) | (have H2_ := (Option.bind_some _ _).symm.trans H; rw [hy234]; with_reducible exact H2_) | (have H2_ := (Option.bind_some _ _).symm.trans H; with_reducible exact H2_) | with_reducible exact H | (rw [hy234]; exact H) | exact H
    have Ny234 := Aside0.mk hy234
    clear hy234
    have H' := Aside0.mk H
    clear H
    try go_wp2
    replace HO_0 := Aside0.mk (Kd.R_drew HO_0.out)
    replace HK := Aside0.mk (Kept.drew HK.out)
    replace HB := Aside0.mk (below_drew1 HB.out)
    have p231 : 0 ≤ (x3_1 : Int) := TD
    have q231 : x3_1 < (x0_1.length : Int) := TD
    obtain ⟨ad231, e231, hx231_0⟩ := Kd.at_string (Kd.R_reads' HO_0.out).2.2 x3_1 p231 q231
    cases e231
    replace p231 := eq_true p231
    replace q231 := eq_true q231
    have p232 : 0 ≤ (x2_1 : Int) := TD
    have q232 : x2_1 < (x0_1.length : Int) := TD
    obtain ⟨ad232, e232, hx232_0⟩ := Kd.at_string (Kd.R_reads' HO_0.out).2.2 x2_1 p232 q232
    obtain rfl : ad231 = ad232 := (by injection e232)
    replace p232 := eq_true p232
    replace q232 := eq_true q232
    have p8 : 0 ≤ (x2_1 : Int) := TD
    have q8 : (x2_1 : Int) < ((x0_1.length : Int) : Int) := TD
    obtain ⟨go8, co8, eo8, gb8, gl8, cl8, HG8⟩ := Kd.R_form HO_0.out (by omega)
    (first | cases eo8 | (injection eo8 with ea_ en_ ec_; (first | subst ea_ | (injection ea_ with ea_; subst ea_)); subst ec_; clear en_))
    have GB8 := Aside0.mk gb8
    have GG8 := Aside0.mk HG8
    clear gb8 gl8 HG8
    have HMgo8 := Aside0.mk (show (P0_ go8 ∨ w.heap.size ≤ go8) from (HO_0.out.1 _ rfl))
    (first | simp only [add_plain] at hx231_0 | skip)
    (first | simp only [add_plain] at hx232_0 | skip)
    obtain ⟨hx8_0, hf8_0⟩ := Kd.R_celln (⟨#[]⟩ : ByteArray) HO_0.out (x2_1 : Int) p8 q8
    replace p8 := eq_true p8
    replace q8 := eq_true q8
    have HP11 := Kd.R_putn HO_0.out (x2_1 : Int) (rdOf ByteArray.empty x0_1 x3_1)
    rw [← Ny233.out] at HP11
    have HQ11 := Aside0.mk HP11
    clear HP11
    have p9 : 0 ≤ (x3_1 : Int) := TD
    have q9 : (x3_1 : Int) < ((x0_1.length : Int) : Int) := TD
    obtain ⟨hx9_0, hf9_0⟩ := Kd.R_celln (⟨#[]⟩ : ByteArray) HQ11.out (x3_1 : Int) p9 q9
    replace p9 := eq_true p9
    replace q9 := eq_true q9
    have HP12 := Kd.R_putn HQ11.out (x3_1 : Int) (rdOf ByteArray.empty x0_1 x2_1)
    rw [← Ny234.out] at HP12
    have HQ12 := Aside0.mk HP12
    clear HP12
    refine start_ (n := 16) (S := fun w' => w'.cell? ⟨go8, (x3_1).toNat, none⟩ = some (.string (rdOf ByteArray.empty x0_1 x3_1)) ∧ w'.cell? ⟨go8, (x2_1).toNat, none⟩ = some (.string (rdOf ByteArray.empty x0_1 x2_1))) (ds := [13, 15]) #[false, false, false, false, false, false, false, false, false, false, false, false, false, false, false, false] KR rfl rfl ⟨hx231_0, hx232_0⟩ (fun hHeld => ?_); refine with_tabW slices_Reverse_string_string.tab3 slices_Reverse_string_string.bits3 (fun HT_ HW_ => ?_)
    generalize wr.drew = w10 at HO_0 HK HB GG8 HQ11 HQ12 hf8_0 hf9_0 hx231_0 hx232_0 hx8_0 hx9_0 hHeld ⊢
    refine pA 0 14 (mL 16 1) HT_ rfl rfl ?_
    refine pA 1 15 (mL 16 3) HT_ rfl rfl ?_
    refine pA 2 16 (mL 16 7) HT_ rfl rfl ?_
    refine pA 3 17 (mL 16 15) HT_ rfl rfl ?_
    refine pA 4 18 (mL 16 31) HT_ rfl rfl ?_
    refine pA 5 19 (mL 16 63) HT_ rfl rfl ?_
    refine pA 6 20 (mL 16 127) HT_ rfl rfl ?_
    refine pA 8 22 (mL 16 383) HT_ rfl rfl ?_
    refine pA 9 23 (mL 16 895) HT_ rfl rfl ?_
    refine pA 10 24 (mL 16 1919) HT_ rfl rfl ?_
    refine tA 7 21 (mL 16 2047) HT_ HW_ hHeld rfl rfl (by rintro w' ⟨s0, s1⟩; go_simp; with_reducible rfl) ?_
    refine tA 11 25 (mL 16 4095) HT_ HW_ hHeld rfl rfl (by rintro w' ⟨s0, s1⟩; go_simp; with_reducible rfl) ?_
    refine pA 12 26 (mL 16 8191) HT_ rfl rfl ?_
    refine last_ (i := 13) (N := none) (mL 16 16383) rfl rfl (one_of HT_.out KR) (by decide) (fun K hK => ?_)
    refine skip_ (w1 := ?_) (by rfl) rfl ?_ ?_
    rotate_left
    ·go_simp
     rfl
    refine hK.out _ _ ?_
    clear hK K
    refine pA 14 27 (mL 16 32767) HT_ rfl rfl ?_
    refine last_ (i := 15) (N := none) (mL 16 65535) rfl rfl (one_of HT_.out KR) (by decide) (fun K hK => ?_)
    refine skip_ (w1 := ?_) (by rfl) rfl ?_ ?_
    rotate_left
    ·go_simp
     rfl
    refine hK.out _ _ ?_
    clear hK K
    refine done_ (done_of HT_.out KR) ?_
    try go_wp2
    (try simp only [← hl0_1])
    go_roundg k1
    case measure => have := HK1.out; omega
    case rel => exact ⟨(y234), (wrap64 (x2_1 + 1)), (wrap64 (x3_1 - 1)), TF, TF, H', ⟨TM⟩, ⟨by (try simp only [hl0_1]); (with_reducible repeat (first | apply Kd.R_alloc | apply Kd.R_drewN | apply Kd.R_drew)); exact HQ12.out⟩, ⟨by repeat (first | (with_reducible first | exact HK.out | apply Kept.alloc | apply Kept.drewN | apply Kept.drew | refine Kept.setCell ?_ HMgo8.out _ | refine Kept.setCell ?_ HMgo8.out _) | exact HK.out)⟩, ⟨TB⟩⟩
   ·rw [if_neg c3] at H
    have c3b0 : decide (x2_1 < x3_1) = false := decide_eq_false c3
    clear c3
    obtain rfl := Option.some.inj H
    go_wp2
    first | go_end0 | ((try simp only [Exit.inBlock, Exit.then]); refine bodyPost_ret (results_none rfl _ _ _) rfl ?_)
    exact ⟨TE, (by first | exact (RW HO_0).out | (simp only [hl0_1]; exact (RW HO_0).out)), TB, TK⟩
end
section
/-! ### cmp_isNaN_string: function 137 -/
def cmp_isNaN_string.f (a0 : ByteArray) : Option (Bool) := some (a0.toList != a0.toList)
theorem cmp_isNaN_string.calls (a0 : ByteArray) (r : Bool) (w : World) (h : cmp_isNaN_string.f a0 = some r) :
  Calls Tryd.prog 137 #[.string a0] w fun e w' => e = .returned (.bool r) ∧ Drawn0 w w' := by
 have H : (some (a0.toList != a0.toList)) = some r := h
 clear h
 obtain rfl := Option.some.inj H
 go_enter Tryd.func137, Tryd.ntmps137
 go_wp2
 go_ret
 exact ⟨TF, TN⟩
end
section
/-! ### cmp_Compare_string: function 122 -/
def cmp_Compare_string.f (a0 : ByteArray) (a1 : ByteArray) : Option (Int) := (cmp_isNaN_string.f a0).bind fun t235 => ((cmp_isNaN_string.f a1).bind fun t236 => (if t235 = true then (if t236 = true then (some 0) else (some (-1))) else (if t236 = true then (some 1) else (if (Op.bytesLess a0.toList a1.toList) = true then (some (-1)) else (if a0.toList = a1.toList then (some 0) else (some 1))))))
theorem cmp_Compare_string.calls (a0 : ByteArray) (a1 : ByteArray) (r : Int) (w : World) (h : cmp_Compare_string.f a0 a1 = some r) :
  Calls Tryd.prog 122 #[.string a0, .string a1] w fun e w' => e = .returned (.int .i64 r) ∧ Drawn0 w w' := by
 have H : ((cmp_isNaN_string.f a0).bind fun t235 => ((cmp_isNaN_string.f a1).bind fun t236 => (if t235 = true then (if t236 = true then (some 0) else (some (-1))) else (if t236 = true then (some 1) else (if (Op.bytesLess a0.toList a1.toList) = true then (some (-1)) else (if a0.toList = a1.toList then (some 0) else (some 1))))))) = some r := h
 clear h
 obtain ⟨t235, A3, H⟩ := bnd H
 obtain ⟨t236, A4, H⟩ := bnd H
 by_cases c5 : t235 = true
 ·subst c5
  replace H := ift H
  by_cases c6 : t236 = true
  ·subst c6
   replace H := ift H
   obtain rfl := Option.some.inj H
   go_enter Tryd.func122, Tryd.ntmps122
   go_wp2_with (first | ((with_reducible refine gate_callee (f := 137) rfl ?_); refine goesL_ (some 8) rfl rfl Tryd.func137 KR rfl #[.string a0] rfl TA ?_; (with_reducible refine (cmp_isNaN_string.calls a0 true _ A3.out).mono ?_); rintro e w' ⟨rfl, ⟨nd, rfl⟩⟩; refine ⟨_, rfl, ?_⟩) | ((with_reducible refine gate_callee (f := 137) rfl ?_); refine goesL_ (some 10) rfl rfl Tryd.func137 KR rfl #[.string a1] rfl TA ?_; (with_reducible refine (cmp_isNaN_string.calls a1 true _ A4.out).mono ?_); rintro e w' ⟨rfl, ⟨nd, rfl⟩⟩; refine ⟨_, rfl, ?_⟩))
   go_ret
   exact ⟨TF, TN⟩
  ·replace c6 := Bool.eq_false_iff.mpr c6
   subst c6
   replace H := iff' H
   obtain rfl := Option.some.inj H
   go_enter Tryd.func122, Tryd.ntmps122
   go_wp2_with (first | ((with_reducible refine gate_callee (f := 137) rfl ?_); refine goesL_ (some 8) rfl rfl Tryd.func137 KR rfl #[.string a0] rfl TA ?_; (with_reducible refine (cmp_isNaN_string.calls a0 true _ A3.out).mono ?_); rintro e w' ⟨rfl, ⟨nd, rfl⟩⟩; refine ⟨_, rfl, ?_⟩) | ((with_reducible refine gate_callee (f := 137) rfl ?_); refine goesL_ (some 10) rfl rfl Tryd.func137 KR rfl #[.string a1] rfl TA ?_; (with_reducible refine (cmp_isNaN_string.calls a1 false _ A4.out).mono ?_); rintro e w' ⟨rfl, ⟨nd, rfl⟩⟩; refine ⟨_, rfl, ?_⟩))
   go_ret
   exact ⟨TF, TN⟩
 ·replace c5 := Bool.eq_false_iff.mpr c5
  subst c5
  replace H := iff' H
  by_cases c7 : t236 = true
  ·subst c7
   replace H := ift H
   obtain rfl := Option.some.inj H
   go_enter Tryd.func122, Tryd.ntmps122
   go_wp2_with (first | ((with_reducible refine gate_callee (f := 137) rfl ?_); refine goesL_ (some 8) rfl rfl Tryd.func137 KR rfl #[.string a0] rfl TA ?_; (with_reducible refine (cmp_isNaN_string.calls a0 false _ A3.out).mono ?_); rintro e w' ⟨rfl, ⟨nd, rfl⟩⟩; refine ⟨_, rfl, ?_⟩) | ((with_reducible refine gate_callee (f := 137) rfl ?_); refine goesL_ (some 10) rfl rfl Tryd.func137 KR rfl #[.string a1] rfl TA ?_; (with_reducible refine (cmp_isNaN_string.calls a1 true _ A4.out).mono ?_); rintro e w' ⟨rfl, ⟨nd, rfl⟩⟩; refine ⟨_, rfl, ?_⟩))
   go_ret
   exact ⟨TF, TN⟩
  ·replace c7 := Bool.eq_false_iff.mpr c7
   subst c7
   replace H := iff' H
   by_cases c8 : (Op.bytesLess a0.toList a1.toList) = true
   ·rw [if_pos c8] at H
    have c8b0 : (Op.bytesLess a0.toList a1.toList) = true := c8
    clear c8
    obtain rfl := Option.some.inj H
    go_enter Tryd.func122, Tryd.ntmps122
    go_wp2_with (first | ((with_reducible refine gate_callee (f := 137) rfl ?_); refine goesL_ (some 8) rfl rfl Tryd.func137 KR rfl #[.string a0] rfl TA ?_; (with_reducible refine (cmp_isNaN_string.calls a0 false _ A3.out).mono ?_); rintro e w' ⟨rfl, ⟨nd, rfl⟩⟩; refine ⟨_, rfl, ?_⟩) | ((with_reducible refine gate_callee (f := 137) rfl ?_); refine goesL_ (some 10) rfl rfl Tryd.func137 KR rfl #[.string a1] rfl TA ?_; (with_reducible refine (cmp_isNaN_string.calls a1 false _ A4.out).mono ?_); rintro e w' ⟨rfl, ⟨nd, rfl⟩⟩; refine ⟨_, rfl, ?_⟩))
    go_ret
    exact ⟨TF, TN⟩
   ·rw [if_neg c8] at H
    have c8b0 : (Op.bytesLess a0.toList a1.toList) = false := by simpa using c8
    clear c8
    by_cases c9 : a0.toList = a1.toList
    ·rw [if_pos c9] at H
     have c9b0 : (a0.toList == a1.toList) = true := beq_iff_eq.mpr c9
     have c9b1 : (a0.toList != a1.toList) = false := bne_eq_false_iff_eq.mpr c9
     clear c9
     obtain rfl := Option.some.inj H
     go_enter Tryd.func122, Tryd.ntmps122
     go_wp2_with (first | ((with_reducible refine gate_callee (f := 137) rfl ?_); refine goesL_ (some 8) rfl rfl Tryd.func137 KR rfl #[.string a0] rfl TA ?_; (with_reducible refine (cmp_isNaN_string.calls a0 false _ A3.out).mono ?_); rintro e w' ⟨rfl, ⟨nd, rfl⟩⟩; refine ⟨_, rfl, ?_⟩) | ((with_reducible refine gate_callee (f := 137) rfl ?_); refine goesL_ (some 10) rfl rfl Tryd.func137 KR rfl #[.string a1] rfl TA ?_; (with_reducible refine (cmp_isNaN_string.calls a1 false _ A4.out).mono ?_); rintro e w' ⟨rfl, ⟨nd, rfl⟩⟩; refine ⟨_, rfl, ?_⟩))
     go_ret
     exact ⟨TF, TN⟩
    ·rw [if_neg c9] at H
     have c9b0 : (a0.toList == a1.toList) = false := beq_eq_false_iff_ne.mpr c9
     have c9b1 : (a0.toList != a1.toList) = true := bne_iff_ne.mpr c9
     obtain rfl := Option.some.inj H
     go_enter Tryd.func122, Tryd.ntmps122
     go_wp2_with (first | ((with_reducible refine gate_callee (f := 137) rfl ?_); refine goesL_ (some 8) rfl rfl Tryd.func137 KR rfl #[.string a0] rfl TA ?_; (with_reducible refine (cmp_isNaN_string.calls a0 false _ A3.out).mono ?_); rintro e w' ⟨rfl, ⟨nd, rfl⟩⟩; refine ⟨_, rfl, ?_⟩) | ((with_reducible refine gate_callee (f := 137) rfl ?_); refine goesL_ (some 10) rfl rfl Tryd.func137 KR rfl #[.string a1] rfl TA ?_; (with_reducible refine (cmp_isNaN_string.calls a1 false _ A4.out).mono ?_); rintro e w' ⟨rfl, ⟨nd, rfl⟩⟩; refine ⟨_, rfl, ?_⟩))
     go_ret
     exact ⟨TF, TN⟩
end
section
/-! ### slices_Compare_string_string: function 107 -/
def slices_Compare_string_string.l0 : Nat → List ByteArray → List ByteArray → List ByteArray → Int → Int → Option (Int)
 | 0, _, _, _, _, _ => none
 | k + 1, x0, x1, x9, x10, x11 => if x11 < x10 then (if 0 ≤ x11 then (if x11 < (x9.length : Int) then (if x11 ≥ (x1.length : Int) then (some 1) else (if x11 < (x1.length : Int) then ((cmp_Compare_string.f (rdOf ByteArray.empty x9 x11) (rdOf ByteArray.empty x1 x11)).bind fun t239 => (if t239 = 0 then (slices_Compare_string_string.l0 k x0 x1 x9 x10 (wrap64 (x11 + 1))) else (some t239))) else (none))) else (none)) else (none)) else (if (x0.length : Int) < (x1.length : Int) then (some (-1)) else (some 0))
def slices_Compare_string_string.f (k : Nat) (l0 : List ByteArray) (l1 : List ByteArray) : Option (Int) := slices_Compare_string_string.l0 k l0 l1 l0 (l0.length : Int) 0
theorem slices_Compare_string_string.calls (k : Nat) (A0 : Option Addr) (c0 : Nat) (l0 : List ByteArray) (A1 : Option Addr) (c1 : Nat) (l1 : List ByteArray) (r : Int) (w : World) (hr0 : Kd.C Kd.string w A0 l0.length l0) (hc0 : l0.length ≤ c0) (hr1 : Kd.C Kd.string w A1 l1.length l1) (hc1 : l1.length ≤ c1) (h : slices_Compare_string_string.f k l0 l1 = some r) :
  Calls Tryd.prog 107 #[.slice A0 l0.length c0, .slice A1 l1.length c1] w fun e w' => e = .returned (.int .i64 r) ∧ Drawn0 w w' := by
 have HR0 := Aside0.mk hr0
 have HC0 := Aside0.mk hc0
 clear hr0 hc0
 have HR1 := Aside0.mk hr1
 have HC1 := Aside0.mk hc1
 clear hr1 hc1
 have H : (slices_Compare_string_string.l0 k l0 l1 l0 (l0.length : Int) 0) = some r := h
 clear h
 have H' := Aside0.mk H
 clear H
 go_enter Tryd.func107, Tryd.ntmps107
 go_wp2
 go_loopg [11] k (fun kq v11 w' => ∃ (x11_1 : Int), v11 = .int .i64 x11_1 ∧ Aside0 (slices_Compare_string_string.l0 kq l0 l1 l0 (l0.length : Int) x11_1 = some r) ∧ Aside0 (kq ≤ k) ∧ Drawn0 w w')
 case atStart => exact ⟨(0), TF, H', ⟨Nat.le_refl _⟩, TN⟩
 case round =>
  clear H'
  obtain ⟨x11_1, rfl, HA, HK1, ⟨m1, rfl⟩⟩ := hrel
  cases gk with
  | zero => exact absurd HA.out (by simp [slices_Compare_string_string.l0])
  | succ k1 =>
   have H := HA.out
   clear HA
   simp only [slices_Compare_string_string.l0] at H
   by_cases c3 : x11_1 < (l0.length : Int)
   ·rw [if_pos c3] at H
    have c3b0 : decide (x11_1 < (l0.length : Int)) = true := decide_eq_true c3
    clear c3
    obtain ⟨c4, H⟩ := ifn H
    have c4b0 : decide (0 ≤ x11_1) = true := decide_eq_true c4
    clear c4
    obtain ⟨c5, H⟩ := ifn H
    have c5b0 : decide (x11_1 < (l0.length : Int)) = true := decide_eq_true c5
    clear c5
    by_cases c6 : x11_1 ≥ (l1.length : Int)
    ·rw [if_pos c6] at H
     have c6b0 : decide ((l1.length : Int) ≤ x11_1) = true := decide_eq_true c6
     clear c6
     obtain rfl := Option.some.inj H
     have p237 : 0 ≤ (x11_1 : Int) := TD
     have q237 : x11_1 < (l0.length : Int) := TD
     obtain ⟨ad237, e237, hx237_0⟩ := Kd.at_string HR0.out x11_1 p237 q237
     cases e237
     replace p237 := eq_true p237
     replace q237 := eq_true q237
     go_wp2
     go_ret
     exact ⟨TF, TN⟩
    ·rw [if_neg c6] at H
     have c6b0 : decide ((l1.length : Int) ≤ x11_1) = false := decide_eq_false c6
     clear c6
     obtain ⟨c7, H⟩ := ifn H
     have c7b0 : decide (x11_1 < (l1.length : Int)) = true := decide_eq_true c7
     clear c7
     obtain ⟨t239, A8, H⟩ := bnd H
     by_cases c9 : t239 = 0
     ·rw [if_pos c9] at H
      have c9b0 : (t239 == 0) = true := beq_iff_eq.mpr c9
      have c9b1 : (t239 != 0) = false := bne_eq_false_iff_eq.mpr c9
      clear c9
      have H' := Aside0.mk H
      clear H
      have p237 : 0 ≤ (x11_1 : Int) := TD
      have q237 : x11_1 < (l0.length : Int) := TD
      obtain ⟨ad237, e237, hx237_0⟩ := Kd.at_string HR0.out x11_1 p237 q237
      cases e237
      replace p237 := eq_true p237
      replace q237 := eq_true q237
      have p238 : 0 ≤ (x11_1 : Int) := TD
      have q238 : x11_1 < (l1.length : Int) := TD
      obtain ⟨ad238, e238, hx238_0⟩ := Kd.at_string HR1.out x11_1 p238 q238
      cases e238
      replace p238 := eq_true p238
      replace q238 := eq_true q238
      go_wp2_with (first | ((with_reducible refine gate_callee (f := 122) rfl ?_); refine goesL_ (some 26) rfl rfl Tryd.func122 KR rfl #[.string (rdOf ByteArray.empty l0 x11_1), .string (rdOf ByteArray.empty l1 x11_1)] rfl TA ?_; (with_reducible refine (cmp_Compare_string.calls (rdOf ByteArray.empty l0 x11_1) (rdOf ByteArray.empty l1 x11_1) t239 _ A8.out).mono ?_); rintro e w' ⟨rfl, ⟨nd, rfl⟩⟩; refine ⟨_, rfl, ?_⟩))
      go_roundg k1
      case measure => have := HK1.out; omega
      case rel => exact ⟨(wrap64 (x11_1 + 1)), TF, H', ⟨TM⟩, TN⟩
     ·rw [if_neg c9] at H
      have c9b0 : (t239 == 0) = false := beq_eq_false_iff_ne.mpr c9
      have c9b1 : (t239 != 0) = true := bne_iff_ne.mpr c9
      obtain rfl := Option.some.inj H
      have p237 : 0 ≤ (x11_1 : Int) := TD
      have q237 : x11_1 < (l0.length : Int) := TD
      obtain ⟨ad237, e237, hx237_0⟩ := Kd.at_string HR0.out x11_1 p237 q237
      cases e237
      replace p237 := eq_true p237
      replace q237 := eq_true q237
      have p238 : 0 ≤ (x11_1 : Int) := TD
      have q238 : x11_1 < (l1.length : Int) := TD
      obtain ⟨ad238, e238, hx238_0⟩ := Kd.at_string HR1.out x11_1 p238 q238
      cases e238
      replace p238 := eq_true p238
      replace q238 := eq_true q238
      go_wp2_with (first | ((with_reducible refine gate_callee (f := 122) rfl ?_); refine goesL_ (some 26) rfl rfl Tryd.func122 KR rfl #[.string (rdOf ByteArray.empty l0 x11_1), .string (rdOf ByteArray.empty l1 x11_1)] rfl TA ?_; (with_reducible refine (cmp_Compare_string.calls (rdOf ByteArray.empty l0 x11_1) (rdOf ByteArray.empty l1 x11_1) t239 _ A8.out).mono ?_); rintro e w' ⟨rfl, ⟨nd, rfl⟩⟩; refine ⟨_, rfl, ?_⟩))
      go_ret
      exact ⟨TF, TN⟩
   ·rw [if_neg c3] at H
    have c3b0 : decide (x11_1 < (l0.length : Int)) = false := decide_eq_false c3
    clear c3
    by_cases c10 : (l0.length : Int) < (l1.length : Int)
    ·rw [if_pos c10] at H
     have c10b0 : decide ((l0.length : Int) < (l1.length : Int)) = true := decide_eq_true c10
     have c10b1 : decide (l0.length < l1.length) = true := decide_eq_true (Int.ofNat_lt.mp c10)
     clear c10
     obtain rfl := Option.some.inj H
     go_wp2
     go_ret
     exact ⟨TF, TN⟩
    ·rw [if_neg c10] at H
     have c10b0 : decide ((l0.length : Int) < (l1.length : Int)) = false := decide_eq_false c10
     have c10b1 : decide (l0.length < l1.length) = false := decide_eq_false (fun h => c10 (Int.ofNat_lt.mpr h))
     clear c10
     obtain rfl := Option.some.inj H
     go_wp2
     go_ret
     exact ⟨TF, TN⟩
end
section
/-! ### impl_compareNames: function 79 -/
def impl_compareNames.f (k : Nat) (a0 : ByteArray) (a1 : ByteArray) : Option (Int) := (impl_labelsOf.f k a0).bind fun t240 => ((impl_labelsOf.f k a1).bind fun t243 => ((slices_Reverse_string_string.f k t240).bind fun t246 => ((slices_Reverse_string_string.f k t243).bind fun t247 => ((slices_Compare_string_string.f k t246 t247).bind fun t248 => (some t248)))))
theorem impl_compareNames.calls (k : Nat) (a0 : ByteArray) (a1 : ByteArray) (r : Int) (w : World) (h : impl_compareNames.f k a0 a1 = some r) :
  Calls Tryd.prog 79 #[.string a0, .string a1] w fun e w' => e = .returned (.int .i64 r) ∧ Below w.heap.size w w' := by
 have HB := Aside0.mk (Below.refl w.heap.size w)
 have H : ((impl_labelsOf.f k a0).bind fun t240 => ((impl_labelsOf.f k a1).bind fun t243 => ((slices_Reverse_string_string.f k t240).bind fun t246 => ((slices_Reverse_string_string.f k t243).bind fun t247 => ((slices_Compare_string_string.f k t246 t247).bind fun t248 => (some t248)))))) = some r := h
 clear h
 obtain ⟨t240, A3, H⟩ := bnd H
 obtain ⟨t243, A4, H⟩ := bnd H
 obtain ⟨t246, A5, H⟩ := bnd H
 obtain ⟨t247, A6, H⟩ := bnd H
 obtain ⟨t248, A7, H⟩ := bnd H
 obtain rfl := Option.some.inj H
 go_enter Tryd.func79, Tryd.ntmps79
 go_wp2_with (first | ((with_reducible refine gate_callee (f := 94) rfl ?_); refine goesL_ (some 8) rfl rfl Tryd.func94 KR rfl #[.string a0] rfl TA ?_; (with_reducible refine (impl_labelsOf.calls k a0 t240 _ A3.out).mono ?_); rintro e w8 ⟨v241, rfl, ho0, hb⟩; refine ⟨_, rfl, ?_⟩; have HO242 := RL ho0; replace HB := BS hb; clear hb; (try clear ho0)) | ((with_reducible refine gate_callee (f := 94) rfl ?_); refine goesL_ (some 10) rfl rfl Tryd.func94 KR rfl #[.string a1] rfl TA ?_; (with_reducible refine (impl_labelsOf.calls k a1 t243 _ A4.out).mono ?_); rintro e w9 ⟨v244, rfl, ho0, hb⟩; refine ⟨_, rfl, ?_⟩; have HO245 := RL (NW ho0 HO242); replace HO242 := EL HO242 ho0 hb; replace HB := BS hb; clear hb; (try clear ho0); obtain ⟨Ao10, co10, eo10⟩ := Kd.R_slice HO242.out; subst eo10) | ((with_reducible refine gate_callee (f := 106) rfl ?_); refine goesL_ (some 12) rfl rfl Tryd.func106 KR rfl #[.slice Ao10 t240.length co10] rfl TA ?_; (with_reducible refine (slices_Reverse_string_string.calls k (fun k_ => some k_ = (.slice Ao10 t240.length co10 : Value).ownBlock) (.slice Ao10 t240.length co10) t240 t246 w _ ?side1 ?side2 A5.out).mono ?_); (case side1 => repeat (first | (with_reducible first | exact HB.out | apply below_alloc | apply pw_below_drewN | apply below_drew1) | exact HB.out)); (case side2 => exact Kd.R_tight rfl HO242.out); rintro e w11 ⟨rfl, hy0, hb, hkp⟩; refine ⟨_, rfl, ?_⟩; replace HO242 := Aside0.mk (Kd.R_reok rfl hy0 (fun k_ e_ => HO242.out.1 k_ e_)); replace HO245 := RK (fun k_ => some k_ ≠ (.slice Ao10 t240.length co10 : Value).ownBlock) HO245 hkp; replace HB := Aside0.mk (hb); clear hb; (try clear hkp); (try clear hy0); obtain ⟨Ao12, co12, eo12⟩ := Kd.R_slice HO245.out; subst eo12) | ((with_reducible refine gate_callee (f := 106) rfl ?_); refine goesL_ (some 14) rfl rfl Tryd.func106 KR rfl #[.slice Ao12 t243.length co12] rfl TA ?_; (with_reducible refine (slices_Reverse_string_string.calls k (fun k_ => some k_ = (.slice Ao12 t243.length co12 : Value).ownBlock) (.slice Ao12 t243.length co12) t243 t247 w _ ?side1 ?side2 A6.out).mono ?_); (case side1 => repeat (first | (with_reducible first | exact HB.out | apply below_alloc | apply pw_below_drewN | apply below_drew1) | exact HB.out)); (case side2 => exact Kd.R_tight rfl HO245.out); rintro e w13 ⟨rfl, hy0, hb, hkp⟩; refine ⟨_, rfl, ?_⟩; replace HO242 := RK (fun k_ => some k_ ≠ (.slice Ao12 t243.length co12 : Value).ownBlock) HO242 hkp; replace HO245 := Aside0.mk (Kd.R_reok rfl hy0 (fun k_ e_ => HO245.out.1 k_ e_)); replace HB := Aside0.mk (hb); clear hb; (try clear hkp); (try clear hy0)) | ((with_reducible refine gate_callee (f := 107) rfl ?_); refine goesL_ (some 17) rfl rfl Tryd.func107 KR rfl #[.slice Ao10 t246.length co10, .slice Ao12 t247.length co12] rfl (by (try simp only [List.map_toArray, List.map_cons, List.map_nil]); first | done | (rw [show t246.length = t240.length from (Kd.R_reads' HO242.out).1.symm, show t247.length = t243.length from (Kd.R_reads' HO245.out).1.symm] <;> rfl) | rfl | (simp only [List.length_drop, List.length_take]; rfl)) ?_; (with_reducible refine (slices_Compare_string_string.calls k _ _ t246 _ _ t247 t248 _ ?side1 ?side2 ?side3 ?side4 A7.out).mono ?_); (case side1 => exact CW ((Kd.R_reads' HO242.out).2.2)); (case side2 => rw [show t246.length = t240.length from (Kd.R_reads' HO242.out).1.symm]; exact RI HO242); (case side3 => exact CW ((Kd.R_reads' HO245.out).2.2)); (case side4 => rw [show t247.length = t243.length from (Kd.R_reads' HO245.out).1.symm]; exact RI HO245); rintro e w' ⟨rfl, ⟨nd, rfl⟩⟩; refine ⟨_, rfl, ?_⟩))
 go_ret
 exact ⟨TE, TB⟩
end
section
/-! ### slices_Index_int_int: function 136 -/
def slices_Index_int_int.l0 : Nat → List Int → Int → Int → Int → Option (Int)
 | 0, _, _, _, _ => none
 | k + 1, x0, x1, x7, x8 => if x8 < x7 then (if 0 ≤ x8 then (if x8 < (x0.length : Int) then (if x1 = (rd x0 x8) then (some x8) else (slices_Index_int_int.l0 k x0 x1 x7 (wrap64 (x8 + 1)))) else (none)) else (none)) else (some (-1))
def slices_Index_int_int.f (k : Nat) (l0 : List Int) (a1 : Int) : Option (Int) := slices_Index_int_int.l0 k l0 a1 (l0.length : Int) 0
theorem slices_Index_int_int.calls (k : Nat) (A0 : Option Addr) (c0 : Nat) (l0 : List Int) (a1 : Int) (r : Int) (w : World) (hr0 : Kd.C (Kd.int .i64) w A0 l0.length l0) (hc0 : l0.length ≤ c0) (h : slices_Index_int_int.f k l0 a1 = some r) :
  Calls Tryd.prog 136 #[.slice A0 l0.length c0, .int .i64 a1] w fun e w' => e = .returned (.int .i64 r) ∧ Drawn0 w w' := by
 have HR0 := Aside0.mk hr0
 have HC0 := Aside0.mk hc0
 clear hr0 hc0
 have H : (slices_Index_int_int.l0 k l0 a1 (l0.length : Int) 0) = some r := h
 clear h
 have H' := Aside0.mk H
 clear H
 go_enter Tryd.func136, Tryd.ntmps136
 go_wp2
 go_loopg [8] k (fun kq v8 w' => ∃ (x8_1 : Int), v8 = .int .i64 x8_1 ∧ Aside0 (slices_Index_int_int.l0 kq l0 a1 (l0.length : Int) x8_1 = some r) ∧ Aside0 (kq ≤ k) ∧ Drawn0 w w')
 case atStart => exact ⟨(0), TF, H', ⟨Nat.le_refl _⟩, TN⟩
 case round =>
  clear H'
  obtain ⟨x8_1, rfl, HA, HK1, ⟨m1, rfl⟩⟩ := hrel
  cases gk with
  | zero => exact absurd HA.out (by simp [slices_Index_int_int.l0])
  | succ k1 =>
   have H := HA.out
   clear HA
   simp only [slices_Index_int_int.l0] at H
   by_cases c3 : x8_1 < (l0.length : Int)
   ·rw [if_pos c3] at H
    have c3b0 : decide (x8_1 < (l0.length : Int)) = true := decide_eq_true c3
    clear c3
    obtain ⟨c4, H⟩ := ifn H
    have c4b0 : decide (0 ≤ x8_1) = true := decide_eq_true c4
    clear c4
    obtain ⟨c5, H⟩ := ifn H
    have c5b0 : decide (x8_1 < (l0.length : Int)) = true := decide_eq_true c5
    clear c5
    by_cases c6 : a1 = (rd l0 x8_1)
    ·rw [if_pos c6] at H
     have c6b0 : (a1 == (rd l0 x8_1)) = true := beq_iff_eq.mpr c6
     have c6b1 : (a1 != (rd l0 x8_1)) = false := bne_eq_false_iff_eq.mpr c6
     clear c6
     obtain rfl := Option.some.inj H
     have p436 : 0 ≤ (x8_1 : Int) := TD
     have q436 : x8_1 < (l0.length : Int) := TD
     obtain ⟨ad436, e436, hx436_0⟩ := Kd.at_int HR0.out x8_1 p436 q436
     cases e436
     replace p436 := eq_true p436
     replace q436 := eq_true q436
     go_wp2
     go_ret
     exact ⟨TF, TN⟩
    ·rw [if_neg c6] at H
     have c6b0 : (a1 == (rd l0 x8_1)) = false := beq_eq_false_iff_ne.mpr c6
     have c6b1 : (a1 != (rd l0 x8_1)) = true := bne_iff_ne.mpr c6
     have H' := Aside0.mk H
     clear H
     have p436 : 0 ≤ (x8_1 : Int) := TD
     have q436 : x8_1 < (l0.length : Int) := TD
     obtain ⟨ad436, e436, hx436_0⟩ := Kd.at_int HR0.out x8_1 p436 q436
     cases e436
     replace p436 := eq_true p436
     replace q436 := eq_true q436
     go_wp2
     go_roundg k1
     case measure => have := HK1.out; omega
     case rel => exact ⟨(wrap64 (x8_1 + 1)), TF, H', ⟨TM⟩, TN⟩
   ·rw [if_neg c3] at H
    have c3b0 : decide (x8_1 < (l0.length : Int)) = false := decide_eq_false c3
    clear c3
    obtain rfl := Option.some.inj H
    go_wp2
    go_ret
    exact ⟨TF, TN⟩
end
section
/-! ### slices_Contains_int_int: function 121 -/
def slices_Contains_int_int.f (k : Nat) (l0 : List Int) (a1 : Int) : Option (Bool) := (slices_Index_int_int.f k l0 a1).bind fun t437 => (some (decide (t437 ≥ 0)))
theorem slices_Contains_int_int.calls (k : Nat) (A0 : Option Addr) (c0 : Nat) (l0 : List Int) (a1 : Int) (r : Bool) (w : World) (hr0 : Kd.C (Kd.int .i64) w A0 l0.length l0) (hc0 : l0.length ≤ c0) (h : slices_Contains_int_int.f k l0 a1 = some r) :
  Calls Tryd.prog 121 #[.slice A0 l0.length c0, .int .i64 a1] w fun e w' => e = .returned (.bool r) ∧ Drawn0 w w' := by
 have HR0 := Aside0.mk hr0
 have HC0 := Aside0.mk hc0
 clear hr0 hc0
 have H : ((slices_Index_int_int.f k l0 a1).bind fun t437 => (some (decide (t437 ≥ 0)))) = some r := h
 clear h
 obtain ⟨t437, A3, H⟩ := bnd H
 obtain rfl := Option.some.inj H
 go_enter Tryd.func121, Tryd.ntmps121
 go_wp2_with (first | ((with_reducible refine gate_callee (f := 136) rfl ?_); refine goesL_ (some 7) rfl rfl Tryd.func136 KR rfl #[.slice A0 l0.length c0, .int .i64 a1] rfl TA ?_; (with_reducible refine (slices_Index_int_int.calls k _ _ l0 a1 t437 _ ?side1 ?side2 A3.out).mono ?_); (case side1 => exact CW (HR0.out)); (case side2 => exact HC0.out); rintro e w' ⟨rfl, ⟨nd, rfl⟩⟩; refine ⟨_, rfl, ?_⟩))
 go_ret
 exact ⟨TF, TN⟩
end
section
/-! ### impl_isType: function 105 -/
def impl_isType.f (k : Nat) (a0 : Int) : Option (Bool) := (slices_Contains_int_int.f k (([1, 2, 5, 6, 15, 16] : List Int)) a0).bind fun t441 => (some t441)
theorem impl_isType.calls (k : Nat) (a0 : Int) (r : Bool) (w : World) (h : impl_isType.f k a0 = some r) :
  Calls Tryd.prog 105 #[.int .i64 a0] w fun e w' => e = .returned (.bool r) ∧ Below w.heap.size w w' := by
 have HB := Aside0.mk (Below.refl w.heap.size w)
 have H : ((slices_Contains_int_int.f k (([1, 2, 5, 6, 15, 16] : List Int)) a0).bind fun t441 => (some t441)) = some r := h
 clear h
 obtain ⟨y438, hy438⟩ : ∃ y_ : List Int, y_ = (([1, 2, 5, 6, 15, 16] : List Int)) := ⟨_, rfl⟩
 replace H : ((slices_Contains_int_int.f k y438 a0).bind fun t441 => (some t441)) = some r := by first | (rw [hy438]; with_reducible exact H) | (have H2_ := (Option.bind_some _ _).symm.trans H; rw [hy438]; with_reducible exact H2_) | (have H2_ := (Option.bind_some _ _).symm.trans H; with_reducible exact H2_) | with_reducible exact H | (rw [hy438]; exact H) | exact H
 have Ny438 := Aside0.mk hy438
 clear hy438
 obtain ⟨t441, A2, H⟩ := bnd H
 obtain rfl := Option.some.inj H
 go_enter Tryd.func105, Tryd.ntmps105
 go_wp2_with (first | ((with_reducible refine gate_dst (N := 3) rfl ?_); refine Kd.R_lit (Kd.int .i64) _ 3 ?hg (N := 3) ?hd (xs := ([1, 2, 5, 6, 15, 16] : List Int)) (inner := [.int .i64 1, .int .i64 2, .int .i64 5, .int .i64 6, .int .i64 15, .int .i64 16]) (ok := fun _ => True) (okp := fun _ => True) ?hr ?hp (fun _ hk => hk) trivial (Below.refl _ _) (Nat.le_refl _) (by simp) ?_; (case hd => rfl); (case hg => rfl); (case hr => first | (go_simp; done) | (go_simp; rfl)); (case hp => exact (Reps.one (show Kd.M (Kd.int .i64) _ _ _ 1 [.int .i64 1] from rfl) (Reps.one (show Kd.M (Kd.int .i64) _ _ _ 2 [.int .i64 2] from rfl) (Reps.one (show Kd.M (Kd.int .i64) _ _ _ 5 [.int .i64 5] from rfl) (Reps.one (show Kd.M (Kd.int .i64) _ _ _ 6 [.int .i64 6] from rfl) (Reps.one (show Kd.M (Kd.int .i64) _ _ _ 15 [.int .i64 15] from rfl) (Reps.one (show Kd.M (Kd.int .i64) _ _ _ 16 [.int .i64 16] from rfl) (Reps.none _ _)))))))); intro v439 w3 ho4 hb hg_ hnew_; clear hg_ hnew_; (first | rw [← Ny438.out] at ho4 | (simp only [Int.reduceToNat] at ho4; rw [← Ny438.out] at ho4)); have HO440 := RL ho4; replace HB := BS hb; clear hb ho4; obtain ⟨Ao5, co5, eo5⟩ := Kd.R_slice HO440.out; subst eo5) | ((with_reducible refine gate_callee (f := 121) rfl ?_); refine goesL_ (some 5) rfl rfl Tryd.func121 KR rfl #[.slice Ao5 y438.length co5, .int .i64 a0] rfl TA ?_; (with_reducible refine (slices_Contains_int_int.calls k _ _ y438 a0 t441 _ ?side1 ?side2 A2.out).mono ?_); (case side1 => exact CW ((Kd.R_reads' HO440.out).2.2)); (case side2 => exact RI HO440); rintro e w' ⟨rfl, ⟨nd, rfl⟩⟩; refine ⟨_, rfl, ?_⟩))
 go_ret
 exact ⟨TE, TB⟩
end
section
/-! ### impl_areTypes: function 78 -/
def impl_areTypes.l0 : Nat → List Int → List Int → Int → Int → Option (Bool)
 | 0, _, _, _, _ => none
 | k + 1, x0, x5, x6, x7 => if x7 < x6 then (if 0 ≤ x7 then (if x7 < (x5.length : Int) then ((impl_isType.f k (rd x5 x7)).bind fun t443 => (if t443 = true then (if x7 > 0 then (if 0 ≤ (wrap64 (x7 - 1)) then (if (wrap64 (x7 - 1)) < (x0.length : Int) then (if (rd x5 x7) ≤ (rd x0 (wrap64 (x7 - 1))) then (some false) else (impl_areTypes.l0 k x0 x5 x6 (wrap64 (x7 + 1)))) else (none)) else (none)) else (impl_areTypes.l0 k x0 x5 x6 (wrap64 (x7 + 1)))) else (some false))) else (none)) else (none)) else (some (decide ((x0.length : Int) > 0)))
def impl_areTypes.f (k : Nat) (l0 : List Int) : Option (Bool) := impl_areTypes.l0 k l0 l0 (l0.length : Int) 0
theorem impl_areTypes.calls (k : Nat) (A0 : Option Addr) (c0 : Nat) (l0 : List Int) (r : Bool) (w : World) (hr0 : Kd.C (Kd.int .i64) w A0 l0.length l0) (hc0 : l0.length ≤ c0) (h : impl_areTypes.f k l0 = some r) :
  Calls Tryd.prog 78 #[.slice A0 l0.length c0] w fun e w' => e = .returned (.bool r) ∧ Below w.heap.size w w' := by
 have HR0 := Aside0.mk hr0
 have HC0 := Aside0.mk hc0
 clear hr0 hc0
 have HB := Aside0.mk (Below.refl w.heap.size w)
 have H : (impl_areTypes.l0 k l0 l0 (l0.length : Int) 0) = some r := h
 clear h
 have H' := Aside0.mk H
 clear H
 go_enter Tryd.func78, Tryd.ntmps78
 go_wp2
 go_loopg [7] k (fun kq v7 w' => ∃ (x7_1 : Int), v7 = .int .i64 x7_1 ∧ Aside0 (impl_areTypes.l0 kq l0 l0 (l0.length : Int) x7_1 = some r) ∧ Aside0 (kq ≤ k) ∧ Aside0 (Below w.heap.size w w'))
 case atStart => exact ⟨(0), TF, H', ⟨Nat.le_refl _⟩, ⟨TB⟩⟩
 case round =>
  clear H'
  obtain ⟨x7_1, rfl, HA, HK1, HB⟩ := hrel
  cases gk with
  | zero => exact absurd HA.out (by simp [impl_areTypes.l0])
  | succ k1 =>
   have H := HA.out
   clear HA
   simp only [impl_areTypes.l0] at H
   by_cases c2 : x7_1 < (l0.length : Int)
   ·rw [if_pos c2] at H
    have c2b0 : decide (x7_1 < (l0.length : Int)) = true := decide_eq_true c2
    clear c2
    obtain ⟨c3, H⟩ := ifn H
    have c3b0 : decide (0 ≤ x7_1) = true := decide_eq_true c3
    clear c3
    obtain ⟨c4, H⟩ := ifn H
    have c4b0 : decide (x7_1 < (l0.length : Int)) = true := decide_eq_true c4
    clear c4
    obtain ⟨t443, A5, H⟩ := bnd H
    by_cases c6 : t443 = true
    ·subst c6
     replace H := ift H
     by_cases c7 : x7_1 > 0
     ·rw [if_pos c7] at H
      have c7b0 : decide (0 < x7_1) = true := decide_eq_true c7
      clear c7
      obtain ⟨ji8, hji8⟩ : ∃ j_ : Int, (wrap64 (x7_1 - 1)) = j_ := ⟨_, rfl⟩
      replace H : (if 0 ≤ (ji8) then (if (ji8) < (l0.length : Int) then (if (rd l0 x7_1) ≤ (rd l0 (ji8)) then (some false) else (impl_areTypes.l0 k1 l0 l0 (l0.length : Int) (wrap64 (x7_1 + 1)))) else (none)) else (none)) = some r := by first | (rw [hji8] at H; exact H) | (simp only [hji8] at H ⊢; exact H)
      (try rw [hji8] at A5)
      have hji8w : (IntKind.i64.wrap (x7_1 - 1)) = ji8 := (i64_w _).trans hji8
      obtain ⟨c9, H⟩ := ifn H
      have c9b0 : decide (0 ≤ (ji8)) = true := decide_eq_true c9
      clear c9
      obtain ⟨c10, H⟩ := ifn H
      have c10b0 : decide ((ji8) < (l0.length : Int)) = true := decide_eq_true c10
      clear c10
      by_cases c11 : (rd l0 x7_1) ≤ (rd l0 (ji8))
      ·rw [if_pos c11] at H
       have c11b0 : decide ((rd l0 x7_1) ≤ (rd l0 (ji8))) = true := decide_eq_true c11
       clear c11
       obtain rfl := Option.some.inj H
       have p442 : 0 ≤ (x7_1 : Int) := TD
       have q442 : x7_1 < (l0.length : Int) := TD
       obtain ⟨ad442, e442, hx442_0⟩ := Kd.at_int (Kd.C_below HR0.out HB.out) x7_1 p442 q442
       cases e442
       replace p442 := eq_true p442
       replace q442 := eq_true q442
       go_wp2_with (first | ((with_reducible refine gate_callee (f := 105) rfl ?_); refine goesL_ (some 13) rfl rfl Tryd.func105 KR rfl #[.int .i64 (rd l0 x7_1)] rfl TA ?_; (with_reducible refine (impl_isType.calls k1 (rd l0 x7_1) true _ A5.out).mono ?_); rintro e w12 ⟨rfl, hb⟩; refine ⟨_, rfl, ?_⟩; replace HB := BS hb; clear hb; have p444 : 0 ≤ ((ji8) : Int) := TD; have q444 : (ji8) < (l0.length : Int) := TD; obtain ⟨ad444, e444, hx444_0⟩ := Kd.at_int HR0.out (ji8) p444 q444; obtain rfl : ad442 = ad444 := (by injection e444); replace hx444_0 := hBc HB hx444_0; replace p444 := eq_true p444; replace q444 := eq_true q444))
       go_ret
       exact ⟨by first | rfl | (simp [errW_none, errW_some] <;> rfl) | (simp only [← hji8]; first | rfl | (simp [errW_none, errW_some] <;> rfl)) | (simp [*, errW_none, errW_some] <;> rfl), TB⟩
      ·rw [if_neg c11] at H
       have c11b0 : decide ((rd l0 x7_1) ≤ (rd l0 (ji8))) = false := decide_eq_false c11
       clear c11
       have H' := Aside0.mk H
       clear H
       have p442 : 0 ≤ (x7_1 : Int) := TD
       have q442 : x7_1 < (l0.length : Int) := TD
       obtain ⟨ad442, e442, hx442_0⟩ := Kd.at_int (Kd.C_below HR0.out HB.out) x7_1 p442 q442
       cases e442
       replace p442 := eq_true p442
       replace q442 := eq_true q442
       go_wp2_with (first | ((with_reducible refine gate_callee (f := 105) rfl ?_); refine goesL_ (some 13) rfl rfl Tryd.func105 KR rfl #[.int .i64 (rd l0 x7_1)] rfl TA ?_; (with_reducible refine (impl_isType.calls k1 (rd l0 x7_1) true _ A5.out).mono ?_); rintro e w13 ⟨rfl, hb⟩; refine ⟨_, rfl, ?_⟩; replace HB := BS hb; clear hb; have p444 : 0 ≤ ((ji8) : Int) := TD; have q444 : (ji8) < (l0.length : Int) := TD; obtain ⟨ad444, e444, hx444_0⟩ := Kd.at_int HR0.out (ji8) p444 q444; obtain rfl : ad442 = ad444 := (by injection e444); replace hx444_0 := hBc HB hx444_0; replace p444 := eq_true p444; replace q444 := eq_true q444))
       go_roundg k1
       case measure => have := HK1.out; omega
       case rel => exact ⟨(wrap64 (x7_1 + 1)), TF, H', ⟨TM⟩, ⟨TB⟩⟩
     ·rw [if_neg c7] at H
      have c7b0 : decide (0 < x7_1) = false := decide_eq_false c7
      clear c7
      have H' := Aside0.mk H
      clear H
      have p442 : 0 ≤ (x7_1 : Int) := TD
      have q442 : x7_1 < (l0.length : Int) := TD
      obtain ⟨ad442, e442, hx442_0⟩ := Kd.at_int (Kd.C_below HR0.out HB.out) x7_1 p442 q442
      cases e442
      replace p442 := eq_true p442
      replace q442 := eq_true q442
      go_wp2_with (first | ((with_reducible refine gate_callee (f := 105) rfl ?_); refine goesL_ (some 13) rfl rfl Tryd.func105 KR rfl #[.int .i64 (rd l0 x7_1)] rfl TA ?_; (with_reducible refine (impl_isType.calls k1 (rd l0 x7_1) true _ A5.out).mono ?_); rintro e w14 ⟨rfl, hb⟩; refine ⟨_, rfl, ?_⟩; replace HB := BS hb; clear hb))
      go_roundg k1
      case measure => have := HK1.out; omega
      case rel => exact ⟨(wrap64 (x7_1 + 1)), TF, H', ⟨TM⟩, ⟨TB⟩⟩
    ·replace c6 := Bool.eq_false_iff.mpr c6
     subst c6
     replace H := iff' H
     obtain rfl := Option.some.inj H
     have p442 : 0 ≤ (x7_1 : Int) := TD
     have q442 : x7_1 < (l0.length : Int) := TD
     obtain ⟨ad442, e442, hx442_0⟩ := Kd.at_int (Kd.C_below HR0.out HB.out) x7_1 p442 q442
     cases e442
     replace p442 := eq_true p442
     replace q442 := eq_true q442
     go_wp2_with (first | ((with_reducible refine gate_callee (f := 105) rfl ?_); refine goesL_ (some 13) rfl rfl Tryd.func105 KR rfl #[.int .i64 (rd l0 x7_1)] rfl TA ?_; (with_reducible refine (impl_isType.calls k1 (rd l0 x7_1) false _ A5.out).mono ?_); rintro e w15 ⟨rfl, hb⟩; refine ⟨_, rfl, ?_⟩; replace HB := BS hb; clear hb))
     go_ret
     exact ⟨TE, TB⟩
   ·rw [if_neg c2] at H
    have c2b0 : decide (x7_1 < (l0.length : Int)) = false := decide_eq_false c2
    clear c2
    obtain rfl := Option.some.inj H
    go_wp2
    go_ret
    exact ⟨TE, TB⟩
end
section
/-! ### impl_GoodGaps: function 41 -/
mutual
def impl_GoodGaps.j0 : Nat → ByteArray → List (S_Gap) → Bool → Option (Bool)
 | 0, _, _, _ => none
 | k + 1, x0, x1, x23 => if x23 = true then (some false) else (impl_GoodGaps.l0 k x0 x1 x1 (x1.length : Int) 0)
def impl_GoodGaps.l0 : Nat → ByteArray → List (S_Gap) → List (S_Gap) → Int → Int → Option (Bool)
 | 0, _, _, _, _, _ => none
 | k + 1, x0, x1, x24, x25, x26 => if x26 < x25 then (if 0 ≤ x26 then (if x26 < (x24.length : Int) then ((impl_GoodName.f k ((rd_TGap x24 x26).f0)).bind fun t450 => (if t450 = true then ((impl_isBelow.f ((rd_TGap x24 x26).f0) x0).bind fun t451 => (if t451 = true then (if (x1.length : Int) = 0 then (none) else (if 0 ≤ (Int.tmod (wrap64 (x26 + 1)) (x1.length : Int)) then (if (Int.tmod (wrap64 (x26 + 1)) (x1.length : Int)) < (x1.length : Int) then (if ((rd_TGap x24 x26).f1).toList = ((rd_TGap x1 (Int.tmod (wrap64 (x26 + 1)) (x1.length : Int))).f0).toList then ((impl_areTypes.f k ((rd_TGap x24 x26).f2)).bind fun t453 => (if t453 = true then (if x26 > 0 then (if 0 ≤ (wrap64 (x26 - 1)) then (if (wrap64 (x26 - 1)) < (x1.length : Int) then ((impl_compareNames.f k ((rd_TGap x1 (wrap64 (x26 - 1))).f0) ((rd_TGap x24 x26).f0)).bind fun t455 => (if t455 ≥ 0 then (some false) else (impl_GoodGaps.l0 k x0 x1 x24 x25 (wrap64 (x26 + 1))))) else (none)) else (none)) else (impl_GoodGaps.l0 k x0 x1 x24 x25 (wrap64 (x26 + 1)))) else (some false))) else (some false)) else (none)) else (none))) else (some false))) else (some false))) else (none)) else (none)) else (some true)
end
def impl_GoodGaps.f (k : Nat) (a0 : ByteArray) (l1 : List (S_Gap)) : Option (Bool) := (impl_GoodName.f k a0).bind fun t445 => (if t445 = true then ((impl_within.f (l1.length : Int) 1 40).bind fun t446 => (if t446 = true then (if 0 < (l1.length : Int) then (impl_GoodGaps.j0 k a0 l1 (((rd_TGap l1 0).f0).toList != a0.toList)) else (none)) else (impl_GoodGaps.j0 k a0 l1 true))) else (impl_GoodGaps.j0 k a0 l1 true))
def impl_GoodGaps.T6 : Bool × List (List Nat × List Nat) := (true, [([], []), ([0], [0]), ([1], [1]), ([2], [2]), ([3, 2], [3]), ([4], [4]), ([5, 4], [4, 5]), ([4], [4]), ([6, 7, 4, 4], [4, 6, 7]), ([8, 4], [4, 8]), ([4, 9], [4, 9]), ([10, 8], [10]), ([11], [11]), ([12, 11], [11, 12]), ([11], [11]), ([11], [11]), ([15, 11], [11, 15]), ([11], [11]), ([17, 11], [11, 17]), ([16, 18, 11], [11, 16, 18]), ([14, 19, 11], [11, 14, 19]), ([20, 11], [11, 20]), ([21, 11], [11, 21]), ([13, 22, 11], [11, 13, 22]), ([11, 23], [11, 23]), ([24, 11], [24]), ([25], [25]), ([26, 25], [25, 26]), ([27, 25, 25], [25, 27]), ([28, 25], [25, 28]), ([25, 29], [25, 29]), ([30, 28], [30]), ([31], [31]), ([32, 31], [31, 32]), ([33, 31, 31], [31, 33]), ([34], [34]), ([34], [34]), ([36, 34], [34, 36]), ([35, 37, 34], [34, 35, 37]), ([38, 34], [34, 38]), ([39, 34], [34, 39]), ([34], [34]), ([41, 34], [34, 41]), ([40, 42, 34, 34], [34, 40, 42]), ([43, 34], [34, 43]), ([34, 44, 31], [31, 34, 44]), ([31, 45], [31, 45])])
def impl_GoodGaps.B6 : List Nat := [0, 1, 3, 7, 15, 31, 63, 31, 255, 511, 1023, 2047, 4095, 8191, 4095, 4095, 36863, 4095, 135167, 495615, 1036287, 2084863, 4182015, 8388607, 16777215, 33554431, 67108863, 134217727, 268435455, 536870911, 1073741823, 2147483647, 4294967295, 8589934591, 17179869183, 34359738367, 34359738367, 103079215103, 274877906943, 549755813887, 1099511627775, 34359738367, 2233382993919, 8796093022207, 17592186044415, 35184372088831, 70368744177663]
theorem impl_GoodGaps.tab6 : rtab .any (opsOf Tryd.f41 6) = impl_GoodGaps.T6 := by kernel_rfl
theorem impl_GoodGaps.bits6 : waitsOk impl_GoodGaps.T6.2 impl_GoodGaps.B6 = true := by kernel_rfl
theorem impl_GoodGaps.calls (k : Nat) (a0 : ByteArray) (A1 : Option Addr) (c1 : Nat) (l1 : List (S_Gap)) (r : Bool) (w : World) (hr1 : Kd.C k_Gap w A1 l1.length l1) (hc1 : l1.length ≤ c1) (h : impl_GoodGaps.f k a0 l1 = some r) :
  Calls Tryd.prog 41 #[.string a0, .slice A1 l1.length c1] w fun e w' => e = .returned (.bool r) ∧ Below w.heap.size w w' := by
 have hu44 := Tryd.underlying44
 have HR1 := Aside0.mk hr1
 have HC1 := Aside0.mk hc1
 clear hr1 hc1
 have HB := Aside0.mk (Below.refl w.heap.size w)
 have H : ((impl_GoodName.f k a0).bind fun t445 => (if t445 = true then ((impl_within.f (l1.length : Int) 1 40).bind fun t446 => (if t446 = true then (if 0 < (l1.length : Int) then (impl_GoodGaps.j0 k a0 l1 (((rd_TGap l1 0).f0).toList != a0.toList)) else (none)) else (impl_GoodGaps.j0 k a0 l1 true))) else (impl_GoodGaps.j0 k a0 l1 true))) = some r := h
 clear h
 have HC3 := Aside0.mk H
 clear H
 go_enter Tryd.func41, Tryd.ntmps41
 go_upto_region 1 with (fail)
 go_cut [23] (fun v23 wc => ∃ (kq : Nat) (x23_2 : Bool), v23 = .bool x23_2 ∧ Aside0 (impl_GoodGaps.j0 kq a0 l1 x23_2 = some r) ∧ Aside0 (kq ≤ k) ∧ Aside0 (Below w.heap.size w wc))
 case first =>
  have H := HC3.out
  clear HC3
  obtain ⟨t445, A4, H⟩ := bnd H
  by_cases c5 : t445 = true
  ·subst c5
   replace H := ift H
   obtain ⟨t446, A6, H⟩ := bnd H
   by_cases c7 : t446 = true
   ·subst c7
    replace H := ift H
    obtain ⟨c8, H⟩ := ifn H
    have c8b0 : decide (0 < (l1.length : Int)) = true := decide_eq_true c8
    have c8b1 : decide (0 < l1.length) = true := decide_eq_true (by omega)
    clear c8
    (first | rw [c8b0] | (simp only [i64_w, i32_w]; rw [c8b0]) | rw [c8b1] | skip)
    have H' := Aside0.mk H
    clear H
    go_wp2_with (first | ((with_reducible refine gate_callee (f := 58) rfl ?_); refine goesL_ (some 8) rfl rfl Tryd.func58 KR rfl #[.string a0] rfl TA ?_; (with_reducible refine (impl_GoodName.calls k a0 true _ A4.out).mono ?_); rintro e w9 ⟨rfl, hb⟩; refine ⟨_, rfl, ?_⟩; replace HB := BS hb; clear hb) | (go_at_call 57; (with_reducible refine (impl_within.calls (l1.length : Int) 1 40 true _ A6.out).mono ?_); rintro e w' ⟨rfl, ⟨nd, rfl⟩⟩; have p447 : 0 ≤ (0 : Int) := (by omega); have q447 : 0 < (l1.length : Int) := TD; obtain ⟨ad447, A447_2, c447_2, e447, hx447_0, hx447_1, hx447_2, hl447_2, hi447_2⟩ := at_TGap HR1.out 0 p447 q447; have hw447_2 := hx447_2; cases e447; have qi447 : (0 < l1.length) = True := eq_true (by omega); (try rw [show ((0 : Int)).toNat = 0 from rfl] at hx447_0); (try rw [show 0 * 3 = 0 from rfl] at hx447_0); (try rw [Addr.add_zero'] at hx447_0); (try rw [show ((0 : Int)).toNat = 0 from rfl] at hx447_1); (try rw [show 0 * 3 = 0 from rfl] at hx447_1); (try rw [Addr.add_zero'] at hx447_1); (try rw [show ((0 : Int)).toNat = 0 from rfl] at hx447_2); (try rw [show 0 * 3 = 0 from rfl] at hx447_2); (try rw [Addr.add_zero'] at hx447_2); replace hx447_0 := hBc HB hx447_0; replace hx447_1 := hBc HB hx447_1; replace hx447_2 := hBc HB hx447_2; have HR447_2 := Aside0.mk hi447_2; have HC447_2 := Aside0.mk hl447_2; clear hi447_2 hl447_2; replace p447 := eq_true p447; replace q447 := eq_true q447))
    go_meet
    case rel => exact ⟨_, ((((rd_TGap l1 0).f0).toList != a0.toList)), TF, H', ⟨by first | omega | exact Nat.le_refl _⟩, ⟨TB⟩⟩
   ·replace c7 := Bool.eq_false_iff.mpr c7
    subst c7
    replace H := iff' H
    have H' := Aside0.mk H
    clear H
    go_wp2_with (first | ((with_reducible refine gate_callee (f := 58) rfl ?_); refine goesL_ (some 8) rfl rfl Tryd.func58 KR rfl #[.string a0] rfl TA ?_; (with_reducible refine (impl_GoodName.calls k a0 true _ A4.out).mono ?_); rintro e w10 ⟨rfl, hb⟩; refine ⟨_, rfl, ?_⟩; replace HB := BS hb; clear hb) | (go_at_call 57; (with_reducible refine (impl_within.calls (l1.length : Int) 1 40 false _ A6.out).mono ?_); rintro e w' ⟨rfl, ⟨nd, rfl⟩⟩))
    go_meet
    case rel => exact ⟨_, (true), TF, H', ⟨by first | omega | exact Nat.le_refl _⟩, ⟨TB⟩⟩
  ·replace c5 := Bool.eq_false_iff.mpr c5
   subst c5
   replace H := iff' H
   have H' := Aside0.mk H
   clear H
   go_wp2_with (first | ((with_reducible refine gate_callee (f := 58) rfl ?_); refine goesL_ (some 8) rfl rfl Tryd.func58 KR rfl #[.string a0] rfl TA ?_; (with_reducible refine (impl_GoodName.calls k a0 false _ A4.out).mono ?_); rintro e w11 ⟨rfl, hb⟩; refine ⟨_, rfl, ?_⟩; replace HB := BS hb; clear hb))
   go_meet
   case rel => exact ⟨_, (true), TF, H', ⟨by first | omega | exact Nat.le_refl _⟩, ⟨TB⟩⟩
 case rest =>
  clear HC3
  obtain ⟨kq, x23_2, rfl, HA, HJ2, HB⟩ := hcut
  cases kq with
  | zero => exact absurd HA.out (by simp [impl_GoodGaps.j0])
  | succ kj2 =>
   have H := HA.out
   clear HA
   simp only [impl_GoodGaps.j0] at H
   by_cases c12 : x23_2 = true
   ·subst c12
    replace H := ift H
    obtain rfl := Option.some.inj H
    go_wp2
    go_ret
    exact ⟨TE, TB⟩
   ·replace c12 := Bool.eq_false_iff.mpr c12
    subst c12
    replace H := iff' H
    have H' := Aside0.mk H
    clear H
    go_wp2
    go_loopg [26] kj2 (fun kq v26 w' => ∃ (x26_2 : Int), v26 = .int .i64 x26_2 ∧ Aside0 (impl_GoodGaps.l0 kq a0 l1 l1 (l1.length : Int) x26_2 = some r) ∧ Aside0 (kq ≤ kj2) ∧ Aside0 (Below w.heap.size w w'))
    case atStart => exact ⟨(0), TF, H', ⟨Nat.le_refl _⟩, ⟨TB⟩⟩
    case round =>
     clear H'
     obtain ⟨x26_2, rfl, HA, HK2, HB⟩ := hrel
     cases gk with
     | zero => exact absurd HA.out (by simp [impl_GoodGaps.l0])
     | succ k2 =>
      have H := HA.out
      clear HA
      simp only [impl_GoodGaps.l0] at H
      by_cases c13 : x26_2 < (l1.length : Int)
      ·rw [if_pos c13] at H
       have c13b0 : decide (x26_2 < (l1.length : Int)) = true := decide_eq_true c13
       clear c13
       obtain ⟨c14, H⟩ := ifn H
       have c14b0 : decide (0 ≤ x26_2) = true := decide_eq_true c14
       clear c14
       obtain ⟨c15, H⟩ := ifn H
       have c15b0 : decide (x26_2 < (l1.length : Int)) = true := decide_eq_true c15
       clear c15
       obtain ⟨t450, A16, H⟩ := bnd H
       by_cases c17 : t450 = true
       ·subst c17
        replace H := ift H
        obtain ⟨t451, A18, H⟩ := bnd H
        by_cases c19 : t451 = true
        ·subst c19
         replace H := ift H
         obtain ⟨c20, H⟩ := ifm H
         have c20b0 : ((l1.length : Int) == 0) = false := beq_eq_false_iff_ne.mpr c20
         have c20b1 : ((l1.length : Int) != 0) = true := bne_iff_ne.mpr c20
         have c20b2 : ¬ (l1 = []) := fun h_ => c20 (by rw [h_]; rfl)
         obtain ⟨ji21, hji21⟩ : ∃ j_ : Int, (Int.tmod (wrap64 (x26_2 + 1)) (l1.length : Int)) = j_ := ⟨_, rfl⟩
         replace H : (if 0 ≤ (ji21) then (if (ji21) < (l1.length : Int) then (if ((rd_TGap l1 x26_2).f1).toList = ((rd_TGap l1 (ji21)).f0).toList then ((impl_areTypes.f k2 ((rd_TGap l1 x26_2).f2)).bind fun t453 => (if t453 = true then (if x26_2 > 0 then (if 0 ≤ (wrap64 (x26_2 - 1)) then (if (wrap64 (x26_2 - 1)) < (l1.length : Int) then ((impl_compareNames.f k2 ((rd_TGap l1 (wrap64 (x26_2 - 1))).f0) ((rd_TGap l1 x26_2).f0)).bind fun t455 => (if t455 ≥ 0 then (some false) else (impl_GoodGaps.l0 k2 a0 l1 l1 (l1.length : Int) (wrap64 (x26_2 + 1))))) else (none)) else (none)) else (impl_GoodGaps.l0 k2 a0 l1 l1 (l1.length : Int) (wrap64 (x26_2 + 1)))) else (some false))) else (some false)) else (none)) else (none)) = some r := by first | (rw [hji21] at H; exact H) | (simp only [hji21] at H ⊢; exact H)
         (try rw [hji21] at A16)
         (try rw [hji21] at A18)
         obtain ⟨c22, H⟩ := ifn H
         have c22b0 : decide (0 ≤ (ji21)) = true := decide_eq_true c22
         clear c22
         obtain ⟨c23, H⟩ := ifn H
         have c23b0 : decide ((ji21) < (l1.length : Int)) = true := decide_eq_true c23
         clear c23
         by_cases c24 : ((rd_TGap l1 x26_2).f1).toList = ((rd_TGap l1 (ji21)).f0).toList
         ·rw [if_pos c24] at H
          have c24b0 : (((rd_TGap l1 x26_2).f1).toList == ((rd_TGap l1 (ji21)).f0).toList) = true := beq_iff_eq.mpr c24
          have c24b1 : (((rd_TGap l1 x26_2).f1).toList != ((rd_TGap l1 (ji21)).f0).toList) = false := bne_eq_false_iff_eq.mpr c24
          clear c24
          obtain ⟨t453, A25, H⟩ := bnd H
          by_cases c26 : t453 = true
          ·subst c26
           replace H := ift H
           by_cases c27 : x26_2 > 0
           ·rw [if_pos c27] at H
            have c27b0 : decide (0 < x26_2) = true := decide_eq_true c27
            clear c27
            obtain ⟨ji28, hji28⟩ : ∃ j_ : Int, (wrap64 (x26_2 - 1)) = j_ := ⟨_, rfl⟩
            replace H : (if 0 ≤ (ji28) then (if (ji28) < (l1.length : Int) then ((impl_compareNames.f k2 ((rd_TGap l1 (ji28)).f0) ((rd_TGap l1 x26_2).f0)).bind fun t455 => (if t455 ≥ 0 then (some false) else (impl_GoodGaps.l0 k2 a0 l1 l1 (l1.length : Int) (wrap64 (x26_2 + 1))))) else (none)) else (none)) = some r := by first | (rw [hji28] at H; exact H) | (simp only [hji28] at H ⊢; exact H)
            (try rw [hji28] at A16)
            (try rw [hji28] at A18)
            (try rw [hji28] at A25)
            have hji28w : (IntKind.i64.wrap (x26_2 - 1)) = ji28 := (i64_w _).trans hji28
            obtain ⟨c29, H⟩ := ifn H
            have c29b0 : decide (0 ≤ (ji28)) = true := decide_eq_true c29
            clear c29
            obtain ⟨c30, H⟩ := ifn H
            have c30b0 : decide ((ji28) < (l1.length : Int)) = true := decide_eq_true c30
            clear c30
            obtain ⟨t455, A31, H⟩ := bnd H
            by_cases c32 : t455 ≥ 0
            ·rw [if_pos c32] at H
             have c32b0 : decide (0 ≤ t455) = true := decide_eq_true c32
             clear c32
             obtain rfl := Option.some.inj H
             have p448 : 0 ≤ (x26_2 : Int) := TD
             have q448 : x26_2 < (l1.length : Int) := TD
             obtain ⟨ad448, A448_2, c448_2, e448, hx448_0, hx448_1, hx448_2, hl448_2, hi448_2⟩ := at_TGap HR1.out x26_2 p448 q448
             have hw448_2 := hx448_2
             cases e448
             replace hx448_0 := hBc HB hx448_0
             replace hx448_1 := hBc HB hx448_1
             replace hx448_2 := hBc HB hx448_2
             have HR448_2 := Aside0.mk hi448_2
             have HC448_2 := Aside0.mk hl448_2
             clear hi448_2 hl448_2
             replace p448 := eq_true p448
             replace q448 := eq_true q448
             try go_wp2_with (first | ((with_reducible refine gate_dst (N := 6) rfl ?_); (try (refine gate_guard (by rfl) ?_; dsimp only)); refine bE 6 #[.string (⟨#[]⟩ : ByteArray), .string (⟨#[]⟩ : ByteArray), .slice none 0 0] 44 ?_; intro gb449 hg w33 hbox hb; have BK449 := Aside0.mk (hbox); have GE449 := bG hg; replace HB := BS hb; clear hb hbox hg; have hcz34 := cz3 BK449))
             have n0_ : Aside0 ((((w33.setCell ⟨gb449, 0, none⟩ (.string ((rd_TGap l1 x26_2).f0))).setCell ⟨gb449, 1, none⟩ (.string ((rd_TGap l1 x26_2).f1))).setCell ⟨gb449, 2, none⟩ (.slice A448_2 ((rd_TGap l1 x26_2).f2).length c448_2)).heap[gb449]? = some (.cells #[.string ((rd_TGap l1 x26_2).f0), .string ((rd_TGap l1 x26_2).f1), .slice A448_2 ((rd_TGap l1 x26_2).f2).length c448_2] 44 (0, 0))) := ⟨TS⟩
             have n1_ : Aside0 (Below w.heap.size w (((w33.setCell ⟨gb449, 0, none⟩ (.string ((rd_TGap l1 x26_2).f0))).setCell ⟨gb449, 1, none⟩ (.string ((rd_TGap l1 x26_2).f1))).setCell ⟨gb449, 2, none⟩ (.slice A448_2 ((rd_TGap l1 x26_2).f2).length c448_2))) := ⟨TB⟩
             (try clear BK449)
             (try clear HB)
             generalize (((w33.setCell ⟨gb449, 0, none⟩ (.string ((rd_TGap l1 x26_2).f0))).setCell ⟨gb449, 1, none⟩ (.string ((rd_TGap l1 x26_2).f1))).setCell ⟨gb449, 2, none⟩ (.slice A448_2 ((rd_TGap l1 x26_2).f2).length c448_2)) = w35 at n0_ n1_ ⊢
             have BK449 := n0_
             have HB := n1_
             clear n0_ n1_
             replace BK449 := Aside0.mk (blk_drew BK449.out)
             replace HB := Aside0.mk (below_drew1 HB.out)
             have p452 : 0 ≤ ((ji21) : Int) := TD
             have q452 : (ji21) < (l1.length : Int) := TD
             obtain ⟨ad452, A452_2, c452_2, e452, hx452_0, hx452_1, hx452_2, hl452_2, hi452_2⟩ := at_TGap HR1.out (ji21) p452 q452
             have hw452_2 := hx452_2
             have hw452_1 := hx452_1
             have hw452_0 := hx452_0
             obtain rfl : ad448 = ad452 := (by injection e452)
             replace hx452_0 := hBc HB hx452_0
             replace hx452_1 := hBc HB hx452_1
             replace hx452_2 := hBc HB hx452_2
             have HR452_2 := Aside0.mk hi452_2
             have HC452_2 := Aside0.mk hl452_2
             clear hi452_2 hl452_2
             replace p452 := eq_true p452
             replace q452 := eq_true q452
             have p454 : 0 ≤ ((ji28) : Int) := TD
             have q454 : (ji28) < (l1.length : Int) := TD
             obtain ⟨ad454, A454_2, c454_2, e454, hx454_0, hx454_1, hx454_2, hl454_2, hi454_2⟩ := at_TGap HR1.out (ji28) p454 q454
             have hw454_2 := hx454_2
             have hw454_1 := hx454_1
             have hw454_0 := hx454_0
             obtain rfl : ad448 = ad454 := (by injection e454)
             replace hx454_0 := hBc HB hx454_0
             replace hx454_1 := hBc HB hx454_1
             replace hx454_2 := hBc HB hx454_2
             have HR454_2 := Aside0.mk hi454_2
             have HC454_2 := Aside0.mk hl454_2
             clear hi454_2 hl454_2
             replace p454 := eq_true p454
             replace q454 := eq_true q454
             refine start_ (n := 47) (S := fun w' => w'.cell? ⟨gb449, 0, none⟩ = some (.string ((rd_TGap l1 x26_2).f0)) ∧ w'.cell? ⟨gb449, 1, none⟩ = some (.string ((rd_TGap l1 x26_2).f1)) ∧ w'.cell? ⟨gb449, 2, none⟩ = some (.slice A448_2 ((rd_TGap l1 x26_2).f2).length c448_2) ∧ w'.cell? (ad448.add (((ji21)).toNat * 3)) = some (.string ((rd_TGap l1 (ji21)).f0)) ∧ w'.cell? ⟨(ad448.add (((ji21)).toNat * 3)).block, (ad448.add (((ji21)).toNat * 3)).off + 1, none⟩ = some (.string ((rd_TGap l1 (ji21)).f1)) ∧ w'.cell? ⟨(ad448.add (((ji21)).toNat * 3)).block, (ad448.add (((ji21)).toNat * 3)).off + 2, none⟩ = some (.slice A452_2 ((rd_TGap l1 (ji21)).f2).length c452_2) ∧ w'.cell? (ad448.add (((ji28)).toNat * 3)) = some (.string ((rd_TGap l1 (ji28)).f0)) ∧ w'.cell? ⟨(ad448.add (((ji28)).toNat * 3)).block, (ad448.add (((ji28)).toNat * 3)).off + 1, none⟩ = some (.string ((rd_TGap l1 (ji28)).f1)) ∧ w'.cell? ⟨(ad448.add (((ji28)).toNat * 3)).block, (ad448.add (((ji28)).toNat * 3)).off + 2, none⟩ = some (.slice A454_2 ((rd_TGap l1 (ji28)).f2).length c454_2)) (ds := []) #[false, false, false, false, false, false, false, false, false, false, false, false, false, false, false, false, false, false, false, false, false, false, false, false, false, false, false, false, false, false, false, false, false, false, false, false, false, false, false, false, false, false, false, false, false, false, false] KR rfl rfl ⟨bc 0 BK449, bc 1 BK449, bc 2 BK449, ((HB.out.cell (World.block_lt_of_cell? w _ hw452_0)).trans hw452_0), ((HB.out.cell (World.block_lt_of_cell? w _ hw452_1)).trans hw452_1), ((HB.out.cell (World.block_lt_of_cell? w _ hw452_2)).trans hw452_2), ((HB.out.cell (World.block_lt_of_cell? w _ hw454_0)).trans hw454_0), ((HB.out.cell (World.block_lt_of_cell? w _ hw454_1)).trans hw454_1), ((HB.out.cell (World.block_lt_of_cell? w _ hw454_2)).trans hw454_2)⟩ (fun hHeld => ?_); refine with_tabW impl_GoodGaps.tab6 impl_GoodGaps.bits6 (fun HT_ HW_ => ?_)
             generalize w35.drew = w36 at BK449 HB HR452_2 HR454_2 hx452_0 hx452_1 hx452_2 hx454_0 hx454_1 hx454_2 hHeld ⊢
             refine pA 0 31 (mL 47 1) HT_ rfl rfl ?_
             refine tA 1 32 (mL 47 3) HT_ HW_ hHeld rfl rfl (by rintro w' ⟨s0, s1, s2, s3, s4, s5, s6, s7, s8⟩; go_simp; with_reducible rfl) ?_
             refine one_ (i := 2) (N := some 33) (mL 47 7) rfl rfl (one_of HT_.out KR) (by decide) (fun K hK => ?_)
             refine goes_ Tryd.func58 KR rfl #[.string ((rd_TGap l1 x26_2).f0)] (by rfl) rfl rfl TA ?_
             with_reducible refine (impl_GoodName.calls k2 ((rd_TGap l1 x26_2).f0) true _ A16.out).mono ?_
             rintro e w37 ⟨rfl, hb⟩
             refine ⟨_, rfl, ?_⟩
             replace BK449 := KB BK449 hb
             replace HB := BS hb
             (try clear hb)
             (try clear hb2)
             (try clear hk)
             (try clear hi)
             refine hK.out _ _ ⟨bc 0 BK449, bc 1 BK449, bc 2 BK449, ((HB.out.cell (World.block_lt_of_cell? w _ hw452_0)).trans hw452_0), ((HB.out.cell (World.block_lt_of_cell? w _ hw452_1)).trans hw452_1), ((HB.out.cell (World.block_lt_of_cell? w _ hw452_2)).trans hw452_2), ((HB.out.cell (World.block_lt_of_cell? w _ hw454_0)).trans hw454_0), ((HB.out.cell (World.block_lt_of_cell? w _ hw454_1)).trans hw454_1), ((HB.out.cell (World.block_lt_of_cell? w _ hw454_2)).trans hw454_2)⟩ (fun hHeld => ?_)
             clear hK K
             refine nA ?_
             refine pA 3 34 (mL 47 15) HT_ rfl rfl ?_
             refine pA 4 35 (mL 47 31) HT_ rfl rfl ?_
             refine pA 5 36 (mL 47 63) HT_ rfl rfl ?_
             refine pA 7 38 (mL 47 191) HT_ rfl rfl ?_
             refine tA 6 37 (mL 47 255) HT_ HW_ hHeld rfl rfl (by rintro w' ⟨s0, s1, s2, s3, s4, s5, s6, s7, s8⟩; go_simp; with_reducible rfl) ?_
             refine one_ (i := 8) (N := some 39) (mL 47 511) rfl rfl (one_of HT_.out KR) (by decide) (fun K hK => ?_)
             refine goes_ Tryd.func77 KR rfl #[.string ((rd_TGap l1 x26_2).f0), .string a0] (by rfl) rfl rfl TA ?_
             with_reducible refine (impl_isBelow.calls ((rd_TGap l1 x26_2).f0) a0 true _ A18.out).mono ?_
             rintro e w' ⟨rfl, ⟨nd, rfl⟩⟩
             refine ⟨_, rfl, ?_⟩
             refine hK.out _ _ ⟨bc 0 BK449, bc 1 BK449, bc 2 BK449, ((HB.out.cell (World.block_lt_of_cell? w _ hw452_0)).trans hw452_0), ((HB.out.cell (World.block_lt_of_cell? w _ hw452_1)).trans hw452_1), ((HB.out.cell (World.block_lt_of_cell? w _ hw452_2)).trans hw452_2), ((HB.out.cell (World.block_lt_of_cell? w _ hw454_0)).trans hw454_0), ((HB.out.cell (World.block_lt_of_cell? w _ hw454_1)).trans hw454_1), ((HB.out.cell (World.block_lt_of_cell? w _ hw454_2)).trans hw454_2)⟩ (fun hHeld => ?_)
             clear hK K
             refine nA ?_
             refine pA 9 40 (mL 47 1023) HT_ rfl rfl ?_
             refine pA 10 41 (mL 47 2047) HT_ rfl rfl ?_
             refine pA 11 42 (mL 47 4095) HT_ rfl rfl ?_
             refine pA 12 43 (mL 47 8191) HT_ rfl rfl ?_
             refine pA 14 45 (mL 47 24575) HT_ rfl rfl ?_
             refine pA 15 46 (mL 47 57343) HT_ rfl rfl ?_
             refine pA 16 47 (mL 47 122879) HT_ rfl rfl ?_
             refine pA 17 48 (mL 47 253951) HT_ rfl rfl ?_
             refine pA 18 49 (mL 47 516095) HT_ rfl rfl ?_
             refine pA 19 50 (mL 47 1040383) HT_ rfl rfl ?_
             refine pA 20 51 (mL 47 2088959) HT_ rfl rfl ?_
             refine pA 21 52 (mL 47 4186111) HT_ rfl rfl ?_
             refine tA 13 44 (mL 47 4194303) HT_ HW_ hHeld rfl rfl (by rintro w' ⟨s0, s1, s2, s3, s4, s5, s6, s7, s8⟩; go_simp; with_reducible rfl) ?_
             refine tA 22 53 (mL 47 8388607) HT_ HW_ hHeld rfl rfl (by rintro w' ⟨s0, s1, s2, s3, s4, s5, s6, s7, s8⟩; go_simp; with_reducible rfl) ?_
             refine pA 23 54 (mL 47 16777215) HT_ rfl rfl ?_
             refine pA 24 55 (mL 47 33554431) HT_ rfl rfl ?_
             refine pA 25 56 (mL 47 67108863) HT_ rfl rfl ?_
             refine pA 26 57 (mL 47 134217727) HT_ rfl rfl ?_
             refine tA 27 58 (mL 47 268435455) HT_ HW_ hHeld rfl rfl (by rintro w' ⟨s0, s1, s2, s3, s4, s5, s6, s7, s8⟩; go_simp; with_reducible rfl) ?_
             refine one_ (i := 28) (N := some 59) (mL 47 536870911) rfl rfl (one_of HT_.out KR) (by decide) (fun K hK => ?_)
             refine goes_ Tryd.func78 KR rfl #[.slice A448_2 ((rd_TGap l1 x26_2).f2).length c448_2] (by rfl) rfl rfl TA ?_
             with_reducible refine (impl_areTypes.calls k2 _ _ ((rd_TGap l1 x26_2).f2) true _ ?side1 ?side2 A25.out).mono ?_
             (case side1 => exact CW ((Kd.C_below HR448_2.out TB)))
             (case side2 => exact HC448_2.out)
             rintro e w38 ⟨rfl, hb⟩
             refine ⟨_, rfl, ?_⟩
             replace BK449 := KB BK449 hb
             replace HB := BS hb
             (try clear hb)
             (try clear hb2)
             (try clear hk)
             (try clear hi)
             refine hK.out _ _ ⟨bc 0 BK449, bc 1 BK449, bc 2 BK449, ((HB.out.cell (World.block_lt_of_cell? w _ hw452_0)).trans hw452_0), ((HB.out.cell (World.block_lt_of_cell? w _ hw452_1)).trans hw452_1), ((HB.out.cell (World.block_lt_of_cell? w _ hw452_2)).trans hw452_2), ((HB.out.cell (World.block_lt_of_cell? w _ hw454_0)).trans hw454_0), ((HB.out.cell (World.block_lt_of_cell? w _ hw454_1)).trans hw454_1), ((HB.out.cell (World.block_lt_of_cell? w _ hw454_2)).trans hw454_2)⟩ (fun hHeld => ?_)
             clear hK K
             refine nA ?_
             refine pA 29 60 (mL 47 1073741823) HT_ rfl rfl ?_
             refine pA 30 61 (mL 47 2147483647) HT_ rfl rfl ?_
             refine pA 31 62 (mL 47 4294967295) HT_ rfl rfl ?_
             refine pA 32 63 (mL 47 8589934591) HT_ rfl rfl ?_
             refine pA 33 64 (mL 47 17179869183) HT_ rfl rfl ?_
             refine pA 34 65 (mL 47 34359738367) HT_ rfl rfl ?_
             refine pA 35 66 (mL 47 68719476735) HT_ rfl rfl ?_
             refine pA 36 67 (mL 47 137438953471) HT_ rfl rfl ?_
             refine pA 37 68 (mL 47 274877906943) HT_ rfl rfl ?_
             refine pA 38 69 (mL 47 549755813887) HT_ rfl rfl ?_
             refine pA 39 70 (mL 47 1099511627775) HT_ rfl rfl ?_
             refine pA 41 72 (mL 47 3298534883327) HT_ rfl rfl ?_
             refine tA 40 71 (mL 47 4398046511103) HT_ HW_ hHeld rfl rfl (by rintro w' ⟨s0, s1, s2, s3, s4, s5, s6, s7, s8⟩; go_simp; with_reducible rfl) ?_
             refine tA 42 73 (mL 47 8796093022207) HT_ HW_ hHeld rfl rfl (by rintro w' ⟨s0, s1, s2, s3, s4, s5, s6, s7, s8⟩; go_simp; with_reducible rfl) ?_
             refine one_ (i := 43) (N := some 74) (mL 47 17592186044415) rfl rfl (one_of HT_.out KR) (by decide) (fun K hK => ?_)
             refine goes_ Tryd.func79 KR rfl #[.string ((rd_TGap l1 (ji28)).f0), .string ((rd_TGap l1 x26_2).f0)] (by rfl) rfl rfl (by (try simp only [List.map_toArray, List.map_cons, List.map_nil]); first | done | (simp only [hji28]; rfl) | rfl | (simp only [List.length_drop, List.length_take]; rfl)) ?_
             with_reducible refine (impl_compareNames.calls k2 ((rd_TGap l1 (ji28)).f0) ((rd_TGap l1 x26_2).f0) t455 _ A31.out).mono ?_
             rintro e w39 ⟨rfl, hb⟩
             refine ⟨_, rfl, ?_⟩
             replace BK449 := KB BK449 hb
             replace HB := BS hb
             (try clear hb)
             (try clear hb2)
             (try clear hk)
             (try clear hi)
             refine hK.out _ _ ⟨bc 0 BK449, bc 1 BK449, bc 2 BK449, ((HB.out.cell (World.block_lt_of_cell? w _ hw452_0)).trans hw452_0), ((HB.out.cell (World.block_lt_of_cell? w _ hw452_1)).trans hw452_1), ((HB.out.cell (World.block_lt_of_cell? w _ hw452_2)).trans hw452_2), ((HB.out.cell (World.block_lt_of_cell? w _ hw454_0)).trans hw454_0), ((HB.out.cell (World.block_lt_of_cell? w _ hw454_1)).trans hw454_1), ((HB.out.cell (World.block_lt_of_cell? w _ hw454_2)).trans hw454_2)⟩ (fun hHeld => ?_)
             clear hK K
             refine nA ?_
             refine pA 44 75 (mL 47 35184372088831) HT_ rfl rfl ?_
             refine pA 45 76 (mL 47 70368744177663) HT_ rfl rfl ?_
             refine pA 46 77 (mL 47 140737488355327) HT_ rfl rfl ?_
             refine done_ (done_of HT_.out KR) ?_
             try go_wp2
             go_ret
             exact ⟨by first | rfl | (simp [errW_none, errW_some] <;> rfl) | (simp only [← hji21, ← hji28]; first | rfl | (simp [errW_none, errW_some] <;> rfl)) | (simp [*, errW_none, errW_some] <;> rfl), TB⟩
            ·rw [if_neg c32] at H
             have c32b0 : decide (0 ≤ t455) = false := decide_eq_false c32
             clear c32
             have H' := Aside0.mk H
             clear H
             have p448 : 0 ≤ (x26_2 : Int) := TD
             have q448 : x26_2 < (l1.length : Int) := TD
             obtain ⟨ad448, A448_2, c448_2, e448, hx448_0, hx448_1, hx448_2, hl448_2, hi448_2⟩ := at_TGap HR1.out x26_2 p448 q448
             have hw448_2 := hx448_2
             cases e448
             replace hx448_0 := hBc HB hx448_0
             replace hx448_1 := hBc HB hx448_1
             replace hx448_2 := hBc HB hx448_2
             have HR448_2 := Aside0.mk hi448_2
             have HC448_2 := Aside0.mk hl448_2
             clear hi448_2 hl448_2
             replace p448 := eq_true p448
             replace q448 := eq_true q448
             try go_wp2_with (first | ((with_reducible refine gate_dst (N := 6) rfl ?_); (try (refine gate_guard (by rfl) ?_; dsimp only)); refine bE 6 #[.string (⟨#[]⟩ : ByteArray), .string (⟨#[]⟩ : ByteArray), .slice none 0 0] 44 ?_; intro gb449 hg w40 hbox hb; have BK449 := Aside0.mk (hbox); have GE449 := bG hg; replace HB := BS hb; clear hb hbox hg; have hcz41 := cz3 BK449))
             have n0_ : Aside0 ((((w40.setCell ⟨gb449, 0, none⟩ (.string ((rd_TGap l1 x26_2).f0))).setCell ⟨gb449, 1, none⟩ (.string ((rd_TGap l1 x26_2).f1))).setCell ⟨gb449, 2, none⟩ (.slice A448_2 ((rd_TGap l1 x26_2).f2).length c448_2)).heap[gb449]? = some (.cells #[.string ((rd_TGap l1 x26_2).f0), .string ((rd_TGap l1 x26_2).f1), .slice A448_2 ((rd_TGap l1 x26_2).f2).length c448_2] 44 (0, 0))) := ⟨TS⟩
             have n1_ : Aside0 (Below w.heap.size w (((w40.setCell ⟨gb449, 0, none⟩ (.string ((rd_TGap l1 x26_2).f0))).setCell ⟨gb449, 1, none⟩ (.string ((rd_TGap l1 x26_2).f1))).setCell ⟨gb449, 2, none⟩ (.slice A448_2 ((rd_TGap l1 x26_2).f2).length c448_2))) := ⟨TB⟩
             (try clear BK449)
             (try clear HB)
             generalize (((w40.setCell ⟨gb449, 0, none⟩ (.string ((rd_TGap l1 x26_2).f0))).setCell ⟨gb449, 1, none⟩ (.string ((rd_TGap l1 x26_2).f1))).setCell ⟨gb449, 2, none⟩ (.slice A448_2 ((rd_TGap l1 x26_2).f2).length c448_2)) = w42 at n0_ n1_ ⊢
             have BK449 := n0_
             have HB := n1_
             clear n0_ n1_
             replace BK449 := Aside0.mk (blk_drew BK449.out)
             replace HB := Aside0.mk (below_drew1 HB.out)
             have p452 : 0 ≤ ((ji21) : Int) := TD
             have q452 : (ji21) < (l1.length : Int) := TD
             obtain ⟨ad452, A452_2, c452_2, e452, hx452_0, hx452_1, hx452_2, hl452_2, hi452_2⟩ := at_TGap HR1.out (ji21) p452 q452
             have hw452_2 := hx452_2
             have hw452_1 := hx452_1
             have hw452_0 := hx452_0
             obtain rfl : ad448 = ad452 := (by injection e452)
             replace hx452_0 := hBc HB hx452_0
             replace hx452_1 := hBc HB hx452_1
             replace hx452_2 := hBc HB hx452_2
             have HR452_2 := Aside0.mk hi452_2
             have HC452_2 := Aside0.mk hl452_2
             clear hi452_2 hl452_2
             replace p452 := eq_true p452
             replace q452 := eq_true q452
             have p454 : 0 ≤ ((ji28) : Int) := TD
             have q454 : (ji28) < (l1.length : Int) := TD
             obtain ⟨ad454, A454_2, c454_2, e454, hx454_0, hx454_1, hx454_2, hl454_2, hi454_2⟩ := at_TGap HR1.out (ji28) p454 q454
             have hw454_2 := hx454_2
             have hw454_1 := hx454_1
             have hw454_0 := hx454_0
             obtain rfl : ad448 = ad454 := (by injection e454)
             replace hx454_0 := hBc HB hx454_0
             replace hx454_1 := hBc HB hx454_1
             replace hx454_2 := hBc HB hx454_2
             have HR454_2 := Aside0.mk hi454_2
             have HC454_2 := Aside0.mk hl454_2
             clear hi454_2 hl454_2
             replace p454 := eq_true p454
             replace q454 := eq_true q454
             refine start_ (n := 47) (S := fun w' => w'.cell? ⟨gb449, 0, none⟩ = some (.string ((rd_TGap l1 x26_2).f0)) ∧ w'.cell? ⟨gb449, 1, none⟩ = some (.string ((rd_TGap l1 x26_2).f1)) ∧ w'.cell? ⟨gb449, 2, none⟩ = some (.slice A448_2 ((rd_TGap l1 x26_2).f2).length c448_2) ∧ w'.cell? (ad448.add (((ji21)).toNat * 3)) = some (.string ((rd_TGap l1 (ji21)).f0)) ∧ w'.cell? ⟨(ad448.add (((ji21)).toNat * 3)).block, (ad448.add (((ji21)).toNat * 3)).off + 1, none⟩ = some (.string ((rd_TGap l1 (ji21)).f1)) ∧ w'.cell? ⟨(ad448.add (((ji21)).toNat * 3)).block, (ad448.add (((ji21)).toNat * 3)).off + 2, none⟩ = some (.slice A452_2 ((rd_TGap l1 (ji21)).f2).length c452_2) ∧ w'.cell? (ad448.add (((ji28)).toNat * 3)) = some (.string ((rd_TGap l1 (ji28)).f0)) ∧ w'.cell? ⟨(ad448.add (((ji28)).toNat * 3)).block, (ad448.add (((ji28)).toNat * 3)).off + 1, none⟩ = some (.string ((rd_TGap l1 (ji28)).f1)) ∧ w'.cell? ⟨(ad448.add (((ji28)).toNat * 3)).block, (ad448.add (((ji28)).toNat * 3)).off + 2, none⟩ = some (.slice A454_2 ((rd_TGap l1 (ji28)).f2).length c454_2)) (ds := []) #[false, false, false, false, false, false, false, false, false, false, false, false, false, false, false, false, false, false, false, false, false, false, false, false, false, false, false, false, false, false, false, false, false, false, false, false, false, false, false, false, false, false, false, false, false, false, false] KR rfl rfl ⟨bc 0 BK449, bc 1 BK449, bc 2 BK449, ((HB.out.cell (World.block_lt_of_cell? w _ hw452_0)).trans hw452_0), ((HB.out.cell (World.block_lt_of_cell? w _ hw452_1)).trans hw452_1), ((HB.out.cell (World.block_lt_of_cell? w _ hw452_2)).trans hw452_2), ((HB.out.cell (World.block_lt_of_cell? w _ hw454_0)).trans hw454_0), ((HB.out.cell (World.block_lt_of_cell? w _ hw454_1)).trans hw454_1), ((HB.out.cell (World.block_lt_of_cell? w _ hw454_2)).trans hw454_2)⟩ (fun hHeld => ?_); refine with_tabW impl_GoodGaps.tab6 impl_GoodGaps.bits6 (fun HT_ HW_ => ?_)
             generalize w42.drew = w43 at BK449 HB HR452_2 HR454_2 hx452_0 hx452_1 hx452_2 hx454_0 hx454_1 hx454_2 hHeld ⊢
             refine pA 0 31 (mL 47 1) HT_ rfl rfl ?_
             refine tA 1 32 (mL 47 3) HT_ HW_ hHeld rfl rfl (by rintro w' ⟨s0, s1, s2, s3, s4, s5, s6, s7, s8⟩; go_simp; with_reducible rfl) ?_
             refine one_ (i := 2) (N := some 33) (mL 47 7) rfl rfl (one_of HT_.out KR) (by decide) (fun K hK => ?_)
             refine goes_ Tryd.func58 KR rfl #[.string ((rd_TGap l1 x26_2).f0)] (by rfl) rfl rfl TA ?_
             with_reducible refine (impl_GoodName.calls k2 ((rd_TGap l1 x26_2).f0) true _ A16.out).mono ?_
             rintro e w44 ⟨rfl, hb⟩
             refine ⟨_, rfl, ?_⟩
             replace BK449 := KB BK449 hb
             replace HB := BS hb
             (try clear hb)
             (try clear hb2)
             (try clear hk)
             (try clear hi)
             refine hK.out _ _ ⟨bc 0 BK449, bc 1 BK449, bc 2 BK449, ((HB.out.cell (World.block_lt_of_cell? w _ hw452_0)).trans hw452_0), ((HB.out.cell (World.block_lt_of_cell? w _ hw452_1)).trans hw452_1), ((HB.out.cell (World.block_lt_of_cell? w _ hw452_2)).trans hw452_2), ((HB.out.cell (World.block_lt_of_cell? w _ hw454_0)).trans hw454_0), ((HB.out.cell (World.block_lt_of_cell? w _ hw454_1)).trans hw454_1), ((HB.out.cell (World.block_lt_of_cell? w _ hw454_2)).trans hw454_2)⟩ (fun hHeld => ?_)
             clear hK K
             refine nA ?_
             refine pA 3 34 (mL 47 15) HT_ rfl rfl ?_
             refine pA 4 35 (mL 47 31) HT_ rfl rfl ?_
             refine pA 5 36 (mL 47 63) HT_ rfl rfl ?_
             refine pA 7 38 (mL 47 191) HT_ rfl rfl ?_
             refine tA 6 37 (mL 47 255) HT_ HW_ hHeld rfl rfl (by rintro w' ⟨s0, s1, s2, s3, s4, s5, s6, s7, s8⟩; go_simp; with_reducible rfl) ?_
             refine one_ (i := 8) (N := some 39) (mL 47 511) rfl rfl (one_of HT_.out KR) (by decide) (fun K hK => ?_)
             refine goes_ Tryd.func77 KR rfl #[.string ((rd_TGap l1 x26_2).f0), .string a0] (by rfl) rfl rfl TA ?_
             with_reducible refine (impl_isBelow.calls ((rd_TGap l1 x26_2).f0) a0 true _ A18.out).mono ?_
             rintro e w' ⟨rfl, ⟨nd, rfl⟩⟩
             refine ⟨_, rfl, ?_⟩
             refine hK.out _ _ ⟨bc 0 BK449, bc 1 BK449, bc 2 BK449, ((HB.out.cell (World.block_lt_of_cell? w _ hw452_0)).trans hw452_0), ((HB.out.cell (World.block_lt_of_cell? w _ hw452_1)).trans hw452_1), ((HB.out.cell (World.block_lt_of_cell? w _ hw452_2)).trans hw452_2), ((HB.out.cell (World.block_lt_of_cell? w _ hw454_0)).trans hw454_0), ((HB.out.cell (World.block_lt_of_cell? w _ hw454_1)).trans hw454_1), ((HB.out.cell (World.block_lt_of_cell? w _ hw454_2)).trans hw454_2)⟩ (fun hHeld => ?_)
             clear hK K
             refine nA ?_
             refine pA 9 40 (mL 47 1023) HT_ rfl rfl ?_
             refine pA 10 41 (mL 47 2047) HT_ rfl rfl ?_
             refine pA 11 42 (mL 47 4095) HT_ rfl rfl ?_
             refine pA 12 43 (mL 47 8191) HT_ rfl rfl ?_
             refine pA 14 45 (mL 47 24575) HT_ rfl rfl ?_
             refine pA 15 46 (mL 47 57343) HT_ rfl rfl ?_
             refine pA 16 47 (mL 47 122879) HT_ rfl rfl ?_
             refine pA 17 48 (mL 47 253951) HT_ rfl rfl ?_
             refine pA 18 49 (mL 47 516095) HT_ rfl rfl ?_
             refine pA 19 50 (mL 47 1040383) HT_ rfl rfl ?_
             refine pA 20 51 (mL 47 2088959) HT_ rfl rfl ?_
             refine pA 21 52 (mL 47 4186111) HT_ rfl rfl ?_
             refine tA 13 44 (mL 47 4194303) HT_ HW_ hHeld rfl rfl (by rintro w' ⟨s0, s1, s2, s3, s4, s5, s6, s7, s8⟩; go_simp; with_reducible rfl) ?_
             refine tA 22 53 (mL 47 8388607) HT_ HW_ hHeld rfl rfl (by rintro w' ⟨s0, s1, s2, s3, s4, s5, s6, s7, s8⟩; go_simp; with_reducible rfl) ?_
             refine pA 23 54 (mL 47 16777215) HT_ rfl rfl ?_
             refine pA 24 55 (mL 47 33554431) HT_ rfl rfl ?_
             refine pA 25 56 (mL 47 67108863) HT_ rfl rfl ?_
             refine pA 26 57 (mL 47 134217727) HT_ rfl rfl ?_
             refine tA 27 58 (mL 47 268435455) HT_ HW_ hHeld rfl rfl (by rintro w' ⟨s0, s1, s2, s3, s4, s5, s6, s7, s8⟩; go_simp; with_reducible rfl) ?_
             refine one_ (i := 28) (N := some 59) (mL 47 536870911) rfl rfl (one_of HT_.out KR) (by decide) (fun K hK => ?_)
             refine goes_ Tryd.func78 KR rfl #[.slice A448_2 ((rd_TGap l1 x26_2).f2).length c448_2] (by rfl) rfl rfl TA ?_
             with_reducible refine (impl_areTypes.calls k2 _ _ ((rd_TGap l1 x26_2).f2) true _ ?side1 ?side2 A25.out).mono ?_
             (case side1 => exact CW ((Kd.C_below HR448_2.out TB)))
             (case side2 => exact HC448_2.out)
             rintro e w45 ⟨rfl, hb⟩
             refine ⟨_, rfl, ?_⟩
             replace BK449 := KB BK449 hb
             replace HB := BS hb
             (try clear hb)
             (try clear hb2)
             (try clear hk)
             (try clear hi)
             refine hK.out _ _ ⟨bc 0 BK449, bc 1 BK449, bc 2 BK449, ((HB.out.cell (World.block_lt_of_cell? w _ hw452_0)).trans hw452_0), ((HB.out.cell (World.block_lt_of_cell? w _ hw452_1)).trans hw452_1), ((HB.out.cell (World.block_lt_of_cell? w _ hw452_2)).trans hw452_2), ((HB.out.cell (World.block_lt_of_cell? w _ hw454_0)).trans hw454_0), ((HB.out.cell (World.block_lt_of_cell? w _ hw454_1)).trans hw454_1), ((HB.out.cell (World.block_lt_of_cell? w _ hw454_2)).trans hw454_2)⟩ (fun hHeld => ?_)
             clear hK K
             refine nA ?_
             refine pA 29 60 (mL 47 1073741823) HT_ rfl rfl ?_
             refine pA 30 61 (mL 47 2147483647) HT_ rfl rfl ?_
             refine pA 31 62 (mL 47 4294967295) HT_ rfl rfl ?_
             refine pA 32 63 (mL 47 8589934591) HT_ rfl rfl ?_
             refine pA 33 64 (mL 47 17179869183) HT_ rfl rfl ?_
             refine pA 34 65 (mL 47 34359738367) HT_ rfl rfl ?_
             refine pA 35 66 (mL 47 68719476735) HT_ rfl rfl ?_
             refine pA 36 67 (mL 47 137438953471) HT_ rfl rfl ?_
             refine pA 37 68 (mL 47 274877906943) HT_ rfl rfl ?_
             refine pA 38 69 (mL 47 549755813887) HT_ rfl rfl ?_
             refine pA 39 70 (mL 47 1099511627775) HT_ rfl rfl ?_
             refine pA 41 72 (mL 47 3298534883327) HT_ rfl rfl ?_
             refine tA 40 71 (mL 47 4398046511103) HT_ HW_ hHeld rfl rfl (by rintro w' ⟨s0, s1, s2, s3, s4, s5, s6, s7, s8⟩; go_simp; with_reducible rfl) ?_
             refine tA 42 73 (mL 47 8796093022207) HT_ HW_ hHeld rfl rfl (by rintro w' ⟨s0, s1, s2, s3, s4, s5, s6, s7, s8⟩; go_simp; with_reducible rfl) ?_
             refine one_ (i := 43) (N := some 74) (mL 47 17592186044415) rfl rfl (one_of HT_.out KR) (by decide) (fun K hK => ?_)
             refine goes_ Tryd.func79 KR rfl #[.string ((rd_TGap l1 (ji28)).f0), .string ((rd_TGap l1 x26_2).f0)] (by rfl) rfl rfl (by (try simp only [List.map_toArray, List.map_cons, List.map_nil]); first | done | (simp only [hji28]; rfl) | rfl | (simp only [List.length_drop, List.length_take]; rfl)) ?_
             with_reducible refine (impl_compareNames.calls k2 ((rd_TGap l1 (ji28)).f0) ((rd_TGap l1 x26_2).f0) t455 _ A31.out).mono ?_
             rintro e w46 ⟨rfl, hb⟩
             refine ⟨_, rfl, ?_⟩
             replace BK449 := KB BK449 hb
             replace HB := BS hb
             (try clear hb)
             (try clear hb2)
             (try clear hk)
             (try clear hi)
             refine hK.out _ _ ⟨bc 0 BK449, bc 1 BK449, bc 2 BK449, ((HB.out.cell (World.block_lt_of_cell? w _ hw452_0)).trans hw452_0), ((HB.out.cell (World.block_lt_of_cell? w _ hw452_1)).trans hw452_1), ((HB.out.cell (World.block_lt_of_cell? w _ hw452_2)).trans hw452_2), ((HB.out.cell (World.block_lt_of_cell? w _ hw454_0)).trans hw454_0), ((HB.out.cell (World.block_lt_of_cell? w _ hw454_1)).trans hw454_1), ((HB.out.cell (World.block_lt_of_cell? w _ hw454_2)).trans hw454_2)⟩ (fun hHeld => ?_)
             clear hK K
             refine nA ?_
             refine pA 44 75 (mL 47 35184372088831) HT_ rfl rfl ?_
             refine pA 45 76 (mL 47 70368744177663) HT_ rfl rfl ?_
             refine pA 46 77 (mL 47 140737488355327) HT_ rfl rfl ?_
             refine done_ (done_of HT_.out KR) ?_
             try go_wp2
             go_roundg k2
             case measure => have := HJ2.out; have := HK2.out; omega
             case rel => exact ⟨(wrap64 (x26_2 + 1)), TF, H', ⟨by have := HJ2.out; have := HK2.out; omega⟩, ⟨TB⟩⟩
           ·rw [if_neg c27] at H
            have c27b0 : decide (0 < x26_2) = false := decide_eq_false c27
            clear c27
            have H' := Aside0.mk H
            clear H
            have p448 : 0 ≤ (x26_2 : Int) := TD
            have q448 : x26_2 < (l1.length : Int) := TD
            obtain ⟨ad448, A448_2, c448_2, e448, hx448_0, hx448_1, hx448_2, hl448_2, hi448_2⟩ := at_TGap HR1.out x26_2 p448 q448
            have hw448_2 := hx448_2
            cases e448
            replace hx448_0 := hBc HB hx448_0
            replace hx448_1 := hBc HB hx448_1
            replace hx448_2 := hBc HB hx448_2
            have HR448_2 := Aside0.mk hi448_2
            have HC448_2 := Aside0.mk hl448_2
            clear hi448_2 hl448_2
            replace p448 := eq_true p448
            replace q448 := eq_true q448
            try go_wp2_with (first | ((with_reducible refine gate_dst (N := 6) rfl ?_); (try (refine gate_guard (by rfl) ?_; dsimp only)); refine bE 6 #[.string (⟨#[]⟩ : ByteArray), .string (⟨#[]⟩ : ByteArray), .slice none 0 0] 44 ?_; intro gb449 hg w47 hbox hb; have BK449 := Aside0.mk (hbox); have GE449 := bG hg; replace HB := BS hb; clear hb hbox hg; have hcz48 := cz3 BK449))
            have n0_ : Aside0 ((((w47.setCell ⟨gb449, 0, none⟩ (.string ((rd_TGap l1 x26_2).f0))).setCell ⟨gb449, 1, none⟩ (.string ((rd_TGap l1 x26_2).f1))).setCell ⟨gb449, 2, none⟩ (.slice A448_2 ((rd_TGap l1 x26_2).f2).length c448_2)).heap[gb449]? = some (.cells #[.string ((rd_TGap l1 x26_2).f0), .string ((rd_TGap l1 x26_2).f1), .slice A448_2 ((rd_TGap l1 x26_2).f2).length c448_2] 44 (0, 0))) := ⟨TS⟩
            have n1_ : Aside0 (Below w.heap.size w (((w47.setCell ⟨gb449, 0, none⟩ (.string ((rd_TGap l1 x26_2).f0))).setCell ⟨gb449, 1, none⟩ (.string ((rd_TGap l1 x26_2).f1))).setCell ⟨gb449, 2, none⟩ (.slice A448_2 ((rd_TGap l1 x26_2).f2).length c448_2))) := ⟨TB⟩
            (try clear BK449)
            (try clear HB)
            generalize (((w47.setCell ⟨gb449, 0, none⟩ (.string ((rd_TGap l1 x26_2).f0))).setCell ⟨gb449, 1, none⟩ (.string ((rd_TGap l1 x26_2).f1))).setCell ⟨gb449, 2, none⟩ (.slice A448_2 ((rd_TGap l1 x26_2).f2).length c448_2)) = w49 at n0_ n1_ ⊢
            have BK449 := n0_
            have HB := n1_
            clear n0_ n1_
            replace BK449 := Aside0.mk (blk_drew BK449.out)
            replace HB := Aside0.mk (below_drew1 HB.out)
            have p452 : 0 ≤ ((ji21) : Int) := TD
            have q452 : (ji21) < (l1.length : Int) := TD
            obtain ⟨ad452, A452_2, c452_2, e452, hx452_0, hx452_1, hx452_2, hl452_2, hi452_2⟩ := at_TGap HR1.out (ji21) p452 q452
            have hw452_2 := hx452_2
            have hw452_1 := hx452_1
            have hw452_0 := hx452_0
            obtain rfl : ad448 = ad452 := (by injection e452)
            replace hx452_0 := hBc HB hx452_0
            replace hx452_1 := hBc HB hx452_1
            replace hx452_2 := hBc HB hx452_2
            have HR452_2 := Aside0.mk hi452_2
            have HC452_2 := Aside0.mk hl452_2
            clear hi452_2 hl452_2
            replace p452 := eq_true p452
            replace q452 := eq_true q452
            refine start_ (n := 47) (S := fun w' => w'.cell? ⟨gb449, 0, none⟩ = some (.string ((rd_TGap l1 x26_2).f0)) ∧ w'.cell? ⟨gb449, 1, none⟩ = some (.string ((rd_TGap l1 x26_2).f1)) ∧ w'.cell? ⟨gb449, 2, none⟩ = some (.slice A448_2 ((rd_TGap l1 x26_2).f2).length c448_2) ∧ w'.cell? (ad448.add (((ji21)).toNat * 3)) = some (.string ((rd_TGap l1 (ji21)).f0)) ∧ w'.cell? ⟨(ad448.add (((ji21)).toNat * 3)).block, (ad448.add (((ji21)).toNat * 3)).off + 1, none⟩ = some (.string ((rd_TGap l1 (ji21)).f1)) ∧ w'.cell? ⟨(ad448.add (((ji21)).toNat * 3)).block, (ad448.add (((ji21)).toNat * 3)).off + 2, none⟩ = some (.slice A452_2 ((rd_TGap l1 (ji21)).f2).length c452_2)) (ds := []) #[false, false, false, false, false, false, false, false, false, false, false, false, false, false, false, false, false, false, false, false, false, false, false, false, false, false, false, false, false, false, false, false, false, false, false, false, false, false, false, false, false, false, false, false, false, false, false] KR rfl rfl ⟨bc 0 BK449, bc 1 BK449, bc 2 BK449, ((HB.out.cell (World.block_lt_of_cell? w _ hw452_0)).trans hw452_0), ((HB.out.cell (World.block_lt_of_cell? w _ hw452_1)).trans hw452_1), ((HB.out.cell (World.block_lt_of_cell? w _ hw452_2)).trans hw452_2)⟩ (fun hHeld => ?_); refine with_tabW impl_GoodGaps.tab6 impl_GoodGaps.bits6 (fun HT_ HW_ => ?_)
            generalize w49.drew = w50 at BK449 HB HR452_2 hx452_0 hx452_1 hx452_2 hHeld ⊢
            refine pA 0 31 (mL 47 1) HT_ rfl rfl ?_
            refine tA 1 32 (mL 47 3) HT_ HW_ hHeld rfl rfl (by rintro w' ⟨s0, s1, s2, s3, s4, s5⟩; go_simp; with_reducible rfl) ?_
            refine one_ (i := 2) (N := some 33) (mL 47 7) rfl rfl (one_of HT_.out KR) (by decide) (fun K hK => ?_)
            refine goes_ Tryd.func58 KR rfl #[.string ((rd_TGap l1 x26_2).f0)] (by rfl) rfl rfl TA ?_
            with_reducible refine (impl_GoodName.calls k2 ((rd_TGap l1 x26_2).f0) true _ A16.out).mono ?_
            rintro e w51 ⟨rfl, hb⟩
            refine ⟨_, rfl, ?_⟩
            replace BK449 := KB BK449 hb
            replace HB := BS hb
            (try clear hb)
            (try clear hb2)
            (try clear hk)
            (try clear hi)
            refine hK.out _ _ ⟨bc 0 BK449, bc 1 BK449, bc 2 BK449, ((HB.out.cell (World.block_lt_of_cell? w _ hw452_0)).trans hw452_0), ((HB.out.cell (World.block_lt_of_cell? w _ hw452_1)).trans hw452_1), ((HB.out.cell (World.block_lt_of_cell? w _ hw452_2)).trans hw452_2)⟩ (fun hHeld => ?_)
            clear hK K
            refine nA ?_
            refine pA 3 34 (mL 47 15) HT_ rfl rfl ?_
            refine pA 4 35 (mL 47 31) HT_ rfl rfl ?_
            refine pA 5 36 (mL 47 63) HT_ rfl rfl ?_
            refine pA 7 38 (mL 47 191) HT_ rfl rfl ?_
            refine tA 6 37 (mL 47 255) HT_ HW_ hHeld rfl rfl (by rintro w' ⟨s0, s1, s2, s3, s4, s5⟩; go_simp; with_reducible rfl) ?_
            refine one_ (i := 8) (N := some 39) (mL 47 511) rfl rfl (one_of HT_.out KR) (by decide) (fun K hK => ?_)
            refine goes_ Tryd.func77 KR rfl #[.string ((rd_TGap l1 x26_2).f0), .string a0] (by rfl) rfl rfl TA ?_
            with_reducible refine (impl_isBelow.calls ((rd_TGap l1 x26_2).f0) a0 true _ A18.out).mono ?_
            rintro e w' ⟨rfl, ⟨nd, rfl⟩⟩
            refine ⟨_, rfl, ?_⟩
            refine hK.out _ _ ⟨bc 0 BK449, bc 1 BK449, bc 2 BK449, ((HB.out.cell (World.block_lt_of_cell? w _ hw452_0)).trans hw452_0), ((HB.out.cell (World.block_lt_of_cell? w _ hw452_1)).trans hw452_1), ((HB.out.cell (World.block_lt_of_cell? w _ hw452_2)).trans hw452_2)⟩ (fun hHeld => ?_)
            clear hK K
            refine nA ?_
            refine pA 9 40 (mL 47 1023) HT_ rfl rfl ?_
            refine pA 10 41 (mL 47 2047) HT_ rfl rfl ?_
            refine pA 11 42 (mL 47 4095) HT_ rfl rfl ?_
            refine pA 12 43 (mL 47 8191) HT_ rfl rfl ?_
            refine pA 14 45 (mL 47 24575) HT_ rfl rfl ?_
            refine pA 15 46 (mL 47 57343) HT_ rfl rfl ?_
            refine pA 16 47 (mL 47 122879) HT_ rfl rfl ?_
            refine pA 17 48 (mL 47 253951) HT_ rfl rfl ?_
            refine pA 18 49 (mL 47 516095) HT_ rfl rfl ?_
            refine pA 19 50 (mL 47 1040383) HT_ rfl rfl ?_
            refine pA 20 51 (mL 47 2088959) HT_ rfl rfl ?_
            refine pA 21 52 (mL 47 4186111) HT_ rfl rfl ?_
            refine tA 13 44 (mL 47 4194303) HT_ HW_ hHeld rfl rfl (by rintro w' ⟨s0, s1, s2, s3, s4, s5⟩; go_simp; with_reducible rfl) ?_
            refine tA 22 53 (mL 47 8388607) HT_ HW_ hHeld rfl rfl (by rintro w' ⟨s0, s1, s2, s3, s4, s5⟩; go_simp; with_reducible rfl) ?_
            refine pA 23 54 (mL 47 16777215) HT_ rfl rfl ?_
            refine pA 24 55 (mL 47 33554431) HT_ rfl rfl ?_
            refine pA 25 56 (mL 47 67108863) HT_ rfl rfl ?_
            refine pA 26 57 (mL 47 134217727) HT_ rfl rfl ?_
            refine tA 27 58 (mL 47 268435455) HT_ HW_ hHeld rfl rfl (by rintro w' ⟨s0, s1, s2, s3, s4, s5⟩; go_simp; with_reducible rfl) ?_
            refine one_ (i := 28) (N := some 59) (mL 47 536870911) rfl rfl (one_of HT_.out KR) (by decide) (fun K hK => ?_)
            refine goes_ Tryd.func78 KR rfl #[.slice A448_2 ((rd_TGap l1 x26_2).f2).length c448_2] (by rfl) rfl rfl TA ?_
            with_reducible refine (impl_areTypes.calls k2 _ _ ((rd_TGap l1 x26_2).f2) true _ ?side1 ?side2 A25.out).mono ?_
            (case side1 => exact CW ((Kd.C_below HR448_2.out TB)))
            (case side2 => exact HC448_2.out)
            rintro e w52 ⟨rfl, hb⟩
            refine ⟨_, rfl, ?_⟩
            replace BK449 := KB BK449 hb
            replace HB := BS hb
            (try clear hb)
            (try clear hb2)
            (try clear hk)
            (try clear hi)
            refine hK.out _ _ ⟨bc 0 BK449, bc 1 BK449, bc 2 BK449, ((HB.out.cell (World.block_lt_of_cell? w _ hw452_0)).trans hw452_0), ((HB.out.cell (World.block_lt_of_cell? w _ hw452_1)).trans hw452_1), ((HB.out.cell (World.block_lt_of_cell? w _ hw452_2)).trans hw452_2)⟩ (fun hHeld => ?_)
            clear hK K
            refine nA ?_
            refine pA 29 60 (mL 47 1073741823) HT_ rfl rfl ?_
            refine pA 30 61 (mL 47 2147483647) HT_ rfl rfl ?_
            refine pA 31 62 (mL 47 4294967295) HT_ rfl rfl ?_
            refine pA 32 63 (mL 47 8589934591) HT_ rfl rfl ?_
            refine pA 33 64 (mL 47 17179869183) HT_ rfl rfl ?_
            refine pA 34 65 (mL 47 34359738367) HT_ rfl rfl ?_
            refine pU 35 66 (mL 47 68719476735) HT_ rfl rfl ?_
            refine pU 36 67 (mL 47 137438953471) HT_ rfl rfl ?_
            refine pU 37 68 (mL 47 274877906943) HT_ rfl rfl ?_
            refine pU 38 69 (mL 47 549755813887) HT_ rfl rfl ?_
            refine pU 39 70 (mL 47 1099511627775) HT_ rfl rfl ?_
            refine pU 40 71 (mL 47 2199023255551) HT_ rfl rfl ?_
            refine pU 41 72 (mL 47 4398046511103) HT_ rfl rfl ?_
            refine pU 42 73 (mL 47 8796093022207) HT_ rfl rfl ?_
            refine pU 43 74 (mL 47 17592186044415) HT_ rfl rfl ?_
            refine pU 44 75 (mL 47 35184372088831) HT_ rfl rfl ?_
            refine pA 45 76 (mL 47 70368744177663) HT_ rfl rfl ?_
            refine pA 46 77 (mL 47 140737488355327) HT_ rfl rfl ?_
            refine done_ (done_of HT_.out KR) ?_
            try go_wp2
            go_roundg k2
            case measure => have := HJ2.out; have := HK2.out; omega
            case rel => exact ⟨(wrap64 (x26_2 + 1)), TF, H', ⟨by have := HJ2.out; have := HK2.out; omega⟩, ⟨TB⟩⟩
          ·replace c26 := Bool.eq_false_iff.mpr c26
           subst c26
           replace H := iff' H
           obtain rfl := Option.some.inj H
           have p448 : 0 ≤ (x26_2 : Int) := TD
           have q448 : x26_2 < (l1.length : Int) := TD
           obtain ⟨ad448, A448_2, c448_2, e448, hx448_0, hx448_1, hx448_2, hl448_2, hi448_2⟩ := at_TGap HR1.out x26_2 p448 q448
           have hw448_2 := hx448_2
           cases e448
           replace hx448_0 := hBc HB hx448_0
           replace hx448_1 := hBc HB hx448_1
           replace hx448_2 := hBc HB hx448_2
           have HR448_2 := Aside0.mk hi448_2
           have HC448_2 := Aside0.mk hl448_2
           clear hi448_2 hl448_2
           replace p448 := eq_true p448
           replace q448 := eq_true q448
           try go_wp2_with (first | ((with_reducible refine gate_dst (N := 6) rfl ?_); (try (refine gate_guard (by rfl) ?_; dsimp only)); refine bE 6 #[.string (⟨#[]⟩ : ByteArray), .string (⟨#[]⟩ : ByteArray), .slice none 0 0] 44 ?_; intro gb449 hg w53 hbox hb; have BK449 := Aside0.mk (hbox); have GE449 := bG hg; replace HB := BS hb; clear hb hbox hg; have hcz54 := cz3 BK449))
           have n0_ : Aside0 ((((w53.setCell ⟨gb449, 0, none⟩ (.string ((rd_TGap l1 x26_2).f0))).setCell ⟨gb449, 1, none⟩ (.string ((rd_TGap l1 x26_2).f1))).setCell ⟨gb449, 2, none⟩ (.slice A448_2 ((rd_TGap l1 x26_2).f2).length c448_2)).heap[gb449]? = some (.cells #[.string ((rd_TGap l1 x26_2).f0), .string ((rd_TGap l1 x26_2).f1), .slice A448_2 ((rd_TGap l1 x26_2).f2).length c448_2] 44 (0, 0))) := ⟨TS⟩
           have n1_ : Aside0 (Below w.heap.size w (((w53.setCell ⟨gb449, 0, none⟩ (.string ((rd_TGap l1 x26_2).f0))).setCell ⟨gb449, 1, none⟩ (.string ((rd_TGap l1 x26_2).f1))).setCell ⟨gb449, 2, none⟩ (.slice A448_2 ((rd_TGap l1 x26_2).f2).length c448_2))) := ⟨TB⟩
           (try clear BK449)
           (try clear HB)
           generalize (((w53.setCell ⟨gb449, 0, none⟩ (.string ((rd_TGap l1 x26_2).f0))).setCell ⟨gb449, 1, none⟩ (.string ((rd_TGap l1 x26_2).f1))).setCell ⟨gb449, 2, none⟩ (.slice A448_2 ((rd_TGap l1 x26_2).f2).length c448_2)) = w55 at n0_ n1_ ⊢
           have BK449 := n0_
           have HB := n1_
           clear n0_ n1_
           replace BK449 := Aside0.mk (blk_drew BK449.out)
           replace HB := Aside0.mk (below_drew1 HB.out)
           have p452 : 0 ≤ ((ji21) : Int) := TD
           have q452 : (ji21) < (l1.length : Int) := TD
           obtain ⟨ad452, A452_2, c452_2, e452, hx452_0, hx452_1, hx452_2, hl452_2, hi452_2⟩ := at_TGap HR1.out (ji21) p452 q452
           have hw452_2 := hx452_2
           have hw452_1 := hx452_1
           have hw452_0 := hx452_0
           obtain rfl : ad448 = ad452 := (by injection e452)
           replace hx452_0 := hBc HB hx452_0
           replace hx452_1 := hBc HB hx452_1
           replace hx452_2 := hBc HB hx452_2
           have HR452_2 := Aside0.mk hi452_2
           have HC452_2 := Aside0.mk hl452_2
           clear hi452_2 hl452_2
           replace p452 := eq_true p452
           replace q452 := eq_true q452
           refine start_ (n := 47) (S := fun w' => w'.cell? ⟨gb449, 0, none⟩ = some (.string ((rd_TGap l1 x26_2).f0)) ∧ w'.cell? ⟨gb449, 1, none⟩ = some (.string ((rd_TGap l1 x26_2).f1)) ∧ w'.cell? ⟨gb449, 2, none⟩ = some (.slice A448_2 ((rd_TGap l1 x26_2).f2).length c448_2) ∧ w'.cell? (ad448.add (((ji21)).toNat * 3)) = some (.string ((rd_TGap l1 (ji21)).f0)) ∧ w'.cell? ⟨(ad448.add (((ji21)).toNat * 3)).block, (ad448.add (((ji21)).toNat * 3)).off + 1, none⟩ = some (.string ((rd_TGap l1 (ji21)).f1)) ∧ w'.cell? ⟨(ad448.add (((ji21)).toNat * 3)).block, (ad448.add (((ji21)).toNat * 3)).off + 2, none⟩ = some (.slice A452_2 ((rd_TGap l1 (ji21)).f2).length c452_2)) (ds := []) #[false, false, false, false, false, false, false, false, false, false, false, false, false, false, false, false, false, false, false, false, false, false, false, false, false, false, false, false, false, false, false, false, false, false, false, false, false, false, false, false, false, false, false, false, false, false, false] KR rfl rfl ⟨bc 0 BK449, bc 1 BK449, bc 2 BK449, ((HB.out.cell (World.block_lt_of_cell? w _ hw452_0)).trans hw452_0), ((HB.out.cell (World.block_lt_of_cell? w _ hw452_1)).trans hw452_1), ((HB.out.cell (World.block_lt_of_cell? w _ hw452_2)).trans hw452_2)⟩ (fun hHeld => ?_); refine with_tabW impl_GoodGaps.tab6 impl_GoodGaps.bits6 (fun HT_ HW_ => ?_)
           generalize w55.drew = w56 at BK449 HB HR452_2 hx452_0 hx452_1 hx452_2 hHeld ⊢
           refine pA 0 31 (mL 47 1) HT_ rfl rfl ?_
           refine tA 1 32 (mL 47 3) HT_ HW_ hHeld rfl rfl (by rintro w' ⟨s0, s1, s2, s3, s4, s5⟩; go_simp; with_reducible rfl) ?_
           refine one_ (i := 2) (N := some 33) (mL 47 7) rfl rfl (one_of HT_.out KR) (by decide) (fun K hK => ?_)
           refine goes_ Tryd.func58 KR rfl #[.string ((rd_TGap l1 x26_2).f0)] (by rfl) rfl rfl TA ?_
           with_reducible refine (impl_GoodName.calls k2 ((rd_TGap l1 x26_2).f0) true _ A16.out).mono ?_
           rintro e w57 ⟨rfl, hb⟩
           refine ⟨_, rfl, ?_⟩
           replace BK449 := KB BK449 hb
           replace HB := BS hb
           (try clear hb)
           (try clear hb2)
           (try clear hk)
           (try clear hi)
           refine hK.out _ _ ⟨bc 0 BK449, bc 1 BK449, bc 2 BK449, ((HB.out.cell (World.block_lt_of_cell? w _ hw452_0)).trans hw452_0), ((HB.out.cell (World.block_lt_of_cell? w _ hw452_1)).trans hw452_1), ((HB.out.cell (World.block_lt_of_cell? w _ hw452_2)).trans hw452_2)⟩ (fun hHeld => ?_)
           clear hK K
           refine nA ?_
           refine pA 3 34 (mL 47 15) HT_ rfl rfl ?_
           refine pA 4 35 (mL 47 31) HT_ rfl rfl ?_
           refine pA 5 36 (mL 47 63) HT_ rfl rfl ?_
           refine pA 7 38 (mL 47 191) HT_ rfl rfl ?_
           refine tA 6 37 (mL 47 255) HT_ HW_ hHeld rfl rfl (by rintro w' ⟨s0, s1, s2, s3, s4, s5⟩; go_simp; with_reducible rfl) ?_
           refine one_ (i := 8) (N := some 39) (mL 47 511) rfl rfl (one_of HT_.out KR) (by decide) (fun K hK => ?_)
           refine goes_ Tryd.func77 KR rfl #[.string ((rd_TGap l1 x26_2).f0), .string a0] (by rfl) rfl rfl TA ?_
           with_reducible refine (impl_isBelow.calls ((rd_TGap l1 x26_2).f0) a0 true _ A18.out).mono ?_
           rintro e w' ⟨rfl, ⟨nd, rfl⟩⟩
           refine ⟨_, rfl, ?_⟩
           refine hK.out _ _ ⟨bc 0 BK449, bc 1 BK449, bc 2 BK449, ((HB.out.cell (World.block_lt_of_cell? w _ hw452_0)).trans hw452_0), ((HB.out.cell (World.block_lt_of_cell? w _ hw452_1)).trans hw452_1), ((HB.out.cell (World.block_lt_of_cell? w _ hw452_2)).trans hw452_2)⟩ (fun hHeld => ?_)
           clear hK K
           refine nA ?_
           refine pA 9 40 (mL 47 1023) HT_ rfl rfl ?_
           refine pA 10 41 (mL 47 2047) HT_ rfl rfl ?_
           refine pA 11 42 (mL 47 4095) HT_ rfl rfl ?_
           refine pA 12 43 (mL 47 8191) HT_ rfl rfl ?_
           refine pA 14 45 (mL 47 24575) HT_ rfl rfl ?_
           refine pA 15 46 (mL 47 57343) HT_ rfl rfl ?_
           refine pA 16 47 (mL 47 122879) HT_ rfl rfl ?_
           refine pA 17 48 (mL 47 253951) HT_ rfl rfl ?_
           refine pA 18 49 (mL 47 516095) HT_ rfl rfl ?_
           refine pA 19 50 (mL 47 1040383) HT_ rfl rfl ?_
           refine pA 20 51 (mL 47 2088959) HT_ rfl rfl ?_
           refine pA 21 52 (mL 47 4186111) HT_ rfl rfl ?_
           refine tA 13 44 (mL 47 4194303) HT_ HW_ hHeld rfl rfl (by rintro w' ⟨s0, s1, s2, s3, s4, s5⟩; go_simp; with_reducible rfl) ?_
           refine tA 22 53 (mL 47 8388607) HT_ HW_ hHeld rfl rfl (by rintro w' ⟨s0, s1, s2, s3, s4, s5⟩; go_simp; with_reducible rfl) ?_
           refine pA 23 54 (mL 47 16777215) HT_ rfl rfl ?_
           refine pA 24 55 (mL 47 33554431) HT_ rfl rfl ?_
           refine pA 25 56 (mL 47 67108863) HT_ rfl rfl ?_
           refine pA 26 57 (mL 47 134217727) HT_ rfl rfl ?_
           refine tA 27 58 (mL 47 268435455) HT_ HW_ hHeld rfl rfl (by rintro w' ⟨s0, s1, s2, s3, s4, s5⟩; go_simp; with_reducible rfl) ?_
           refine one_ (i := 28) (N := some 59) (mL 47 536870911) rfl rfl (one_of HT_.out KR) (by decide) (fun K hK => ?_)
           refine goes_ Tryd.func78 KR rfl #[.slice A448_2 ((rd_TGap l1 x26_2).f2).length c448_2] (by rfl) rfl rfl TA ?_
           with_reducible refine (impl_areTypes.calls k2 _ _ ((rd_TGap l1 x26_2).f2) false _ ?side1 ?side2 A25.out).mono ?_
           (case side1 => exact CW ((Kd.C_below HR448_2.out TB)))
           (case side2 => exact HC448_2.out)
           rintro e w58 ⟨rfl, hb⟩
           refine ⟨_, rfl, ?_⟩
           replace BK449 := KB BK449 hb
           replace HB := BS hb
           (try clear hb)
           (try clear hb2)
           (try clear hk)
           (try clear hi)
           refine hK.out _ _ ⟨bc 0 BK449, bc 1 BK449, bc 2 BK449, ((HB.out.cell (World.block_lt_of_cell? w _ hw452_0)).trans hw452_0), ((HB.out.cell (World.block_lt_of_cell? w _ hw452_1)).trans hw452_1), ((HB.out.cell (World.block_lt_of_cell? w _ hw452_2)).trans hw452_2)⟩ (fun hHeld => ?_)
           clear hK K
           refine nA ?_
           refine pA 29 60 (mL 47 1073741823) HT_ rfl rfl ?_
           refine pA 30 61 (mL 47 2147483647) HT_ rfl rfl ?_
           refine pA 31 62 (mL 47 4294967295) HT_ rfl rfl ?_
           refine pU 32 63 (mL 47 8589934591) HT_ rfl rfl ?_
           refine pU 33 64 (mL 47 17179869183) HT_ rfl rfl ?_
           refine pU 34 65 (mL 47 34359738367) HT_ rfl rfl ?_
           refine pU 35 66 (mL 47 68719476735) HT_ rfl rfl ?_
           refine pU 36 67 (mL 47 137438953471) HT_ rfl rfl ?_
           refine pU 37 68 (mL 47 274877906943) HT_ rfl rfl ?_
           refine pU 38 69 (mL 47 549755813887) HT_ rfl rfl ?_
           refine pU 39 70 (mL 47 1099511627775) HT_ rfl rfl ?_
           refine pU 40 71 (mL 47 2199023255551) HT_ rfl rfl ?_
           refine pU 41 72 (mL 47 4398046511103) HT_ rfl rfl ?_
           refine pU 42 73 (mL 47 8796093022207) HT_ rfl rfl ?_
           refine pU 43 74 (mL 47 17592186044415) HT_ rfl rfl ?_
           refine pU 44 75 (mL 47 35184372088831) HT_ rfl rfl ?_
           refine pU 45 76 (mL 47 70368744177663) HT_ rfl rfl ?_
           refine pA 46 77 (mL 47 140737488355327) HT_ rfl rfl ?_
           refine done_ (done_of HT_.out KR) ?_
           try go_wp2
           go_ret
           exact ⟨by first | rfl | (simp [errW_none, errW_some] <;> rfl) | (simp only [← hji21]; first | rfl | (simp [errW_none, errW_some] <;> rfl)) | (simp [*, errW_none, errW_some] <;> rfl), TB⟩
         ·rw [if_neg c24] at H
          have c24b0 : (((rd_TGap l1 x26_2).f1).toList == ((rd_TGap l1 (ji21)).f0).toList) = false := beq_eq_false_iff_ne.mpr c24
          have c24b1 : (((rd_TGap l1 x26_2).f1).toList != ((rd_TGap l1 (ji21)).f0).toList) = true := bne_iff_ne.mpr c24
          obtain rfl := Option.some.inj H
          have p448 : 0 ≤ (x26_2 : Int) := TD
          have q448 : x26_2 < (l1.length : Int) := TD
          obtain ⟨ad448, A448_2, c448_2, e448, hx448_0, hx448_1, hx448_2, hl448_2, hi448_2⟩ := at_TGap HR1.out x26_2 p448 q448
          have hw448_2 := hx448_2
          cases e448
          replace hx448_0 := hBc HB hx448_0
          replace hx448_1 := hBc HB hx448_1
          replace hx448_2 := hBc HB hx448_2
          have HR448_2 := Aside0.mk hi448_2
          have HC448_2 := Aside0.mk hl448_2
          clear hi448_2 hl448_2
          replace p448 := eq_true p448
          replace q448 := eq_true q448
          try go_wp2_with (first | ((with_reducible refine gate_dst (N := 6) rfl ?_); (try (refine gate_guard (by rfl) ?_; dsimp only)); refine bE 6 #[.string (⟨#[]⟩ : ByteArray), .string (⟨#[]⟩ : ByteArray), .slice none 0 0] 44 ?_; intro gb449 hg w59 hbox hb; have BK449 := Aside0.mk (hbox); have GE449 := bG hg; replace HB := BS hb; clear hb hbox hg; have hcz60 := cz3 BK449))
          have n0_ : Aside0 ((((w59.setCell ⟨gb449, 0, none⟩ (.string ((rd_TGap l1 x26_2).f0))).setCell ⟨gb449, 1, none⟩ (.string ((rd_TGap l1 x26_2).f1))).setCell ⟨gb449, 2, none⟩ (.slice A448_2 ((rd_TGap l1 x26_2).f2).length c448_2)).heap[gb449]? = some (.cells #[.string ((rd_TGap l1 x26_2).f0), .string ((rd_TGap l1 x26_2).f1), .slice A448_2 ((rd_TGap l1 x26_2).f2).length c448_2] 44 (0, 0))) := ⟨TS⟩
          have n1_ : Aside0 (Below w.heap.size w (((w59.setCell ⟨gb449, 0, none⟩ (.string ((rd_TGap l1 x26_2).f0))).setCell ⟨gb449, 1, none⟩ (.string ((rd_TGap l1 x26_2).f1))).setCell ⟨gb449, 2, none⟩ (.slice A448_2 ((rd_TGap l1 x26_2).f2).length c448_2))) := ⟨TB⟩
          (try clear BK449)
          (try clear HB)
          generalize (((w59.setCell ⟨gb449, 0, none⟩ (.string ((rd_TGap l1 x26_2).f0))).setCell ⟨gb449, 1, none⟩ (.string ((rd_TGap l1 x26_2).f1))).setCell ⟨gb449, 2, none⟩ (.slice A448_2 ((rd_TGap l1 x26_2).f2).length c448_2)) = w61 at n0_ n1_ ⊢
          have BK449 := n0_
          have HB := n1_
          clear n0_ n1_
          replace BK449 := Aside0.mk (blk_drew BK449.out)
          replace HB := Aside0.mk (below_drew1 HB.out)
          have p452 : 0 ≤ ((ji21) : Int) := TD
          have q452 : (ji21) < (l1.length : Int) := TD
          obtain ⟨ad452, A452_2, c452_2, e452, hx452_0, hx452_1, hx452_2, hl452_2, hi452_2⟩ := at_TGap HR1.out (ji21) p452 q452
          have hw452_2 := hx452_2
          have hw452_1 := hx452_1
          have hw452_0 := hx452_0
          obtain rfl : ad448 = ad452 := (by injection e452)
          replace hx452_0 := hBc HB hx452_0
          replace hx452_1 := hBc HB hx452_1
          replace hx452_2 := hBc HB hx452_2
          have HR452_2 := Aside0.mk hi452_2
          have HC452_2 := Aside0.mk hl452_2
          clear hi452_2 hl452_2
          replace p452 := eq_true p452
          replace q452 := eq_true q452
          refine start_ (n := 47) (S := fun w' => w'.cell? ⟨gb449, 0, none⟩ = some (.string ((rd_TGap l1 x26_2).f0)) ∧ w'.cell? ⟨gb449, 1, none⟩ = some (.string ((rd_TGap l1 x26_2).f1)) ∧ w'.cell? ⟨gb449, 2, none⟩ = some (.slice A448_2 ((rd_TGap l1 x26_2).f2).length c448_2) ∧ w'.cell? (ad448.add (((ji21)).toNat * 3)) = some (.string ((rd_TGap l1 (ji21)).f0)) ∧ w'.cell? ⟨(ad448.add (((ji21)).toNat * 3)).block, (ad448.add (((ji21)).toNat * 3)).off + 1, none⟩ = some (.string ((rd_TGap l1 (ji21)).f1)) ∧ w'.cell? ⟨(ad448.add (((ji21)).toNat * 3)).block, (ad448.add (((ji21)).toNat * 3)).off + 2, none⟩ = some (.slice A452_2 ((rd_TGap l1 (ji21)).f2).length c452_2)) (ds := []) #[false, false, false, false, false, false, false, false, false, false, false, false, false, false, false, false, false, false, false, false, false, false, false, false, false, false, false, false, false, false, false, false, false, false, false, false, false, false, false, false, false, false, false, false, false, false, false] KR rfl rfl ⟨bc 0 BK449, bc 1 BK449, bc 2 BK449, ((HB.out.cell (World.block_lt_of_cell? w _ hw452_0)).trans hw452_0), ((HB.out.cell (World.block_lt_of_cell? w _ hw452_1)).trans hw452_1), ((HB.out.cell (World.block_lt_of_cell? w _ hw452_2)).trans hw452_2)⟩ (fun hHeld => ?_); refine with_tabW impl_GoodGaps.tab6 impl_GoodGaps.bits6 (fun HT_ HW_ => ?_)
          generalize w61.drew = w62 at BK449 HB HR452_2 hx452_0 hx452_1 hx452_2 hHeld ⊢
          refine pA 0 31 (mL 47 1) HT_ rfl rfl ?_
          refine tA 1 32 (mL 47 3) HT_ HW_ hHeld rfl rfl (by rintro w' ⟨s0, s1, s2, s3, s4, s5⟩; go_simp; with_reducible rfl) ?_
          refine one_ (i := 2) (N := some 33) (mL 47 7) rfl rfl (one_of HT_.out KR) (by decide) (fun K hK => ?_)
          refine goes_ Tryd.func58 KR rfl #[.string ((rd_TGap l1 x26_2).f0)] (by rfl) rfl rfl TA ?_
          with_reducible refine (impl_GoodName.calls k2 ((rd_TGap l1 x26_2).f0) true _ A16.out).mono ?_
          rintro e w63 ⟨rfl, hb⟩
          refine ⟨_, rfl, ?_⟩
          replace BK449 := KB BK449 hb
          replace HB := BS hb
          (try clear hb)
          (try clear hb2)
          (try clear hk)
          (try clear hi)
          refine hK.out _ _ ⟨bc 0 BK449, bc 1 BK449, bc 2 BK449, ((HB.out.cell (World.block_lt_of_cell? w _ hw452_0)).trans hw452_0), ((HB.out.cell (World.block_lt_of_cell? w _ hw452_1)).trans hw452_1), ((HB.out.cell (World.block_lt_of_cell? w _ hw452_2)).trans hw452_2)⟩ (fun hHeld => ?_)
          clear hK K
          refine nA ?_
          refine pA 3 34 (mL 47 15) HT_ rfl rfl ?_
          refine pA 4 35 (mL 47 31) HT_ rfl rfl ?_
          refine pA 5 36 (mL 47 63) HT_ rfl rfl ?_
          refine pA 7 38 (mL 47 191) HT_ rfl rfl ?_
          refine tA 6 37 (mL 47 255) HT_ HW_ hHeld rfl rfl (by rintro w' ⟨s0, s1, s2, s3, s4, s5⟩; go_simp; with_reducible rfl) ?_
          refine one_ (i := 8) (N := some 39) (mL 47 511) rfl rfl (one_of HT_.out KR) (by decide) (fun K hK => ?_)
          refine goes_ Tryd.func77 KR rfl #[.string ((rd_TGap l1 x26_2).f0), .string a0] (by rfl) rfl rfl TA ?_
          with_reducible refine (impl_isBelow.calls ((rd_TGap l1 x26_2).f0) a0 true _ A18.out).mono ?_
          rintro e w' ⟨rfl, ⟨nd, rfl⟩⟩
          refine ⟨_, rfl, ?_⟩
          refine hK.out _ _ ⟨bc 0 BK449, bc 1 BK449, bc 2 BK449, ((HB.out.cell (World.block_lt_of_cell? w _ hw452_0)).trans hw452_0), ((HB.out.cell (World.block_lt_of_cell? w _ hw452_1)).trans hw452_1), ((HB.out.cell (World.block_lt_of_cell? w _ hw452_2)).trans hw452_2)⟩ (fun hHeld => ?_)
          clear hK K
          refine nA ?_
          refine pA 9 40 (mL 47 1023) HT_ rfl rfl ?_
          refine pA 10 41 (mL 47 2047) HT_ rfl rfl ?_
          refine pA 11 42 (mL 47 4095) HT_ rfl rfl ?_
          refine pA 12 43 (mL 47 8191) HT_ rfl rfl ?_
          refine pA 14 45 (mL 47 24575) HT_ rfl rfl ?_
          refine pA 15 46 (mL 47 57343) HT_ rfl rfl ?_
          refine pA 16 47 (mL 47 122879) HT_ rfl rfl ?_
          refine pA 17 48 (mL 47 253951) HT_ rfl rfl ?_
          refine pA 18 49 (mL 47 516095) HT_ rfl rfl ?_
          refine pA 19 50 (mL 47 1040383) HT_ rfl rfl ?_
          refine pA 20 51 (mL 47 2088959) HT_ rfl rfl ?_
          refine pA 21 52 (mL 47 4186111) HT_ rfl rfl ?_
          refine tA 13 44 (mL 47 4194303) HT_ HW_ hHeld rfl rfl (by rintro w' ⟨s0, s1, s2, s3, s4, s5⟩; go_simp; with_reducible rfl) ?_
          refine tA 22 53 (mL 47 8388607) HT_ HW_ hHeld rfl rfl (by rintro w' ⟨s0, s1, s2, s3, s4, s5⟩; go_simp; with_reducible rfl) ?_
          refine pA 23 54 (mL 47 16777215) HT_ rfl rfl ?_
          refine pA 24 55 (mL 47 33554431) HT_ rfl rfl ?_
          refine pA 25 56 (mL 47 67108863) HT_ rfl rfl ?_
          refine pU 26 57 (mL 47 134217727) HT_ rfl rfl ?_
          refine pU 27 58 (mL 47 268435455) HT_ rfl rfl ?_
          refine pU 28 59 (mL 47 536870911) HT_ rfl rfl ?_
          refine pU 29 60 (mL 47 1073741823) HT_ rfl rfl ?_
          refine pA 30 61 (mL 47 2147483647) HT_ rfl rfl ?_
          refine pA 31 62 (mL 47 4294967295) HT_ rfl rfl ?_
          refine pU 32 63 (mL 47 8589934591) HT_ rfl rfl ?_
          refine pU 33 64 (mL 47 17179869183) HT_ rfl rfl ?_
          refine pU 34 65 (mL 47 34359738367) HT_ rfl rfl ?_
          refine pU 35 66 (mL 47 68719476735) HT_ rfl rfl ?_
          refine pU 36 67 (mL 47 137438953471) HT_ rfl rfl ?_
          refine pU 37 68 (mL 47 274877906943) HT_ rfl rfl ?_
          refine pU 38 69 (mL 47 549755813887) HT_ rfl rfl ?_
          refine pU 39 70 (mL 47 1099511627775) HT_ rfl rfl ?_
          refine pU 40 71 (mL 47 2199023255551) HT_ rfl rfl ?_
          refine pU 41 72 (mL 47 4398046511103) HT_ rfl rfl ?_
          refine pU 42 73 (mL 47 8796093022207) HT_ rfl rfl ?_
          refine pU 43 74 (mL 47 17592186044415) HT_ rfl rfl ?_
          refine pU 44 75 (mL 47 35184372088831) HT_ rfl rfl ?_
          refine pU 45 76 (mL 47 70368744177663) HT_ rfl rfl ?_
          refine pA 46 77 (mL 47 140737488355327) HT_ rfl rfl ?_
          refine done_ (done_of HT_.out KR) ?_
          try go_wp2
          go_ret
          exact ⟨by first | rfl | (simp [errW_none, errW_some] <;> rfl) | (simp only [← hji21]; first | rfl | (simp [errW_none, errW_some] <;> rfl)) | (simp [*, errW_none, errW_some] <;> rfl), TB⟩
        ·replace c19 := Bool.eq_false_iff.mpr c19
         subst c19
         replace H := iff' H
         obtain rfl := Option.some.inj H
         have p448 : 0 ≤ (x26_2 : Int) := TD
         have q448 : x26_2 < (l1.length : Int) := TD
         obtain ⟨ad448, A448_2, c448_2, e448, hx448_0, hx448_1, hx448_2, hl448_2, hi448_2⟩ := at_TGap HR1.out x26_2 p448 q448
         have hw448_2 := hx448_2
         cases e448
         replace hx448_0 := hBc HB hx448_0
         replace hx448_1 := hBc HB hx448_1
         replace hx448_2 := hBc HB hx448_2
         have HR448_2 := Aside0.mk hi448_2
         have HC448_2 := Aside0.mk hl448_2
         clear hi448_2 hl448_2
         replace p448 := eq_true p448
         replace q448 := eq_true q448
         try go_wp2_with (first | ((with_reducible refine gate_dst (N := 6) rfl ?_); (try (refine gate_guard (by rfl) ?_; dsimp only)); refine bE 6 #[.string (⟨#[]⟩ : ByteArray), .string (⟨#[]⟩ : ByteArray), .slice none 0 0] 44 ?_; intro gb449 hg w64 hbox hb; have BK449 := Aside0.mk (hbox); have GE449 := bG hg; replace HB := BS hb; clear hb hbox hg; have hcz65 := cz3 BK449))
         have n0_ : Aside0 ((((w64.setCell ⟨gb449, 0, none⟩ (.string ((rd_TGap l1 x26_2).f0))).setCell ⟨gb449, 1, none⟩ (.string ((rd_TGap l1 x26_2).f1))).setCell ⟨gb449, 2, none⟩ (.slice A448_2 ((rd_TGap l1 x26_2).f2).length c448_2)).heap[gb449]? = some (.cells #[.string ((rd_TGap l1 x26_2).f0), .string ((rd_TGap l1 x26_2).f1), .slice A448_2 ((rd_TGap l1 x26_2).f2).length c448_2] 44 (0, 0))) := ⟨TS⟩
         have n1_ : Aside0 (Below w.heap.size w (((w64.setCell ⟨gb449, 0, none⟩ (.string ((rd_TGap l1 x26_2).f0))).setCell ⟨gb449, 1, none⟩ (.string ((rd_TGap l1 x26_2).f1))).setCell ⟨gb449, 2, none⟩ (.slice A448_2 ((rd_TGap l1 x26_2).f2).length c448_2))) := ⟨TB⟩
         (try clear BK449)
         (try clear HB)
         generalize (((w64.setCell ⟨gb449, 0, none⟩ (.string ((rd_TGap l1 x26_2).f0))).setCell ⟨gb449, 1, none⟩ (.string ((rd_TGap l1 x26_2).f1))).setCell ⟨gb449, 2, none⟩ (.slice A448_2 ((rd_TGap l1 x26_2).f2).length c448_2)) = w66 at n0_ n1_ ⊢
         have BK449 := n0_
         have HB := n1_
         clear n0_ n1_
         replace BK449 := Aside0.mk (blk_drew BK449.out)
         replace HB := Aside0.mk (below_drew1 HB.out)
         refine start_ (n := 47) (S := fun w' => w'.cell? ⟨gb449, 0, none⟩ = some (.string ((rd_TGap l1 x26_2).f0)) ∧ w'.cell? ⟨gb449, 1, none⟩ = some (.string ((rd_TGap l1 x26_2).f1)) ∧ w'.cell? ⟨gb449, 2, none⟩ = some (.slice A448_2 ((rd_TGap l1 x26_2).f2).length c448_2)) (ds := []) #[false, false, false, false, false, false, false, false, false, false, false, false, false, false, false, false, false, false, false, false, false, false, false, false, false, false, false, false, false, false, false, false, false, false, false, false, false, false, false, false, false, false, false, false, false, false, false] KR rfl rfl ⟨bc 0 BK449, bc 1 BK449, bc 2 BK449⟩ (fun hHeld => ?_); refine with_tabW impl_GoodGaps.tab6 impl_GoodGaps.bits6 (fun HT_ HW_ => ?_)
         generalize w66.drew = w67 at BK449 HB hHeld ⊢
         refine pA 0 31 (mL 47 1) HT_ rfl rfl ?_
         refine tA 1 32 (mL 47 3) HT_ HW_ hHeld rfl rfl (by rintro w' ⟨s0, s1, s2⟩; go_simp; with_reducible rfl) ?_
         refine one_ (i := 2) (N := some 33) (mL 47 7) rfl rfl (one_of HT_.out KR) (by decide) (fun K hK => ?_)
         refine goes_ Tryd.func58 KR rfl #[.string ((rd_TGap l1 x26_2).f0)] (by rfl) rfl rfl TA ?_
         with_reducible refine (impl_GoodName.calls k2 ((rd_TGap l1 x26_2).f0) true _ A16.out).mono ?_
         rintro e w68 ⟨rfl, hb⟩
         refine ⟨_, rfl, ?_⟩
         replace BK449 := KB BK449 hb
         replace HB := BS hb
         (try clear hb)
         (try clear hb2)
         (try clear hk)
         (try clear hi)
         refine hK.out _ _ ⟨bc 0 BK449, bc 1 BK449, bc 2 BK449⟩ (fun hHeld => ?_)
         clear hK K
         refine nA ?_
         refine pA 3 34 (mL 47 15) HT_ rfl rfl ?_
         refine pA 4 35 (mL 47 31) HT_ rfl rfl ?_
         refine pA 5 36 (mL 47 63) HT_ rfl rfl ?_
         refine pA 7 38 (mL 47 191) HT_ rfl rfl ?_
         refine tA 6 37 (mL 47 255) HT_ HW_ hHeld rfl rfl (by rintro w' ⟨s0, s1, s2⟩; go_simp; with_reducible rfl) ?_
         refine one_ (i := 8) (N := some 39) (mL 47 511) rfl rfl (one_of HT_.out KR) (by decide) (fun K hK => ?_)
         refine goes_ Tryd.func77 KR rfl #[.string ((rd_TGap l1 x26_2).f0), .string a0] (by rfl) rfl rfl TA ?_
         with_reducible refine (impl_isBelow.calls ((rd_TGap l1 x26_2).f0) a0 false _ A18.out).mono ?_
         rintro e w' ⟨rfl, ⟨nd, rfl⟩⟩
         refine ⟨_, rfl, ?_⟩
         refine hK.out _ _ ⟨bc 0 BK449, bc 1 BK449, bc 2 BK449⟩ (fun hHeld => ?_)
         clear hK K
         refine nA ?_
         refine pA 9 40 (mL 47 1023) HT_ rfl rfl ?_
         refine pA 10 41 (mL 47 2047) HT_ rfl rfl ?_
         refine pA 11 42 (mL 47 4095) HT_ rfl rfl ?_
         refine pU 12 43 (mL 47 8191) HT_ rfl rfl ?_
         refine pU 13 44 (mL 47 16383) HT_ rfl rfl ?_
         refine pU 14 45 (mL 47 32767) HT_ rfl rfl ?_
         refine pU 15 46 (mL 47 65535) HT_ rfl rfl ?_
         refine pU 16 47 (mL 47 131071) HT_ rfl rfl ?_
         refine pU 17 48 (mL 47 262143) HT_ rfl rfl ?_
         refine pU 18 49 (mL 47 524287) HT_ rfl rfl ?_
         refine pU 19 50 (mL 47 1048575) HT_ rfl rfl ?_
         refine pU 20 51 (mL 47 2097151) HT_ rfl rfl ?_
         refine pU 21 52 (mL 47 4194303) HT_ rfl rfl ?_
         refine pU 22 53 (mL 47 8388607) HT_ rfl rfl ?_
         refine pU 23 54 (mL 47 16777215) HT_ rfl rfl ?_
         refine pA 24 55 (mL 47 33554431) HT_ rfl rfl ?_
         refine pA 25 56 (mL 47 67108863) HT_ rfl rfl ?_
         refine pU 26 57 (mL 47 134217727) HT_ rfl rfl ?_
         refine pU 27 58 (mL 47 268435455) HT_ rfl rfl ?_
         refine pU 28 59 (mL 47 536870911) HT_ rfl rfl ?_
         refine pU 29 60 (mL 47 1073741823) HT_ rfl rfl ?_
         refine pA 30 61 (mL 47 2147483647) HT_ rfl rfl ?_
         refine pA 31 62 (mL 47 4294967295) HT_ rfl rfl ?_
         refine pU 32 63 (mL 47 8589934591) HT_ rfl rfl ?_
         refine pU 33 64 (mL 47 17179869183) HT_ rfl rfl ?_
         refine pU 34 65 (mL 47 34359738367) HT_ rfl rfl ?_
         refine pU 35 66 (mL 47 68719476735) HT_ rfl rfl ?_
         refine pU 36 67 (mL 47 137438953471) HT_ rfl rfl ?_
         refine pU 37 68 (mL 47 274877906943) HT_ rfl rfl ?_
         refine pU 38 69 (mL 47 549755813887) HT_ rfl rfl ?_
         refine pU 39 70 (mL 47 1099511627775) HT_ rfl rfl ?_
         refine pU 40 71 (mL 47 2199023255551) HT_ rfl rfl ?_
         refine pU 41 72 (mL 47 4398046511103) HT_ rfl rfl ?_
         refine pU 42 73 (mL 47 8796093022207) HT_ rfl rfl ?_
         refine pU 43 74 (mL 47 17592186044415) HT_ rfl rfl ?_
         refine pU 44 75 (mL 47 35184372088831) HT_ rfl rfl ?_
         refine pU 45 76 (mL 47 70368744177663) HT_ rfl rfl ?_
         refine pA 46 77 (mL 47 140737488355327) HT_ rfl rfl ?_
         refine done_ (done_of HT_.out KR) ?_
         try go_wp2
         go_ret
         exact ⟨TE, TB⟩
       ·replace c17 := Bool.eq_false_iff.mpr c17
        subst c17
        replace H := iff' H
        obtain rfl := Option.some.inj H
        have p448 : 0 ≤ (x26_2 : Int) := TD
        have q448 : x26_2 < (l1.length : Int) := TD
        obtain ⟨ad448, A448_2, c448_2, e448, hx448_0, hx448_1, hx448_2, hl448_2, hi448_2⟩ := at_TGap HR1.out x26_2 p448 q448
        have hw448_2 := hx448_2
        cases e448
        replace hx448_0 := hBc HB hx448_0
        replace hx448_1 := hBc HB hx448_1
        replace hx448_2 := hBc HB hx448_2
        have HR448_2 := Aside0.mk hi448_2
        have HC448_2 := Aside0.mk hl448_2
        clear hi448_2 hl448_2
        replace p448 := eq_true p448
        replace q448 := eq_true q448
        try go_wp2_with (first | ((with_reducible refine gate_dst (N := 6) rfl ?_); (try (refine gate_guard (by rfl) ?_; dsimp only)); refine bE 6 #[.string (⟨#[]⟩ : ByteArray), .string (⟨#[]⟩ : ByteArray), .slice none 0 0] 44 ?_; intro gb449 hg w69 hbox hb; have BK449 := Aside0.mk (hbox); have GE449 := bG hg; replace HB := BS hb; clear hb hbox hg; have hcz70 := cz3 BK449))
        have n0_ : Aside0 ((((w69.setCell ⟨gb449, 0, none⟩ (.string ((rd_TGap l1 x26_2).f0))).setCell ⟨gb449, 1, none⟩ (.string ((rd_TGap l1 x26_2).f1))).setCell ⟨gb449, 2, none⟩ (.slice A448_2 ((rd_TGap l1 x26_2).f2).length c448_2)).heap[gb449]? = some (.cells #[.string ((rd_TGap l1 x26_2).f0), .string ((rd_TGap l1 x26_2).f1), .slice A448_2 ((rd_TGap l1 x26_2).f2).length c448_2] 44 (0, 0))) := ⟨TS⟩
        have n1_ : Aside0 (Below w.heap.size w (((w69.setCell ⟨gb449, 0, none⟩ (.string ((rd_TGap l1 x26_2).f0))).setCell ⟨gb449, 1, none⟩ (.string ((rd_TGap l1 x26_2).f1))).setCell ⟨gb449, 2, none⟩ (.slice A448_2 ((rd_TGap l1 x26_2).f2).length c448_2))) := ⟨TB⟩
        (try clear BK449)
        (try clear HB)
        generalize (((w69.setCell ⟨gb449, 0, none⟩ (.string ((rd_TGap l1 x26_2).f0))).setCell ⟨gb449, 1, none⟩ (.string ((rd_TGap l1 x26_2).f1))).setCell ⟨gb449, 2, none⟩ (.slice A448_2 ((rd_TGap l1 x26_2).f2).length c448_2)) = w71 at n0_ n1_ ⊢
        have BK449 := n0_
        have HB := n1_
        clear n0_ n1_
        replace BK449 := Aside0.mk (blk_drew BK449.out)
        replace HB := Aside0.mk (below_drew1 HB.out)
        refine start_ (n := 47) (S := fun w' => w'.cell? ⟨gb449, 0, none⟩ = some (.string ((rd_TGap l1 x26_2).f0)) ∧ w'.cell? ⟨gb449, 1, none⟩ = some (.string ((rd_TGap l1 x26_2).f1)) ∧ w'.cell? ⟨gb449, 2, none⟩ = some (.slice A448_2 ((rd_TGap l1 x26_2).f2).length c448_2)) (ds := []) #[false, false, false, false, false, false, false, false, false, false, false, false, false, false, false, false, false, false, false, false, false, false, false, false, false, false, false, false, false, false, false, false, false, false, false, false, false, false, false, false, false, false, false, false, false, false, false] KR rfl rfl ⟨bc 0 BK449, bc 1 BK449, bc 2 BK449⟩ (fun hHeld => ?_); refine with_tabW impl_GoodGaps.tab6 impl_GoodGaps.bits6 (fun HT_ HW_ => ?_)
        generalize w71.drew = w72 at BK449 HB hHeld ⊢
        refine pA 0 31 (mL 47 1) HT_ rfl rfl ?_
        refine tA 1 32 (mL 47 3) HT_ HW_ hHeld rfl rfl (by rintro w' ⟨s0, s1, s2⟩; go_simp; with_reducible rfl) ?_
        refine one_ (i := 2) (N := some 33) (mL 47 7) rfl rfl (one_of HT_.out KR) (by decide) (fun K hK => ?_)
        refine goes_ Tryd.func58 KR rfl #[.string ((rd_TGap l1 x26_2).f0)] (by rfl) rfl rfl TA ?_
        with_reducible refine (impl_GoodName.calls k2 ((rd_TGap l1 x26_2).f0) false _ A16.out).mono ?_
        rintro e w73 ⟨rfl, hb⟩
        refine ⟨_, rfl, ?_⟩
        replace BK449 := KB BK449 hb
        replace HB := BS hb
        (try clear hb)
        (try clear hb2)
        (try clear hk)
        (try clear hi)
        refine hK.out _ _ ⟨bc 0 BK449, bc 1 BK449, bc 2 BK449⟩ (fun hHeld => ?_)
        clear hK K
        refine nA ?_
        refine pA 3 34 (mL 47 15) HT_ rfl rfl ?_
        refine pA 4 35 (mL 47 31) HT_ rfl rfl ?_
        refine pU 5 36 (mL 47 63) HT_ rfl rfl ?_
        refine pU 6 37 (mL 47 127) HT_ rfl rfl ?_
        refine pU 7 38 (mL 47 255) HT_ rfl rfl ?_
        refine pU 8 39 (mL 47 511) HT_ rfl rfl ?_
        refine pU 9 40 (mL 47 1023) HT_ rfl rfl ?_
        refine pA 10 41 (mL 47 2047) HT_ rfl rfl ?_
        refine pA 11 42 (mL 47 4095) HT_ rfl rfl ?_
        refine pU 12 43 (mL 47 8191) HT_ rfl rfl ?_
        refine pU 13 44 (mL 47 16383) HT_ rfl rfl ?_
        refine pU 14 45 (mL 47 32767) HT_ rfl rfl ?_
        refine pU 15 46 (mL 47 65535) HT_ rfl rfl ?_
        refine pU 16 47 (mL 47 131071) HT_ rfl rfl ?_
        refine pU 17 48 (mL 47 262143) HT_ rfl rfl ?_
        refine pU 18 49 (mL 47 524287) HT_ rfl rfl ?_
        refine pU 19 50 (mL 47 1048575) HT_ rfl rfl ?_
        refine pU 20 51 (mL 47 2097151) HT_ rfl rfl ?_
        refine pU 21 52 (mL 47 4194303) HT_ rfl rfl ?_
        refine pU 22 53 (mL 47 8388607) HT_ rfl rfl ?_
        refine pU 23 54 (mL 47 16777215) HT_ rfl rfl ?_
        refine pA 24 55 (mL 47 33554431) HT_ rfl rfl ?_
        refine pA 25 56 (mL 47 67108863) HT_ rfl rfl ?_
        refine pU 26 57 (mL 47 134217727) HT_ rfl rfl ?_
        refine pU 27 58 (mL 47 268435455) HT_ rfl rfl ?_
        refine pU 28 59 (mL 47 536870911) HT_ rfl rfl ?_
        refine pU 29 60 (mL 47 1073741823) HT_ rfl rfl ?_
        refine pA 30 61 (mL 47 2147483647) HT_ rfl rfl ?_
        refine pA 31 62 (mL 47 4294967295) HT_ rfl rfl ?_
        refine pU 32 63 (mL 47 8589934591) HT_ rfl rfl ?_
        refine pU 33 64 (mL 47 17179869183) HT_ rfl rfl ?_
        refine pU 34 65 (mL 47 34359738367) HT_ rfl rfl ?_
        refine pU 35 66 (mL 47 68719476735) HT_ rfl rfl ?_
        refine pU 36 67 (mL 47 137438953471) HT_ rfl rfl ?_
        refine pU 37 68 (mL 47 274877906943) HT_ rfl rfl ?_
        refine pU 38 69 (mL 47 549755813887) HT_ rfl rfl ?_
        refine pU 39 70 (mL 47 1099511627775) HT_ rfl rfl ?_
        refine pU 40 71 (mL 47 2199023255551) HT_ rfl rfl ?_
        refine pU 41 72 (mL 47 4398046511103) HT_ rfl rfl ?_
        refine pU 42 73 (mL 47 8796093022207) HT_ rfl rfl ?_
        refine pU 43 74 (mL 47 17592186044415) HT_ rfl rfl ?_
        refine pU 44 75 (mL 47 35184372088831) HT_ rfl rfl ?_
        refine pU 45 76 (mL 47 70368744177663) HT_ rfl rfl ?_
        refine pA 46 77 (mL 47 140737488355327) HT_ rfl rfl ?_
        refine done_ (done_of HT_.out KR) ?_
        try go_wp2
        go_ret
        exact ⟨TE, TB⟩
      ·rw [if_neg c13] at H
       have c13b0 : decide (x26_2 < (l1.length : Int)) = false := decide_eq_false c13
       clear c13
       obtain rfl := Option.some.inj H
       go_wp2
       go_ret
       exact ⟨TE, TB⟩
end
section
/-! ### impl_covers: function 69 -/
def impl_covers.f (k : Nat) (a0_0 : ByteArray) (a0_1 : ByteArray) (l0_2 : List Int) (a1 : ByteArray) : Option (Bool) := (impl_compareNames.f k a0_0 a1).bind fun t250 => (if t250 ≥ 0 then (some false) else ((impl_compareNames.f k a0_1 a0_0).bind fun t251 => (if t251 ≤ 0 then (some true) else ((impl_compareNames.f k a1 a0_1).bind fun t252 => (some (decide (t252 < 0)))))))
theorem impl_covers.calls (k : Nat) (a0_0 : ByteArray) (a0_1 : ByteArray) (A0_2 : Option Addr) (c0_2 : Nat) (l0_2 : List Int) (a1 : ByteArray) (r : Bool) (w : World) (hr0_2 : Kd.C (Kd.int .i64) w A0_2 l0_2.length l0_2) (hc0_2 : l0_2.length ≤ c0_2) (h : impl_covers.f k a0_0 a0_1 l0_2 a1 = some r) :
  Calls Tryd.prog 69 #[.agg #[.string a0_0, .string a0_1, .slice A0_2 l0_2.length c0_2], .string a1] w fun e w' => e = .returned (.bool r) ∧ Below w.heap.size w w' := by
 have hu44 := Tryd.underlying44
 have HR0_2 := Aside0.mk hr0_2
 have HC0_2 := Aside0.mk hc0_2
 clear hr0_2 hc0_2
 have HB := Aside0.mk (Below.refl w.heap.size w)
 have H : ((impl_compareNames.f k a0_0 a1).bind fun t250 => (if t250 ≥ 0 then (some false) else ((impl_compareNames.f k a0_1 a0_0).bind fun t251 => (if t251 ≤ 0 then (some true) else ((impl_compareNames.f k a1 a0_1).bind fun t252 => (some (decide (t252 < 0)))))))) = some r := h
 clear h
 obtain ⟨t250, A3, H⟩ := bnd H
 by_cases c4 : t250 ≥ 0
 ·rw [if_pos c4] at H
  have c4b0 : decide (0 ≤ t250) = true := decide_eq_true c4
  clear c4
  obtain rfl := Option.some.inj H
  go_enter Tryd.func69, Tryd.ntmps69
  go_wp2_with (first | ((with_reducible refine gate_dst (N := 2) rfl ?_); refine bE 2 #[.string a0_0, .string a0_1, .slice A0_2 l0_2.length c0_2] 44 ?_; intro gb249 hg w5 hbox hb; have BK249 := Aside0.mk (hbox); have GE249 := bG hg; replace HB := BS hb; clear hb hbox hg; have hcz6 := cz3 BK249) | ((with_reducible refine gate_callee (f := 79) rfl ?_); refine goesL_ (some 8) rfl rfl Tryd.func79 KR rfl #[.string a0_0, .string a1] rfl TA ?_; (with_reducible refine (impl_compareNames.calls k a0_0 a1 t250 _ A3.out).mono ?_); rintro e w7 ⟨rfl, hb⟩; refine ⟨_, rfl, ?_⟩; replace BK249 := KB BK249 hb; replace HB := BS hb; clear hb))
  go_ret
  exact ⟨TE, TB⟩
 ·rw [if_neg c4] at H
  have c4b0 : decide (0 ≤ t250) = false := decide_eq_false c4
  clear c4
  obtain ⟨t251, A8, H⟩ := bnd H
  by_cases c9 : t251 ≤ 0
  ·rw [if_pos c9] at H
   have c9b0 : decide (t251 ≤ 0) = true := decide_eq_true c9
   clear c9
   obtain rfl := Option.some.inj H
   go_enter Tryd.func69, Tryd.ntmps69
   go_wp2_with (first | ((with_reducible refine gate_dst (N := 2) rfl ?_); refine bE 2 #[.string a0_0, .string a0_1, .slice A0_2 l0_2.length c0_2] 44 ?_; intro gb249 hg w10 hbox hb; have BK249 := Aside0.mk (hbox); have GE249 := bG hg; replace HB := BS hb; clear hb hbox hg; have hcz11 := cz3 BK249) | ((with_reducible refine gate_callee (f := 79) rfl ?_); refine goesL_ (some 8) rfl rfl Tryd.func79 KR rfl #[.string a0_0, .string a1] rfl TA ?_; (with_reducible refine (impl_compareNames.calls k a0_0 a1 t250 _ A3.out).mono ?_); rintro e w12 ⟨rfl, hb⟩; refine ⟨_, rfl, ?_⟩; replace BK249 := KB BK249 hb; replace HB := BS hb; clear hb; have hcz13 := cz3 BK249) | ((with_reducible refine gate_callee (f := 79) rfl ?_); refine goesL_ (some 14) rfl rfl Tryd.func79 KR rfl #[.string a0_1, .string a0_0] rfl TA ?_; (with_reducible refine (impl_compareNames.calls k a0_1 a0_0 t251 _ A8.out).mono ?_); rintro e w14 ⟨rfl, hb⟩; refine ⟨_, rfl, ?_⟩; replace BK249 := KB BK249 hb; replace HB := BS hb; clear hb))
   go_ret
   exact ⟨TE, TB⟩
  ·rw [if_neg c9] at H
   have c9b0 : decide (t251 ≤ 0) = false := decide_eq_false c9
   clear c9
   obtain ⟨t252, A15, H⟩ := bnd H
   obtain rfl := Option.some.inj H
   go_enter Tryd.func69, Tryd.ntmps69
   go_wp2_with (first | ((with_reducible refine gate_dst (N := 2) rfl ?_); refine bE 2 #[.string a0_0, .string a0_1, .slice A0_2 l0_2.length c0_2] 44 ?_; intro gb249 hg w16 hbox hb; have BK249 := Aside0.mk (hbox); have GE249 := bG hg; replace HB := BS hb; clear hb hbox hg; have hcz17 := cz3 BK249) | ((with_reducible refine gate_callee (f := 79) rfl ?_); refine goesL_ (some 8) rfl rfl Tryd.func79 KR rfl #[.string a0_0, .string a1] rfl TA ?_; (with_reducible refine (impl_compareNames.calls k a0_0 a1 t250 _ A3.out).mono ?_); rintro e w18 ⟨rfl, hb⟩; refine ⟨_, rfl, ?_⟩; replace BK249 := KB BK249 hb; replace HB := BS hb; clear hb; have hcz19 := cz3 BK249) | ((with_reducible refine gate_callee (f := 79) rfl ?_); refine goesL_ (some 14) rfl rfl Tryd.func79 KR rfl #[.string a0_1, .string a0_0] rfl TA ?_; (with_reducible refine (impl_compareNames.calls k a0_1 a0_0 t251 _ A8.out).mono ?_); rintro e w20 ⟨rfl, hb⟩; refine ⟨_, rfl, ?_⟩; replace BK249 := KB BK249 hb; replace HB := BS hb; clear hb; have hcz21 := cz3 BK249) | (go_at_call 79; (with_reducible refine (impl_compareNames.calls k a1 a0_1 t252 _ A15.out).mono ?_); rintro e w22 ⟨rfl, hb⟩; replace BK249 := KB BK249 hb; replace HB := BS hb; clear hb))
   go_ret
   exact ⟨TE, TB⟩
end
section
/-! ### slices_Clone_int_int: function 127 -/
def slices_Clone_int_int.f (l0 : List Int) : Option (List Int) := (some (([] : List Int) : List Int)).bind fun y456 => (if y456.length + l0.length < 17592186044416 then (some (y456 ++ l0)) else (none))
theorem slices_Clone_int_int.calls (A0 : Option Addr) (c0 : Nat) (l0 : List Int) (r : List Int) (w : World) (hr0 : Kd.C (Kd.int .i64) w A0 l0.length l0) (hc0 : l0.length ≤ c0) (h : slices_Clone_int_int.f l0 = some r) :
  Calls Tryd.prog 127 #[.slice A0 l0.length c0] w fun e w' => ∃ v0_ : Value, e = .returned (v0_) ∧ Kd.R (Kd.int .i64) 3 w' w.heap.size (fun _ => True) v0_ r ∧ Below w.heap.size w w' := by
 have HR0 := Aside0.mk hr0
 have HC0 := Aside0.mk hc0
 clear hr0 hc0
 have HB := Aside0.mk (Below.refl w.heap.size w)
 have H : ((some (([] : List Int) : List Int)).bind fun y456 => (if y456.length + l0.length < 17592186044416 then (some (y456 ++ l0)) else (none))) = some r := h
 clear h
 cases A0 with
 | none =>
  have hz_ : l0 = [] := Kd.C_none_nil HR0.out
  subst hz_
  have hnq_ : ∀ W, (Go.binOp .eql 39 (.slice none 0 c0) (.slice none 0 0)).run Tryd.prog W = .ok (.bool true) W := fun W => Go.Lib.run_eql_slice_nil W 39 3 none 0 c0 0 0 Tryd.underlying39
  replace H : (some ([] : List Int)) = some r := by simpa using H
  obtain rfl := Option.some.inj H
  go_enter Tryd.func127, Tryd.ntmps127
  go_wp2
  go_ret
  exact ⟨_, TE, TZ, TB⟩
 | some adq_ =>
  have hnq_ : ∀ W, (Go.binOp .eql 39 (.slice (some adq_) l0.length c0) (.slice none 0 0)).run Tryd.prog W = .ok (.bool false) W := fun W => Go.Lib.run_eql_slice_nil W 39 3 (some adq_) l0.length c0 0 0 Tryd.underlying39
  obtain ⟨y456, hy456⟩ : ∃ y_ : List Int, y_ = (([] : List Int)) := ⟨_, rfl⟩
  replace H : (if y456.length + l0.length < 17592186044416 then (some (y456 ++ l0)) else (none)) = some r := by first | (rw [hy456]; with_reducible exact H) | (have H2_ := (Option.bind_some _ _).symm.trans H; rw [hy456]; with_reducible exact H2_) | (have H2_ := (Option.bind_some _ _).symm.trans H; with_reducible exact H2_) | with_reducible exact H | (rw [hy456]; exact H) | exact H
  have Ny456 := Aside0.mk hy456
  clear hy456
  obtain ⟨c2, H⟩ := ifn H
  have LMc2 := Aside0.mk c2
  clear c2
  obtain ⟨y459, hy459⟩ : ∃ y_ : List Int, y_ = (y456 ++ l0) := ⟨_, rfl⟩
  replace H : (some y459) = some r := by first | (rw [hy459]; with_reducible exact H) | (have H2_ := (Option.bind_some _ _).symm.trans H; rw [hy459]; with_reducible exact H2_) | (have H2_ := (Option.bind_some _ _).symm.trans H; with_reducible exact H2_) | with_reducible exact H | (rw [hy459]; exact H) | exact H
  have Ny459 := Aside0.mk hy459
  clear hy459
  obtain rfl := Option.some.inj H
  go_enter Tryd.func127, Tryd.ntmps127
  go_wp2_with (first | ((with_reducible refine gate_dst (N := 5) rfl ?_); refine Kd.R_lit (Kd.int .i64) _ 3 ?hg (N := 5) ?hd (xs := ([] : List Int)) (inner := []) (ok := fun _ => True) (okp := fun _ => True) ?hr ?hp (fun _ hk => hk) trivial (Below.refl _ _) (Nat.le_refl _) (by simp) ?_; (case hd => rfl); (case hg => rfl); (case hr => first | (go_simp; done) | (go_simp; rfl)); (case hp => exact (Reps.none _ _)); intro v457 w3 ho4 hb hg_ hnew_; clear hg_ hnew_; (first | rw [← Ny456.out] at ho4 | (simp only [Int.reduceToNat] at ho4; rw [← Ny456.out] at ho4)); have HO458 := RL ho4; replace HB := BS hb; clear hb ho4) | ((with_reducible refine gate_builtin (b := .append) (xs := #[.tmp 5, .tmp 6]) rfl ?_); at_builtin; refine Kd.R_append_rows (Kd.int .i64) (w0 := w) w.heap.size rfl (.tmp 5) (.tmp 6) 39 3 (.int .i64 0) 8 rfl Tryd.underlying39 info3 rfl (by decide) (by omega) v457 y456 l0 _ _ _ (fun _ => True) (fun _ => False) rfl rfl ?aO ?aR (fun _ _ h => h) (fun _ h => h.elim) ?aF ?aB ?aS ?aL ?_; (case aR => repeat (first | exact (Kd.C_below HR0.out HB.out) | (with_reducible refine Kd.C_alloc ?_ _) | (with_reducible refine Kd.C_drewN ?_ _) | (with_reducible refine Kd.C_drew ?_))); (case aB => exact TB); (case aF => exact (fun _ _ => trivial)); (case aO => exact (RW HO458).out); (case aS => exact (below_size TB)); (case aL => have := LMc2.out; omega); intro v460 w5 ho hb hg hat; rw [← Ny459.out] at ho; have n0_ := Aside0.mk (hb); have n1_ := Aside0.mk (ho); clear HB; clear HO458; have HB := n0_; have HO461 := n1_; clear n0_ n1_; clear ho hb hg hat))
  go_ret
  exact ⟨_, TE, (RW HO461).out, TB⟩
end
section
/-! ### impl_ownGap: function 114 -/
def impl_ownGap.f (a0_0 : ByteArray) (a0_1 : ByteArray) (l0_2 : List Int) : Option (ByteArray × ByteArray × List Int) := (slices_Clone_int_int.f l0_2).bind fun t464 => (some (a0_0, a0_1, t464))
theorem impl_ownGap.calls (a0_0 : ByteArray) (a0_1 : ByteArray) (A0_2 : Option Addr) (c0_2 : Nat) (l0_2 : List Int) (r1 : ByteArray) (r2 : ByteArray) (r3 : List Int) (w : World) (hr0_2 : Kd.C (Kd.int .i64) w A0_2 l0_2.length l0_2) (hc0_2 : l0_2.length ≤ c0_2) (h : impl_ownGap.f a0_0 a0_1 l0_2 = some (r1, r2, r3)) :
  Calls Tryd.prog 114 #[.agg #[.string a0_0, .string a0_1, .slice A0_2 l0_2.length c0_2]] w fun e w' => ∃ v2_ : Value, e = .returned (.agg #[.string r1, .string r2, v2_]) ∧ Kd.R (Kd.int .i64) 3 w' w.heap.size (fun _ => True) v2_ r3 ∧ Below w.heap.size w w' := by
 have hu44 := Tryd.underlying44
 have HR0_2 := Aside0.mk hr0_2
 have HC0_2 := Aside0.mk hc0_2
 clear hr0_2 hc0_2
 have HB := Aside0.mk (Below.refl w.heap.size w)
 have H : ((slices_Clone_int_int.f l0_2).bind fun t464 => (some (a0_0, a0_1, t464))) = some (r1, r2, r3) := h
 clear h
 obtain ⟨t464, A2, H⟩ := bnd H
 simp only [Option.some.injEq, Prod.mk.injEq] at H
 obtain ⟨rfl, rfl, rfl⟩ := H
 go_enter Tryd.func114, Tryd.ntmps114
 go_wp2_with (first | ((with_reducible refine gate_dst (N := 1) rfl ?_); refine bE 1 #[.string a0_0, .string a0_1, .slice A0_2 l0_2.length c0_2] 44 ?_; intro gb462 hg w3 hbox hb; have BK462 := Aside0.mk (hbox); have GE462 := bG hg; replace HB := BS hb; clear hb hbox hg) | ((with_reducible refine gate_dst (N := 2) rfl ?_); refine bE 2 #[.string (⟨#[]⟩ : ByteArray), .string (⟨#[]⟩ : ByteArray), .slice none 0 0] 44 ?_; intro gb463 hg w4 hbox hb; have BK463 := Aside0.mk (hbox); have GE463 := bG hg; replace HB := BS hb; have NB462_463 := bN BK462 hg; have NB463_462 := bM BK462 hg; replace BK462 := KB BK462 hb; clear hb hbox hg; obtain ⟨hnb5, hnc5⟩ := nn NB462_463; have hcz6 := cz3 BK462) | ((with_reducible refine gate_callee (f := 127) rfl ?_); refine goesL_ (some 5) rfl rfl Tryd.func127 KR rfl #[.slice A0_2 l0_2.length c0_2] rfl TA ?_; (with_reducible refine (slices_Clone_int_int.calls _ _ l0_2 t464 _ ?side1 ?side2 A2.out).mono ?_); (case side1 => exact CW ((Kd.C_below HR0_2.out HB.out))); (case side2 => exact HC0_2.out); rintro e w7 ⟨v465, rfl, ho0, hb⟩; refine ⟨_, rfl, ?_⟩; have HO466 := RL ho0; replace BK462 := KB BK462 hb; replace BK463 := KB BK463 hb; replace HB := BS hb; clear hb; (try clear ho0); obtain ⟨Ao8, co8, eo8⟩ := Kd.R_slice HO466.out; subst eo8; have hcz9 := cz3 BK462; have hcz10 := cz3 BK463))
 refine bodyPost_ret (results_cell_row rfl _ _ gb463 44 #[.string a0_0, .string a0_1, .slice Ao8 t464.length co8] (0, 0) _ rfl (by (with_reducible repeat (first | refine blk_drewN ?_ _ | refine blk_drew ?_ | refine blk_alloc ?_ _)); refine blk_put (cs := #[.string a0_0, .string a0_1, .slice none 0 0]) ?_ 2 _ rfl; (with_reducible repeat (first | refine blk_drewN ?_ _ | refine blk_drew ?_ | refine blk_alloc ?_ _)); refine blk_put (cs := #[.string a0_0, .string (⟨#[]⟩ : ByteArray), .slice none 0 0]) ?_ 1 _ rfl; (with_reducible repeat (first | refine blk_drewN ?_ _ | refine blk_drew ?_ | refine blk_alloc ?_ _)); refine blk_put (cs := #[.string (⟨#[]⟩ : ByteArray), .string (⟨#[]⟩ : ByteArray), .slice none 0 0]) ?_ 0 _ rfl; (with_reducible repeat (first | refine blk_drewN ?_ _ | refine blk_drew ?_ | refine blk_alloc ?_ _)); refine blk_far ?_ NB463_462.out _; (with_reducible repeat (first | refine blk_drewN ?_ _ | refine blk_drew ?_ | refine blk_alloc ?_ _)); exact BK463.out) Tryd.underlying44 rfl KR) rfl ?_
 exact ⟨_, TE, by (with_reducible repeat (first | apply Kd.R_alloc | apply Kd.R_drewN | apply Kd.R_drew)); exact Kd.R_mono (Kd.R_far (p := ⟨gb463, 2, none⟩) (Kd.R_far (p := ⟨gb463, 1, none⟩) (Kd.R_far (p := ⟨gb463, 0, none⟩) (Kd.R_far (p := ⟨gb462, 2, none⟩) (Kd.R_types (Kd.R_types HO466.out BK462.out (by decide)) BK463.out (by decide)) (fun _ hk => hk.1.2) (.slice Ao8 t464.length co8)) (fun _ hk => hk.2) (.string a0_0)) (fun _ hk => hk.2) (.string a0_1)) (fun _ hk => hk.2) (.slice Ao8 t464.length co8)) (fun _ hk => trivial), TB⟩
end
section
/-! ### impl_gapFor: function 89 -/
def impl_gapFor.l0 : Nat → ByteArray → List (S_Gap) → Int → Int → Option (ByteArray × ByteArray × List Int)
 | 0, _, _, _, _ => none
 | k + 1, x1, x7, x8, x9 => if x9 < x8 then (if 0 ≤ x9 then (if x9 < (x7.length : Int) then (if ((rd_TGap x7 x9).f0).toList = x1.toList then ((impl_ownGap.f ((rd_TGap x7 x9).f0) ((rd_TGap x7 x9).f1) ((rd_TGap x7 x9).f2)).bind fun bt470 => (some (bt470.1, bt470.2.1, bt470.2.2))) else ((impl_covers.f k ((rd_TGap x7 x9).f0) ((rd_TGap x7 x9).f1) ((rd_TGap x7 x9).f2) x1).bind fun t475 => (if t475 = true then ((impl_ownGap.f ((rd_TGap x7 x9).f0) ((rd_TGap x7 x9).f1) ((rd_TGap x7 x9).f2)).bind fun bt476 => (some (bt476.1, bt476.2.1, bt476.2.2))) else (impl_gapFor.l0 k x1 x7 x8 (wrap64 (x9 + 1)))))) else (none)) else (none)) else (some ((⟨#[]⟩ : ByteArray), (⟨#[]⟩ : ByteArray), ([] : List Int)))
def impl_gapFor.f (k : Nat) (l0 : List (S_Gap)) (a1 : ByteArray) : Option (ByteArray × ByteArray × List Int) := impl_gapFor.l0 k a1 l0 (l0.length : Int) 0
theorem impl_gapFor.calls (k : Nat) (A0 : Option Addr) (c0 : Nat) (l0 : List (S_Gap)) (a1 : ByteArray) (r1 : ByteArray) (r2 : ByteArray) (r3 : List Int) (w : World) (hr0 : Kd.C k_Gap w A0 l0.length l0) (hc0 : l0.length ≤ c0) (h : impl_gapFor.f k l0 a1 = some (r1, r2, r3)) :
  Calls Tryd.prog 89 #[.slice A0 l0.length c0, .string a1] w fun e w' => ∃ v2_ : Value, e = .returned (.agg #[.string r1, .string r2, v2_]) ∧ Kd.R (Kd.int .i64) 3 w' w.heap.size (fun _ => True) v2_ r3 ∧ Below w.heap.size w w' := by
 have hu44 := Tryd.underlying44
 have HR0 := Aside0.mk hr0
 have HC0 := Aside0.mk hc0
 clear hr0 hc0
 have HB := Aside0.mk (Below.refl w.heap.size w)
 have H : (impl_gapFor.l0 k a1 l0 (l0.length : Int) 0) = some (r1, r2, r3) := h
 clear h
 have H' := Aside0.mk H
 clear H
 go_enter Tryd.func89, Tryd.ntmps89
 go_wp2_with (first | ((with_reducible refine gate_dst (N := 4) rfl ?_); refine bE 4 #[.string (⟨#[]⟩ : ByteArray), .string (⟨#[]⟩ : ByteArray), .slice none 0 0] 44 ?_; intro gb467 hg w3 hbox hb; have BK467 := Aside0.mk (hbox); have GE467 := bG hg; replace HB := BS hb; clear hb hbox hg))
 go_loopg [9] k (fun kq v9 w' => ∃ (x9_1 : Int) (x468000_1 : ByteArray) (x468001_1 : ByteArray), v9 = .int .i64 x9_1 ∧ Aside0 (impl_gapFor.l0 kq a1 l0 (l0.length : Int) x9_1 = some (r1, r2, r3)) ∧ Aside0 (kq ≤ k) ∧ Aside0 (w'.heap[gb467]? = some (.cells #[.string x468000_1, .string x468001_1, (.slice none 0 0)] 44 (0, 0))) ∧ Aside0 (Below w.heap.size w w'))
 case atStart => exact ⟨(0), ((⟨#[]⟩ : ByteArray)), ((⟨#[]⟩ : ByteArray)), TF, H', ⟨Nat.le_refl _⟩, KW BK467, ⟨TB⟩⟩
 case round =>
  clear H'
  obtain ⟨x9_1, x468000_1, x468001_1, rfl, HA, HK1, BK467, HB⟩ := hrel
  cases gk with
  | zero => exact absurd HA.out (by simp [impl_gapFor.l0])
  | succ k1 =>
   have H := HA.out
   clear HA
   simp only [impl_gapFor.l0] at H
   by_cases c4 : x9_1 < (l0.length : Int)
   ·rw [if_pos c4] at H
    have c4b0 : decide (x9_1 < (l0.length : Int)) = true := decide_eq_true c4
    clear c4
    obtain ⟨c5, H⟩ := ifn H
    have c5b0 : decide (0 ≤ x9_1) = true := decide_eq_true c5
    clear c5
    obtain ⟨c6, H⟩ := ifn H
    have c6b0 : decide (x9_1 < (l0.length : Int)) = true := decide_eq_true c6
    clear c6
    by_cases c7 : ((rd_TGap l0 x9_1).f0).toList = a1.toList
    ·rw [if_pos c7] at H
     have c7b0 : (((rd_TGap l0 x9_1).f0).toList == a1.toList) = true := beq_iff_eq.mpr c7
     have c7b1 : (((rd_TGap l0 x9_1).f0).toList != a1.toList) = false := bne_eq_false_iff_eq.mpr c7
     clear c7
     obtain ⟨⟨t470, t471, t472⟩, A8, H⟩ := bnd H
     try dsimp only at H
     simp only [Option.some.injEq, Prod.mk.injEq] at H
     obtain ⟨rfl, rfl, rfl⟩ := H
     have p468 : 0 ≤ (x9_1 : Int) := TD
     have q468 : x9_1 < (l0.length : Int) := TD
     obtain ⟨ad468, A468_2, c468_2, e468, hx468_0, hx468_1, hx468_2, hl468_2, hi468_2⟩ := at_TGap HR0.out x9_1 p468 q468
     cases e468
     replace hx468_0 := hBc HB hx468_0
     replace hx468_1 := hBc HB hx468_1
     replace hx468_2 := hBc HB hx468_2
     have HR468_2 := Aside0.mk hi468_2
     have HC468_2 := Aside0.mk hl468_2
     clear hi468_2 hl468_2
     replace p468 := eq_true p468
     replace q468 := eq_true q468
     go_wp2_with (first | ((with_reducible refine gate_dst (N := 6) rfl ?_); refine bE 6 #[.string (⟨#[]⟩ : ByteArray), .string (⟨#[]⟩ : ByteArray), .slice none 0 0] 44 ?_; intro gb469 hg w9 hbox hb; have BK469 := Aside0.mk (hbox); have GE469 := bG hg; replace HB := BS hb; have NB467_469 := bN BK467 hg; have NB469_467 := bM BK467 hg; replace BK467 := KB BK467 hb; clear hb hbox hg; obtain ⟨hnb10, hnc10⟩ := nn NB469_467; have hcz11 := cz3 BK469) | ((with_reducible refine gate_callee (f := 114) rfl ?_); refine goesL_ (some 23) rfl rfl Tryd.func114 KR rfl #[.agg #[.string ((rd_TGap l0 x9_1).f0), .string ((rd_TGap l0 x9_1).f1), .slice A468_2 ((rd_TGap l0 x9_1).f2).length c468_2]] rfl TA ?_; (with_reducible refine (impl_ownGap.calls ((rd_TGap l0 x9_1).f0) ((rd_TGap l0 x9_1).f1) _ _ ((rd_TGap l0 x9_1).f2) t470 t471 t472 _ ?side1 ?side2 A8.out).mono ?_); (case side1 => exact Kd.C_below HR468_2.out TB); (case side2 => exact HC468_2.out); rintro e w12 ⟨v473, rfl, ho0, hb⟩; refine ⟨_, rfl, ?_⟩; have HO474 := RL ho0; replace BK467 := KF BK467 hb; replace BK469 := KP BK469 #[.string ((rd_TGap l0 x9_1).f0), .string ((rd_TGap l0 x9_1).f1), .slice A468_2 ((rd_TGap l0 x9_1).f2).length c468_2] hb; replace HB := BS hb; clear hb; (try clear ho0); have hcz13 := cz3 BK467; obtain ⟨Ao14, co14, eo14⟩ := Kd.R_slice HO474.out; subst eo14))
     refine bodyPost_ret (results_cell_row rfl _ _ gb467 44 #[.string t470, .string t471, .slice Ao14 t472.length co14] (0, 0) _ rfl (by (with_reducible repeat (first | refine blk_drewN ?_ _ | refine blk_drew ?_ | refine blk_alloc ?_ _)); refine blk_put (cs := #[.string t470, .string t471, .slice none 0 0]) ?_ 2 _ rfl; (with_reducible repeat (first | refine blk_drewN ?_ _ | refine blk_drew ?_ | refine blk_alloc ?_ _)); refine blk_put (cs := #[.string t470, .string x468001_1, .slice none 0 0]) ?_ 1 _ rfl; (with_reducible repeat (first | refine blk_drewN ?_ _ | refine blk_drew ?_ | refine blk_alloc ?_ _)); refine blk_put (cs := #[.string x468000_1, .string x468001_1, .slice none 0 0]) ?_ 0 _ rfl; (with_reducible repeat (first | refine blk_drewN ?_ _ | refine blk_drew ?_ | refine blk_alloc ?_ _)); exact BK467.out) Tryd.underlying44 rfl KR) rfl ?_
     exact ⟨_, TE, by (with_reducible repeat (first | apply Kd.R_alloc | apply Kd.R_drewN | apply Kd.R_drew)); exact Kd.R_mono (Kd.R_far (p := ⟨gb467, 2, none⟩) (Kd.R_far (p := ⟨gb467, 1, none⟩) (Kd.R_far (p := ⟨gb467, 0, none⟩) (Kd.R_types HO474.out BK467.out (by decide)) (fun _ hk => hk.2) (.string t470)) (fun _ hk => hk.2) (.string t471)) (fun _ hk => hk.2) (.slice Ao14 t472.length co14)) (fun _ hk => trivial), TB⟩
    ·rw [if_neg c7] at H
     have c7b0 : (((rd_TGap l0 x9_1).f0).toList == a1.toList) = false := beq_eq_false_iff_ne.mpr c7
     have c7b1 : (((rd_TGap l0 x9_1).f0).toList != a1.toList) = true := bne_iff_ne.mpr c7
     obtain ⟨t475, A15, H⟩ := bnd H
     by_cases c16 : t475 = true
     ·subst c16
      replace H := ift H
      obtain ⟨⟨t476, t477, t478⟩, A17, H⟩ := bnd H
      try dsimp only at H
      simp only [Option.some.injEq, Prod.mk.injEq] at H
      obtain ⟨rfl, rfl, rfl⟩ := H
      have p468 : 0 ≤ (x9_1 : Int) := TD
      have q468 : x9_1 < (l0.length : Int) := TD
      obtain ⟨ad468, A468_2, c468_2, e468, hx468_0, hx468_1, hx468_2, hl468_2, hi468_2⟩ := at_TGap HR0.out x9_1 p468 q468
      cases e468
      replace hx468_0 := hBc HB hx468_0
      replace hx468_1 := hBc HB hx468_1
      replace hx468_2 := hBc HB hx468_2
      have HR468_2 := Aside0.mk hi468_2
      have HC468_2 := Aside0.mk hl468_2
      clear hi468_2 hl468_2
      replace p468 := eq_true p468
      replace q468 := eq_true q468
      go_wp2_with (first | ((with_reducible refine gate_dst (N := 6) rfl ?_); refine bE 6 #[.string (⟨#[]⟩ : ByteArray), .string (⟨#[]⟩ : ByteArray), .slice none 0 0] 44 ?_; intro gb469 hg w18 hbox hb; have BK469 := Aside0.mk (hbox); have GE469 := bG hg; replace HB := BS hb; have NB467_469 := bN BK467 hg; have NB469_467 := bM BK467 hg; replace BK467 := KB BK467 hb; clear hb hbox hg; obtain ⟨hnb19, hnc19⟩ := nn NB469_467; have hcz20 := cz3 BK469) | (go_at_call 69; (with_reducible refine (impl_covers.calls k1 ((rd_TGap l0 x9_1).f0) ((rd_TGap l0 x9_1).f1) _ _ ((rd_TGap l0 x9_1).f2) a1 true _ ?side1 ?side2 A15.out).mono ?_); (case side1 => exact Kd.C_below HR468_2.out TB); (case side2 => exact HC468_2.out); rintro e w21 ⟨rfl, hb⟩; replace BK467 := KF BK467 hb; replace BK469 := KP BK469 #[.string ((rd_TGap l0 x9_1).f0), .string ((rd_TGap l0 x9_1).f1), .slice A468_2 ((rd_TGap l0 x9_1).f2).length c468_2] hb; replace HB := BS hb; clear hb; have hcz22 := cz3 BK469) | ((with_reducible refine gate_callee (f := 114) rfl ?_); refine goesL_ (some 23) rfl rfl Tryd.func114 KR rfl #[.agg #[.string ((rd_TGap l0 x9_1).f0), .string ((rd_TGap l0 x9_1).f1), .slice A468_2 ((rd_TGap l0 x9_1).f2).length c468_2]] rfl TA ?_; (with_reducible refine (impl_ownGap.calls ((rd_TGap l0 x9_1).f0) ((rd_TGap l0 x9_1).f1) _ _ ((rd_TGap l0 x9_1).f2) t476 t477 t478 _ ?side1 ?side2 A17.out).mono ?_); (case side1 => exact CW ((Kd.C_below HR468_2.out HB.out))); (case side2 => exact HC468_2.out); rintro e w23 ⟨v479, rfl, ho0, hb⟩; refine ⟨_, rfl, ?_⟩; have HO480 := RL ho0; replace BK467 := KB BK467 hb; replace BK469 := KB BK469 hb; replace HB := BS hb; clear hb; (try clear ho0); have hcz24 := cz3 BK467; obtain ⟨Ao25, co25, eo25⟩ := Kd.R_slice HO480.out; subst eo25))
      refine bodyPost_ret (results_cell_row rfl _ _ gb467 44 #[.string t476, .string t477, .slice Ao25 t478.length co25] (0, 0) _ rfl (by (with_reducible repeat (first | refine blk_drewN ?_ _ | refine blk_drew ?_ | refine blk_alloc ?_ _)); refine blk_put (cs := #[.string t476, .string t477, .slice none 0 0]) ?_ 2 _ rfl; (with_reducible repeat (first | refine blk_drewN ?_ _ | refine blk_drew ?_ | refine blk_alloc ?_ _)); refine blk_put (cs := #[.string t476, .string x468001_1, .slice none 0 0]) ?_ 1 _ rfl; (with_reducible repeat (first | refine blk_drewN ?_ _ | refine blk_drew ?_ | refine blk_alloc ?_ _)); refine blk_put (cs := #[.string x468000_1, .string x468001_1, .slice none 0 0]) ?_ 0 _ rfl; (with_reducible repeat (first | refine blk_drewN ?_ _ | refine blk_drew ?_ | refine blk_alloc ?_ _)); exact BK467.out) Tryd.underlying44 rfl KR) rfl ?_
      exact ⟨_, TE, by (with_reducible repeat (first | apply Kd.R_alloc | apply Kd.R_drewN | apply Kd.R_drew)); exact Kd.R_mono (Kd.R_far (p := ⟨gb467, 2, none⟩) (Kd.R_far (p := ⟨gb467, 1, none⟩) (Kd.R_far (p := ⟨gb467, 0, none⟩) (Kd.R_types HO480.out BK467.out (by decide)) (fun _ hk => hk.2) (.string t476)) (fun _ hk => hk.2) (.string t477)) (fun _ hk => hk.2) (.slice Ao25 t478.length co25)) (fun _ hk => trivial), TB⟩
     ·replace c16 := Bool.eq_false_iff.mpr c16
      subst c16
      replace H := iff' H
      have H' := Aside0.mk H
      clear H
      have p468 : 0 ≤ (x9_1 : Int) := TD
      have q468 : x9_1 < (l0.length : Int) := TD
      obtain ⟨ad468, A468_2, c468_2, e468, hx468_0, hx468_1, hx468_2, hl468_2, hi468_2⟩ := at_TGap HR0.out x9_1 p468 q468
      cases e468
      replace hx468_0 := hBc HB hx468_0
      replace hx468_1 := hBc HB hx468_1
      replace hx468_2 := hBc HB hx468_2
      have HR468_2 := Aside0.mk hi468_2
      have HC468_2 := Aside0.mk hl468_2
      clear hi468_2 hl468_2
      replace p468 := eq_true p468
      replace q468 := eq_true q468
      go_wp2_with (first | ((with_reducible refine gate_dst (N := 6) rfl ?_); refine bE 6 #[.string (⟨#[]⟩ : ByteArray), .string (⟨#[]⟩ : ByteArray), .slice none 0 0] 44 ?_; intro gb469 hg w26 hbox hb; have BK469 := Aside0.mk (hbox); have GE469 := bG hg; replace HB := BS hb; have NB467_469 := bN BK467 hg; have NB469_467 := bM BK467 hg; replace BK467 := KB BK467 hb; clear hb hbox hg; obtain ⟨hnb27, hnc27⟩ := nn NB469_467; have hcz28 := cz3 BK469) | (go_at_call 69; (with_reducible refine (impl_covers.calls k1 ((rd_TGap l0 x9_1).f0) ((rd_TGap l0 x9_1).f1) _ _ ((rd_TGap l0 x9_1).f2) a1 false _ ?side1 ?side2 A15.out).mono ?_); (case side1 => exact Kd.C_below HR468_2.out TB); (case side2 => exact HC468_2.out); rintro e w29 ⟨rfl, hb⟩; replace BK467 := KF BK467 hb; replace BK469 := KP BK469 #[.string ((rd_TGap l0 x9_1).f0), .string ((rd_TGap l0 x9_1).f1), .slice A468_2 ((rd_TGap l0 x9_1).f2).length c468_2] hb; replace HB := BS hb; clear hb))
      go_roundg k1
      case measure => have := HK1.out; omega
      case rel => exact ⟨(wrap64 (x9_1 + 1)), (x468000_1), (x468001_1), TF, H', ⟨TM⟩, KW BK467, ⟨TB⟩⟩
   ·rw [if_neg c4] at H
    have c4b0 : decide (x9_1 < (l0.length : Int)) = false := decide_eq_false c4
    clear c4
    simp only [Option.some.injEq, Prod.mk.injEq] at H
    obtain ⟨rfl, rfl, rfl⟩ := H
    have hcz30 := cz3 BK467
    go_wp2
    refine bodyPost_ret (results_cell_row rfl _ _ gb467 44 #[.string (⟨#[]⟩ : ByteArray), .string (⟨#[]⟩ : ByteArray), .slice none 0 0] (0, 0) _ rfl (by (with_reducible repeat (first | refine blk_drewN ?_ _ | refine blk_drew ?_ | refine blk_alloc ?_ _)); refine blk_put (cs := #[.string (⟨#[]⟩ : ByteArray), .string (⟨#[]⟩ : ByteArray), .slice none 0 0]) ?_ 2 _ rfl; (with_reducible repeat (first | refine blk_drewN ?_ _ | refine blk_drew ?_ | refine blk_alloc ?_ _)); refine blk_put (cs := #[.string (⟨#[]⟩ : ByteArray), .string x468001_1, .slice none 0 0]) ?_ 1 _ rfl; (with_reducible repeat (first | refine blk_drewN ?_ _ | refine blk_drew ?_ | refine blk_alloc ?_ _)); refine blk_put (cs := #[.string x468000_1, .string x468001_1, .slice none 0 0]) ?_ 0 _ rfl; (with_reducible repeat (first | refine blk_drewN ?_ _ | refine blk_drew ?_ | refine blk_alloc ?_ _)); exact BK467.out) Tryd.underlying44 rfl KR) rfl ?_
    exact ⟨_, TE, TZ, TB⟩
end
section
/-! ### impl_GapFor: function 48 -/
def impl_GapFor.f (k : Nat) (l0 : List (S_Gap)) (a1 : ByteArray) : Option (ByteArray × ByteArray × List Int × Bool) := if (l0.length : Int) = 0 then (some ((⟨#[]⟩ : ByteArray), (⟨#[]⟩ : ByteArray), ([] : List Int), false)) else (if 0 < (l0.length : Int) then ((impl_GoodGaps.f k ((rd_TGap l0 0).f0) l0).bind fun t483 => (if t483 = true then ((impl_GoodName.f k a1).bind fun t484 => (if t484 = true then ((impl_isBelow.f a1 ((rd_TGap l0 0).f0)).bind fun t486 => (if t486 = true then ((impl_gapFor.f k l0 a1).bind fun bt487 => (some (bt487.1, bt487.2.1, bt487.2.2, true))) else (some ((⟨#[]⟩ : ByteArray), (⟨#[]⟩ : ByteArray), ([] : List Int), false)))) else (some ((⟨#[]⟩ : ByteArray), (⟨#[]⟩ : ByteArray), ([] : List Int), false)))) else (some ((⟨#[]⟩ : ByteArray), (⟨#[]⟩ : ByteArray), ([] : List Int), false)))) else (none))
theorem impl_GapFor.calls (k : Nat) (A0 : Option Addr) (c0 : Nat) (l0 : List (S_Gap)) (a1 : ByteArray) (r1 : ByteArray) (r2 : ByteArray) (r3 : List Int) (r4 : Bool) (w : World) (hr0 : Kd.C k_Gap w A0 l0.length l0) (hc0 : l0.length ≤ c0) (h : impl_GapFor.f k l0 a1 = some (r1, r2, r3, r4)) :
  Calls Tryd.prog 48 #[.slice A0 l0.length c0, .string a1] w fun e w' => ∃ v2_ : Value, e = .returned (.tuple #[.agg #[.string r1, .string r2, v2_], .bool r4]) ∧ Kd.R (Kd.int .i64) 3 w' w.heap.size (fun _ => True) v2_ r3 ∧ Below w.heap.size w w' := by
 have hu44 := Tryd.underlying44
 have HR0 := Aside0.mk hr0
 have HC0 := Aside0.mk hc0
 clear hr0 hc0
 have HB := Aside0.mk (Below.refl w.heap.size w)
 have H : (if (l0.length : Int) = 0 then (some ((⟨#[]⟩ : ByteArray), (⟨#[]⟩ : ByteArray), ([] : List Int), false)) else (if 0 < (l0.length : Int) then ((impl_GoodGaps.f k ((rd_TGap l0 0).f0) l0).bind fun t483 => (if t483 = true then ((impl_GoodName.f k a1).bind fun t484 => (if t484 = true then ((impl_isBelow.f a1 ((rd_TGap l0 0).f0)).bind fun t486 => (if t486 = true then ((impl_gapFor.f k l0 a1).bind fun bt487 => (some (bt487.1, bt487.2.1, bt487.2.2, true))) else (some ((⟨#[]⟩ : ByteArray), (⟨#[]⟩ : ByteArray), ([] : List Int), false)))) else (some ((⟨#[]⟩ : ByteArray), (⟨#[]⟩ : ByteArray), ([] : List Int), false)))) else (some ((⟨#[]⟩ : ByteArray), (⟨#[]⟩ : ByteArray), ([] : List Int), false)))) else (none))) = some (r1, r2, r3, r4) := h
 clear h
 by_cases c3 : (l0.length : Int) = 0
 ·rw [if_pos c3] at H
  have c3b0 : ((l0.length : Int) == 0) = true := beq_iff_eq.mpr c3
  have c3b1 : ((l0.length : Int) != 0) = false := bne_eq_false_iff_eq.mpr c3
  clear c3
  simp only [Option.some.injEq, Prod.mk.injEq] at H
  obtain ⟨rfl, rfl, rfl, rfl⟩ := H
  go_enter Tryd.func48, Tryd.ntmps48
  go_wp2_with (first | ((with_reducible refine gate_dst (N := 4) rfl ?_); refine bE 4 #[.string (⟨#[]⟩ : ByteArray), .string (⟨#[]⟩ : ByteArray), .slice none 0 0] 44 ?_; intro gb481 hg w4 hbox hb; have BK481 := Aside0.mk (hbox); have GE481 := bG hg; replace HB := BS hb; clear hb hbox hg; have hcz5 := cz3 BK481))
  refine bodyPost_ret (results_ct rfl _ _ gb481 44 #[.string (⟨#[]⟩ : ByteArray), .string (⟨#[]⟩ : ByteArray), .slice none 0 0] (0, 0) _ rfl (by (with_reducible repeat (first | refine blk_drewN ?_ _ | refine blk_drew ?_ | refine blk_alloc ?_ _)); refine blk_put (cs := #[.string (⟨#[]⟩ : ByteArray), .string (⟨#[]⟩ : ByteArray), .slice none 0 0]) ?_ 2 _ rfl; (with_reducible repeat (first | refine blk_drewN ?_ _ | refine blk_drew ?_ | refine blk_alloc ?_ _)); refine blk_put (cs := #[.string (⟨#[]⟩ : ByteArray), .string (⟨#[]⟩ : ByteArray), .slice none 0 0]) ?_ 1 _ rfl; (with_reducible repeat (first | refine blk_drewN ?_ _ | refine blk_drew ?_ | refine blk_alloc ?_ _)); refine blk_put (cs := #[.string (⟨#[]⟩ : ByteArray), .string (⟨#[]⟩ : ByteArray), .slice none 0 0]) ?_ 0 _ rfl; (with_reducible repeat (first | refine blk_drewN ?_ _ | refine blk_drew ?_ | refine blk_alloc ?_ _)); exact BK481.out) Tryd.underlying44 rfl KR) rfl ?_
  exact ⟨_, TE, TZ, TB⟩
 ·rw [if_neg c3] at H
  have c3b0 : ((l0.length : Int) == 0) = false := beq_eq_false_iff_ne.mpr c3
  have c3b1 : ((l0.length : Int) != 0) = true := bne_iff_ne.mpr c3
  have c3b2 : ¬ (l0 = []) := fun h_ => c3 (by rw [h_]; rfl)
  obtain ⟨c6, H⟩ := ifn H
  have c6b0 : decide (0 < (l0.length : Int)) = true := decide_eq_true c6
  have c6b1 : decide (0 < l0.length) = true := decide_eq_true (by omega)
  clear c6
  obtain ⟨t483, A7, H⟩ := bnd H
  by_cases c8 : t483 = true
  ·subst c8
   replace H := ift H
   obtain ⟨t484, A9, H⟩ := bnd H
   by_cases c10 : t484 = true
   ·subst c10
    replace H := ift H
    obtain ⟨t486, A11, H⟩ := bnd H
    by_cases c12 : t486 = true
    ·subst c12
     replace H := ift H
     obtain ⟨⟨t487, t488, t489⟩, A13, H⟩ := bnd H
     try dsimp only at H
     simp only [Option.some.injEq, Prod.mk.injEq] at H
     obtain ⟨rfl, rfl, rfl, rfl⟩ := H
     go_enter Tryd.func48, Tryd.ntmps48
     go_wp2_with (first | ((with_reducible refine gate_dst (N := 4) rfl ?_); refine bE 4 #[.string (⟨#[]⟩ : ByteArray), .string (⟨#[]⟩ : ByteArray), .slice none 0 0] 44 ?_; intro gb481 hg w14 hbox hb; have BK481 := Aside0.mk (hbox); have GE481 := bG hg; replace HB := BS hb; clear hb hbox hg; have p482 : 0 ≤ (0 : Int) := (by omega); have q482 : 0 < (l0.length : Int) := TD; obtain ⟨ad482, A482_2, c482_2, e482, hx482_0, hx482_1, hx482_2, hl482_2, hi482_2⟩ := at_TGap HR0.out 0 p482 q482; cases e482; have qi482 : (0 < l0.length) = True := eq_true (by omega); (try rw [show ((0 : Int)).toNat = 0 from rfl] at hx482_0); (try rw [show 0 * 3 = 0 from rfl] at hx482_0); (try rw [Addr.add_zero'] at hx482_0); (try rw [show ((0 : Int)).toNat = 0 from rfl] at hx482_1); (try rw [show 0 * 3 = 0 from rfl] at hx482_1); (try rw [Addr.add_zero'] at hx482_1); (try rw [show ((0 : Int)).toNat = 0 from rfl] at hx482_2); (try rw [show 0 * 3 = 0 from rfl] at hx482_2); (try rw [Addr.add_zero'] at hx482_2); replace hx482_0 := hBc HB hx482_0; replace hx482_1 := hBc HB hx482_1; replace hx482_2 := hBc HB hx482_2; have HR482_2 := Aside0.mk hi482_2; have HC482_2 := Aside0.mk hl482_2; clear hi482_2 hl482_2; replace p482 := eq_true p482; replace q482 := eq_true q482) | (go_at_call 41; (with_reducible refine (impl_GoodGaps.calls k ((rd_TGap l0 0).f0) _ _ l0 true _ ?side1 ?side2 A7.out).mono ?_); (case side1 => exact CW ((Kd.C_below HR0.out HB.out))); (case side2 => exact HC0.out); rintro e w15 ⟨rfl, hb⟩; replace BK481 := KB BK481 hb; replace HB := BS hb; clear hb) | (go_at_call 58; (with_reducible refine (impl_GoodName.calls k a1 true _ A9.out).mono ?_); rintro e w16 ⟨rfl, hb⟩; replace BK481 := KB BK481 hb; replace HB := BS hb; clear hb; have p485 : 0 ≤ (0 : Int) := (by omega); have q485 : 0 < (l0.length : Int) := TD; obtain ⟨ad485, A485_2, c485_2, e485, hx485_0, hx485_1, hx485_2, hl485_2, hi485_2⟩ := at_TGap HR0.out 0 p485 q485; obtain rfl : ad482 = ad485 := (by injection e485); have qi485 : (0 < l0.length) = True := eq_true (by omega); (try rw [show ((0 : Int)).toNat = 0 from rfl] at hx485_0); (try rw [show 0 * 3 = 0 from rfl] at hx485_0); (try rw [Addr.add_zero'] at hx485_0); (try rw [show ((0 : Int)).toNat = 0 from rfl] at hx485_1); (try rw [show 0 * 3 = 0 from rfl] at hx485_1); (try rw [Addr.add_zero'] at hx485_1); (try rw [show ((0 : Int)).toNat = 0 from rfl] at hx485_2); (try rw [show 0 * 3 = 0 from rfl] at hx485_2); (try rw [Addr.add_zero'] at hx485_2); replace hx485_0 := hBc HB hx485_0; replace hx485_1 := hBc HB hx485_1; replace hx485_2 := hBc HB hx485_2; have HR485_2 := Aside0.mk hi485_2; have HC485_2 := Aside0.mk hl485_2; clear hi485_2 hl485_2; replace p485 := eq_true p485; replace q485 := eq_true q485; (try (have eu_ := Option.some.inj (hx485_2.symm.trans (by first | exact hx482_2 | exact hHeld.1 | exact hHeld | exact hHeld.2.1 | exact hHeld.2 | exact hHeld.2.2.1 | exact hHeld.2.2 | exact hHeld.2.2.2.1 | exact hHeld.2.2.2 | exact hHeld.2.2.2.2.1 | exact hHeld.2.2.2.2 | exact hHeld.2.2.2.2.2.1 | exact hHeld.2.2.2.2.2 | exact hHeld.2.2.2.2.2.2.1 | exact hHeld.2.2.2.2.2.2 | exact hHeld.2.2.2.2.2.2.2.1 | exact hHeld.2.2.2.2.2.2.2 | exact hHeld.2.2.2.2.2.2.2.2.1 | exact hHeld.2.2.2.2.2.2.2.2 | exact hHeld.2.2.2.2.2.2.2.2.2.1 | exact hHeld.2.2.2.2.2.2.2.2.2)); injection eu_ with ea_ en_ ec_; subst ea_; subst ec_; clear en_))) | (go_at_call 77; (with_reducible refine (impl_isBelow.calls a1 ((rd_TGap l0 0).f0) true _ A11.out).mono ?_); rintro e w' ⟨rfl, ⟨nd, rfl⟩⟩; (try (rw [drewN_self w16]; generalize hq_ : World.drewN w16 _ = w16; have n0_ : Aside0 (w16.heap[gb481]? = some (.cells #[.string (⟨#[]⟩ : ByteArray), .string (⟨#[]⟩ : ByteArray), .slice none 0 0] 44 (0, 0))) := ⟨by rw [← hq_]; exact (KW BK481).out⟩; have n1_ : Aside0 (Below w.heap.size w w16) := ⟨by rw [← hq_]; exact TB⟩; clear BK481 HB hq_; have BK481 := n0_; have HB := n1_; clear n0_ n1_))) | ((with_reducible refine gate_callee (f := 89) rfl ?_); refine goesL_ (some 35) rfl rfl Tryd.func89 KR rfl #[.slice (some ad482) l0.length c0, .string a1] rfl TA ?_; (with_reducible refine (impl_gapFor.calls k _ _ l0 a1 t487 t488 t489 _ ?side1 ?side2 A13.out).mono ?_); (case side1 => exact CW ((Kd.C_below HR0.out HB.out))); (case side2 => exact HC0.out); rintro e w17 ⟨v490, rfl, ho0, hb⟩; refine ⟨_, rfl, ?_⟩; have HO491 := RL ho0; replace BK481 := KB BK481 hb; replace HB := BS hb; clear hb; (try clear ho0); have hcz18 := cz3 BK481; obtain ⟨Ao19, co19, eo19⟩ := Kd.R_slice HO491.out; subst eo19))
     refine bodyPost_ret (results_ct rfl _ _ gb481 44 #[.string t487, .string t488, .slice Ao19 t489.length co19] (0, 0) _ rfl (by (with_reducible repeat (first | refine blk_drewN ?_ _ | refine blk_drew ?_ | refine blk_alloc ?_ _)); refine blk_put (cs := #[.string t487, .string t488, .slice none 0 0]) ?_ 2 _ rfl; (with_reducible repeat (first | refine blk_drewN ?_ _ | refine blk_drew ?_ | refine blk_alloc ?_ _)); refine blk_put (cs := #[.string t487, .string (⟨#[]⟩ : ByteArray), .slice none 0 0]) ?_ 1 _ rfl; (with_reducible repeat (first | refine blk_drewN ?_ _ | refine blk_drew ?_ | refine blk_alloc ?_ _)); refine blk_put (cs := #[.string (⟨#[]⟩ : ByteArray), .string (⟨#[]⟩ : ByteArray), .slice none 0 0]) ?_ 0 _ rfl; (with_reducible repeat (first | refine blk_drewN ?_ _ | refine blk_drew ?_ | refine blk_alloc ?_ _)); exact BK481.out) Tryd.underlying44 rfl KR) rfl ?_
     exact ⟨_, TE, by (with_reducible repeat (first | apply Kd.R_alloc | apply Kd.R_drewN | apply Kd.R_drew)); exact Kd.R_mono (Kd.R_far (p := ⟨gb481, 2, none⟩) (Kd.R_far (p := ⟨gb481, 1, none⟩) (Kd.R_far (p := ⟨gb481, 0, none⟩) (Kd.R_types HO491.out BK481.out (by decide)) (fun _ hk => hk.2) (.string t487)) (fun _ hk => hk.2) (.string t488)) (fun _ hk => hk.2) (.slice Ao19 t489.length co19)) (fun _ hk => trivial), TB⟩
    ·replace c12 := Bool.eq_false_iff.mpr c12
     subst c12
     replace H := iff' H
     simp only [Option.some.injEq, Prod.mk.injEq] at H
     obtain ⟨rfl, rfl, rfl, rfl⟩ := H
     go_enter Tryd.func48, Tryd.ntmps48
     go_wp2_with (first | ((with_reducible refine gate_dst (N := 4) rfl ?_); refine bE 4 #[.string (⟨#[]⟩ : ByteArray), .string (⟨#[]⟩ : ByteArray), .slice none 0 0] 44 ?_; intro gb481 hg w20 hbox hb; have BK481 := Aside0.mk (hbox); have GE481 := bG hg; replace HB := BS hb; clear hb hbox hg; have p482 : 0 ≤ (0 : Int) := (by omega); have q482 : 0 < (l0.length : Int) := TD; obtain ⟨ad482, A482_2, c482_2, e482, hx482_0, hx482_1, hx482_2, hl482_2, hi482_2⟩ := at_TGap HR0.out 0 p482 q482; cases e482; have qi482 : (0 < l0.length) = True := eq_true (by omega); (try rw [show ((0 : Int)).toNat = 0 from rfl] at hx482_0); (try rw [show 0 * 3 = 0 from rfl] at hx482_0); (try rw [Addr.add_zero'] at hx482_0); (try rw [show ((0 : Int)).toNat = 0 from rfl] at hx482_1); (try rw [show 0 * 3 = 0 from rfl] at hx482_1); (try rw [Addr.add_zero'] at hx482_1); (try rw [show ((0 : Int)).toNat = 0 from rfl] at hx482_2); (try rw [show 0 * 3 = 0 from rfl] at hx482_2); (try rw [Addr.add_zero'] at hx482_2); replace hx482_0 := hBc HB hx482_0; replace hx482_1 := hBc HB hx482_1; replace hx482_2 := hBc HB hx482_2; have HR482_2 := Aside0.mk hi482_2; have HC482_2 := Aside0.mk hl482_2; clear hi482_2 hl482_2; replace p482 := eq_true p482; replace q482 := eq_true q482) | (go_at_call 41; (with_reducible refine (impl_GoodGaps.calls k ((rd_TGap l0 0).f0) _ _ l0 true _ ?side1 ?side2 A7.out).mono ?_); (case side1 => exact CW ((Kd.C_below HR0.out HB.out))); (case side2 => exact HC0.out); rintro e w21 ⟨rfl, hb⟩; replace BK481 := KB BK481 hb; replace HB := BS hb; clear hb) | (go_at_call 58; (with_reducible refine (impl_GoodName.calls k a1 true _ A9.out).mono ?_); rintro e w22 ⟨rfl, hb⟩; replace BK481 := KB BK481 hb; replace HB := BS hb; clear hb; have p485 : 0 ≤ (0 : Int) := (by omega); have q485 : 0 < (l0.length : Int) := TD; obtain ⟨ad485, A485_2, c485_2, e485, hx485_0, hx485_1, hx485_2, hl485_2, hi485_2⟩ := at_TGap HR0.out 0 p485 q485; obtain rfl : ad482 = ad485 := (by injection e485); have qi485 : (0 < l0.length) = True := eq_true (by omega); (try rw [show ((0 : Int)).toNat = 0 from rfl] at hx485_0); (try rw [show 0 * 3 = 0 from rfl] at hx485_0); (try rw [Addr.add_zero'] at hx485_0); (try rw [show ((0 : Int)).toNat = 0 from rfl] at hx485_1); (try rw [show 0 * 3 = 0 from rfl] at hx485_1); (try rw [Addr.add_zero'] at hx485_1); (try rw [show ((0 : Int)).toNat = 0 from rfl] at hx485_2); (try rw [show 0 * 3 = 0 from rfl] at hx485_2); (try rw [Addr.add_zero'] at hx485_2); replace hx485_0 := hBc HB hx485_0; replace hx485_1 := hBc HB hx485_1; replace hx485_2 := hBc HB hx485_2; have HR485_2 := Aside0.mk hi485_2; have HC485_2 := Aside0.mk hl485_2; clear hi485_2 hl485_2; replace p485 := eq_true p485; replace q485 := eq_true q485; (try (have eu_ := Option.some.inj (hx485_2.symm.trans (by first | exact hx482_2 | exact hHeld.1 | exact hHeld | exact hHeld.2.1 | exact hHeld.2 | exact hHeld.2.2.1 | exact hHeld.2.2 | exact hHeld.2.2.2.1 | exact hHeld.2.2.2 | exact hHeld.2.2.2.2.1 | exact hHeld.2.2.2.2 | exact hHeld.2.2.2.2.2.1 | exact hHeld.2.2.2.2.2 | exact hHeld.2.2.2.2.2.2.1 | exact hHeld.2.2.2.2.2.2 | exact hHeld.2.2.2.2.2.2.2.1 | exact hHeld.2.2.2.2.2.2.2 | exact hHeld.2.2.2.2.2.2.2.2.1 | exact hHeld.2.2.2.2.2.2.2.2 | exact hHeld.2.2.2.2.2.2.2.2.2.1 | exact hHeld.2.2.2.2.2.2.2.2.2)); injection eu_ with ea_ en_ ec_; subst ea_; subst ec_; clear en_))) | (go_at_call 77; (with_reducible refine (impl_isBelow.calls a1 ((rd_TGap l0 0).f0) false _ A11.out).mono ?_); rintro e w' ⟨rfl, ⟨nd, rfl⟩⟩; (try (rw [drewN_self w22]; generalize hq_ : World.drewN w22 _ = w22; have n0_ : Aside0 (w22.heap[gb481]? = some (.cells #[.string (⟨#[]⟩ : ByteArray), .string (⟨#[]⟩ : ByteArray), .slice none 0 0] 44 (0, 0))) := ⟨by rw [← hq_]; exact (KW BK481).out⟩; have n1_ : Aside0 (Below w.heap.size w w22) := ⟨by rw [← hq_]; exact TB⟩; clear BK481 HB hq_; have BK481 := n0_; have HB := n1_; clear n0_ n1_)); have hcz23 := cz3 BK481))
     refine bodyPost_ret (results_ct rfl _ _ gb481 44 #[.string (⟨#[]⟩ : ByteArray), .string (⟨#[]⟩ : ByteArray), .slice none 0 0] (0, 0) _ rfl (by (with_reducible repeat (first | refine blk_drewN ?_ _ | refine blk_drew ?_ | refine blk_alloc ?_ _)); refine blk_put (cs := #[.string (⟨#[]⟩ : ByteArray), .string (⟨#[]⟩ : ByteArray), .slice none 0 0]) ?_ 2 _ rfl; (with_reducible repeat (first | refine blk_drewN ?_ _ | refine blk_drew ?_ | refine blk_alloc ?_ _)); refine blk_put (cs := #[.string (⟨#[]⟩ : ByteArray), .string (⟨#[]⟩ : ByteArray), .slice none 0 0]) ?_ 1 _ rfl; (with_reducible repeat (first | refine blk_drewN ?_ _ | refine blk_drew ?_ | refine blk_alloc ?_ _)); refine blk_put (cs := #[.string (⟨#[]⟩ : ByteArray), .string (⟨#[]⟩ : ByteArray), .slice none 0 0]) ?_ 0 _ rfl; (with_reducible repeat (first | refine blk_drewN ?_ _ | refine blk_drew ?_ | refine blk_alloc ?_ _)); exact BK481.out) Tryd.underlying44 rfl KR) rfl ?_
     exact ⟨_, TE, TZ, TB⟩
   ·replace c10 := Bool.eq_false_iff.mpr c10
    subst c10
    replace H := iff' H
    simp only [Option.some.injEq, Prod.mk.injEq] at H
    obtain ⟨rfl, rfl, rfl, rfl⟩ := H
    go_enter Tryd.func48, Tryd.ntmps48
    go_wp2_with (first | ((with_reducible refine gate_dst (N := 4) rfl ?_); refine bE 4 #[.string (⟨#[]⟩ : ByteArray), .string (⟨#[]⟩ : ByteArray), .slice none 0 0] 44 ?_; intro gb481 hg w24 hbox hb; have BK481 := Aside0.mk (hbox); have GE481 := bG hg; replace HB := BS hb; clear hb hbox hg; have p482 : 0 ≤ (0 : Int) := (by omega); have q482 : 0 < (l0.length : Int) := TD; obtain ⟨ad482, A482_2, c482_2, e482, hx482_0, hx482_1, hx482_2, hl482_2, hi482_2⟩ := at_TGap HR0.out 0 p482 q482; cases e482; have qi482 : (0 < l0.length) = True := eq_true (by omega); (try rw [show ((0 : Int)).toNat = 0 from rfl] at hx482_0); (try rw [show 0 * 3 = 0 from rfl] at hx482_0); (try rw [Addr.add_zero'] at hx482_0); (try rw [show ((0 : Int)).toNat = 0 from rfl] at hx482_1); (try rw [show 0 * 3 = 0 from rfl] at hx482_1); (try rw [Addr.add_zero'] at hx482_1); (try rw [show ((0 : Int)).toNat = 0 from rfl] at hx482_2); (try rw [show 0 * 3 = 0 from rfl] at hx482_2); (try rw [Addr.add_zero'] at hx482_2); replace hx482_0 := hBc HB hx482_0; replace hx482_1 := hBc HB hx482_1; replace hx482_2 := hBc HB hx482_2; have HR482_2 := Aside0.mk hi482_2; have HC482_2 := Aside0.mk hl482_2; clear hi482_2 hl482_2; replace p482 := eq_true p482; replace q482 := eq_true q482) | (go_at_call 41; (with_reducible refine (impl_GoodGaps.calls k ((rd_TGap l0 0).f0) _ _ l0 true _ ?side1 ?side2 A7.out).mono ?_); (case side1 => exact CW ((Kd.C_below HR0.out HB.out))); (case side2 => exact HC0.out); rintro e w25 ⟨rfl, hb⟩; replace BK481 := KB BK481 hb; replace HB := BS hb; clear hb) | (go_at_call 58; (with_reducible refine (impl_GoodName.calls k a1 false _ A9.out).mono ?_); rintro e w26 ⟨rfl, hb⟩; replace BK481 := KB BK481 hb; replace HB := BS hb; clear hb; have hcz27 := cz3 BK481))
    refine bodyPost_ret (results_ct rfl _ _ gb481 44 #[.string (⟨#[]⟩ : ByteArray), .string (⟨#[]⟩ : ByteArray), .slice none 0 0] (0, 0) _ rfl (by (with_reducible repeat (first | refine blk_drewN ?_ _ | refine blk_drew ?_ | refine blk_alloc ?_ _)); refine blk_put (cs := #[.string (⟨#[]⟩ : ByteArray), .string (⟨#[]⟩ : ByteArray), .slice none 0 0]) ?_ 2 _ rfl; (with_reducible repeat (first | refine blk_drewN ?_ _ | refine blk_drew ?_ | refine blk_alloc ?_ _)); refine blk_put (cs := #[.string (⟨#[]⟩ : ByteArray), .string (⟨#[]⟩ : ByteArray), .slice none 0 0]) ?_ 1 _ rfl; (with_reducible repeat (first | refine blk_drewN ?_ _ | refine blk_drew ?_ | refine blk_alloc ?_ _)); refine blk_put (cs := #[.string (⟨#[]⟩ : ByteArray), .string (⟨#[]⟩ : ByteArray), .slice none 0 0]) ?_ 0 _ rfl; (with_reducible repeat (first | refine blk_drewN ?_ _ | refine blk_drew ?_ | refine blk_alloc ?_ _)); exact BK481.out) Tryd.underlying44 rfl KR) rfl ?_
    exact ⟨_, TE, TZ, TB⟩
  ·replace c8 := Bool.eq_false_iff.mpr c8
   subst c8
   replace H := iff' H
   simp only [Option.some.injEq, Prod.mk.injEq] at H
   obtain ⟨rfl, rfl, rfl, rfl⟩ := H
   go_enter Tryd.func48, Tryd.ntmps48
   go_wp2_with (first | ((with_reducible refine gate_dst (N := 4) rfl ?_); refine bE 4 #[.string (⟨#[]⟩ : ByteArray), .string (⟨#[]⟩ : ByteArray), .slice none 0 0] 44 ?_; intro gb481 hg w28 hbox hb; have BK481 := Aside0.mk (hbox); have GE481 := bG hg; replace HB := BS hb; clear hb hbox hg; have p482 : 0 ≤ (0 : Int) := (by omega); have q482 : 0 < (l0.length : Int) := TD; obtain ⟨ad482, A482_2, c482_2, e482, hx482_0, hx482_1, hx482_2, hl482_2, hi482_2⟩ := at_TGap HR0.out 0 p482 q482; cases e482; have qi482 : (0 < l0.length) = True := eq_true (by omega); (try rw [show ((0 : Int)).toNat = 0 from rfl] at hx482_0); (try rw [show 0 * 3 = 0 from rfl] at hx482_0); (try rw [Addr.add_zero'] at hx482_0); (try rw [show ((0 : Int)).toNat = 0 from rfl] at hx482_1); (try rw [show 0 * 3 = 0 from rfl] at hx482_1); (try rw [Addr.add_zero'] at hx482_1); (try rw [show ((0 : Int)).toNat = 0 from rfl] at hx482_2); (try rw [show 0 * 3 = 0 from rfl] at hx482_2); (try rw [Addr.add_zero'] at hx482_2); replace hx482_0 := hBc HB hx482_0; replace hx482_1 := hBc HB hx482_1; replace hx482_2 := hBc HB hx482_2; have HR482_2 := Aside0.mk hi482_2; have HC482_2 := Aside0.mk hl482_2; clear hi482_2 hl482_2; replace p482 := eq_true p482; replace q482 := eq_true q482) | (go_at_call 41; (with_reducible refine (impl_GoodGaps.calls k ((rd_TGap l0 0).f0) _ _ l0 false _ ?side1 ?side2 A7.out).mono ?_); (case side1 => exact CW ((Kd.C_below HR0.out HB.out))); (case side2 => exact HC0.out); rintro e w29 ⟨rfl, hb⟩; replace BK481 := KB BK481 hb; replace HB := BS hb; clear hb; have hcz30 := cz3 BK481))
   refine bodyPost_ret (results_ct rfl _ _ gb481 44 #[.string (⟨#[]⟩ : ByteArray), .string (⟨#[]⟩ : ByteArray), .slice none 0 0] (0, 0) _ rfl (by (with_reducible repeat (first | refine blk_drewN ?_ _ | refine blk_drew ?_ | refine blk_alloc ?_ _)); refine blk_put (cs := #[.string (⟨#[]⟩ : ByteArray), .string (⟨#[]⟩ : ByteArray), .slice none 0 0]) ?_ 2 _ rfl; (with_reducible repeat (first | refine blk_drewN ?_ _ | refine blk_drew ?_ | refine blk_alloc ?_ _)); refine blk_put (cs := #[.string (⟨#[]⟩ : ByteArray), .string (⟨#[]⟩ : ByteArray), .slice none 0 0]) ?_ 1 _ rfl; (with_reducible repeat (first | refine blk_drewN ?_ _ | refine blk_drew ?_ | refine blk_alloc ?_ _)); refine blk_put (cs := #[.string (⟨#[]⟩ : ByteArray), .string (⟨#[]⟩ : ByteArray), .slice none 0 0]) ?_ 0 _ rfl; (with_reducible repeat (first | refine blk_drewN ?_ _ | refine blk_drew ?_ | refine blk_alloc ?_ _)); exact BK481.out) Tryd.underlying44 rfl KR) rfl ?_
   exact ⟨_, TE, TZ, TB⟩
end
section
/-! ### laws_eqIntS: function 70 -/
def laws_eqIntS.l0 : Nat → List Int → List Int → Int → Option (Bool)
 | 0, _, _, _ => none
 | k + 1, x0, x1, x5 => if x5 < (x0.length : Int) then (if 0 ≤ x5 then (if x5 < (x1.length : Int) then (if (rd x0 x5) = (rd x1 x5) then (laws_eqIntS.l0 k x0 x1 (wrap64 (x5 + 1))) else (some false)) else (none)) else (none)) else (some true)
def laws_eqIntS.f (k : Nat) (l0 : List Int) (l1 : List Int) : Option (Bool) := if (l0.length : Int) = (l1.length : Int) then (laws_eqIntS.l0 k l0 l1 0) else (some false)
theorem laws_eqIntS.calls (k : Nat) (A0 : Option Addr) (c0 : Nat) (l0 : List Int) (A1 : Option Addr) (c1 : Nat) (l1 : List Int) (r : Bool) (w : World) (hr0 : Kd.C (Kd.int .i64) w A0 l0.length l0) (hc0 : l0.length ≤ c0) (hr1 : Kd.C (Kd.int .i64) w A1 l1.length l1) (hc1 : l1.length ≤ c1) (h : laws_eqIntS.f k l0 l1 = some r) :
  Calls Tryd.prog 70 #[.slice A0 l0.length c0, .slice A1 l1.length c1] w fun e w' => e = .returned (.bool r) ∧ Drawn0 w w' := by
 have HR0 := Aside0.mk hr0
 have HC0 := Aside0.mk hc0
 clear hr0 hc0
 have HR1 := Aside0.mk hr1
 have HC1 := Aside0.mk hc1
 clear hr1 hc1
 have H : (if (l0.length : Int) = (l1.length : Int) then (laws_eqIntS.l0 k l0 l1 0) else (some false)) = some r := h
 clear h
 by_cases c3 : (l0.length : Int) = (l1.length : Int)
 ·rw [if_pos c3] at H
  have c3b0 : ((l0.length : Int) == (l1.length : Int)) = true := beq_iff_eq.mpr c3
  have c3b1 : ((l0.length : Int) != (l1.length : Int)) = false := bne_eq_false_iff_eq.mpr c3
  have c3b2 : (l0.length == l1.length) = true := by first | simpa using c3 | (simp at c3 ⊢; omega)
  clear c3
  have H' := Aside0.mk H
  clear H
  go_enter Tryd.func70, Tryd.ntmps70
  go_wp2
  repeat (go_quiet (fail); try go_wp2)
  go_loopg [5] k (fun kq v5 w' => ∃ (x5_1 : Int), v5 = .int .i64 x5_1 ∧ Aside0 (laws_eqIntS.l0 kq l0 l1 x5_1 = some r) ∧ Aside0 (kq ≤ k) ∧ Drawn0 w w')
  case atStart => exact ⟨(0), TF, H', ⟨Nat.le_refl _⟩, TN⟩
  case round =>
   clear H'
   obtain ⟨x5_1, rfl, HA, HK1, ⟨m1, rfl⟩⟩ := hrel
   cases gk with
   | zero => exact absurd HA.out (by simp [laws_eqIntS.l0])
   | succ k1 =>
    have H := HA.out
    clear HA
    simp only [laws_eqIntS.l0] at H
    by_cases c4 : x5_1 < (l0.length : Int)
    ·rw [if_pos c4] at H
     have c4b0 : decide (x5_1 < (l0.length : Int)) = true := decide_eq_true c4
     clear c4
     obtain ⟨c5, H⟩ := ifn H
     have c5b0 : decide (0 ≤ x5_1) = true := decide_eq_true c5
     clear c5
     obtain ⟨c6, H⟩ := ifn H
     have c6b0 : decide (x5_1 < (l1.length : Int)) = true := decide_eq_true c6
     clear c6
     by_cases c7 : (rd l0 x5_1) = (rd l1 x5_1)
     ·rw [if_pos c7] at H
      have c7b0 : ((rd l0 x5_1) == (rd l1 x5_1)) = true := beq_iff_eq.mpr c7
      have c7b1 : ((rd l0 x5_1) != (rd l1 x5_1)) = false := bne_eq_false_iff_eq.mpr c7
      clear c7
      have H' := Aside0.mk H
      clear H
      have p305 : 0 ≤ (x5_1 : Int) := TD
      have q305 : x5_1 < (l0.length : Int) := TD
      obtain ⟨ad305, e305, hx305_0⟩ := Kd.at_int HR0.out x5_1 p305 q305
      cases e305
      replace p305 := eq_true p305
      replace q305 := eq_true q305
      have p306 : 0 ≤ (x5_1 : Int) := TD
      have q306 : x5_1 < (l1.length : Int) := TD
      obtain ⟨ad306, e306, hx306_0⟩ := Kd.at_int HR1.out x5_1 p306 q306
      cases e306
      replace p306 := eq_true p306
      replace q306 := eq_true q306
      go_wp2
      repeat (go_quiet (fail); try go_wp2)
      go_roundg k1
      case measure => have := HK1.out; omega
      case rel => exact ⟨(wrap64 (x5_1 + 1)), TF, H', ⟨TM⟩, TN⟩
     ·rw [if_neg c7] at H
      have c7b0 : ((rd l0 x5_1) == (rd l1 x5_1)) = false := beq_eq_false_iff_ne.mpr c7
      have c7b1 : ((rd l0 x5_1) != (rd l1 x5_1)) = true := bne_iff_ne.mpr c7
      obtain rfl := Option.some.inj H
      have p305 : 0 ≤ (x5_1 : Int) := TD
      have q305 : x5_1 < (l0.length : Int) := TD
      obtain ⟨ad305, e305, hx305_0⟩ := Kd.at_int HR0.out x5_1 p305 q305
      cases e305
      replace p305 := eq_true p305
      replace q305 := eq_true q305
      have p306 : 0 ≤ (x5_1 : Int) := TD
      have q306 : x5_1 < (l1.length : Int) := TD
      obtain ⟨ad306, e306, hx306_0⟩ := Kd.at_int HR1.out x5_1 p306 q306
      cases e306
      replace p306 := eq_true p306
      replace q306 := eq_true q306
      go_wp2
      repeat (go_quiet (fail); try go_wp2)
      go_ret
      exact ⟨TF, TN⟩
    ·rw [if_neg c4] at H
     have c4b0 : decide (x5_1 < (l0.length : Int)) = false := decide_eq_false c4
     clear c4
     obtain rfl := Option.some.inj H
     go_wp2
     repeat (go_quiet (fail); try go_wp2)
     go_ret
     exact ⟨TF, TN⟩
 ·rw [if_neg c3] at H
  have c3b0 : ((l0.length : Int) == (l1.length : Int)) = false := beq_eq_false_iff_ne.mpr c3
  have c3b1 : ((l0.length : Int) != (l1.length : Int)) = true := bne_iff_ne.mpr c3
  have c3b2 : (l0.length == l1.length) = false := by first | simpa using c3 | (simp at c3 ⊢; omega)
  obtain rfl := Option.some.inj H
  go_enter Tryd.func70, Tryd.ntmps70
  go_wp2
  repeat (go_quiet (fail); try go_wp2)
  go_ret
  exact ⟨TF, TN⟩
end
section
/-! ### laws_eqGap: function 26 -/
def laws_eqGap.f (k : Nat) (a0_0 : ByteArray) (a0_1 : ByteArray) (l0_2 : List Int) (a1_0 : ByteArray) (a1_1 : ByteArray) (l1_2 : List Int) : Option (Bool) := if a0_0.toList = a1_0.toList then (if a0_1.toList = a1_1.toList then ((laws_eqIntS.f k l0_2 l1_2).bind fun t309 => (if t309 = true then (some true) else (some false))) else (some false)) else (some false)
theorem laws_eqGap.calls (k : Nat) (a0_0 : ByteArray) (a0_1 : ByteArray) (A0_2 : Option Addr) (c0_2 : Nat) (l0_2 : List Int) (a1_0 : ByteArray) (a1_1 : ByteArray) (A1_2 : Option Addr) (c1_2 : Nat) (l1_2 : List Int) (r : Bool) (w : World) (hr0_2 : Kd.C (Kd.int .i64) w A0_2 l0_2.length l0_2) (hc0_2 : l0_2.length ≤ c0_2) (hr1_2 : Kd.C (Kd.int .i64) w A1_2 l1_2.length l1_2) (hc1_2 : l1_2.length ≤ c1_2) (h : laws_eqGap.f k a0_0 a0_1 l0_2 a1_0 a1_1 l1_2 = some r) :
  Calls Tryd.prog 26 #[.agg #[.string a0_0, .string a0_1, .slice A0_2 l0_2.length c0_2], .agg #[.string a1_0, .string a1_1, .slice A1_2 l1_2.length c1_2]] w fun e w' => e = .returned (.bool r) ∧ Below w.heap.size w w' := by
 have hu44 := Tryd.underlying44
 have HR0_2 := Aside0.mk hr0_2
 have HC0_2 := Aside0.mk hc0_2
 clear hr0_2 hc0_2
 have HR1_2 := Aside0.mk hr1_2
 have HC1_2 := Aside0.mk hc1_2
 clear hr1_2 hc1_2
 have HB := Aside0.mk (Below.refl w.heap.size w)
 have H : (if a0_0.toList = a1_0.toList then (if a0_1.toList = a1_1.toList then ((laws_eqIntS.f k l0_2 l1_2).bind fun t309 => (if t309 = true then (some true) else (some false))) else (some false)) else (some false)) = some r := h
 clear h
 by_cases c3 : a0_0.toList = a1_0.toList
 ·rw [if_pos c3] at H
  have c3b0 : (a0_0.toList == a1_0.toList) = true := beq_iff_eq.mpr c3
  have c3b1 : (a0_0.toList != a1_0.toList) = false := bne_eq_false_iff_eq.mpr c3
  clear c3
  by_cases c4 : a0_1.toList = a1_1.toList
  ·rw [if_pos c4] at H
   have c4b0 : (a0_1.toList == a1_1.toList) = true := beq_iff_eq.mpr c4
   have c4b1 : (a0_1.toList != a1_1.toList) = false := bne_eq_false_iff_eq.mpr c4
   clear c4
   obtain ⟨t309, A5, H⟩ := bnd H
   by_cases c6 : t309 = true
   ·subst c6
    replace H := ift H
    obtain rfl := Option.some.inj H
    go_enter Tryd.func26, Tryd.ntmps26
    go_wp2_with (first | ((with_reducible refine gate_dst (N := 2) rfl ?_); refine bE 2 #[.string a0_0, .string a0_1, .slice A0_2 l0_2.length c0_2] 44 ?_; intro gb307 hg w7 hbox hb; have BK307 := Aside0.mk (hbox); have GE307 := bG hg; replace HB := BS hb; clear hb hbox hg) | ((with_reducible refine gate_dst (N := 3) rfl ?_); refine bE 3 #[.string a1_0, .string a1_1, .slice A1_2 l1_2.length c1_2] 44 ?_; intro gb308 hg w8 hbox hb; have BK308 := Aside0.mk (hbox); have GE308 := bG hg; replace HB := BS hb; have NB307_308 := bN BK307 hg; have NB308_307 := bM BK307 hg; replace BK307 := KB BK307 hb; clear hb hbox hg; obtain ⟨hnb9, hnc9⟩ := nn NB307_308; have hcz10 := cz3 BK307; have hcz11 := cz3 BK308) | ((with_reducible refine gate_callee (f := 70) rfl ?_); refine goesL_ (some 19) rfl rfl Tryd.func70 KR rfl #[.slice A0_2 l0_2.length c0_2, .slice A1_2 l1_2.length c1_2] rfl TA ?_; (with_reducible refine (laws_eqIntS.calls k _ _ l0_2 _ _ l1_2 true _ ?side1 ?side2 ?side3 ?side4 A5.out).mono ?_); (case side1 => exact CW ((Kd.C_below HR0_2.out HB.out))); (case side2 => exact HC0_2.out); (case side3 => exact CW ((Kd.C_below HR1_2.out HB.out))); (case side4 => exact HC1_2.out); rintro e w' ⟨rfl, ⟨nd, rfl⟩⟩; refine ⟨_, rfl, ?_⟩))
    go_ret
    exact ⟨TE, TB⟩
   ·replace c6 := Bool.eq_false_iff.mpr c6
    subst c6
    replace H := iff' H
    obtain rfl := Option.some.inj H
    go_enter Tryd.func26, Tryd.ntmps26
    go_wp2_with (first | ((with_reducible refine gate_dst (N := 2) rfl ?_); refine bE 2 #[.string a0_0, .string a0_1, .slice A0_2 l0_2.length c0_2] 44 ?_; intro gb307 hg w12 hbox hb; have BK307 := Aside0.mk (hbox); have GE307 := bG hg; replace HB := BS hb; clear hb hbox hg) | ((with_reducible refine gate_dst (N := 3) rfl ?_); refine bE 3 #[.string a1_0, .string a1_1, .slice A1_2 l1_2.length c1_2] 44 ?_; intro gb308 hg w13 hbox hb; have BK308 := Aside0.mk (hbox); have GE308 := bG hg; replace HB := BS hb; have NB307_308 := bN BK307 hg; have NB308_307 := bM BK307 hg; replace BK307 := KB BK307 hb; clear hb hbox hg; obtain ⟨hnb14, hnc14⟩ := nn NB307_308; have hcz15 := cz3 BK307; have hcz16 := cz3 BK308) | ((with_reducible refine gate_callee (f := 70) rfl ?_); refine goesL_ (some 19) rfl rfl Tryd.func70 KR rfl #[.slice A0_2 l0_2.length c0_2, .slice A1_2 l1_2.length c1_2] rfl TA ?_; (with_reducible refine (laws_eqIntS.calls k _ _ l0_2 _ _ l1_2 false _ ?side1 ?side2 ?side3 ?side4 A5.out).mono ?_); (case side1 => exact CW ((Kd.C_below HR0_2.out HB.out))); (case side2 => exact HC0_2.out); (case side3 => exact CW ((Kd.C_below HR1_2.out HB.out))); (case side4 => exact HC1_2.out); rintro e w' ⟨rfl, ⟨nd, rfl⟩⟩; refine ⟨_, rfl, ?_⟩))
    go_ret
    exact ⟨TE, TB⟩
  ·rw [if_neg c4] at H
   have c4b0 : (a0_1.toList == a1_1.toList) = false := beq_eq_false_iff_ne.mpr c4
   have c4b1 : (a0_1.toList != a1_1.toList) = true := bne_iff_ne.mpr c4
   obtain rfl := Option.some.inj H
   go_enter Tryd.func26, Tryd.ntmps26
   go_wp2_with (first | ((with_reducible refine gate_dst (N := 2) rfl ?_); refine bE 2 #[.string a0_0, .string a0_1, .slice A0_2 l0_2.length c0_2] 44 ?_; intro gb307 hg w17 hbox hb; have BK307 := Aside0.mk (hbox); have GE307 := bG hg; replace HB := BS hb; clear hb hbox hg) | ((with_reducible refine gate_dst (N := 3) rfl ?_); refine bE 3 #[.string a1_0, .string a1_1, .slice A1_2 l1_2.length c1_2] 44 ?_; intro gb308 hg w18 hbox hb; have BK308 := Aside0.mk (hbox); have GE308 := bG hg; replace HB := BS hb; have NB307_308 := bN BK307 hg; have NB308_307 := bM BK307 hg; replace BK307 := KB BK307 hb; clear hb hbox hg; obtain ⟨hnb19, hnc19⟩ := nn NB307_308; have hcz20 := cz3 BK307; have hcz21 := cz3 BK308))
   go_ret
   exact ⟨TE, TB⟩
 ·rw [if_neg c3] at H
  have c3b0 : (a0_0.toList == a1_0.toList) = false := beq_eq_false_iff_ne.mpr c3
  have c3b1 : (a0_0.toList != a1_0.toList) = true := bne_iff_ne.mpr c3
  obtain rfl := Option.some.inj H
  go_enter Tryd.func26, Tryd.ntmps26
  go_wp2_with (first | ((with_reducible refine gate_dst (N := 2) rfl ?_); refine bE 2 #[.string a0_0, .string a0_1, .slice A0_2 l0_2.length c0_2] 44 ?_; intro gb307 hg w22 hbox hb; have BK307 := Aside0.mk (hbox); have GE307 := bG hg; replace HB := BS hb; clear hb hbox hg) | ((with_reducible refine gate_dst (N := 3) rfl ?_); refine bE 3 #[.string a1_0, .string a1_1, .slice A1_2 l1_2.length c1_2] 44 ?_; intro gb308 hg w23 hbox hb; have BK308 := Aside0.mk (hbox); have GE308 := bG hg; replace HB := BS hb; have NB307_308 := bN BK307 hg; have NB308_307 := bM BK307 hg; replace BK307 := KB BK307 hb; clear hb hbox hg; obtain ⟨hnb24, hnc24⟩ := nn NB307_308; have hcz25 := cz3 BK307; have hcz26 := cz3 BK308))
  go_ret
  exact ⟨TE, TB⟩
end
section
/-! ### laws_eqGapS: function 42 -/
def laws_eqGapS.l0 : Nat → List (S_Gap) → List (S_Gap) → Int → Option (Bool)
 | 0, _, _, _ => none
 | k + 1, x0, x1, x5 => if x5 < (x0.length : Int) then (if 0 ≤ x5 then (if x5 < (x1.length : Int) then ((laws_eqGap.f k ((rd_TGap x0 x5).f0) ((rd_TGap x0 x5).f1) ((rd_TGap x0 x5).f2) ((rd_TGap x1 x5).f0) ((rd_TGap x1 x5).f1) ((rd_TGap x1 x5).f2)).bind fun t312 => (if t312 = true then (laws_eqGapS.l0 k x0 x1 (wrap64 (x5 + 1))) else (some false))) else (none)) else (none)) else (some true)
def laws_eqGapS.f (k : Nat) (l0 : List (S_Gap)) (l1 : List (S_Gap)) : Option (Bool) := if (l0.length : Int) = (l1.length : Int) then (laws_eqGapS.l0 k l0 l1 0) else (some false)
def laws_eqGapS.T6 : Bool × List (List Nat × List Nat) := (true, [([], []), ([], []), ([0, 1], [0, 1]), ([2], [2]), ([], []), ([], []), ([4, 5], [4, 5]), ([6], [6]), ([3, 7], [3, 7]), ([8], [8])])
def laws_eqGapS.B6 : List Nat := [0, 0, 3, 7, 0, 0, 48, 112, 255, 511]
theorem laws_eqGapS.tab6 : rtab .any (opsOf Tryd.f42 6) = laws_eqGapS.T6 := by kernel_rfl
theorem laws_eqGapS.bits6 : waitsOk laws_eqGapS.T6.2 laws_eqGapS.B6 = true := by kernel_rfl
theorem laws_eqGapS.calls (k : Nat) (A0 : Option Addr) (c0 : Nat) (l0 : List (S_Gap)) (A1 : Option Addr) (c1 : Nat) (l1 : List (S_Gap)) (r : Bool) (w : World) (hr0 : Kd.C k_Gap w A0 l0.length l0) (hc0 : l0.length ≤ c0) (hr1 : Kd.C k_Gap w A1 l1.length l1) (hc1 : l1.length ≤ c1) (h : laws_eqGapS.f k l0 l1 = some r) :
  Calls Tryd.prog 42 #[.slice A0 l0.length c0, .slice A1 l1.length c1] w fun e w' => e = .returned (.bool r) ∧ Below w.heap.size w w' := by
 have hu44 := Tryd.underlying44
 have HR0 := Aside0.mk hr0
 have HC0 := Aside0.mk hc0
 clear hr0 hc0
 have HR1 := Aside0.mk hr1
 have HC1 := Aside0.mk hc1
 clear hr1 hc1
 have HB := Aside0.mk (Below.refl w.heap.size w)
 have H : (if (l0.length : Int) = (l1.length : Int) then (laws_eqGapS.l0 k l0 l1 0) else (some false)) = some r := h
 clear h
 by_cases c3 : (l0.length : Int) = (l1.length : Int)
 ·rw [if_pos c3] at H
  have c3b0 : ((l0.length : Int) == (l1.length : Int)) = true := beq_iff_eq.mpr c3
  have c3b1 : ((l0.length : Int) != (l1.length : Int)) = false := bne_eq_false_iff_eq.mpr c3
  have c3b2 : (l0.length == l1.length) = true := by first | simpa using c3 | (simp at c3 ⊢; omega)
  clear c3
  have H' := Aside0.mk H
  clear H
  go_enter Tryd.func42, Tryd.ntmps42
  go_wp2
  go_loopg [5] k (fun kq v5 w' => ∃ (x5_1 : Int), v5 = .int .i64 x5_1 ∧ Aside0 (laws_eqGapS.l0 kq l0 l1 x5_1 = some r) ∧ Aside0 (kq ≤ k) ∧ Aside0 (Below w.heap.size w w'))
  case atStart => exact ⟨(0), TF, H', ⟨Nat.le_refl _⟩, ⟨TB⟩⟩
  case round =>
   clear H'
   obtain ⟨x5_1, rfl, HA, HK1, HB⟩ := hrel
   cases gk with
   | zero => exact absurd HA.out (by simp [laws_eqGapS.l0])
   | succ k1 =>
    have H := HA.out
    clear HA
    simp only [laws_eqGapS.l0] at H
    by_cases c4 : x5_1 < (l0.length : Int)
    ·rw [if_pos c4] at H
     have c4b0 : decide (x5_1 < (l0.length : Int)) = true := decide_eq_true c4
     clear c4
     obtain ⟨c5, H⟩ := ifn H
     have c5b0 : decide (0 ≤ x5_1) = true := decide_eq_true c5
     clear c5
     obtain ⟨c6, H⟩ := ifn H
     have c6b0 : decide (x5_1 < (l1.length : Int)) = true := decide_eq_true c6
     clear c6
     obtain ⟨t312, A7, H⟩ := bnd H
     by_cases c8 : t312 = true
     ·subst c8
      replace H := ift H
      have H' := Aside0.mk H
      clear H
      try go_wp2
      replace HB := Aside0.mk (below_drew1 HB.out)
      have p310 : 0 ≤ (x5_1 : Int) := TD
      have q310 : x5_1 < (l0.length : Int) := TD
      obtain ⟨ad310, A310_2, c310_2, e310, hx310_0, hx310_1, hx310_2, hl310_2, hi310_2⟩ := at_TGap HR0.out x5_1 p310 q310
      have hw310_2 := hx310_2
      have hw310_1 := hx310_1
      have hw310_0 := hx310_0
      cases e310
      replace hx310_0 := hBc HB hx310_0
      replace hx310_1 := hBc HB hx310_1
      replace hx310_2 := hBc HB hx310_2
      have HR310_2 := Aside0.mk hi310_2
      have HC310_2 := Aside0.mk hl310_2
      clear hi310_2 hl310_2
      replace p310 := eq_true p310
      replace q310 := eq_true q310
      have p311 : 0 ≤ (x5_1 : Int) := TD
      have q311 : x5_1 < (l1.length : Int) := TD
      obtain ⟨ad311, A311_2, c311_2, e311, hx311_0, hx311_1, hx311_2, hl311_2, hi311_2⟩ := at_TGap HR1.out x5_1 p311 q311
      have hw311_2 := hx311_2
      have hw311_1 := hx311_1
      have hw311_0 := hx311_0
      cases e311
      replace hx311_0 := hBc HB hx311_0
      replace hx311_1 := hBc HB hx311_1
      replace hx311_2 := hBc HB hx311_2
      have HR311_2 := Aside0.mk hi311_2
      have HC311_2 := Aside0.mk hl311_2
      clear hi311_2 hl311_2
      replace p311 := eq_true p311
      replace q311 := eq_true q311
      refine start_ (n := 10) (S := fun w' => w'.cell? (ad310.add ((x5_1).toNat * 3)) = some (.string ((rd_TGap l0 x5_1).f0)) ∧ w'.cell? ⟨(ad310.add ((x5_1).toNat * 3)).block, (ad310.add ((x5_1).toNat * 3)).off + 1, none⟩ = some (.string ((rd_TGap l0 x5_1).f1)) ∧ w'.cell? ⟨(ad310.add ((x5_1).toNat * 3)).block, (ad310.add ((x5_1).toNat * 3)).off + 2, none⟩ = some (.slice A310_2 ((rd_TGap l0 x5_1).f2).length c310_2) ∧ w'.cell? (ad311.add ((x5_1).toNat * 3)) = some (.string ((rd_TGap l1 x5_1).f0)) ∧ w'.cell? ⟨(ad311.add ((x5_1).toNat * 3)).block, (ad311.add ((x5_1).toNat * 3)).off + 1, none⟩ = some (.string ((rd_TGap l1 x5_1).f1)) ∧ w'.cell? ⟨(ad311.add ((x5_1).toNat * 3)).block, (ad311.add ((x5_1).toNat * 3)).off + 2, none⟩ = some (.slice A311_2 ((rd_TGap l1 x5_1).f2).length c311_2)) (ds := []) #[false, false, false, false, false, false, false, false, false, false] KR rfl rfl ⟨((HB.out.cell (World.block_lt_of_cell? w _ hw310_0)).trans hw310_0), ((HB.out.cell (World.block_lt_of_cell? w _ hw310_1)).trans hw310_1), ((HB.out.cell (World.block_lt_of_cell? w _ hw310_2)).trans hw310_2), ((HB.out.cell (World.block_lt_of_cell? w _ hw311_0)).trans hw311_0), ((HB.out.cell (World.block_lt_of_cell? w _ hw311_1)).trans hw311_1), ((HB.out.cell (World.block_lt_of_cell? w _ hw311_2)).trans hw311_2)⟩ (fun hHeld => ?_); refine with_tabW laws_eqGapS.tab6 laws_eqGapS.bits6 (fun HT_ HW_ => ?_)
      generalize wr.drew = w9 at HB HR310_2 HR311_2 hx310_0 hx310_1 hx310_2 hx311_0 hx311_1 hx311_2 hHeld ⊢
      refine pA 0 17 (mL 10 1) HT_ rfl rfl ?_
      refine pA 1 18 (mL 10 3) HT_ rfl rfl ?_
      refine pA 2 19 (mL 10 7) HT_ rfl rfl ?_
      refine pA 4 21 (mL 10 23) HT_ rfl rfl ?_
      refine pA 5 22 (mL 10 55) HT_ rfl rfl ?_
      refine pA 6 23 (mL 10 119) HT_ rfl rfl ?_
      refine tA 3 20 (mL 10 127) HT_ HW_ hHeld rfl rfl (by rintro w' ⟨s0, s1, s2, s3, s4, s5⟩; go_simp; with_reducible rfl) ?_
      refine tA 7 24 (mL 10 255) HT_ HW_ hHeld rfl rfl (by rintro w' ⟨s0, s1, s2, s3, s4, s5⟩; go_simp; with_reducible rfl) ?_
      refine one_ (i := 8) (N := some 25) (mL 10 511) rfl rfl (one_of HT_.out KR) (by decide) (fun K hK => ?_)
      refine goes_ Tryd.func26 KR rfl #[.agg #[.string ((rd_TGap l0 x5_1).f0), .string ((rd_TGap l0 x5_1).f1), .slice A310_2 ((rd_TGap l0 x5_1).f2).length c310_2], .agg #[.string ((rd_TGap l1 x5_1).f0), .string ((rd_TGap l1 x5_1).f1), .slice A311_2 ((rd_TGap l1 x5_1).f2).length c311_2]] (by rfl) rfl rfl TA ?_
      with_reducible refine (laws_eqGap.calls k1 ((rd_TGap l0 x5_1).f0) ((rd_TGap l0 x5_1).f1) _ _ ((rd_TGap l0 x5_1).f2) ((rd_TGap l1 x5_1).f0) ((rd_TGap l1 x5_1).f1) _ _ ((rd_TGap l1 x5_1).f2) true _ ?side1 ?side2 ?side3 ?side4 A7.out).mono ?_
      (case side1 => exact CW ((Kd.C_below HR310_2.out HB.out)))
      (case side2 => exact HC310_2.out)
      (case side3 => exact CW ((Kd.C_below HR311_2.out HB.out)))
      (case side4 => exact HC311_2.out)
      rintro e w10 ⟨rfl, hb⟩
      refine ⟨_, rfl, ?_⟩
      replace HB := BS hb
      (try clear hb)
      (try clear hb2)
      (try clear hk)
      (try clear hi)
      refine hK.out _ _ ⟨((HB.out.cell (World.block_lt_of_cell? w _ hw310_0)).trans hw310_0), ((HB.out.cell (World.block_lt_of_cell? w _ hw310_1)).trans hw310_1), ((HB.out.cell (World.block_lt_of_cell? w _ hw310_2)).trans hw310_2), ((HB.out.cell (World.block_lt_of_cell? w _ hw311_0)).trans hw311_0), ((HB.out.cell (World.block_lt_of_cell? w _ hw311_1)).trans hw311_1), ((HB.out.cell (World.block_lt_of_cell? w _ hw311_2)).trans hw311_2)⟩ (fun hHeld => ?_)
      clear hK K
      refine nA ?_
      refine pA 9 26 (mL 10 1023) HT_ rfl rfl ?_
      refine done_ (done_of HT_.out KR) ?_
      try go_wp2
      go_roundg k1
      case measure => have := HK1.out; omega
      case rel => exact ⟨(wrap64 (x5_1 + 1)), TF, H', ⟨TM⟩, ⟨TB⟩⟩
     ·replace c8 := Bool.eq_false_iff.mpr c8
      subst c8
      replace H := iff' H
      obtain rfl := Option.some.inj H
      try go_wp2
      replace HB := Aside0.mk (below_drew1 HB.out)
      have p310 : 0 ≤ (x5_1 : Int) := TD
      have q310 : x5_1 < (l0.length : Int) := TD
      obtain ⟨ad310, A310_2, c310_2, e310, hx310_0, hx310_1, hx310_2, hl310_2, hi310_2⟩ := at_TGap HR0.out x5_1 p310 q310
      have hw310_2 := hx310_2
      have hw310_1 := hx310_1
      have hw310_0 := hx310_0
      cases e310
      replace hx310_0 := hBc HB hx310_0
      replace hx310_1 := hBc HB hx310_1
      replace hx310_2 := hBc HB hx310_2
      have HR310_2 := Aside0.mk hi310_2
      have HC310_2 := Aside0.mk hl310_2
      clear hi310_2 hl310_2
      replace p310 := eq_true p310
      replace q310 := eq_true q310
      have p311 : 0 ≤ (x5_1 : Int) := TD
      have q311 : x5_1 < (l1.length : Int) := TD
      obtain ⟨ad311, A311_2, c311_2, e311, hx311_0, hx311_1, hx311_2, hl311_2, hi311_2⟩ := at_TGap HR1.out x5_1 p311 q311
      have hw311_2 := hx311_2
      have hw311_1 := hx311_1
      have hw311_0 := hx311_0
      cases e311
      replace hx311_0 := hBc HB hx311_0
      replace hx311_1 := hBc HB hx311_1
      replace hx311_2 := hBc HB hx311_2
      have HR311_2 := Aside0.mk hi311_2
      have HC311_2 := Aside0.mk hl311_2
      clear hi311_2 hl311_2
      replace p311 := eq_true p311
      replace q311 := eq_true q311
      refine start_ (n := 10) (S := fun w' => w'.cell? (ad310.add ((x5_1).toNat * 3)) = some (.string ((rd_TGap l0 x5_1).f0)) ∧ w'.cell? ⟨(ad310.add ((x5_1).toNat * 3)).block, (ad310.add ((x5_1).toNat * 3)).off + 1, none⟩ = some (.string ((rd_TGap l0 x5_1).f1)) ∧ w'.cell? ⟨(ad310.add ((x5_1).toNat * 3)).block, (ad310.add ((x5_1).toNat * 3)).off + 2, none⟩ = some (.slice A310_2 ((rd_TGap l0 x5_1).f2).length c310_2) ∧ w'.cell? (ad311.add ((x5_1).toNat * 3)) = some (.string ((rd_TGap l1 x5_1).f0)) ∧ w'.cell? ⟨(ad311.add ((x5_1).toNat * 3)).block, (ad311.add ((x5_1).toNat * 3)).off + 1, none⟩ = some (.string ((rd_TGap l1 x5_1).f1)) ∧ w'.cell? ⟨(ad311.add ((x5_1).toNat * 3)).block, (ad311.add ((x5_1).toNat * 3)).off + 2, none⟩ = some (.slice A311_2 ((rd_TGap l1 x5_1).f2).length c311_2)) (ds := []) #[false, false, false, false, false, false, false, false, false, false] KR rfl rfl ⟨((HB.out.cell (World.block_lt_of_cell? w _ hw310_0)).trans hw310_0), ((HB.out.cell (World.block_lt_of_cell? w _ hw310_1)).trans hw310_1), ((HB.out.cell (World.block_lt_of_cell? w _ hw310_2)).trans hw310_2), ((HB.out.cell (World.block_lt_of_cell? w _ hw311_0)).trans hw311_0), ((HB.out.cell (World.block_lt_of_cell? w _ hw311_1)).trans hw311_1), ((HB.out.cell (World.block_lt_of_cell? w _ hw311_2)).trans hw311_2)⟩ (fun hHeld => ?_); refine with_tabW laws_eqGapS.tab6 laws_eqGapS.bits6 (fun HT_ HW_ => ?_)
      generalize wr.drew = w11 at HB HR310_2 HR311_2 hx310_0 hx310_1 hx310_2 hx311_0 hx311_1 hx311_2 hHeld ⊢
      refine pA 0 17 (mL 10 1) HT_ rfl rfl ?_
      refine pA 1 18 (mL 10 3) HT_ rfl rfl ?_
      refine pA 2 19 (mL 10 7) HT_ rfl rfl ?_
      refine pA 4 21 (mL 10 23) HT_ rfl rfl ?_
      refine pA 5 22 (mL 10 55) HT_ rfl rfl ?_
      refine pA 6 23 (mL 10 119) HT_ rfl rfl ?_
      refine tA 3 20 (mL 10 127) HT_ HW_ hHeld rfl rfl (by rintro w' ⟨s0, s1, s2, s3, s4, s5⟩; go_simp; with_reducible rfl) ?_
      refine tA 7 24 (mL 10 255) HT_ HW_ hHeld rfl rfl (by rintro w' ⟨s0, s1, s2, s3, s4, s5⟩; go_simp; with_reducible rfl) ?_
      refine one_ (i := 8) (N := some 25) (mL 10 511) rfl rfl (one_of HT_.out KR) (by decide) (fun K hK => ?_)
      refine goes_ Tryd.func26 KR rfl #[.agg #[.string ((rd_TGap l0 x5_1).f0), .string ((rd_TGap l0 x5_1).f1), .slice A310_2 ((rd_TGap l0 x5_1).f2).length c310_2], .agg #[.string ((rd_TGap l1 x5_1).f0), .string ((rd_TGap l1 x5_1).f1), .slice A311_2 ((rd_TGap l1 x5_1).f2).length c311_2]] (by rfl) rfl rfl TA ?_
      with_reducible refine (laws_eqGap.calls k1 ((rd_TGap l0 x5_1).f0) ((rd_TGap l0 x5_1).f1) _ _ ((rd_TGap l0 x5_1).f2) ((rd_TGap l1 x5_1).f0) ((rd_TGap l1 x5_1).f1) _ _ ((rd_TGap l1 x5_1).f2) false _ ?side1 ?side2 ?side3 ?side4 A7.out).mono ?_
      (case side1 => exact CW ((Kd.C_below HR310_2.out HB.out)))
      (case side2 => exact HC310_2.out)
      (case side3 => exact CW ((Kd.C_below HR311_2.out HB.out)))
      (case side4 => exact HC311_2.out)
      rintro e w12 ⟨rfl, hb⟩
      refine ⟨_, rfl, ?_⟩
      replace HB := BS hb
      (try clear hb)
      (try clear hb2)
      (try clear hk)
      (try clear hi)
      refine hK.out _ _ ⟨((HB.out.cell (World.block_lt_of_cell? w _ hw310_0)).trans hw310_0), ((HB.out.cell (World.block_lt_of_cell? w _ hw310_1)).trans hw310_1), ((HB.out.cell (World.block_lt_of_cell? w _ hw310_2)).trans hw310_2), ((HB.out.cell (World.block_lt_of_cell? w _ hw311_0)).trans hw311_0), ((HB.out.cell (World.block_lt_of_cell? w _ hw311_1)).trans hw311_1), ((HB.out.cell (World.block_lt_of_cell? w _ hw311_2)).trans hw311_2)⟩ (fun hHeld => ?_)
      clear hK K
      refine nA ?_
      refine pA 9 26 (mL 10 1023) HT_ rfl rfl ?_
      refine done_ (done_of HT_.out KR) ?_
      try go_wp2
      go_ret
      exact ⟨TE, TB⟩
    ·rw [if_neg c4] at H
     have c4b0 : decide (x5_1 < (l0.length : Int)) = false := decide_eq_false c4
     clear c4
     obtain rfl := Option.some.inj H
     go_wp2
     go_ret
     exact ⟨TE, TB⟩
 ·rw [if_neg c3] at H
  have c3b0 : ((l0.length : Int) == (l1.length : Int)) = false := beq_eq_false_iff_ne.mpr c3
  have c3b1 : ((l0.length : Int) != (l1.length : Int)) = true := bne_iff_ne.mpr c3
  have c3b2 : (l0.length == l1.length) = false := by first | simpa using c3 | (simp at c3 ⊢; omega)
  obtain rfl := Option.some.inj H
  go_enter Tryd.func42, Tryd.ntmps42
  go_wp2
  go_ret
  exact ⟨TE, TB⟩
end
section
/-! ### laws_markText: function 71 -/
def laws_markText.l0 : Nat → Int → ByteArray → Option (ByteArray)
 | 0, _, _ => none
 | k + 1, x0, x3 => if x0 > 0 then ((some (([(wrap64 (48 + (Int.tmod x0 10))) % 256] : List Int) : List Int)).bind fun y492 => (if (strOfNums y492).size + x3.size ≤ 9223372036854775807 then (laws_markText.l0 k (wrap64 (Int.tdiv x0 10)) ((strOfNums y492) ++ x3)) else (none))) else (if 1 + x3.size ≤ 9223372036854775807 then (some ((⟨#[109]⟩ : ByteArray) ++ x3)) else (none))
def laws_markText.f (k : Nat) (a0 : Int) : Option (ByteArray) := if a0 ≤ 0 then (some (⟨#[109, 48]⟩ : ByteArray)) else (laws_markText.l0 k a0 (⟨#[]⟩ : ByteArray))
theorem laws_markText.calls (k : Nat) (a0 : Int) (r : ByteArray) (w : World) (h : laws_markText.f k a0 = some r) :
  Calls Tryd.prog 71 #[.int .i64 a0] w fun e w' => e = .returned (.string r) ∧ Below w.heap.size w w' := by
 have HB := Aside0.mk (Below.refl w.heap.size w)
 have H : (if a0 ≤ 0 then (some (⟨#[109, 48]⟩ : ByteArray)) else (laws_markText.l0 k a0 (⟨#[]⟩ : ByteArray))) = some r := h
 clear h
 by_cases c2 : a0 ≤ 0
 ·rw [if_pos c2] at H
  have c2b0 : decide (a0 ≤ 0) = true := decide_eq_true c2
  clear c2
  obtain rfl := Option.some.inj H
  go_enter Tryd.func71, Tryd.ntmps71
  go_wp2
  go_ret
  exact ⟨TE, TB⟩
 ·rw [if_neg c2] at H
  have c2b0 : decide (a0 ≤ 0) = false := decide_eq_false c2
  clear c2
  have H' := Aside0.mk H
  clear H
  go_enter Tryd.func71, Tryd.ntmps71
  go_wp2
  go_loopg [0, 3] k (fun kq v0 v3 w' => ∃ (x0_1 : Int) (x3_1 : ByteArray), v0 = .int .i64 x0_1 ∧ v3 = .string x3_1 ∧ Aside0 (laws_markText.l0 kq x0_1 x3_1 = some r) ∧ Aside0 (kq ≤ k) ∧ Aside0 (Below w.heap.size w w'))
  case atStart => exact ⟨(a0), ((⟨#[]⟩ : ByteArray)), TF, TF, H', ⟨Nat.le_refl _⟩, ⟨TB⟩⟩
  case round =>
   clear H'
   obtain ⟨x0_1, x3_1, rfl, rfl, HA, HK1, HB⟩ := hrel
   cases gk with
   | zero => exact absurd HA.out (by simp [laws_markText.l0])
   | succ k1 =>
    have H := HA.out
    clear HA
    simp only [laws_markText.l0] at H
    by_cases c3 : x0_1 > 0
    ·rw [if_pos c3] at H
     have c3b0 : decide (0 < x0_1) = true := decide_eq_true c3
     clear c3
     obtain ⟨y492, hy492⟩ : ∃ y_ : List Int, y_ = (([(wrap64 (48 + (Int.tmod x0_1 10))) % 256] : List Int)) := ⟨_, rfl⟩
     replace H : (if (strOfNums y492).size + x3_1.size ≤ 9223372036854775807 then (laws_markText.l0 k1 (wrap64 (Int.tdiv x0_1 10)) ((strOfNums y492) ++ x3_1)) else (none)) = some r := by first | (rw [hy492]; with_reducible exact H) | (have H2_ := (Option.bind_some _ _).symm.trans H; rw [hy492]; with_reducible exact H2_) | (have H2_ := (Option.bind_some _ _).symm.trans H; with_reducible exact H2_) | with_reducible exact H | (rw [hy492]; exact H) | exact H
     have Ny492 := Aside0.mk hy492
     clear hy492
     obtain ⟨c4, H⟩ := ifn H
     have c4b0 := eq_true c4
     have c4b1 : decide ((strOfNums y492).size + x3_1.size ≤ 9223372036854775807) = true := decide_eq_true c4
     try have c4b2 : (9223372036854775807 < (strOfNums y492).size + x3_1.size) = False := eq_false (Nat.not_lt.2 c4)
     have H' := Aside0.mk H
     clear H
     go_wp2_with (first | ((with_reducible refine gate_dst (N := 12) rfl ?_); refine Kd.R_lit (Kd.int .u8) _ 5 ?hg (N := 12) ?hd (xs := ([(wrap64 (48 + (Int.tmod x0_1 10))) % 256] : List Int)) (inner := [.int .u8 ((wrap64 (48 + (Int.tmod x0_1 10))) % 256)]) (ok := fun _ => True) (okp := fun _ => True) ?hr ?hp (fun _ hk => hk) trivial (Below.refl _ _) (Nat.le_refl _) (by simp) ?_; (case hd => rfl); (case hg => rfl); (case hr => first | (go_simp; done) | (go_simp; rfl)); (case hp => exact (Reps.one (show Kd.M (Kd.int .u8) _ _ _ ((wrap64 (48 + (Int.tmod x0_1 10))) % 256) [.int .u8 ((wrap64 (48 + (Int.tmod x0_1 10))) % 256)] from rfl) (Reps.none _ _))); intro v493 w5 ho6 hb hg_ hnew_; clear hg_ hnew_; (first | rw [← Ny492.out] at ho6 | (simp only [Int.reduceToNat] at ho6; rw [← Ny492.out] at ho6)); have HO494 := RL ho6; replace HB := BS hb; clear hb ho6; have hcv7 := own_string (P := Tryd.prog) Tryd.underlying113 Tryd.underlying5 Tryd.underlying9 (Kd.own_of_R HO494.out)))
     go_roundg k1
     case measure => have := HK1.out; omega
     case rel => exact ⟨(wrap64 (Int.tdiv x0_1 10)), ((strOfNums y492) ++ x3_1), TF, TF, H', ⟨TM⟩, ⟨TB⟩⟩
    ·rw [if_neg c3] at H
     have c3b0 : decide (0 < x0_1) = false := decide_eq_false c3
     clear c3
     obtain ⟨c8, H⟩ := ifn H
     have c8b0 := eq_true c8
     have c8b1 : decide (1 + x3_1.size ≤ 9223372036854775807) = true := decide_eq_true c8
     try have c8b2 : (9223372036854775807 < 1 + x3_1.size) = False := eq_false (Nat.not_lt.2 c8)
     obtain rfl := Option.some.inj H
     go_wp2
     go_ret
     exact ⟨TE, TB⟩
end
section
/-! ### laws_markIntS: function 90 -/
def laws_markIntS.l0 : Nat → List Int → Int → Int → Option (Int × List Int)
 | 0, _, _, _ => none
 | k + 1, x0, x1, x5 => if x5 < (x0.length : Int) then (if 0 ≤ x5 then (laws_markIntS.l0 k (x0.set (x5 : Int).toNat x1) (wrap64 (x1 + 1)) (wrap64 (x5 + 1))) else (none)) else (some (x1, x0))
def laws_markIntS.f (k : Nat) (l0 : List Int) (a1 : Int) : Option (Int × List Int) := laws_markIntS.l0 k l0 a1 0
theorem laws_markIntS.calls (k : Nat) (P0_ : Nat → Prop) (u9000_ : Value) (l0 : List Int) (a1 : Int) (r1 : Int) (r2 : List Int) (w0 w : World) (hB : Below w0.heap.size w0 w) (ho0 : Kd.R (Kd.int .i64) 3 w w0.heap.size P0_ u9000_ l0) (h : laws_markIntS.f k l0 a1 = some (r1, r2)) :
  Calls Tryd.prog 90 #[u9000_, .int .i64 a1] w fun e w' => e = .returned (.int .i64 r1) ∧ Kd.R (Kd.int .i64) 3 w' w0.heap.size (fun k_ => (P0_ k_ ∨ w.heap.size ≤ k_)) u9000_ r2 ∧ Below w0.heap.size w0 w' ∧ Kept w w' (fun k_ => P0_ k_) := by
 have HO0 := Aside0.mk (show Kd.R (Kd.int .i64) 3 w w0.heap.size (fun k_ => (P0_ k_ ∨ w.heap.size ≤ k_)) u9000_ l0 from Kd.R_mono ho0 (fun k_ hk => (.inl hk)))
 have HK := Aside0.mk (Kept.refl w (fun k_ => P0_ k_))
 have HW0 := Aside0.mk hB.size
 have HB := Aside0.mk hB
 clear hB
 have H : (laws_markIntS.l0 k l0 a1 0) = some (r1, r2) := h
 clear h
 have H' := Aside0.mk H
 clear H
 go_enter Tryd.func90, Tryd.ntmps90
 go_wp2
 go_loopg [1, 5] k (fun kq v1 v5 w' => ∃ (x0_1 : List Int) (x1_1 : Int) (x5_1 : Int), v1 = .int .i64 x1_1 ∧ v5 = .int .i64 x5_1 ∧ Aside0 (laws_markIntS.l0 kq x0_1 x1_1 x5_1 = some (r1, r2)) ∧ Aside0 (kq ≤ k) ∧ Aside0 (Kd.R (Kd.int .i64) 3 w' w0.heap.size (fun k_ => (P0_ k_ ∨ w.heap.size ≤ k_)) u9000_ x0_1) ∧ Aside0 (Kept w w' (fun k_ => P0_ k_)) ∧ Aside0 (Below w0.heap.size w0 w'))
 case atStart => exact ⟨(l0), (a1), (0), TF, TF, H', ⟨Nat.le_refl _⟩, RW HO0, ⟨TK⟩, ⟨TB⟩⟩
 case round =>
  clear H'
  obtain ⟨x0_1, x1_1, x5_1, rfl, rfl, HA, HK1, HO_0, HK, HB⟩ := hrel
  cases gk with
  | zero => exact absurd HA.out (by simp [laws_markIntS.l0])
  | succ k1 =>
   have H := HA.out
   clear HA
   simp only [laws_markIntS.l0] at H
   by_cases c3 : x5_1 < (x0_1.length : Int)
   ·rw [if_pos c3] at H
    have c3b0 : decide (x5_1 < (x0_1.length : Int)) = true := decide_eq_true c3
    clear c3
    obtain ⟨c4, H⟩ := ifn H
    have c4b0 : decide (0 ≤ x5_1) = true := decide_eq_true c4
    clear c4
    obtain ⟨y495, hy495⟩ : ∃ y_ : List Int, y_ = (x0_1.set (x5_1 : Int).toNat x1_1) := ⟨_, rfl⟩
    replace H : (laws_markIntS.l0 k1 y495 (wrap64 (x1_1 + 1)) (wrap64 (x5_1 + 1))) = some (r1, r2) := by first | (rw [hy495]; with_reducible exact H) | (have H2_ := (Option.bind_some _ _).symm.trans H; rw [hy495]; with_reducible exact H2_) | (have H2_ := (Option.bind_some _ _).symm.trans H; with_reducible exact H2_) | with_reducible exact H | (rw [hy495]; exact H) | exact H
    have Ny495 := Aside0.mk hy495
    clear hy495
    have H' := Aside0.mk H
    clear H
    obtain ⟨Ao6, co6, eo6⟩ := Kd.R_slice HO_0.out
    subst eo6
    have p5 : 0 ≤ (x5_1 : Int) := TD
    have q5 : (x5_1 : Int) < ((x0_1.length : Int) : Int) := TD
    obtain ⟨go5, co5, eo5, gb5, gl5, cl5, HG5⟩ := Kd.R_form HO_0.out (by omega)
    (first | cases eo5 | (injection eo5 with ea_ en_ ec_; (first | subst ea_ | (injection ea_ with ea_; subst ea_)); subst ec_; clear en_))
    have GB5 := Aside0.mk gb5
    have GG5 := Aside0.mk HG5
    clear gb5 gl5 HG5
    have HMgo5 := Aside0.mk (show (P0_ go5 ∨ w.heap.size ≤ go5) from (HO_0.out.1 _ rfl))
    obtain ⟨hx5_0, hf5_0⟩ := Kd.R_celln 0 HO_0.out (x5_1 : Int) p5 q5
    replace p5 := eq_true p5
    replace q5 := eq_true q5
    have HP7 := Kd.R_putg HO_0.out (x5_1 : Int) x1_1
    go_wp2_with (first | ((with_reducible refine gate_store (t := 3) (p := 15) rfl ?_); refine store_event (t := 3) (p := 15) (v := ?vo_w8) (w1 := (wr.setCell ⟨go5, (x5_1 : Int).toNat, none⟩ (.int .i64 x1_1))) ?hg ?ho ?hn ?hr ?_; (case ho => rfl); (case hg => rfl); (case hn => rfl); (case hr => first | (go_simp; done) | (go_simp; rfl)); intro w8 hw; have hg : wr.grownBy w8 (some go5) := (by rw [hw]; exact HP7.2); have hp_ : Kd.R (Kd.int .i64) 3 w8 w0.heap.size (fun k_ => (P0_ k_ ∨ w.heap.size ≤ k_)) (.slice (some ⟨go5, 0, none⟩) x0_1.length co6) y495 := (by rw [hw, Ny495.out]; exact HP7.1); clear HP7; replace HB := Aside0.mk ((by rw [hw]; exact below_set (HB.out) GB5.out : Below w0.heap.size w0 w8)); replace HK := Aside0.mk (Kept.of_grown (S := (fun k_ => P0_ k_)) hg TK (fun k_ e_ => (HO_0.out.1 k_ e_))); replace HO_0 := Aside0.mk (hp_); clear hg hw hp_))
    go_roundg k1
    case measure => have := HK1.out; omega
    case rel => exact ⟨(y495), (wrap64 (x1_1 + 1)), (wrap64 (x5_1 + 1)), TF, TF, H', ⟨TM⟩, RW HO_0, ⟨TK⟩, ⟨TB⟩⟩
   ·rw [if_neg c3] at H
    have c3b0 : decide (x5_1 < (x0_1.length : Int)) = false := decide_eq_false c3
    clear c3
    simp only [Option.some.injEq, Prod.mk.injEq] at H
    obtain ⟨rfl, rfl⟩ := H
    obtain ⟨Ao9, co9, eo9⟩ := Kd.R_slice HO_0.out
    subst eo9
    go_wp2
    go_ret
    exact ⟨TE, (RW HO_0).out, TB, TK⟩
end
section
/-! ### laws_markGapS: function 49 -/
def laws_markGapS.l0 : Nat → List (S_Gap) → Int → Int → Option (Int × (List (S_Gap)))
 | 0, _, _, _ => none
 | k + 1, x0, x1, x5 => if x5 < (x0.length : Int) then (if 0 ≤ x5 then ((laws_markText.f k x1).bind fun t0_ => ((laws_markText.f k (wrap64 (x1 + 1))).bind fun t1_ => ((laws_markIntS.f k ((rd_TGap x0 x5).f2) (wrap64 ((wrap64 (x1 + 1)) + 1))).bind fun b2_ => (laws_markGapS.l0 k (x0.set (x5 : Int).toNat (⟨t0_, t1_, b2_.2⟩ : S_Gap)) b2_.1 (wrap64 (x5 + 1)))))) else (none)) else (some (x1, x0))
def laws_markGapS.f (k : Nat) (l0 : List (S_Gap)) (a1 : Int) : Option (Int × (List (S_Gap))) := laws_markGapS.l0 k l0 a1 0
section
variable {W : World} {base n cap g : Nat} {ok : Nat → Prop} {xs : List (S_Gap)} {x x' : S_Gap} {i : Int}
theorem laws_markGapS.at_ (i : Int) (h0 : 0 ≤ i) (h1 : i < (xs.length : Int)) : xs.set i.toNat (rd_TGap xs i) = xs := by
 have hi : i.toNat < xs.length := by omega
 unfold rd_TGap
 rw [List.getD_eq_getElem?_getD, List.getElem?_eq_getElem hi, Option.getD_some]
 exact List.set_getElem_self hi
theorem laws_markGapS.set0_ {u : Value} (HO : Aside0 (Kd.S k_Gap 44 W base ok u xs)) (h0 : 0 ≤ i) (h1 : i < (xs.length : Int)) : Aside0 (Kd.S k_Gap 44 W base ok u (xs.set i.toNat (rd_TGap xs i))) := by
 rw [laws_markGapS.at_ i h0 h1]
 exact HO
theorem laws_markGapS.get_ (h0 : 0 ≤ i) (h1 : i < (xs.length : Int)) : (xs.set i.toNat x).getD i.toNat z_Gap = x := by
 have hi : i.toNat < xs.length := by omega
 rw [List.getD_eq_getElem?_getD, List.getElem?_set_self hi, Option.getD_some]
theorem laws_markGapS.elem_ (HO : Kd.S k_Gap 44 W base ok (.slice (some ⟨g, 0, none⟩) n cap) (xs.set i.toNat x)) (h0 : 0 ≤ i) (h1 : i < (xs.length : Int)) (hn : n = xs.length) :
  ∃ (oki : Nat → Prop) (c : List Value), c.length = 3 ∧ k_Gap.M W base oki x c ∧ (∀ j u, c[j]? = some u → W.cell? ⟨g, i.toNat * 3 + j, none⟩ = some u) ∧ (∀ j, W.frozen? ⟨g, i.toNat * 3 + j, none⟩ = false) ∧ (∀ k, oki k → ok k ∧ k ≠ g) ∧ Kd.H k_Gap 44 W base ok (.slice (some ⟨g, 0, none⟩) n cap) (xs.set i.toNat x) i oki c := by
 obtain ⟨oki, c, e1, e2, e3, e4, e5, e6⟩ := Kd.S_elem HO z_Gap i h0 (by omega)
 rw [laws_markGapS.get_ h0 h1] at e2
 exact ⟨oki, c, e1, e2, e3, e4, e5, e6⟩
theorem laws_markGapS.store_ (HO : Kd.S k_Gap 44 W base ok (.slice (some ⟨g, 0, none⟩) n cap) (xs.set i.toNat x)) (h0 : 0 ≤ i) (h1 : i < (xs.length : Int)) (hn : n = xs.length) (x' : S_Gap) (j : Nat) (u : Value) (hu : u.oneCell' = true) (hj : j + 1 ≤ 3)
  (hx : ∀ okp c, k_Gap.M W base okp x c → k_Gap.M W base okp x' (c.take j ++ [u] ++ c.drop (j + 1))) :
  Kd.S k_Gap 44 (W.setCell ⟨g, i.toNat * 3 + j, none⟩ u) base ok (.slice (some ⟨g, 0, none⟩) n cap) (xs.set i.toNat x') ∧ W.grownBy (W.setCell ⟨g, i.toNat * 3 + j, none⟩ u) (some g) := by
 obtain ⟨oki, c, e1, e2, e3, e4, e5, e6⟩ := laws_markGapS.elem_ HO h0 h1 hn
 have h := Kd.S_seg (okg := fun _ => False) (okp := oki) (seg := [u]) (j := j) (x' := x') (Kd.H_mono e6 (fun k hk => ⟨hk, fun h => h.elim⟩)) h0 (by omega) hj (hx oki c e2) (fun k hk => .inl hk) (fun k hk => hk.elim)
 rw [List.set_set] at h
 exact h
theorem laws_markGapS.lend_ (HO : Kd.S k_Gap 44 W base ok (.slice (some ⟨g, 0, none⟩) n cap) (xs.set i.toNat x)) (h0 : 0 ≤ i) (h1 : i < (xs.length : Int)) (hn : n = xs.length) (hfresh : ∀ k, W.heap.size ≤ k → ok k) :
  ∃ (oki : Nat → Prop) (c : List Value), c.length = 3 ∧ k_Gap.M W base oki x c ∧ (∀ j u, c[j]? = some u → W.cell? ⟨g, i.toNat * 3 + j, none⟩ = some u) ∧ (∀ k, oki k → ok k) ∧ ∀ {w1 : World} (x' : S_Gap), Kept W w1 oki → k_Gap.M w1 base (fun k => oki k ∨ W.heap.size ≤ k) x' c → Kd.S k_Gap 44 w1 base ok (.slice (some ⟨g, 0, none⟩) n cap) (xs.set i.toNat x') := by
 obtain ⟨oki, c, e1, e2, e3, e4, e5, e6⟩ := laws_markGapS.elem_ HO h0 h1 hn
 refine ⟨oki, c, e1, e2, e3, fun k hk => (e5 k hk).1, fun {w1} x' hk hM => ?_⟩
 have h := Kd.H_back (Kd.H_step (Kd.H_widen e6) (w1 := w1) (fun k _ hn' hlt => hk.2 k hlt (fun h => hn' (.inl h)))) (x' := x') hM (fun k h => h.elim .inl (fun h => .inr ⟨hfresh k h, h⟩))
 rw [List.set_set] at h
 exact h
end
theorem laws_markGapS.calls (k : Nat) (P0_ : Nat → Prop) (u9000_ : Value) (l0 : List (S_Gap)) (a1 : Int) (r1 : Int) (r2 : List (S_Gap)) (w0 w : World) (hB : Below w0.heap.size w0 w) (ho0 : Kd.S k_Gap 44 w w0.heap.size P0_ u9000_ l0) (h : laws_markGapS.f k l0 a1 = some (r1, r2)) :
  Calls Tryd.prog 49 #[u9000_, .int .i64 a1] w fun e w' => e = .returned (.int .i64 r1) ∧ Kd.S k_Gap 44 w' w0.heap.size (fun k_ => (P0_ k_ ∨ w.heap.size ≤ k_)) u9000_ r2 ∧ Below w0.heap.size w0 w' ∧ Kept w w' (fun k_ => P0_ k_) := by
 have HO0 := Aside0.mk (show Kd.S k_Gap 44 w w0.heap.size (fun k_ => (P0_ k_ ∨ w.heap.size ≤ k_)) u9000_ l0 from Kd.S_mono ho0 (fun k_ hk => (.inl hk)))
 have HK := Aside0.mk (Kept.refl w (fun k_ => P0_ k_))
 have HW0 := Aside0.mk hB.size
 have HB := Aside0.mk hB
 clear hB
 have H : (laws_markGapS.l0 k l0 a1 0) = some (r1, r2) := h
 clear h
 have H' := Aside0.mk H
 clear H
 go_enter Tryd.func49, Tryd.ntmps49
 go_wp2
 go_loopg [1, 5] k (fun kq v1 v5 w' => ∃ (x0_1 : List (S_Gap)) (x1_1 : Int) (x5_1 : Int), v1 = .int .i64 x1_1 ∧ v5 = .int .i64 x5_1 ∧ Aside0 (laws_markGapS.l0 kq x0_1 x1_1 x5_1 = some (r1, r2)) ∧ Aside0 (kq ≤ k) ∧ Aside0 (Kd.S k_Gap 44 w' w0.heap.size (fun k_ => (P0_ k_ ∨ w.heap.size ≤ k_)) u9000_ x0_1) ∧ Aside0 (Kept w w' (fun k_ => P0_ k_)) ∧ Aside0 (Below w0.heap.size w0 w'))
 case atStart => exact ⟨(l0), (a1), (0), TF, TF, H', ⟨Nat.le_refl _⟩, HO0, HK, HB⟩
 case round =>
  clear H'
  obtain ⟨x0_1, x1_1, x5_1, rfl, rfl, HA, HK1, HO_0, HK, HB⟩ := hrel
  cases gk with
  | zero => exact absurd HA.out (by simp [laws_markGapS.l0])
  | succ k1 =>
   have H := HA.out
   clear HA
   simp only [laws_markGapS.l0] at H
   by_cases c3 : x5_1 < (x0_1.length : Int)
   ·rw [if_pos c3] at H
    have c3b0 : decide (x5_1 < (x0_1.length : Int)) = true := decide_eq_true c3
    obtain ⟨c5, H⟩ := ifn H
    have c5b0 : decide (0 ≤ x5_1) = true := decide_eq_true c5
    obtain ⟨t0_, A0_, H⟩ := bnd H
    obtain ⟨t1_, A1_, H⟩ := bnd H
    obtain ⟨b2_, A2_, H⟩ := bnd H
    have H' := Aside0.mk H
    clear H
    obtain ⟨go, co, eo, gb, gl, cl, HG⟩ := Kd.S_form HO_0.out (by omega)
    subst eo
    have HMgo := Aside0.mk (show (P0_ go ∨ w.heap.size ≤ go) from (Kd.S_R HO_0.out).1 _ rfl)
    have GB := Aside0.mk gb
    clear gb gl HG
    replace HO_0 := laws_markGapS.set0_ HO_0 c5 c3
    have C3 := Aside0.mk c3
    have C5 := Aside0.mk c5
    clear c3 c5
    have cp_ : (0 ≤ x5_1) = True := eq_true C5.out
    have cq_ : (x5_1 < (x0_1.length : Int)) = True := eq_true C3.out
    go_wp2_with (first | ((with_reducible refine gate_callee (f := 71) rfl ?_); refine goesL_ (some 15) rfl rfl Tryd.func71 KR rfl #[.int .i64 x1_1] rfl TA ?_; (with_reducible refine (laws_markText.calls k1 x1_1 t0_ _ A0_.out).mono ?_); rintro e ws0 ⟨rfl, hb⟩; refine ⟨_, rfl, ?_⟩; replace HO_0 := Aside0.mk (Kd.S_below HO_0.out (below_step TW hb)); replace HK := Aside0.mk (Kept.below (S := (fun k_ => P0_ k_)) TK hb); replace HB := BS hb; clear hb; obtain ⟨oki_, ce_, hcl_, hM_, hcc_, hfr_, hok_, hH_⟩ := laws_markGapS.elem_ HO_0.out C5.out C3.out rfl; obtain ⟨v2_, rfl, hR2_⟩ := k_Gap_openM hM_; have hxs0_0 := hcc_ 0 _ rfl; have hfs0_0 := hfr_ 0; have hxs0_1 := hcc_ 1 _ rfl; have hfs0_1 := hfr_ 1; have hxs0_2 := hcc_ 2 _ rfl; have hfs0_2 := hfr_ 2; (try rw [Nat.add_zero] at hxs0_0); (try rw [Nat.add_zero] at hfs0_0); clear hcl_ hcc_ hfr_ hM_ hok_ hH_ hR2_) | ((with_reducible refine gate_store (t := 9) (p := 17) rfl ?_); have HP_ := laws_markGapS.store_ HO_0.out C5.out C3.out rfl (⟨t0_, (rd_TGap x0_1 x5_1).f1, (rd_TGap x0_1 x5_1).f2⟩ : S_Gap) 0 (.string t0_) rfl (by decide) (fun okp c hM => by obtain ⟨v2_, rfl, hR2_⟩ := k_Gap_openM hM; exact k_Gap_mkM _ _ _ (⟨t0_, (rd_TGap x0_1 x5_1).f1, (rd_TGap x0_1 x5_1).f2⟩ : S_Gap) hR2_); refine store_event (t := 9) (p := 17) (v := ?vo_w0) (w1 := ws0.setCell ⟨go, x5_1.toNat * 3, none⟩ (.string t0_)) ?hg ?ho ?hn ?hr ?_; (case ho => rfl); (case hg => rfl); (case hn => rfl); (case hr => first | (go_simp; done) | (go_simp; rfl)); intro wt0 hw; have hg := HP_.2; have hp_ := HP_.1; clear HP_; simp only [Nat.add_zero] at hg hp_; rw [← hw] at hg hp_; replace HB := Aside0.mk ((by rw [hw]; exact below_set (HB.out) GB.out : Below w0.heap.size w0 wt0)); replace HK := Aside0.mk (Kept.of_grown (S := (fun k_ => P0_ k_)) hg TK (fun k_ e_ => (by injection e_ with e_; rw [← e_]; exact HMgo.out))); replace HO_0 := Aside0.mk hp_; clear hg hw hp_) | ((with_reducible refine gate_callee (f := 71) rfl ?_); refine goesL_ (some 23) rfl rfl Tryd.func71 KR rfl #[.int .i64 (wrap64 (x1_1 + 1))] rfl TA ?_; (with_reducible refine (laws_markText.calls k1 (wrap64 (x1_1 + 1)) t1_ _ A1_.out).mono ?_); rintro e ws1 ⟨rfl, hb⟩; refine ⟨_, rfl, ?_⟩; replace HO_0 := Aside0.mk (Kd.S_below HO_0.out (below_step TW hb)); replace HK := Aside0.mk (Kept.below (S := (fun k_ => P0_ k_)) TK hb); replace HB := BS hb; clear hb; obtain ⟨oki_, ce_, hcl_, hM_, hcc_, hfr_, hok_, hH_⟩ := laws_markGapS.elem_ HO_0.out C5.out C3.out rfl; obtain ⟨v2_, rfl, hR2_⟩ := k_Gap_openM hM_; have hxs1_0 := hcc_ 0 _ rfl; have hfs1_0 := hfr_ 0; have hxs1_1 := hcc_ 1 _ rfl; have hfs1_1 := hfr_ 1; have hxs1_2 := hcc_ 2 _ rfl; have hfs1_2 := hfr_ 2; (try rw [Nat.add_zero] at hxs1_0); (try rw [Nat.add_zero] at hfs1_0); clear hcl_ hcc_ hfr_ hM_ hok_ hH_ hR2_) | ((with_reducible refine gate_store (t := 9) (p := 25) rfl ?_); have HP_ := laws_markGapS.store_ HO_0.out C5.out C3.out rfl (⟨t0_, t1_, (rd_TGap x0_1 x5_1).f2⟩ : S_Gap) 1 (.string t1_) rfl (by decide) (fun okp c hM => by obtain ⟨v2_, rfl, hR2_⟩ := k_Gap_openM hM; exact k_Gap_mkM _ _ _ (⟨t0_, t1_, (rd_TGap x0_1 x5_1).f2⟩ : S_Gap) hR2_); refine store_event (t := 9) (p := 25) (v := ?vo_w1) (w1 := ws1.setCell ⟨go, x5_1.toNat * 3 + 1, none⟩ (.string t1_)) ?hg ?ho ?hn ?hr ?_; (case ho => rfl); (case hg => rfl); (case hn => rfl); (case hr => first | (go_simp; done) | (go_simp; rfl)); intro wt1 hw; have hg := HP_.2; have hp_ := HP_.1; clear HP_; rw [← hw] at hg hp_; replace HB := Aside0.mk ((by rw [hw]; exact below_set (HB.out) GB.out : Below w0.heap.size w0 wt1)); replace HK := Aside0.mk (Kept.of_grown (S := (fun k_ => P0_ k_)) hg TK (fun k_ e_ => (by injection e_ with e_; rw [← e_]; exact HMgo.out))); replace HO_0 := Aside0.mk hp_; clear hg hw hp_; obtain ⟨oki_, ce_, hcl_, hM_, hcc_, hfr_, hok_, hH_⟩ := laws_markGapS.elem_ HO_0.out C5.out C3.out rfl; obtain ⟨v2_, rfl, hR2_⟩ := k_Gap_openM hM_; have hxt1_0 := hcc_ 0 _ rfl; have hft1_0 := hfr_ 0; have hxt1_1 := hcc_ 1 _ rfl; have hft1_1 := hfr_ 1; have hxt1_2 := hcc_ 2 _ rfl; have hft1_2 := hfr_ 2; (try rw [Nat.add_zero] at hxt1_0); (try rw [Nat.add_zero] at hft1_0); clear hcl_ hcc_ hfr_ hM_ hok_ hH_ hR2_) | ((with_reducible refine gate_callee (f := 90) rfl ?_); obtain ⟨oki_, ce_, hcl_, hM_, hcc_, hok_, hback_⟩ := laws_markGapS.lend_ HO_0.out C5.out C3.out rfl (fun k_ h_ => Or.inr (Nat.le_trans HK.out.1 h_)); obtain ⟨v2'_, rfl, hR2_⟩ := k_Gap_openM hM_; obtain rfl : v2_ = v2'_ := (by have h_ := hcc_ 2 _ rfl; rw [hxt1_2] at h_; exact Option.some.inj h_); refine goesL_ (some 34) rfl rfl Tryd.func90 KR rfl #[v2_, .int .i64 (wrap64 ((wrap64 (x1_1 + 1)) + 1))] rfl TA ?_; (with_reducible refine (laws_markIntS.calls k1 oki_ v2_ ((rd_TGap x0_1 x5_1).f2) (wrap64 ((wrap64 (x1_1 + 1)) + 1)) b2_.1 b2_.2 w0 _ HB.out hR2_ A2_.out).mono ?_); rintro e wl2 ⟨rfl, hR'_, hB'_, hK'_⟩; refine ⟨_, rfl, ?_⟩; have hp_ := hback_ (⟨t0_, t1_, b2_.2⟩ : S_Gap) hK'_ (k_Gap_mkM _ _ _ (⟨t0_, t1_, b2_.2⟩ : S_Gap) hR'_); replace HB := Aside0.mk hB'_; replace HK := Aside0.mk (Kept.then_ HK.out hK'_ (fun k_ h_ => hok_ k_ h_)); replace HO_0 := Aside0.mk hp_; clear hp_ hR'_ hB'_ hK'_ hback_ hok_ hcc_ hcl_ hM_ hR2_))
    go_roundg k1
    case measure => have := HK1.out; omega
    case rel => exact ⟨_, _, _, TF, TF, H', ⟨TM⟩, HO_0, HK, HB⟩
   ·rw [if_neg c3] at H
    have c3b0 : decide (x5_1 < (x0_1.length : Int)) = false := decide_eq_false c3
    clear c3
    simp only [Option.some.injEq, Prod.mk.injEq] at H
    obtain ⟨rfl, rfl⟩ := H
    obtain ⟨Ao_, co_, eo_⟩ := Kd.S_slice HO_0.out
    subst eo_
    go_wp2
    go_ret
    exact ⟨TE, HO_0.out, HB.out, HK.out⟩
end
section
/-! ### laws_markGap: function 50 -/
def laws_markGap.f (k : Nat) (a0_0 : ByteArray) (a0_1 : ByteArray) (l0_2 : List Int) (a1 : Int) : Option (Int × List Int) := (laws_markIntS.f k l0_2 a1).bind fun bt497 => (some (bt497.1, bt497.2))
theorem laws_markGap.calls (k : Nat) (a0_0 : ByteArray) (a0_1 : ByteArray) (P0_2_ : Nat → Prop) (u9000_ : Value) (l0_2 : List Int) (a1 : Int) (r1 : Int) (r2 : List Int) (w0 w : World) (hB : Below w0.heap.size w0 w) (ho0_2 : Kd.R (Kd.int .i64) 3 w w0.heap.size P0_2_ u9000_ l0_2) (h : laws_markGap.f k a0_0 a0_1 l0_2 a1 = some (r1, r2)) :
  Calls Tryd.prog 50 #[.agg #[.string a0_0, .string a0_1, u9000_], .int .i64 a1] w fun e w' => e = .returned (.int .i64 r1) ∧ Kd.R (Kd.int .i64) 3 w' w0.heap.size (fun k_ => (P0_2_ k_ ∨ w.heap.size ≤ k_)) u9000_ r2 ∧ Below w0.heap.size w0 w' ∧ Kept w w' (fun k_ => P0_2_ k_) := by
 have hu44 := Tryd.underlying44
 have HO0_2 := Aside0.mk (show Kd.R (Kd.int .i64) 3 w w0.heap.size (fun k_ => (P0_2_ k_ ∨ w.heap.size ≤ k_)) u9000_ l0_2 from Kd.R_mono ho0_2 (fun k_ hk => (.inl hk)))
 have HK := Aside0.mk (Kept.refl w (fun k_ => P0_2_ k_))
 have HW0 := Aside0.mk hB.size
 have HB := Aside0.mk hB
 clear hB
 have H : ((laws_markIntS.f k l0_2 a1).bind fun bt497 => (some (bt497.1, bt497.2))) = some (r1, r2) := h
 clear h
 obtain ⟨⟨t497, t498⟩, A3, H⟩ := bnd H
 try dsimp only at H
 simp only [Option.some.injEq, Prod.mk.injEq] at H
 obtain ⟨rfl, rfl⟩ := H
 obtain ⟨Ao4, co4, eo4⟩ := Kd.R_slice HO0_2.out
 subst eo4
 go_enter Tryd.func50, Tryd.ntmps50
 go_wp2_with (first | ((with_reducible refine gate_dst (N := 2) rfl ?_); refine bE 2 #[.string a0_0, .string a0_1, .slice Ao4 l0_2.length co4] 44 ?_; intro gb496 hg w5 hbox hb; replace HO0_2 := RB HO0_2 hb; have BK496 := Aside0.mk (hbox); have GW496 := Aside0.mk ((by rw [hg]; exact (by first | exact HK.out.1 | exact (show Kept w _ (fun k_ => P0_2_ k_) from TK).1) : w.heap.size ≤ gb496)); replace HK := Aside0.mk (Kept.below (S := (fun k_ => P0_2_ k_)) TK hb); have GE496 := bG hg; replace HB := BS hb; clear hb hbox hg; have hcz6 := cz3 BK496) | ((with_reducible refine gate_callee (f := 90) rfl ?_); refine goesL_ (some 8) rfl rfl Tryd.func90 KR rfl #[.slice Ao4 l0_2.length co4, .int .i64 a1] rfl TA ?_; (with_reducible refine (laws_markIntS.calls k (fun k_ => some k_ = (.slice Ao4 l0_2.length co4 : Value).ownBlock) (.slice Ao4 l0_2.length co4) l0_2 a1 t497 t498 w0 _ ?side1 ?side2 A3.out).mono ?_); (case side1 => repeat (first | (with_reducible first | exact HB.out | apply below_alloc | apply pw_below_drewN | apply below_drew1 | refine below_set ?_ GE496.out) | exact HB.out)); (case side2 => exact Kd.R_tight rfl HO0_2.out); rintro e w7 ⟨rfl, hy0, hb, hkp⟩; refine ⟨_, rfl, ?_⟩; replace BK496 := Aside0.mk (blk_kept (KW BK496).out hkp (fun hs_ => (fun e_ => (Kd.R_ne HO0_2.out BK496.out (by decide)) e_) hs_)); replace HK := Aside0.mk (Kept.then_ (S := (fun k_ => P0_2_ k_)) (by repeat (first | (with_reducible first | exact HK.out | apply Kept.alloc | apply Kept.drewN | apply Kept.drew | refine Kept.setCell ?_ (.inr GW496.out) _) | exact HK.out)) hkp (fun k_ hs_ => (fun e_ => (HO0_2.out.1 k_ e_.symm)) hs_)); replace HO0_2 := Aside0.mk (Kd.R_reok rfl hy0 (fun k_ e_ => HO0_2.out.1 k_ e_)); replace HB := Aside0.mk (hb); clear hb; (try clear hkp); (try clear hy0)))
 go_ret
 exact ⟨TE, (RW HO0_2).out, TB, by repeat (first | (with_reducible first | exact HK.out | apply Kept.alloc | apply Kept.drewN | apply Kept.drew | refine Kept.setCell ?_ (.inr GW496.out) _) | exact HK.out)⟩
end
section
/-! ### laws_heldIntS: function 91 -/
def laws_heldIntS.l0 : Nat → List Int → Int → Int → Option (Int)
 | 0, _, _, _ => none
 | k + 1, x0, x1, x5 => if x5 < (x0.length : Int) then (if 0 ≤ x5 then (if (rd x0 x5) = x1 then (laws_heldIntS.l0 k x0 (wrap64 (x1 + 1)) (wrap64 (x5 + 1))) else (some (-1))) else (none)) else (some x1)
def laws_heldIntS.f (k : Nat) (l0 : List Int) (a1 : Int) : Option (Int) := laws_heldIntS.l0 k l0 a1 0
theorem laws_heldIntS.calls (k : Nat) (A0 : Option Addr) (c0 : Nat) (l0 : List Int) (a1 : Int) (r : Int) (w : World) (hr0 : Kd.C (Kd.int .i64) w A0 l0.length l0) (hc0 : l0.length ≤ c0) (h : laws_heldIntS.f k l0 a1 = some r) :
  Calls Tryd.prog 91 #[.slice A0 l0.length c0, .int .i64 a1] w fun e w' => e = .returned (.int .i64 r) ∧ Drawn0 w w' := by
 have HR0 := Aside0.mk hr0
 have HC0 := Aside0.mk hc0
 clear hr0 hc0
 have H : (laws_heldIntS.l0 k l0 a1 0) = some r := h
 clear h
 have H' := Aside0.mk H
 clear H
 go_enter Tryd.func91, Tryd.ntmps91
 go_wp2
 go_loopg [1, 5] k (fun kq v1 v5 w' => ∃ (x1_1 : Int) (x5_1 : Int), v1 = .int .i64 x1_1 ∧ v5 = .int .i64 x5_1 ∧ Aside0 (laws_heldIntS.l0 kq l0 x1_1 x5_1 = some r) ∧ Aside0 (kq ≤ k) ∧ Drawn0 w w')
 case atStart => exact ⟨(a1), (0), TF, TF, H', ⟨Nat.le_refl _⟩, TN⟩
 case round =>
  clear H'
  obtain ⟨x1_1, x5_1, rfl, rfl, HA, HK1, ⟨m1, rfl⟩⟩ := hrel
  cases gk with
  | zero => exact absurd HA.out (by simp [laws_heldIntS.l0])
  | succ k1 =>
   have H := HA.out
   clear HA
   simp only [laws_heldIntS.l0] at H
   by_cases c3 : x5_1 < (l0.length : Int)
   ·rw [if_pos c3] at H
    have c3b0 : decide (x5_1 < (l0.length : Int)) = true := decide_eq_true c3
    clear c3
    obtain ⟨c4, H⟩ := ifn H
    have c4b0 : decide (0 ≤ x5_1) = true := decide_eq_true c4
    clear c4
    by_cases c5 : (rd l0 x5_1) = x1_1
    ·rw [if_pos c5] at H
     have c5b0 : ((rd l0 x5_1) == x1_1) = true := beq_iff_eq.mpr c5
     have c5b1 : ((rd l0 x5_1) != x1_1) = false := bne_eq_false_iff_eq.mpr c5
     clear c5
     have H' := Aside0.mk H
     clear H
     have p499 : 0 ≤ (x5_1 : Int) := TD
     have q499 : x5_1 < (l0.length : Int) := TD
     obtain ⟨ad499, e499, hx499_0⟩ := Kd.at_int HR0.out x5_1 p499 q499
     cases e499
     replace p499 := eq_true p499
     replace q499 := eq_true q499
     go_wp2
     go_roundg k1
     case measure => have := HK1.out; omega
     case rel => exact ⟨(wrap64 (x1_1 + 1)), (wrap64 (x5_1 + 1)), TF, TF, H', ⟨TM⟩, TN⟩
    ·rw [if_neg c5] at H
     have c5b0 : ((rd l0 x5_1) == x1_1) = false := beq_eq_false_iff_ne.mpr c5
     have c5b1 : ((rd l0 x5_1) != x1_1) = true := bne_iff_ne.mpr c5
     obtain rfl := Option.some.inj H
     have p499 : 0 ≤ (x5_1 : Int) := TD
     have q499 : x5_1 < (l0.length : Int) := TD
     obtain ⟨ad499, e499, hx499_0⟩ := Kd.at_int HR0.out x5_1 p499 q499
     cases e499
     replace p499 := eq_true p499
     replace q499 := eq_true q499
     go_wp2
     go_ret
     exact ⟨TF, TN⟩
   ·rw [if_neg c3] at H
    have c3b0 : decide (x5_1 < (l0.length : Int)) = false := decide_eq_false c3
    clear c3
    obtain rfl := Option.some.inj H
    go_wp2
    go_ret
    exact ⟨TF, TN⟩
end
section
/-! ### laws_heldGap: function 51 -/
def laws_heldGap.f (k : Nat) (a0_0 : ByteArray) (a0_1 : ByteArray) (l0_2 : List Int) (a1 : Int) : Option (Int) := (laws_heldIntS.f k l0_2 a1).bind fun t501 => (if t501 < 0 then (some (-1)) else (some t501))
theorem laws_heldGap.calls (k : Nat) (a0_0 : ByteArray) (a0_1 : ByteArray) (A0_2 : Option Addr) (c0_2 : Nat) (l0_2 : List Int) (a1 : Int) (r : Int) (w : World) (hr0_2 : Kd.C (Kd.int .i64) w A0_2 l0_2.length l0_2) (hc0_2 : l0_2.length ≤ c0_2) (h : laws_heldGap.f k a0_0 a0_1 l0_2 a1 = some r) :
  Calls Tryd.prog 51 #[.agg #[.string a0_0, .string a0_1, .slice A0_2 l0_2.length c0_2], .int .i64 a1] w fun e w' => e = .returned (.int .i64 r) ∧ Below w.heap.size w w' := by
 have hu44 := Tryd.underlying44
 have HR0_2 := Aside0.mk hr0_2
 have HC0_2 := Aside0.mk hc0_2
 clear hr0_2 hc0_2
 have HB := Aside0.mk (Below.refl w.heap.size w)
 have H : ((laws_heldIntS.f k l0_2 a1).bind fun t501 => (if t501 < 0 then (some (-1)) else (some t501))) = some r := h
 clear h
 obtain ⟨t501, A3, H⟩ := bnd H
 by_cases c4 : t501 < 0
 ·rw [if_pos c4] at H
  have c4b0 : decide (t501 < 0) = true := decide_eq_true c4
  clear c4
  obtain rfl := Option.some.inj H
  go_enter Tryd.func51, Tryd.ntmps51
  go_wp2_with (first | ((with_reducible refine gate_dst (N := 2) rfl ?_); refine bE 2 #[.string a0_0, .string a0_1, .slice A0_2 l0_2.length c0_2] 44 ?_; intro gb500 hg w5 hbox hb; have BK500 := Aside0.mk (hbox); have GE500 := bG hg; replace HB := BS hb; clear hb hbox hg; have hcz6 := cz3 BK500) | ((with_reducible refine gate_callee (f := 91) rfl ?_); refine goesL_ (some 8) rfl rfl Tryd.func91 KR rfl #[.slice A0_2 l0_2.length c0_2, .int .i64 a1] rfl TA ?_; (with_reducible refine (laws_heldIntS.calls k _ _ l0_2 a1 t501 _ ?side1 ?side2 A3.out).mono ?_); (case side1 => exact CW ((Kd.C_below HR0_2.out HB.out))); (case side2 => exact HC0_2.out); rintro e w' ⟨rfl, ⟨nd, rfl⟩⟩; refine ⟨_, rfl, ?_⟩))
  go_ret
  exact ⟨TE, TB⟩
 ·rw [if_neg c4] at H
  have c4b0 : decide (t501 < 0) = false := decide_eq_false c4
  clear c4
  obtain rfl := Option.some.inj H
  go_enter Tryd.func51, Tryd.ntmps51
  go_wp2_with (first | ((with_reducible refine gate_dst (N := 2) rfl ?_); refine bE 2 #[.string a0_0, .string a0_1, .slice A0_2 l0_2.length c0_2] 44 ?_; intro gb500 hg w7 hbox hb; have BK500 := Aside0.mk (hbox); have GE500 := bG hg; replace HB := BS hb; clear hb hbox hg; have hcz8 := cz3 BK500) | ((with_reducible refine gate_callee (f := 91) rfl ?_); refine goesL_ (some 8) rfl rfl Tryd.func91 KR rfl #[.slice A0_2 l0_2.length c0_2, .int .i64 a1] rfl TA ?_; (with_reducible refine (laws_heldIntS.calls k _ _ l0_2 a1 t501 _ ?side1 ?side2 A3.out).mono ?_); (case side1 => exact CW ((Kd.C_below HR0_2.out HB.out))); (case side2 => exact HC0_2.out); rintro e w' ⟨rfl, ⟨nd, rfl⟩⟩; refine ⟨_, rfl, ?_⟩))
  go_ret
  exact ⟨TE, TB⟩
end
end Go.Proofs.YthckpgglghfiiaaDoor.Pp
