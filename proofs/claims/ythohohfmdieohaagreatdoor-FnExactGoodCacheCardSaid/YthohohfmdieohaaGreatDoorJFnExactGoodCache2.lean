/- The functions that the law reaches, one Lean function and its proof for each; written by wip/pp of this workplace, joined by claimit.py. -/
import Derived.Test.YthohohfmdieohaaGreatDoorProg
import Derived.Below
import Derived.Deep.Draws
import Derived.Deep.AppendLies
import Derived.Maps.AppendAt
import Derived.OwnWalk
import Derived.Laws.BytesArg
import Derived.Laws.MakeOwn
import Derived.Laws.OwnMore
import Derived.Deep.OwnRows
import Derived.Tactics
import Derived.Lib.ConvBytes
import Derived.Laws.Slices
import Derived.WalkKit
import Derived.KernelRfl
import Derived.RowKit3
import Derived.Deep.LoopGhost
import Derived.Deep.QuietTactic
import Derived.BigQuiet
import Derived.WideLaws
import Derived.Deep.DeepCutAuto
import Derived.Deep.CutBlock
import Derived.Deep.RegionHeld3
import Derived.Laws.Rows
import Derived.Lib.AppendStr
import Derived.ArgAppend
import Derived.Laws.IdiomCopy
import Derived.OrdersHeld
import Derived.Laws.BitsLemmas
import Derived.RowKit
import Derived.Test.YthohohfmdieohaaGreatDoorKFnExactGoodCacheW
import Derived.Test.YthohohfmdieohaaGreatDoorJFnExactGoodCache0
import Derived.Test.YthohohfmdieohaaGreatDoorJFnExactGoodCache1
namespace Go.Proofs.YthohohfmdieohaaGreatDoor.Pp
open Go.RowKit Go.Proofs.YthohohfmdieohaaGreatDoorW.PrintWords Go.Proofs.YthohohfmdieohaaGreatDoorW.PrintLast Go.Proofs.YthohohfmdieohaaGreatDoorW.PrintMore
attribute [local go_sem] max2_int min2_int max_two min_two max_three min_three max_four min_four   -- for this text's walks alone
set_option linter.unusedVariables false
set_option linter.unusedSimpArgs false
set_option maxHeartbeats 8000000
set_option maxRecDepth 100000

section
/-! ### impl_GoodName: function 77 -/
def impl_GoodName.f (k : Nat) (a0 : ByteArray) : Option (Bool) := if (a0.size : Int) > 60 then (some false) else ((impl_labelsOf.f k a0).bind fun t287 => (if (t287.length : Int) ≤ 8 then ((slices_ContainsFunc_string_string_GoodName_1.f k t287).bind fun t290 => (some (!t290))) else (some false)))
theorem impl_GoodName.calls (k : Nat) (a0 : ByteArray) (r : Bool) (w : World) (h : impl_GoodName.f k a0 = some r) :
  Calls Tryz.prog 77 #[.string a0] w fun e w' => e = .returned (.bool r) ∧ Below w.heap.size w w' := by
 have HB := Aside0.mk (Below.refl w.heap.size w)
 have H : (if (a0.size : Int) > 60 then (some false) else ((impl_labelsOf.f k a0).bind fun t287 => (if (t287.length : Int) ≤ 8 then ((slices_ContainsFunc_string_string_GoodName_1.f k t287).bind fun t290 => (some (!t290))) else (some false)))) = some r := h
 clear h
 by_cases c2 : (a0.size : Int) > 60
 ·rw [if_pos c2] at H
  have c2b0 : decide (60 < (a0.size : Int)) = true := decide_eq_true c2
  have c2b1 : decide (60 < a0.size) = true := decide_eq_true (by omega)
  clear c2
  obtain rfl := Option.some.inj H
  go_enter Tryz.func77, Tryz.ntmps77
  go_wp2
  go_ret
  exact ⟨TE, TB⟩
 ·rw [if_neg c2] at H
  have c2b0 : decide (60 < (a0.size : Int)) = false := decide_eq_false c2
  have c2b1 : decide (60 < a0.size) = false := decide_eq_false (by omega)
  clear c2
  obtain ⟨t287, A3, H⟩ := bnd H
  by_cases c4 : (t287.length : Int) ≤ 8
  ·rw [if_pos c4] at H
   have c4b0 : decide ((t287.length : Int) ≤ 8) = true := decide_eq_true c4
   have c4b1 : decide (t287.length ≤ 8) = true := decide_eq_true (by omega)
   clear c4
   obtain ⟨t290, A5, H⟩ := bnd H
   obtain rfl := Option.some.inj H
   go_enter Tryz.func77, Tryz.ntmps77
   go_wp2_with (first | ((with_reducible refine gate_callee (f := 128) rfl ?_); refine goesL_ (some 8) rfl rfl Tryz.func128 KR rfl #[.string a0] rfl TA ?_; (with_reducible refine (impl_labelsOf.calls k a0 t287 _ A3.out).mono ?_); rintro e w6 ⟨v288, rfl, ho0, hb⟩; refine ⟨_, rfl, ?_⟩; have HO289 := RL ho0; replace HB := BS hb; (try clear hb); (try clear hb2); (try clear hk); (try clear hi); (try clear ho0); obtain ⟨Ao7, co7, eo7⟩ := Kd.R_slice HO289.out; subst eo7) | (go_at_call 129; (with_reducible refine (slices_ContainsFunc_string_string_GoodName_1.calls k _ _ t287  t290 _ ?side1 ?side2 A5.out).mono ?_); (case side1 => exact CW ((Kd.R_reads' HO289.out).2.2)); (case side2 => exact (Kd.R_reads' HO289.out).2.1); rintro e w8 ⟨rfl, hb⟩; replace HO289 := RB HO289 hb; replace HB := BS hb; (try clear hb); (try clear hb2); (try clear hk); (try clear hi)))
   go_ret
   exact ⟨TE, TB⟩
  ·rw [if_neg c4] at H
   have c4b0 : decide ((t287.length : Int) ≤ 8) = false := decide_eq_false c4
   have c4b1 : decide (t287.length ≤ 8) = false := decide_eq_false (by omega)
   clear c4
   obtain rfl := Option.some.inj H
   go_enter Tryz.func77, Tryz.ntmps77
   go_wp2_with (first | ((with_reducible refine gate_callee (f := 128) rfl ?_); refine goesL_ (some 8) rfl rfl Tryz.func128 KR rfl #[.string a0] rfl TA ?_; (with_reducible refine (impl_labelsOf.calls k a0 t287 _ A3.out).mono ?_); rintro e w9 ⟨v288, rfl, ho0, hb⟩; refine ⟨_, rfl, ?_⟩; have HO289 := RL ho0; replace HB := BS hb; (try clear hb); (try clear hb2); (try clear hk); (try clear hi); (try clear ho0); obtain ⟨Ao10, co10, eo10⟩ := Kd.R_slice HO289.out; subst eo10))
   go_ret
   exact ⟨TE, TB⟩
end
section
/-! ### slices_Index_int_int: function 199 -/
def slices_Index_int_int.l0 : Nat → List Int → Int → Int → Int → Option (Int)
 | 0, _, _, _, _ => none
 | k + 1, x0, x1, x7, x8 => if x8 < x7 then (if 0 ≤ x8 then (if x8 < (x0.length : Int) then (if x1 = (rd x0 x8) then (some x8) else (slices_Index_int_int.l0 k x0 x1 x7 (wrap64 (x8 + 1)))) else (none)) else (none)) else (some (-1))
def slices_Index_int_int.f (k : Nat) (l0 : List Int) (a1 : Int) : Option (Int) := slices_Index_int_int.l0 k l0 a1 (l0.length : Int) 0
theorem slices_Index_int_int.calls (k : Nat) (A0 : Option Addr) (c0 : Nat) (l0 : List Int) (a1 : Int) (r : Int) (w : World) (hr0 : Kd.C (Kd.int .i64) w A0 l0.length l0) (hc0 : l0.length ≤ c0) (h : slices_Index_int_int.f k l0 a1 = some r) :
  Calls Tryz.prog 199 #[.slice A0 l0.length c0, .int .i64 a1] w fun e w' => e = .returned (.int .i64 r) ∧ Drawn0 w w' := by
 have HR0 := Aside0.mk hr0
 have HC0 := Aside0.mk hc0
 clear hr0 hc0
 have H : (slices_Index_int_int.l0 k l0 a1 (l0.length : Int) 0) = some r := h
 clear h
 have H' := Aside0.mk H
 clear H
 go_enter Tryz.func199, Tryz.ntmps199
 go_wp2
 go_loopg [8] k (fun kq v8 w' => ∃ (x8_1 : Int), v8 = .int .i64 x8_1 ∧ Aside0 (slices_Index_int_int.l0 kq l0 a1 (l0.length : Int) x8_1 = some r) ∧ Aside0 (kq ≤ k) ∧ Drawn0 w w')
 case atStart => exact ⟨(0), TF, H', ⟨Nat.le_refl _⟩, TN⟩
 case round =>
  clear H'
  try clear c1
  try clear p2
  obtain ⟨x8_1, rfl, HA, HK1, ⟨m1, rfl⟩⟩ := hrel
  cases gk with
  | zero => exact absurd HA.out (by simp [slices_Index_int_int.l0])
  | succ k1 =>
   have H := HA.out
   clear HA
   simp only [slices_Index_int_int.l0] at H
   by_cases c3 : x8_1 < (l0.length : Int)
   ·rw [if_pos c3] at H
    have c3b0 : decide (x8_1 < (l0.length : Int)) = true := decide_eq_true c3
    clear c3
    obtain ⟨c4, H⟩ := ifn H
    have c4b0 : decide (0 ≤ x8_1) = true := decide_eq_true c4
    clear c4
    obtain ⟨c5, H⟩ := ifn H
    have c5b0 : decide (x8_1 < (l0.length : Int)) = true := decide_eq_true c5
    clear c5
    by_cases c6 : a1 = (rd l0 x8_1)
    ·rw [if_pos c6] at H
     have c6b0 : (a1 == (rd l0 x8_1)) = true := beq_iff_eq.mpr c6
     have c6b1 : (a1 != (rd l0 x8_1)) = false := bne_eq_false_iff_eq.mpr c6
     clear c6
     obtain rfl := Option.some.inj H
     have p948 : 0 ≤ (x8_1 : Int) := TD
     have q948 : x8_1 < (l0.length : Int) := TD
     obtain ⟨ad948, e948, hx948_0⟩ := Kd.at_int HR0.out x8_1 p948 q948
     cases e948
     replace p948 := eq_true p948
     replace q948 := eq_true q948
     go_wp2
     go_ret
     exact ⟨TF, TN⟩
    ·rw [if_neg c6] at H
     have c6b0 : (a1 == (rd l0 x8_1)) = false := beq_eq_false_iff_ne.mpr c6
     have c6b1 : (a1 != (rd l0 x8_1)) = true := bne_iff_ne.mpr c6
     have H' := Aside0.mk H
     clear H
     have p948 : 0 ≤ (x8_1 : Int) := TD
     have q948 : x8_1 < (l0.length : Int) := TD
     obtain ⟨ad948, e948, hx948_0⟩ := Kd.at_int HR0.out x8_1 p948 q948
     cases e948
     replace p948 := eq_true p948
     replace q948 := eq_true q948
     go_wp2
     go_roundg k1
     case measure => have := HK1.out; omega
     case rel => exact ⟨(wrap64 (x8_1 + 1)), TF, H', ⟨TM⟩, TN⟩
   ·rw [if_neg c3] at H
    have c3b0 : decide (x8_1 < (l0.length : Int)) = false := decide_eq_false c3
    clear c3
    obtain rfl := Option.some.inj H
    go_wp2
    go_ret
    exact ⟨TF, TN⟩
end
section
/-! ### slices_Contains_int_int: function 169 -/
def slices_Contains_int_int.f (k : Nat) (l0 : List Int) (a1 : Int) : Option (Bool) := (slices_Index_int_int.f k l0 a1).bind fun t949 => (some (decide (t949 ≥ 0)))
theorem slices_Contains_int_int.calls (k : Nat) (A0 : Option Addr) (c0 : Nat) (l0 : List Int) (a1 : Int) (r : Bool) (w : World) (hr0 : Kd.C (Kd.int .i64) w A0 l0.length l0) (hc0 : l0.length ≤ c0) (h : slices_Contains_int_int.f k l0 a1 = some r) :
  Calls Tryz.prog 169 #[.slice A0 l0.length c0, .int .i64 a1] w fun e w' => e = .returned (.bool r) ∧ Drawn0 w w' := by
 have HR0 := Aside0.mk hr0
 have HC0 := Aside0.mk hc0
 clear hr0 hc0
 have H : ((slices_Index_int_int.f k l0 a1).bind fun t949 => (some (decide (t949 ≥ 0)))) = some r := h
 clear h
 obtain ⟨t949, A3, H⟩ := bnd H
 obtain rfl := Option.some.inj H
 go_enter Tryz.func169, Tryz.ntmps169
 go_wp2_with (first | ((with_reducible refine gate_callee (f := 199) rfl ?_); refine goesL_ (some 7) rfl rfl Tryz.func199 KR rfl #[.slice A0 l0.length c0, .int .i64 a1] rfl TA ?_; (with_reducible refine (slices_Index_int_int.calls k _ _ l0 a1 t949 _ ?side1 ?side2 A3.out).mono ?_); (case side1 => exact CW (HR0.out)); (case side2 => exact HC0.out); rintro e w' ⟨rfl, ⟨nd, rfl⟩⟩; refine ⟨_, rfl, ?_⟩))
 go_ret
 exact ⟨TF, TN⟩
end
section
/-! ### impl_isType: function 136 -/
def impl_isType.f (k : Nat) (a0 : Int) : Option (Bool) := (slices_Contains_int_int.f k (([1, 2, 5, 6, 15, 16] : List Int)) a0).bind fun t953 => (some t953)
theorem impl_isType.calls (k : Nat) (a0 : Int) (r : Bool) (w : World) (h : impl_isType.f k a0 = some r) :
  Calls Tryz.prog 136 #[.int .i64 a0] w fun e w' => e = .returned (.bool r) ∧ Below w.heap.size w w' := by
 have HB := Aside0.mk (Below.refl w.heap.size w)
 have H : ((slices_Contains_int_int.f k (([1, 2, 5, 6, 15, 16] : List Int)) a0).bind fun t953 => (some t953)) = some r := h
 clear h
 obtain ⟨y950, hy950⟩ : ∃ y_ : List Int, y_ = (([1, 2, 5, 6, 15, 16] : List Int)) := ⟨_, rfl⟩
 replace H : ((slices_Contains_int_int.f k y950 a0).bind fun t953 => (some t953)) = some r := by first | (rw [hy950]; with_reducible exact H) | (have H2_ := (Option.bind_some _ _).symm.trans H; rw [hy950]; with_reducible exact H2_) | (have H2_ := (Option.bind_some _ _).symm.trans H; with_reducible exact H2_) | with_reducible exact H | (rw [hy950]; exact H) | exact H
 have Ny950 := Aside0.mk hy950
 clear hy950
 obtain ⟨t953, A2, H⟩ := bnd H
 obtain rfl := Option.some.inj H
 go_enter Tryz.func136, Tryz.ntmps136
 go_wp2_with (first | ((with_reducible refine gate_dst (N := 3) rfl ?_); refine Kd.R_lit (Kd.int .i64) _ 3 ?hg (N := 3) ?hd (xs := ([1, 2, 5, 6, 15, 16] : List Int)) (inner := [.int .i64 1, .int .i64 2, .int .i64 5, .int .i64 6, .int .i64 15, .int .i64 16]) (ok := fun _ => True) (okp := fun _ => True) ?hr ?hp (fun _ hk => hk) trivial (Below.refl _ _) (Nat.le_refl _) (by simp) ?_; (case hd => rfl); (case hg => rfl); (case hr => first | (go_simp; done) | (go_simp; rfl)); (case hp => exact (Reps.one (show Kd.M (Kd.int .i64) _ _ _ 1 [.int .i64 1] from rfl) (Reps.one (show Kd.M (Kd.int .i64) _ _ _ 2 [.int .i64 2] from rfl) (Reps.one (show Kd.M (Kd.int .i64) _ _ _ 5 [.int .i64 5] from rfl) (Reps.one (show Kd.M (Kd.int .i64) _ _ _ 6 [.int .i64 6] from rfl) (Reps.one (show Kd.M (Kd.int .i64) _ _ _ 15 [.int .i64 15] from rfl) (Reps.one (show Kd.M (Kd.int .i64) _ _ _ 16 [.int .i64 16] from rfl) (Reps.none _ _)))))))); intro v951 w3 ho4 hb hg_ hnew_; clear hg_ hnew_; (first | rw [← Ny950.out] at ho4 | (simp only [Int.reduceToNat] at ho4; rw [← Ny950.out] at ho4)); have HO952 := RL ho4; replace HB := BS hb; clear hb ho4; obtain ⟨Ao5, co5, eo5⟩ := Kd.R_slice HO952.out; subst eo5) | ((with_reducible refine gate_callee (f := 169) rfl ?_); refine goesL_ (some 5) rfl rfl Tryz.func169 KR rfl #[.slice Ao5 y950.length co5, .int .i64 a0] rfl TA ?_; (with_reducible refine (slices_Contains_int_int.calls k _ _ y950 a0 t953 _ ?side1 ?side2 A2.out).mono ?_); (case side1 => exact CW ((Kd.R_reads' HO952.out).2.2)); (case side2 => exact (Kd.R_reads' HO952.out).2.1); rintro e w' ⟨rfl, ⟨nd, rfl⟩⟩; refine ⟨_, rfl, ?_⟩))
 go_ret
 exact ⟨TE, TB⟩
end
section
/-! ### impl_numberIn: function 208 -/
def impl_numberIn.f (a0 : ByteArray) (a1 : Int) : Option (Int × Bool) :=
 if a0.size ≤ 281474976710656 then
  match Go.Lib.atoiAll a0.data.toList with
  | .ok v => some (v, decide (0 ≤ v ∧ v ≤ a1) && (Go.Lib.itoa v == a0.data.toList))
  | .range => some (Go.Lib.atoiSat a0.data.toList, false)
  | _ => some (0, false)
 else none
theorem num_eqs (v : Int) (s : ByteArray) : ((⟨(Go.Lib.itoa v).toArray⟩ : ByteArray).toList == s.toList) = (Go.Lib.itoa v == s.data.toList) := by
 rw [Go.Lib.toList_data, Go.Lib.toList_data]
set_option maxHeartbeats 1000000 in
theorem impl_numberIn.calls (a0 : ByteArray) (a1 : Int) (r1 : Int) (r2 : Bool) (w : World) (hG_ : Glob w) (h : impl_numberIn.f a0 a1 = some (r1, r2)) :
  Calls Tryz.prog 208 #[.string a0, .int .i64 a1] w fun e w' => e = .returned (.tuple #[.int .i64 r1, .bool r2]) ∧ Below w.heap.size w w' := by
 unfold impl_numberIn.f at h
 split at h
 ·rename_i hsz
  cases hA : Go.Lib.atoiAll a0.data.toList with
  | range =>
   rw [hA] at h
   simp only [Option.some.injEq, Prod.mk.injEq] at h
   obtain ⟨rfl, rfl⟩ := h
   go_enter Tryz.func208, Tryz.ntmps208
   go_wp2_with (go_at_call 227; (with_reducible refine (num_atoi_range a0 hsz hA _ hG_).mono ?_); rintro e w1 ⟨tp, p, rfl, hb⟩)
   go_ret2
   exact ⟨rfl, hb⟩
  | ok v =>
   rw [hA] at h
   simp only [Option.some.injEq, Prod.mk.injEq] at h
   obtain ⟨rfl, rfl⟩ := h
   obtain ⟨vb0, vb1⟩ := Go.Lib.atoiAll_bounds hA
   by_cases hv : 0 ≤ v ∧ v ≤ a1
   ·have hW : impl_within.f v 0 a1 = some true := by
     unfold impl_within.f
     rw [if_pos hv.1]
     simp [hv.2]
    have hd : decide (0 ≤ v ∧ v ≤ a1) = true := decide_eq_true hv
    rw [hd, Bool.true_and, ← num_eqs]
    have HB := Aside0.mk (Below.refl w.heap.size w)
    go_enter Tryz.func208, Tryz.ntmps208
    go_wp2_with (first | (go_at_call 227; (with_reducible refine (num_atoi_ok a0 hsz v hA _).mono ?_); rintro e w1 ⟨rfl, hb⟩; have n0_ := Aside0.mk (below_step HB.out hb); clear HB hb; have HB := n0_; clear n0_) | (go_at_call 86; (with_reducible refine (impl_within.calls v 0 a1 true _ hW).mono ?_); rintro e w' ⟨rfl, ⟨nd, rfl⟩⟩) | (go_at_call 181; (with_reducible refine (num_itoa v vb0 vb1 _ (Glob.below hG_ TB)).mono ?_); rintro e w3 ⟨rfl, hb⟩; have n0_ := BS hb; clear HB hb; have HB := n0_; clear n0_))
    go_ret2
    exact ⟨TF, TB⟩
   ·have hW : impl_within.f v 0 a1 = some false := by
     unfold impl_within.f
     by_cases h0 : v ≥ 0
     ·rw [if_pos h0]
      have : ¬ v ≤ a1 := fun h => hv ⟨h0, h⟩
      simp [this]
     ·rw [if_neg h0]
    have hd : decide (0 ≤ v ∧ v ≤ a1) = false := decide_eq_false hv
    rw [hd, Bool.false_and]
    have HB := Aside0.mk (Below.refl w.heap.size w)
    go_enter Tryz.func208, Tryz.ntmps208
    go_wp2_with (first | (go_at_call 227; (with_reducible refine (num_atoi_ok a0 hsz v hA _).mono ?_); rintro e w1 ⟨rfl, hb⟩; have n0_ := Aside0.mk (below_step HB.out hb); clear HB hb; have HB := n0_; clear n0_) | (go_at_call 86; (with_reducible refine (impl_within.calls v 0 a1 false _ hW).mono ?_); rintro e w' ⟨rfl, ⟨nd, rfl⟩⟩))
    go_ret2
    exact ⟨TF, TB⟩
  | _ =>
   have hnn : noNum (Go.Lib.atoiAll a0.data.toList) := by rw [hA]; trivial
   rw [hA] at h
   simp only [Option.some.injEq, Prod.mk.injEq] at h
   obtain ⟨rfl, rfl⟩ := h
   go_enter Tryz.func208, Tryz.ntmps208
   go_wp2_with (go_at_call 227; (with_reducible refine (num_atoi_syntax a0 hsz hnn _ hG_).mono ?_); rintro e w1 ⟨tp, p, rfl, hb⟩)
   go_ret2
   exact ⟨rfl, hb⟩
 ·cases h
end
section
/-! ### impl_big: function 209 -/
def impl_big.l0 : Nat → Int → List Int → Int → Option (ByteArray)
 | 0, _, _, _ => none
 | k + 1, x0, x5, x6 => if x6 ≥ 0 then (if 0 ≤ (wrap64 (8 * x6)) then (if x5.length < 140737488355328 then (impl_big.l0 k x0 (x5 ++ [(shr .i64 x0 (wrap64 (8 * x6))) % 256]) (wrap64 (x6 - 1))) else (none)) else (none)) else (some (strOfNums x5))
def impl_big.f (k : Nat) (a0 : Int) (a1 : Int) : Option (ByteArray) := impl_big.l0 k a0 (([] : List Int)) (wrap64 (a1 - 1))
theorem impl_big.calls (k : Nat) (a0 : Int) (a1 : Int) (r : ByteArray) (w : World) (h : impl_big.f k a0 a1 = some r) :
  Calls Tryz.prog 209 #[.int .i64 a0, .int .i64 a1] w fun e w' => e = .returned (.string r) ∧ Below w.heap.size w w' := by
 have HB := Aside0.mk (Below.refl w.heap.size w)
 have H : (impl_big.l0 k a0 (([] : List Int)) (wrap64 (a1 - 1))) = some r := h
 clear h
 obtain ⟨y291, hy291⟩ : ∃ y_ : List Int, y_ = (([] : List Int)) := ⟨_, rfl⟩
 replace H : (impl_big.l0 k a0 y291 (wrap64 (a1 - 1))) = some r := by first | (rw [hy291]; with_reducible exact H) | (have H2_ := (Option.bind_some _ _).symm.trans H; rw [hy291]; with_reducible exact H2_) | (have H2_ := (Option.bind_some _ _).symm.trans H; with_reducible exact H2_) | with_reducible exact H | (rw [hy291]; exact H) | exact H
 have Ny291 := Aside0.mk hy291
 clear hy291
 have H' := Aside0.mk H
 clear H
 go_enter Tryz.func209, Tryz.ntmps209
 go_wp2_with (first | ((with_reducible refine gate_dst (N := 7) rfl ?_); refine Kd.R_lit (Kd.int .u8) _ 5 ?hg (N := 7) ?hd (xs := ([] : List Int)) (inner := []) (ok := fun _ => True) (okp := fun _ => True) ?hr ?hp (fun _ hk => hk) trivial (Below.refl _ _) (Nat.le_refl _) (by simp) ?_; (case hd => rfl); (case hg => rfl); (case hr => first | (go_simp; done) | (go_simp; rfl)); (case hp => exact (Reps.none _ _)); intro v292 w3 ho4 hb hg_ hnew_; clear hg_ hnew_; (first | rw [← Ny291.out] at ho4 | (simp only [Int.reduceToNat] at ho4; rw [← Ny291.out] at ho4)); have HO293 := RL ho4; replace HB := BS hb; clear hb ho4))
 go_loopg [5, 6] k (fun kq v5 v6 w' => ∃ (x5_1 : List Int) (x6_1 : Int), v6 = .int .i64 x6_1 ∧ Aside0 (impl_big.l0 kq a0 x5_1 x6_1 = some r) ∧ Aside0 (kq ≤ k) ∧ Aside0 (Kd.R (Kd.int .u8) 5 w' w.heap.size (fun _ => True) v5 x5_1) ∧ Aside0 (Below w.heap.size w w'))
 case atStart => exact ⟨(y291), (wrap64 (a1 - 1)), TF, H', ⟨Nat.le_refl _⟩, RW HO293, ⟨TB⟩⟩
 case round =>
  clear H'
  try clear c2
  try clear p2
  obtain ⟨x5_1, x6_1, rfl, HA, HK1, HO_5, HB⟩ := hrel
  cases gk with
  | zero => exact absurd HA.out (by simp [impl_big.l0])
  | succ k1 =>
   have H := HA.out
   clear HA
   simp only [impl_big.l0] at H
   by_cases c5 : x6_1 ≥ 0
   ·rw [if_pos c5] at H
    have c5b0 : decide (0 ≤ x6_1) = true := decide_eq_true c5
    clear c5
    obtain ⟨ji6, hji6⟩ : ∃ j_ : Int, (wrap64 (8 * x6_1)) = j_ := ⟨_, rfl⟩
    replace H : (if 0 ≤ (ji6) then (if x5_1.length < 140737488355328 then (impl_big.l0 k1 a0 (x5_1 ++ [(shr .i64 a0 (ji6)) % 256]) (wrap64 (x6_1 - 1))) else (none)) else (none)) = some r := by first | (rw [hji6] at H; exact H) | (simp only [hji6] at H ⊢; exact H)
    have hji6w : (IntKind.i64.wrap (8 * x6_1)) = ji6 := (i64_w _).trans hji6
    obtain ⟨c7, H⟩ := ifn H
    have c7b0 := eq_true c7
    have c7b1 : decide (0 ≤ (ji6)) = true := decide_eq_true c7
    clear c7
    obtain ⟨ji8, hji8⟩ : ∃ j_ : Int, (shr .i64 a0 (ji6)) = j_ := ⟨_, rfl⟩
    replace H : (if x5_1.length < 140737488355328 then (impl_big.l0 k1 a0 (x5_1 ++ [(ji8) % 256]) (wrap64 (x6_1 - 1))) else (none)) = some r := by first | (rw [hji8] at H; exact H) | (simp only [hji8] at H ⊢; exact H)
    have hji8_ : (a0 / 2 ^ min (ji6).toNat 64) = ji8 := hji8
    have hji8z : (ji6) ≤ 64 → (a0 / 2 ^ (ji6).toNat) = ji8 := shr_small hji8
    obtain ⟨c9, H⟩ := ifn H
    have LMc9 := Aside0.mk c9
    clear c9
    obtain ⟨y294, hy294⟩ : ∃ y_ : List Int, y_ = (x5_1 ++ [(ji8) % 256]) := ⟨_, rfl⟩
    replace H : (impl_big.l0 k1 a0 y294 (wrap64 (x6_1 - 1))) = some r := by first | (rw [hy294]; with_reducible exact H) | (have H2_ := (Option.bind_some _ _).symm.trans H; rw [hy294]; with_reducible exact H2_) | (have H2_ := (Option.bind_some _ _).symm.trans H; with_reducible exact H2_) | with_reducible exact H | (rw [hy294]; exact H) | exact H
    have Ny294 := Aside0.mk hy294
    clear hy294
    have H' := Aside0.mk H
    clear H
    go_wp2_with (first | ((with_reducible refine gate_builtin (b := .append) (xs := #[.tmp 14, .tmp 20]) rfl ?_); at_builtin; refine Kd.R_append (Kd.int .u8) (w0 := w) w.heap.size rfl (.tmp 14) (.tmp 20) 162 5 (.int .u8 0) 1 rfl Tryz.underlying162 info5 rfl (by decide) (by omega) u5 x5_1 ((ji8) % 256) [.int .u8 ((ji8) % 256)] (fun _ => True) (fun _ => False) rfl rfl ?aP (fun _ hk => hk.elim) ?aF ?aO ?aB ?aS ?aL ?_; (case aP => exact rfl); (case aB => exact TB); (case aF => exact (fun _ _ => trivial)); (case aO => exact (RW HO_5).out); (case aS => exact (below_size TB)); (case aL => have := LMc9.out; omega); intro v295 w10 ho hb hg hat; rw [← Ny294.out] at ho; have n0_ := Aside0.mk (hb); have n1_ := Aside0.mk (ho); clear HB; clear HO_5; have HB := n0_; have HO296 := n1_; clear n0_ n1_; clear ho hb hg hat))
    go_roundg k1
    case measure => have := HK1.out; omega
    case rel => exact ⟨(y294), (wrap64 (x6_1 - 1)), TF, H', ⟨TM⟩, RW HO296, ⟨TB⟩⟩
   ·rw [if_neg c5] at H
    have c5b0 : decide (0 ≤ x6_1) = false := decide_eq_false c5
    clear c5
    obtain rfl := Option.some.inj H
    have hcv11 := own_string (P := Tryz.prog) Tryz.underlying162 Tryz.underlying5 Tryz.underlying9 (Kd.own_of_R HO_5.out)
    go_wp2
    go_ret
    exact ⟨TE, TB⟩
end
section
/-! ### strings_Contains: function 224 -/
def strings_Contains.f (a0 : ByteArray) (a1 : ByteArray) : Option (Bool) := (strings_Index.f a0 a1).bind fun t297 => (some (decide (t297 ≥ 0)))
theorem strings_Contains.calls (a0 : ByteArray) (a1 : ByteArray) (r : Bool) (w : World) (h : strings_Contains.f a0 a1 = some r) :
  Calls Tryz.prog 224 #[.string a0, .string a1] w fun e w' => e = .returned (.bool r) ∧ Drawn0 w w' := by
 have H : ((strings_Index.f a0 a1).bind fun t297 => (some (decide (t297 ≥ 0)))) = some r := h
 clear h
 obtain ⟨t297, A3, H⟩ := bnd H
 obtain rfl := Option.some.inj H
 go_enter Tryz.func224, Tryz.ntmps224
 go_wp2_with (first | ((with_reducible refine gate_callee (f := 217) rfl ?_); refine goesL_ (some 7) rfl rfl Tryz.func217 KR rfl #[.string a0, .string a1] rfl TA ?_; (with_reducible refine (strings_Index.calls a0 a1 t297 _ A3.out).mono ?_); rintro e w' ⟨rfl, ⟨nd, rfl⟩⟩; refine ⟨_, rfl, ?_⟩))
 go_ret
 exact ⟨TF, TN⟩
end
section
/-! ### impl_isTarget: function 210 -/
def impl_isTarget.f (k : Nat) (a0 : ByteArray) : Option (Bool) := if a0.toList = ([] : List UInt8) then (some false) else ((impl_GoodName.f k a0).bind fun t298 => (if t298 = true then ((strings_Contains.f a0 (⟨#[42]⟩ : ByteArray)).bind fun t299 => (some (!t299))) else (some false)))
theorem impl_isTarget.calls (k : Nat) (a0 : ByteArray) (r : Bool) (w : World) (h : impl_isTarget.f k a0 = some r) :
  Calls Tryz.prog 210 #[.string a0] w fun e w' => e = .returned (.bool r) ∧ Below w.heap.size w w' := by
 have HB := Aside0.mk (Below.refl w.heap.size w)
 have H : (if a0.toList = ([] : List UInt8) then (some false) else ((impl_GoodName.f k a0).bind fun t298 => (if t298 = true then ((strings_Contains.f a0 (⟨#[42]⟩ : ByteArray)).bind fun t299 => (some (!t299))) else (some false)))) = some r := h
 clear h
 by_cases c2 : a0.toList = ([] : List UInt8)
 ·rw [if_pos c2] at H
  have c2b0 : (a0.toList == ([] : List UInt8)) = true := beq_iff_eq.mpr c2
  have c2b1 : (a0.toList != ([] : List UInt8)) = false := bne_eq_false_iff_eq.mpr c2
  clear c2
  obtain rfl := Option.some.inj H
  go_enter Tryz.func210, Tryz.ntmps210
  go_wp2
  go_ret
  exact ⟨by first | rfl | (simp [errW_none, errW_some] <;> rfl) | (simp [*, errW_none, errW_some] <;> rfl) | (simp [errW_none, errW_some]; rw [Bool.eq_iff_iff]; simp), TB⟩
 ·rw [if_neg c2] at H
  have c2b0 : (a0.toList == ([] : List UInt8)) = false := beq_eq_false_iff_ne.mpr c2
  have c2b1 : (a0.toList != ([] : List UInt8)) = true := bne_iff_ne.mpr c2
  obtain ⟨t298, A3, H⟩ := bnd H
  by_cases c4 : t298 = true
  ·subst c4
   replace H := ift H
   obtain ⟨t299, A5, H⟩ := bnd H
   obtain rfl := Option.some.inj H
   go_enter Tryz.func210, Tryz.ntmps210
   go_wp2_with (first | (go_at_call 77; (with_reducible refine (impl_GoodName.calls k a0 true _ A3.out).mono ?_); rintro e w6 ⟨rfl, hb⟩; replace HB := BS hb; (try clear hb); (try clear hb2); (try clear hk); (try clear hi)) | (go_at_call 224; (with_reducible refine (strings_Contains.calls a0 (⟨#[42]⟩ : ByteArray) t299 _ A5.out).mono ?_); rintro e w' ⟨rfl, ⟨nd, rfl⟩⟩))
   go_ret
   exact ⟨by first | rfl | (simp [errW_none, errW_some] <;> rfl) | (simp [*, errW_none, errW_some] <;> rfl) | (simp [errW_none, errW_some]; rw [Bool.eq_iff_iff]; simp), TB⟩
  ·replace c4 := Bool.eq_false_iff.mpr c4
   subst c4
   replace H := iff' H
   obtain rfl := Option.some.inj H
   go_enter Tryz.func210, Tryz.ntmps210
   go_wp2_with (first | (go_at_call 77; (with_reducible refine (impl_GoodName.calls k a0 false _ A3.out).mono ?_); rintro e w7 ⟨rfl, hb⟩; replace HB := BS hb; (try clear hb); (try clear hb2); (try clear hk); (try clear hi)))
   go_ret
   exact ⟨by first | rfl | (simp [errW_none, errW_some] <;> rfl) | (simp [*, errW_none, errW_some] <;> rfl) | (simp [errW_none, errW_some]; rw [Bool.eq_iff_iff]; simp), TB⟩
end
section
/-! ### impl_labelBytes: function 211 -/
def impl_labelBytes.l0 : Nat → ByteArray → List ByteArray → Int → Int → Option (ByteArray)
 | 0, _, _, _, _ => none
 | k + 1, x3, x7, x8, x9 => if x9 < x8 then (if 0 ≤ x9 then (if x9 < (x7.length : Int) then ((some (([(((rdOf ByteArray.empty x7 x9).size : Int)) % 256] : List Int) : List Int)).bind fun y304 => (if (strOfNums y304).size + (rdOf ByteArray.empty x7 x9).size ≤ 9223372036854775807 then (if x3.size + ((strOfNums y304) ++ (rdOf ByteArray.empty x7 x9)).size ≤ 9223372036854775807 then (impl_labelBytes.l0 k (x3 ++ ((strOfNums y304) ++ (rdOf ByteArray.empty x7 x9))) x7 x8 (wrap64 (x9 + 1))) else (none)) else (none))) else (none)) else (none)) else (some x3)
def impl_labelBytes.f (k : Nat) (a0 : ByteArray) : Option (ByteArray) := (impl_labelsOf.f k a0).bind fun t300 => (impl_labelBytes.l0 k (⟨#[]⟩ : ByteArray) t300 (t300.length : Int) 0)
theorem impl_labelBytes.calls (k : Nat) (a0 : ByteArray) (r : ByteArray) (w : World) (h : impl_labelBytes.f k a0 = some r) :
  Calls Tryz.prog 211 #[.string a0] w fun e w' => e = .returned (.string r) ∧ Below w.heap.size w w' := by
 have HB := Aside0.mk (Below.refl w.heap.size w)
 have H : ((impl_labelsOf.f k a0).bind fun t300 => (impl_labelBytes.l0 k (⟨#[]⟩ : ByteArray) t300 (t300.length : Int) 0)) = some r := h
 clear h
 obtain ⟨t300, A2, H⟩ := bnd H
 have H' := Aside0.mk H
 clear H
 go_enter Tryz.func211, Tryz.ntmps211
 go_wp2_with (first | ((with_reducible refine gate_callee (f := 128) rfl ?_); refine goesL_ (some 7) rfl rfl Tryz.func128 KR rfl #[.string a0] rfl TA ?_; (with_reducible refine (impl_labelsOf.calls k a0 t300 _ A2.out).mono ?_); rintro e w3 ⟨v301, rfl, ho0, hb⟩; refine ⟨_, rfl, ?_⟩; have HO302 := RL ho0; replace HB := BS hb; (try clear hb); (try clear hb2); (try clear hk); (try clear hi); (try clear ho0); obtain ⟨Ao4, co4, eo4⟩ := Kd.R_slice HO302.out; subst eo4))
 go_loopg [3, 9] k (fun kq v3 v9 w' => ∃ (x3_1 : ByteArray) (x9_1 : Int), v3 = .string x3_1 ∧ v9 = .int .i64 x9_1 ∧ Aside0 (impl_labelBytes.l0 kq x3_1 t300 (t300.length : Int) x9_1 = some r) ∧ Aside0 (kq ≤ k) ∧ Aside0 (Kd.R Kd.string 9 w' w.heap.size (fun _ => True) (.slice Ao4 t300.length co4) t300) ∧ Aside0 (Below w.heap.size w w'))
 case atStart => exact ⟨((⟨#[]⟩ : ByteArray)), (0), TF, TF, H', ⟨Nat.le_refl _⟩, RW HO302, ⟨TB⟩⟩
 case round =>
  clear H'
  try clear c1
  try clear c2
  try clear p2
  obtain ⟨x3_1, x9_1, rfl, rfl, HA, HK1, HO_7, HB⟩ := hrel
  cases gk with
  | zero => exact absurd HA.out (by simp [impl_labelBytes.l0])
  | succ k1 =>
   have H := HA.out
   clear HA
   simp only [impl_labelBytes.l0] at H
   by_cases c5 : x9_1 < (t300.length : Int)
   ·rw [if_pos c5] at H
    have c5b0 : decide (x9_1 < (t300.length : Int)) = true := decide_eq_true c5
    clear c5
    obtain ⟨c6, H⟩ := ifn H
    have c6b0 : decide (0 ≤ x9_1) = true := decide_eq_true c6
    clear c6
    obtain ⟨c7, H⟩ := ifn H
    have c7b0 : decide (x9_1 < (t300.length : Int)) = true := decide_eq_true c7
    clear c7
    obtain ⟨y304, hy304⟩ : ∃ y_ : List Int, y_ = (([(((rdOf ByteArray.empty t300 x9_1).size : Int)) % 256] : List Int)) := ⟨_, rfl⟩
    replace H : (if (strOfNums y304).size + (rdOf ByteArray.empty t300 x9_1).size ≤ 9223372036854775807 then (if x3_1.size + ((strOfNums y304) ++ (rdOf ByteArray.empty t300 x9_1)).size ≤ 9223372036854775807 then (impl_labelBytes.l0 k1 (x3_1 ++ ((strOfNums y304) ++ (rdOf ByteArray.empty t300 x9_1))) t300 (t300.length : Int) (wrap64 (x9_1 + 1))) else (none)) else (none)) = some r := by first | (rw [hy304]; with_reducible exact H) | (have H2_ := (Option.bind_some _ _).symm.trans H; rw [hy304]; with_reducible exact H2_) | (have H2_ := (Option.bind_some _ _).symm.trans H; with_reducible exact H2_) | with_reducible exact H | (rw [hy304]; exact H) | exact H
    have Ny304 := Aside0.mk hy304
    clear hy304
    obtain ⟨c8, H⟩ := ifn H
    have c8b0 := eq_true c8
    have c8b1 : decide ((strOfNums y304).size + (rdOf ByteArray.empty t300 x9_1).size ≤ 9223372036854775807) = true := decide_eq_true c8
    try have c8b2 : (9223372036854775807 < (strOfNums y304).size + (rdOf ByteArray.empty t300 x9_1).size) = False := eq_false (Nat.not_lt.2 c8)
    obtain ⟨c9, H⟩ := ifn H
    have c9b0 := eq_true c9
    have c9b1 : decide (x3_1.size + ((strOfNums y304) ++ (rdOf ByteArray.empty t300 x9_1)).size ≤ 9223372036854775807) = true := decide_eq_true c9
    try have c9b2 : (9223372036854775807 < x3_1.size + ((strOfNums y304) ++ (rdOf ByteArray.empty t300 x9_1)).size) = False := eq_false (Nat.not_lt.2 c9)
    have H' := Aside0.mk H
    clear H
    have p303 : 0 ≤ (x9_1 : Int) := TD
    have q303 : x9_1 < (t300.length : Int) := TD
    obtain ⟨ad303, e303, hx303_0⟩ := Kd.at_string (Kd.R_reads' HO_7.out).2.2 x9_1 p303 q303
    cases e303
    replace p303 := eq_true p303
    replace q303 := eq_true q303
    go_wp2_with (first | ((with_reducible refine gate_dst (N := 17) rfl ?_); refine Kd.R_lit (Kd.int .u8) _ 5 ?hg (N := 17) ?hd (xs := ([(((rdOf ByteArray.empty t300 x9_1).size : Int)) % 256] : List Int)) (inner := [.int .u8 ((((rdOf ByteArray.empty t300 x9_1).size : Int)) % 256)]) (ok := fun _ => True) (okp := fun _ => True) ?hr ?hp (fun _ hk => hk) trivial (Below.refl _ _) (Nat.le_refl _) (by simp) ?_; (case hd => rfl); (case hg => rfl); (case hr => first | (go_simp; done) | (go_simp; rfl)); (case hp => exact (Reps.one (show Kd.M (Kd.int .u8) _ _ _ ((((rdOf ByteArray.empty t300 x9_1).size : Int)) % 256) [.int .u8 ((((rdOf ByteArray.empty t300 x9_1).size : Int)) % 256)] from rfl) (Reps.none _ _))); intro v305 w10 ho11 hb hg_ hnew_; clear hg_ hnew_; (first | rw [← Ny304.out] at ho11 | (simp only [Int.reduceToNat] at ho11; rw [← Ny304.out] at ho11)); replace HO_7 := RB HO_7 hb; have HO306 := RL ho11; replace HB := BS hb; clear hb ho11; have hcv12 := own_string (P := Tryz.prog) Tryz.underlying162 Tryz.underlying5 Tryz.underlying9 (Kd.own_of_R HO306.out)))
    go_roundg k1
    case measure => have := HK1.out; omega
    case rel => exact ⟨(x3_1 ++ ((strOfNums y304) ++ (rdOf ByteArray.empty t300 x9_1))), (wrap64 (x9_1 + 1)), TF, TF, H', ⟨TM⟩, RW HO_7, ⟨TB⟩⟩
   ·rw [if_neg c5] at H
    have c5b0 : decide (x9_1 < (t300.length : Int)) = false := decide_eq_false c5
    clear c5
    obtain rfl := Option.some.inj H
    go_wp2
    go_ret
    exact ⟨TE, TB⟩
end
section
/-! ### stringslite_Index: function 226 -/
def stringslite_Index.f (a0 : ByteArray) (a1 : ByteArray) : Option (Int) := if a1.size = 1 then some (Go.Lib.indexByte a0.data.toList (a1.data.toList.headD 0)) else none
theorem stringslite_Index.calls (a0 : ByteArray) (a1 : ByteArray) (r : Int) (w : World) (h : stringslite_Index.f a0 a1 = some r) :
  Calls Tryz.prog 226 #[.string a0, .string a1] w fun e w' => e = .returned (.int .i64 r) ∧ Drawn0 w w' := by
 unfold stringslite_Index.f at h
 by_cases h1 : a1.size = 1
 ·rw [if_pos h1] at h
  obtain rfl := Option.some.inj h
  obtain ⟨⟨l⟩⟩ := a1
  match l, h1 with
  | [c], _ => exact (Go.Proofs.Any.stringslite_Index_one Go.Proofs.Tryz.lays219 a0 c w).mono fun e w' hh => ⟨hh.1, hh.2 ▸ Drawn0.refl _⟩
 ·rw [if_neg h1] at h
  cases h
end
section
/-! ### stringslite_Cut: function 207 -/
def stringslite_Cut.f (a0 : ByteArray) (a1 : ByteArray) : Option (ByteArray × ByteArray × Bool) := (stringslite_Index.f a0 a1).bind fun t307 => (if t307 ≥ 0 then (if 0 ≤ t307 then (if t307 ≤ (a0.size : Int) then (if 0 ≤ (wrap64 (t307 + (a1.size : Int))) then (if (wrap64 (t307 + (a1.size : Int))) ≤ (a0.size : Int) then (some (a0.extract 0 (t307 : Int).toNat, a0.extract ((wrap64 (t307 + (a1.size : Int))) : Int).toNat a0.size, true)) else (none)) else (none)) else (none)) else (none)) else (some (a0, (⟨#[]⟩ : ByteArray), false)))
theorem stringslite_Cut.calls (a0 : ByteArray) (a1 : ByteArray) (r1 : ByteArray) (r2 : ByteArray) (r3 : Bool) (w : World) (h : stringslite_Cut.f a0 a1 = some (r1, r2, r3)) :
  Calls Tryz.prog 207 #[.string a0, .string a1] w fun e w' => e = .returned (.tuple #[.string r1, .string r2, .bool r3]) ∧ Drawn0 w w' := by
 have H : ((stringslite_Index.f a0 a1).bind fun t307 => (if t307 ≥ 0 then (if 0 ≤ t307 then (if t307 ≤ (a0.size : Int) then (if 0 ≤ (wrap64 (t307 + (a1.size : Int))) then (if (wrap64 (t307 + (a1.size : Int))) ≤ (a0.size : Int) then (some (a0.extract 0 (t307 : Int).toNat, a0.extract ((wrap64 (t307 + (a1.size : Int))) : Int).toNat a0.size, true)) else (none)) else (none)) else (none)) else (none)) else (some (a0, (⟨#[]⟩ : ByteArray), false)))) = some (r1, r2, r3) := h
 clear h
 obtain ⟨t307, A3, H⟩ := bnd H
 by_cases c4 : t307 ≥ 0
 ·rw [if_pos c4] at H
  have c4b0 : decide (0 ≤ t307) = true := decide_eq_true c4
  clear c4
  obtain ⟨c5, H⟩ := ifn H
  have c5b0 := eq_true c5
  have c5b1 : decide (0 ≤ t307) = true := decide_eq_true c5
  clear c5
  obtain ⟨c6, H⟩ := ifn H
  have c6b0 := eq_true c6
  have c6b1 : decide (t307 ≤ (a0.size : Int)) = true := decide_eq_true c6
  clear c6
  obtain ⟨ji7, hji7⟩ : ∃ j_ : Int, (wrap64 (t307 + (a1.size : Int))) = j_ := ⟨_, rfl⟩
  replace H : (if 0 ≤ (ji7) then (if (ji7) ≤ (a0.size : Int) then (some (a0.extract 0 (t307 : Int).toNat, a0.extract ((ji7) : Int).toNat a0.size, true)) else (none)) else (none)) = some (r1, r2, r3) := by first | (rw [hji7] at H; exact H) | (simp only [hji7] at H ⊢; exact H)
  (try rw [hji7] at A3)
  have hji7w : (IntKind.i64.wrap (t307 + (a1.size : Int))) = ji7 := (i64_w _).trans hji7
  obtain ⟨c8, H⟩ := ifn H
  have c8b0 := eq_true c8
  have c8b1 : decide (0 ≤ (ji7)) = true := decide_eq_true c8
  clear c8
  obtain ⟨c9, H⟩ := ifn H
  have c9b0 := eq_true c9
  have c9b1 : decide ((ji7) ≤ (a0.size : Int)) = true := decide_eq_true c9
  clear c9
  simp only [Option.some.injEq, Prod.mk.injEq] at H
  obtain ⟨rfl, rfl, rfl⟩ := H
  go_enter Tryz.func207, Tryz.ntmps207
  go_wp2_with (first | (go_at_call 226; (with_reducible refine (stringslite_Index.calls a0 a1 t307 _ A3.out).mono ?_); rintro e w' ⟨rfl, ⟨nd, rfl⟩⟩; (try first | exact ⟨rfl, _, World.drewN_drewN _ _ _⟩ | exact ⟨rfl, _, Eq.trans (World.drewN_drewN _ _ _) (congrArg (World.drewN _) (Nat.add_assoc _ _ _))⟩)))
  repeat (go_quiet (first | (go_at_call 226; (with_reducible refine (stringslite_Index.calls a0 a1 t307 _ A3.out).mono ?_); rintro e w' ⟨rfl, ⟨nd, rfl⟩⟩; (try first | exact ⟨rfl, _, World.drewN_drewN _ _ _⟩ | exact ⟨rfl, _, Eq.trans (World.drewN_drewN _ _ _) (congrArg (World.drewN _) (Nat.add_assoc _ _ _))⟩))); try go_wp2_with (first | (go_at_call 226; (with_reducible refine (stringslite_Index.calls a0 a1 t307 _ A3.out).mono ?_); rintro e w' ⟨rfl, ⟨nd, rfl⟩⟩; (try first | exact ⟨rfl, _, World.drewN_drewN _ _ _⟩ | exact ⟨rfl, _, Eq.trans (World.drewN_drewN _ _ _) (congrArg (World.drewN _) (Nat.add_assoc _ _ _))⟩))))
  go_ret3
  exact ⟨by first | rfl | (simp; done) | (simp only [← hji7] <;> (first | rfl | simp)) | (simp [*]; done), TN⟩
 ·rw [if_neg c4] at H
  have c4b0 : decide (0 ≤ t307) = false := decide_eq_false c4
  clear c4
  simp only [Option.some.injEq, Prod.mk.injEq] at H
  obtain ⟨rfl, rfl, rfl⟩ := H
  go_enter Tryz.func207, Tryz.ntmps207
  go_wp2_with (first | (go_at_call 226; (with_reducible refine (stringslite_Index.calls a0 a1 t307 _ A3.out).mono ?_); rintro e w' ⟨rfl, ⟨nd, rfl⟩⟩; (try first | exact ⟨rfl, _, World.drewN_drewN _ _ _⟩ | exact ⟨rfl, _, Eq.trans (World.drewN_drewN _ _ _) (congrArg (World.drewN _) (Nat.add_assoc _ _ _))⟩)))
  repeat (go_quiet (first | (go_at_call 226; (with_reducible refine (stringslite_Index.calls a0 a1 t307 _ A3.out).mono ?_); rintro e w' ⟨rfl, ⟨nd, rfl⟩⟩; (try first | exact ⟨rfl, _, World.drewN_drewN _ _ _⟩ | exact ⟨rfl, _, Eq.trans (World.drewN_drewN _ _ _) (congrArg (World.drewN _) (Nat.add_assoc _ _ _))⟩))); try go_wp2_with (first | (go_at_call 226; (with_reducible refine (stringslite_Index.calls a0 a1 t307 _ A3.out).mono ?_); rintro e w' ⟨rfl, ⟨nd, rfl⟩⟩; (try first | exact ⟨rfl, _, World.drewN_drewN _ _ _⟩ | exact ⟨rfl, _, Eq.trans (World.drewN_drewN _ _ _) (congrArg (World.drewN _) (Nat.add_assoc _ _ _))⟩))))
  go_ret3
  exact ⟨TF, TN⟩
end
section
/-! ### strings_Cut: function 182 -/
def strings_Cut.f (a0 : ByteArray) (a1 : ByteArray) : Option (ByteArray × ByteArray × Bool) := (stringslite_Cut.f a0 a1).bind fun bt308 => (some (bt308.1, bt308.2.1, bt308.2.2))
theorem strings_Cut.calls (a0 : ByteArray) (a1 : ByteArray) (r1 : ByteArray) (r2 : ByteArray) (r3 : Bool) (w : World) (h : strings_Cut.f a0 a1 = some (r1, r2, r3)) :
  Calls Tryz.prog 182 #[.string a0, .string a1] w fun e w' => e = .returned (.tuple #[.string r1, .string r2, .bool r3]) ∧ Drawn0 w w' := by
 have H : ((stringslite_Cut.f a0 a1).bind fun bt308 => (some (bt308.1, bt308.2.1, bt308.2.2))) = some (r1, r2, r3) := h
 clear h
 obtain ⟨⟨t308, t309, t310⟩, A3, H⟩ := bnd H
 try dsimp only at H
 simp only [Option.some.injEq, Prod.mk.injEq] at H
 obtain ⟨rfl, rfl, rfl⟩ := H
 go_enter Tryz.func182, Tryz.ntmps182
 go_wp2_with (first | ((with_reducible refine gate_callee (f := 207) rfl ?_); refine goesL_ (some 9) rfl rfl Tryz.func207 KR rfl #[.string a0, .string a1] rfl TA ?_; (with_reducible refine (stringslite_Cut.calls a0 a1 t308 t309 t310 _ A3.out).mono ?_); rintro e w' ⟨rfl, ⟨nd, rfl⟩⟩; refine ⟨_, rfl, ?_⟩))
 go_ret3
 exact ⟨TF, TN⟩
end
section
/-! ### impl_DataBytes_1: function 213 -/
def impl_DataBytes_1.f (a0 : Int) : Option (Bool) := if a0 < 32 then (some true) else (some (decide (a0 > 126)))
theorem impl_DataBytes_1.calls (a0 : Int) (r : Bool) (w : World) (h : impl_DataBytes_1.f a0 = some r) :
  Calls Tryz.prog 213 #[.int .u8 a0] w fun e w' => e = .returned (.bool r) ∧ Drawn0 w w' := by
 have H : (if a0 < 32 then (some true) else (some (decide (a0 > 126)))) = some r := h
 clear h
 by_cases c2 : a0 < 32
 ·rw [if_pos c2] at H
  have c2b0 : decide (a0 < 32) = true := decide_eq_true c2
  clear c2
  obtain rfl := Option.some.inj H
  go_enter Tryz.func213, Tryz.ntmps213
  go_wp2
  go_ret
  exact ⟨TF, TN⟩
 ·rw [if_neg c2] at H
  have c2b0 : decide (a0 < 32) = false := decide_eq_false c2
  clear c2
  obtain rfl := Option.some.inj H
  go_enter Tryz.func213, Tryz.ntmps213
  go_wp2
  go_ret
  exact ⟨TF, TN⟩
end
section
/-! ### slices_IndexFunc_byte_byte_DataBytes_1: function 228 -/
def slices_IndexFunc_byte_byte_DataBytes_1.l0 : Nat → List Int → Int → Int → Option (Int)
 | 0, _, _, _ => none
 | k + 1, x0, x7, x8 => if x8 < x7 then (if 0 ≤ x8 then (if x8 < (x0.length : Int) then ((impl_DataBytes_1.f (rd x0 x8)).bind fun t312 => (if t312 = true then (some x8) else (slices_IndexFunc_byte_byte_DataBytes_1.l0 k x0 x7 (wrap64 (x8 + 1))))) else (none)) else (none)) else (some (-1))
def slices_IndexFunc_byte_byte_DataBytes_1.f (k : Nat) (l0 : List Int)  : Option (Int) := slices_IndexFunc_byte_byte_DataBytes_1.l0 k l0 (l0.length : Int) 0
theorem slices_IndexFunc_byte_byte_DataBytes_1.calls (k : Nat) (A0 : Option Addr) (c0 : Nat) (l0 : List Int)  (r : Int) (w : World) (hr0 : Kd.C (Kd.int .u8) w A0 l0.length l0) (hc0 : l0.length ≤ c0) (h : slices_IndexFunc_byte_byte_DataBytes_1.f k l0 = some r) :
  Calls Tryz.prog 228 #[.slice A0 l0.length c0, .func (.func 213) #[] #[]] w fun e w' => e = .returned (.int .i64 r) ∧ Drawn0 w w' := by
 have HR0 := Aside0.mk hr0
 have HC0 := Aside0.mk hc0
 clear hr0 hc0
 have H : (slices_IndexFunc_byte_byte_DataBytes_1.l0 k l0 (l0.length : Int) 0) = some r := h
 clear h
 have H' := Aside0.mk H
 clear H
 go_enter Tryz.func228, Tryz.ntmps228
 go_wp2
 go_loopg [8] k (fun kq v8 w' => ∃ (x8_1 : Int), v8 = .int .i64 x8_1 ∧ Aside0 (slices_IndexFunc_byte_byte_DataBytes_1.l0 kq l0 (l0.length : Int) x8_1 = some r) ∧ Aside0 (kq ≤ k) ∧ Drawn0 w w')
 case atStart => exact ⟨(0), TF, H', ⟨Nat.le_refl _⟩, TN⟩
 case round =>
  clear H'
  try clear c2
  try clear p2
  obtain ⟨x8_1, rfl, HA, HK1, ⟨m1, rfl⟩⟩ := hrel
  cases gk with
  | zero => exact absurd HA.out (by simp [slices_IndexFunc_byte_byte_DataBytes_1.l0])
  | succ k1 =>
   have H := HA.out
   clear HA
   simp only [slices_IndexFunc_byte_byte_DataBytes_1.l0] at H
   by_cases c3 : x8_1 < (l0.length : Int)
   ·rw [if_pos c3] at H
    have c3b0 : decide (x8_1 < (l0.length : Int)) = true := decide_eq_true c3
    clear c3
    obtain ⟨c4, H⟩ := ifn H
    have c4b0 : decide (0 ≤ x8_1) = true := decide_eq_true c4
    clear c4
    obtain ⟨c5, H⟩ := ifn H
    have c5b0 : decide (x8_1 < (l0.length : Int)) = true := decide_eq_true c5
    clear c5
    obtain ⟨t312, A6, H⟩ := bnd H
    by_cases c7 : t312 = true
    ·subst c7
     replace H := ift H
     obtain rfl := Option.some.inj H
     have p311 : 0 ≤ (x8_1 : Int) := TD
     have q311 : x8_1 < (l0.length : Int) := TD
     obtain ⟨ad311, e311, hx311_0⟩ := Kd.at_int HR0.out x8_1 p311 q311
     cases e311
     replace p311 := eq_true p311
     replace q311 := eq_true q311
     go_wp2_with (first | (go_at_call 213; (with_reducible refine (impl_DataBytes_1.calls (rd l0 x8_1) true _ A6.out).mono ?_); rintro e w' ⟨rfl, ⟨nd, rfl⟩⟩))
     go_ret
     exact ⟨TF, TN⟩
    ·replace c7 := Bool.eq_false_iff.mpr c7
     subst c7
     replace H := iff' H
     have H' := Aside0.mk H
     clear H
     have p311 : 0 ≤ (x8_1 : Int) := TD
     have q311 : x8_1 < (l0.length : Int) := TD
     obtain ⟨ad311, e311, hx311_0⟩ := Kd.at_int HR0.out x8_1 p311 q311
     cases e311
     replace p311 := eq_true p311
     replace q311 := eq_true q311
     go_wp2_with (first | (go_at_call 213; (with_reducible refine (impl_DataBytes_1.calls (rd l0 x8_1) false _ A6.out).mono ?_); rintro e w' ⟨rfl, ⟨nd, rfl⟩⟩))
     go_roundg k1
     case measure => have := HK1.out; omega
     case rel => exact ⟨(wrap64 (x8_1 + 1)), TF, H', ⟨TM⟩, TN⟩
   ·rw [if_neg c3] at H
    have c3b0 : decide (x8_1 < (l0.length : Int)) = false := decide_eq_false c3
    clear c3
    obtain rfl := Option.some.inj H
    go_wp2
    go_ret
    exact ⟨TF, TN⟩
end
section
/-! ### slices_ContainsFunc_byte_byte_DataBytes_1: function 212 -/
def slices_ContainsFunc_byte_byte_DataBytes_1.f (k : Nat) (l0 : List Int)  : Option (Bool) := (slices_IndexFunc_byte_byte_DataBytes_1.f k l0).bind fun t313 => (some (decide (t313 ≥ 0)))
theorem slices_ContainsFunc_byte_byte_DataBytes_1.calls (k : Nat) (A0 : Option Addr) (c0 : Nat) (l0 : List Int)  (r : Bool) (w : World) (hr0 : Kd.C (Kd.int .u8) w A0 l0.length l0) (hc0 : l0.length ≤ c0) (h : slices_ContainsFunc_byte_byte_DataBytes_1.f k l0 = some r) :
  Calls Tryz.prog 212 #[.slice A0 l0.length c0, .func (.func 213) #[] #[]] w fun e w' => e = .returned (.bool r) ∧ Drawn0 w w' := by
 have HR0 := Aside0.mk hr0
 have HC0 := Aside0.mk hc0
 clear hr0 hc0
 have H : ((slices_IndexFunc_byte_byte_DataBytes_1.f k l0).bind fun t313 => (some (decide (t313 ≥ 0)))) = some r := h
 clear h
 obtain ⟨t313, A3, H⟩ := bnd H
 obtain rfl := Option.some.inj H
 go_enter Tryz.func212, Tryz.ntmps212
 go_wp2_with (first | ((with_reducible refine gate_callee (f := 228) rfl ?_); refine goesL_ (some 7) rfl rfl Tryz.func228 KR rfl #[.slice A0 l0.length c0, .func (.func 213) #[] #[]] rfl TA ?_; (with_reducible refine (slices_IndexFunc_byte_byte_DataBytes_1.calls k _ _ l0  t313 _ ?side1 ?side2 A3.out).mono ?_); (case side1 => exact CW (HR0.out)); (case side2 => exact HC0.out); rintro e w' ⟨rfl, ⟨nd, rfl⟩⟩; refine ⟨_, rfl, ?_⟩))
 go_ret
 exact ⟨TF, TN⟩
end
section
/-! ### impl_DataBytes: function 187 -/
mutual
def impl_DataBytes.l0 : Nat → ByteArray → List ByteArray → List ByteArray → Int → Int → Option (ByteArray × Bool)
 | 0, _, _, _, _, _ => none
 | k + 1, x6, x7, x24, x25, x26 => if x26 < x25 then (if 0 ≤ x26 then (if x26 < (x24.length : Int) then ((impl_numberIn.f (rdOf ByteArray.empty x24 x26) 255).bind fun bt318 => (if bt318.2 = true then (if (x7.length : Int) = 4 then ((impl_big.f k bt318.1 1).bind fun t320 => (if x6.size + t320.size ≤ 9223372036854775807 then (impl_DataBytes.l0 k (x6 ++ t320) x7 x24 x25 (wrap64 (x26 + 1))) else (none))) else (some ((⟨#[]⟩ : ByteArray), false))) else (some ((⟨#[]⟩ : ByteArray), false)))) else (none)) else (none)) else (some (x6, true))
def impl_DataBytes.j1 : Nat → ByteArray → Int → Bool → Option (ByteArray × Bool)
 | 0, _, _, _ => none
 | k + 1, x1, x19, x48 => if x48 = true then ((impl_isTarget.f k x1).bind fun t321 => (if t321 = true then ((impl_labelBytes.f k x1).bind fun t322 => (if t322.size + 1 ≤ 9223372036854775807 then (some (t322 ++ (⟨#[0]⟩ : ByteArray), true)) else (none))) else (some ((⟨#[]⟩ : ByteArray), false)))) else (if x19 = 6 then ((impl_numberIn.f x1 4294967295).bind fun bt323 => (if bt323.2 = true then ((impl_big.f k bt323.1 4).bind fun t325 => (some (t325, true))) else (some ((⟨#[]⟩ : ByteArray), false)))) else (if x19 = 15 then ((strings_Cut.f x1 (⟨#[32]⟩ : ByteArray)).bind fun bt326 => ((impl_numberIn.f bt326.1 65535).bind fun bt329 => (if bt329.2 = true then ((impl_isTarget.f k bt326.2.1).bind fun t331 => (impl_DataBytes.j2 k bt326.2.1 bt329.1 (!t331))) else (impl_DataBytes.j2 k bt326.2.1 bt329.1 true)))) else (if x19 = 16 then (if (x1.size : Int) > 30 then (some ((⟨#[]⟩ : ByteArray), false)) else (if x1.size ≤ 9223372036854775807 then ((slices_ContainsFunc_byte_byte_DataBytes_1.f k (bytesOf x1)).bind fun t337 => (if t337 = true then (some ((⟨#[]⟩ : ByteArray), false)) else ((impl_big.f k (x1.size : Int) 1).bind fun t338 => (if t338.size + x1.size ≤ 9223372036854775807 then (some (t338 ++ x1, true)) else (none))))) else (none))) else (some ((⟨#[]⟩ : ByteArray), false)))))
def impl_DataBytes.j2 : Nat → ByteArray → Int → Bool → Option (ByteArray × Bool)
 | 0, _, _, _ => none
 | k + 1, x15, x17, x87 => if x87 = true then (some ((⟨#[]⟩ : ByteArray), false)) else ((impl_big.f k x17 2).bind fun t332 => ((impl_labelBytes.f k x15).bind fun t333 => (if t332.size + t333.size ≤ 9223372036854775807 then (if (t332 ++ t333).size + 1 ≤ 9223372036854775807 then (some ((t332 ++ t333) ++ (⟨#[0]⟩ : ByteArray), true)) else (none)) else (none))))
end
def impl_DataBytes.f (k : Nat) (a0 : Int) (a1 : ByteArray) : Option (ByteArray × Bool) := if a0 = 1 then ((strings_Split.f k a1 (⟨#[46]⟩ : ByteArray)).bind fun t314 => (impl_DataBytes.l0 k (⟨#[]⟩ : ByteArray) t314 t314 (t314.length : Int) 0)) else (if a0 = 2 then (impl_DataBytes.j1 k a1 a0 (a0 == 2)) else (impl_DataBytes.j1 k a1 a0 (a0 == 5)))
theorem impl_DataBytes.calls (k : Nat) (a0 : Int) (a1 : ByteArray) (r1 : ByteArray) (r2 : Bool) (w : World) (hG_ : Glob w) (h : impl_DataBytes.f k a0 a1 = some (r1, r2)) :
  Calls Tryz.prog 187 #[.int .i64 a0, .string a1] w fun e w' => e = .returned (.tuple #[.string r1, .bool r2]) ∧ Below w.heap.size w w' := by
 have HGL := Aside0.mk hG_
 clear hG_
 have HB := Aside0.mk (Below.refl w.heap.size w)
 have H : (if a0 = 1 then ((strings_Split.f k a1 (⟨#[46]⟩ : ByteArray)).bind fun t314 => (impl_DataBytes.l0 k (⟨#[]⟩ : ByteArray) t314 t314 (t314.length : Int) 0)) else (if a0 = 2 then (impl_DataBytes.j1 k a1 a0 (a0 == 2)) else (impl_DataBytes.j1 k a1 a0 (a0 == 5)))) = some (r1, r2) := h
 clear h
 by_cases c3 : a0 = 1
 ·rw [if_pos c3] at H
  have c3b0 : (a0 == 1) = true := beq_iff_eq.mpr c3
  have c3b1 : (a0 != 1) = false := bne_eq_false_iff_eq.mpr c3
  clear c3
  obtain ⟨t314, A4, H⟩ := bnd H
  have H' := Aside0.mk H
  clear H
  go_enter Tryz.func187, Tryz.ntmps187
  go_wp2_with (first | ((with_reducible refine gate_callee (f := 166) rfl ?_); refine goesL_ (some 23) rfl rfl Tryz.func166 KR rfl #[.string a1, .string (⟨#[46]⟩ : ByteArray)] rfl TA ?_; (with_reducible refine (strings_Split.calls k a1 (⟨#[46]⟩ : ByteArray) t314 _ A4.out).mono ?_); rintro e w5 ⟨v315, rfl, ho0, hb⟩; refine ⟨_, rfl, ?_⟩; have HO316 := RL ho0; replace HB := BS hb; (try clear hb); (try clear hb2); (try clear hk); (try clear hi); (try clear ho0); obtain ⟨Ao6, co6, eo6⟩ := Kd.R_slice HO316.out; subst eo6))
  go_loopg [6, 26] k (fun kq v6 v26 w' => ∃ (x6_1 : ByteArray) (x26_1 : Int), v6 = .string x6_1 ∧ v26 = .int .i64 x26_1 ∧ Aside0 (impl_DataBytes.l0 kq x6_1 t314 t314 (t314.length : Int) x26_1 = some (r1, r2)) ∧ Aside0 (kq ≤ k) ∧ Aside0 (Kd.R Kd.string 9 w' w.heap.size (fun _ => True) (.slice Ao6 t314.length co6) t314) ∧ Aside0 (Kd.R Kd.string 9 w' w.heap.size (fun _ => True) (.slice Ao6 t314.length co6) t314) ∧ Aside0 (Below w.heap.size w w'))
  case atStart => exact ⟨((⟨#[]⟩ : ByteArray)), (0), TF, TF, H', ⟨Nat.le_refl _⟩, RW HO316, RW HO316, ⟨TB⟩⟩
  case round =>
   clear H'
   try clear c1
   try clear p2
   try clear c3
   try clear c3b0
   try clear c3b1
   obtain ⟨x6_1, x26_1, rfl, rfl, HA, HK1, HO_7, HO_24, HB⟩ := hrel
   cases gk with
   | zero => exact absurd HA.out (by simp [impl_DataBytes.l0])
   | succ k1 =>
    have H := HA.out
    clear HA
    simp only [impl_DataBytes.l0] at H
    by_cases c7 : x26_1 < (t314.length : Int)
    ·rw [if_pos c7] at H
     have c7b0 : decide (x26_1 < (t314.length : Int)) = true := decide_eq_true c7
     clear c7
     obtain ⟨c8, H⟩ := ifn H
     have c8b0 : decide (0 ≤ x26_1) = true := decide_eq_true c8
     clear c8
     obtain ⟨c9, H⟩ := ifn H
     have c9b0 : decide (x26_1 < (t314.length : Int)) = true := decide_eq_true c9
     clear c9
     obtain ⟨⟨t318, t319⟩, A10, H⟩ := bnd H
     try dsimp only at H
     by_cases c11 : t319 = true
     ·subst c11
      replace H := ift H
      by_cases c12 : (t314.length : Int) = 4
      ·rw [if_pos c12] at H
       have c12b0 : ((t314.length : Int) == 4) = true := beq_iff_eq.mpr c12
       have c12b1 : ((t314.length : Int) != 4) = false := bne_eq_false_iff_eq.mpr c12
       clear c12
       obtain ⟨t320, A13, H⟩ := bnd H
       obtain ⟨c14, H⟩ := ifn H
       have c14b0 := eq_true c14
       have c14b1 : decide (x6_1.size + t320.size ≤ 9223372036854775807) = true := decide_eq_true c14
       try have c14b2 : (9223372036854775807 < x6_1.size + t320.size) = False := eq_false (Nat.not_lt.2 c14)
       have H' := Aside0.mk H
       clear H
       have p317 : 0 ≤ (x26_1 : Int) := TD
       have q317 : x26_1 < (t314.length : Int) := TD
       obtain ⟨ad317, e317, hx317_0⟩ := Kd.at_string (Kd.R_reads' HO_24.out).2.2 x26_1 p317 q317
       cases e317
       replace p317 := eq_true p317
       replace q317 := eq_true q317
       go_wp2_with (first | ((with_reducible refine gate_callee (f := 208) rfl ?_); refine goesL_ (some 32) rfl rfl Tryz.func208 KR rfl #[.string (rdOf ByteArray.empty t314 x26_1), .int .i64 255] rfl TA ?_; (with_reducible refine (impl_numberIn.calls (rdOf ByteArray.empty t314 x26_1) 255 t318 true _ ?side1 A10.out).mono ?_); (case side1 => exact GW HGL); rintro e w15 ⟨rfl, hb⟩; refine ⟨_, rfl, ?_⟩; replace HO_7 := RB HO_7 hb; replace HO_24 := RB HO_24 hb; replace HB := BS hb; (try clear hb); (try clear hb2); (try clear hk); (try clear hi)) | ((with_reducible refine gate_callee (f := 209) rfl ?_); refine goesL_ (some 44) rfl rfl Tryz.func209 KR rfl #[.int .i64 t318, .int .i64 1] rfl TA ?_; (with_reducible refine (impl_big.calls k1 t318 1 t320 _ A13.out).mono ?_); rintro e w16 ⟨rfl, hb⟩; refine ⟨_, rfl, ?_⟩; replace HO_7 := RB HO_7 hb; replace HO_24 := RB HO_24 hb; replace HB := BS hb; (try clear hb); (try clear hb2); (try clear hk); (try clear hi)))
       go_roundg k1
       case measure => have := HK1.out; omega
       case rel => exact ⟨(x6_1 ++ t320), (wrap64 (x26_1 + 1)), TF, TF, H', ⟨TM⟩, RW HO_7, RW HO_24, ⟨TB⟩⟩
      ·rw [if_neg c12] at H
       have c12b0 : ((t314.length : Int) == 4) = false := beq_eq_false_iff_ne.mpr c12
       have c12b1 : ((t314.length : Int) != 4) = true := bne_iff_ne.mpr c12
       simp only [Option.some.injEq, Prod.mk.injEq] at H
       obtain ⟨rfl, rfl⟩ := H
       have p317 : 0 ≤ (x26_1 : Int) := TD
       have q317 : x26_1 < (t314.length : Int) := TD
       obtain ⟨ad317, e317, hx317_0⟩ := Kd.at_string (Kd.R_reads' HO_24.out).2.2 x26_1 p317 q317
       cases e317
       replace p317 := eq_true p317
       replace q317 := eq_true q317
       go_wp2_with (first | ((with_reducible refine gate_callee (f := 208) rfl ?_); refine goesL_ (some 32) rfl rfl Tryz.func208 KR rfl #[.string (rdOf ByteArray.empty t314 x26_1), .int .i64 255] rfl TA ?_; (with_reducible refine (impl_numberIn.calls (rdOf ByteArray.empty t314 x26_1) 255 t318 true _ ?side1 A10.out).mono ?_); (case side1 => exact GW HGL); rintro e w17 ⟨rfl, hb⟩; refine ⟨_, rfl, ?_⟩; replace HO_7 := RB HO_7 hb; replace HO_24 := RB HO_24 hb; replace HB := BS hb; (try clear hb); (try clear hb2); (try clear hk); (try clear hi)))
       go_ret2
       exact ⟨TE, TB⟩
     ·replace c11 := Bool.eq_false_iff.mpr c11
      subst c11
      replace H := iff' H
      simp only [Option.some.injEq, Prod.mk.injEq] at H
      obtain ⟨rfl, rfl⟩ := H
      have p317 : 0 ≤ (x26_1 : Int) := TD
      have q317 : x26_1 < (t314.length : Int) := TD
      obtain ⟨ad317, e317, hx317_0⟩ := Kd.at_string (Kd.R_reads' HO_24.out).2.2 x26_1 p317 q317
      cases e317
      replace p317 := eq_true p317
      replace q317 := eq_true q317
      go_wp2_with (first | ((with_reducible refine gate_callee (f := 208) rfl ?_); refine goesL_ (some 32) rfl rfl Tryz.func208 KR rfl #[.string (rdOf ByteArray.empty t314 x26_1), .int .i64 255] rfl TA ?_; (with_reducible refine (impl_numberIn.calls (rdOf ByteArray.empty t314 x26_1) 255 t318 false _ ?side1 A10.out).mono ?_); (case side1 => exact GW HGL); rintro e w18 ⟨rfl, hb⟩; refine ⟨_, rfl, ?_⟩; replace HO_7 := RB HO_7 hb; replace HO_24 := RB HO_24 hb; replace HB := BS hb; (try clear hb); (try clear hb2); (try clear hk); (try clear hi)))
      go_ret2
      exact ⟨TE, TB⟩
    ·rw [if_neg c7] at H
     have c7b0 : decide (x26_1 < (t314.length : Int)) = false := decide_eq_false c7
     clear c7
     simp only [Option.some.injEq, Prod.mk.injEq] at H
     obtain ⟨rfl, rfl⟩ := H
     go_wp2
     go_ret2
     exact ⟨TE, TB⟩
 ·rw [if_neg c3] at H
  have c3b0 : (a0 == 1) = false := beq_eq_false_iff_ne.mpr c3
  have c3b1 : (a0 != 1) = true := bne_iff_ne.mpr c3
  have HC19 := Aside0.mk H
  clear H
  go_enter Tryz.func187, Tryz.ntmps187
  go_upto_if 48 with (fail)
  go_cut [48] (fun v48 wc => ∃ (kq : Nat) (x48_18 : Bool), v48 = .bool x48_18 ∧ Aside0 (impl_DataBytes.j1 kq a1 a0 x48_18 = some (r1, r2)) ∧ Aside0 (kq ≤ k) ∧ Aside0 (Below w.heap.size w wc))
  case first =>
   have H := HC19.out
   clear HC19
   by_cases c20 : a0 = 2
   ·rw [if_pos c20] at H
    have c20b0 : (a0 == 2) = true := beq_iff_eq.mpr c20
    have c20b1 : (a0 != 2) = false := bne_eq_false_iff_eq.mpr c20
    clear c20
    (first | rw [c20b0] | (simp only [i64_w, i32_w]; rw [c20b0]) | skip)
    have H' := Aside0.mk H
    clear H
    go_wp2
    go_meet
    case rel => exact ⟨_, ((a0 == 2)), TF, H', ⟨by first | omega | exact Nat.le_refl _⟩, ⟨TB⟩⟩
   ·rw [if_neg c20] at H
    have c20b0 : (a0 == 2) = false := beq_eq_false_iff_ne.mpr c20
    have c20b1 : (a0 != 2) = true := bne_iff_ne.mpr c20
    (first | rw [c20b0] | (simp only [i64_w, i32_w]; rw [c20b0]) | skip)
    have H' := Aside0.mk H
    clear H
    go_wp2
    go_meet
    case rel => exact ⟨_, ((a0 == 5)), TF, H', ⟨by first | omega | exact Nat.le_refl _⟩, ⟨TB⟩⟩
  case rest =>
   clear HC19
   try clear c1
   try clear c2
   try clear p2
   try clear c3
   try clear c3b0
   try clear c3b1
   try clear p3
   try clear q3
   try clear hx3
   try clear p6
   try clear c7
   try clear c7b0
   try clear c8
   try clear c8b0
   try clear c9
   try clear c9b0
   try clear c11
   try clear c12
   try clear c12b0
   try clear c12b1
   try clear c14
   try clear c14b0
   try clear c14b1
   try clear c14b2
   try clear c16
   try clear c18
   try clear c20
   try clear c20b0
   try clear c20b1
   try clear hx317_0
   try clear p2
   try clear p317
   try clear q317
   obtain ⟨kq, x48_18, rfl, HA, HJ18, HB⟩ := hcut
   cases kq with
   | zero => exact absurd HA.out (by simp [impl_DataBytes.j1])
   | succ kj18 =>
    have H := HA.out
    clear HA
    simp only [impl_DataBytes.j1] at H
    by_cases c21 : x48_18 = true
    ·subst c21
     replace H := ift H
     obtain ⟨t321, A22, H⟩ := bnd H
     by_cases c23 : t321 = true
     ·subst c23
      replace H := ift H
      obtain ⟨t322, A24, H⟩ := bnd H
      obtain ⟨c25, H⟩ := ifn H
      have c25b0 := eq_true c25
      have c25b1 : decide (t322.size + 1 ≤ 9223372036854775807) = true := decide_eq_true c25
      try have c25b2 : (9223372036854775807 < t322.size + 1) = False := eq_false (Nat.not_lt.2 c25)
      simp only [Option.some.injEq, Prod.mk.injEq] at H
      obtain ⟨rfl, rfl⟩ := H
      go_wp2_with (first | ((with_reducible refine gate_callee (f := 210) rfl ?_); refine goesL_ (some 52) rfl rfl Tryz.func210 KR rfl #[.string a1] rfl TA ?_; (with_reducible refine (impl_isTarget.calls kj18 a1 true _ A22.out).mono ?_); rintro e w26 ⟨rfl, hb⟩; refine ⟨_, rfl, ?_⟩; replace HB := BS hb; (try clear hb); (try clear hb2); (try clear hk); (try clear hi)) | ((with_reducible refine gate_callee (f := 211) rfl ?_); refine goesL_ (some 55) rfl rfl Tryz.func211 KR rfl #[.string a1] rfl TA ?_; (with_reducible refine (impl_labelBytes.calls kj18 a1 t322 _ A24.out).mono ?_); rintro e w27 ⟨rfl, hb⟩; refine ⟨_, rfl, ?_⟩; replace HB := BS hb; (try clear hb); (try clear hb2); (try clear hk); (try clear hi)))
      go_ret2
      exact ⟨TE, TB⟩
     ·replace c23 := Bool.eq_false_iff.mpr c23
      subst c23
      replace H := iff' H
      simp only [Option.some.injEq, Prod.mk.injEq] at H
      obtain ⟨rfl, rfl⟩ := H
      go_wp2_with (first | ((with_reducible refine gate_callee (f := 210) rfl ?_); refine goesL_ (some 52) rfl rfl Tryz.func210 KR rfl #[.string a1] rfl TA ?_; (with_reducible refine (impl_isTarget.calls kj18 a1 false _ A22.out).mono ?_); rintro e w28 ⟨rfl, hb⟩; refine ⟨_, rfl, ?_⟩; replace HB := BS hb; (try clear hb); (try clear hb2); (try clear hk); (try clear hi)))
      go_ret2
      exact ⟨TE, TB⟩
    ·replace c21 := Bool.eq_false_iff.mpr c21
     subst c21
     replace H := iff' H
     by_cases c29 : a0 = 6
     ·rw [if_pos c29] at H
      have c29b0 : (a0 == 6) = true := beq_iff_eq.mpr c29
      have c29b1 : (a0 != 6) = false := bne_eq_false_iff_eq.mpr c29
      clear c29
      obtain ⟨⟨t323, t324⟩, A30, H⟩ := bnd H
      try dsimp only at H
      by_cases c31 : t324 = true
      ·subst c31
       replace H := ift H
       obtain ⟨t325, A32, H⟩ := bnd H
       simp only [Option.some.injEq, Prod.mk.injEq] at H
       obtain ⟨rfl, rfl⟩ := H
       go_wp2_with (first | ((with_reducible refine gate_callee (f := 208) rfl ?_); refine goesL_ (some 61) rfl rfl Tryz.func208 KR rfl #[.string a1, .int .i64 4294967295] rfl TA ?_; (with_reducible refine (impl_numberIn.calls a1 4294967295 t323 true _ ?side1 A30.out).mono ?_); (case side1 => exact GW HGL); rintro e w33 ⟨rfl, hb⟩; refine ⟨_, rfl, ?_⟩; replace HB := BS hb; (try clear hb); (try clear hb2); (try clear hk); (try clear hi)) | ((with_reducible refine gate_callee (f := 209) rfl ?_); refine goesL_ (some 67) rfl rfl Tryz.func209 KR rfl #[.int .i64 t323, .int .i64 4] rfl TA ?_; (with_reducible refine (impl_big.calls kj18 t323 4 t325 _ A32.out).mono ?_); rintro e w34 ⟨rfl, hb⟩; refine ⟨_, rfl, ?_⟩; replace HB := BS hb; (try clear hb); (try clear hb2); (try clear hk); (try clear hi)))
       go_ret2
       exact ⟨TE, TB⟩
      ·replace c31 := Bool.eq_false_iff.mpr c31
       subst c31
       replace H := iff' H
       simp only [Option.some.injEq, Prod.mk.injEq] at H
       obtain ⟨rfl, rfl⟩ := H
       go_wp2_with (first | ((with_reducible refine gate_callee (f := 208) rfl ?_); refine goesL_ (some 61) rfl rfl Tryz.func208 KR rfl #[.string a1, .int .i64 4294967295] rfl TA ?_; (with_reducible refine (impl_numberIn.calls a1 4294967295 t323 false _ ?side1 A30.out).mono ?_); (case side1 => exact GW HGL); rintro e w35 ⟨rfl, hb⟩; refine ⟨_, rfl, ?_⟩; replace HB := BS hb; (try clear hb); (try clear hb2); (try clear hk); (try clear hi)))
       go_ret2
       exact ⟨TE, TB⟩
     ·rw [if_neg c29] at H
      have c29b0 : (a0 == 6) = false := beq_eq_false_iff_ne.mpr c29
      have c29b1 : (a0 != 6) = true := bne_iff_ne.mpr c29
      by_cases c36 : a0 = 15
      ·rw [if_pos c36] at H
       have c36b0 : (a0 == 15) = true := beq_iff_eq.mpr c36
       have c36b1 : (a0 != 15) = false := bne_eq_false_iff_eq.mpr c36
       clear c36
       obtain ⟨⟨t326, t327, t328⟩, A37, H⟩ := bnd H
       try dsimp only at H
       obtain ⟨⟨t329, t330⟩, A38, H⟩ := bnd H
       try dsimp only at H
       have HC39 := Aside0.mk H
       clear H
       go_upto_region 27 with (first | ((with_reducible refine gate_callee (f := 182) rfl ?_); refine goesL_ (some 72) rfl rfl Tryz.func182 KR rfl #[.string a1, .string (⟨#[32]⟩ : ByteArray)] rfl TA ?_; (with_reducible refine (strings_Cut.calls a1 (⟨#[32]⟩ : ByteArray) t326 t327 t328 _ A37.out).mono ?_); rintro e w' ⟨rfl, ⟨nd, rfl⟩⟩; refine ⟨_, rfl, ?_⟩) | ((with_reducible refine gate_callee (f := 208) rfl ?_); refine goesL_ (some 78) rfl rfl Tryz.func208 KR rfl #[.string t326, .int .i64 65535] rfl TA ?_; (with_reducible refine (impl_numberIn.calls t326 65535 t329 t330 _ ?side1 A38.out).mono ?_); (case side1 => exact GW HGL); rintro e w40 ⟨rfl, hb⟩; refine ⟨_, rfl, ?_⟩; replace HB := BS hb; (try clear hb); (try clear hb2); (try clear hk); (try clear hi)))
       (try simp only [Act.put, List.setIfInBounds_toArray, List.set_cons_zero, List.set_cons_succ])
       go_cut [87] (fun v87 wc => ∃ (kq : Nat) (x87_38 : Bool), v87 = .bool x87_38 ∧ Aside0 (impl_DataBytes.j2 kq t327 t329 x87_38 = some (r1, r2)) ∧ Aside0 (kq ≤ kj18) ∧ Aside0 (Below w.heap.size w wc))
       case first =>
        have H := HC39.out
        clear HC39
        by_cases c41 : t330 = true
        ·subst c41
         replace H := ift H
         obtain ⟨t331, A42, H⟩ := bnd H
         have H' := Aside0.mk H
         clear H
         go_wp2_with (first | (go_at_call 210; (with_reducible refine (impl_isTarget.calls kj18 t327 t331 _ A42.out).mono ?_); rintro e w43 ⟨rfl, hb⟩; replace HB := BS hb; (try clear hb); (try clear hb2); (try clear hk); (try clear hi)))
         go_meet
         case rel => exact ⟨_, (!t331), TF, H', ⟨by have := HJ18.out; first | omega | exact Nat.le_refl _⟩, ⟨TB⟩⟩
        ·replace c41 := Bool.eq_false_iff.mpr c41
         subst c41
         replace H := iff' H
         have H' := Aside0.mk H
         clear H
         go_wp2
         go_meet
         case rel => exact ⟨_, (true), TF, H', ⟨by have := HJ18.out; first | omega | exact Nat.le_refl _⟩, ⟨TB⟩⟩
       case rest =>
        clear HC39
        try clear c1
        try clear c2
        try clear p2
        try clear c3
        try clear c3b0
        try clear c3b1
        try clear p3
        try clear q3
        try clear hx3
        try clear c4
        try clear p6
        try clear c7
        try clear c7b0
        try clear c8
        try clear c8b0
        try clear c9
        try clear c9b0
        try clear c11
        try clear c12
        try clear c12b0
        try clear c12b1
        try clear c14
        try clear c14b0
        try clear c14b1
        try clear c14b2
        try clear c16
        try clear c18
        try clear c20
        try clear c20b0
        try clear c20b1
        try clear c21
        try clear c23
        try clear c25
        try clear c25b0
        try clear c25b1
        try clear c25b2
        try clear c29
        try clear c29b0
        try clear c29b1
        try clear c31
        try clear p31
        try clear q31
        try clear hx31
        try clear c36
        try clear c36b0
        try clear c36b1
        try clear c41
        try clear hx317_0
        try clear p2
        try clear p3
        try clear p317
        try clear p6
        try clear q3
        try clear q317
        obtain ⟨kq, x87_38, rfl, HA, HJ38, HB⟩ := hcut
        cases kq with
        | zero => exact absurd HA.out (by simp [impl_DataBytes.j2])
        | succ kj38 =>
         have H := HA.out
         clear HA
         simp only [impl_DataBytes.j2] at H
         by_cases c44 : x87_38 = true
         ·subst c44
          replace H := ift H
          simp only [Option.some.injEq, Prod.mk.injEq] at H
          obtain ⟨rfl, rfl⟩ := H
          go_wp2
          go_ret2
          exact ⟨TE, TB⟩
         ·replace c44 := Bool.eq_false_iff.mpr c44
          subst c44
          replace H := iff' H
          obtain ⟨t332, A45, H⟩ := bnd H
          obtain ⟨t333, A46, H⟩ := bnd H
          obtain ⟨c47, H⟩ := ifn H
          have c47b0 := eq_true c47
          have c47b1 : decide (t332.size + t333.size ≤ 9223372036854775807) = true := decide_eq_true c47
          try have c47b2 : (9223372036854775807 < t332.size + t333.size) = False := eq_false (Nat.not_lt.2 c47)
          obtain ⟨c48, H⟩ := ifn H
          have c48b0 := eq_true c48
          have c48b1 : decide ((t332 ++ t333).size + 1 ≤ 9223372036854775807) = true := decide_eq_true c48
          try have c48b7 : (t332.size + t333.size + 1 ≤ 9223372036854775807) = True := eq_true (by have h_ := c48; simp only [ByteArray.size_append] at h_; exact h_)
          try have c48b9 : (9223372036854775807 < t332.size + t333.size + 1) = False := eq_false (Nat.not_lt.2 (by have h_ := c48; simp only [ByteArray.size_append] at h_; exact h_))
          try have c48b8 : decide (t332.size + t333.size + 1 ≤ 9223372036854775807) = true := decide_eq_true (by have h_ := c48; simp only [ByteArray.size_append] at h_; exact h_)
          try have c48b2 : (9223372036854775807 < (t332 ++ t333).size + 1) = False := eq_false (Nat.not_lt.2 c48)
          simp only [Option.some.injEq, Prod.mk.injEq] at H
          obtain ⟨rfl, rfl⟩ := H
          go_wp2_with (first | ((with_reducible refine gate_callee (f := 209) rfl ?_); refine goesL_ (some 89) rfl rfl Tryz.func209 KR rfl #[.int .i64 t329, .int .i64 2] rfl TA ?_; (with_reducible refine (impl_big.calls kj38 t329 2 t332 _ A45.out).mono ?_); rintro e w49 ⟨rfl, hb⟩; refine ⟨_, rfl, ?_⟩; replace HB := BS hb; (try clear hb); (try clear hb2); (try clear hk); (try clear hi)) | ((with_reducible refine gate_callee (f := 211) rfl ?_); refine goesL_ (some 91) rfl rfl Tryz.func211 KR rfl #[.string t327] rfl TA ?_; (with_reducible refine (impl_labelBytes.calls kj38 t327 t333 _ A46.out).mono ?_); rintro e w50 ⟨rfl, hb⟩; refine ⟨_, rfl, ?_⟩; replace HB := BS hb; (try clear hb); (try clear hb2); (try clear hk); (try clear hi)))
          go_ret2
          exact ⟨TE, TB⟩
      ·rw [if_neg c36] at H
       have c36b0 : (a0 == 15) = false := beq_eq_false_iff_ne.mpr c36
       have c36b1 : (a0 != 15) = true := bne_iff_ne.mpr c36
       by_cases c51 : a0 = 16
       ·rw [if_pos c51] at H
        have c51b0 : (a0 == 16) = true := beq_iff_eq.mpr c51
        have c51b1 : (a0 != 16) = false := bne_eq_false_iff_eq.mpr c51
        clear c51
        by_cases c52 : (a1.size : Int) > 30
        ·rw [if_pos c52] at H
         have c52b0 : decide (30 < (a1.size : Int)) = true := decide_eq_true c52
         have c52b1 : decide (30 < a1.size) = true := decide_eq_true (by omega)
         clear c52
         simp only [Option.some.injEq, Prod.mk.injEq] at H
         obtain ⟨rfl, rfl⟩ := H
         go_wp2
         go_ret2
         exact ⟨TE, TB⟩
        ·rw [if_neg c52] at H
         have c52b0 : decide (30 < (a1.size : Int)) = false := decide_eq_false c52
         have c52b1 : decide (30 < a1.size) = false := decide_eq_false (by omega)
         clear c52
         obtain ⟨c53, H⟩ := ifn H
         have c53b0 := eq_true c53
         have c53b1 : decide (a1.size ≤ 9223372036854775807) = true := decide_eq_true c53
         try have c53b2 : (9223372036854775807 < a1.size) = False := eq_false (Nat.not_lt.2 c53)
         clear c53
         obtain ⟨y334, hy334⟩ : ∃ y_ : List Int, y_ = (bytesOf a1) := ⟨_, rfl⟩
         replace H : ((slices_ContainsFunc_byte_byte_DataBytes_1.f kj18 y334).bind fun t337 => (if t337 = true then (some ((⟨#[]⟩ : ByteArray), false)) else ((impl_big.f kj18 (a1.size : Int) 1).bind fun t338 => (if t338.size + a1.size ≤ 9223372036854775807 then (some (t338 ++ a1, true)) else (none))))) = some (r1, r2) := by first | (rw [hy334]; with_reducible exact H) | (have H2_ := (Option.bind_some _ _).symm.trans H; rw [hy334]; with_reducible exact H2_) | (have H2_ := (Option.bind_some _ _).symm.trans H; with_reducible exact H2_) | with_reducible exact H | (rw [hy334]; exact H) | exact H
         have Ny334 := Aside0.mk hy334
         clear hy334
         obtain ⟨t337, A54, H⟩ := bnd H
         by_cases c55 : t337 = true
         ·subst c55
          replace H := ift H
          simp only [Option.some.injEq, Prod.mk.injEq] at H
          obtain ⟨rfl, rfl⟩ := H
          go_wp2_with (first | ((with_reducible refine gate_dst (N := 101) rfl ?_); (try (refine gate_guard (by rfl) ?_; dsimp only)); refine Kd.V_bytes _ 5 rfl (N := 101) rfl 9 162 _ rfl a1 rfl Tryz.underlying9 Tryz.underlying162 Tryz.underlying5 TD (ok := fun k_ => wc.heap.size ≤ k_) (Nat.le_refl _) (Below.refl _ _) (Nat.le_refl _) ?_; intro v335 w56 ho57 hb hg_ hnew_; clear hg_ hnew_; (first | rw [← Ny334.out] at ho57 | (simp only [Int.reduceToNat] at ho57; rw [← Ny334.out] at ho57)); have HO336 := Aside0.mk (Kd.V_lower (Kd.V_mono (ok' := fun k_ => True) ho57 (fun k_ hk_ => trivial)) (below_size TB)); replace HB := BS hb; clear hb ho57; obtain ⟨Ao58, co58, eo58⟩ := Kd.V_slice HO336.out; subst eo58) | (go_at_call 212; (with_reducible refine (slices_ContainsFunc_byte_byte_DataBytes_1.calls kj18 _ _ y334  true _ ?side1 ?side2 A54.out).mono ?_); (case side1 => exact CW ((Kd.V_reads' HO336.out).2.2)); (case side2 => exact (Kd.V_reads' HO336.out).2.1); rintro e w' ⟨rfl, ⟨nd, rfl⟩⟩))
          go_ret2
          exact ⟨TE, TB⟩
         ·replace c55 := Bool.eq_false_iff.mpr c55
          subst c55
          replace H := iff' H
          obtain ⟨t338, A59, H⟩ := bnd H
          obtain ⟨c60, H⟩ := ifn H
          have c60b0 := eq_true c60
          have c60b1 : decide (t338.size + a1.size ≤ 9223372036854775807) = true := decide_eq_true c60
          try have c60b2 : (9223372036854775807 < t338.size + a1.size) = False := eq_false (Nat.not_lt.2 c60)
          simp only [Option.some.injEq, Prod.mk.injEq] at H
          obtain ⟨rfl, rfl⟩ := H
          go_wp2_with (first | ((with_reducible refine gate_dst (N := 101) rfl ?_); (try (refine gate_guard (by rfl) ?_; dsimp only)); refine Kd.V_bytes _ 5 rfl (N := 101) rfl 9 162 _ rfl a1 rfl Tryz.underlying9 Tryz.underlying162 Tryz.underlying5 TD (ok := fun k_ => wc.heap.size ≤ k_) (Nat.le_refl _) (Below.refl _ _) (Nat.le_refl _) ?_; intro v335 w61 ho62 hb hg_ hnew_; clear hg_ hnew_; (first | rw [← Ny334.out] at ho62 | (simp only [Int.reduceToNat] at ho62; rw [← Ny334.out] at ho62)); have HO336 := Aside0.mk (Kd.V_lower (Kd.V_mono (ok' := fun k_ => True) ho62 (fun k_ hk_ => trivial)) (below_size TB)); replace HB := BS hb; clear hb ho62; obtain ⟨Ao63, co63, eo63⟩ := Kd.V_slice HO336.out; subst eo63) | (go_at_call 212; (with_reducible refine (slices_ContainsFunc_byte_byte_DataBytes_1.calls kj18 _ _ y334  false _ ?side1 ?side2 A54.out).mono ?_); (case side1 => exact CW ((Kd.V_reads' HO336.out).2.2)); (case side2 => exact (Kd.V_reads' HO336.out).2.1); rintro e w' ⟨rfl, ⟨nd, rfl⟩⟩) | ((with_reducible refine gate_callee (f := 209) rfl ?_); refine goesL_ (some 106) rfl rfl Tryz.func209 KR rfl #[.int .i64 (a1.size : Int), .int .i64 1] rfl TA ?_; (with_reducible refine (impl_big.calls kj18 (a1.size : Int) 1 t338 _ A59.out).mono ?_); rintro e w64 ⟨rfl, hb⟩; refine ⟨_, rfl, ?_⟩; replace HO336 := Aside0.mk (Kd.V_below (by (with_reducible repeat (first | apply Kd.V_alloc | apply Kd.V_drewN | apply Kd.V_drew)); exact HO336.out) hb); replace HB := BS hb; (try clear hb); (try clear hb2); (try clear hk); (try clear hi)))
          go_ret2
          exact ⟨TE, TB⟩
       ·rw [if_neg c51] at H
        have c51b0 : (a0 == 16) = false := beq_eq_false_iff_ne.mpr c51
        have c51b1 : (a0 != 16) = true := bne_iff_ne.mpr c51
        simp only [Option.some.injEq, Prod.mk.injEq] at H
        obtain ⟨rfl, rfl⟩ := H
        go_wp2
        go_ret2
        exact ⟨TE, TB⟩
end
section
/-! ### impl_GoodRecord: function 162 -/
def impl_GoodRecord.f (k : Nat) (a0_0 : ByteArray) (a0_1 : Int) (a0_2 : Int) (a0_3 : ByteArray) : Option (Bool) := (impl_GoodName.f k a0_0).bind fun t340 => (if t340 = true then ((impl_within.f a0_2 0 100000).bind fun t341 => (if t341 = true then (if (a0_3.size : Int) > 100 then (some false) else ((impl_DataBytes.f k a0_1 a0_3).bind fun bt342 => (some bt342.2))) else (some false))) else (some false))
theorem impl_GoodRecord.calls (k : Nat) (a0_0 : ByteArray) (a0_1 : Int) (a0_2 : Int) (a0_3 : ByteArray) (r : Bool) (w : World) (hG_ : Glob w) (h : impl_GoodRecord.f k a0_0 a0_1 a0_2 a0_3 = some r) :
  Calls Tryz.prog 162 #[.agg #[.string a0_0, .int .i64 a0_1, .int .i64 a0_2, .string a0_3]] w fun e w' => e = .returned (.bool r) ∧ Below w.heap.size w w' := by
 have hu93 := Tryz.underlying93
 have HGL := Aside0.mk hG_
 clear hG_
 have HB := Aside0.mk (Below.refl w.heap.size w)
 have H : ((impl_GoodName.f k a0_0).bind fun t340 => (if t340 = true then ((impl_within.f a0_2 0 100000).bind fun t341 => (if t341 = true then (if (a0_3.size : Int) > 100 then (some false) else ((impl_DataBytes.f k a0_1 a0_3).bind fun bt342 => (some bt342.2))) else (some false))) else (some false))) = some r := h
 clear h
 obtain ⟨t340, A2, H⟩ := bnd H
 by_cases c3 : t340 = true
 ·subst c3
  replace H := ift H
  obtain ⟨t341, A4, H⟩ := bnd H
  by_cases c5 : t341 = true
  ·subst c5
   replace H := ift H
   by_cases c6 : (a0_3.size : Int) > 100
   ·rw [if_pos c6] at H
    have c6b0 : decide (100 < (a0_3.size : Int)) = true := decide_eq_true c6
    have c6b1 : decide (100 < a0_3.size) = true := decide_eq_true (by omega)
    clear c6
    obtain rfl := Option.some.inj H
    go_enter Tryz.func162, Tryz.ntmps162
    go_wp2_with (first | ((with_reducible refine gate_dst (N := 1) rfl ?_); (try (refine gate_guard (by rfl) ?_; dsimp only)); refine bE 1 #[.string a0_0, .int .i64 a0_1, .int .i64 a0_2, .string a0_3] 93 ?_; intro gb339 hg w7 hbox hb; have BK339 := Aside0.mk (hbox); have GE339 := bG hg; replace HB := BS hb; clear hb hbox hg; have hcz8 := cz4 BK339) | ((with_reducible refine gate_callee (f := 77) rfl ?_); refine goesL_ (some 7) rfl rfl Tryz.func77 KR rfl #[.string a0_0] rfl TA ?_; (with_reducible refine (impl_GoodName.calls k a0_0 true _ A2.out).mono ?_); rintro e w9 ⟨rfl, hb⟩; refine ⟨_, rfl, ?_⟩; replace BK339 := KB BK339 hb; replace HB := BS hb; (try clear hb); (try clear hb2); (try clear hk); (try clear hi); have hcz10 := cz4 BK339) | (go_at_call 86; (with_reducible refine (impl_within.calls a0_2 0 100000 true _ A4.out).mono ?_); rintro e w' ⟨rfl, ⟨nd, rfl⟩⟩))
    go_ret
    exact ⟨TE, TB⟩
   ·rw [if_neg c6] at H
    have c6b0 : decide (100 < (a0_3.size : Int)) = false := decide_eq_false c6
    have c6b1 : decide (100 < a0_3.size) = false := decide_eq_false (by omega)
    clear c6
    obtain ⟨⟨t342, t343⟩, A11, H⟩ := bnd H
    try dsimp only at H
    obtain rfl := Option.some.inj H
    go_enter Tryz.func162, Tryz.ntmps162
    go_wp2_with (first | ((with_reducible refine gate_dst (N := 1) rfl ?_); (try (refine gate_guard (by rfl) ?_; dsimp only)); refine bE 1 #[.string a0_0, .int .i64 a0_1, .int .i64 a0_2, .string a0_3] 93 ?_; intro gb339 hg w12 hbox hb; have BK339 := Aside0.mk (hbox); have GE339 := bG hg; replace HB := BS hb; clear hb hbox hg; have hcz13 := cz4 BK339) | ((with_reducible refine gate_callee (f := 77) rfl ?_); refine goesL_ (some 7) rfl rfl Tryz.func77 KR rfl #[.string a0_0] rfl TA ?_; (with_reducible refine (impl_GoodName.calls k a0_0 true _ A2.out).mono ?_); rintro e w14 ⟨rfl, hb⟩; refine ⟨_, rfl, ?_⟩; replace BK339 := KB BK339 hb; replace HB := BS hb; (try clear hb); (try clear hb2); (try clear hk); (try clear hi); have hcz15 := cz4 BK339) | (go_at_call 86; (with_reducible refine (impl_within.calls a0_2 0 100000 true _ A4.out).mono ?_); rintro e w' ⟨rfl, ⟨nd, rfl⟩⟩) | ((with_reducible refine gate_callee (f := 187) rfl ?_); refine goesL_ (some 26) rfl rfl Tryz.func187 KR rfl #[.int .i64 a0_1, .string a0_3] rfl TA ?_; (with_reducible refine (impl_DataBytes.calls k a0_1 a0_3 t342 t343 _ ?side1 A11.out).mono ?_); (case side1 => exact GW HGL); rintro e w16 ⟨rfl, hb⟩; refine ⟨_, rfl, ?_⟩; replace BK339 := KB BK339 hb; replace HB := BS hb; (try clear hb); (try clear hb2); (try clear hk); (try clear hi)))
    go_ret
    exact ⟨TE, TB⟩
  ·replace c5 := Bool.eq_false_iff.mpr c5
   subst c5
   replace H := iff' H
   obtain rfl := Option.some.inj H
   go_enter Tryz.func162, Tryz.ntmps162
   go_wp2_with (first | ((with_reducible refine gate_dst (N := 1) rfl ?_); (try (refine gate_guard (by rfl) ?_; dsimp only)); refine bE 1 #[.string a0_0, .int .i64 a0_1, .int .i64 a0_2, .string a0_3] 93 ?_; intro gb339 hg w17 hbox hb; have BK339 := Aside0.mk (hbox); have GE339 := bG hg; replace HB := BS hb; clear hb hbox hg; have hcz18 := cz4 BK339) | ((with_reducible refine gate_callee (f := 77) rfl ?_); refine goesL_ (some 7) rfl rfl Tryz.func77 KR rfl #[.string a0_0] rfl TA ?_; (with_reducible refine (impl_GoodName.calls k a0_0 true _ A2.out).mono ?_); rintro e w19 ⟨rfl, hb⟩; refine ⟨_, rfl, ?_⟩; replace BK339 := KB BK339 hb; replace HB := BS hb; (try clear hb); (try clear hb2); (try clear hk); (try clear hi); have hcz20 := cz4 BK339) | (go_at_call 86; (with_reducible refine (impl_within.calls a0_2 0 100000 false _ A4.out).mono ?_); rintro e w' ⟨rfl, ⟨nd, rfl⟩⟩))
   go_ret
   exact ⟨TE, TB⟩
 ·replace c3 := Bool.eq_false_iff.mpr c3
  subst c3
  replace H := iff' H
  obtain rfl := Option.some.inj H
  go_enter Tryz.func162, Tryz.ntmps162
  go_wp2_with (first | ((with_reducible refine gate_dst (N := 1) rfl ?_); (try (refine gate_guard (by rfl) ?_; dsimp only)); refine bE 1 #[.string a0_0, .int .i64 a0_1, .int .i64 a0_2, .string a0_3] 93 ?_; intro gb339 hg w21 hbox hb; have BK339 := Aside0.mk (hbox); have GE339 := bG hg; replace HB := BS hb; clear hb hbox hg; have hcz22 := cz4 BK339) | ((with_reducible refine gate_callee (f := 77) rfl ?_); refine goesL_ (some 7) rfl rfl Tryz.func77 KR rfl #[.string a0_0] rfl TA ?_; (with_reducible refine (impl_GoodName.calls k a0_0 false _ A2.out).mono ?_); rintro e w23 ⟨rfl, hb⟩; refine ⟨_, rfl, ?_⟩; replace BK339 := KB BK339 hb; replace HB := BS hb; (try clear hb); (try clear hb2); (try clear hk); (try clear hi)))
  go_ret
  exact ⟨TE, TB⟩
end
section
/-! ### cmp_isNaN_int: function 141 -/
def cmp_isNaN_int.f (a0 : Int) : Option (Bool) := some (a0 != a0)
theorem cmp_isNaN_int.calls (a0 : Int) (r : Bool) (w : World) (h : cmp_isNaN_int.f a0 = some r) :
  Calls Tryz.prog 141 #[.int .i64 a0] w fun e w' => e = .returned (.bool r) ∧ Drawn0 w w' := by
 have H : (some (a0 != a0)) = some r := h
 clear h
 obtain rfl := Option.some.inj H
 go_enter Tryz.func141, Tryz.ntmps141
 go_wp2
 go_ret
 exact ⟨TF, TN⟩
end
section
/-! ### cmp_Compare_int: function 92 -/
def cmp_Compare_int.f (a0 : Int) (a1 : Int) : Option (Int) := (cmp_isNaN_int.f a0).bind fun t362 => ((cmp_isNaN_int.f a1).bind fun t363 => (if t362 = true then (if t363 = true then (some 0) else (some (-1))) else (if t363 = true then (some 1) else (if a0 < a1 then (some (-1)) else (if a0 > a1 then (some 1) else (some 0))))))
theorem cmp_Compare_int.calls (a0 : Int) (a1 : Int) (r : Int) (w : World) (h : cmp_Compare_int.f a0 a1 = some r) :
  Calls Tryz.prog 92 #[.int .i64 a0, .int .i64 a1] w fun e w' => e = .returned (.int .i64 r) ∧ Drawn0 w w' := by
 have H : ((cmp_isNaN_int.f a0).bind fun t362 => ((cmp_isNaN_int.f a1).bind fun t363 => (if t362 = true then (if t363 = true then (some 0) else (some (-1))) else (if t363 = true then (some 1) else (if a0 < a1 then (some (-1)) else (if a0 > a1 then (some 1) else (some 0))))))) = some r := h
 clear h
 obtain ⟨t362, A3, H⟩ := bnd H
 obtain ⟨t363, A4, H⟩ := bnd H
 by_cases c5 : t362 = true
 ·subst c5
  replace H := ift H
  by_cases c6 : t363 = true
  ·subst c6
   replace H := ift H
   obtain rfl := Option.some.inj H
   go_enter Tryz.func92, Tryz.ntmps92
   go_wp2_with (first | ((with_reducible refine gate_callee (f := 141) rfl ?_); refine goesL_ (some 8) rfl rfl Tryz.func141 KR rfl #[.int .i64 a0] rfl TA ?_; (with_reducible refine (cmp_isNaN_int.calls a0 true _ A3.out).mono ?_); rintro e w' ⟨rfl, ⟨nd, rfl⟩⟩; refine ⟨_, rfl, ?_⟩) | ((with_reducible refine gate_callee (f := 141) rfl ?_); refine goesL_ (some 10) rfl rfl Tryz.func141 KR rfl #[.int .i64 a1] rfl TA ?_; (with_reducible refine (cmp_isNaN_int.calls a1 true _ A4.out).mono ?_); rintro e w' ⟨rfl, ⟨nd, rfl⟩⟩; refine ⟨_, rfl, ?_⟩))
   go_ret
   exact ⟨TF, TN⟩
  ·replace c6 := Bool.eq_false_iff.mpr c6
   subst c6
   replace H := iff' H
   obtain rfl := Option.some.inj H
   go_enter Tryz.func92, Tryz.ntmps92
   go_wp2_with (first | ((with_reducible refine gate_callee (f := 141) rfl ?_); refine goesL_ (some 8) rfl rfl Tryz.func141 KR rfl #[.int .i64 a0] rfl TA ?_; (with_reducible refine (cmp_isNaN_int.calls a0 true _ A3.out).mono ?_); rintro e w' ⟨rfl, ⟨nd, rfl⟩⟩; refine ⟨_, rfl, ?_⟩) | ((with_reducible refine gate_callee (f := 141) rfl ?_); refine goesL_ (some 10) rfl rfl Tryz.func141 KR rfl #[.int .i64 a1] rfl TA ?_; (with_reducible refine (cmp_isNaN_int.calls a1 false _ A4.out).mono ?_); rintro e w' ⟨rfl, ⟨nd, rfl⟩⟩; refine ⟨_, rfl, ?_⟩))
   go_ret
   exact ⟨TF, TN⟩
 ·replace c5 := Bool.eq_false_iff.mpr c5
  subst c5
  replace H := iff' H
  by_cases c7 : t363 = true
  ·subst c7
   replace H := ift H
   obtain rfl := Option.some.inj H
   go_enter Tryz.func92, Tryz.ntmps92
   go_wp2_with (first | ((with_reducible refine gate_callee (f := 141) rfl ?_); refine goesL_ (some 8) rfl rfl Tryz.func141 KR rfl #[.int .i64 a0] rfl TA ?_; (with_reducible refine (cmp_isNaN_int.calls a0 false _ A3.out).mono ?_); rintro e w' ⟨rfl, ⟨nd, rfl⟩⟩; refine ⟨_, rfl, ?_⟩) | ((with_reducible refine gate_callee (f := 141) rfl ?_); refine goesL_ (some 10) rfl rfl Tryz.func141 KR rfl #[.int .i64 a1] rfl TA ?_; (with_reducible refine (cmp_isNaN_int.calls a1 true _ A4.out).mono ?_); rintro e w' ⟨rfl, ⟨nd, rfl⟩⟩; refine ⟨_, rfl, ?_⟩))
   go_ret
   exact ⟨TF, TN⟩
  ·replace c7 := Bool.eq_false_iff.mpr c7
   subst c7
   replace H := iff' H
   by_cases c8 : a0 < a1
   ·rw [if_pos c8] at H
    have c8b0 : decide (a0 < a1) = true := decide_eq_true c8
    clear c8
    obtain rfl := Option.some.inj H
    go_enter Tryz.func92, Tryz.ntmps92
    go_wp2_with (first | ((with_reducible refine gate_callee (f := 141) rfl ?_); refine goesL_ (some 8) rfl rfl Tryz.func141 KR rfl #[.int .i64 a0] rfl TA ?_; (with_reducible refine (cmp_isNaN_int.calls a0 false _ A3.out).mono ?_); rintro e w' ⟨rfl, ⟨nd, rfl⟩⟩; refine ⟨_, rfl, ?_⟩) | ((with_reducible refine gate_callee (f := 141) rfl ?_); refine goesL_ (some 10) rfl rfl Tryz.func141 KR rfl #[.int .i64 a1] rfl TA ?_; (with_reducible refine (cmp_isNaN_int.calls a1 false _ A4.out).mono ?_); rintro e w' ⟨rfl, ⟨nd, rfl⟩⟩; refine ⟨_, rfl, ?_⟩))
    go_ret
    exact ⟨TF, TN⟩
   ·rw [if_neg c8] at H
    have c8b0 : decide (a0 < a1) = false := decide_eq_false c8
    clear c8
    by_cases c9 : a0 > a1
    ·rw [if_pos c9] at H
     have c9b0 : decide (a1 < a0) = true := decide_eq_true c9
     clear c9
     obtain rfl := Option.some.inj H
     go_enter Tryz.func92, Tryz.ntmps92
     go_wp2_with (first | ((with_reducible refine gate_callee (f := 141) rfl ?_); refine goesL_ (some 8) rfl rfl Tryz.func141 KR rfl #[.int .i64 a0] rfl TA ?_; (with_reducible refine (cmp_isNaN_int.calls a0 false _ A3.out).mono ?_); rintro e w' ⟨rfl, ⟨nd, rfl⟩⟩; refine ⟨_, rfl, ?_⟩) | ((with_reducible refine gate_callee (f := 141) rfl ?_); refine goesL_ (some 10) rfl rfl Tryz.func141 KR rfl #[.int .i64 a1] rfl TA ?_; (with_reducible refine (cmp_isNaN_int.calls a1 false _ A4.out).mono ?_); rintro e w' ⟨rfl, ⟨nd, rfl⟩⟩; refine ⟨_, rfl, ?_⟩))
     go_ret
     exact ⟨TF, TN⟩
    ·rw [if_neg c9] at H
     have c9b0 : decide (a1 < a0) = false := decide_eq_false c9
     clear c9
     obtain rfl := Option.some.inj H
     go_enter Tryz.func92, Tryz.ntmps92
     go_wp2_with (first | ((with_reducible refine gate_callee (f := 141) rfl ?_); refine goesL_ (some 8) rfl rfl Tryz.func141 KR rfl #[.int .i64 a0] rfl TA ?_; (with_reducible refine (cmp_isNaN_int.calls a0 false _ A3.out).mono ?_); rintro e w' ⟨rfl, ⟨nd, rfl⟩⟩; refine ⟨_, rfl, ?_⟩) | ((with_reducible refine gate_callee (f := 141) rfl ?_); refine goesL_ (some 10) rfl rfl Tryz.func141 KR rfl #[.int .i64 a1] rfl TA ?_; (with_reducible refine (cmp_isNaN_int.calls a1 false _ A4.out).mono ?_); rintro e w' ⟨rfl, ⟨nd, rfl⟩⟩; refine ⟨_, rfl, ?_⟩))
     go_ret
     exact ⟨TF, TN⟩
end
section
/-! ### cmp_Or_int: function 138 -/
def cmp_Or_int.l0 : Nat → Int → List Int → Int → Int → Option (Int)
 | 0, _, _, _, _ => none
 | k + 1, x3, x6, x7, x8 => if x8 < x7 then (if 0 ≤ x8 then (if x8 < (x6.length : Int) then (if (rd x6 x8) = x3 then (cmp_Or_int.l0 k x3 x6 x7 (wrap64 (x8 + 1))) else (some (rd x6 x8))) else (none)) else (none)) else (some x3)
def cmp_Or_int.f (k : Nat) (l0 : List Int) : Option (Int) := cmp_Or_int.l0 k 0 l0 (l0.length : Int) 0
theorem cmp_Or_int.calls (k : Nat) (A0 : Option Addr) (c0 : Nat) (l0 : List Int) (r : Int) (w : World) (hr0 : Kd.C (Kd.int .i64) w A0 l0.length l0) (hc0 : l0.length ≤ c0) (h : cmp_Or_int.f k l0 = some r) :
  Calls Tryz.prog 138 #[.slice A0 l0.length c0] w fun e w' => e = .returned (.int .i64 r) ∧ Drawn0 w w' := by
 have HR0 := Aside0.mk hr0
 have HC0 := Aside0.mk hc0
 clear hr0 hc0
 have H : (cmp_Or_int.l0 k 0 l0 (l0.length : Int) 0) = some r := h
 clear h
 have H' := Aside0.mk H
 clear H
 go_enter Tryz.func138, Tryz.ntmps138
 go_wp2
 go_loopg [8] k (fun kq v8 w' => ∃ (x8_1 : Int), v8 = .int .i64 x8_1 ∧ Aside0 (cmp_Or_int.l0 kq 0 l0 (l0.length : Int) x8_1 = some r) ∧ Aside0 (kq ≤ k) ∧ Drawn0 w w')
 case atStart => exact ⟨(0), TF, H', ⟨Nat.le_refl _⟩, TN⟩
 case round =>
  clear H'
  try clear c1
  obtain ⟨x8_1, rfl, HA, HK1, ⟨m1, rfl⟩⟩ := hrel
  cases gk with
  | zero => exact absurd HA.out (by simp [cmp_Or_int.l0])
  | succ k1 =>
   have H := HA.out
   clear HA
   simp only [cmp_Or_int.l0] at H
   by_cases c2 : x8_1 < (l0.length : Int)
   ·rw [if_pos c2] at H
    have c2b0 : decide (x8_1 < (l0.length : Int)) = true := decide_eq_true c2
    clear c2
    obtain ⟨c3, H⟩ := ifn H
    have c3b0 : decide (0 ≤ x8_1) = true := decide_eq_true c3
    clear c3
    obtain ⟨c4, H⟩ := ifn H
    have c4b0 : decide (x8_1 < (l0.length : Int)) = true := decide_eq_true c4
    clear c4
    by_cases c5 : (rd l0 x8_1) = 0
    ·rw [if_pos c5] at H
     have c5b0 : ((rd l0 x8_1) == 0) = true := beq_iff_eq.mpr c5
     have c5b1 : ((rd l0 x8_1) != 0) = false := bne_eq_false_iff_eq.mpr c5
     clear c5
     have H' := Aside0.mk H
     clear H
     have p364 : 0 ≤ (x8_1 : Int) := TD
     have q364 : x8_1 < (l0.length : Int) := TD
     obtain ⟨ad364, e364, hx364_0⟩ := Kd.at_int HR0.out x8_1 p364 q364
     cases e364
     replace p364 := eq_true p364
     replace q364 := eq_true q364
     go_wp2
     go_roundg k1
     case measure => have := HK1.out; omega
     case rel => exact ⟨(wrap64 (x8_1 + 1)), TF, H', ⟨TM⟩, TN⟩
    ·rw [if_neg c5] at H
     have c5b0 : ((rd l0 x8_1) == 0) = false := beq_eq_false_iff_ne.mpr c5
     have c5b1 : ((rd l0 x8_1) != 0) = true := bne_iff_ne.mpr c5
     obtain rfl := Option.some.inj H
     have p364 : 0 ≤ (x8_1 : Int) := TD
     have q364 : x8_1 < (l0.length : Int) := TD
     obtain ⟨ad364, e364, hx364_0⟩ := Kd.at_int HR0.out x8_1 p364 q364
     cases e364
     replace p364 := eq_true p364
     replace q364 := eq_true q364
     go_wp2
     go_ret
     exact ⟨TF, TN⟩
   ·rw [if_neg c2] at H
    have c2b0 : decide (x8_1 < (l0.length : Int)) = false := decide_eq_false c2
    clear c2
    obtain rfl := Option.some.inj H
    go_wp2
    go_ret
    exact ⟨TF, TN⟩
end
section
/-! ### slices_Reverse_string_string: function 171 -/
def slices_Reverse_string_string.l0 : Nat → List ByteArray → Int → Int → Option (List ByteArray)
 | 0, _, _, _ => none
 | k + 1, x0, x2, x3 => if x2 < x3 then (if 0 ≤ x3 then (if x3 < (x0.length : Int) then (if 0 ≤ x2 then (if x2 < (x0.length : Int) then (slices_Reverse_string_string.l0 k ((x0.set (x2 : Int).toNat (rdOf ByteArray.empty x0 x3)).set (x3 : Int).toNat (rdOf ByteArray.empty x0 x2)) (wrap64 (x2 + 1)) (wrap64 (x3 - 1))) else (none)) else (none)) else (none)) else (none)) else (some x0)
def slices_Reverse_string_string.f (k : Nat) (l0 : List ByteArray) : Option (List ByteArray) := slices_Reverse_string_string.l0 k l0 0 (wrap64 ((l0.length : Int) - 1))
def slices_Reverse_string_string.T3 : Bool × List (List Nat × List Nat) := (true, [([], []), ([], []), ([], []), ([], []), ([], []), ([], []), ([4, 5], [4, 5]), ([6], [6]), ([], []), ([], []), ([8, 9], [8, 9]), ([10], [10]), ([0, 1, 0, 1, 4, 5, 6, 7, 11], [0, 1]), ([12, 7, 0, 1, 4, 5, 6, 7, 11], [7, 12]), ([2, 3, 0, 1, 2, 3, 4, 5, 6, 7, 8, 9, 10, 11, 12, 13], [2, 3]), ([14, 11, 13, 0, 1, 2, 3, 4, 5, 6, 7, 8, 9, 10, 11, 12, 13], [11, 14])])
def slices_Reverse_string_string.B3 : List Nat := [0, 0, 0, 0, 0, 0, 48, 112, 0, 0, 768, 1792, 4083, 8179, 16383, 32767]
theorem slices_Reverse_string_string.tab3 : rtab .any (opsOf Tryz.f171 3) = slices_Reverse_string_string.T3 := by kernel_rfl
theorem slices_Reverse_string_string.bits3 : waitsOk slices_Reverse_string_string.T3.2 slices_Reverse_string_string.B3 = true := by kernel_rfl
theorem slices_Reverse_string_string.calls (k : Nat) (P0_ : Nat → Prop) (u9000_ : Value) (l0 : List ByteArray) (r : List ByteArray) (w0 w : World) (hB : Below w0.heap.size w0 w) (ho0 : Kd.R Kd.string 9 w w0.heap.size P0_ u9000_ l0) (h : slices_Reverse_string_string.f k l0 = some r) :
  Calls Tryz.prog 171 #[u9000_] w fun e w' => e = .returned (.tuple #[]) ∧ Kd.R Kd.string 9 w' w0.heap.size (fun k_ => (P0_ k_ ∨ w.heap.size ≤ k_)) u9000_ r ∧ Below w0.heap.size w0 w' ∧ Kept w w' (fun k_ => P0_ k_) := by
 have HO0 := Aside0.mk (show Kd.R Kd.string 9 w w0.heap.size (fun k_ => (P0_ k_ ∨ w.heap.size ≤ k_)) u9000_ l0 from Kd.R_mono ho0 (fun k_ hk => (.inl hk)))
 have HK := Aside0.mk (Kept.refl w (fun k_ => P0_ k_))
 have HW0 := Aside0.mk hB.size
 have HB := Aside0.mk hB
 clear hB
 have H : (slices_Reverse_string_string.l0 k l0 0 (wrap64 ((l0.length : Int) - 1))) = some r := h
 clear h
 have H' := Aside0.mk H
 clear H
 obtain ⟨Ao2, co2, eo2⟩ := Kd.R_slice HO0.out
 subst eo2
 go_enter Tryz.func171, Tryz.ntmps171
 go_wp2
 go_loopg [2, 3] k (fun kq v2 v3 w' => ∃ (x0_1 : List ByteArray) (x2_1 : Int) (x3_1 : Int), v2 = .int .i64 x2_1 ∧ v3 = .int .i64 x3_1 ∧ Aside0 (slices_Reverse_string_string.l0 kq x0_1 x2_1 x3_1 = some r) ∧ Aside0 (kq ≤ k) ∧ Aside0 (Kd.R Kd.string 9 w' w0.heap.size (fun k_ => (P0_ k_ ∨ w.heap.size ≤ k_)) (.slice Ao2 l0.length co2) x0_1) ∧ Aside0 (Kept w w' (fun k_ => P0_ k_)) ∧ Aside0 (Below w0.heap.size w0 w'))
 case atStart => exact ⟨(l0), (0), (wrap64 ((l0.length : Int) - 1)), TF, TF, H', ⟨Nat.le_refl _⟩, RW HO0, ⟨TK⟩, ⟨TB⟩⟩
 case round =>
  clear H'
  try clear c1
  try clear p2
  obtain ⟨x0_1, x2_1, x3_1, rfl, rfl, HA, HK1, HO_0, HK, HB⟩ := hrel
  have hl0_1 := (Kd.R_reads' HO_0.out).1
  rw [hl0_1] at HO_0
  (try simp only [hl0_1])
  cases gk with
  | zero => exact absurd HA.out (by simp [slices_Reverse_string_string.l0])
  | succ k1 =>
   have H := HA.out
   clear HA
   simp only [slices_Reverse_string_string.l0] at H
   by_cases c3 : x2_1 < x3_1
   ·rw [if_pos c3] at H
    have c3b0 : decide (x2_1 < x3_1) = true := decide_eq_true c3
    clear c3
    obtain ⟨c4, H⟩ := ifn H
    have c4b0 : decide (0 ≤ x3_1) = true := decide_eq_true c4
    clear c4
    obtain ⟨c5, H⟩ := ifn H
    have c5b0 : decide (x3_1 < (x0_1.length : Int)) = true := decide_eq_true c5
    clear c5
    obtain ⟨c6, H⟩ := ifn H
    have c6b0 : decide (0 ≤ x2_1) = true := decide_eq_true c6
    clear c6
    obtain ⟨c7, H⟩ := ifn H
    have c7b0 : decide (x2_1 < (x0_1.length : Int)) = true := decide_eq_true c7
    clear c7
    obtain ⟨y346, hy346⟩ : ∃ y_ : List ByteArray, y_ = (x0_1.set (x2_1 : Int).toNat (rdOf ByteArray.empty x0_1 x3_1)) := ⟨_, rfl⟩
    replace H : (slices_Reverse_string_string.l0 k1 (y346.set (x3_1 : Int).toNat (rdOf ByteArray.empty x0_1 x2_1)) (wrap64 (x2_1 + 1)) (wrap64 (x3_1 - 1))) = some r := by first | (rw [hy346]; with_reducible exact H) | (have H2_ := (Option.bind_some _ _).symm.trans H; rw [hy346]; with_reducible exact H2_) | (have H2_ := (Option.bind_some _ _).symm.trans H; with_reducible exact H2_) | with_reducible exact H | (rw [hy346]; exact H) | exact H
    have Ny346 := Aside0.mk hy346
    clear hy346
    obtain ⟨y347, hy347⟩ : ∃ y_ : List ByteArray, y_ = (y346.set (x3_1 : Int).toNat (rdOf ByteArray.empty x0_1 x2_1)) := ⟨_, rfl⟩
    replace H : (slices_Reverse_string_string.l0 k1 y347 (wrap64 (x2_1 + 1)) (wrap64 (x3_1 - 1))) = some r := by first | (rw [hy347]; with_reducible exact H) | (have H2_ := (Option.bind_some _ _).symm.trans H; rw [hy347]; with_reducible exact H2_) | (have H2_ := (Option.bind_some _ _).symm.trans H; with_reducible exact H2_) | with_reducible exact H | (rw [hy347]; exact H) | exact H
    have Ny347 := Aside0.mk hy347
    clear hy347
    have H' := Aside0.mk H
    clear H
    try go_wp2
    replace HO_0 := Aside0.mk (Kd.R_drew HO_0.out)
    replace HK := Aside0.mk (Kept.drew HK.out)
    replace HB := Aside0.mk (below_drew1 HB.out)
    have p344 : 0 ≤ (x3_1 : Int) := TD
    have q344 : x3_1 < (x0_1.length : Int) := TD
    obtain ⟨ad344, e344, hx344_0⟩ := Kd.at_string (Kd.R_reads' HO_0.out).2.2 x3_1 p344 q344
    cases e344
    replace p344 := eq_true p344
    replace q344 := eq_true q344
    have p345 : 0 ≤ (x2_1 : Int) := TD
    have q345 : x2_1 < (x0_1.length : Int) := TD
    obtain ⟨ad345, e345, hx345_0⟩ := Kd.at_string (Kd.R_reads' HO_0.out).2.2 x2_1 p345 q345
    obtain rfl : ad344 = ad345 := (by injection e345)
    replace p345 := eq_true p345
    replace q345 := eq_true q345
    have p8 : 0 ≤ (x2_1 : Int) := TD
    have q8 : (x2_1 : Int) < ((x0_1.length : Int) : Int) := TD
    obtain ⟨go8, co8, eo8, gb8, gl8, cl8, HG8⟩ := Kd.R_form HO_0.out (by omega)
    (first | cases eo8 | (injection eo8 with ea_ en_ ec_; (first | subst ea_ | (injection ea_ with ea_; subst ea_)); subst ec_; clear en_))
    have GB8 := Aside0.mk gb8
    have GG8 := Aside0.mk HG8
    clear gb8 gl8 HG8
    have HMgo8 := Aside0.mk (show (P0_ go8 ∨ w.heap.size ≤ go8) from (HO_0.out.1 _ rfl))
    (first | simp only [add_plain] at hx344_0 | skip)
    (first | simp only [add_plain] at hx345_0 | skip)
    obtain ⟨hx8_0, hf8_0⟩ := Kd.R_celln (⟨#[]⟩ : ByteArray) HO_0.out (x2_1 : Int) p8 q8
    replace p8 := eq_true p8
    replace q8 := eq_true q8
    have HP11 := Kd.R_putn HO_0.out (x2_1 : Int) (rdOf ByteArray.empty x0_1 x3_1)
    rw [← Ny346.out] at HP11
    have HQ11 := Aside0.mk HP11
    clear HP11
    have p9 : 0 ≤ (x3_1 : Int) := TD
    have q9 : (x3_1 : Int) < ((x0_1.length : Int) : Int) := TD
    obtain ⟨hx9_0, hf9_0⟩ := Kd.R_celln (⟨#[]⟩ : ByteArray) HQ11.out (x3_1 : Int) p9 q9
    replace p9 := eq_true p9
    replace q9 := eq_true q9
    have HP12 := Kd.R_putn HQ11.out (x3_1 : Int) (rdOf ByteArray.empty x0_1 x2_1)
    rw [← Ny347.out] at HP12
    have HQ12 := Aside0.mk HP12
    clear HP12
    refine start_ (n := 16) (S := fun w' => w'.cell? ⟨go8, (x3_1).toNat, none⟩ = some (.string (rdOf ByteArray.empty x0_1 x3_1)) ∧ w'.cell? ⟨go8, (x2_1).toNat, none⟩ = some (.string (rdOf ByteArray.empty x0_1 x2_1))) (ds := [13, 15]) #[false, false, false, false, false, false, false, false, false, false, false, false, false, false, false, false] KR rfl rfl ⟨hx344_0, hx345_0⟩ (fun hHeld => ?_); refine with_tabW slices_Reverse_string_string.tab3 slices_Reverse_string_string.bits3 (fun HT_ HW_ => ?_)
    generalize wr.drew = w10 at HO_0 HK HB GG8 HQ11 HQ12 hf8_0 hf9_0 hx344_0 hx345_0 hx8_0 hx9_0 hHeld ⊢
    refine pA 0 14 (mL 16 1) HT_ rfl rfl ?_
    refine pA 1 15 (mL 16 3) HT_ rfl rfl ?_
    refine pA 2 16 (mL 16 7) HT_ rfl rfl ?_
    refine pA 3 17 (mL 16 15) HT_ rfl rfl ?_
    refine pA 4 18 (mL 16 31) HT_ rfl rfl ?_
    refine pA 5 19 (mL 16 63) HT_ rfl rfl ?_
    refine pA 6 20 (mL 16 127) HT_ rfl rfl ?_
    refine pA 8 22 (mL 16 383) HT_ rfl rfl ?_
    refine pA 9 23 (mL 16 895) HT_ rfl rfl ?_
    refine pA 10 24 (mL 16 1919) HT_ rfl rfl ?_
    refine tA 7 21 (mL 16 2047) HT_ HW_ hHeld rfl rfl (by rintro w' ⟨s0, s1⟩; go_simp; with_reducible rfl) ?_
    refine tA 11 25 (mL 16 4095) HT_ HW_ hHeld rfl rfl (by rintro w' ⟨s0, s1⟩; go_simp; with_reducible rfl) ?_
    refine pA 12 26 (mL 16 8191) HT_ rfl rfl ?_
    refine last_ (i := 13) (N := none) (mL 16 16383) rfl rfl (one_of HT_.out KR) (by decide) (fun K hK => ?_)
    refine skip_ (w1 := ?_) (by rfl) rfl ?_ ?_
    rotate_left
    ·go_simp
     rfl
    refine hK.out _ _ ?_
    clear hK K
    refine pA 14 27 (mL 16 32767) HT_ rfl rfl ?_
    refine last_ (i := 15) (N := none) (mL 16 65535) rfl rfl (one_of HT_.out KR) (by decide) (fun K hK => ?_)
    refine skip_ (w1 := ?_) (by rfl) rfl ?_ ?_
    rotate_left
    ·go_simp
     rfl
    refine hK.out _ _ ?_
    clear hK K
    refine done_ (done_of HT_.out KR) ?_
    try go_wp2
    (try simp only [← hl0_1])
    go_roundg k1
    case measure => have := HK1.out; omega
    case rel => exact ⟨(y347), (wrap64 (x2_1 + 1)), (wrap64 (x3_1 - 1)), TF, TF, H', ⟨TM⟩, ⟨by (try simp only [hl0_1]); (with_reducible repeat (first | apply Kd.R_alloc | apply Kd.R_drewN | apply Kd.R_drew)); exact HQ12.out⟩, ⟨by repeat (first | (with_reducible first | exact HK.out | apply Kept.alloc | apply Kept.drewN | apply Kept.drew | refine Kept.setCell ?_ HMgo8.out _ | refine Kept.setCell ?_ HMgo8.out _) | exact HK.out)⟩, ⟨TB⟩⟩
   ·rw [if_neg c3] at H
    have c3b0 : decide (x2_1 < x3_1) = false := decide_eq_false c3
    clear c3
    obtain rfl := Option.some.inj H
    go_wp2
    first | go_end0 | ((try simp only [Exit.inBlock, Exit.then]); refine bodyPost_ret (results_none rfl _ _ _) rfl ?_)
    exact ⟨TE, (by first | exact (RW HO_0).out | (simp only [hl0_1]; exact (RW HO_0).out)), TB, TK⟩
end
section
/-! ### cmp_isNaN_string: function 222 -/
def cmp_isNaN_string.f (a0 : ByteArray) : Option (Bool) := some (a0.toList != a0.toList)
theorem cmp_isNaN_string.calls (a0 : ByteArray) (r : Bool) (w : World) (h : cmp_isNaN_string.f a0 = some r) :
  Calls Tryz.prog 222 #[.string a0] w fun e w' => e = .returned (.bool r) ∧ Drawn0 w w' := by
 have H : (some (a0.toList != a0.toList)) = some r := h
 clear h
 obtain rfl := Option.some.inj H
 go_enter Tryz.func222, Tryz.ntmps222
 go_wp2
 go_ret
 exact ⟨TF, TN⟩
end
section
/-! ### cmp_Compare_string: function 200 -/
def cmp_Compare_string.f (a0 : ByteArray) (a1 : ByteArray) : Option (Int) := (cmp_isNaN_string.f a0).bind fun t348 => ((cmp_isNaN_string.f a1).bind fun t349 => (if t348 = true then (if t349 = true then (some 0) else (some (-1))) else (if t349 = true then (some 1) else (if (Op.bytesLess a0.toList a1.toList) = true then (some (-1)) else (if a0.toList = a1.toList then (some 0) else (some 1))))))
theorem cmp_Compare_string.calls (a0 : ByteArray) (a1 : ByteArray) (r : Int) (w : World) (h : cmp_Compare_string.f a0 a1 = some r) :
  Calls Tryz.prog 200 #[.string a0, .string a1] w fun e w' => e = .returned (.int .i64 r) ∧ Drawn0 w w' := by
 have H : ((cmp_isNaN_string.f a0).bind fun t348 => ((cmp_isNaN_string.f a1).bind fun t349 => (if t348 = true then (if t349 = true then (some 0) else (some (-1))) else (if t349 = true then (some 1) else (if (Op.bytesLess a0.toList a1.toList) = true then (some (-1)) else (if a0.toList = a1.toList then (some 0) else (some 1))))))) = some r := h
 clear h
 obtain ⟨t348, A3, H⟩ := bnd H
 obtain ⟨t349, A4, H⟩ := bnd H
 by_cases c5 : t348 = true
 ·subst c5
  replace H := ift H
  by_cases c6 : t349 = true
  ·subst c6
   replace H := ift H
   obtain rfl := Option.some.inj H
   go_enter Tryz.func200, Tryz.ntmps200
   go_wp2_with (first | ((with_reducible refine gate_callee (f := 222) rfl ?_); refine goesL_ (some 8) rfl rfl Tryz.func222 KR rfl #[.string a0] rfl TA ?_; (with_reducible refine (cmp_isNaN_string.calls a0 true _ A3.out).mono ?_); rintro e w' ⟨rfl, ⟨nd, rfl⟩⟩; refine ⟨_, rfl, ?_⟩) | ((with_reducible refine gate_callee (f := 222) rfl ?_); refine goesL_ (some 10) rfl rfl Tryz.func222 KR rfl #[.string a1] rfl TA ?_; (with_reducible refine (cmp_isNaN_string.calls a1 true _ A4.out).mono ?_); rintro e w' ⟨rfl, ⟨nd, rfl⟩⟩; refine ⟨_, rfl, ?_⟩))
   go_ret
   exact ⟨TF, TN⟩
  ·replace c6 := Bool.eq_false_iff.mpr c6
   subst c6
   replace H := iff' H
   obtain rfl := Option.some.inj H
   go_enter Tryz.func200, Tryz.ntmps200
   go_wp2_with (first | ((with_reducible refine gate_callee (f := 222) rfl ?_); refine goesL_ (some 8) rfl rfl Tryz.func222 KR rfl #[.string a0] rfl TA ?_; (with_reducible refine (cmp_isNaN_string.calls a0 true _ A3.out).mono ?_); rintro e w' ⟨rfl, ⟨nd, rfl⟩⟩; refine ⟨_, rfl, ?_⟩) | ((with_reducible refine gate_callee (f := 222) rfl ?_); refine goesL_ (some 10) rfl rfl Tryz.func222 KR rfl #[.string a1] rfl TA ?_; (with_reducible refine (cmp_isNaN_string.calls a1 false _ A4.out).mono ?_); rintro e w' ⟨rfl, ⟨nd, rfl⟩⟩; refine ⟨_, rfl, ?_⟩))
   go_ret
   exact ⟨TF, TN⟩
 ·replace c5 := Bool.eq_false_iff.mpr c5
  subst c5
  replace H := iff' H
  by_cases c7 : t349 = true
  ·subst c7
   replace H := ift H
   obtain rfl := Option.some.inj H
   go_enter Tryz.func200, Tryz.ntmps200
   go_wp2_with (first | ((with_reducible refine gate_callee (f := 222) rfl ?_); refine goesL_ (some 8) rfl rfl Tryz.func222 KR rfl #[.string a0] rfl TA ?_; (with_reducible refine (cmp_isNaN_string.calls a0 false _ A3.out).mono ?_); rintro e w' ⟨rfl, ⟨nd, rfl⟩⟩; refine ⟨_, rfl, ?_⟩) | ((with_reducible refine gate_callee (f := 222) rfl ?_); refine goesL_ (some 10) rfl rfl Tryz.func222 KR rfl #[.string a1] rfl TA ?_; (with_reducible refine (cmp_isNaN_string.calls a1 true _ A4.out).mono ?_); rintro e w' ⟨rfl, ⟨nd, rfl⟩⟩; refine ⟨_, rfl, ?_⟩))
   go_ret
   exact ⟨TF, TN⟩
  ·replace c7 := Bool.eq_false_iff.mpr c7
   subst c7
   replace H := iff' H
   by_cases c8 : (Op.bytesLess a0.toList a1.toList) = true
   ·rw [if_pos c8] at H
    have c8b0 : (Op.bytesLess a0.toList a1.toList) = true := c8
    clear c8
    obtain rfl := Option.some.inj H
    go_enter Tryz.func200, Tryz.ntmps200
    go_wp2_with (first | ((with_reducible refine gate_callee (f := 222) rfl ?_); refine goesL_ (some 8) rfl rfl Tryz.func222 KR rfl #[.string a0] rfl TA ?_; (with_reducible refine (cmp_isNaN_string.calls a0 false _ A3.out).mono ?_); rintro e w' ⟨rfl, ⟨nd, rfl⟩⟩; refine ⟨_, rfl, ?_⟩) | ((with_reducible refine gate_callee (f := 222) rfl ?_); refine goesL_ (some 10) rfl rfl Tryz.func222 KR rfl #[.string a1] rfl TA ?_; (with_reducible refine (cmp_isNaN_string.calls a1 false _ A4.out).mono ?_); rintro e w' ⟨rfl, ⟨nd, rfl⟩⟩; refine ⟨_, rfl, ?_⟩))
    go_ret
    exact ⟨TF, TN⟩
   ·rw [if_neg c8] at H
    have c8b0 : (Op.bytesLess a0.toList a1.toList) = false := by simpa using c8
    clear c8
    by_cases c9 : a0.toList = a1.toList
    ·rw [if_pos c9] at H
     have c9b0 : (a0.toList == a1.toList) = true := beq_iff_eq.mpr c9
     have c9b1 : (a0.toList != a1.toList) = false := bne_eq_false_iff_eq.mpr c9
     clear c9
     obtain rfl := Option.some.inj H
     go_enter Tryz.func200, Tryz.ntmps200
     go_wp2_with (first | ((with_reducible refine gate_callee (f := 222) rfl ?_); refine goesL_ (some 8) rfl rfl Tryz.func222 KR rfl #[.string a0] rfl TA ?_; (with_reducible refine (cmp_isNaN_string.calls a0 false _ A3.out).mono ?_); rintro e w' ⟨rfl, ⟨nd, rfl⟩⟩; refine ⟨_, rfl, ?_⟩) | ((with_reducible refine gate_callee (f := 222) rfl ?_); refine goesL_ (some 10) rfl rfl Tryz.func222 KR rfl #[.string a1] rfl TA ?_; (with_reducible refine (cmp_isNaN_string.calls a1 false _ A4.out).mono ?_); rintro e w' ⟨rfl, ⟨nd, rfl⟩⟩; refine ⟨_, rfl, ?_⟩))
     go_ret
     exact ⟨TF, TN⟩
    ·rw [if_neg c9] at H
     have c9b0 : (a0.toList == a1.toList) = false := beq_eq_false_iff_ne.mpr c9
     have c9b1 : (a0.toList != a1.toList) = true := bne_iff_ne.mpr c9
     obtain rfl := Option.some.inj H
     go_enter Tryz.func200, Tryz.ntmps200
     go_wp2_with (first | ((with_reducible refine gate_callee (f := 222) rfl ?_); refine goesL_ (some 8) rfl rfl Tryz.func222 KR rfl #[.string a0] rfl TA ?_; (with_reducible refine (cmp_isNaN_string.calls a0 false _ A3.out).mono ?_); rintro e w' ⟨rfl, ⟨nd, rfl⟩⟩; refine ⟨_, rfl, ?_⟩) | ((with_reducible refine gate_callee (f := 222) rfl ?_); refine goesL_ (some 10) rfl rfl Tryz.func222 KR rfl #[.string a1] rfl TA ?_; (with_reducible refine (cmp_isNaN_string.calls a1 false _ A4.out).mono ?_); rintro e w' ⟨rfl, ⟨nd, rfl⟩⟩; refine ⟨_, rfl, ?_⟩))
     go_ret
     exact ⟨TF, TN⟩
end
section
/-! ### slices_Compare_string_string: function 172 -/
def slices_Compare_string_string.l0 : Nat → List ByteArray → List ByteArray → List ByteArray → Int → Int → Option (Int)
 | 0, _, _, _, _, _ => none
 | k + 1, x0, x1, x9, x10, x11 => if x11 < x10 then (if 0 ≤ x11 then (if x11 < (x9.length : Int) then (if x11 ≥ (x1.length : Int) then (some 1) else (if x11 < (x1.length : Int) then ((cmp_Compare_string.f (rdOf ByteArray.empty x9 x11) (rdOf ByteArray.empty x1 x11)).bind fun t352 => (if t352 = 0 then (slices_Compare_string_string.l0 k x0 x1 x9 x10 (wrap64 (x11 + 1))) else (some t352))) else (none))) else (none)) else (none)) else (if (x0.length : Int) < (x1.length : Int) then (some (-1)) else (some 0))
def slices_Compare_string_string.f (k : Nat) (l0 : List ByteArray) (l1 : List ByteArray) : Option (Int) := slices_Compare_string_string.l0 k l0 l1 l0 (l0.length : Int) 0
theorem slices_Compare_string_string.calls (k : Nat) (A0 : Option Addr) (c0 : Nat) (l0 : List ByteArray) (A1 : Option Addr) (c1 : Nat) (l1 : List ByteArray) (r : Int) (w : World) (hr0 : Kd.C Kd.string w A0 l0.length l0) (hc0 : l0.length ≤ c0) (hr1 : Kd.C Kd.string w A1 l1.length l1) (hc1 : l1.length ≤ c1) (h : slices_Compare_string_string.f k l0 l1 = some r) :
  Calls Tryz.prog 172 #[.slice A0 l0.length c0, .slice A1 l1.length c1] w fun e w' => e = .returned (.int .i64 r) ∧ Drawn0 w w' := by
 have HR0 := Aside0.mk hr0
 have HC0 := Aside0.mk hc0
 clear hr0 hc0
 have HR1 := Aside0.mk hr1
 have HC1 := Aside0.mk hc1
 clear hr1 hc1
 have H : (slices_Compare_string_string.l0 k l0 l1 l0 (l0.length : Int) 0) = some r := h
 clear h
 have H' := Aside0.mk H
 clear H
 go_enter Tryz.func172, Tryz.ntmps172
 go_wp2
 go_loopg [11] k (fun kq v11 w' => ∃ (x11_1 : Int), v11 = .int .i64 x11_1 ∧ Aside0 (slices_Compare_string_string.l0 kq l0 l1 l0 (l0.length : Int) x11_1 = some r) ∧ Aside0 (kq ≤ k) ∧ Drawn0 w w')
 case atStart => exact ⟨(0), TF, H', ⟨Nat.le_refl _⟩, TN⟩
 case round =>
  clear H'
  try clear c1
  try clear p2
  obtain ⟨x11_1, rfl, HA, HK1, ⟨m1, rfl⟩⟩ := hrel
  cases gk with
  | zero => exact absurd HA.out (by simp [slices_Compare_string_string.l0])
  | succ k1 =>
   have H := HA.out
   clear HA
   simp only [slices_Compare_string_string.l0] at H
   by_cases c3 : x11_1 < (l0.length : Int)
   ·rw [if_pos c3] at H
    have c3b0 : decide (x11_1 < (l0.length : Int)) = true := decide_eq_true c3
    clear c3
    obtain ⟨c4, H⟩ := ifn H
    have c4b0 : decide (0 ≤ x11_1) = true := decide_eq_true c4
    clear c4
    obtain ⟨c5, H⟩ := ifn H
    have c5b0 : decide (x11_1 < (l0.length : Int)) = true := decide_eq_true c5
    clear c5
    by_cases c6 : x11_1 ≥ (l1.length : Int)
    ·rw [if_pos c6] at H
     have c6b0 : decide ((l1.length : Int) ≤ x11_1) = true := decide_eq_true c6
     clear c6
     obtain rfl := Option.some.inj H
     have p350 : 0 ≤ (x11_1 : Int) := TD
     have q350 : x11_1 < (l0.length : Int) := TD
     obtain ⟨ad350, e350, hx350_0⟩ := Kd.at_string HR0.out x11_1 p350 q350
     cases e350
     replace p350 := eq_true p350
     replace q350 := eq_true q350
     go_wp2
     go_ret
     exact ⟨TF, TN⟩
    ·rw [if_neg c6] at H
     have c6b0 : decide ((l1.length : Int) ≤ x11_1) = false := decide_eq_false c6
     clear c6
     obtain ⟨c7, H⟩ := ifn H
     have c7b0 : decide (x11_1 < (l1.length : Int)) = true := decide_eq_true c7
     clear c7
     obtain ⟨t352, A8, H⟩ := bnd H
     by_cases c9 : t352 = 0
     ·rw [if_pos c9] at H
      have c9b0 : (t352 == 0) = true := beq_iff_eq.mpr c9
      have c9b1 : (t352 != 0) = false := bne_eq_false_iff_eq.mpr c9
      clear c9
      have H' := Aside0.mk H
      clear H
      have p350 : 0 ≤ (x11_1 : Int) := TD
      have q350 : x11_1 < (l0.length : Int) := TD
      obtain ⟨ad350, e350, hx350_0⟩ := Kd.at_string HR0.out x11_1 p350 q350
      cases e350
      replace p350 := eq_true p350
      replace q350 := eq_true q350
      have p351 : 0 ≤ (x11_1 : Int) := TD
      have q351 : x11_1 < (l1.length : Int) := TD
      obtain ⟨ad351, e351, hx351_0⟩ := Kd.at_string HR1.out x11_1 p351 q351
      cases e351
      replace p351 := eq_true p351
      replace q351 := eq_true q351
      go_wp2_with (first | ((with_reducible refine gate_callee (f := 200) rfl ?_); refine goesL_ (some 26) rfl rfl Tryz.func200 KR rfl #[.string (rdOf ByteArray.empty l0 x11_1), .string (rdOf ByteArray.empty l1 x11_1)] rfl TA ?_; (with_reducible refine (cmp_Compare_string.calls (rdOf ByteArray.empty l0 x11_1) (rdOf ByteArray.empty l1 x11_1) t352 _ A8.out).mono ?_); rintro e w' ⟨rfl, ⟨nd, rfl⟩⟩; refine ⟨_, rfl, ?_⟩))
      go_roundg k1
      case measure => have := HK1.out; omega
      case rel => exact ⟨(wrap64 (x11_1 + 1)), TF, H', ⟨TM⟩, TN⟩
     ·rw [if_neg c9] at H
      have c9b0 : (t352 == 0) = false := beq_eq_false_iff_ne.mpr c9
      have c9b1 : (t352 != 0) = true := bne_iff_ne.mpr c9
      obtain rfl := Option.some.inj H
      have p350 : 0 ≤ (x11_1 : Int) := TD
      have q350 : x11_1 < (l0.length : Int) := TD
      obtain ⟨ad350, e350, hx350_0⟩ := Kd.at_string HR0.out x11_1 p350 q350
      cases e350
      replace p350 := eq_true p350
      replace q350 := eq_true q350
      have p351 : 0 ≤ (x11_1 : Int) := TD
      have q351 : x11_1 < (l1.length : Int) := TD
      obtain ⟨ad351, e351, hx351_0⟩ := Kd.at_string HR1.out x11_1 p351 q351
      cases e351
      replace p351 := eq_true p351
      replace q351 := eq_true q351
      go_wp2_with (first | ((with_reducible refine gate_callee (f := 200) rfl ?_); refine goesL_ (some 26) rfl rfl Tryz.func200 KR rfl #[.string (rdOf ByteArray.empty l0 x11_1), .string (rdOf ByteArray.empty l1 x11_1)] rfl TA ?_; (with_reducible refine (cmp_Compare_string.calls (rdOf ByteArray.empty l0 x11_1) (rdOf ByteArray.empty l1 x11_1) t352 _ A8.out).mono ?_); rintro e w' ⟨rfl, ⟨nd, rfl⟩⟩; refine ⟨_, rfl, ?_⟩))
      go_ret
      exact ⟨TF, TN⟩
   ·rw [if_neg c3] at H
    have c3b0 : decide (x11_1 < (l0.length : Int)) = false := decide_eq_false c3
    clear c3
    by_cases c10 : (l0.length : Int) < (l1.length : Int)
    ·rw [if_pos c10] at H
     have c10b0 : decide ((l0.length : Int) < (l1.length : Int)) = true := decide_eq_true c10
     have c10b1 : decide (l0.length < l1.length) = true := decide_eq_true (Int.ofNat_lt.mp c10)
     clear c10
     obtain rfl := Option.some.inj H
     go_wp2
     go_ret
     exact ⟨TF, TN⟩
    ·rw [if_neg c10] at H
     have c10b0 : decide ((l0.length : Int) < (l1.length : Int)) = false := decide_eq_false c10
     have c10b1 : decide (l0.length < l1.length) = false := decide_eq_false (fun h => c10 (Int.ofNat_lt.mpr h))
     clear c10
     obtain rfl := Option.some.inj H
     go_wp2
     go_ret
     exact ⟨TF, TN⟩
end
section
/-! ### impl_compareNames: function 139 -/
def impl_compareNames.f (k : Nat) (a0 : ByteArray) (a1 : ByteArray) : Option (Int) := (impl_labelsOf.f k a0).bind fun t353 => ((impl_labelsOf.f k a1).bind fun t356 => ((slices_Reverse_string_string.f k t353).bind fun t359 => ((slices_Reverse_string_string.f k t356).bind fun t360 => ((slices_Compare_string_string.f k t359 t360).bind fun t361 => (some t361)))))
theorem impl_compareNames.calls (k : Nat) (a0 : ByteArray) (a1 : ByteArray) (r : Int) (w : World) (h : impl_compareNames.f k a0 a1 = some r) :
  Calls Tryz.prog 139 #[.string a0, .string a1] w fun e w' => e = .returned (.int .i64 r) ∧ Below w.heap.size w w' := by
 have HB := Aside0.mk (Below.refl w.heap.size w)
 have H : ((impl_labelsOf.f k a0).bind fun t353 => ((impl_labelsOf.f k a1).bind fun t356 => ((slices_Reverse_string_string.f k t353).bind fun t359 => ((slices_Reverse_string_string.f k t356).bind fun t360 => ((slices_Compare_string_string.f k t359 t360).bind fun t361 => (some t361)))))) = some r := h
 clear h
 obtain ⟨t353, A3, H⟩ := bnd H
 obtain ⟨t356, A4, H⟩ := bnd H
 obtain ⟨t359, A5, H⟩ := bnd H
 obtain ⟨t360, A6, H⟩ := bnd H
 obtain ⟨t361, A7, H⟩ := bnd H
 obtain rfl := Option.some.inj H
 go_enter Tryz.func139, Tryz.ntmps139
 go_wp2_with (first | ((with_reducible refine gate_callee (f := 128) rfl ?_); refine goesL_ (some 8) rfl rfl Tryz.func128 KR rfl #[.string a0] rfl TA ?_; (with_reducible refine (impl_labelsOf.calls k a0 t353 _ A3.out).mono ?_); rintro e w8 ⟨v354, rfl, ho0, hb⟩; refine ⟨_, rfl, ?_⟩; have HO355 := RL ho0; replace HB := BS hb; (try clear hb); (try clear hb2); (try clear hk); (try clear hi); (try clear ho0)) | ((with_reducible refine gate_callee (f := 128) rfl ?_); refine goesL_ (some 10) rfl rfl Tryz.func128 KR rfl #[.string a1] rfl TA ?_; (with_reducible refine (impl_labelsOf.calls k a1 t356 _ A4.out).mono ?_); rintro e w9 ⟨v357, rfl, ho0, hb⟩; refine ⟨_, rfl, ?_⟩; have HO358 := Aside0.mk (Kd.R_lower (Kd.R_new' ho0 (Kd.R_lt (RW HO355).out)) (below_size TB)); replace HO355 := Aside0.mk (Kd.R_elder' (RW HO355).out (Kd.R_base ho0) hb); replace HB := BS hb; (try clear hb); (try clear hb2); (try clear hk); (try clear hi); (try clear ho0); obtain ⟨Ao10, co10, eo10⟩ := Kd.R_slice HO355.out; subst eo10) | ((with_reducible refine gate_callee (f := 171) rfl ?_); refine goesL_ (some 12) rfl rfl Tryz.func171 KR rfl #[.slice Ao10 t353.length co10] rfl TA ?_; (with_reducible refine (slices_Reverse_string_string.calls k (fun k_ => some k_ = (.slice Ao10 t353.length co10 : Value).ownBlock) (.slice Ao10 t353.length co10) t353 t359 w _ ?side1 ?side2 A5.out).mono ?_); (case side1 => repeat (first | (with_reducible first | exact HB.out | apply below_alloc | apply pw_below_drewN | apply below_drew1) | exact HB.out)); (case side2 => exact Kd.R_tight rfl HO355.out); rintro e w11 ⟨rfl, hy0, hb, hkp⟩; refine ⟨_, rfl, ?_⟩; replace HO355 := Aside0.mk (Kd.R_reok rfl hy0 (fun k_ e_ => HO355.out.1 k_ e_)); replace HO358 := Aside0.mk (Kd.R_mono (ok' := fun k_ => some k_ ≠ (.slice Ao10 t353.length co10 : Value).ownBlock) (Kd.R_keptB (HO358.out) hkp (fun k_ hk_ hs_ => (hk_.2) hs_)) (fun k_ hk_ => hk_.1.2)); replace HB := Aside0.mk (hb); (try clear hb); (try clear hkp); (try clear hy0); obtain ⟨Ao12, co12, eo12⟩ := Kd.R_slice HO358.out; subst eo12) | ((with_reducible refine gate_callee (f := 171) rfl ?_); refine goesL_ (some 14) rfl rfl Tryz.func171 KR rfl #[.slice Ao12 t356.length co12] rfl TA ?_; (with_reducible refine (slices_Reverse_string_string.calls k (fun k_ => some k_ = (.slice Ao12 t356.length co12 : Value).ownBlock) (.slice Ao12 t356.length co12) t356 t360 w _ ?side1 ?side2 A6.out).mono ?_); (case side1 => repeat (first | (with_reducible first | exact HB.out | apply below_alloc | apply pw_below_drewN | apply below_drew1) | exact HB.out)); (case side2 => exact Kd.R_tight rfl HO358.out); rintro e w13 ⟨rfl, hy0, hb, hkp⟩; refine ⟨_, rfl, ?_⟩; replace HO355 := Aside0.mk (Kd.R_mono (ok' := fun k_ => some k_ ≠ (.slice Ao12 t356.length co12 : Value).ownBlock) (Kd.R_keptB (HO355.out) hkp (fun k_ hk_ hs_ => (hk_.2) hs_)) (fun k_ hk_ => hk_.1.2)); replace HO358 := Aside0.mk (Kd.R_reok rfl hy0 (fun k_ e_ => HO358.out.1 k_ e_)); replace HB := Aside0.mk (hb); (try clear hb); (try clear hkp); (try clear hy0)) | ((with_reducible refine gate_callee (f := 172) rfl ?_); refine goesL_ (some 17) rfl rfl Tryz.func172 KR rfl #[.slice Ao10 t359.length co10, .slice Ao12 t360.length co12] rfl (by (try simp only [List.map_toArray, List.map_cons, List.map_nil]); first | done | (rw [show t359.length = t353.length from (Kd.R_reads' HO355.out).1.symm, show t360.length = t356.length from (Kd.R_reads' HO358.out).1.symm] <;> rfl) | rfl | (simp only [List.length_drop, List.length_take]; rfl)) ?_; (with_reducible refine (slices_Compare_string_string.calls k _ _ t359 _ _ t360 t361 _ ?side1 ?side2 ?side3 ?side4 A7.out).mono ?_); (case side1 => exact CW ((Kd.R_reads' HO355.out).2.2)); (case side2 => rw [show t359.length = t353.length from (Kd.R_reads' HO355.out).1.symm]; exact (Kd.R_reads' HO355.out).2.1); (case side3 => exact CW ((Kd.R_reads' HO358.out).2.2)); (case side4 => rw [show t360.length = t356.length from (Kd.R_reads' HO358.out).1.symm]; exact (Kd.R_reads' HO358.out).2.1); rintro e w' ⟨rfl, ⟨nd, rfl⟩⟩; refine ⟨_, rfl, ?_⟩))
 go_ret
 exact ⟨TE, TB⟩
end
section
/-! ### impl_compareKeys: function 188 -/
def impl_compareKeys.f (k : Nat) (a0_0 : ByteArray) (a0_1 : Int) (a0_2 : Int) (a0_3 : ByteArray) (a1_0 : ByteArray) (a1_1 : Int) (a1_2 : Int) (a1_3 : ByteArray) : Option (Int) := (impl_compareNames.f k a0_0 a1_0).bind fun t367 => ((cmp_Compare_int.f a0_1 a1_1).bind fun t368 => ((cmp_Or_int.f k (([t367, t368] : List Int))).bind fun t372 => (some t372)))
def impl_compareKeys.T1 : Bool × List (List Nat × List Nat) := (true, [([], []), ([0], [0]), ([], []), ([2], [2]), ([1, 3], [1, 3]), ([], []), ([5], [5]), ([], []), ([7], [7]), ([6, 8, 4], [6, 8]), ([4, 9], [4, 9]), ([10, 9], [10]), ([11, 11, 0, 1, 2, 3, 4, 5, 6, 7, 8, 9, 10, 11], [11])])
def impl_compareKeys.B1 : List Nat := [0, 1, 0, 4, 15, 0, 32, 0, 128, 511, 1023, 2047, 4095]
theorem impl_compareKeys.tab1 : rtab .any (opsOf Tryz.f188 1) = impl_compareKeys.T1 := by kernel_rfl
theorem impl_compareKeys.bits1 : waitsOk impl_compareKeys.T1.2 impl_compareKeys.B1 = true := by kernel_rfl
theorem impl_compareKeys.calls (k : Nat) (a0_0 : ByteArray) (a0_1 : Int) (a0_2 : Int) (a0_3 : ByteArray) (a1_0 : ByteArray) (a1_1 : Int) (a1_2 : Int) (a1_3 : ByteArray) (r : Int) (w : World) (h : impl_compareKeys.f k a0_0 a0_1 a0_2 a0_3 a1_0 a1_1 a1_2 a1_3 = some r) :
  Calls Tryz.prog 188 #[.agg #[.string a0_0, .int .i64 a0_1, .int .i64 a0_2, .string a0_3], .agg #[.string a1_0, .int .i64 a1_1, .int .i64 a1_2, .string a1_3]] w fun e w' => e = .returned (.int .i64 r) ∧ Below w.heap.size w w' := by
 have hu93 := Tryz.underlying93
 have HB := Aside0.mk (Below.refl w.heap.size w)
 have H : ((impl_compareNames.f k a0_0 a1_0).bind fun t367 => ((cmp_Compare_int.f a0_1 a1_1).bind fun t368 => ((cmp_Or_int.f k (([t367, t368] : List Int))).bind fun t372 => (some t372)))) = some r := h
 clear h
 obtain ⟨t367, A3, H⟩ := bnd H
 obtain ⟨t368, A4, H⟩ := bnd H
 obtain ⟨y369, hy369⟩ : ∃ y_ : List Int, y_ = (([t367, t368] : List Int)) := ⟨_, rfl⟩
 replace H : ((cmp_Or_int.f k y369).bind fun t372 => (some t372)) = some r := by first | (rw [hy369]; with_reducible exact H) | (have H2_ := (Option.bind_some _ _).symm.trans H; rw [hy369]; with_reducible exact H2_) | (have H2_ := (Option.bind_some _ _).symm.trans H; with_reducible exact H2_) | with_reducible exact H | (rw [hy369]; exact H) | exact H
 have Ny369 := Aside0.mk hy369
 clear hy369
 obtain ⟨t372, A5, H⟩ := bnd H
 obtain rfl := Option.some.inj H
 go_enter Tryz.func188, Tryz.ntmps188
 try go_wp2_with (first | ((with_reducible refine gate_dst (N := 2) rfl ?_); refine bE 2 #[.string a0_0, .int .i64 a0_1, .int .i64 a0_2, .string a0_3] 93 ?_; intro gb365 hg w6 hbox hb; have BK365 := Aside0.mk (hbox); have GE365 := bG hg; replace HB := BS hb; clear hb hbox hg) | ((with_reducible refine gate_dst (N := 3) rfl ?_); refine bE 3 #[.string a1_0, .int .i64 a1_1, .int .i64 a1_2, .string a1_3] 93 ?_; intro gb366 hg w7 hbox hb; have BK366 := Aside0.mk (hbox); have GE366 := bG hg; replace HB := BS hb; have NB365_366 := bN BK365 hg; have NB366_365 := bM BK365 hg; replace BK365 := KB BK365 hb; clear hb hbox hg))
 replace BK365 := Aside0.mk (blk_drew BK365.out)
 replace BK366 := Aside0.mk (blk_drew BK366.out)
 replace HB := Aside0.mk (below_drew1 HB.out)
 refine start_ (n := 13) (S := fun w' => w'.cell? ⟨gb365, 0, none⟩ = some (.string a0_0) ∧ w'.cell? ⟨gb365, 1, none⟩ = some (.int .i64 a0_1) ∧ w'.cell? ⟨gb365, 2, none⟩ = some (.int .i64 a0_2) ∧ w'.cell? ⟨gb365, 3, none⟩ = some (.string a0_3) ∧ w'.cell? ⟨gb366, 0, none⟩ = some (.string a1_0) ∧ w'.cell? ⟨gb366, 1, none⟩ = some (.int .i64 a1_1) ∧ w'.cell? ⟨gb366, 2, none⟩ = some (.int .i64 a1_2) ∧ w'.cell? ⟨gb366, 3, none⟩ = some (.string a1_3)) (ds := []) #[false, false, false, false, false, false, false, false, false, false, false, false, false] KR rfl rfl ⟨bc 0 BK365, bc 1 BK365, bc 2 BK365, bc 3 BK365, bc 0 BK366, bc 1 BK366, bc 2 BK366, bc 3 BK366⟩ (fun hHeld => ?_); refine with_tabW impl_compareKeys.tab1 impl_compareKeys.bits1 (fun HT_ HW_ => ?_)
 generalize w7.drew = w8 at BK365 BK366 HB hHeld ⊢
 refine pA 0 5 (mL 13 1) HT_ rfl rfl ?_
 refine pA 2 7 (mL 13 5) HT_ rfl rfl ?_
 refine pA 5 10 (mL 13 37) HT_ rfl rfl ?_
 refine pA 7 12 (mL 13 165) HT_ rfl rfl ?_
 refine tA 1 6 (mL 13 167) HT_ HW_ hHeld rfl rfl (by rintro w' ⟨s0, s1, s2, s3, s4, s5, s6, s7⟩; go_simp; with_reducible rfl) ?_
 refine tA 3 8 (mL 13 175) HT_ HW_ hHeld rfl rfl (by rintro w' ⟨s0, s1, s2, s3, s4, s5, s6, s7⟩; go_simp; with_reducible rfl) ?_
 refine tA 6 11 (mL 13 239) HT_ HW_ hHeld rfl rfl (by rintro w' ⟨s0, s1, s2, s3, s4, s5, s6, s7⟩; go_simp; with_reducible rfl) ?_
 refine tA 8 13 (mL 13 495) HT_ HW_ hHeld rfl rfl (by rintro w' ⟨s0, s1, s2, s3, s4, s5, s6, s7⟩; go_simp; with_reducible rfl) ?_
 refine one_ (i := 4) (N := some 9) (mL 13 511) rfl rfl (one_of HT_.out KR) (by decide) (fun K hK => ?_)
 refine goes_ Tryz.func139 KR rfl #[.string a0_0, .string a1_0] (by rfl) rfl rfl TA ?_
 with_reducible refine (impl_compareNames.calls k a0_0 a1_0 t367 _ A3.out).mono ?_
 rintro e w9 ⟨rfl, hb⟩
 refine ⟨_, rfl, ?_⟩
 replace BK365 := KB BK365 hb
 replace BK366 := KB BK366 hb
 replace HB := BS hb
 (try clear hb)
 (try clear hb2)
 (try clear hk)
 (try clear hi)
 refine hK.out _ _ ⟨bc 0 BK365, bc 1 BK365, bc 2 BK365, bc 3 BK365, bc 0 BK366, bc 1 BK366, bc 2 BK366, bc 3 BK366⟩ (fun hHeld => ?_)
 clear hK K
 refine nA ?_
 refine one_ (i := 9) (N := some 14) (mL 13 1023) rfl rfl (one_of HT_.out KR) (by decide) (fun K hK => ?_)
 refine goes_ Tryz.func92 KR rfl #[.int .i64 a0_1, .int .i64 a1_1] (by rfl) rfl rfl TA ?_
 with_reducible refine (cmp_Compare_int.calls a0_1 a1_1 t368 _ A4.out).mono ?_
 rintro e w' ⟨rfl, ⟨nd, rfl⟩⟩
 refine ⟨_, rfl, ?_⟩
 refine hK.out _ _ ⟨bc 0 BK365, bc 1 BK365, bc 2 BK365, bc 3 BK365, bc 0 BK366, bc 1 BK366, bc 2 BK366, bc 3 BK366⟩ (fun hHeld => ?_)
 clear hK K
 refine nA ?_
 refine one_ (i := 10) (N := some 15) (mL 13 2047) rfl rfl (one_of HT_.out KR) (by decide) (fun K hK => ?_)
 refine Kd.R_lit_step (Kd.int .i64) _ 3 ?hg (N := 15) ?hd (xs := ([t367, t368] : List Int)) (inner := [.int .i64 t367, .int .i64 t368]) (ok := fun _ => True) (okp := fun _ => True) ?hr ?hp (fun _ hk => hk) trivial (Below.refl _ _) (Nat.le_refl _) (by simp) ?_; (case hd => rfl); (case hg => rfl); (case hr => first | (go_simp; done) | (go_simp; rfl)); (case hp => exact (Reps.one (show Kd.M (Kd.int .i64) _ _ _ t367 [.int .i64 t367] from rfl) (Reps.one (show Kd.M (Kd.int .i64) _ _ _ t368 [.int .i64 t368] from rfl) (Reps.none _ _))))
 intro v370 w10 ho11 hb hg_ hnew_
 clear hg_ hnew_
 (first | rw [← Ny369.out] at ho11 | (simp only [Int.reduceToNat] at ho11; rw [← Ny369.out] at ho11))
 have HO371 := RL ho11
 replace BK365 := KB BK365 hb
 replace BK366 := KB BK366 hb
 replace HB := BS hb
 clear hb ho11
 obtain ⟨Ao12, co12, eo12⟩ := Kd.R_slice HO371.out
 (first | subst eo12 | (injection eo12 with f1_ f2_ f3_; have f4_ := f1_.symm; have f5_ := f3_.symm; clear f1_ f2_ f3_; subst f4_; subst f5_))
 refine hK.out _ _ ⟨bc 0 BK365, bc 1 BK365, bc 2 BK365, bc 3 BK365, bc 0 BK366, bc 1 BK366, bc 2 BK366, bc 3 BK366⟩ (fun hHeld => ?_)
 clear hK K
 refine nA ?_
 refine one_ (i := 11) (N := some 16) (mL 13 4095) rfl rfl (one_of HT_.out KR) (by decide) (fun K hK => ?_)
 refine goes_ Tryz.func138 KR rfl #[.slice Ao12 y369.length co12] (by rfl) rfl rfl TA ?_
 with_reducible refine (cmp_Or_int.calls k _ _ y369 t372 _ ?side1 ?side2 A5.out).mono ?_
 (case side1 => exact CW ((Kd.R_reads' HO371.out).2.2))
 (case side2 => exact (Kd.R_reads' HO371.out).2.1)
 rintro e w' ⟨rfl, ⟨nd, rfl⟩⟩
 refine ⟨_, rfl, ?_⟩
 refine hK.out _ _ ⟨bc 0 BK365, bc 1 BK365, bc 2 BK365, bc 3 BK365, bc 0 BK366, bc 1 BK366, bc 2 BK366, bc 3 BK366⟩ (fun hHeld => ?_)
 clear hK K
 refine nA ?_
 refine pA 12 4 (mL 13 8191) HT_ rfl rfl ?_
 refine done_ (done_of HT_.out KR) ?_
 try go_wp2
 go_ret
 exact ⟨TE, TB⟩
end
section
/-! ### impl_dataBytes: function 190 -/
def impl_dataBytes.f (k : Nat) (a0 : Int) (a1 : ByteArray) : Option (ByteArray) := (impl_DataBytes.f k a0 a1).bind fun bt373 => (if bt373.2 = true then (some bt373.1) else (some (⟨#[]⟩ : ByteArray)))
theorem impl_dataBytes.calls (k : Nat) (a0 : Int) (a1 : ByteArray) (r : ByteArray) (w : World) (hG_ : Glob w) (h : impl_dataBytes.f k a0 a1 = some r) :
  Calls Tryz.prog 190 #[.int .i64 a0, .string a1] w fun e w' => e = .returned (.string r) ∧ Below w.heap.size w w' := by
 have HGL := Aside0.mk hG_
 clear hG_
 have HB := Aside0.mk (Below.refl w.heap.size w)
 have H : ((impl_DataBytes.f k a0 a1).bind fun bt373 => (if bt373.2 = true then (some bt373.1) else (some (⟨#[]⟩ : ByteArray)))) = some r := h
 clear h
 obtain ⟨⟨t373, t374⟩, A3, H⟩ := bnd H
 try dsimp only at H
 by_cases c4 : t374 = true
 ·subst c4
  replace H := ift H
  obtain rfl := Option.some.inj H
  go_enter Tryz.func190, Tryz.ntmps190
  go_wp2_with (first | ((with_reducible refine gate_callee (f := 187) rfl ?_); refine goesL_ (some 10) rfl rfl Tryz.func187 KR rfl #[.int .i64 a0, .string a1] rfl TA ?_; (with_reducible refine (impl_DataBytes.calls k a0 a1 t373 true _ ?side1 A3.out).mono ?_); (case side1 => exact GW HGL); rintro e w5 ⟨rfl, hb⟩; refine ⟨_, rfl, ?_⟩; replace HB := BS hb; (try clear hb); (try clear hb2); (try clear hk); (try clear hi)))
  go_ret
  exact ⟨TE, TB⟩
 ·replace c4 := Bool.eq_false_iff.mpr c4
  subst c4
  replace H := iff' H
  obtain rfl := Option.some.inj H
  go_enter Tryz.func190, Tryz.ntmps190
  go_wp2_with (first | ((with_reducible refine gate_callee (f := 187) rfl ?_); refine goesL_ (some 10) rfl rfl Tryz.func187 KR rfl #[.int .i64 a0, .string a1] rfl TA ?_; (with_reducible refine (impl_DataBytes.calls k a0 a1 t373 false _ ?side1 A3.out).mono ?_); (case side1 => exact GW HGL); rintro e w6 ⟨rfl, hb⟩; refine ⟨_, rfl, ?_⟩; replace HB := BS hb; (try clear hb); (try clear hb2); (try clear hk); (try clear hi)))
  go_ret
  exact ⟨TE, TB⟩
end
section
/-! ### strings_Compare: function 189 -/
def strings_Compare.f (a0 : ByteArray) (a1 : ByteArray) : Option (Int) := some (Go.Lib.compareBytes a0.data.toList a1.data.toList)
theorem strings_Compare.calls (a0 : ByteArray) (a1 : ByteArray) (r : Int) (w : World) (h : strings_Compare.f a0 a1 = some r) :
  Calls Tryz.prog 189 #[.string a0, .string a1] w fun e w' => e = .returned (.int .i64 r) ∧ Drawn0 w w' := by
 unfold strings_Compare.f at h
 obtain rfl := Option.some.inj h
 exact (Go.Proofs.Any.strings_Compare Go.Proofs.Tryz.lays106 a0 a1 w).mono fun e w' hh => ⟨hh.1, hh.2 ▸ Drawn0.refl _⟩
end
section
/-! ### impl_compareRecords: function 163 -/
def impl_compareRecords.f (k : Nat) (a0_0 : ByteArray) (a0_1 : Int) (a0_2 : Int) (a0_3 : ByteArray) (a1_0 : ByteArray) (a1_1 : Int) (a1_2 : Int) (a1_3 : ByteArray) : Option (Int) := (impl_compareKeys.f k a0_0 a0_1 a0_2 a0_3 a1_0 a1_1 a1_2 a1_3).bind fun t377 => ((impl_dataBytes.f k a0_1 a0_3).bind fun t378 => ((impl_dataBytes.f k a1_1 a1_3).bind fun t379 => ((strings_Compare.f t378 t379).bind fun t380 => ((cmp_Compare_int.f a0_2 a1_2).bind fun t381 => ((cmp_Or_int.f k (([t377, t380, t381] : List Int))).bind fun t385 => (some t385))))))
def impl_compareRecords.T1 : Bool × List (List Nat × List Nat) := (true, [([], []), ([], []), ([0, 1], [0, 1]), ([], []), ([3], [3]), ([], []), ([5], [5]), ([4, 6, 2], [4, 6]), ([], []), ([8], [8]), ([], []), ([10], [10]), ([9, 11, 7], [9, 11]), ([7, 12, 12], [7, 12]), ([], []), ([14], [14]), ([], []), ([16], [16]), ([15, 17, 13], [15, 17]), ([2, 13, 18], [2, 13, 18]), ([19, 18], [19]), ([20, 20, 0, 1, 2, 3, 4, 5, 6, 7, 8, 9, 10, 11, 12, 13, 14, 15, 16, 17, 18, 19, 20], [20])])
def impl_compareRecords.B1 : List Nat := [0, 0, 3, 0, 8, 0, 32, 127, 0, 256, 0, 1024, 4095, 8191, 0, 16384, 0, 65536, 262143, 524287, 1048575, 2097151]
theorem impl_compareRecords.tab1 : rtab .any (opsOf Tryz.f163 1) = impl_compareRecords.T1 := by kernel_rfl
theorem impl_compareRecords.bits1 : waitsOk impl_compareRecords.T1.2 impl_compareRecords.B1 = true := by kernel_rfl
theorem impl_compareRecords.calls (k : Nat) (a0_0 : ByteArray) (a0_1 : Int) (a0_2 : Int) (a0_3 : ByteArray) (a1_0 : ByteArray) (a1_1 : Int) (a1_2 : Int) (a1_3 : ByteArray) (r : Int) (w : World) (hG_ : Glob w) (h : impl_compareRecords.f k a0_0 a0_1 a0_2 a0_3 a1_0 a1_1 a1_2 a1_3 = some r) :
  Calls Tryz.prog 163 #[.agg #[.string a0_0, .int .i64 a0_1, .int .i64 a0_2, .string a0_3], .agg #[.string a1_0, .int .i64 a1_1, .int .i64 a1_2, .string a1_3]] w fun e w' => e = .returned (.int .i64 r) ∧ Below w.heap.size w w' := by
 have hu93 := Tryz.underlying93
 have HGL := Aside0.mk hG_
 clear hG_
 have HB := Aside0.mk (Below.refl w.heap.size w)
 have H : ((impl_compareKeys.f k a0_0 a0_1 a0_2 a0_3 a1_0 a1_1 a1_2 a1_3).bind fun t377 => ((impl_dataBytes.f k a0_1 a0_3).bind fun t378 => ((impl_dataBytes.f k a1_1 a1_3).bind fun t379 => ((strings_Compare.f t378 t379).bind fun t380 => ((cmp_Compare_int.f a0_2 a1_2).bind fun t381 => ((cmp_Or_int.f k (([t377, t380, t381] : List Int))).bind fun t385 => (some t385))))))) = some r := h
 clear h
 obtain ⟨t377, A3, H⟩ := bnd H
 obtain ⟨t378, A4, H⟩ := bnd H
 obtain ⟨t379, A5, H⟩ := bnd H
 obtain ⟨t380, A6, H⟩ := bnd H
 obtain ⟨t381, A7, H⟩ := bnd H
 obtain ⟨y382, hy382⟩ : ∃ y_ : List Int, y_ = (([t377, t380, t381] : List Int)) := ⟨_, rfl⟩
 replace H : ((cmp_Or_int.f k y382).bind fun t385 => (some t385)) = some r := by first | (rw [hy382]; with_reducible exact H) | (have H2_ := (Option.bind_some _ _).symm.trans H; rw [hy382]; with_reducible exact H2_) | (have H2_ := (Option.bind_some _ _).symm.trans H; with_reducible exact H2_) | with_reducible exact H | (rw [hy382]; exact H) | exact H
 have Ny382 := Aside0.mk hy382
 clear hy382
 obtain ⟨t385, A8, H⟩ := bnd H
 obtain rfl := Option.some.inj H
 go_enter Tryz.func163, Tryz.ntmps163
 try go_wp2_with (first | ((with_reducible refine gate_dst (N := 2) rfl ?_); refine bE 2 #[.string a0_0, .int .i64 a0_1, .int .i64 a0_2, .string a0_3] 93 ?_; intro gb375 hg w9 hbox hb; have BK375 := Aside0.mk (hbox); have GE375 := bG hg; replace HB := BS hb; clear hb hbox hg) | ((with_reducible refine gate_dst (N := 3) rfl ?_); refine bE 3 #[.string a1_0, .int .i64 a1_1, .int .i64 a1_2, .string a1_3] 93 ?_; intro gb376 hg w10 hbox hb; have BK376 := Aside0.mk (hbox); have GE376 := bG hg; replace HB := BS hb; have NB375_376 := bN BK375 hg; have NB376_375 := bM BK375 hg; replace BK375 := KB BK375 hb; clear hb hbox hg))
 replace BK375 := Aside0.mk (blk_drew BK375.out)
 replace BK376 := Aside0.mk (blk_drew BK376.out)
 replace HB := Aside0.mk (below_drew1 HB.out)
 refine start_ (n := 22) (S := fun w' => w'.cell? ⟨gb375, 0, none⟩ = some (.string a0_0) ∧ w'.cell? ⟨gb375, 1, none⟩ = some (.int .i64 a0_1) ∧ w'.cell? ⟨gb375, 2, none⟩ = some (.int .i64 a0_2) ∧ w'.cell? ⟨gb375, 3, none⟩ = some (.string a0_3) ∧ w'.cell? ⟨gb376, 0, none⟩ = some (.string a1_0) ∧ w'.cell? ⟨gb376, 1, none⟩ = some (.int .i64 a1_1) ∧ w'.cell? ⟨gb376, 2, none⟩ = some (.int .i64 a1_2) ∧ w'.cell? ⟨gb376, 3, none⟩ = some (.string a1_3)) (ds := []) #[false, false, false, false, false, false, false, false, false, false, false, false, false, false, false, false, false, false, false, false, false, false] KR rfl rfl ⟨bc 0 BK375, bc 1 BK375, bc 2 BK375, bc 3 BK375, bc 0 BK376, bc 1 BK376, bc 2 BK376, bc 3 BK376⟩ (fun hHeld => ?_); refine with_tabW impl_compareRecords.tab1 impl_compareRecords.bits1 (fun HT_ HW_ => ?_)
 generalize w10.drew = w11 at BK375 BK376 HB hHeld ⊢
 refine pA 3 8 (mL 22 8) HT_ rfl rfl ?_
 refine pA 5 10 (mL 22 40) HT_ rfl rfl ?_
 refine pA 8 13 (mL 22 296) HT_ rfl rfl ?_
 refine pA 10 15 (mL 22 1320) HT_ rfl rfl ?_
 refine pA 14 19 (mL 22 17704) HT_ rfl rfl ?_
 refine pA 16 21 (mL 22 83240) HT_ rfl rfl ?_
 refine tA 0 5 (mL 22 83241) HT_ HW_ hHeld rfl rfl (by rintro w' ⟨s0, s1, s2, s3, s4, s5, s6, s7⟩; go_simp; with_reducible rfl) ?_
 refine tA 1 6 (mL 22 83243) HT_ HW_ hHeld rfl rfl (by rintro w' ⟨s0, s1, s2, s3, s4, s5, s6, s7⟩; go_simp; with_reducible rfl) ?_
 refine tA 4 9 (mL 22 83259) HT_ HW_ hHeld rfl rfl (by rintro w' ⟨s0, s1, s2, s3, s4, s5, s6, s7⟩; go_simp; with_reducible rfl) ?_
 refine tA 6 11 (mL 22 83323) HT_ HW_ hHeld rfl rfl (by rintro w' ⟨s0, s1, s2, s3, s4, s5, s6, s7⟩; go_simp; with_reducible rfl) ?_
 refine tA 9 14 (mL 22 83835) HT_ HW_ hHeld rfl rfl (by rintro w' ⟨s0, s1, s2, s3, s4, s5, s6, s7⟩; go_simp; with_reducible rfl) ?_
 refine tA 11 16 (mL 22 85883) HT_ HW_ hHeld rfl rfl (by rintro w' ⟨s0, s1, s2, s3, s4, s5, s6, s7⟩; go_simp; with_reducible rfl) ?_
 refine tA 15 20 (mL 22 118651) HT_ HW_ hHeld rfl rfl (by rintro w' ⟨s0, s1, s2, s3, s4, s5, s6, s7⟩; go_simp; with_reducible rfl) ?_
 refine tA 17 22 (mL 22 249723) HT_ HW_ hHeld rfl rfl (by rintro w' ⟨s0, s1, s2, s3, s4, s5, s6, s7⟩; go_simp; with_reducible rfl) ?_
 refine one_ (i := 2) (N := some 7) (mL 22 249727) rfl rfl (one_of HT_.out KR) (by decide) (fun K hK => ?_)
 refine goes_ Tryz.func188 KR rfl #[.agg #[.string a0_0, .int .i64 a0_1, .int .i64 a0_2, .string a0_3], .agg #[.string a1_0, .int .i64 a1_1, .int .i64 a1_2, .string a1_3]] (by rfl) rfl rfl TA ?_
 with_reducible refine (impl_compareKeys.calls k a0_0 a0_1 a0_2 a0_3 a1_0 a1_1 a1_2 a1_3 t377 _ A3.out).mono ?_
 rintro e w12 ⟨rfl, hb⟩
 refine ⟨_, rfl, ?_⟩
 replace BK375 := KB BK375 hb
 replace BK376 := KB BK376 hb
 replace HB := BS hb
 (try clear hb)
 (try clear hb2)
 (try clear hk)
 (try clear hi)
 refine hK.out _ _ ⟨bc 0 BK375, bc 1 BK375, bc 2 BK375, bc 3 BK375, bc 0 BK376, bc 1 BK376, bc 2 BK376, bc 3 BK376⟩ (fun hHeld => ?_)
 clear hK K
 refine nA ?_
 refine one_ (i := 7) (N := some 12) (mL 22 249855) rfl rfl (one_of HT_.out KR) (by decide) (fun K hK => ?_)
 refine goes_ Tryz.func190 KR rfl #[.int .i64 a0_1, .string a0_3] (by rfl) rfl rfl TA ?_
 with_reducible refine (impl_dataBytes.calls k a0_1 a0_3 t378 _ ?side1 A4.out).mono ?_
 (case side1 => exact GW HGL)
 rintro e w13 ⟨rfl, hb⟩
 refine ⟨_, rfl, ?_⟩
 replace BK375 := KB BK375 hb
 replace BK376 := KB BK376 hb
 replace HB := BS hb
 (try clear hb)
 (try clear hb2)
 (try clear hk)
 (try clear hi)
 refine hK.out _ _ ⟨bc 0 BK375, bc 1 BK375, bc 2 BK375, bc 3 BK375, bc 0 BK376, bc 1 BK376, bc 2 BK376, bc 3 BK376⟩ (fun hHeld => ?_)
 clear hK K
 refine nA ?_
 refine one_ (i := 12) (N := some 17) (mL 22 253951) rfl rfl (one_of HT_.out KR) (by decide) (fun K hK => ?_)
 refine goes_ Tryz.func190 KR rfl #[.int .i64 a1_1, .string a1_3] (by rfl) rfl rfl TA ?_
 with_reducible refine (impl_dataBytes.calls k a1_1 a1_3 t379 _ ?side1 A5.out).mono ?_
 (case side1 => exact GW HGL)
 rintro e w14 ⟨rfl, hb⟩
 refine ⟨_, rfl, ?_⟩
 replace BK375 := KB BK375 hb
 replace BK376 := KB BK376 hb
 replace HB := BS hb
 (try clear hb)
 (try clear hb2)
 (try clear hk)
 (try clear hi)
 refine hK.out _ _ ⟨bc 0 BK375, bc 1 BK375, bc 2 BK375, bc 3 BK375, bc 0 BK376, bc 1 BK376, bc 2 BK376, bc 3 BK376⟩ (fun hHeld => ?_)
 clear hK K
 refine nA ?_
 refine one_ (i := 13) (N := some 18) (mL 22 262143) rfl rfl (one_of HT_.out KR) (by decide) (fun K hK => ?_)
 refine goes_ Tryz.func189 KR rfl #[.string t378, .string t379] (by rfl) rfl rfl TA ?_
 with_reducible refine (strings_Compare.calls t378 t379 t380 _ A6.out).mono ?_
 rintro e w' ⟨rfl, ⟨nd, rfl⟩⟩
 refine ⟨_, rfl, ?_⟩
 refine hK.out _ _ ⟨bc 0 BK375, bc 1 BK375, bc 2 BK375, bc 3 BK375, bc 0 BK376, bc 1 BK376, bc 2 BK376, bc 3 BK376⟩ (fun hHeld => ?_)
 clear hK K
 refine nA ?_
 refine one_ (i := 18) (N := some 23) (mL 22 524287) rfl rfl (one_of HT_.out KR) (by decide) (fun K hK => ?_)
 refine goes_ Tryz.func92 KR rfl #[.int .i64 a0_2, .int .i64 a1_2] (by rfl) rfl rfl TA ?_
 with_reducible refine (cmp_Compare_int.calls a0_2 a1_2 t381 _ A7.out).mono ?_
 rintro e w' ⟨rfl, ⟨nd, rfl⟩⟩
 refine ⟨_, rfl, ?_⟩
 refine hK.out _ _ ⟨bc 0 BK375, bc 1 BK375, bc 2 BK375, bc 3 BK375, bc 0 BK376, bc 1 BK376, bc 2 BK376, bc 3 BK376⟩ (fun hHeld => ?_)
 clear hK K
 refine nA ?_
 refine one_ (i := 19) (N := some 24) (mL 22 1048575) rfl rfl (one_of HT_.out KR) (by decide) (fun K hK => ?_)
 refine Kd.R_lit_step (Kd.int .i64) _ 3 ?hg (N := 24) ?hd (xs := ([t377, t380, t381] : List Int)) (inner := [.int .i64 t377, .int .i64 t380, .int .i64 t381]) (ok := fun _ => True) (okp := fun _ => True) ?hr ?hp (fun _ hk => hk) trivial (Below.refl _ _) (Nat.le_refl _) (by simp) ?_; (case hd => rfl); (case hg => rfl); (case hr => first | (go_simp; done) | (go_simp; rfl)); (case hp => exact (Reps.one (show Kd.M (Kd.int .i64) _ _ _ t377 [.int .i64 t377] from rfl) (Reps.one (show Kd.M (Kd.int .i64) _ _ _ t380 [.int .i64 t380] from rfl) (Reps.one (show Kd.M (Kd.int .i64) _ _ _ t381 [.int .i64 t381] from rfl) (Reps.none _ _)))))
 intro v383 w15 ho16 hb hg_ hnew_
 clear hg_ hnew_
 (first | rw [← Ny382.out] at ho16 | (simp only [Int.reduceToNat] at ho16; rw [← Ny382.out] at ho16))
 have HO384 := RL ho16
 replace BK375 := KB BK375 hb
 replace BK376 := KB BK376 hb
 replace HB := BS hb
 clear hb ho16
 obtain ⟨Ao17, co17, eo17⟩ := Kd.R_slice HO384.out
 (first | subst eo17 | (injection eo17 with f1_ f2_ f3_; have f4_ := f1_.symm; have f5_ := f3_.symm; clear f1_ f2_ f3_; subst f4_; subst f5_))
 refine hK.out _ _ ⟨bc 0 BK375, bc 1 BK375, bc 2 BK375, bc 3 BK375, bc 0 BK376, bc 1 BK376, bc 2 BK376, bc 3 BK376⟩ (fun hHeld => ?_)
 clear hK K
 refine nA ?_
 refine one_ (i := 20) (N := some 25) (mL 22 2097151) rfl rfl (one_of HT_.out KR) (by decide) (fun K hK => ?_)
 refine goes_ Tryz.func138 KR rfl #[.slice Ao17 y382.length co17] (by rfl) rfl rfl TA ?_
 with_reducible refine (cmp_Or_int.calls k _ _ y382 t385 _ ?side1 ?side2 A8.out).mono ?_
 (case side1 => exact CW ((Kd.R_reads' HO384.out).2.2))
 (case side2 => exact (Kd.R_reads' HO384.out).2.1)
 rintro e w' ⟨rfl, ⟨nd, rfl⟩⟩
 refine ⟨_, rfl, ?_⟩
 refine hK.out _ _ ⟨bc 0 BK375, bc 1 BK375, bc 2 BK375, bc 3 BK375, bc 0 BK376, bc 1 BK376, bc 2 BK376, bc 3 BK376⟩ (fun hHeld => ?_)
 clear hK K
 refine nA ?_
 refine pA 21 4 (mL 22 4194303) HT_ rfl rfl ?_
 refine done_ (done_of HT_.out KR) ?_
 try go_wp2
 go_ret
 exact ⟨TE, TB⟩
end
section
/-! ### impl_areRising: function 121 -/
def impl_areRising.l0 : Nat → List (S_Record) → List (S_Record) → Int → Int → Option (Bool)
 | 0, _, _, _, _ => none
 | k + 1, x0, x5, x6, x7 => if x7 < x6 then (if 0 ≤ x7 then (if x7 < (x5.length : Int) then ((impl_GoodRecord.f k ((rd_TRecord x5 x7).f0) ((rd_TRecord x5 x7).f1) ((rd_TRecord x5 x7).f2) ((rd_TRecord x5 x7).f3)).bind fun t388 => (if t388 = true then (if x7 > 0 then (if 0 ≤ (wrap64 (x7 - 1)) then (if (wrap64 (x7 - 1)) < (x0.length : Int) then ((impl_compareRecords.f k ((rd_TRecord x0 (wrap64 (x7 - 1))).f0) ((rd_TRecord x0 (wrap64 (x7 - 1))).f1) ((rd_TRecord x0 (wrap64 (x7 - 1))).f2) ((rd_TRecord x0 (wrap64 (x7 - 1))).f3) ((rd_TRecord x5 x7).f0) ((rd_TRecord x5 x7).f1) ((rd_TRecord x5 x7).f2) ((rd_TRecord x5 x7).f3)).bind fun t390 => (if t390 ≥ 0 then (some false) else (impl_areRising.l0 k x0 x5 x6 (wrap64 (x7 + 1))))) else (none)) else (none)) else (impl_areRising.l0 k x0 x5 x6 (wrap64 (x7 + 1)))) else (some false))) else (none)) else (none)) else (some true)
def impl_areRising.f (k : Nat) (l0 : List (S_Record)) : Option (Bool) := impl_areRising.l0 k l0 l0 (l0.length : Int) 0
def impl_areRising.T4 : Bool × List (List Nat × List Nat) := (true, [([], []), ([0], [0]), ([1], [1]), ([2, 1], [2]), ([3], [3]), ([4, 3], [3, 4]), ([5, 3, 3], [3, 5]), ([6], [6]), ([6], [6]), ([8, 6], [6, 8]), ([7, 9, 6], [6, 7, 9]), ([10, 6], [6, 10]), ([6], [6]), ([11, 12, 6, 6], [6, 11, 12]), ([13, 6], [6, 13]), ([6, 14, 3], [3, 6, 14]), ([3, 15], [3, 15])])
def impl_areRising.B4 : List Nat := [0, 1, 3, 7, 15, 31, 63, 127, 127, 383, 1023, 2047, 127, 8191, 16383, 32767, 65535]
theorem impl_areRising.tab4 : rtab .any (opsOf Tryz.f121 4) = impl_areRising.T4 := by kernel_rfl
theorem impl_areRising.bits4 : waitsOk impl_areRising.T4.2 impl_areRising.B4 = true := by kernel_rfl
theorem impl_areRising.calls (k : Nat) (A0 : Option Addr) (c0 : Nat) (l0 : List (S_Record)) (r : Bool) (w : World) (hr0 : Kd.C k_Record w A0 l0.length l0) (hc0 : l0.length ≤ c0) (hG_ : Glob w) (h : impl_areRising.f k l0 = some r) :
  Calls Tryz.prog 121 #[.slice A0 l0.length c0] w fun e w' => e = .returned (.bool r) ∧ Below w.heap.size w w' := by
 have hu93 := Tryz.underlying93
 have HR0 := Aside0.mk hr0
 have HC0 := Aside0.mk hc0
 clear hr0 hc0
 have HGL := Aside0.mk hG_
 clear hG_
 have HB := Aside0.mk (Below.refl w.heap.size w)
 have H : (impl_areRising.l0 k l0 l0 (l0.length : Int) 0) = some r := h
 clear h
 have H' := Aside0.mk H
 clear H
 go_enter Tryz.func121, Tryz.ntmps121
 go_wp2
 go_loopg [7] k (fun kq v7 w' => ∃ (x7_1 : Int), v7 = .int .i64 x7_1 ∧ Aside0 (impl_areRising.l0 kq l0 l0 (l0.length : Int) x7_1 = some r) ∧ Aside0 (kq ≤ k) ∧ Aside0 (Below w.heap.size w w'))
 case atStart => exact ⟨(0), TF, H', ⟨Nat.le_refl _⟩, ⟨TB⟩⟩
 case round =>
  clear H'
  try clear c1
  obtain ⟨x7_1, rfl, HA, HK1, HB⟩ := hrel
  cases gk with
  | zero => exact absurd HA.out (by simp [impl_areRising.l0])
  | succ k1 =>
   have H := HA.out
   clear HA
   simp only [impl_areRising.l0] at H
   by_cases c2 : x7_1 < (l0.length : Int)
   ·rw [if_pos c2] at H
    have c2b0 : decide (x7_1 < (l0.length : Int)) = true := decide_eq_true c2
    clear c2
    obtain ⟨c3, H⟩ := ifn H
    have c3b0 : decide (0 ≤ x7_1) = true := decide_eq_true c3
    clear c3
    obtain ⟨c4, H⟩ := ifn H
    have c4b0 : decide (x7_1 < (l0.length : Int)) = true := decide_eq_true c4
    clear c4
    obtain ⟨t388, A5, H⟩ := bnd H
    by_cases c6 : t388 = true
    ·subst c6
     replace H := ift H
     by_cases c7 : x7_1 > 0
     ·rw [if_pos c7] at H
      have c7b0 : decide (0 < x7_1) = true := decide_eq_true c7
      clear c7
      obtain ⟨ji8, hji8⟩ : ∃ j_ : Int, (wrap64 (x7_1 - 1)) = j_ := ⟨_, rfl⟩
      replace H : (if 0 ≤ (ji8) then (if (ji8) < (l0.length : Int) then ((impl_compareRecords.f k1 ((rd_TRecord l0 (ji8)).f0) ((rd_TRecord l0 (ji8)).f1) ((rd_TRecord l0 (ji8)).f2) ((rd_TRecord l0 (ji8)).f3) ((rd_TRecord l0 x7_1).f0) ((rd_TRecord l0 x7_1).f1) ((rd_TRecord l0 x7_1).f2) ((rd_TRecord l0 x7_1).f3)).bind fun t390 => (if t390 ≥ 0 then (some false) else (impl_areRising.l0 k1 l0 l0 (l0.length : Int) (wrap64 (x7_1 + 1))))) else (none)) else (none)) = some r := by first | (rw [hji8] at H; exact H) | (simp only [hji8] at H ⊢; exact H)
      (try rw [hji8] at A5)
      have hji8w : (IntKind.i64.wrap (x7_1 - 1)) = ji8 := (i64_w _).trans hji8
      obtain ⟨c9, H⟩ := ifn H
      have c9b0 : decide (0 ≤ (ji8)) = true := decide_eq_true c9
      clear c9
      obtain ⟨c10, H⟩ := ifn H
      have c10b0 : decide ((ji8) < (l0.length : Int)) = true := decide_eq_true c10
      clear c10
      obtain ⟨t390, A11, H⟩ := bnd H
      by_cases c12 : t390 ≥ 0
      ·rw [if_pos c12] at H
       have c12b0 : decide (0 ≤ t390) = true := decide_eq_true c12
       clear c12
       obtain rfl := Option.some.inj H
       have p386 : 0 ≤ (x7_1 : Int) := TD
       have q386 : x7_1 < (l0.length : Int) := TD
       obtain ⟨ad386, e386, hx386_0, hx386_1, hx386_2, hx386_3⟩ := at_TRecord (Kd.C_below HR0.out HB.out) x7_1 p386 q386
       cases e386
       replace p386 := eq_true p386
       replace q386 := eq_true q386
       try go_wp2_with (first | ((with_reducible refine gate_dst (N := 4) rfl ?_); refine bE 4 #[.string (⟨#[]⟩ : ByteArray), .int .i64 0, .int .i64 0, .string (⟨#[]⟩ : ByteArray)] 93 ?_; intro gb387 hg w13 hbox hb; have BK387 := Aside0.mk (hbox); have GE387 := bG hg; replace HB := BS hb; clear hb hbox hg; have hcz14 := cz4 BK387))
       have n0_ : Aside0 (((((w13.setCell ⟨gb387, 0, none⟩ (.string ((rd_TRecord l0 x7_1).f0))).setCell ⟨gb387, 1, none⟩ (.int .i64 ((rd_TRecord l0 x7_1).f1))).setCell ⟨gb387, 2, none⟩ (.int .i64 ((rd_TRecord l0 x7_1).f2))).setCell ⟨gb387, 3, none⟩ (.string ((rd_TRecord l0 x7_1).f3))).heap[gb387]? = some (.cells #[.string ((rd_TRecord l0 x7_1).f0), .int .i64 ((rd_TRecord l0 x7_1).f1), .int .i64 ((rd_TRecord l0 x7_1).f2), .string ((rd_TRecord l0 x7_1).f3)] 93 (0, 0))) := ⟨TS⟩
       have n1_ : Aside0 (Below w.heap.size w ((((w13.setCell ⟨gb387, 0, none⟩ (.string ((rd_TRecord l0 x7_1).f0))).setCell ⟨gb387, 1, none⟩ (.int .i64 ((rd_TRecord l0 x7_1).f1))).setCell ⟨gb387, 2, none⟩ (.int .i64 ((rd_TRecord l0 x7_1).f2))).setCell ⟨gb387, 3, none⟩ (.string ((rd_TRecord l0 x7_1).f3)))) := ⟨TB⟩
       (try clear BK387)
       (try clear HB)
       generalize ((((w13.setCell ⟨gb387, 0, none⟩ (.string ((rd_TRecord l0 x7_1).f0))).setCell ⟨gb387, 1, none⟩ (.int .i64 ((rd_TRecord l0 x7_1).f1))).setCell ⟨gb387, 2, none⟩ (.int .i64 ((rd_TRecord l0 x7_1).f2))).setCell ⟨gb387, 3, none⟩ (.string ((rd_TRecord l0 x7_1).f3))) = w15 at n0_ n1_ ⊢
       have BK387 := n0_
       have HB := n1_
       clear n0_ n1_
       replace BK387 := Aside0.mk (blk_drew BK387.out)
       replace HB := Aside0.mk (below_drew1 HB.out)
       have p389 : 0 ≤ ((ji8) : Int) := TD
       have q389 : (ji8) < (l0.length : Int) := TD
       obtain ⟨ad389, e389, hx389_0, hx389_1, hx389_2, hx389_3⟩ := at_TRecord HR0.out (ji8) p389 q389
       have hw389_3 := hx389_3
       have hw389_2 := hx389_2
       have hw389_1 := hx389_1
       have hw389_0 := hx389_0
       obtain rfl : ad386 = ad389 := (by injection e389)
       replace hx389_0 := hBc HB hx389_0
       replace hx389_1 := hBc HB hx389_1
       replace hx389_2 := hBc HB hx389_2
       replace hx389_3 := hBc HB hx389_3
       replace p389 := eq_true p389
       replace q389 := eq_true q389
       refine start_ (n := 17) (S := fun w' => w'.cell? ⟨gb387, 0, none⟩ = some (.string ((rd_TRecord l0 x7_1).f0)) ∧ w'.cell? ⟨gb387, 1, none⟩ = some (.int .i64 ((rd_TRecord l0 x7_1).f1)) ∧ w'.cell? ⟨gb387, 2, none⟩ = some (.int .i64 ((rd_TRecord l0 x7_1).f2)) ∧ w'.cell? ⟨gb387, 3, none⟩ = some (.string ((rd_TRecord l0 x7_1).f3)) ∧ w'.cell? (ad386.add (((ji8)).toNat * 4)) = some (.string ((rd_TRecord l0 (ji8)).f0)) ∧ w'.cell? ⟨(ad386.add (((ji8)).toNat * 4)).block, (ad386.add (((ji8)).toNat * 4)).off + 1, none⟩ = some (.int .i64 ((rd_TRecord l0 (ji8)).f1)) ∧ w'.cell? ⟨(ad386.add (((ji8)).toNat * 4)).block, (ad386.add (((ji8)).toNat * 4)).off + 2, none⟩ = some (.int .i64 ((rd_TRecord l0 (ji8)).f2)) ∧ w'.cell? ⟨(ad386.add (((ji8)).toNat * 4)).block, (ad386.add (((ji8)).toNat * 4)).off + 3, none⟩ = some (.string ((rd_TRecord l0 (ji8)).f3))) (ds := []) #[false, false, false, false, false, false, false, false, false, false, false, false, false, false, false, false, false] KR rfl rfl ⟨bc 0 BK387, bc 1 BK387, bc 2 BK387, bc 3 BK387, ((HB.out.cell (World.block_lt_of_cell? w _ hw389_0)).trans hw389_0), ((HB.out.cell (World.block_lt_of_cell? w _ hw389_1)).trans hw389_1), ((HB.out.cell (World.block_lt_of_cell? w _ hw389_2)).trans hw389_2), ((HB.out.cell (World.block_lt_of_cell? w _ hw389_3)).trans hw389_3)⟩ (fun hHeld => ?_); refine with_tabW impl_areRising.tab4 impl_areRising.bits4 (fun HT_ HW_ => ?_)
       generalize w15.drew = w16 at BK387 HB hx389_0 hx389_1 hx389_2 hx389_3 hHeld ⊢
       refine tA 0 12 (mL 17 1) HT_ HW_ hHeld rfl rfl (by rintro w' ⟨s0, s1, s2, s3, s4, s5, s6, s7⟩; go_simp; with_reducible rfl) ?_
       refine one_ (i := 1) (N := some 13) (mL 17 3) rfl rfl (one_of HT_.out KR) (by decide) (fun K hK => ?_)
       refine goes_ Tryz.func162 KR rfl #[.agg #[.string ((rd_TRecord l0 x7_1).f0), .int .i64 ((rd_TRecord l0 x7_1).f1), .int .i64 ((rd_TRecord l0 x7_1).f2), .string ((rd_TRecord l0 x7_1).f3)]] (by rfl) rfl rfl TA ?_
       with_reducible refine (impl_GoodRecord.calls k1 ((rd_TRecord l0 x7_1).f0) ((rd_TRecord l0 x7_1).f1) ((rd_TRecord l0 x7_1).f2) ((rd_TRecord l0 x7_1).f3) true _ ?side1 A5.out).mono ?_
       (case side1 => exact GW HGL)
       rintro e w17 ⟨rfl, hb⟩
       refine ⟨_, rfl, ?_⟩
       replace BK387 := KB BK387 hb
       replace HB := BS hb
       (try clear hb)
       (try clear hb2)
       (try clear hk)
       (try clear hi)
       refine hK.out _ _ ⟨bc 0 BK387, bc 1 BK387, bc 2 BK387, bc 3 BK387, ((HB.out.cell (World.block_lt_of_cell? w _ hw389_0)).trans hw389_0), ((HB.out.cell (World.block_lt_of_cell? w _ hw389_1)).trans hw389_1), ((HB.out.cell (World.block_lt_of_cell? w _ hw389_2)).trans hw389_2), ((HB.out.cell (World.block_lt_of_cell? w _ hw389_3)).trans hw389_3)⟩ (fun hHeld => ?_)
       clear hK K
       refine nA ?_
       refine pA 2 14 (mL 17 7) HT_ rfl rfl ?_
       refine pA 3 15 (mL 17 15) HT_ rfl rfl ?_
       refine pA 4 16 (mL 17 31) HT_ rfl rfl ?_
       refine pA 5 17 (mL 17 63) HT_ rfl rfl ?_
       refine pA 6 18 (mL 17 127) HT_ rfl rfl ?_
       refine pA 7 19 (mL 17 255) HT_ rfl rfl ?_
       refine pA 8 20 (mL 17 511) HT_ rfl rfl ?_
       refine pA 9 21 (mL 17 1023) HT_ rfl rfl ?_
       refine pA 10 22 (mL 17 2047) HT_ rfl rfl ?_
       refine tA 11 23 (mL 17 4095) HT_ HW_ hHeld rfl rfl (by rintro w' ⟨s0, s1, s2, s3, s4, s5, s6, s7⟩; go_simp; with_reducible rfl) ?_
       refine tA 12 24 (mL 17 8191) HT_ HW_ hHeld rfl rfl (by rintro w' ⟨s0, s1, s2, s3, s4, s5, s6, s7⟩; go_simp; with_reducible rfl) ?_
       refine one_ (i := 13) (N := some 25) (mL 17 16383) rfl rfl (one_of HT_.out KR) (by decide) (fun K hK => ?_)
       refine goes_ Tryz.func163 KR rfl #[.agg #[.string ((rd_TRecord l0 (ji8)).f0), .int .i64 ((rd_TRecord l0 (ji8)).f1), .int .i64 ((rd_TRecord l0 (ji8)).f2), .string ((rd_TRecord l0 (ji8)).f3)], .agg #[.string ((rd_TRecord l0 x7_1).f0), .int .i64 ((rd_TRecord l0 x7_1).f1), .int .i64 ((rd_TRecord l0 x7_1).f2), .string ((rd_TRecord l0 x7_1).f3)]] (by rfl) rfl rfl (by (try simp only [List.map_toArray, List.map_cons, List.map_nil]); first | done | (simp only [hji8]; rfl) | rfl | (simp only [List.length_drop, List.length_take]; rfl)) ?_
       with_reducible refine (impl_compareRecords.calls k1 ((rd_TRecord l0 (ji8)).f0) ((rd_TRecord l0 (ji8)).f1) ((rd_TRecord l0 (ji8)).f2) ((rd_TRecord l0 (ji8)).f3) ((rd_TRecord l0 x7_1).f0) ((rd_TRecord l0 x7_1).f1) ((rd_TRecord l0 x7_1).f2) ((rd_TRecord l0 x7_1).f3) t390 _ ?side1 A11.out).mono ?_
       (case side1 => exact GW HGL)
       rintro e w18 ⟨rfl, hb⟩
       refine ⟨_, rfl, ?_⟩
       replace BK387 := KB BK387 hb
       replace HB := BS hb
       (try clear hb)
       (try clear hb2)
       (try clear hk)
       (try clear hi)
       refine hK.out _ _ ⟨bc 0 BK387, bc 1 BK387, bc 2 BK387, bc 3 BK387, ((HB.out.cell (World.block_lt_of_cell? w _ hw389_0)).trans hw389_0), ((HB.out.cell (World.block_lt_of_cell? w _ hw389_1)).trans hw389_1), ((HB.out.cell (World.block_lt_of_cell? w _ hw389_2)).trans hw389_2), ((HB.out.cell (World.block_lt_of_cell? w _ hw389_3)).trans hw389_3)⟩ (fun hHeld => ?_)
       clear hK K
       refine nA ?_
       refine pA 14 26 (mL 17 32767) HT_ rfl rfl ?_
       refine pA 15 27 (mL 17 65535) HT_ rfl rfl ?_
       refine pA 16 28 (mL 17 131071) HT_ rfl rfl ?_
       refine done_ (done_of HT_.out KR) ?_
       try go_wp2
       go_ret
       exact ⟨by first | rfl | (simp [errW_none, errW_some] <;> rfl) | (simp only [← hji8]; first | rfl | (simp [errW_none, errW_some] <;> rfl)) | (simp [*, errW_none, errW_some] <;> rfl), TB⟩
      ·rw [if_neg c12] at H
       have c12b0 : decide (0 ≤ t390) = false := decide_eq_false c12
       clear c12
       have H' := Aside0.mk H
       clear H
       have p386 : 0 ≤ (x7_1 : Int) := TD
       have q386 : x7_1 < (l0.length : Int) := TD
       obtain ⟨ad386, e386, hx386_0, hx386_1, hx386_2, hx386_3⟩ := at_TRecord (Kd.C_below HR0.out HB.out) x7_1 p386 q386
       cases e386
       replace p386 := eq_true p386
       replace q386 := eq_true q386
       try go_wp2_with (first | ((with_reducible refine gate_dst (N := 4) rfl ?_); refine bE 4 #[.string (⟨#[]⟩ : ByteArray), .int .i64 0, .int .i64 0, .string (⟨#[]⟩ : ByteArray)] 93 ?_; intro gb387 hg w19 hbox hb; have BK387 := Aside0.mk (hbox); have GE387 := bG hg; replace HB := BS hb; clear hb hbox hg; have hcz20 := cz4 BK387))
       have n0_ : Aside0 (((((w19.setCell ⟨gb387, 0, none⟩ (.string ((rd_TRecord l0 x7_1).f0))).setCell ⟨gb387, 1, none⟩ (.int .i64 ((rd_TRecord l0 x7_1).f1))).setCell ⟨gb387, 2, none⟩ (.int .i64 ((rd_TRecord l0 x7_1).f2))).setCell ⟨gb387, 3, none⟩ (.string ((rd_TRecord l0 x7_1).f3))).heap[gb387]? = some (.cells #[.string ((rd_TRecord l0 x7_1).f0), .int .i64 ((rd_TRecord l0 x7_1).f1), .int .i64 ((rd_TRecord l0 x7_1).f2), .string ((rd_TRecord l0 x7_1).f3)] 93 (0, 0))) := ⟨TS⟩
       have n1_ : Aside0 (Below w.heap.size w ((((w19.setCell ⟨gb387, 0, none⟩ (.string ((rd_TRecord l0 x7_1).f0))).setCell ⟨gb387, 1, none⟩ (.int .i64 ((rd_TRecord l0 x7_1).f1))).setCell ⟨gb387, 2, none⟩ (.int .i64 ((rd_TRecord l0 x7_1).f2))).setCell ⟨gb387, 3, none⟩ (.string ((rd_TRecord l0 x7_1).f3)))) := ⟨TB⟩
       (try clear BK387)
       (try clear HB)
       generalize ((((w19.setCell ⟨gb387, 0, none⟩ (.string ((rd_TRecord l0 x7_1).f0))).setCell ⟨gb387, 1, none⟩ (.int .i64 ((rd_TRecord l0 x7_1).f1))).setCell ⟨gb387, 2, none⟩ (.int .i64 ((rd_TRecord l0 x7_1).f2))).setCell ⟨gb387, 3, none⟩ (.string ((rd_TRecord l0 x7_1).f3))) = w21 at n0_ n1_ ⊢
       have BK387 := n0_
       have HB := n1_
       clear n0_ n1_
       replace BK387 := Aside0.mk (blk_drew BK387.out)
       replace HB := Aside0.mk (below_drew1 HB.out)
       have p389 : 0 ≤ ((ji8) : Int) := TD
       have q389 : (ji8) < (l0.length : Int) := TD
       obtain ⟨ad389, e389, hx389_0, hx389_1, hx389_2, hx389_3⟩ := at_TRecord HR0.out (ji8) p389 q389
       have hw389_3 := hx389_3
       have hw389_2 := hx389_2
       have hw389_1 := hx389_1
       have hw389_0 := hx389_0
       obtain rfl : ad386 = ad389 := (by injection e389)
       replace hx389_0 := hBc HB hx389_0
       replace hx389_1 := hBc HB hx389_1
       replace hx389_2 := hBc HB hx389_2
       replace hx389_3 := hBc HB hx389_3
       replace p389 := eq_true p389
       replace q389 := eq_true q389
       refine start_ (n := 17) (S := fun w' => w'.cell? ⟨gb387, 0, none⟩ = some (.string ((rd_TRecord l0 x7_1).f0)) ∧ w'.cell? ⟨gb387, 1, none⟩ = some (.int .i64 ((rd_TRecord l0 x7_1).f1)) ∧ w'.cell? ⟨gb387, 2, none⟩ = some (.int .i64 ((rd_TRecord l0 x7_1).f2)) ∧ w'.cell? ⟨gb387, 3, none⟩ = some (.string ((rd_TRecord l0 x7_1).f3)) ∧ w'.cell? (ad386.add (((ji8)).toNat * 4)) = some (.string ((rd_TRecord l0 (ji8)).f0)) ∧ w'.cell? ⟨(ad386.add (((ji8)).toNat * 4)).block, (ad386.add (((ji8)).toNat * 4)).off + 1, none⟩ = some (.int .i64 ((rd_TRecord l0 (ji8)).f1)) ∧ w'.cell? ⟨(ad386.add (((ji8)).toNat * 4)).block, (ad386.add (((ji8)).toNat * 4)).off + 2, none⟩ = some (.int .i64 ((rd_TRecord l0 (ji8)).f2)) ∧ w'.cell? ⟨(ad386.add (((ji8)).toNat * 4)).block, (ad386.add (((ji8)).toNat * 4)).off + 3, none⟩ = some (.string ((rd_TRecord l0 (ji8)).f3))) (ds := []) #[false, false, false, false, false, false, false, false, false, false, false, false, false, false, false, false, false] KR rfl rfl ⟨bc 0 BK387, bc 1 BK387, bc 2 BK387, bc 3 BK387, ((HB.out.cell (World.block_lt_of_cell? w _ hw389_0)).trans hw389_0), ((HB.out.cell (World.block_lt_of_cell? w _ hw389_1)).trans hw389_1), ((HB.out.cell (World.block_lt_of_cell? w _ hw389_2)).trans hw389_2), ((HB.out.cell (World.block_lt_of_cell? w _ hw389_3)).trans hw389_3)⟩ (fun hHeld => ?_); refine with_tabW impl_areRising.tab4 impl_areRising.bits4 (fun HT_ HW_ => ?_)
       generalize w21.drew = w22 at BK387 HB hx389_0 hx389_1 hx389_2 hx389_3 hHeld ⊢
       refine tA 0 12 (mL 17 1) HT_ HW_ hHeld rfl rfl (by rintro w' ⟨s0, s1, s2, s3, s4, s5, s6, s7⟩; go_simp; with_reducible rfl) ?_
       refine one_ (i := 1) (N := some 13) (mL 17 3) rfl rfl (one_of HT_.out KR) (by decide) (fun K hK => ?_)
       refine goes_ Tryz.func162 KR rfl #[.agg #[.string ((rd_TRecord l0 x7_1).f0), .int .i64 ((rd_TRecord l0 x7_1).f1), .int .i64 ((rd_TRecord l0 x7_1).f2), .string ((rd_TRecord l0 x7_1).f3)]] (by rfl) rfl rfl TA ?_
       with_reducible refine (impl_GoodRecord.calls k1 ((rd_TRecord l0 x7_1).f0) ((rd_TRecord l0 x7_1).f1) ((rd_TRecord l0 x7_1).f2) ((rd_TRecord l0 x7_1).f3) true _ ?side1 A5.out).mono ?_
       (case side1 => exact GW HGL)
       rintro e w23 ⟨rfl, hb⟩
       refine ⟨_, rfl, ?_⟩
       replace BK387 := KB BK387 hb
       replace HB := BS hb
       (try clear hb)
       (try clear hb2)
       (try clear hk)
       (try clear hi)
       refine hK.out _ _ ⟨bc 0 BK387, bc 1 BK387, bc 2 BK387, bc 3 BK387, ((HB.out.cell (World.block_lt_of_cell? w _ hw389_0)).trans hw389_0), ((HB.out.cell (World.block_lt_of_cell? w _ hw389_1)).trans hw389_1), ((HB.out.cell (World.block_lt_of_cell? w _ hw389_2)).trans hw389_2), ((HB.out.cell (World.block_lt_of_cell? w _ hw389_3)).trans hw389_3)⟩ (fun hHeld => ?_)
       clear hK K
       refine nA ?_
       refine pA 2 14 (mL 17 7) HT_ rfl rfl ?_
       refine pA 3 15 (mL 17 15) HT_ rfl rfl ?_
       refine pA 4 16 (mL 17 31) HT_ rfl rfl ?_
       refine pA 5 17 (mL 17 63) HT_ rfl rfl ?_
       refine pA 6 18 (mL 17 127) HT_ rfl rfl ?_
       refine pA 7 19 (mL 17 255) HT_ rfl rfl ?_
       refine pA 8 20 (mL 17 511) HT_ rfl rfl ?_
       refine pA 9 21 (mL 17 1023) HT_ rfl rfl ?_
       refine pA 10 22 (mL 17 2047) HT_ rfl rfl ?_
       refine tA 11 23 (mL 17 4095) HT_ HW_ hHeld rfl rfl (by rintro w' ⟨s0, s1, s2, s3, s4, s5, s6, s7⟩; go_simp; with_reducible rfl) ?_
       refine tA 12 24 (mL 17 8191) HT_ HW_ hHeld rfl rfl (by rintro w' ⟨s0, s1, s2, s3, s4, s5, s6, s7⟩; go_simp; with_reducible rfl) ?_
       refine one_ (i := 13) (N := some 25) (mL 17 16383) rfl rfl (one_of HT_.out KR) (by decide) (fun K hK => ?_)
       refine goes_ Tryz.func163 KR rfl #[.agg #[.string ((rd_TRecord l0 (ji8)).f0), .int .i64 ((rd_TRecord l0 (ji8)).f1), .int .i64 ((rd_TRecord l0 (ji8)).f2), .string ((rd_TRecord l0 (ji8)).f3)], .agg #[.string ((rd_TRecord l0 x7_1).f0), .int .i64 ((rd_TRecord l0 x7_1).f1), .int .i64 ((rd_TRecord l0 x7_1).f2), .string ((rd_TRecord l0 x7_1).f3)]] (by rfl) rfl rfl (by (try simp only [List.map_toArray, List.map_cons, List.map_nil]); first | done | (simp only [hji8]; rfl) | rfl | (simp only [List.length_drop, List.length_take]; rfl)) ?_
       with_reducible refine (impl_compareRecords.calls k1 ((rd_TRecord l0 (ji8)).f0) ((rd_TRecord l0 (ji8)).f1) ((rd_TRecord l0 (ji8)).f2) ((rd_TRecord l0 (ji8)).f3) ((rd_TRecord l0 x7_1).f0) ((rd_TRecord l0 x7_1).f1) ((rd_TRecord l0 x7_1).f2) ((rd_TRecord l0 x7_1).f3) t390 _ ?side1 A11.out).mono ?_
       (case side1 => exact GW HGL)
       rintro e w24 ⟨rfl, hb⟩
       refine ⟨_, rfl, ?_⟩
       replace BK387 := KB BK387 hb
       replace HB := BS hb
       (try clear hb)
       (try clear hb2)
       (try clear hk)
       (try clear hi)
       refine hK.out _ _ ⟨bc 0 BK387, bc 1 BK387, bc 2 BK387, bc 3 BK387, ((HB.out.cell (World.block_lt_of_cell? w _ hw389_0)).trans hw389_0), ((HB.out.cell (World.block_lt_of_cell? w _ hw389_1)).trans hw389_1), ((HB.out.cell (World.block_lt_of_cell? w _ hw389_2)).trans hw389_2), ((HB.out.cell (World.block_lt_of_cell? w _ hw389_3)).trans hw389_3)⟩ (fun hHeld => ?_)
       clear hK K
       refine nA ?_
       refine pA 14 26 (mL 17 32767) HT_ rfl rfl ?_
       refine pA 15 27 (mL 17 65535) HT_ rfl rfl ?_
       refine pA 16 28 (mL 17 131071) HT_ rfl rfl ?_
       refine done_ (done_of HT_.out KR) ?_
       try go_wp2
       go_roundg k1
       case measure => have := HK1.out; omega
       case rel => exact ⟨(wrap64 (x7_1 + 1)), TF, H', ⟨TM⟩, ⟨TB⟩⟩
     ·rw [if_neg c7] at H
      have c7b0 : decide (0 < x7_1) = false := decide_eq_false c7
      clear c7
      have H' := Aside0.mk H
      clear H
      have p386 : 0 ≤ (x7_1 : Int) := TD
      have q386 : x7_1 < (l0.length : Int) := TD
      obtain ⟨ad386, e386, hx386_0, hx386_1, hx386_2, hx386_3⟩ := at_TRecord (Kd.C_below HR0.out HB.out) x7_1 p386 q386
      cases e386
      replace p386 := eq_true p386
      replace q386 := eq_true q386
      try go_wp2_with (first | ((with_reducible refine gate_dst (N := 4) rfl ?_); refine bE 4 #[.string (⟨#[]⟩ : ByteArray), .int .i64 0, .int .i64 0, .string (⟨#[]⟩ : ByteArray)] 93 ?_; intro gb387 hg w25 hbox hb; have BK387 := Aside0.mk (hbox); have GE387 := bG hg; replace HB := BS hb; clear hb hbox hg; have hcz26 := cz4 BK387))
      have n0_ : Aside0 (((((w25.setCell ⟨gb387, 0, none⟩ (.string ((rd_TRecord l0 x7_1).f0))).setCell ⟨gb387, 1, none⟩ (.int .i64 ((rd_TRecord l0 x7_1).f1))).setCell ⟨gb387, 2, none⟩ (.int .i64 ((rd_TRecord l0 x7_1).f2))).setCell ⟨gb387, 3, none⟩ (.string ((rd_TRecord l0 x7_1).f3))).heap[gb387]? = some (.cells #[.string ((rd_TRecord l0 x7_1).f0), .int .i64 ((rd_TRecord l0 x7_1).f1), .int .i64 ((rd_TRecord l0 x7_1).f2), .string ((rd_TRecord l0 x7_1).f3)] 93 (0, 0))) := ⟨TS⟩
      have n1_ : Aside0 (Below w.heap.size w ((((w25.setCell ⟨gb387, 0, none⟩ (.string ((rd_TRecord l0 x7_1).f0))).setCell ⟨gb387, 1, none⟩ (.int .i64 ((rd_TRecord l0 x7_1).f1))).setCell ⟨gb387, 2, none⟩ (.int .i64 ((rd_TRecord l0 x7_1).f2))).setCell ⟨gb387, 3, none⟩ (.string ((rd_TRecord l0 x7_1).f3)))) := ⟨TB⟩
      (try clear BK387)
      (try clear HB)
      generalize ((((w25.setCell ⟨gb387, 0, none⟩ (.string ((rd_TRecord l0 x7_1).f0))).setCell ⟨gb387, 1, none⟩ (.int .i64 ((rd_TRecord l0 x7_1).f1))).setCell ⟨gb387, 2, none⟩ (.int .i64 ((rd_TRecord l0 x7_1).f2))).setCell ⟨gb387, 3, none⟩ (.string ((rd_TRecord l0 x7_1).f3))) = w27 at n0_ n1_ ⊢
      have BK387 := n0_
      have HB := n1_
      clear n0_ n1_
      replace BK387 := Aside0.mk (blk_drew BK387.out)
      replace HB := Aside0.mk (below_drew1 HB.out)
      refine start_ (n := 17) (S := fun w' => w'.cell? ⟨gb387, 0, none⟩ = some (.string ((rd_TRecord l0 x7_1).f0)) ∧ w'.cell? ⟨gb387, 1, none⟩ = some (.int .i64 ((rd_TRecord l0 x7_1).f1)) ∧ w'.cell? ⟨gb387, 2, none⟩ = some (.int .i64 ((rd_TRecord l0 x7_1).f2)) ∧ w'.cell? ⟨gb387, 3, none⟩ = some (.string ((rd_TRecord l0 x7_1).f3))) (ds := []) #[false, false, false, false, false, false, false, false, false, false, false, false, false, false, false, false, false] KR rfl rfl ⟨bc 0 BK387, bc 1 BK387, bc 2 BK387, bc 3 BK387⟩ (fun hHeld => ?_); refine with_tabW impl_areRising.tab4 impl_areRising.bits4 (fun HT_ HW_ => ?_)
      generalize w27.drew = w28 at BK387 HB hHeld ⊢
      refine tA 0 12 (mL 17 1) HT_ HW_ hHeld rfl rfl (by rintro w' ⟨s0, s1, s2, s3⟩; go_simp; with_reducible rfl) ?_
      refine one_ (i := 1) (N := some 13) (mL 17 3) rfl rfl (one_of HT_.out KR) (by decide) (fun K hK => ?_)
      refine goes_ Tryz.func162 KR rfl #[.agg #[.string ((rd_TRecord l0 x7_1).f0), .int .i64 ((rd_TRecord l0 x7_1).f1), .int .i64 ((rd_TRecord l0 x7_1).f2), .string ((rd_TRecord l0 x7_1).f3)]] (by rfl) rfl rfl TA ?_
      with_reducible refine (impl_GoodRecord.calls k1 ((rd_TRecord l0 x7_1).f0) ((rd_TRecord l0 x7_1).f1) ((rd_TRecord l0 x7_1).f2) ((rd_TRecord l0 x7_1).f3) true _ ?side1 A5.out).mono ?_
      (case side1 => exact GW HGL)
      rintro e w29 ⟨rfl, hb⟩
      refine ⟨_, rfl, ?_⟩
      replace BK387 := KB BK387 hb
      replace HB := BS hb
      (try clear hb)
      (try clear hb2)
      (try clear hk)
      (try clear hi)
      refine hK.out _ _ ⟨bc 0 BK387, bc 1 BK387, bc 2 BK387, bc 3 BK387⟩ (fun hHeld => ?_)
      clear hK K
      refine nA ?_
      refine pA 2 14 (mL 17 7) HT_ rfl rfl ?_
      refine pA 3 15 (mL 17 15) HT_ rfl rfl ?_
      refine pA 4 16 (mL 17 31) HT_ rfl rfl ?_
      refine pA 5 17 (mL 17 63) HT_ rfl rfl ?_
      refine pA 6 18 (mL 17 127) HT_ rfl rfl ?_
      refine pU 7 19 (mL 17 255) HT_ rfl rfl ?_
      refine pU 8 20 (mL 17 511) HT_ rfl rfl ?_
      refine pU 9 21 (mL 17 1023) HT_ rfl rfl ?_
      refine pU 10 22 (mL 17 2047) HT_ rfl rfl ?_
      refine pU 11 23 (mL 17 4095) HT_ rfl rfl ?_
      refine pU 12 24 (mL 17 8191) HT_ rfl rfl ?_
      refine pU 13 25 (mL 17 16383) HT_ rfl rfl ?_
      refine pU 14 26 (mL 17 32767) HT_ rfl rfl ?_
      refine pA 15 27 (mL 17 65535) HT_ rfl rfl ?_
      refine pA 16 28 (mL 17 131071) HT_ rfl rfl ?_
      refine done_ (done_of HT_.out KR) ?_
      try go_wp2
      go_roundg k1
      case measure => have := HK1.out; omega
      case rel => exact ⟨(wrap64 (x7_1 + 1)), TF, H', ⟨TM⟩, ⟨TB⟩⟩
    ·replace c6 := Bool.eq_false_iff.mpr c6
     subst c6
     replace H := iff' H
     obtain rfl := Option.some.inj H
     have p386 : 0 ≤ (x7_1 : Int) := TD
     have q386 : x7_1 < (l0.length : Int) := TD
     obtain ⟨ad386, e386, hx386_0, hx386_1, hx386_2, hx386_3⟩ := at_TRecord (Kd.C_below HR0.out HB.out) x7_1 p386 q386
     cases e386
     replace p386 := eq_true p386
     replace q386 := eq_true q386
     try go_wp2_with (first | ((with_reducible refine gate_dst (N := 4) rfl ?_); refine bE 4 #[.string (⟨#[]⟩ : ByteArray), .int .i64 0, .int .i64 0, .string (⟨#[]⟩ : ByteArray)] 93 ?_; intro gb387 hg w30 hbox hb; have BK387 := Aside0.mk (hbox); have GE387 := bG hg; replace HB := BS hb; clear hb hbox hg; have hcz31 := cz4 BK387))
     have n0_ : Aside0 (((((w30.setCell ⟨gb387, 0, none⟩ (.string ((rd_TRecord l0 x7_1).f0))).setCell ⟨gb387, 1, none⟩ (.int .i64 ((rd_TRecord l0 x7_1).f1))).setCell ⟨gb387, 2, none⟩ (.int .i64 ((rd_TRecord l0 x7_1).f2))).setCell ⟨gb387, 3, none⟩ (.string ((rd_TRecord l0 x7_1).f3))).heap[gb387]? = some (.cells #[.string ((rd_TRecord l0 x7_1).f0), .int .i64 ((rd_TRecord l0 x7_1).f1), .int .i64 ((rd_TRecord l0 x7_1).f2), .string ((rd_TRecord l0 x7_1).f3)] 93 (0, 0))) := ⟨TS⟩
     have n1_ : Aside0 (Below w.heap.size w ((((w30.setCell ⟨gb387, 0, none⟩ (.string ((rd_TRecord l0 x7_1).f0))).setCell ⟨gb387, 1, none⟩ (.int .i64 ((rd_TRecord l0 x7_1).f1))).setCell ⟨gb387, 2, none⟩ (.int .i64 ((rd_TRecord l0 x7_1).f2))).setCell ⟨gb387, 3, none⟩ (.string ((rd_TRecord l0 x7_1).f3)))) := ⟨TB⟩
     (try clear BK387)
     (try clear HB)
     generalize ((((w30.setCell ⟨gb387, 0, none⟩ (.string ((rd_TRecord l0 x7_1).f0))).setCell ⟨gb387, 1, none⟩ (.int .i64 ((rd_TRecord l0 x7_1).f1))).setCell ⟨gb387, 2, none⟩ (.int .i64 ((rd_TRecord l0 x7_1).f2))).setCell ⟨gb387, 3, none⟩ (.string ((rd_TRecord l0 x7_1).f3))) = w32 at n0_ n1_ ⊢
     have BK387 := n0_
     have HB := n1_
     clear n0_ n1_
     replace BK387 := Aside0.mk (blk_drew BK387.out)
     replace HB := Aside0.mk (below_drew1 HB.out)
     refine start_ (n := 17) (S := fun w' => w'.cell? ⟨gb387, 0, none⟩ = some (.string ((rd_TRecord l0 x7_1).f0)) ∧ w'.cell? ⟨gb387, 1, none⟩ = some (.int .i64 ((rd_TRecord l0 x7_1).f1)) ∧ w'.cell? ⟨gb387, 2, none⟩ = some (.int .i64 ((rd_TRecord l0 x7_1).f2)) ∧ w'.cell? ⟨gb387, 3, none⟩ = some (.string ((rd_TRecord l0 x7_1).f3))) (ds := []) #[false, false, false, false, false, false, false, false, false, false, false, false, false, false, false, false, false] KR rfl rfl ⟨bc 0 BK387, bc 1 BK387, bc 2 BK387, bc 3 BK387⟩ (fun hHeld => ?_); refine with_tabW impl_areRising.tab4 impl_areRising.bits4 (fun HT_ HW_ => ?_)
     generalize w32.drew = w33 at BK387 HB hHeld ⊢
     refine tA 0 12 (mL 17 1) HT_ HW_ hHeld rfl rfl (by rintro w' ⟨s0, s1, s2, s3⟩; go_simp; with_reducible rfl) ?_
     refine one_ (i := 1) (N := some 13) (mL 17 3) rfl rfl (one_of HT_.out KR) (by decide) (fun K hK => ?_)
     refine goes_ Tryz.func162 KR rfl #[.agg #[.string ((rd_TRecord l0 x7_1).f0), .int .i64 ((rd_TRecord l0 x7_1).f1), .int .i64 ((rd_TRecord l0 x7_1).f2), .string ((rd_TRecord l0 x7_1).f3)]] (by rfl) rfl rfl TA ?_
     with_reducible refine (impl_GoodRecord.calls k1 ((rd_TRecord l0 x7_1).f0) ((rd_TRecord l0 x7_1).f1) ((rd_TRecord l0 x7_1).f2) ((rd_TRecord l0 x7_1).f3) false _ ?side1 A5.out).mono ?_
     (case side1 => exact GW HGL)
     rintro e w34 ⟨rfl, hb⟩
     refine ⟨_, rfl, ?_⟩
     replace BK387 := KB BK387 hb
     replace HB := BS hb
     (try clear hb)
     (try clear hb2)
     (try clear hk)
     (try clear hi)
     refine hK.out _ _ ⟨bc 0 BK387, bc 1 BK387, bc 2 BK387, bc 3 BK387⟩ (fun hHeld => ?_)
     clear hK K
     refine nA ?_
     refine pA 2 14 (mL 17 7) HT_ rfl rfl ?_
     refine pA 3 15 (mL 17 15) HT_ rfl rfl ?_
     refine pU 4 16 (mL 17 31) HT_ rfl rfl ?_
     refine pU 5 17 (mL 17 63) HT_ rfl rfl ?_
     refine pU 6 18 (mL 17 127) HT_ rfl rfl ?_
     refine pU 7 19 (mL 17 255) HT_ rfl rfl ?_
     refine pU 8 20 (mL 17 511) HT_ rfl rfl ?_
     refine pU 9 21 (mL 17 1023) HT_ rfl rfl ?_
     refine pU 10 22 (mL 17 2047) HT_ rfl rfl ?_
     refine pU 11 23 (mL 17 4095) HT_ rfl rfl ?_
     refine pU 12 24 (mL 17 8191) HT_ rfl rfl ?_
     refine pU 13 25 (mL 17 16383) HT_ rfl rfl ?_
     refine pU 14 26 (mL 17 32767) HT_ rfl rfl ?_
     refine pU 15 27 (mL 17 65535) HT_ rfl rfl ?_
     refine pA 16 28 (mL 17 131071) HT_ rfl rfl ?_
     refine done_ (done_of HT_.out KR) ?_
     try go_wp2
     go_ret
     exact ⟨TE, TB⟩
   ·rw [if_neg c2] at H
    have c2b0 : decide (x7_1 < (l0.length : Int)) = false := decide_eq_false c2
    clear c2
    obtain rfl := Option.some.inj H
    go_wp2
    go_ret
    exact ⟨TE, TB⟩
end
section
/-! ### impl_areOne_1: function 170 -/
def impl_areOne_1.f (a0_0 : ByteArray) (a0_1 : Int) (a0_2 : Int) (a0_3 : ByteArray) (a1_0 : ByteArray) (a2_0 : Int) (l3_0 : List (S_Record)) : Option (Bool) := if a0_0.toList = a1_0.toList then (if a0_1 = a2_0 then (if 0 < (l3_0.length : Int) then (some (a0_2 != ((rd_TRecord l3_0 0).f2))) else (none)) else (some true)) else (some true)
theorem impl_areOne_1.calls (a0_0 : ByteArray) (a0_1 : Int) (a0_2 : Int) (a0_3 : ByteArray) (g1_ : Nat) (a1_0 : ByteArray) (g2_ : Nat) (a2_0 : Int) (g3_ : Nat) (A3_0 : Option Addr) (c3_0 : Nat) (l3_0 : List (S_Record)) (r : Bool) (w : World) (hr3_0 : Kd.C k_Record w A3_0 l3_0.length l3_0) (hc3_0 : l3_0.length ≤ c3_0) (hkg1_ : w.heap[g1_]? = some (.cells #[.string a1_0] 9 (0, 0))) (hkg2_ : w.heap[g2_]? = some (.cells #[.int .i64 a2_0] 3 (0, 0))) (hkg3_ : w.heap[g3_]? = some (.cells #[.slice A3_0 l3_0.length c3_0] 27 (0, 0))) (h : impl_areOne_1.f a0_0 a0_1 a0_2 a0_3 a1_0 a2_0 l3_0 = some r) :
  Calls Tryz.prog 170 #[.agg #[.string a0_0, .int .i64 a0_1, .int .i64 a0_2, .string a0_3], .pointer (some ⟨g1_, 0, none⟩), .pointer (some ⟨g2_, 0, none⟩), .pointer (some ⟨g3_, 0, none⟩)] w fun e w' => e = .returned (.bool r) ∧ Below w.heap.size w w' := by
 have hu93 := Tryz.underlying93
 have HR3_0 := Aside0.mk hr3_0
 have HC3_0 := Aside0.mk hc3_0
 clear hr3_0 hc3_0
 have BKrg1_ := Aside0.mk hkg1_
 clear hkg1_
 have BKrg2_ := Aside0.mk hkg2_
 clear hkg2_
 have BKrg3_ := Aside0.mk hkg3_
 clear hkg3_
 have HB := Aside0.mk (Below.refl w.heap.size w)
 have H : (if a0_0.toList = a1_0.toList then (if a0_1 = a2_0 then (if 0 < (l3_0.length : Int) then (some (a0_2 != ((rd_TRecord l3_0 0).f2))) else (none)) else (some true)) else (some true)) = some r := h
 clear h
 by_cases c5 : a0_0.toList = a1_0.toList
 ·rw [if_pos c5] at H
  have c5b0 : (a0_0.toList == a1_0.toList) = true := beq_iff_eq.mpr c5
  have c5b1 : (a0_0.toList != a1_0.toList) = false := bne_eq_false_iff_eq.mpr c5
  clear c5
  by_cases c6 : a0_1 = a2_0
  ·rw [if_pos c6] at H
   have c6b0 : (a0_1 == a2_0) = true := beq_iff_eq.mpr c6
   have c6b1 : (a0_1 != a2_0) = false := bne_eq_false_iff_eq.mpr c6
   clear c6
   obtain ⟨c7, H⟩ := ifn H
   have c7b0 : decide (0 < (l3_0.length : Int)) = true := decide_eq_true c7
   have c7b1 : decide (0 < l3_0.length) = true := decide_eq_true (by omega)
   clear c7
   obtain rfl := Option.some.inj H
   go_enter Tryz.func170, Tryz.ntmps170
   go_wp2_with (first | ((with_reducible refine gate_dst (N := 4) rfl ?_); refine bE 4 #[.string a0_0, .int .i64 a0_1, .int .i64 a0_2, .string a0_3] 93 ?_; intro gb954 hg w8 hbox hb; have BK954 := Aside0.mk (hbox); have GE954 := bG hg; replace HB := BS hb; have NB1_954 := bN BKrg1_ hg; have NB954_1 := bM BKrg1_ hg; replace BKrg1_ := KB BKrg1_ hb; have NB2_954 := bN BKrg2_ hg; have NB954_2 := bM BKrg2_ hg; replace BKrg2_ := KB BKrg2_ hb; have NB3_954 := bN BKrg3_ hg; have NB954_3 := bM BKrg3_ hg; replace BKrg3_ := KB BKrg3_ hb; clear hb hbox hg; have hnb9 := NB954_1.out; have hnc9 := NB1_954.out; have hnb10 := NB954_2.out; have hnc10 := NB2_954.out; have hnb11 := NB954_3.out; have hnc11 := NB3_954.out; have hcz12 := cz4 BK954; have hcz13 := cz1 BKrg1_; have hcz14 := cz1 BKrg2_; have hcz15 := cz1 BKrg3_; have p955 : 0 ≤ (0 : Int) := (by omega); have q955 : 0 < (l3_0.length : Int) := TD; obtain ⟨ad955, e955, hx955_0, hx955_1, hx955_2, hx955_3⟩ := at_TRecord HR3_0.out 0 p955 q955; cases e955; have qi955 : (0 < l3_0.length) = True := eq_true (by omega); (try rw [show ((0 : Int)).toNat = 0 from rfl] at hx955_0); (try rw [show 0 * 4 = 0 from rfl] at hx955_0); (try rw [Addr.add_zero'] at hx955_0); (try rw [show ((0 : Int)).toNat = 0 from rfl] at hx955_1); (try rw [show 0 * 4 = 0 from rfl] at hx955_1); (try rw [Addr.add_zero'] at hx955_1); (try rw [show ((0 : Int)).toNat = 0 from rfl] at hx955_2); (try rw [show 0 * 4 = 0 from rfl] at hx955_2); (try rw [Addr.add_zero'] at hx955_2); (try rw [show ((0 : Int)).toNat = 0 from rfl] at hx955_3); (try rw [show 0 * 4 = 0 from rfl] at hx955_3); (try rw [Addr.add_zero'] at hx955_3); replace hx955_0 := hBc HB hx955_0; replace hx955_1 := hBc HB hx955_1; replace hx955_2 := hBc HB hx955_2; replace hx955_3 := hBc HB hx955_3; replace p955 := eq_true p955; replace q955 := eq_true q955))
   repeat (go_quiet (first | ((with_reducible refine gate_dst (N := 4) rfl ?_); refine bE 4 #[.string a0_0, .int .i64 a0_1, .int .i64 a0_2, .string a0_3] 93 ?_; intro gb954 hg w8 hbox hb; have BK954 := Aside0.mk (hbox); have GE954 := bG hg; replace HB := BS hb; have NB1_954 := bN BKrg1_ hg; have NB954_1 := bM BKrg1_ hg; replace BKrg1_ := KB BKrg1_ hb; have NB2_954 := bN BKrg2_ hg; have NB954_2 := bM BKrg2_ hg; replace BKrg2_ := KB BKrg2_ hb; have NB3_954 := bN BKrg3_ hg; have NB954_3 := bM BKrg3_ hg; replace BKrg3_ := KB BKrg3_ hb; clear hb hbox hg; have hnb9 := NB954_1.out; have hnc9 := NB1_954.out; have hnb10 := NB954_2.out; have hnc10 := NB2_954.out; have hnb11 := NB954_3.out; have hnc11 := NB3_954.out; have hcz12 := cz4 BK954; have hcz13 := cz1 BKrg1_; have hcz14 := cz1 BKrg2_; have hcz15 := cz1 BKrg3_; have p955 : 0 ≤ (0 : Int) := (by omega); have q955 : 0 < (l3_0.length : Int) := TD; obtain ⟨ad955, e955, hx955_0, hx955_1, hx955_2, hx955_3⟩ := at_TRecord HR3_0.out 0 p955 q955; cases e955; have qi955 : (0 < l3_0.length) = True := eq_true (by omega); (try rw [show ((0 : Int)).toNat = 0 from rfl] at hx955_0); (try rw [show 0 * 4 = 0 from rfl] at hx955_0); (try rw [Addr.add_zero'] at hx955_0); (try rw [show ((0 : Int)).toNat = 0 from rfl] at hx955_1); (try rw [show 0 * 4 = 0 from rfl] at hx955_1); (try rw [Addr.add_zero'] at hx955_1); (try rw [show ((0 : Int)).toNat = 0 from rfl] at hx955_2); (try rw [show 0 * 4 = 0 from rfl] at hx955_2); (try rw [Addr.add_zero'] at hx955_2); (try rw [show ((0 : Int)).toNat = 0 from rfl] at hx955_3); (try rw [show 0 * 4 = 0 from rfl] at hx955_3); (try rw [Addr.add_zero'] at hx955_3); replace hx955_0 := hBc HB hx955_0; replace hx955_1 := hBc HB hx955_1; replace hx955_2 := hBc HB hx955_2; replace hx955_3 := hBc HB hx955_3; replace p955 := eq_true p955; replace q955 := eq_true q955)); try go_wp2_with (first | ((with_reducible refine gate_dst (N := 4) rfl ?_); refine bE 4 #[.string a0_0, .int .i64 a0_1, .int .i64 a0_2, .string a0_3] 93 ?_; intro gb954 hg w8 hbox hb; have BK954 := Aside0.mk (hbox); have GE954 := bG hg; replace HB := BS hb; have NB1_954 := bN BKrg1_ hg; have NB954_1 := bM BKrg1_ hg; replace BKrg1_ := KB BKrg1_ hb; have NB2_954 := bN BKrg2_ hg; have NB954_2 := bM BKrg2_ hg; replace BKrg2_ := KB BKrg2_ hb; have NB3_954 := bN BKrg3_ hg; have NB954_3 := bM BKrg3_ hg; replace BKrg3_ := KB BKrg3_ hb; clear hb hbox hg; have hnb9 := NB954_1.out; have hnc9 := NB1_954.out; have hnb10 := NB954_2.out; have hnc10 := NB2_954.out; have hnb11 := NB954_3.out; have hnc11 := NB3_954.out; have hcz12 := cz4 BK954; have hcz13 := cz1 BKrg1_; have hcz14 := cz1 BKrg2_; have hcz15 := cz1 BKrg3_; have p955 : 0 ≤ (0 : Int) := (by omega); have q955 : 0 < (l3_0.length : Int) := TD; obtain ⟨ad955, e955, hx955_0, hx955_1, hx955_2, hx955_3⟩ := at_TRecord HR3_0.out 0 p955 q955; cases e955; have qi955 : (0 < l3_0.length) = True := eq_true (by omega); (try rw [show ((0 : Int)).toNat = 0 from rfl] at hx955_0); (try rw [show 0 * 4 = 0 from rfl] at hx955_0); (try rw [Addr.add_zero'] at hx955_0); (try rw [show ((0 : Int)).toNat = 0 from rfl] at hx955_1); (try rw [show 0 * 4 = 0 from rfl] at hx955_1); (try rw [Addr.add_zero'] at hx955_1); (try rw [show ((0 : Int)).toNat = 0 from rfl] at hx955_2); (try rw [show 0 * 4 = 0 from rfl] at hx955_2); (try rw [Addr.add_zero'] at hx955_2); (try rw [show ((0 : Int)).toNat = 0 from rfl] at hx955_3); (try rw [show 0 * 4 = 0 from rfl] at hx955_3); (try rw [Addr.add_zero'] at hx955_3); replace hx955_0 := hBc HB hx955_0; replace hx955_1 := hBc HB hx955_1; replace hx955_2 := hBc HB hx955_2; replace hx955_3 := hBc HB hx955_3; replace p955 := eq_true p955; replace q955 := eq_true q955)))
   go_ret
   exact ⟨TE, TB⟩
  ·rw [if_neg c6] at H
   have c6b0 : (a0_1 == a2_0) = false := beq_eq_false_iff_ne.mpr c6
   have c6b1 : (a0_1 != a2_0) = true := bne_iff_ne.mpr c6
   obtain rfl := Option.some.inj H
   go_enter Tryz.func170, Tryz.ntmps170
   go_wp2_with (first | ((with_reducible refine gate_dst (N := 4) rfl ?_); refine bE 4 #[.string a0_0, .int .i64 a0_1, .int .i64 a0_2, .string a0_3] 93 ?_; intro gb954 hg w16 hbox hb; have BK954 := Aside0.mk (hbox); have GE954 := bG hg; replace HB := BS hb; have NB1_954 := bN BKrg1_ hg; have NB954_1 := bM BKrg1_ hg; replace BKrg1_ := KB BKrg1_ hb; have NB2_954 := bN BKrg2_ hg; have NB954_2 := bM BKrg2_ hg; replace BKrg2_ := KB BKrg2_ hb; have NB3_954 := bN BKrg3_ hg; have NB954_3 := bM BKrg3_ hg; replace BKrg3_ := KB BKrg3_ hb; clear hb hbox hg; have hnb17 := NB954_1.out; have hnc17 := NB1_954.out; have hnb18 := NB954_2.out; have hnc18 := NB2_954.out; have hnb19 := NB954_3.out; have hnc19 := NB3_954.out; have hcz20 := cz4 BK954; have hcz21 := cz1 BKrg1_; have hcz22 := cz1 BKrg2_))
   repeat (go_quiet (first | ((with_reducible refine gate_dst (N := 4) rfl ?_); refine bE 4 #[.string a0_0, .int .i64 a0_1, .int .i64 a0_2, .string a0_3] 93 ?_; intro gb954 hg w16 hbox hb; have BK954 := Aside0.mk (hbox); have GE954 := bG hg; replace HB := BS hb; have NB1_954 := bN BKrg1_ hg; have NB954_1 := bM BKrg1_ hg; replace BKrg1_ := KB BKrg1_ hb; have NB2_954 := bN BKrg2_ hg; have NB954_2 := bM BKrg2_ hg; replace BKrg2_ := KB BKrg2_ hb; have NB3_954 := bN BKrg3_ hg; have NB954_3 := bM BKrg3_ hg; replace BKrg3_ := KB BKrg3_ hb; clear hb hbox hg; have hnb17 := NB954_1.out; have hnc17 := NB1_954.out; have hnb18 := NB954_2.out; have hnc18 := NB2_954.out; have hnb19 := NB954_3.out; have hnc19 := NB3_954.out; have hcz20 := cz4 BK954; have hcz21 := cz1 BKrg1_; have hcz22 := cz1 BKrg2_)); try go_wp2_with (first | ((with_reducible refine gate_dst (N := 4) rfl ?_); refine bE 4 #[.string a0_0, .int .i64 a0_1, .int .i64 a0_2, .string a0_3] 93 ?_; intro gb954 hg w16 hbox hb; have BK954 := Aside0.mk (hbox); have GE954 := bG hg; replace HB := BS hb; have NB1_954 := bN BKrg1_ hg; have NB954_1 := bM BKrg1_ hg; replace BKrg1_ := KB BKrg1_ hb; have NB2_954 := bN BKrg2_ hg; have NB954_2 := bM BKrg2_ hg; replace BKrg2_ := KB BKrg2_ hb; have NB3_954 := bN BKrg3_ hg; have NB954_3 := bM BKrg3_ hg; replace BKrg3_ := KB BKrg3_ hb; clear hb hbox hg; have hnb17 := NB954_1.out; have hnc17 := NB1_954.out; have hnb18 := NB954_2.out; have hnc18 := NB2_954.out; have hnb19 := NB954_3.out; have hnc19 := NB3_954.out; have hcz20 := cz4 BK954; have hcz21 := cz1 BKrg1_; have hcz22 := cz1 BKrg2_)))
   go_ret
   exact ⟨TE, TB⟩
 ·rw [if_neg c5] at H
  have c5b0 : (a0_0.toList == a1_0.toList) = false := beq_eq_false_iff_ne.mpr c5
  have c5b1 : (a0_0.toList != a1_0.toList) = true := bne_iff_ne.mpr c5
  obtain rfl := Option.some.inj H
  go_enter Tryz.func170, Tryz.ntmps170
  go_wp2_with (first | ((with_reducible refine gate_dst (N := 4) rfl ?_); refine bE 4 #[.string a0_0, .int .i64 a0_1, .int .i64 a0_2, .string a0_3] 93 ?_; intro gb954 hg w23 hbox hb; have BK954 := Aside0.mk (hbox); have GE954 := bG hg; replace HB := BS hb; have NB1_954 := bN BKrg1_ hg; have NB954_1 := bM BKrg1_ hg; replace BKrg1_ := KB BKrg1_ hb; have NB2_954 := bN BKrg2_ hg; have NB954_2 := bM BKrg2_ hg; replace BKrg2_ := KB BKrg2_ hb; have NB3_954 := bN BKrg3_ hg; have NB954_3 := bM BKrg3_ hg; replace BKrg3_ := KB BKrg3_ hb; clear hb hbox hg; have hnb24 := NB954_1.out; have hnc24 := NB1_954.out; have hnb25 := NB954_2.out; have hnc25 := NB2_954.out; have hnb26 := NB954_3.out; have hnc26 := NB3_954.out; have hcz27 := cz4 BK954; have hcz28 := cz1 BKrg1_))
  repeat (go_quiet (first | ((with_reducible refine gate_dst (N := 4) rfl ?_); refine bE 4 #[.string a0_0, .int .i64 a0_1, .int .i64 a0_2, .string a0_3] 93 ?_; intro gb954 hg w23 hbox hb; have BK954 := Aside0.mk (hbox); have GE954 := bG hg; replace HB := BS hb; have NB1_954 := bN BKrg1_ hg; have NB954_1 := bM BKrg1_ hg; replace BKrg1_ := KB BKrg1_ hb; have NB2_954 := bN BKrg2_ hg; have NB954_2 := bM BKrg2_ hg; replace BKrg2_ := KB BKrg2_ hb; have NB3_954 := bN BKrg3_ hg; have NB954_3 := bM BKrg3_ hg; replace BKrg3_ := KB BKrg3_ hb; clear hb hbox hg; have hnb24 := NB954_1.out; have hnc24 := NB1_954.out; have hnb25 := NB954_2.out; have hnc25 := NB2_954.out; have hnb26 := NB954_3.out; have hnc26 := NB3_954.out; have hcz27 := cz4 BK954; have hcz28 := cz1 BKrg1_)); try go_wp2_with (first | ((with_reducible refine gate_dst (N := 4) rfl ?_); refine bE 4 #[.string a0_0, .int .i64 a0_1, .int .i64 a0_2, .string a0_3] 93 ?_; intro gb954 hg w23 hbox hb; have BK954 := Aside0.mk (hbox); have GE954 := bG hg; replace HB := BS hb; have NB1_954 := bN BKrg1_ hg; have NB954_1 := bM BKrg1_ hg; replace BKrg1_ := KB BKrg1_ hb; have NB2_954 := bN BKrg2_ hg; have NB954_2 := bM BKrg2_ hg; replace BKrg2_ := KB BKrg2_ hb; have NB3_954 := bN BKrg3_ hg; have NB954_3 := bM BKrg3_ hg; replace BKrg3_ := KB BKrg3_ hb; clear hb hbox hg; have hnb24 := NB954_1.out; have hnc24 := NB1_954.out; have hnb25 := NB954_2.out; have hnc25 := NB2_954.out; have hnb26 := NB954_3.out; have hnc26 := NB3_954.out; have hcz27 := cz4 BK954; have hcz28 := cz1 BKrg1_)))
  go_ret
  exact ⟨TE, TB⟩
end
section
/-! ### slices_IndexFunc_impl_Record_impl_Record_areOne_1: function 122 -/
def slices_IndexFunc_impl_Record_impl_Record_areOne_1.l0 : Nat → List (S_Record) → Int → Int → ByteArray → Int → List (S_Record) → Option (Int)
 | 0, _, _, _, _, _, _ => none
 | k + 1, x0, x7, x8, x59000, x60000, x61000 => if x8 < x7 then (if 0 ≤ x8 then (if x8 < (x0.length : Int) then ((impl_areOne_1.f ((rd_TRecord x0 x8).f0) ((rd_TRecord x0 x8).f1) ((rd_TRecord x0 x8).f2) ((rd_TRecord x0 x8).f3) x59000 x60000 x61000).bind fun t957 => (if t957 = true then (some x8) else (slices_IndexFunc_impl_Record_impl_Record_areOne_1.l0 k x0 x7 (wrap64 (x8 + 1)) x59000 x60000 x61000))) else (none)) else (none)) else (some (-1))
def slices_IndexFunc_impl_Record_impl_Record_areOne_1.f (k : Nat) (l0 : List (S_Record)) (a1_0 : ByteArray) (a1_1 : Int) (l1_2 : List (S_Record)) : Option (Int) := slices_IndexFunc_impl_Record_impl_Record_areOne_1.l0 k l0 (l0.length : Int) 0 a1_0 a1_1 l1_2
theorem slices_IndexFunc_impl_Record_impl_Record_areOne_1.calls (k : Nat) (A0 : Option Addr) (c0 : Nat) (l0 : List (S_Record)) (g1_0_ g1_1_ g1_2_ : Nat) (a1_0 : ByteArray) (a1_1 : Int) (A1_2 : Option Addr) (c1_2 : Nat) (l1_2 : List (S_Record)) (r : Int) (w : World) (hr0 : Kd.C k_Record w A0 l0.length l0) (hc0 : l0.length ≤ c0) (hr1_2 : Kd.C k_Record w A1_2 l1_2.length l1_2) (hc1_2 : l1_2.length ≤ c1_2) (hkg1_0_ : w.heap[g1_0_]? = some (.cells #[.string a1_0] 9 (0, 0))) (hkg1_1_ : w.heap[g1_1_]? = some (.cells #[.int .i64 a1_1] 3 (0, 0))) (hkg1_2_ : w.heap[g1_2_]? = some (.cells #[.slice A1_2 l1_2.length c1_2] 27 (0, 0))) (h : slices_IndexFunc_impl_Record_impl_Record_areOne_1.f k l0 a1_0 a1_1 l1_2 = some r) :
  Calls Tryz.prog 122 #[.slice A0 l0.length c0, .func (.func 170) #[] #[.pointer (some ⟨g1_0_, 0, none⟩), .pointer (some ⟨g1_1_, 0, none⟩), .pointer (some ⟨g1_2_, 0, none⟩)]] w fun e w' => e = .returned (.int .i64 r) ∧ Below w.heap.size w w' := by
 have hu93 := Tryz.underlying93
 have HR0 := Aside0.mk hr0
 have HC0 := Aside0.mk hc0
 clear hr0 hc0
 have HR1_2 := Aside0.mk hr1_2
 have HC1_2 := Aside0.mk hc1_2
 clear hr1_2 hc1_2
 have BKrg1_0_ := Aside0.mk hkg1_0_
 clear hkg1_0_
 have BKrg1_1_ := Aside0.mk hkg1_1_
 clear hkg1_1_
 have BKrg1_2_ := Aside0.mk hkg1_2_
 clear hkg1_2_
 have HB := Aside0.mk (Below.refl w.heap.size w)
 have H : (slices_IndexFunc_impl_Record_impl_Record_areOne_1.l0 k l0 (l0.length : Int) 0 a1_0 a1_1 l1_2) = some r := h
 clear h
 have H' := Aside0.mk H
 clear H
 go_enter Tryz.func122, Tryz.ntmps122
 go_wp2
 go_loopg [8] k (fun kq v8 w' => ∃ (x8_1 : Int), v8 = .int .i64 x8_1 ∧ Aside0 (slices_IndexFunc_impl_Record_impl_Record_areOne_1.l0 kq l0 (l0.length : Int) x8_1 a1_0 a1_1 l1_2 = some r) ∧ Aside0 (kq ≤ k) ∧ Aside0 (w'.heap[g1_0_]? = some (.cells #[.string a1_0] 9 (0, 0))) ∧ Aside0 (w'.heap[g1_1_]? = some (.cells #[.int .i64 a1_1] 3 (0, 0))) ∧ Aside0 (w'.heap[g1_2_]? = some (.cells #[(.slice A1_2 l1_2.length c1_2)] 27 (0, 0))) ∧ Aside0 (Below w.heap.size w w'))
 case atStart => exact ⟨(0), TF, H', ⟨Nat.le_refl _⟩, KW BKrg1_0_, KW BKrg1_1_, KW BKrg1_2_, ⟨TB⟩⟩
 case round =>
  clear H'
  try clear c1
  try clear p2
  obtain ⟨x8_1, rfl, HA, HK1, BKrg1_0_, BKrg1_1_, BKrg1_2_, HB⟩ := hrel
  cases gk with
  | zero => exact absurd HA.out (by simp [slices_IndexFunc_impl_Record_impl_Record_areOne_1.l0])
  | succ k1 =>
   have H := HA.out
   clear HA
   simp only [slices_IndexFunc_impl_Record_impl_Record_areOne_1.l0] at H
   by_cases c3 : x8_1 < (l0.length : Int)
   ·rw [if_pos c3] at H
    have c3b0 : decide (x8_1 < (l0.length : Int)) = true := decide_eq_true c3
    clear c3
    obtain ⟨c4, H⟩ := ifn H
    have c4b0 : decide (0 ≤ x8_1) = true := decide_eq_true c4
    clear c4
    obtain ⟨c5, H⟩ := ifn H
    have c5b0 : decide (x8_1 < (l0.length : Int)) = true := decide_eq_true c5
    clear c5
    obtain ⟨t957, A6, H⟩ := bnd H
    by_cases c7 : t957 = true
    ·subst c7
     replace H := ift H
     obtain rfl := Option.some.inj H
     have p956 : 0 ≤ (x8_1 : Int) := TD
     have q956 : x8_1 < (l0.length : Int) := TD
     obtain ⟨ad956, e956, hx956_0, hx956_1, hx956_2, hx956_3⟩ := at_TRecord (Kd.C_below HR0.out HB.out) x8_1 p956 q956
     cases e956
     replace p956 := eq_true p956
     replace q956 := eq_true q956
     go_wp2_with (first | (go_at_call 170; (with_reducible refine (impl_areOne_1.calls ((rd_TRecord l0 x8_1).f0) ((rd_TRecord l0 x8_1).f1) ((rd_TRecord l0 x8_1).f2) ((rd_TRecord l0 x8_1).f3) g1_0_ a1_0 g1_1_ a1_1 g1_2_ A1_2 c1_2 l1_2 true _ ?side1 ?side2 ?side3 ?side4 ?side5 A6.out).mono ?_); (case side1 => exact CW ((Kd.C_below HR1_2.out HB.out))); (case side2 => exact HC1_2.out); (case side3 => exact (KW BKrg1_0_).out); (case side4 => exact (KW BKrg1_1_).out); (case side5 => exact (KW BKrg1_2_).out); rintro e w8 ⟨rfl, hb⟩; replace BKrg1_0_ := KB BKrg1_0_ hb; replace BKrg1_1_ := KB BKrg1_1_ hb; replace BKrg1_2_ := KB BKrg1_2_ hb; replace HB := BS hb; (try clear hb); (try clear hb2); (try clear hk); (try clear hi)))
     go_ret
     exact ⟨TE, TB⟩
    ·replace c7 := Bool.eq_false_iff.mpr c7
     subst c7
     replace H := iff' H
     have H' := Aside0.mk H
     clear H
     have p956 : 0 ≤ (x8_1 : Int) := TD
     have q956 : x8_1 < (l0.length : Int) := TD
     obtain ⟨ad956, e956, hx956_0, hx956_1, hx956_2, hx956_3⟩ := at_TRecord (Kd.C_below HR0.out HB.out) x8_1 p956 q956
     cases e956
     replace p956 := eq_true p956
     replace q956 := eq_true q956
     go_wp2_with (first | (go_at_call 170; (with_reducible refine (impl_areOne_1.calls ((rd_TRecord l0 x8_1).f0) ((rd_TRecord l0 x8_1).f1) ((rd_TRecord l0 x8_1).f2) ((rd_TRecord l0 x8_1).f3) g1_0_ a1_0 g1_1_ a1_1 g1_2_ A1_2 c1_2 l1_2 false _ ?side1 ?side2 ?side3 ?side4 ?side5 A6.out).mono ?_); (case side1 => exact CW ((Kd.C_below HR1_2.out HB.out))); (case side2 => exact HC1_2.out); (case side3 => exact (KW BKrg1_0_).out); (case side4 => exact (KW BKrg1_1_).out); (case side5 => exact (KW BKrg1_2_).out); rintro e w9 ⟨rfl, hb⟩; replace BKrg1_0_ := KB BKrg1_0_ hb; replace BKrg1_1_ := KB BKrg1_1_ hb; replace BKrg1_2_ := KB BKrg1_2_ hb; replace HB := BS hb; (try clear hb); (try clear hb2); (try clear hk); (try clear hi)))
     go_roundg k1
     case measure => have := HK1.out; omega
     case rel => exact ⟨(wrap64 (x8_1 + 1)), TF, H', ⟨TM⟩, KW BKrg1_0_, KW BKrg1_1_, KW BKrg1_2_, ⟨TB⟩⟩
   ·rw [if_neg c3] at H
    have c3b0 : decide (x8_1 < (l0.length : Int)) = false := decide_eq_false c3
    clear c3
    obtain rfl := Option.some.inj H
    go_wp2
    go_ret
    exact ⟨TE, TB⟩
end
section
/-! ### slices_ContainsFunc_impl_Record_impl_Record_areOne_1: function 66 -/
def slices_ContainsFunc_impl_Record_impl_Record_areOne_1.f (k : Nat) (l0 : List (S_Record)) (a1_0 : ByteArray) (a1_1 : Int) (l1_2 : List (S_Record)) : Option (Bool) := (slices_IndexFunc_impl_Record_impl_Record_areOne_1.f k l0 a1_0 a1_1 l1_2).bind fun t958 => (some (decide (t958 ≥ 0)))
theorem slices_ContainsFunc_impl_Record_impl_Record_areOne_1.calls (k : Nat) (A0 : Option Addr) (c0 : Nat) (l0 : List (S_Record)) (g1_0_ g1_1_ g1_2_ : Nat) (a1_0 : ByteArray) (a1_1 : Int) (A1_2 : Option Addr) (c1_2 : Nat) (l1_2 : List (S_Record)) (r : Bool) (w : World) (hr0 : Kd.C k_Record w A0 l0.length l0) (hc0 : l0.length ≤ c0) (hr1_2 : Kd.C k_Record w A1_2 l1_2.length l1_2) (hc1_2 : l1_2.length ≤ c1_2) (hkg1_0_ : w.heap[g1_0_]? = some (.cells #[.string a1_0] 9 (0, 0))) (hkg1_1_ : w.heap[g1_1_]? = some (.cells #[.int .i64 a1_1] 3 (0, 0))) (hkg1_2_ : w.heap[g1_2_]? = some (.cells #[.slice A1_2 l1_2.length c1_2] 27 (0, 0))) (h : slices_ContainsFunc_impl_Record_impl_Record_areOne_1.f k l0 a1_0 a1_1 l1_2 = some r) :
  Calls Tryz.prog 66 #[.slice A0 l0.length c0, .func (.func 170) #[] #[.pointer (some ⟨g1_0_, 0, none⟩), .pointer (some ⟨g1_1_, 0, none⟩), .pointer (some ⟨g1_2_, 0, none⟩)]] w fun e w' => e = .returned (.bool r) ∧ Below w.heap.size w w' := by
 have HR0 := Aside0.mk hr0
 have HC0 := Aside0.mk hc0
 clear hr0 hc0
 have HR1_2 := Aside0.mk hr1_2
 have HC1_2 := Aside0.mk hc1_2
 clear hr1_2 hc1_2
 have BKrg1_0_ := Aside0.mk hkg1_0_
 clear hkg1_0_
 have BKrg1_1_ := Aside0.mk hkg1_1_
 clear hkg1_1_
 have BKrg1_2_ := Aside0.mk hkg1_2_
 clear hkg1_2_
 have HB := Aside0.mk (Below.refl w.heap.size w)
 have H : ((slices_IndexFunc_impl_Record_impl_Record_areOne_1.f k l0 a1_0 a1_1 l1_2).bind fun t958 => (some (decide (t958 ≥ 0)))) = some r := h
 clear h
 obtain ⟨t958, A3, H⟩ := bnd H
 obtain rfl := Option.some.inj H
 go_enter Tryz.func66, Tryz.ntmps66
 go_wp2_with (first | ((with_reducible refine gate_callee (f := 122) rfl ?_); refine goesL_ (some 7) rfl rfl Tryz.func122 KR rfl #[.slice A0 l0.length c0, .func (.func 170) #[] #[.pointer (some ⟨g1_0_, 0, none⟩), .pointer (some ⟨g1_1_, 0, none⟩), .pointer (some ⟨g1_2_, 0, none⟩)]] rfl TA ?_; (with_reducible refine (slices_IndexFunc_impl_Record_impl_Record_areOne_1.calls k _ _ l0 g1_0_ g1_1_ g1_2_ a1_0 a1_1 A1_2 c1_2 l1_2 t958 _ ?side1 ?side2 ?side3 ?side4 ?side5 ?side6 ?side7 A3.out).mono ?_); (case side1 => exact CW (HR0.out)); (case side2 => exact HC0.out); (case side3 => exact CW (HR1_2.out)); (case side4 => exact HC1_2.out); (case side5 => exact (KW BKrg1_0_).out); (case side6 => exact (KW BKrg1_1_).out); (case side7 => exact (KW BKrg1_2_).out); rintro e w4 ⟨rfl, hb⟩; refine ⟨_, rfl, ?_⟩; replace BKrg1_0_ := KB BKrg1_0_ hb; replace BKrg1_1_ := KB BKrg1_1_ hb; replace BKrg1_2_ := KB BKrg1_2_ hb; replace HB := BS hb; (try clear hb); (try clear hb2); (try clear hk); (try clear hi)))
 go_ret
 exact ⟨TE, TB⟩
end
section
/-! ### impl_areOne: function 137 -/
def impl_areOne.f (k : Nat) (l0 : List (S_Record)) (a1 : ByteArray) (a2 : Int) : Option (Bool) := (impl_within.f (l0.length : Int) 1 12).bind fun t962 => (if t962 = true then ((impl_areRising.f k l0).bind fun t963 => (if t963 = true then ((slices_ContainsFunc_impl_Record_impl_Record_areOne_1.f k l0 a1 a2 l0).bind fun t964 => (some (!t964))) else (some false))) else (some false))
theorem impl_areOne.calls (k : Nat) (A0 : Option Addr) (c0 : Nat) (l0 : List (S_Record)) (a1 : ByteArray) (a2 : Int) (r : Bool) (w : World) (hr0 : Kd.C k_Record w A0 l0.length l0) (hc0 : l0.length ≤ c0) (hG_ : Glob w) (h : impl_areOne.f k l0 a1 a2 = some r) :
  Calls Tryz.prog 137 #[.slice A0 l0.length c0, .string a1, .int .i64 a2] w fun e w' => e = .returned (.bool r) ∧ Below w.heap.size w w' := by
 have HR0 := Aside0.mk hr0
 have HC0 := Aside0.mk hc0
 clear hr0 hc0
 have HGL := Aside0.mk hG_
 clear hG_
 have HB := Aside0.mk (Below.refl w.heap.size w)
 have H : ((impl_within.f (l0.length : Int) 1 12).bind fun t962 => (if t962 = true then ((impl_areRising.f k l0).bind fun t963 => (if t963 = true then ((slices_ContainsFunc_impl_Record_impl_Record_areOne_1.f k l0 a1 a2 l0).bind fun t964 => (some (!t964))) else (some false))) else (some false))) = some r := h
 clear h
 obtain ⟨t962, A4, H⟩ := bnd H
 by_cases c5 : t962 = true
 ·subst c5
  replace H := ift H
  obtain ⟨t963, A6, H⟩ := bnd H
  by_cases c7 : t963 = true
  ·subst c7
   replace H := ift H
   obtain ⟨t964, A8, H⟩ := bnd H
   obtain rfl := Option.some.inj H
   go_enter Tryz.func137, Tryz.ntmps137
   go_wp2_with (first | ((with_reducible refine gate_dst (N := 3) rfl ?_); refine bE 3 #[.slice A0 l0.length c0] 27 ?_; intro gb959 hg w9 hbox hb; have BK959 := Aside0.mk (hbox); have GE959 := bG hg; replace HB := BS hb; clear hb hbox hg) | ((with_reducible refine gate_dst (N := 4) rfl ?_); refine bE 4 #[.string a1] 9 ?_; intro gb960 hg w10 hbox hb; have BK960 := Aside0.mk (hbox); have GE960 := bG hg; replace HB := BS hb; have NB959_960 := bN BK959 hg; have NB960_959 := bM BK959 hg; replace BK959 := KB BK959 hb; clear hb hbox hg) | ((with_reducible refine gate_dst (N := 5) rfl ?_); refine bE 5 #[.int .i64 a2] 3 ?_; intro gb961 hg w11 hbox hb; have BK961 := Aside0.mk (hbox); have GE961 := bG hg; replace HB := BS hb; have NB959_961 := bN BK959 hg; have NB961_959 := bM BK959 hg; replace BK959 := KB BK959 hb; have NB960_961 := bN BK960 hg; have NB961_960 := bM BK960 hg; replace BK960 := KB BK960 hb; clear hb hbox hg; have hnb12 := NB959_960.out; have hnc12 := NB960_959.out; have hnb13 := NB959_961.out; have hnc13 := NB961_959.out; have hcz14 := cz1 BK959) | ((with_reducible refine gate_callee (f := 86) rfl ?_); refine goesL_ (some 9) rfl rfl Tryz.func86 KR rfl #[.int .i64 (l0.length : Int), .int .i64 1, .int .i64 12] rfl TA ?_; (with_reducible refine (impl_within.calls (l0.length : Int) 1 12 true _ A4.out).mono ?_); rintro e w' ⟨rfl, ⟨nd, rfl⟩⟩; refine ⟨_, rfl, ?_⟩) | (go_at_call 121; (with_reducible refine (impl_areRising.calls k _ _ l0 true _ ?side1 ?side2 ?side3 A6.out).mono ?_); (case side1 => exact CW ((Kd.C_below HR0.out TB))); (case side2 => exact HC0.out); (case side3 => exact GW HGL); rintro e w15 ⟨rfl, hb⟩; replace BK959 := KB BK959 hb; replace BK960 := KB BK960 hb; replace BK961 := KB BK961 hb; replace HB := BS hb; (try clear hb); (try clear hb2); (try clear hk); (try clear hi); have hcz16 := cz1 BK959) | (go_at_call 66; (with_reducible refine (slices_ContainsFunc_impl_Record_impl_Record_areOne_1.calls k _ _ l0 gb960 gb961 gb959 a1 a2 A0 c0 l0 t964 _ ?side1 ?side2 ?side3 ?side4 ?side5 ?side6 ?side7 A8.out).mono ?_); (case side1 => exact CW ((Kd.C_below HR0.out HB.out))); (case side2 => exact HC0.out); (case side3 => exact CW ((Kd.C_below HR0.out HB.out))); (case side4 => exact HC0.out); (case side5 => exact (KW BK960).out); (case side6 => exact (KW BK961).out); (case side7 => exact (KW BK959).out); rintro e w17 ⟨rfl, hb⟩; replace BK959 := KB BK959 hb; replace BK960 := KB BK960 hb; replace BK961 := KB BK961 hb; replace HB := BS hb; (try clear hb); (try clear hb2); (try clear hk); (try clear hi)))
   go_ret
   exact ⟨TE, TB⟩
  ·replace c7 := Bool.eq_false_iff.mpr c7
   subst c7
   replace H := iff' H
   obtain rfl := Option.some.inj H
   go_enter Tryz.func137, Tryz.ntmps137
   go_wp2_with (first | ((with_reducible refine gate_dst (N := 3) rfl ?_); refine bE 3 #[.slice A0 l0.length c0] 27 ?_; intro gb959 hg w18 hbox hb; have BK959 := Aside0.mk (hbox); have GE959 := bG hg; replace HB := BS hb; clear hb hbox hg) | ((with_reducible refine gate_dst (N := 4) rfl ?_); refine bE 4 #[.string a1] 9 ?_; intro gb960 hg w19 hbox hb; have BK960 := Aside0.mk (hbox); have GE960 := bG hg; replace HB := BS hb; have NB959_960 := bN BK959 hg; have NB960_959 := bM BK959 hg; replace BK959 := KB BK959 hb; clear hb hbox hg) | ((with_reducible refine gate_dst (N := 5) rfl ?_); refine bE 5 #[.int .i64 a2] 3 ?_; intro gb961 hg w20 hbox hb; have BK961 := Aside0.mk (hbox); have GE961 := bG hg; replace HB := BS hb; have NB959_961 := bN BK959 hg; have NB961_959 := bM BK959 hg; replace BK959 := KB BK959 hb; have NB960_961 := bN BK960 hg; have NB961_960 := bM BK960 hg; replace BK960 := KB BK960 hb; clear hb hbox hg; have hnb21 := NB959_960.out; have hnc21 := NB960_959.out; have hnb22 := NB959_961.out; have hnc22 := NB961_959.out; have hcz23 := cz1 BK959) | ((with_reducible refine gate_callee (f := 86) rfl ?_); refine goesL_ (some 9) rfl rfl Tryz.func86 KR rfl #[.int .i64 (l0.length : Int), .int .i64 1, .int .i64 12] rfl TA ?_; (with_reducible refine (impl_within.calls (l0.length : Int) 1 12 true _ A4.out).mono ?_); rintro e w' ⟨rfl, ⟨nd, rfl⟩⟩; refine ⟨_, rfl, ?_⟩) | (go_at_call 121; (with_reducible refine (impl_areRising.calls k _ _ l0 false _ ?side1 ?side2 ?side3 A6.out).mono ?_); (case side1 => exact CW ((Kd.C_below HR0.out TB))); (case side2 => exact HC0.out); (case side3 => exact GW HGL); rintro e w24 ⟨rfl, hb⟩; replace BK959 := KB BK959 hb; replace BK960 := KB BK960 hb; replace BK961 := KB BK961 hb; replace HB := BS hb; (try clear hb); (try clear hb2); (try clear hk); (try clear hi)))
   go_ret
   exact ⟨TE, TB⟩
 ·replace c5 := Bool.eq_false_iff.mpr c5
  subst c5
  replace H := iff' H
  obtain rfl := Option.some.inj H
  go_enter Tryz.func137, Tryz.ntmps137
  go_wp2_with (first | ((with_reducible refine gate_dst (N := 3) rfl ?_); refine bE 3 #[.slice A0 l0.length c0] 27 ?_; intro gb959 hg w25 hbox hb; have BK959 := Aside0.mk (hbox); have GE959 := bG hg; replace HB := BS hb; clear hb hbox hg) | ((with_reducible refine gate_dst (N := 4) rfl ?_); refine bE 4 #[.string a1] 9 ?_; intro gb960 hg w26 hbox hb; have BK960 := Aside0.mk (hbox); have GE960 := bG hg; replace HB := BS hb; have NB959_960 := bN BK959 hg; have NB960_959 := bM BK959 hg; replace BK959 := KB BK959 hb; clear hb hbox hg) | ((with_reducible refine gate_dst (N := 5) rfl ?_); refine bE 5 #[.int .i64 a2] 3 ?_; intro gb961 hg w27 hbox hb; have BK961 := Aside0.mk (hbox); have GE961 := bG hg; replace HB := BS hb; have NB959_961 := bN BK959 hg; have NB961_959 := bM BK959 hg; replace BK959 := KB BK959 hb; have NB960_961 := bN BK960 hg; have NB961_960 := bM BK960 hg; replace BK960 := KB BK960 hb; clear hb hbox hg; have hnb28 := NB959_960.out; have hnc28 := NB960_959.out; have hnb29 := NB959_961.out; have hnc29 := NB961_959.out; have hcz30 := cz1 BK959) | ((with_reducible refine gate_callee (f := 86) rfl ?_); refine goesL_ (some 9) rfl rfl Tryz.func86 KR rfl #[.int .i64 (l0.length : Int), .int .i64 1, .int .i64 12] rfl TA ?_; (with_reducible refine (impl_within.calls (l0.length : Int) 1 12 false _ A4.out).mono ?_); rintro e w' ⟨rfl, ⟨nd, rfl⟩⟩; refine ⟨_, rfl, ?_⟩))
  go_ret
  exact ⟨TE, TB⟩
end
section
/-! ### impl_isEntry: function 87 -/
def impl_isEntry.j0 : Nat → Bool → ByteArray → Int → Bool → List (S_Record) → Int → Int → Option (Bool)
 | 0, _, _, _, _, _, _, _ => none
 | k + 1, x34, x967000, x967001, x967002, x967003, x967004, x967005 => if x34 = true then (some false) else (if x967002 = true then (some ((x967003.length : Int) == 0)) else ((impl_areOne.f k x967003 x967000 x967001).bind fun t971 => (some t971)))
def impl_isEntry.f (k : Nat) (a0_0 : Int) (l0_1 : List (S_Entry)) (a1_0 : ByteArray) (a1_1 : Int) (a1_2 : Bool) (l1_3 : List (S_Record)) (a1_4 : Int) (a1_5 : Int) : Option (Bool) := (impl_GoodName.f k a1_0).bind fun t967 => (if t967 = true then ((impl_isType.f k a1_1).bind fun t968 => (if t968 = true then ((impl_within.f a1_4 (wrap64 (a0_0 + 1)) (wrap64 (a0_0 + 100000))).bind fun t969 => (if t969 = true then ((impl_within.f a1_5 1 a0_0).bind fun t970 => (impl_isEntry.j0 k (!t970) a1_0 a1_1 a1_2 l1_3 a1_4 a1_5)) else (impl_isEntry.j0 k true a1_0 a1_1 a1_2 l1_3 a1_4 a1_5))) else (impl_isEntry.j0 k true a1_0 a1_1 a1_2 l1_3 a1_4 a1_5))) else (impl_isEntry.j0 k true a1_0 a1_1 a1_2 l1_3 a1_4 a1_5))
theorem impl_isEntry.calls (k : Nat) (a0_0 : Int) (A0_1 : Option Addr) (c0_1 : Nat) (l0_1 : List (S_Entry)) (a1_0 : ByteArray) (a1_1 : Int) (a1_2 : Bool) (A1_3 : Option Addr) (c1_3 : Nat) (l1_3 : List (S_Record)) (a1_4 : Int) (a1_5 : Int) (r : Bool) (w : World) (hr0_1 : Kd.C k_Entry w A0_1 l0_1.length l0_1) (hc0_1 : l0_1.length ≤ c0_1) (hr1_3 : Kd.C k_Record w A1_3 l1_3.length l1_3) (hc1_3 : l1_3.length ≤ c1_3) (hG_ : Glob w) (h : impl_isEntry.f k a0_0 l0_1 a1_0 a1_1 a1_2 l1_3 a1_4 a1_5 = some r) :
  Calls Tryz.prog 87 #[.agg #[.int .i64 a0_0, .slice A0_1 l0_1.length c0_1], .agg #[.string a1_0, .int .i64 a1_1, .bool a1_2, .slice A1_3 l1_3.length c1_3, .int .i64 a1_4, .int .i64 a1_5]] w fun e w' => e = .returned (.bool r) ∧ Below w.heap.size w w' := by
 have hu54 := Tryz.underlying54
 have hu107 := Tryz.underlying107
 have HR0_1 := Aside0.mk hr0_1
 have HC0_1 := Aside0.mk hc0_1
 clear hr0_1 hc0_1
 have HR1_3 := Aside0.mk hr1_3
 have HC1_3 := Aside0.mk hc1_3
 clear hr1_3 hc1_3
 have HGL := Aside0.mk hG_
 clear hG_
 have HB := Aside0.mk (Below.refl w.heap.size w)
 have H : ((impl_GoodName.f k a1_0).bind fun t967 => (if t967 = true then ((impl_isType.f k a1_1).bind fun t968 => (if t968 = true then ((impl_within.f a1_4 (wrap64 (a0_0 + 1)) (wrap64 (a0_0 + 100000))).bind fun t969 => (if t969 = true then ((impl_within.f a1_5 1 a0_0).bind fun t970 => (impl_isEntry.j0 k (!t970) a1_0 a1_1 a1_2 l1_3 a1_4 a1_5)) else (impl_isEntry.j0 k true a1_0 a1_1 a1_2 l1_3 a1_4 a1_5))) else (impl_isEntry.j0 k true a1_0 a1_1 a1_2 l1_3 a1_4 a1_5))) else (impl_isEntry.j0 k true a1_0 a1_1 a1_2 l1_3 a1_4 a1_5))) = some r := h
 clear h
 have HC3 := Aside0.mk H
 clear H
 go_enter Tryz.func87, Tryz.ntmps87
 go_upto_region 1 with (first | ((with_reducible refine gate_dst (N := 2) rfl ?_); refine bE 2 #[.int .i64 a0_0, .slice A0_1 l0_1.length c0_1] 54 ?_; intro gb965 hg w4 hbox hb; have BK965 := Aside0.mk (hbox); have GE965 := bG hg; replace HB := BS hb; clear hb hbox hg) | ((with_reducible refine gate_dst (N := 3) rfl ?_); refine bE 3 #[.string a1_0, .int .i64 a1_1, .bool a1_2, .slice A1_3 l1_3.length c1_3, .int .i64 a1_4, .int .i64 a1_5] 107 ?_; intro gb966 hg w5 hbox hb; have BK966 := Aside0.mk (hbox); have GE966 := bG hg; replace HB := BS hb; have NB965_966 := bN BK965 hg; have NB966_965 := bM BK965 hg; replace BK965 := KB BK965 hb; clear hb hbox hg))
 (try simp only [Act.put, List.setIfInBounds_toArray, List.set_cons_zero, List.set_cons_succ])
 go_cut [34] (fun v34 wc => ∃ (kq : Nat) (x34_2 : Bool), v34 = .bool x34_2 ∧ Aside0 (impl_isEntry.j0 kq x34_2 a1_0 a1_1 a1_2 l1_3 a1_4 a1_5 = some r) ∧ Aside0 (kq ≤ k) ∧ Aside0 (wc.heap[gb965]? = some (.cells #[.int .i64 a0_0, (.slice A0_1 l0_1.length c0_1)] 54 (0, 0))) ∧ Aside0 (wc.heap[gb966]? = some (.cells #[.string a1_0, .int .i64 a1_1, .bool a1_2, (.slice A1_3 l1_3.length c1_3), .int .i64 a1_4, .int .i64 a1_5] 107 (0, 0))) ∧ Aside0 (Below w.heap.size w wc))
 case first =>
  have H := HC3.out
  clear HC3
  obtain ⟨t967, A6, H⟩ := bnd H
  by_cases c7 : t967 = true
  ·subst c7
   replace H := ift H
   obtain ⟨t968, A8, H⟩ := bnd H
   by_cases c9 : t968 = true
   ·subst c9
    replace H := ift H
    obtain ⟨t969, A10, H⟩ := bnd H
    by_cases c11 : t969 = true
    ·subst c11
     replace H := ift H
     obtain ⟨t970, A12, H⟩ := bnd H
     have H' := Aside0.mk H
     clear H
     have hnb13 := NB966_965.out
     have hnc13 := NB965_966.out
     have hcz14 := cz6 BK966
     go_wp2_with (first | ((with_reducible refine gate_callee (f := 77) rfl ?_); refine goesL_ (some 7) rfl rfl Tryz.func77 KR rfl #[.string a1_0] rfl TA ?_; (with_reducible refine (impl_GoodName.calls k a1_0 true _ A6.out).mono ?_); rintro e w15 ⟨rfl, hb⟩; refine ⟨_, rfl, ?_⟩; replace BK965 := KB BK965 hb; replace BK966 := KB BK966 hb; replace HB := BS hb; (try clear hb); (try clear hb2); (try clear hk); (try clear hi); have hcz16 := cz6 BK966) | (go_at_call 136; (with_reducible refine (impl_isType.calls k a1_1 true _ A8.out).mono ?_); rintro e w17 ⟨rfl, hb⟩; replace BK965 := KB BK965 hb; replace BK966 := KB BK966 hb; replace HB := BS hb; (try clear hb); (try clear hb2); (try clear hk); (try clear hi); have hcz18 := cz6 BK966; have hcz19 := cz2 BK965) | (go_at_call 86; (with_reducible refine (impl_within.calls a1_4 (wrap64 (a0_0 + 1)) (wrap64 (a0_0 + 100000)) true _ A10.out).mono ?_); rintro e w' ⟨rfl, ⟨nd, rfl⟩⟩) | (go_at_call 86; (with_reducible refine (impl_within.calls a1_5 1 a0_0 t970 _ A12.out).mono ?_); rintro e w' ⟨rfl, ⟨nd, rfl⟩⟩))
     go_meet
     case rel => exact ⟨_, (!t970), TF, H', ⟨by first | omega | exact Nat.le_refl _⟩, KW BK965, KW BK966, ⟨TB⟩⟩
    ·replace c11 := Bool.eq_false_iff.mpr c11
     subst c11
     replace H := iff' H
     have H' := Aside0.mk H
     clear H
     have hnb20 := NB966_965.out
     have hnc20 := NB965_966.out
     have hcz21 := cz6 BK966
     go_wp2_with (first | ((with_reducible refine gate_callee (f := 77) rfl ?_); refine goesL_ (some 7) rfl rfl Tryz.func77 KR rfl #[.string a1_0] rfl TA ?_; (with_reducible refine (impl_GoodName.calls k a1_0 true _ A6.out).mono ?_); rintro e w22 ⟨rfl, hb⟩; refine ⟨_, rfl, ?_⟩; replace BK965 := KB BK965 hb; replace BK966 := KB BK966 hb; replace HB := BS hb; (try clear hb); (try clear hb2); (try clear hk); (try clear hi); have hcz23 := cz6 BK966) | (go_at_call 136; (with_reducible refine (impl_isType.calls k a1_1 true _ A8.out).mono ?_); rintro e w24 ⟨rfl, hb⟩; replace BK965 := KB BK965 hb; replace BK966 := KB BK966 hb; replace HB := BS hb; (try clear hb); (try clear hb2); (try clear hk); (try clear hi); have hcz25 := cz6 BK966; have hcz26 := cz2 BK965) | (go_at_call 86; (with_reducible refine (impl_within.calls a1_4 (wrap64 (a0_0 + 1)) (wrap64 (a0_0 + 100000)) false _ A10.out).mono ?_); rintro e w' ⟨rfl, ⟨nd, rfl⟩⟩))
     go_meet
     case rel => exact ⟨_, (true), TF, H', ⟨by first | omega | exact Nat.le_refl _⟩, KW BK965, KW BK966, ⟨TB⟩⟩
   ·replace c9 := Bool.eq_false_iff.mpr c9
    subst c9
    replace H := iff' H
    have H' := Aside0.mk H
    clear H
    have hnb27 := NB966_965.out
    have hnc27 := NB965_966.out
    have hcz28 := cz6 BK966
    go_wp2_with (first | ((with_reducible refine gate_callee (f := 77) rfl ?_); refine goesL_ (some 7) rfl rfl Tryz.func77 KR rfl #[.string a1_0] rfl TA ?_; (with_reducible refine (impl_GoodName.calls k a1_0 true _ A6.out).mono ?_); rintro e w29 ⟨rfl, hb⟩; refine ⟨_, rfl, ?_⟩; replace BK965 := KB BK965 hb; replace BK966 := KB BK966 hb; replace HB := BS hb; (try clear hb); (try clear hb2); (try clear hk); (try clear hi); have hcz30 := cz6 BK966) | (go_at_call 136; (with_reducible refine (impl_isType.calls k a1_1 false _ A8.out).mono ?_); rintro e w31 ⟨rfl, hb⟩; replace BK965 := KB BK965 hb; replace BK966 := KB BK966 hb; replace HB := BS hb; (try clear hb); (try clear hb2); (try clear hk); (try clear hi)))
    go_meet
    case rel => exact ⟨_, (true), TF, H', ⟨by first | omega | exact Nat.le_refl _⟩, KW BK965, KW BK966, ⟨TB⟩⟩
  ·replace c7 := Bool.eq_false_iff.mpr c7
   subst c7
   replace H := iff' H
   have H' := Aside0.mk H
   clear H
   have hnb32 := NB966_965.out
   have hnc32 := NB965_966.out
   have hcz33 := cz6 BK966
   go_wp2_with (first | ((with_reducible refine gate_callee (f := 77) rfl ?_); refine goesL_ (some 7) rfl rfl Tryz.func77 KR rfl #[.string a1_0] rfl TA ?_; (with_reducible refine (impl_GoodName.calls k a1_0 false _ A6.out).mono ?_); rintro e w34 ⟨rfl, hb⟩; refine ⟨_, rfl, ?_⟩; replace BK965 := KB BK965 hb; replace BK966 := KB BK966 hb; replace HB := BS hb; (try clear hb); (try clear hb2); (try clear hk); (try clear hi)))
   go_meet
   case rel => exact ⟨_, (true), TF, H', ⟨by first | omega | exact Nat.le_refl _⟩, KW BK965, KW BK966, ⟨TB⟩⟩
 case rest =>
  clear HC3
  try clear c1
  try clear c2
  try clear p2
  try clear c3
  try clear p6
  try clear c7
  try clear c8
  try clear c9
  try clear c11
  try clear c13
  try clear c20
  try clear c27
  try clear c32
  try clear hcz14
  try clear hcz16
  try clear hcz18
  try clear hcz19
  try clear hcz21
  try clear hcz23
  try clear hcz25
  try clear hcz26
  try clear hcz28
  try clear hcz30
  try clear hcz33
  try clear hfz14_0
  try clear hfz14_1
  try clear hfz14_2
  try clear hfz14_3
  try clear hfz14_4
  try clear hfz14_5
  try clear hfz16_0
  try clear hfz16_1
  try clear hfz16_2
  try clear hfz16_3
  try clear hfz16_4
  try clear hfz16_5
  try clear hfz18_0
  try clear hfz18_1
  try clear hfz18_2
  try clear hfz18_3
  try clear hfz18_4
  try clear hfz18_5
  try clear hfz19_0
  try clear hfz19_1
  try clear hfz21_0
  try clear hfz21_1
  try clear hfz21_2
  try clear hfz21_3
  try clear hfz21_4
  try clear hfz21_5
  try clear hfz23_0
  try clear hfz23_1
  try clear hfz23_2
  try clear hfz23_3
  try clear hfz23_4
  try clear hfz23_5
  try clear hfz25_0
  try clear hfz25_1
  try clear hfz25_2
  try clear hfz25_3
  try clear hfz25_4
  try clear hfz25_5
  try clear hfz26_0
  try clear hfz26_1
  try clear hfz28_0
  try clear hfz28_1
  try clear hfz28_2
  try clear hfz28_3
  try clear hfz28_4
  try clear hfz28_5
  try clear hfz30_0
  try clear hfz30_1
  try clear hfz30_2
  try clear hfz30_3
  try clear hfz30_4
  try clear hfz30_5
  try clear hfz33_0
  try clear hfz33_1
  try clear hfz33_2
  try clear hfz33_3
  try clear hfz33_4
  try clear hfz33_5
  obtain ⟨kq, x34_2, rfl, HA, HJ2, BK965, BK966, HB⟩ := hcut
  cases kq with
  | zero => exact absurd HA.out (by simp [impl_isEntry.j0])
  | succ kj2 =>
   have H := HA.out
   clear HA
   simp only [impl_isEntry.j0] at H
   by_cases c35 : x34_2 = true
   ·subst c35
    replace H := ift H
    obtain rfl := Option.some.inj H
    go_wp2
    go_ret
    exact ⟨TE, TB⟩
   ·replace c35 := Bool.eq_false_iff.mpr c35
    subst c35
    replace H := iff' H
    by_cases c36 : a1_2 = true
    ·subst c36
     replace H := ift H
     obtain rfl := Option.some.inj H
     have hnb37 := NB966_965.out
     have hnc37 := NB965_966.out
     have hcz38 := cz6 BK966
     go_wp2
     go_ret
     exact ⟨TE, TB⟩
    ·replace c36 := Bool.eq_false_iff.mpr c36
     subst c36
     replace H := iff' H
     obtain ⟨t971, A39, H⟩ := bnd H
     obtain rfl := Option.some.inj H
     have hnb40 := NB966_965.out
     have hnc40 := NB965_966.out
     have hcz41 := cz6 BK966
     go_wp2_with (first | ((with_reducible refine gate_callee (f := 137) rfl ?_); refine goesL_ (some 47) rfl rfl Tryz.func137 KR rfl #[.slice A1_3 l1_3.length c1_3, .string a1_0, .int .i64 a1_1] rfl TA ?_; (with_reducible refine (impl_areOne.calls kj2 _ _ l1_3 a1_0 a1_1 t971 _ ?side1 ?side2 ?side3 A39.out).mono ?_); (case side1 => exact CW ((Kd.C_below HR1_3.out HB.out))); (case side2 => exact HC1_3.out); (case side3 => exact GW HGL); rintro e w42 ⟨rfl, hb⟩; refine ⟨_, rfl, ?_⟩; replace BK965 := KB BK965 hb; replace BK966 := KB BK966 hb; replace HB := BS hb; (try clear hb); (try clear hb2); (try clear hk); (try clear hi)))
     go_ret
     exact ⟨TE, TB⟩
end
section
/-! ### impl_compareEntry: function 88 -/
def impl_compareEntry.f (k : Nat) (a0_0 : ByteArray) (a0_1 : Int) (a0_2 : Bool) (l0_3 : List (S_Record)) (a0_4 : Int) (a0_5 : Int) (a1 : ByteArray) (a2 : Int) : Option (Int) := (impl_compareNames.f k a0_0 a1).bind fun t973 => ((cmp_Compare_int.f a0_1 a2).bind fun t974 => ((cmp_Or_int.f k (([t973, t974] : List Int))).bind fun t978 => (some t978)))
def impl_compareEntry.T1 : Bool × List (List Nat × List Nat) := (true, [([], []), ([0], [0]), ([], []), ([1, 2], [1, 2]), ([], []), ([4], [4]), ([], []), ([5, 6, 3], [5, 6]), ([3, 7], [3, 7]), ([8, 7], [8]), ([9, 9, 0, 1, 2, 3, 4, 5, 6, 7, 8, 9], [9])])
def impl_compareEntry.B1 : List Nat := [0, 1, 0, 7, 0, 16, 0, 127, 255, 511, 1023]
theorem impl_compareEntry.tab1 : rtab .any (opsOf Tryz.f88 1) = impl_compareEntry.T1 := by kernel_rfl
theorem impl_compareEntry.bits1 : waitsOk impl_compareEntry.T1.2 impl_compareEntry.B1 = true := by kernel_rfl
theorem impl_compareEntry.calls (k : Nat) (a0_0 : ByteArray) (a0_1 : Int) (a0_2 : Bool) (A0_3 : Option Addr) (c0_3 : Nat) (l0_3 : List (S_Record)) (a0_4 : Int) (a0_5 : Int) (a1 : ByteArray) (a2 : Int) (r : Int) (w : World) (hr0_3 : Kd.C k_Record w A0_3 l0_3.length l0_3) (hc0_3 : l0_3.length ≤ c0_3) (h : impl_compareEntry.f k a0_0 a0_1 a0_2 l0_3 a0_4 a0_5 a1 a2 = some r) :
  Calls Tryz.prog 88 #[.agg #[.string a0_0, .int .i64 a0_1, .bool a0_2, .slice A0_3 l0_3.length c0_3, .int .i64 a0_4, .int .i64 a0_5], .string a1, .int .i64 a2] w fun e w' => e = .returned (.int .i64 r) ∧ Below w.heap.size w w' := by
 have hu107 := Tryz.underlying107
 have HR0_3 := Aside0.mk hr0_3
 have HC0_3 := Aside0.mk hc0_3
 clear hr0_3 hc0_3
 have HB := Aside0.mk (Below.refl w.heap.size w)
 have H : ((impl_compareNames.f k a0_0 a1).bind fun t973 => ((cmp_Compare_int.f a0_1 a2).bind fun t974 => ((cmp_Or_int.f k (([t973, t974] : List Int))).bind fun t978 => (some t978)))) = some r := h
 clear h
 obtain ⟨t973, A4, H⟩ := bnd H
 obtain ⟨t974, A5, H⟩ := bnd H
 obtain ⟨y975, hy975⟩ : ∃ y_ : List Int, y_ = (([t973, t974] : List Int)) := ⟨_, rfl⟩
 replace H : ((cmp_Or_int.f k y975).bind fun t978 => (some t978)) = some r := by first | (rw [hy975]; with_reducible exact H) | (have H2_ := (Option.bind_some _ _).symm.trans H; rw [hy975]; with_reducible exact H2_) | (have H2_ := (Option.bind_some _ _).symm.trans H; with_reducible exact H2_) | with_reducible exact H | (rw [hy975]; exact H) | exact H
 have Ny975 := Aside0.mk hy975
 clear hy975
 obtain ⟨t978, A6, H⟩ := bnd H
 obtain rfl := Option.some.inj H
 go_enter Tryz.func88, Tryz.ntmps88
 try go_wp2_with (first | ((with_reducible refine gate_dst (N := 3) rfl ?_); refine bE 3 #[.string a0_0, .int .i64 a0_1, .bool a0_2, .slice A0_3 l0_3.length c0_3, .int .i64 a0_4, .int .i64 a0_5] 107 ?_; intro gb972 hg w7 hbox hb; have BK972 := Aside0.mk (hbox); have GE972 := bG hg; replace HB := BS hb; clear hb hbox hg))
 replace BK972 := Aside0.mk (blk_drew BK972.out)
 replace HB := Aside0.mk (below_drew1 HB.out)
 refine start_ (n := 11) (S := fun w' => w'.cell? ⟨gb972, 0, none⟩ = some (.string a0_0) ∧ w'.cell? ⟨gb972, 1, none⟩ = some (.int .i64 a0_1) ∧ w'.cell? ⟨gb972, 2, none⟩ = some (.bool a0_2) ∧ w'.cell? ⟨gb972, 3, none⟩ = some (.slice A0_3 l0_3.length c0_3) ∧ w'.cell? ⟨gb972, 4, none⟩ = some (.int .i64 a0_4) ∧ w'.cell? ⟨gb972, 5, none⟩ = some (.int .i64 a0_5)) (ds := []) #[false, false, false, false, false, false, false, false, false, false, false] KR rfl rfl ⟨bc 0 BK972, bc 1 BK972, bc 2 BK972, bc 3 BK972, bc 4 BK972, bc 5 BK972⟩ (fun hHeld => ?_); refine with_tabW impl_compareEntry.tab1 impl_compareEntry.bits1 (fun HT_ HW_ => ?_)
 generalize w7.drew = w8 at BK972 HB hHeld ⊢
 refine pA 0 7 (mL 11 1) HT_ rfl rfl ?_
 refine pA 2 9 (mL 11 5) HT_ rfl rfl ?_
 refine pA 4 11 (mL 11 21) HT_ rfl rfl ?_
 refine pA 6 13 (mL 11 85) HT_ rfl rfl ?_
 refine tA 1 8 (mL 11 87) HT_ HW_ hHeld rfl rfl (by rintro w' ⟨s0, s1, s2, s3, s4, s5⟩; go_simp; with_reducible rfl) ?_
 refine tA 5 12 (mL 11 119) HT_ HW_ hHeld rfl rfl (by rintro w' ⟨s0, s1, s2, s3, s4, s5⟩; go_simp; with_reducible rfl) ?_
 refine one_ (i := 3) (N := some 10) (mL 11 127) rfl rfl (one_of HT_.out KR) (by decide) (fun K hK => ?_)
 refine goes_ Tryz.func139 KR rfl #[.string a0_0, .string a1] (by rfl) rfl rfl TA ?_
 with_reducible refine (impl_compareNames.calls k a0_0 a1 t973 _ A4.out).mono ?_
 rintro e w9 ⟨rfl, hb⟩
 refine ⟨_, rfl, ?_⟩
 replace BK972 := KB BK972 hb
 replace HB := BS hb
 (try clear hb)
 (try clear hb2)
 (try clear hk)
 (try clear hi)
 refine hK.out _ _ ⟨bc 0 BK972, bc 1 BK972, bc 2 BK972, bc 3 BK972, bc 4 BK972, bc 5 BK972⟩ (fun hHeld => ?_)
 clear hK K
 refine nA ?_
 refine one_ (i := 7) (N := some 14) (mL 11 255) rfl rfl (one_of HT_.out KR) (by decide) (fun K hK => ?_)
 refine goes_ Tryz.func92 KR rfl #[.int .i64 a0_1, .int .i64 a2] (by rfl) rfl rfl TA ?_
 with_reducible refine (cmp_Compare_int.calls a0_1 a2 t974 _ A5.out).mono ?_
 rintro e w' ⟨rfl, ⟨nd, rfl⟩⟩
 refine ⟨_, rfl, ?_⟩
 refine hK.out _ _ ⟨bc 0 BK972, bc 1 BK972, bc 2 BK972, bc 3 BK972, bc 4 BK972, bc 5 BK972⟩ (fun hHeld => ?_)
 clear hK K
 refine nA ?_
 refine one_ (i := 8) (N := some 15) (mL 11 511) rfl rfl (one_of HT_.out KR) (by decide) (fun K hK => ?_)
 refine Kd.R_lit_step (Kd.int .i64) _ 3 ?hg (N := 15) ?hd (xs := ([t973, t974] : List Int)) (inner := [.int .i64 t973, .int .i64 t974]) (ok := fun _ => True) (okp := fun _ => True) ?hr ?hp (fun _ hk => hk) trivial (Below.refl _ _) (Nat.le_refl _) (by simp) ?_; (case hd => rfl); (case hg => rfl); (case hr => first | (go_simp; done) | (go_simp; rfl)); (case hp => exact (Reps.one (show Kd.M (Kd.int .i64) _ _ _ t973 [.int .i64 t973] from rfl) (Reps.one (show Kd.M (Kd.int .i64) _ _ _ t974 [.int .i64 t974] from rfl) (Reps.none _ _))))
 intro v976 w10 ho11 hb hg_ hnew_
 clear hg_ hnew_
 (first | rw [← Ny975.out] at ho11 | (simp only [Int.reduceToNat] at ho11; rw [← Ny975.out] at ho11))
 have HO977 := RL ho11
 replace BK972 := KB BK972 hb
 replace HB := BS hb
 clear hb ho11
 obtain ⟨Ao12, co12, eo12⟩ := Kd.R_slice HO977.out
 (first | subst eo12 | (injection eo12 with f1_ f2_ f3_; have f4_ := f1_.symm; have f5_ := f3_.symm; clear f1_ f2_ f3_; subst f4_; subst f5_))
 refine hK.out _ _ ⟨bc 0 BK972, bc 1 BK972, bc 2 BK972, bc 3 BK972, bc 4 BK972, bc 5 BK972⟩ (fun hHeld => ?_)
 clear hK K
 refine nA ?_
 refine one_ (i := 9) (N := some 16) (mL 11 1023) rfl rfl (one_of HT_.out KR) (by decide) (fun K hK => ?_)
 refine goes_ Tryz.func138 KR rfl #[.slice Ao12 y975.length co12] (by rfl) rfl rfl TA ?_
 with_reducible refine (cmp_Or_int.calls k _ _ y975 t978 _ ?side1 ?side2 A6.out).mono ?_
 (case side1 => exact CW ((Kd.R_reads' HO977.out).2.2))
 (case side2 => exact (Kd.R_reads' HO977.out).2.1)
 rintro e w' ⟨rfl, ⟨nd, rfl⟩⟩
 refine ⟨_, rfl, ?_⟩
 refine hK.out _ _ ⟨bc 0 BK972, bc 1 BK972, bc 2 BK972, bc 3 BK972, bc 4 BK972, bc 5 BK972⟩ (fun hHeld => ?_)
 clear hK K
 refine nA ?_
 refine pA 10 6 (mL 11 2047) HT_ rfl rfl ?_
 refine done_ (done_of HT_.out KR) ?_
 try go_wp2
 go_ret
 exact ⟨TE, TB⟩
end
section
/-! ### impl_GoodCache: function 32 -/
mutual
def impl_GoodCache.j0 : Nat → Bool → Int → List (S_Entry) → Option (Bool)
 | 0, _, _, _ => none
 | k + 1, x14, x980000, x980001 => if x14 = true then (some false) else (impl_GoodCache.l0 k x980001 (x980001.length : Int) 0 x980000 x980001)
def impl_GoodCache.l0 : Nat → List (S_Entry) → Int → Int → Int → List (S_Entry) → Option (Bool)
 | 0, _, _, _, _, _ => none
 | k + 1, x16, x17, x18, x980000, x980001 => if x18 < x17 then (if 0 ≤ x18 then (if x18 < (x16.length : Int) then ((impl_isEntry.f k x980000 x980001 ((rd_TEntry x16 x18).f0) ((rd_TEntry x16 x18).f1) ((rd_TEntry x16 x18).f2) ((rd_TEntry x16 x18).f3) ((rd_TEntry x16 x18).f4) ((rd_TEntry x16 x18).f5)).bind fun t983 => (if t983 = true then (if x18 > 0 then (if 0 ≤ (wrap64 (x18 - 1)) then (if (wrap64 (x18 - 1)) < (x980001.length : Int) then ((impl_compareEntry.f k ((rd_TEntry x980001 (wrap64 (x18 - 1))).f0) ((rd_TEntry x980001 (wrap64 (x18 - 1))).f1) ((rd_TEntry x980001 (wrap64 (x18 - 1))).f2) ((rd_TEntry x980001 (wrap64 (x18 - 1))).f3) ((rd_TEntry x980001 (wrap64 (x18 - 1))).f4) ((rd_TEntry x980001 (wrap64 (x18 - 1))).f5) ((rd_TEntry x16 x18).f0) ((rd_TEntry x16 x18).f1)).bind fun t985 => (if t985 ≥ 0 then (some false) else (impl_GoodCache.l0 k x16 x17 (wrap64 (x18 + 1)) x980000 x980001))) else (none)) else (none)) else (impl_GoodCache.l0 k x16 x17 (wrap64 (x18 + 1)) x980000 x980001)) else (some false))) else (none)) else (none)) else (some true)
end
def impl_GoodCache.f (k : Nat) (a0_0 : Int) (l0_1 : List (S_Entry)) : Option (Bool) := (impl_within.f a0_0 1 1000000000).bind fun t980 => (if t980 = true then (impl_GoodCache.j0 k (decide ((l0_1.length : Int) > 20)) a0_0 l0_1) else (impl_GoodCache.j0 k true a0_0 l0_1))
def impl_GoodCache.T6 : Bool × List (List Nat × List Nat) := (true, [([], []), ([], []), ([0, 1], [0, 1]), ([2], [2]), ([3, 2], [3]), ([4], [4]), ([5, 4], [4, 5]), ([6, 4, 4], [4, 6]), ([7], [7]), ([8, 7], [7, 8]), ([7], [7]), ([10, 7], [7, 10]), ([9, 11, 7], [7, 9, 11]), ([12, 7], [7, 12]), ([7], [7]), ([14, 7], [7, 14]), ([7], [7]), ([16, 7], [7, 16]), ([13, 15, 17, 7, 7], [7, 13, 15, 17]), ([18, 7], [7, 18]), ([7, 19, 4], [4, 7, 19]), ([4, 20], [4, 20])])
def impl_GoodCache.B6 : List Nat := [0, 0, 3, 7, 15, 31, 63, 127, 255, 511, 255, 1279, 4095, 8191, 255, 16639, 255, 65791, 262143, 524287, 1048575, 2097151]
theorem impl_GoodCache.tab6 : rtab .any (opsOf Tryz.f32 6) = impl_GoodCache.T6 := by kernel_rfl
theorem impl_GoodCache.bits6 : waitsOk impl_GoodCache.T6.2 impl_GoodCache.B6 = true := by kernel_rfl
theorem impl_GoodCache.calls (k : Nat) (a0_0 : Int) (A0_1 : Option Addr) (c0_1 : Nat) (l0_1 : List (S_Entry)) (r : Bool) (w : World) (hr0_1 : Kd.C k_Entry w A0_1 l0_1.length l0_1) (hc0_1 : l0_1.length ≤ c0_1) (hG_ : Glob w) (h : impl_GoodCache.f k a0_0 l0_1 = some r) :
  Calls Tryz.prog 32 #[.agg #[.int .i64 a0_0, .slice A0_1 l0_1.length c0_1]] w fun e w' => e = .returned (.bool r) ∧ Below w.heap.size w w' := by
 have hu54 := Tryz.underlying54
 have hu107 := Tryz.underlying107
 have HR0_1 := Aside0.mk hr0_1
 have HC0_1 := Aside0.mk hc0_1
 clear hr0_1 hc0_1
 have HGL := Aside0.mk hG_
 clear hG_
 have HB := Aside0.mk (Below.refl w.heap.size w)
 have H : ((impl_within.f a0_0 1 1000000000).bind fun t980 => (if t980 = true then (impl_GoodCache.j0 k (decide ((l0_1.length : Int) > 20)) a0_0 l0_1) else (impl_GoodCache.j0 k true a0_0 l0_1))) = some r := h
 clear h
 have HC2 := Aside0.mk H
 clear H
 go_enter Tryz.func32, Tryz.ntmps32
 go_upto_region 1 with (first | ((with_reducible refine gate_dst (N := 1) rfl ?_); (try (refine gate_guard (by rfl) ?_; dsimp only)); refine bE 1 #[.int .i64 a0_0, .slice A0_1 l0_1.length c0_1] 54 ?_; intro gb979 hg w3 hbox hb; have BK979 := Aside0.mk (hbox); have GE979 := bG hg; replace HB := BS hb; clear hb hbox hg))
 (try simp only [Act.put, List.setIfInBounds_toArray, List.set_cons_zero, List.set_cons_succ])
 go_cut [14] (fun v14 wc => ∃ (kq : Nat) (x14_1 : Bool), v14 = .bool x14_1 ∧ Aside0 (impl_GoodCache.j0 kq x14_1 a0_0 l0_1 = some r) ∧ Aside0 (kq ≤ k) ∧ Aside0 (wc.heap[gb979]? = some (.cells #[.int .i64 a0_0, (.slice A0_1 l0_1.length c0_1)] 54 (0, 0))) ∧ Aside0 (Below w.heap.size w wc))
 case first =>
  have H := HC2.out
  clear HC2
  obtain ⟨t980, A4, H⟩ := bnd H
  by_cases c5 : t980 = true
  ·subst c5
   replace H := ift H
   have H' := Aside0.mk H
   clear H
   have hcz6 := cz2 BK979
   go_wp2_with (first | ((with_reducible refine gate_callee (f := 86) rfl ?_); refine goesL_ (some 7) rfl rfl Tryz.func86 KR rfl #[.int .i64 a0_0, .int .i64 1, .int .i64 1000000000] rfl TA ?_; (with_reducible refine (impl_within.calls a0_0 1 1000000000 true _ A4.out).mono ?_); rintro e w' ⟨rfl, ⟨nd, rfl⟩⟩; refine ⟨_, rfl, ?_⟩))
   go_meet
   case rel => exact ⟨_, (decide ((l0_1.length : Int) > 20)), TF, H', ⟨by first | omega | exact Nat.le_refl _⟩, KW BK979, ⟨TB⟩⟩
  ·replace c5 := Bool.eq_false_iff.mpr c5
   subst c5
   replace H := iff' H
   have H' := Aside0.mk H
   clear H
   have hcz7 := cz2 BK979
   go_wp2_with (first | ((with_reducible refine gate_callee (f := 86) rfl ?_); refine goesL_ (some 7) rfl rfl Tryz.func86 KR rfl #[.int .i64 a0_0, .int .i64 1, .int .i64 1000000000] rfl TA ?_; (with_reducible refine (impl_within.calls a0_0 1 1000000000 false _ A4.out).mono ?_); rintro e w' ⟨rfl, ⟨nd, rfl⟩⟩; refine ⟨_, rfl, ?_⟩))
   go_meet
   case rel => exact ⟨_, (true), TF, H', ⟨by first | omega | exact Nat.le_refl _⟩, KW BK979, ⟨TB⟩⟩
 case rest =>
  clear HC2
  try clear p2
  try clear c3
  try clear c5
  try clear hcz6
  try clear hcz7
  try clear hfz6_0
  try clear hfz6_1
  try clear hfz7_0
  try clear hfz7_1
  obtain ⟨kq, x14_1, rfl, HA, HJ1, BK979, HB⟩ := hcut
  cases kq with
  | zero => exact absurd HA.out (by simp [impl_GoodCache.j0])
  | succ kj1 =>
   have H := HA.out
   clear HA
   simp only [impl_GoodCache.j0] at H
   by_cases c8 : x14_1 = true
   ·subst c8
    replace H := ift H
    obtain rfl := Option.some.inj H
    go_wp2
    go_ret
    exact ⟨TE, TB⟩
   ·replace c8 := Bool.eq_false_iff.mpr c8
    subst c8
    replace H := iff' H
    have H' := Aside0.mk H
    clear H
    have hcz9 := cz2 BK979
    go_wp2
    go_loopg [18] kj1 (fun kq v18 w' => ∃ (x18_2 : Int), v18 = .int .i64 x18_2 ∧ Aside0 (impl_GoodCache.l0 kq l0_1 (l0_1.length : Int) x18_2 a0_0 l0_1 = some r) ∧ Aside0 (kq ≤ kj1) ∧ Aside0 (w'.heap[gb979]? = some (.cells #[.int .i64 a0_0, (.slice A0_1 l0_1.length c0_1)] 54 (0, 0))) ∧ Aside0 (Below w.heap.size w w'))
    case atStart => exact ⟨(0), TF, H', ⟨Nat.le_refl _⟩, KW BK979, ⟨TB⟩⟩
    case round =>
     clear H'
     try clear p2
     try clear c3
     try clear c5
     try clear c8
     try clear hcz6
     try clear hcz7
     try clear hcz9
     try clear hfz6_0
     try clear hfz6_1
     try clear hfz7_0
     try clear hfz7_1
     try clear hfz9_0
     try clear hfz9_1
     try clear p2
     obtain ⟨x18_2, rfl, HA, HK2, BK979, HB⟩ := hrel
     cases gk with
     | zero => exact absurd HA.out (by simp [impl_GoodCache.l0])
     | succ k2 =>
      have H := HA.out
      clear HA
      simp only [impl_GoodCache.l0] at H
      by_cases c10 : x18_2 < (l0_1.length : Int)
      ·rw [if_pos c10] at H
       have c10b0 : decide (x18_2 < (l0_1.length : Int)) = true := decide_eq_true c10
       clear c10
       obtain ⟨c11, H⟩ := ifn H
       have c11b0 : decide (0 ≤ x18_2) = true := decide_eq_true c11
       clear c11
       obtain ⟨c12, H⟩ := ifn H
       have c12b0 : decide (x18_2 < (l0_1.length : Int)) = true := decide_eq_true c12
       clear c12
       obtain ⟨t983, A13, H⟩ := bnd H
       by_cases c14 : t983 = true
       ·subst c14
        replace H := ift H
        by_cases c15 : x18_2 > 0
        ·rw [if_pos c15] at H
         have c15b0 : decide (0 < x18_2) = true := decide_eq_true c15
         clear c15
         obtain ⟨ji16, hji16⟩ : ∃ j_ : Int, (wrap64 (x18_2 - 1)) = j_ := ⟨_, rfl⟩
         replace H : (if 0 ≤ (ji16) then (if (ji16) < (l0_1.length : Int) then ((impl_compareEntry.f k2 ((rd_TEntry l0_1 (ji16)).f0) ((rd_TEntry l0_1 (ji16)).f1) ((rd_TEntry l0_1 (ji16)).f2) ((rd_TEntry l0_1 (ji16)).f3) ((rd_TEntry l0_1 (ji16)).f4) ((rd_TEntry l0_1 (ji16)).f5) ((rd_TEntry l0_1 x18_2).f0) ((rd_TEntry l0_1 x18_2).f1)).bind fun t985 => (if t985 ≥ 0 then (some false) else (impl_GoodCache.l0 k2 l0_1 (l0_1.length : Int) (wrap64 (x18_2 + 1)) a0_0 l0_1))) else (none)) else (none)) = some r := by first | (rw [hji16] at H; exact H) | (simp only [hji16] at H ⊢; exact H)
         (try rw [hji16] at A13)
         have hji16w : (IntKind.i64.wrap (x18_2 - 1)) = ji16 := (i64_w _).trans hji16
         obtain ⟨c17, H⟩ := ifn H
         have c17b0 : decide (0 ≤ (ji16)) = true := decide_eq_true c17
         clear c17
         obtain ⟨c18, H⟩ := ifn H
         have c18b0 : decide ((ji16) < (l0_1.length : Int)) = true := decide_eq_true c18
         clear c18
         obtain ⟨t985, A19, H⟩ := bnd H
         by_cases c20 : t985 ≥ 0
         ·rw [if_pos c20] at H
          have c20b0 : decide (0 ≤ t985) = true := decide_eq_true c20
          clear c20
          obtain rfl := Option.some.inj H
          have p981 : 0 ≤ (x18_2 : Int) := TD
          have q981 : x18_2 < (l0_1.length : Int) := TD
          obtain ⟨ad981, A981_3, c981_3, e981, hx981_0, hx981_1, hx981_2, hx981_3, hx981_4, hx981_5, hl981_3, hi981_3⟩ := at_TEntry HR0_1.out x18_2 p981 q981
          have hw981_3 := hx981_3
          cases e981
          replace hx981_0 := hBc HB hx981_0
          replace hx981_1 := hBc HB hx981_1
          replace hx981_2 := hBc HB hx981_2
          replace hx981_3 := hBc HB hx981_3
          replace hx981_4 := hBc HB hx981_4
          replace hx981_5 := hBc HB hx981_5
          have HR981_3 := Aside0.mk hi981_3
          have HC981_3 := Aside0.mk hl981_3
          clear hi981_3 hl981_3
          replace p981 := eq_true p981
          replace q981 := eq_true q981
          try go_wp2_with (first | ((with_reducible refine gate_dst (N := 4) rfl ?_); (try (refine gate_guard (by rfl) ?_; dsimp only)); refine bE 4 #[.string (⟨#[]⟩ : ByteArray), .int .i64 0, .bool false, .slice none 0 0, .int .i64 0, .int .i64 0] 107 ?_; intro gb982 hg w21 hbox hb; have BK982 := Aside0.mk (hbox); have GE982 := bG hg; replace HB := BS hb; have NB979_982 := bN BK979 hg; have NB982_979 := bM BK979 hg; replace BK979 := KB BK979 hb; clear hb hbox hg; have hnb22 := NB982_979.out; have hnc22 := NB979_982.out; have hcz23 := cz6 BK982))
          have n0_ : Aside0 (((((((w21.setCell ⟨gb982, 0, none⟩ (.string ((rd_TEntry l0_1 x18_2).f0))).setCell ⟨gb982, 1, none⟩ (.int .i64 ((rd_TEntry l0_1 x18_2).f1))).setCell ⟨gb982, 2, none⟩ (.bool ((rd_TEntry l0_1 x18_2).f2))).setCell ⟨gb982, 3, none⟩ (.slice A981_3 ((rd_TEntry l0_1 x18_2).f3).length c981_3)).setCell ⟨gb982, 4, none⟩ (.int .i64 ((rd_TEntry l0_1 x18_2).f4))).setCell ⟨gb982, 5, none⟩ (.int .i64 ((rd_TEntry l0_1 x18_2).f5))).heap[gb979]? = some (.cells #[.int .i64 a0_0, .slice (some ad981) l0_1.length c0_1] 54 (0, 0))) := ⟨TS⟩
          have n1_ : Aside0 (((((((w21.setCell ⟨gb982, 0, none⟩ (.string ((rd_TEntry l0_1 x18_2).f0))).setCell ⟨gb982, 1, none⟩ (.int .i64 ((rd_TEntry l0_1 x18_2).f1))).setCell ⟨gb982, 2, none⟩ (.bool ((rd_TEntry l0_1 x18_2).f2))).setCell ⟨gb982, 3, none⟩ (.slice A981_3 ((rd_TEntry l0_1 x18_2).f3).length c981_3)).setCell ⟨gb982, 4, none⟩ (.int .i64 ((rd_TEntry l0_1 x18_2).f4))).setCell ⟨gb982, 5, none⟩ (.int .i64 ((rd_TEntry l0_1 x18_2).f5))).heap[gb982]? = some (.cells #[.string ((rd_TEntry l0_1 x18_2).f0), .int .i64 ((rd_TEntry l0_1 x18_2).f1), .bool ((rd_TEntry l0_1 x18_2).f2), .slice A981_3 ((rd_TEntry l0_1 x18_2).f3).length c981_3, .int .i64 ((rd_TEntry l0_1 x18_2).f4), .int .i64 ((rd_TEntry l0_1 x18_2).f5)] 107 (0, 0))) := ⟨TS⟩
          have n2_ : Aside0 (Below w.heap.size w ((((((w21.setCell ⟨gb982, 0, none⟩ (.string ((rd_TEntry l0_1 x18_2).f0))).setCell ⟨gb982, 1, none⟩ (.int .i64 ((rd_TEntry l0_1 x18_2).f1))).setCell ⟨gb982, 2, none⟩ (.bool ((rd_TEntry l0_1 x18_2).f2))).setCell ⟨gb982, 3, none⟩ (.slice A981_3 ((rd_TEntry l0_1 x18_2).f3).length c981_3)).setCell ⟨gb982, 4, none⟩ (.int .i64 ((rd_TEntry l0_1 x18_2).f4))).setCell ⟨gb982, 5, none⟩ (.int .i64 ((rd_TEntry l0_1 x18_2).f5)))) := ⟨TB⟩
          (try clear BK979)
          (try clear BK982)
          (try clear HB)
          generalize ((((((w21.setCell ⟨gb982, 0, none⟩ (.string ((rd_TEntry l0_1 x18_2).f0))).setCell ⟨gb982, 1, none⟩ (.int .i64 ((rd_TEntry l0_1 x18_2).f1))).setCell ⟨gb982, 2, none⟩ (.bool ((rd_TEntry l0_1 x18_2).f2))).setCell ⟨gb982, 3, none⟩ (.slice A981_3 ((rd_TEntry l0_1 x18_2).f3).length c981_3)).setCell ⟨gb982, 4, none⟩ (.int .i64 ((rd_TEntry l0_1 x18_2).f4))).setCell ⟨gb982, 5, none⟩ (.int .i64 ((rd_TEntry l0_1 x18_2).f5))) = w24 at n0_ n1_ n2_ ⊢
          have BK979 := n0_
          have BK982 := n1_
          have HB := n2_
          clear n0_ n1_ n2_
          replace BK979 := Aside0.mk (blk_drew BK979.out)
          replace BK982 := Aside0.mk (blk_drew BK982.out)
          replace HB := Aside0.mk (below_drew1 HB.out)
          have p984 : 0 ≤ ((ji16) : Int) := TD
          have q984 : (ji16) < (l0_1.length : Int) := TD
          obtain ⟨ad984, A984_3, c984_3, e984, hx984_0, hx984_1, hx984_2, hx984_3, hx984_4, hx984_5, hl984_3, hi984_3⟩ := at_TEntry HR0_1.out (ji16) p984 q984
          have hw984_5 := hx984_5
          have hw984_4 := hx984_4
          have hw984_3 := hx984_3
          have hw984_2 := hx984_2
          have hw984_1 := hx984_1
          have hw984_0 := hx984_0
          obtain rfl : ad981 = ad984 := (by injection e984)
          replace hx984_0 := hBc HB hx984_0
          replace hx984_1 := hBc HB hx984_1
          replace hx984_2 := hBc HB hx984_2
          replace hx984_3 := hBc HB hx984_3
          replace hx984_4 := hBc HB hx984_4
          replace hx984_5 := hBc HB hx984_5
          have HR984_3 := Aside0.mk hi984_3
          have HC984_3 := Aside0.mk hl984_3
          clear hi984_3 hl984_3
          replace p984 := eq_true p984
          replace q984 := eq_true q984
          refine start_ (n := 22) (S := fun w' => w'.cell? ⟨gb979, 0, none⟩ = some (.int .i64 a0_0) ∧ w'.cell? ⟨gb979, 1, none⟩ = some (.slice (some ad981) l0_1.length c0_1) ∧ w'.cell? ⟨gb982, 0, none⟩ = some (.string ((rd_TEntry l0_1 x18_2).f0)) ∧ w'.cell? ⟨gb982, 1, none⟩ = some (.int .i64 ((rd_TEntry l0_1 x18_2).f1)) ∧ w'.cell? ⟨gb982, 2, none⟩ = some (.bool ((rd_TEntry l0_1 x18_2).f2)) ∧ w'.cell? ⟨gb982, 3, none⟩ = some (.slice A981_3 ((rd_TEntry l0_1 x18_2).f3).length c981_3) ∧ w'.cell? ⟨gb982, 4, none⟩ = some (.int .i64 ((rd_TEntry l0_1 x18_2).f4)) ∧ w'.cell? ⟨gb982, 5, none⟩ = some (.int .i64 ((rd_TEntry l0_1 x18_2).f5)) ∧ w'.cell? (ad981.add (((ji16)).toNat * 6)) = some (.string ((rd_TEntry l0_1 (ji16)).f0)) ∧ w'.cell? ⟨(ad981.add (((ji16)).toNat * 6)).block, (ad981.add (((ji16)).toNat * 6)).off + 1, none⟩ = some (.int .i64 ((rd_TEntry l0_1 (ji16)).f1)) ∧ w'.cell? ⟨(ad981.add (((ji16)).toNat * 6)).block, (ad981.add (((ji16)).toNat * 6)).off + 2, none⟩ = some (.bool ((rd_TEntry l0_1 (ji16)).f2)) ∧ w'.cell? ⟨(ad981.add (((ji16)).toNat * 6)).block, (ad981.add (((ji16)).toNat * 6)).off + 3, none⟩ = some (.slice A984_3 ((rd_TEntry l0_1 (ji16)).f3).length c984_3) ∧ w'.cell? ⟨(ad981.add (((ji16)).toNat * 6)).block, (ad981.add (((ji16)).toNat * 6)).off + 4, none⟩ = some (.int .i64 ((rd_TEntry l0_1 (ji16)).f4)) ∧ w'.cell? ⟨(ad981.add (((ji16)).toNat * 6)).block, (ad981.add (((ji16)).toNat * 6)).off + 5, none⟩ = some (.int .i64 ((rd_TEntry l0_1 (ji16)).f5))) (ds := []) #[false, false, false, false, false, false, false, false, false, false, false, false, false, false, false, false, false, false, false, false, false, false] KR rfl rfl ⟨bc 0 BK979, bc 1 BK979, bc 0 BK982, bc 1 BK982, bc 2 BK982, bc 3 BK982, bc 4 BK982, bc 5 BK982, ((HB.out.cell (World.block_lt_of_cell? w _ hw984_0)).trans hw984_0), ((HB.out.cell (World.block_lt_of_cell? w _ hw984_1)).trans hw984_1), ((HB.out.cell (World.block_lt_of_cell? w _ hw984_2)).trans hw984_2), ((HB.out.cell (World.block_lt_of_cell? w _ hw984_3)).trans hw984_3), ((HB.out.cell (World.block_lt_of_cell? w _ hw984_4)).trans hw984_4), ((HB.out.cell (World.block_lt_of_cell? w _ hw984_5)).trans hw984_5)⟩ (fun hHeld => ?_); refine with_tabW impl_GoodCache.tab6 impl_GoodCache.bits6 (fun HT_ HW_ => ?_)
          generalize w24.drew = w25 at BK979 BK982 HB HR984_3 hx984_0 hx984_1 hx984_2 hx984_3 hx984_4 hx984_5 hHeld ⊢
          refine tA 0 23 (mL 22 1) HT_ HW_ hHeld rfl rfl (by rintro w' ⟨s0, s1, s2, s3, s4, s5, s6, s7, s8, s9, s10, s11, s12, s13⟩; go_simp; with_reducible rfl) ?_
          refine tA 1 24 (mL 22 3) HT_ HW_ hHeld rfl rfl (by rintro w' ⟨s0, s1, s2, s3, s4, s5, s6, s7, s8, s9, s10, s11, s12, s13⟩; go_simp; with_reducible rfl) ?_
          refine one_ (i := 2) (N := some 25) (mL 22 7) rfl rfl (one_of HT_.out KR) (by decide) (fun K hK => ?_)
          refine goes_ Tryz.func87 KR rfl #[.agg #[.int .i64 a0_0, .slice (some ad981) l0_1.length c0_1], .agg #[.string ((rd_TEntry l0_1 x18_2).f0), .int .i64 ((rd_TEntry l0_1 x18_2).f1), .bool ((rd_TEntry l0_1 x18_2).f2), .slice A981_3 ((rd_TEntry l0_1 x18_2).f3).length c981_3, .int .i64 ((rd_TEntry l0_1 x18_2).f4), .int .i64 ((rd_TEntry l0_1 x18_2).f5)]] (by rfl) rfl rfl TA ?_
          with_reducible refine (impl_isEntry.calls k2 a0_0 _ _ l0_1 ((rd_TEntry l0_1 x18_2).f0) ((rd_TEntry l0_1 x18_2).f1) ((rd_TEntry l0_1 x18_2).f2) _ _ ((rd_TEntry l0_1 x18_2).f3) ((rd_TEntry l0_1 x18_2).f4) ((rd_TEntry l0_1 x18_2).f5) true _ ?side1 ?side2 ?side3 ?side4 ?side5 A13.out).mono ?_
          (case side1 => exact CW ((Kd.C_below HR0_1.out HB.out)))
          (case side2 => exact HC0_1.out)
          (case side3 => exact CW ((Kd.C_below HR981_3.out HB.out)))
          (case side4 => exact HC981_3.out)
          (case side5 => exact GW HGL)
          rintro e w26 ⟨rfl, hb⟩
          refine ⟨_, rfl, ?_⟩
          replace BK979 := KB BK979 hb
          replace BK982 := KB BK982 hb
          replace HB := BS hb
          (try clear hb)
          (try clear hb2)
          (try clear hk)
          (try clear hi)
          refine hK.out _ _ ⟨bc 0 BK979, bc 1 BK979, bc 0 BK982, bc 1 BK982, bc 2 BK982, bc 3 BK982, bc 4 BK982, bc 5 BK982, ((HB.out.cell (World.block_lt_of_cell? w _ hw984_0)).trans hw984_0), ((HB.out.cell (World.block_lt_of_cell? w _ hw984_1)).trans hw984_1), ((HB.out.cell (World.block_lt_of_cell? w _ hw984_2)).trans hw984_2), ((HB.out.cell (World.block_lt_of_cell? w _ hw984_3)).trans hw984_3), ((HB.out.cell (World.block_lt_of_cell? w _ hw984_4)).trans hw984_4), ((HB.out.cell (World.block_lt_of_cell? w _ hw984_5)).trans hw984_5)⟩ (fun hHeld => ?_)
          clear hK K
          refine nA ?_
          refine pA 3 26 (mL 22 15) HT_ rfl rfl ?_
          refine pA 4 27 (mL 22 31) HT_ rfl rfl ?_
          refine pA 5 28 (mL 22 63) HT_ rfl rfl ?_
          refine pA 6 29 (mL 22 127) HT_ rfl rfl ?_
          refine pA 7 30 (mL 22 255) HT_ rfl rfl ?_
          refine pA 8 31 (mL 22 511) HT_ rfl rfl ?_
          refine pA 10 33 (mL 22 1535) HT_ rfl rfl ?_
          refine pA 11 34 (mL 22 3583) HT_ rfl rfl ?_
          refine pA 14 37 (mL 22 19967) HT_ rfl rfl ?_
          refine pA 16 39 (mL 22 85503) HT_ rfl rfl ?_
          refine tA 9 32 (mL 22 86015) HT_ HW_ hHeld rfl rfl (by rintro w' ⟨s0, s1, s2, s3, s4, s5, s6, s7, s8, s9, s10, s11, s12, s13⟩; go_simp; with_reducible rfl) ?_
          refine pA 12 35 (mL 22 90111) HT_ rfl rfl ?_
          refine tA 13 36 (mL 22 98303) HT_ HW_ hHeld rfl rfl (by rintro w' ⟨s0, s1, s2, s3, s4, s5, s6, s7, s8, s9, s10, s11, s12, s13⟩; go_simp; with_reducible rfl) ?_
          refine tA 15 38 (mL 22 131071) HT_ HW_ hHeld rfl rfl (by rintro w' ⟨s0, s1, s2, s3, s4, s5, s6, s7, s8, s9, s10, s11, s12, s13⟩; go_simp; with_reducible rfl) ?_
          refine tA 17 40 (mL 22 262143) HT_ HW_ hHeld rfl rfl (by rintro w' ⟨s0, s1, s2, s3, s4, s5, s6, s7, s8, s9, s10, s11, s12, s13⟩; go_simp; with_reducible rfl) ?_
          refine one_ (i := 18) (N := some 41) (mL 22 524287) rfl rfl (one_of HT_.out KR) (by decide) (fun K hK => ?_)
          refine goes_ Tryz.func88 KR rfl #[.agg #[.string ((rd_TEntry l0_1 (ji16)).f0), .int .i64 ((rd_TEntry l0_1 (ji16)).f1), .bool ((rd_TEntry l0_1 (ji16)).f2), .slice A984_3 ((rd_TEntry l0_1 (ji16)).f3).length c984_3, .int .i64 ((rd_TEntry l0_1 (ji16)).f4), .int .i64 ((rd_TEntry l0_1 (ji16)).f5)], .string ((rd_TEntry l0_1 x18_2).f0), .int .i64 ((rd_TEntry l0_1 x18_2).f1)] (by rfl) rfl rfl (by (try simp only [List.map_toArray, List.map_cons, List.map_nil]); first | done | (simp only [hji16]; rfl) | rfl | (simp only [List.length_drop, List.length_take]; rfl)) ?_
          with_reducible refine (impl_compareEntry.calls k2 ((rd_TEntry l0_1 (ji16)).f0) ((rd_TEntry l0_1 (ji16)).f1) ((rd_TEntry l0_1 (ji16)).f2) _ _ ((rd_TEntry l0_1 (ji16)).f3) ((rd_TEntry l0_1 (ji16)).f4) ((rd_TEntry l0_1 (ji16)).f5) ((rd_TEntry l0_1 x18_2).f0) ((rd_TEntry l0_1 x18_2).f1) t985 _ ?side1 ?side2 A19.out).mono ?_
          (case side1 => exact CW ((Kd.C_below HR984_3.out HB.out)))
          (case side2 => exact HC984_3.out)
          rintro e w27 ⟨rfl, hb⟩
          refine ⟨_, rfl, ?_⟩
          replace BK979 := KB BK979 hb
          replace BK982 := KB BK982 hb
          replace HB := BS hb
          (try clear hb)
          (try clear hb2)
          (try clear hk)
          (try clear hi)
          refine hK.out _ _ ⟨bc 0 BK979, bc 1 BK979, bc 0 BK982, bc 1 BK982, bc 2 BK982, bc 3 BK982, bc 4 BK982, bc 5 BK982, ((HB.out.cell (World.block_lt_of_cell? w _ hw984_0)).trans hw984_0), ((HB.out.cell (World.block_lt_of_cell? w _ hw984_1)).trans hw984_1), ((HB.out.cell (World.block_lt_of_cell? w _ hw984_2)).trans hw984_2), ((HB.out.cell (World.block_lt_of_cell? w _ hw984_3)).trans hw984_3), ((HB.out.cell (World.block_lt_of_cell? w _ hw984_4)).trans hw984_4), ((HB.out.cell (World.block_lt_of_cell? w _ hw984_5)).trans hw984_5)⟩ (fun hHeld => ?_)
          clear hK K
          refine nA ?_
          refine pA 19 42 (mL 22 1048575) HT_ rfl rfl ?_
          refine pA 20 43 (mL 22 2097151) HT_ rfl rfl ?_
          refine pA 21 44 (mL 22 4194303) HT_ rfl rfl ?_
          refine done_ (done_of HT_.out KR) ?_
          try go_wp2
          go_ret
          exact ⟨by first | rfl | (simp [errW_none, errW_some] <;> rfl) | (simp only [← hji16]; first | rfl | (simp [errW_none, errW_some] <;> rfl)) | (simp [*, errW_none, errW_some] <;> rfl), TB⟩
         ·rw [if_neg c20] at H
          have c20b0 : decide (0 ≤ t985) = false := decide_eq_false c20
          clear c20
          have H' := Aside0.mk H
          clear H
          have p981 : 0 ≤ (x18_2 : Int) := TD
          have q981 : x18_2 < (l0_1.length : Int) := TD
          obtain ⟨ad981, A981_3, c981_3, e981, hx981_0, hx981_1, hx981_2, hx981_3, hx981_4, hx981_5, hl981_3, hi981_3⟩ := at_TEntry HR0_1.out x18_2 p981 q981
          have hw981_3 := hx981_3
          cases e981
          replace hx981_0 := hBc HB hx981_0
          replace hx981_1 := hBc HB hx981_1
          replace hx981_2 := hBc HB hx981_2
          replace hx981_3 := hBc HB hx981_3
          replace hx981_4 := hBc HB hx981_4
          replace hx981_5 := hBc HB hx981_5
          have HR981_3 := Aside0.mk hi981_3
          have HC981_3 := Aside0.mk hl981_3
          clear hi981_3 hl981_3
          replace p981 := eq_true p981
          replace q981 := eq_true q981
          try go_wp2_with (first | ((with_reducible refine gate_dst (N := 4) rfl ?_); (try (refine gate_guard (by rfl) ?_; dsimp only)); refine bE 4 #[.string (⟨#[]⟩ : ByteArray), .int .i64 0, .bool false, .slice none 0 0, .int .i64 0, .int .i64 0] 107 ?_; intro gb982 hg w28 hbox hb; have BK982 := Aside0.mk (hbox); have GE982 := bG hg; replace HB := BS hb; have NB979_982 := bN BK979 hg; have NB982_979 := bM BK979 hg; replace BK979 := KB BK979 hb; clear hb hbox hg; have hnb29 := NB982_979.out; have hnc29 := NB979_982.out; have hcz30 := cz6 BK982))
          have n0_ : Aside0 (((((((w28.setCell ⟨gb982, 0, none⟩ (.string ((rd_TEntry l0_1 x18_2).f0))).setCell ⟨gb982, 1, none⟩ (.int .i64 ((rd_TEntry l0_1 x18_2).f1))).setCell ⟨gb982, 2, none⟩ (.bool ((rd_TEntry l0_1 x18_2).f2))).setCell ⟨gb982, 3, none⟩ (.slice A981_3 ((rd_TEntry l0_1 x18_2).f3).length c981_3)).setCell ⟨gb982, 4, none⟩ (.int .i64 ((rd_TEntry l0_1 x18_2).f4))).setCell ⟨gb982, 5, none⟩ (.int .i64 ((rd_TEntry l0_1 x18_2).f5))).heap[gb979]? = some (.cells #[.int .i64 a0_0, .slice (some ad981) l0_1.length c0_1] 54 (0, 0))) := ⟨TS⟩
          have n1_ : Aside0 (((((((w28.setCell ⟨gb982, 0, none⟩ (.string ((rd_TEntry l0_1 x18_2).f0))).setCell ⟨gb982, 1, none⟩ (.int .i64 ((rd_TEntry l0_1 x18_2).f1))).setCell ⟨gb982, 2, none⟩ (.bool ((rd_TEntry l0_1 x18_2).f2))).setCell ⟨gb982, 3, none⟩ (.slice A981_3 ((rd_TEntry l0_1 x18_2).f3).length c981_3)).setCell ⟨gb982, 4, none⟩ (.int .i64 ((rd_TEntry l0_1 x18_2).f4))).setCell ⟨gb982, 5, none⟩ (.int .i64 ((rd_TEntry l0_1 x18_2).f5))).heap[gb982]? = some (.cells #[.string ((rd_TEntry l0_1 x18_2).f0), .int .i64 ((rd_TEntry l0_1 x18_2).f1), .bool ((rd_TEntry l0_1 x18_2).f2), .slice A981_3 ((rd_TEntry l0_1 x18_2).f3).length c981_3, .int .i64 ((rd_TEntry l0_1 x18_2).f4), .int .i64 ((rd_TEntry l0_1 x18_2).f5)] 107 (0, 0))) := ⟨TS⟩
          have n2_ : Aside0 (Below w.heap.size w ((((((w28.setCell ⟨gb982, 0, none⟩ (.string ((rd_TEntry l0_1 x18_2).f0))).setCell ⟨gb982, 1, none⟩ (.int .i64 ((rd_TEntry l0_1 x18_2).f1))).setCell ⟨gb982, 2, none⟩ (.bool ((rd_TEntry l0_1 x18_2).f2))).setCell ⟨gb982, 3, none⟩ (.slice A981_3 ((rd_TEntry l0_1 x18_2).f3).length c981_3)).setCell ⟨gb982, 4, none⟩ (.int .i64 ((rd_TEntry l0_1 x18_2).f4))).setCell ⟨gb982, 5, none⟩ (.int .i64 ((rd_TEntry l0_1 x18_2).f5)))) := ⟨TB⟩
          (try clear BK979)
          (try clear BK982)
          (try clear HB)
          generalize ((((((w28.setCell ⟨gb982, 0, none⟩ (.string ((rd_TEntry l0_1 x18_2).f0))).setCell ⟨gb982, 1, none⟩ (.int .i64 ((rd_TEntry l0_1 x18_2).f1))).setCell ⟨gb982, 2, none⟩ (.bool ((rd_TEntry l0_1 x18_2).f2))).setCell ⟨gb982, 3, none⟩ (.slice A981_3 ((rd_TEntry l0_1 x18_2).f3).length c981_3)).setCell ⟨gb982, 4, none⟩ (.int .i64 ((rd_TEntry l0_1 x18_2).f4))).setCell ⟨gb982, 5, none⟩ (.int .i64 ((rd_TEntry l0_1 x18_2).f5))) = w31 at n0_ n1_ n2_ ⊢
          have BK979 := n0_
          have BK982 := n1_
          have HB := n2_
          clear n0_ n1_ n2_
          replace BK979 := Aside0.mk (blk_drew BK979.out)
          replace BK982 := Aside0.mk (blk_drew BK982.out)
          replace HB := Aside0.mk (below_drew1 HB.out)
          have p984 : 0 ≤ ((ji16) : Int) := TD
          have q984 : (ji16) < (l0_1.length : Int) := TD
          obtain ⟨ad984, A984_3, c984_3, e984, hx984_0, hx984_1, hx984_2, hx984_3, hx984_4, hx984_5, hl984_3, hi984_3⟩ := at_TEntry HR0_1.out (ji16) p984 q984
          have hw984_5 := hx984_5
          have hw984_4 := hx984_4
          have hw984_3 := hx984_3
          have hw984_2 := hx984_2
          have hw984_1 := hx984_1
          have hw984_0 := hx984_0
          obtain rfl : ad981 = ad984 := (by injection e984)
          replace hx984_0 := hBc HB hx984_0
          replace hx984_1 := hBc HB hx984_1
          replace hx984_2 := hBc HB hx984_2
          replace hx984_3 := hBc HB hx984_3
          replace hx984_4 := hBc HB hx984_4
          replace hx984_5 := hBc HB hx984_5
          have HR984_3 := Aside0.mk hi984_3
          have HC984_3 := Aside0.mk hl984_3
          clear hi984_3 hl984_3
          replace p984 := eq_true p984
          replace q984 := eq_true q984
          refine start_ (n := 22) (S := fun w' => w'.cell? ⟨gb979, 0, none⟩ = some (.int .i64 a0_0) ∧ w'.cell? ⟨gb979, 1, none⟩ = some (.slice (some ad981) l0_1.length c0_1) ∧ w'.cell? ⟨gb982, 0, none⟩ = some (.string ((rd_TEntry l0_1 x18_2).f0)) ∧ w'.cell? ⟨gb982, 1, none⟩ = some (.int .i64 ((rd_TEntry l0_1 x18_2).f1)) ∧ w'.cell? ⟨gb982, 2, none⟩ = some (.bool ((rd_TEntry l0_1 x18_2).f2)) ∧ w'.cell? ⟨gb982, 3, none⟩ = some (.slice A981_3 ((rd_TEntry l0_1 x18_2).f3).length c981_3) ∧ w'.cell? ⟨gb982, 4, none⟩ = some (.int .i64 ((rd_TEntry l0_1 x18_2).f4)) ∧ w'.cell? ⟨gb982, 5, none⟩ = some (.int .i64 ((rd_TEntry l0_1 x18_2).f5)) ∧ w'.cell? (ad981.add (((ji16)).toNat * 6)) = some (.string ((rd_TEntry l0_1 (ji16)).f0)) ∧ w'.cell? ⟨(ad981.add (((ji16)).toNat * 6)).block, (ad981.add (((ji16)).toNat * 6)).off + 1, none⟩ = some (.int .i64 ((rd_TEntry l0_1 (ji16)).f1)) ∧ w'.cell? ⟨(ad981.add (((ji16)).toNat * 6)).block, (ad981.add (((ji16)).toNat * 6)).off + 2, none⟩ = some (.bool ((rd_TEntry l0_1 (ji16)).f2)) ∧ w'.cell? ⟨(ad981.add (((ji16)).toNat * 6)).block, (ad981.add (((ji16)).toNat * 6)).off + 3, none⟩ = some (.slice A984_3 ((rd_TEntry l0_1 (ji16)).f3).length c984_3) ∧ w'.cell? ⟨(ad981.add (((ji16)).toNat * 6)).block, (ad981.add (((ji16)).toNat * 6)).off + 4, none⟩ = some (.int .i64 ((rd_TEntry l0_1 (ji16)).f4)) ∧ w'.cell? ⟨(ad981.add (((ji16)).toNat * 6)).block, (ad981.add (((ji16)).toNat * 6)).off + 5, none⟩ = some (.int .i64 ((rd_TEntry l0_1 (ji16)).f5))) (ds := []) #[false, false, false, false, false, false, false, false, false, false, false, false, false, false, false, false, false, false, false, false, false, false] KR rfl rfl ⟨bc 0 BK979, bc 1 BK979, bc 0 BK982, bc 1 BK982, bc 2 BK982, bc 3 BK982, bc 4 BK982, bc 5 BK982, ((HB.out.cell (World.block_lt_of_cell? w _ hw984_0)).trans hw984_0), ((HB.out.cell (World.block_lt_of_cell? w _ hw984_1)).trans hw984_1), ((HB.out.cell (World.block_lt_of_cell? w _ hw984_2)).trans hw984_2), ((HB.out.cell (World.block_lt_of_cell? w _ hw984_3)).trans hw984_3), ((HB.out.cell (World.block_lt_of_cell? w _ hw984_4)).trans hw984_4), ((HB.out.cell (World.block_lt_of_cell? w _ hw984_5)).trans hw984_5)⟩ (fun hHeld => ?_); refine with_tabW impl_GoodCache.tab6 impl_GoodCache.bits6 (fun HT_ HW_ => ?_)
          generalize w31.drew = w32 at BK979 BK982 HB HR984_3 hx984_0 hx984_1 hx984_2 hx984_3 hx984_4 hx984_5 hHeld ⊢
          refine tA 0 23 (mL 22 1) HT_ HW_ hHeld rfl rfl (by rintro w' ⟨s0, s1, s2, s3, s4, s5, s6, s7, s8, s9, s10, s11, s12, s13⟩; go_simp; with_reducible rfl) ?_
          refine tA 1 24 (mL 22 3) HT_ HW_ hHeld rfl rfl (by rintro w' ⟨s0, s1, s2, s3, s4, s5, s6, s7, s8, s9, s10, s11, s12, s13⟩; go_simp; with_reducible rfl) ?_
          refine one_ (i := 2) (N := some 25) (mL 22 7) rfl rfl (one_of HT_.out KR) (by decide) (fun K hK => ?_)
          refine goes_ Tryz.func87 KR rfl #[.agg #[.int .i64 a0_0, .slice (some ad981) l0_1.length c0_1], .agg #[.string ((rd_TEntry l0_1 x18_2).f0), .int .i64 ((rd_TEntry l0_1 x18_2).f1), .bool ((rd_TEntry l0_1 x18_2).f2), .slice A981_3 ((rd_TEntry l0_1 x18_2).f3).length c981_3, .int .i64 ((rd_TEntry l0_1 x18_2).f4), .int .i64 ((rd_TEntry l0_1 x18_2).f5)]] (by rfl) rfl rfl TA ?_
          with_reducible refine (impl_isEntry.calls k2 a0_0 _ _ l0_1 ((rd_TEntry l0_1 x18_2).f0) ((rd_TEntry l0_1 x18_2).f1) ((rd_TEntry l0_1 x18_2).f2) _ _ ((rd_TEntry l0_1 x18_2).f3) ((rd_TEntry l0_1 x18_2).f4) ((rd_TEntry l0_1 x18_2).f5) true _ ?side1 ?side2 ?side3 ?side4 ?side5 A13.out).mono ?_
          (case side1 => exact CW ((Kd.C_below HR0_1.out HB.out)))
          (case side2 => exact HC0_1.out)
          (case side3 => exact CW ((Kd.C_below HR981_3.out HB.out)))
          (case side4 => exact HC981_3.out)
          (case side5 => exact GW HGL)
          rintro e w33 ⟨rfl, hb⟩
          refine ⟨_, rfl, ?_⟩
          replace BK979 := KB BK979 hb
          replace BK982 := KB BK982 hb
          replace HB := BS hb
          (try clear hb)
          (try clear hb2)
          (try clear hk)
          (try clear hi)
          refine hK.out _ _ ⟨bc 0 BK979, bc 1 BK979, bc 0 BK982, bc 1 BK982, bc 2 BK982, bc 3 BK982, bc 4 BK982, bc 5 BK982, ((HB.out.cell (World.block_lt_of_cell? w _ hw984_0)).trans hw984_0), ((HB.out.cell (World.block_lt_of_cell? w _ hw984_1)).trans hw984_1), ((HB.out.cell (World.block_lt_of_cell? w _ hw984_2)).trans hw984_2), ((HB.out.cell (World.block_lt_of_cell? w _ hw984_3)).trans hw984_3), ((HB.out.cell (World.block_lt_of_cell? w _ hw984_4)).trans hw984_4), ((HB.out.cell (World.block_lt_of_cell? w _ hw984_5)).trans hw984_5)⟩ (fun hHeld => ?_)
          clear hK K
          refine nA ?_
          refine pA 3 26 (mL 22 15) HT_ rfl rfl ?_
          refine pA 4 27 (mL 22 31) HT_ rfl rfl ?_
          refine pA 5 28 (mL 22 63) HT_ rfl rfl ?_
          refine pA 6 29 (mL 22 127) HT_ rfl rfl ?_
          refine pA 7 30 (mL 22 255) HT_ rfl rfl ?_
          refine pA 8 31 (mL 22 511) HT_ rfl rfl ?_
          refine pA 10 33 (mL 22 1535) HT_ rfl rfl ?_
          refine pA 11 34 (mL 22 3583) HT_ rfl rfl ?_
          refine pA 14 37 (mL 22 19967) HT_ rfl rfl ?_
          refine pA 16 39 (mL 22 85503) HT_ rfl rfl ?_
          refine tA 9 32 (mL 22 86015) HT_ HW_ hHeld rfl rfl (by rintro w' ⟨s0, s1, s2, s3, s4, s5, s6, s7, s8, s9, s10, s11, s12, s13⟩; go_simp; with_reducible rfl) ?_
          refine pA 12 35 (mL 22 90111) HT_ rfl rfl ?_
          refine tA 13 36 (mL 22 98303) HT_ HW_ hHeld rfl rfl (by rintro w' ⟨s0, s1, s2, s3, s4, s5, s6, s7, s8, s9, s10, s11, s12, s13⟩; go_simp; with_reducible rfl) ?_
          refine tA 15 38 (mL 22 131071) HT_ HW_ hHeld rfl rfl (by rintro w' ⟨s0, s1, s2, s3, s4, s5, s6, s7, s8, s9, s10, s11, s12, s13⟩; go_simp; with_reducible rfl) ?_
          refine tA 17 40 (mL 22 262143) HT_ HW_ hHeld rfl rfl (by rintro w' ⟨s0, s1, s2, s3, s4, s5, s6, s7, s8, s9, s10, s11, s12, s13⟩; go_simp; with_reducible rfl) ?_
          refine one_ (i := 18) (N := some 41) (mL 22 524287) rfl rfl (one_of HT_.out KR) (by decide) (fun K hK => ?_)
          refine goes_ Tryz.func88 KR rfl #[.agg #[.string ((rd_TEntry l0_1 (ji16)).f0), .int .i64 ((rd_TEntry l0_1 (ji16)).f1), .bool ((rd_TEntry l0_1 (ji16)).f2), .slice A984_3 ((rd_TEntry l0_1 (ji16)).f3).length c984_3, .int .i64 ((rd_TEntry l0_1 (ji16)).f4), .int .i64 ((rd_TEntry l0_1 (ji16)).f5)], .string ((rd_TEntry l0_1 x18_2).f0), .int .i64 ((rd_TEntry l0_1 x18_2).f1)] (by rfl) rfl rfl (by (try simp only [List.map_toArray, List.map_cons, List.map_nil]); first | done | (simp only [hji16]; rfl) | rfl | (simp only [List.length_drop, List.length_take]; rfl)) ?_
          with_reducible refine (impl_compareEntry.calls k2 ((rd_TEntry l0_1 (ji16)).f0) ((rd_TEntry l0_1 (ji16)).f1) ((rd_TEntry l0_1 (ji16)).f2) _ _ ((rd_TEntry l0_1 (ji16)).f3) ((rd_TEntry l0_1 (ji16)).f4) ((rd_TEntry l0_1 (ji16)).f5) ((rd_TEntry l0_1 x18_2).f0) ((rd_TEntry l0_1 x18_2).f1) t985 _ ?side1 ?side2 A19.out).mono ?_
          (case side1 => exact CW ((Kd.C_below HR984_3.out HB.out)))
          (case side2 => exact HC984_3.out)
          rintro e w34 ⟨rfl, hb⟩
          refine ⟨_, rfl, ?_⟩
          replace BK979 := KB BK979 hb
          replace BK982 := KB BK982 hb
          replace HB := BS hb
          (try clear hb)
          (try clear hb2)
          (try clear hk)
          (try clear hi)
          refine hK.out _ _ ⟨bc 0 BK979, bc 1 BK979, bc 0 BK982, bc 1 BK982, bc 2 BK982, bc 3 BK982, bc 4 BK982, bc 5 BK982, ((HB.out.cell (World.block_lt_of_cell? w _ hw984_0)).trans hw984_0), ((HB.out.cell (World.block_lt_of_cell? w _ hw984_1)).trans hw984_1), ((HB.out.cell (World.block_lt_of_cell? w _ hw984_2)).trans hw984_2), ((HB.out.cell (World.block_lt_of_cell? w _ hw984_3)).trans hw984_3), ((HB.out.cell (World.block_lt_of_cell? w _ hw984_4)).trans hw984_4), ((HB.out.cell (World.block_lt_of_cell? w _ hw984_5)).trans hw984_5)⟩ (fun hHeld => ?_)
          clear hK K
          refine nA ?_
          refine pA 19 42 (mL 22 1048575) HT_ rfl rfl ?_
          refine pA 20 43 (mL 22 2097151) HT_ rfl rfl ?_
          refine pA 21 44 (mL 22 4194303) HT_ rfl rfl ?_
          refine done_ (done_of HT_.out KR) ?_
          try go_wp2
          go_roundg k2
          case measure => have := HJ1.out; have := HK2.out; omega
          case rel => exact ⟨(wrap64 (x18_2 + 1)), TF, H', ⟨by have := HJ1.out; have := HK2.out; omega⟩, KW BK979, ⟨TB⟩⟩
        ·rw [if_neg c15] at H
         have c15b0 : decide (0 < x18_2) = false := decide_eq_false c15
         clear c15
         have H' := Aside0.mk H
         clear H
         have p981 : 0 ≤ (x18_2 : Int) := TD
         have q981 : x18_2 < (l0_1.length : Int) := TD
         obtain ⟨ad981, A981_3, c981_3, e981, hx981_0, hx981_1, hx981_2, hx981_3, hx981_4, hx981_5, hl981_3, hi981_3⟩ := at_TEntry HR0_1.out x18_2 p981 q981
         have hw981_3 := hx981_3
         cases e981
         replace hx981_0 := hBc HB hx981_0
         replace hx981_1 := hBc HB hx981_1
         replace hx981_2 := hBc HB hx981_2
         replace hx981_3 := hBc HB hx981_3
         replace hx981_4 := hBc HB hx981_4
         replace hx981_5 := hBc HB hx981_5
         have HR981_3 := Aside0.mk hi981_3
         have HC981_3 := Aside0.mk hl981_3
         clear hi981_3 hl981_3
         replace p981 := eq_true p981
         replace q981 := eq_true q981
         try go_wp2_with (first | ((with_reducible refine gate_dst (N := 4) rfl ?_); (try (refine gate_guard (by rfl) ?_; dsimp only)); refine bE 4 #[.string (⟨#[]⟩ : ByteArray), .int .i64 0, .bool false, .slice none 0 0, .int .i64 0, .int .i64 0] 107 ?_; intro gb982 hg w35 hbox hb; have BK982 := Aside0.mk (hbox); have GE982 := bG hg; replace HB := BS hb; have NB979_982 := bN BK979 hg; have NB982_979 := bM BK979 hg; replace BK979 := KB BK979 hb; clear hb hbox hg; have hnb36 := NB982_979.out; have hnc36 := NB979_982.out; have hcz37 := cz6 BK982))
         have n0_ : Aside0 (((((((w35.setCell ⟨gb982, 0, none⟩ (.string ((rd_TEntry l0_1 x18_2).f0))).setCell ⟨gb982, 1, none⟩ (.int .i64 ((rd_TEntry l0_1 x18_2).f1))).setCell ⟨gb982, 2, none⟩ (.bool ((rd_TEntry l0_1 x18_2).f2))).setCell ⟨gb982, 3, none⟩ (.slice A981_3 ((rd_TEntry l0_1 x18_2).f3).length c981_3)).setCell ⟨gb982, 4, none⟩ (.int .i64 ((rd_TEntry l0_1 x18_2).f4))).setCell ⟨gb982, 5, none⟩ (.int .i64 ((rd_TEntry l0_1 x18_2).f5))).heap[gb979]? = some (.cells #[.int .i64 a0_0, .slice (some ad981) l0_1.length c0_1] 54 (0, 0))) := ⟨TS⟩
         have n1_ : Aside0 (((((((w35.setCell ⟨gb982, 0, none⟩ (.string ((rd_TEntry l0_1 x18_2).f0))).setCell ⟨gb982, 1, none⟩ (.int .i64 ((rd_TEntry l0_1 x18_2).f1))).setCell ⟨gb982, 2, none⟩ (.bool ((rd_TEntry l0_1 x18_2).f2))).setCell ⟨gb982, 3, none⟩ (.slice A981_3 ((rd_TEntry l0_1 x18_2).f3).length c981_3)).setCell ⟨gb982, 4, none⟩ (.int .i64 ((rd_TEntry l0_1 x18_2).f4))).setCell ⟨gb982, 5, none⟩ (.int .i64 ((rd_TEntry l0_1 x18_2).f5))).heap[gb982]? = some (.cells #[.string ((rd_TEntry l0_1 x18_2).f0), .int .i64 ((rd_TEntry l0_1 x18_2).f1), .bool ((rd_TEntry l0_1 x18_2).f2), .slice A981_3 ((rd_TEntry l0_1 x18_2).f3).length c981_3, .int .i64 ((rd_TEntry l0_1 x18_2).f4), .int .i64 ((rd_TEntry l0_1 x18_2).f5)] 107 (0, 0))) := ⟨TS⟩
         have n2_ : Aside0 (Below w.heap.size w ((((((w35.setCell ⟨gb982, 0, none⟩ (.string ((rd_TEntry l0_1 x18_2).f0))).setCell ⟨gb982, 1, none⟩ (.int .i64 ((rd_TEntry l0_1 x18_2).f1))).setCell ⟨gb982, 2, none⟩ (.bool ((rd_TEntry l0_1 x18_2).f2))).setCell ⟨gb982, 3, none⟩ (.slice A981_3 ((rd_TEntry l0_1 x18_2).f3).length c981_3)).setCell ⟨gb982, 4, none⟩ (.int .i64 ((rd_TEntry l0_1 x18_2).f4))).setCell ⟨gb982, 5, none⟩ (.int .i64 ((rd_TEntry l0_1 x18_2).f5)))) := ⟨TB⟩
         (try clear BK979)
         (try clear BK982)
         (try clear HB)
         generalize ((((((w35.setCell ⟨gb982, 0, none⟩ (.string ((rd_TEntry l0_1 x18_2).f0))).setCell ⟨gb982, 1, none⟩ (.int .i64 ((rd_TEntry l0_1 x18_2).f1))).setCell ⟨gb982, 2, none⟩ (.bool ((rd_TEntry l0_1 x18_2).f2))).setCell ⟨gb982, 3, none⟩ (.slice A981_3 ((rd_TEntry l0_1 x18_2).f3).length c981_3)).setCell ⟨gb982, 4, none⟩ (.int .i64 ((rd_TEntry l0_1 x18_2).f4))).setCell ⟨gb982, 5, none⟩ (.int .i64 ((rd_TEntry l0_1 x18_2).f5))) = w38 at n0_ n1_ n2_ ⊢
         have BK979 := n0_
         have BK982 := n1_
         have HB := n2_
         clear n0_ n1_ n2_
         replace BK979 := Aside0.mk (blk_drew BK979.out)
         replace BK982 := Aside0.mk (blk_drew BK982.out)
         replace HB := Aside0.mk (below_drew1 HB.out)
         refine start_ (n := 22) (S := fun w' => w'.cell? ⟨gb979, 0, none⟩ = some (.int .i64 a0_0) ∧ w'.cell? ⟨gb979, 1, none⟩ = some (.slice (some ad981) l0_1.length c0_1) ∧ w'.cell? ⟨gb982, 0, none⟩ = some (.string ((rd_TEntry l0_1 x18_2).f0)) ∧ w'.cell? ⟨gb982, 1, none⟩ = some (.int .i64 ((rd_TEntry l0_1 x18_2).f1)) ∧ w'.cell? ⟨gb982, 2, none⟩ = some (.bool ((rd_TEntry l0_1 x18_2).f2)) ∧ w'.cell? ⟨gb982, 3, none⟩ = some (.slice A981_3 ((rd_TEntry l0_1 x18_2).f3).length c981_3) ∧ w'.cell? ⟨gb982, 4, none⟩ = some (.int .i64 ((rd_TEntry l0_1 x18_2).f4)) ∧ w'.cell? ⟨gb982, 5, none⟩ = some (.int .i64 ((rd_TEntry l0_1 x18_2).f5))) (ds := []) #[false, false, false, false, false, false, false, false, false, false, false, false, false, false, false, false, false, false, false, false, false, false] KR rfl rfl ⟨bc 0 BK979, bc 1 BK979, bc 0 BK982, bc 1 BK982, bc 2 BK982, bc 3 BK982, bc 4 BK982, bc 5 BK982⟩ (fun hHeld => ?_); refine with_tabW impl_GoodCache.tab6 impl_GoodCache.bits6 (fun HT_ HW_ => ?_)
         generalize w38.drew = w39 at BK979 BK982 HB hHeld ⊢
         refine tA 0 23 (mL 22 1) HT_ HW_ hHeld rfl rfl (by rintro w' ⟨s0, s1, s2, s3, s4, s5, s6, s7⟩; go_simp; with_reducible rfl) ?_
         refine tA 1 24 (mL 22 3) HT_ HW_ hHeld rfl rfl (by rintro w' ⟨s0, s1, s2, s3, s4, s5, s6, s7⟩; go_simp; with_reducible rfl) ?_
         refine one_ (i := 2) (N := some 25) (mL 22 7) rfl rfl (one_of HT_.out KR) (by decide) (fun K hK => ?_)
         refine goes_ Tryz.func87 KR rfl #[.agg #[.int .i64 a0_0, .slice (some ad981) l0_1.length c0_1], .agg #[.string ((rd_TEntry l0_1 x18_2).f0), .int .i64 ((rd_TEntry l0_1 x18_2).f1), .bool ((rd_TEntry l0_1 x18_2).f2), .slice A981_3 ((rd_TEntry l0_1 x18_2).f3).length c981_3, .int .i64 ((rd_TEntry l0_1 x18_2).f4), .int .i64 ((rd_TEntry l0_1 x18_2).f5)]] (by rfl) rfl rfl TA ?_
         with_reducible refine (impl_isEntry.calls k2 a0_0 _ _ l0_1 ((rd_TEntry l0_1 x18_2).f0) ((rd_TEntry l0_1 x18_2).f1) ((rd_TEntry l0_1 x18_2).f2) _ _ ((rd_TEntry l0_1 x18_2).f3) ((rd_TEntry l0_1 x18_2).f4) ((rd_TEntry l0_1 x18_2).f5) true _ ?side1 ?side2 ?side3 ?side4 ?side5 A13.out).mono ?_
         (case side1 => exact CW ((Kd.C_below HR0_1.out HB.out)))
         (case side2 => exact HC0_1.out)
         (case side3 => exact CW ((Kd.C_below HR981_3.out HB.out)))
         (case side4 => exact HC981_3.out)
         (case side5 => exact GW HGL)
         rintro e w40 ⟨rfl, hb⟩
         refine ⟨_, rfl, ?_⟩
         replace BK979 := KB BK979 hb
         replace BK982 := KB BK982 hb
         replace HB := BS hb
         (try clear hb)
         (try clear hb2)
         (try clear hk)
         (try clear hi)
         refine hK.out _ _ ⟨bc 0 BK979, bc 1 BK979, bc 0 BK982, bc 1 BK982, bc 2 BK982, bc 3 BK982, bc 4 BK982, bc 5 BK982⟩ (fun hHeld => ?_)
         clear hK K
         refine nA ?_
         refine pA 3 26 (mL 22 15) HT_ rfl rfl ?_
         refine pA 4 27 (mL 22 31) HT_ rfl rfl ?_
         refine pA 5 28 (mL 22 63) HT_ rfl rfl ?_
         refine pA 6 29 (mL 22 127) HT_ rfl rfl ?_
         refine pA 7 30 (mL 22 255) HT_ rfl rfl ?_
         refine pU 8 31 (mL 22 511) HT_ rfl rfl ?_
         refine pU 9 32 (mL 22 1023) HT_ rfl rfl ?_
         refine pU 10 33 (mL 22 2047) HT_ rfl rfl ?_
         refine pU 11 34 (mL 22 4095) HT_ rfl rfl ?_
         refine pU 12 35 (mL 22 8191) HT_ rfl rfl ?_
         refine pU 13 36 (mL 22 16383) HT_ rfl rfl ?_
         refine pU 14 37 (mL 22 32767) HT_ rfl rfl ?_
         refine pU 15 38 (mL 22 65535) HT_ rfl rfl ?_
         refine pU 16 39 (mL 22 131071) HT_ rfl rfl ?_
         refine pU 17 40 (mL 22 262143) HT_ rfl rfl ?_
         refine pU 18 41 (mL 22 524287) HT_ rfl rfl ?_
         refine pU 19 42 (mL 22 1048575) HT_ rfl rfl ?_
         refine pA 20 43 (mL 22 2097151) HT_ rfl rfl ?_
         refine pA 21 44 (mL 22 4194303) HT_ rfl rfl ?_
         refine done_ (done_of HT_.out KR) ?_
         try go_wp2
         go_roundg k2
         case measure => have := HJ1.out; have := HK2.out; omega
         case rel => exact ⟨(wrap64 (x18_2 + 1)), TF, H', ⟨by have := HJ1.out; have := HK2.out; omega⟩, KW BK979, ⟨TB⟩⟩
       ·replace c14 := Bool.eq_false_iff.mpr c14
        subst c14
        replace H := iff' H
        obtain rfl := Option.some.inj H
        have p981 : 0 ≤ (x18_2 : Int) := TD
        have q981 : x18_2 < (l0_1.length : Int) := TD
        obtain ⟨ad981, A981_3, c981_3, e981, hx981_0, hx981_1, hx981_2, hx981_3, hx981_4, hx981_5, hl981_3, hi981_3⟩ := at_TEntry HR0_1.out x18_2 p981 q981
        have hw981_3 := hx981_3
        cases e981
        replace hx981_0 := hBc HB hx981_0
        replace hx981_1 := hBc HB hx981_1
        replace hx981_2 := hBc HB hx981_2
        replace hx981_3 := hBc HB hx981_3
        replace hx981_4 := hBc HB hx981_4
        replace hx981_5 := hBc HB hx981_5
        have HR981_3 := Aside0.mk hi981_3
        have HC981_3 := Aside0.mk hl981_3
        clear hi981_3 hl981_3
        replace p981 := eq_true p981
        replace q981 := eq_true q981
        try go_wp2_with (first | ((with_reducible refine gate_dst (N := 4) rfl ?_); (try (refine gate_guard (by rfl) ?_; dsimp only)); refine bE 4 #[.string (⟨#[]⟩ : ByteArray), .int .i64 0, .bool false, .slice none 0 0, .int .i64 0, .int .i64 0] 107 ?_; intro gb982 hg w41 hbox hb; have BK982 := Aside0.mk (hbox); have GE982 := bG hg; replace HB := BS hb; have NB979_982 := bN BK979 hg; have NB982_979 := bM BK979 hg; replace BK979 := KB BK979 hb; clear hb hbox hg; have hnb42 := NB982_979.out; have hnc42 := NB979_982.out; have hcz43 := cz6 BK982))
        have n0_ : Aside0 (((((((w41.setCell ⟨gb982, 0, none⟩ (.string ((rd_TEntry l0_1 x18_2).f0))).setCell ⟨gb982, 1, none⟩ (.int .i64 ((rd_TEntry l0_1 x18_2).f1))).setCell ⟨gb982, 2, none⟩ (.bool ((rd_TEntry l0_1 x18_2).f2))).setCell ⟨gb982, 3, none⟩ (.slice A981_3 ((rd_TEntry l0_1 x18_2).f3).length c981_3)).setCell ⟨gb982, 4, none⟩ (.int .i64 ((rd_TEntry l0_1 x18_2).f4))).setCell ⟨gb982, 5, none⟩ (.int .i64 ((rd_TEntry l0_1 x18_2).f5))).heap[gb979]? = some (.cells #[.int .i64 a0_0, .slice (some ad981) l0_1.length c0_1] 54 (0, 0))) := ⟨TS⟩
        have n1_ : Aside0 (((((((w41.setCell ⟨gb982, 0, none⟩ (.string ((rd_TEntry l0_1 x18_2).f0))).setCell ⟨gb982, 1, none⟩ (.int .i64 ((rd_TEntry l0_1 x18_2).f1))).setCell ⟨gb982, 2, none⟩ (.bool ((rd_TEntry l0_1 x18_2).f2))).setCell ⟨gb982, 3, none⟩ (.slice A981_3 ((rd_TEntry l0_1 x18_2).f3).length c981_3)).setCell ⟨gb982, 4, none⟩ (.int .i64 ((rd_TEntry l0_1 x18_2).f4))).setCell ⟨gb982, 5, none⟩ (.int .i64 ((rd_TEntry l0_1 x18_2).f5))).heap[gb982]? = some (.cells #[.string ((rd_TEntry l0_1 x18_2).f0), .int .i64 ((rd_TEntry l0_1 x18_2).f1), .bool ((rd_TEntry l0_1 x18_2).f2), .slice A981_3 ((rd_TEntry l0_1 x18_2).f3).length c981_3, .int .i64 ((rd_TEntry l0_1 x18_2).f4), .int .i64 ((rd_TEntry l0_1 x18_2).f5)] 107 (0, 0))) := ⟨TS⟩
        have n2_ : Aside0 (Below w.heap.size w ((((((w41.setCell ⟨gb982, 0, none⟩ (.string ((rd_TEntry l0_1 x18_2).f0))).setCell ⟨gb982, 1, none⟩ (.int .i64 ((rd_TEntry l0_1 x18_2).f1))).setCell ⟨gb982, 2, none⟩ (.bool ((rd_TEntry l0_1 x18_2).f2))).setCell ⟨gb982, 3, none⟩ (.slice A981_3 ((rd_TEntry l0_1 x18_2).f3).length c981_3)).setCell ⟨gb982, 4, none⟩ (.int .i64 ((rd_TEntry l0_1 x18_2).f4))).setCell ⟨gb982, 5, none⟩ (.int .i64 ((rd_TEntry l0_1 x18_2).f5)))) := ⟨TB⟩
        (try clear BK979)
        (try clear BK982)
        (try clear HB)
        generalize ((((((w41.setCell ⟨gb982, 0, none⟩ (.string ((rd_TEntry l0_1 x18_2).f0))).setCell ⟨gb982, 1, none⟩ (.int .i64 ((rd_TEntry l0_1 x18_2).f1))).setCell ⟨gb982, 2, none⟩ (.bool ((rd_TEntry l0_1 x18_2).f2))).setCell ⟨gb982, 3, none⟩ (.slice A981_3 ((rd_TEntry l0_1 x18_2).f3).length c981_3)).setCell ⟨gb982, 4, none⟩ (.int .i64 ((rd_TEntry l0_1 x18_2).f4))).setCell ⟨gb982, 5, none⟩ (.int .i64 ((rd_TEntry l0_1 x18_2).f5))) = w44 at n0_ n1_ n2_ ⊢
        have BK979 := n0_
        have BK982 := n1_
        have HB := n2_
        clear n0_ n1_ n2_
        replace BK979 := Aside0.mk (blk_drew BK979.out)
        replace BK982 := Aside0.mk (blk_drew BK982.out)
        replace HB := Aside0.mk (below_drew1 HB.out)
        refine start_ (n := 22) (S := fun w' => w'.cell? ⟨gb979, 0, none⟩ = some (.int .i64 a0_0) ∧ w'.cell? ⟨gb979, 1, none⟩ = some (.slice (some ad981) l0_1.length c0_1) ∧ w'.cell? ⟨gb982, 0, none⟩ = some (.string ((rd_TEntry l0_1 x18_2).f0)) ∧ w'.cell? ⟨gb982, 1, none⟩ = some (.int .i64 ((rd_TEntry l0_1 x18_2).f1)) ∧ w'.cell? ⟨gb982, 2, none⟩ = some (.bool ((rd_TEntry l0_1 x18_2).f2)) ∧ w'.cell? ⟨gb982, 3, none⟩ = some (.slice A981_3 ((rd_TEntry l0_1 x18_2).f3).length c981_3) ∧ w'.cell? ⟨gb982, 4, none⟩ = some (.int .i64 ((rd_TEntry l0_1 x18_2).f4)) ∧ w'.cell? ⟨gb982, 5, none⟩ = some (.int .i64 ((rd_TEntry l0_1 x18_2).f5))) (ds := []) #[false, false, false, false, false, false, false, false, false, false, false, false, false, false, false, false, false, false, false, false, false, false] KR rfl rfl ⟨bc 0 BK979, bc 1 BK979, bc 0 BK982, bc 1 BK982, bc 2 BK982, bc 3 BK982, bc 4 BK982, bc 5 BK982⟩ (fun hHeld => ?_); refine with_tabW impl_GoodCache.tab6 impl_GoodCache.bits6 (fun HT_ HW_ => ?_)
        generalize w44.drew = w45 at BK979 BK982 HB hHeld ⊢
        refine tA 0 23 (mL 22 1) HT_ HW_ hHeld rfl rfl (by rintro w' ⟨s0, s1, s2, s3, s4, s5, s6, s7⟩; go_simp; with_reducible rfl) ?_
        refine tA 1 24 (mL 22 3) HT_ HW_ hHeld rfl rfl (by rintro w' ⟨s0, s1, s2, s3, s4, s5, s6, s7⟩; go_simp; with_reducible rfl) ?_
        refine one_ (i := 2) (N := some 25) (mL 22 7) rfl rfl (one_of HT_.out KR) (by decide) (fun K hK => ?_)
        refine goes_ Tryz.func87 KR rfl #[.agg #[.int .i64 a0_0, .slice (some ad981) l0_1.length c0_1], .agg #[.string ((rd_TEntry l0_1 x18_2).f0), .int .i64 ((rd_TEntry l0_1 x18_2).f1), .bool ((rd_TEntry l0_1 x18_2).f2), .slice A981_3 ((rd_TEntry l0_1 x18_2).f3).length c981_3, .int .i64 ((rd_TEntry l0_1 x18_2).f4), .int .i64 ((rd_TEntry l0_1 x18_2).f5)]] (by rfl) rfl rfl TA ?_
        with_reducible refine (impl_isEntry.calls k2 a0_0 _ _ l0_1 ((rd_TEntry l0_1 x18_2).f0) ((rd_TEntry l0_1 x18_2).f1) ((rd_TEntry l0_1 x18_2).f2) _ _ ((rd_TEntry l0_1 x18_2).f3) ((rd_TEntry l0_1 x18_2).f4) ((rd_TEntry l0_1 x18_2).f5) false _ ?side1 ?side2 ?side3 ?side4 ?side5 A13.out).mono ?_
        (case side1 => exact CW ((Kd.C_below HR0_1.out HB.out)))
        (case side2 => exact HC0_1.out)
        (case side3 => exact CW ((Kd.C_below HR981_3.out HB.out)))
        (case side4 => exact HC981_3.out)
        (case side5 => exact GW HGL)
        rintro e w46 ⟨rfl, hb⟩
        refine ⟨_, rfl, ?_⟩
        replace BK979 := KB BK979 hb
        replace BK982 := KB BK982 hb
        replace HB := BS hb
        (try clear hb)
        (try clear hb2)
        (try clear hk)
        (try clear hi)
        refine hK.out _ _ ⟨bc 0 BK979, bc 1 BK979, bc 0 BK982, bc 1 BK982, bc 2 BK982, bc 3 BK982, bc 4 BK982, bc 5 BK982⟩ (fun hHeld => ?_)
        clear hK K
        refine nA ?_
        refine pA 3 26 (mL 22 15) HT_ rfl rfl ?_
        refine pA 4 27 (mL 22 31) HT_ rfl rfl ?_
        refine pU 5 28 (mL 22 63) HT_ rfl rfl ?_
        refine pU 6 29 (mL 22 127) HT_ rfl rfl ?_
        refine pU 7 30 (mL 22 255) HT_ rfl rfl ?_
        refine pU 8 31 (mL 22 511) HT_ rfl rfl ?_
        refine pU 9 32 (mL 22 1023) HT_ rfl rfl ?_
        refine pU 10 33 (mL 22 2047) HT_ rfl rfl ?_
        refine pU 11 34 (mL 22 4095) HT_ rfl rfl ?_
        refine pU 12 35 (mL 22 8191) HT_ rfl rfl ?_
        refine pU 13 36 (mL 22 16383) HT_ rfl rfl ?_
        refine pU 14 37 (mL 22 32767) HT_ rfl rfl ?_
        refine pU 15 38 (mL 22 65535) HT_ rfl rfl ?_
        refine pU 16 39 (mL 22 131071) HT_ rfl rfl ?_
        refine pU 17 40 (mL 22 262143) HT_ rfl rfl ?_
        refine pU 18 41 (mL 22 524287) HT_ rfl rfl ?_
        refine pU 19 42 (mL 22 1048575) HT_ rfl rfl ?_
        refine pU 20 43 (mL 22 2097151) HT_ rfl rfl ?_
        refine pA 21 44 (mL 22 4194303) HT_ rfl rfl ?_
        refine done_ (done_of HT_.out KR) ?_
        try go_wp2
        go_ret
        exact ⟨TE, TB⟩
      ·rw [if_neg c10] at H
       have c10b0 : decide (x18_2 < (l0_1.length : Int)) = false := decide_eq_false c10
       clear c10
       obtain rfl := Option.some.inj H
       go_wp2
       go_ret
       exact ⟨TE, TB⟩
end
end Go.Proofs.YthohohfmdieohaaGreatDoor.Pp
