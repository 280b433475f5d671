/- The functions that the law reaches, one Lean function and its proof for each; written by wip/pp of this workplace, joined by claimit.py. -/
import Derived.Test.YthohohfmdieohaaGreatDoorProg
import Derived.Below
import Derived.Deep.Draws
import Derived.Deep.AppendLies
import Derived.Maps.AppendAt
import Derived.OwnWalk
import Derived.Laws.BytesArg
import Derived.Laws.MakeOwn
import Derived.Laws.OwnMore
import Derived.Deep.OwnRows
import Derived.Tactics
import Derived.Lib.ConvBytes
import Derived.Laws.Slices
import Derived.WalkKit
import Derived.KernelRfl
import Derived.RowKit3
import Derived.Deep.LoopGhost
import Derived.Deep.QuietTactic
import Derived.BigQuiet
import Derived.WideLaws
import Derived.Deep.DeepCutAuto
import Derived.Deep.CutBlock
import Derived.Deep.RegionHeld3
import Derived.Laws.Rows
import Derived.Lib.AppendStr
import Derived.ArgAppend
import Derived.Laws.IdiomCopy
import Derived.OrdersHeld
import Derived.Laws.BitsLemmas
import Derived.RowKit
import Derived.Test.YthohohfmdieohaaGreatDoorKFnExactOldestInW
import Derived.Test.YthohohfmdieohaaGreatDoorJFnExactOldestIn0
import Derived.Test.YthohohfmdieohaaGreatDoorJFnExactOldestIn1
import Derived.Test.YthohohfmdieohaaGreatDoorJFnExactOldestIn2
namespace Go.Proofs.YthohohfmdieohaaGreatDoor.Pp
open Go.RowKit Go.Proofs.YthohohfmdieohaaGreatDoorW.PrintWords Go.Proofs.YthohohfmdieohaaGreatDoorW.PrintLast Go.Proofs.YthohohfmdieohaaGreatDoorW.PrintMore
attribute [local go_sem] max2_int min2_int max_two min_two max_three min_three max_four min_four   -- for this text's walks alone
set_option linter.unusedVariables false
set_option linter.unusedSimpArgs false
set_option maxHeartbeats 8000000
set_option maxRecDepth 100000

section
/-! ### slices_Compare_string_string: function 172 -/
def slices_Compare_string_string.l0 : Nat → List ByteArray → List ByteArray → List ByteArray → Int → Int → Option (Int)
 | 0, _, _, _, _, _ => none
 | k + 1, x0, x1, x9, x10, x11 => if x11 < x10 then (if 0 ≤ x11 then (if x11 < (x9.length : Int) then (if x11 ≥ (x1.length : Int) then (some 1) else (if x11 < (x1.length : Int) then ((cmp_Compare_string.f (rdOf ByteArray.empty x9 x11) (rdOf ByteArray.empty x1 x11)).bind fun t352 => (if t352 = 0 then (slices_Compare_string_string.l0 k x0 x1 x9 x10 (wrap64 (x11 + 1))) else (some t352))) else (none))) else (none)) else (none)) else (if (x0.length : Int) < (x1.length : Int) then (some (-1)) else (some 0))
def slices_Compare_string_string.f (k : Nat) (l0 : List ByteArray) (l1 : List ByteArray) : Option (Int) := slices_Compare_string_string.l0 k l0 l1 l0 (l0.length : Int) 0
theorem slices_Compare_string_string.calls (k : Nat) (A0 : Option Addr) (c0 : Nat) (l0 : List ByteArray) (A1 : Option Addr) (c1 : Nat) (l1 : List ByteArray) (r : Int) (w : World) (hr0 : Kd.C Kd.string w A0 l0.length l0) (hc0 : l0.length ≤ c0) (hr1 : Kd.C Kd.string w A1 l1.length l1) (hc1 : l1.length ≤ c1) (h : slices_Compare_string_string.f k l0 l1 = some r) :
  Calls Tryz.prog 172 #[.slice A0 l0.length c0, .slice A1 l1.length c1] w fun e w' => e = .returned (.int .i64 r) ∧ Drawn0 w w' := by
 have HR0 := Aside0.mk hr0
 have HC0 := Aside0.mk hc0
 clear hr0 hc0
 have HR1 := Aside0.mk hr1
 have HC1 := Aside0.mk hc1
 clear hr1 hc1
 have H : (slices_Compare_string_string.l0 k l0 l1 l0 (l0.length : Int) 0) = some r := h
 clear h
 have H' := Aside0.mk H
 clear H
 go_enter Tryz.func172, Tryz.ntmps172
 go_wp2
 go_loopg [11] k (fun kq v11 w' => ∃ (x11_1 : Int), v11 = .int .i64 x11_1 ∧ Aside0 (slices_Compare_string_string.l0 kq l0 l1 l0 (l0.length : Int) x11_1 = some r) ∧ Aside0 (kq ≤ k) ∧ Drawn0 w w')
 case atStart => exact ⟨(0), TF, H', ⟨Nat.le_refl _⟩, TN⟩
 case round =>
  clear H'
  obtain ⟨x11_1, rfl, HA, HK1, ⟨m1, rfl⟩⟩ := hrel
  cases gk with
  | zero => exact absurd HA.out (by simp [slices_Compare_string_string.l0])
  | succ k1 =>
   have H := HA.out
   clear HA
   simp only [slices_Compare_string_string.l0] at H
   by_cases c3 : x11_1 < (l0.length : Int)
   ·rw [if_pos c3] at H
    have c3b0 : decide (x11_1 < (l0.length : Int)) = true := decide_eq_true c3
    clear c3
    obtain ⟨c4, H⟩ := ifn H
    have c4b0 : decide (0 ≤ x11_1) = true := decide_eq_true c4
    clear c4
    obtain ⟨c5, H⟩ := ifn H
    have c5b0 : decide (x11_1 < (l0.length : Int)) = true := decide_eq_true c5
    clear c5
    by_cases c6 : x11_1 ≥ (l1.length : Int)
    ·rw [if_pos c6] at H
     have c6b0 : decide ((l1.length : Int) ≤ x11_1) = true := decide_eq_true c6
     clear c6
     obtain rfl := Option.some.inj H
     have p350 : 0 ≤ (x11_1 : Int) := TD
     have q350 : x11_1 < (l0.length : Int) := TD
     obtain ⟨ad350, e350, hx350_0⟩ := Kd.at_string HR0.out x11_1 p350 q350
     cases e350
     replace p350 := eq_true p350
     replace q350 := eq_true q350
     go_wp2
     go_ret
     exact ⟨TF, TN⟩
    ·rw [if_neg c6] at H
     have c6b0 : decide ((l1.length : Int) ≤ x11_1) = false := decide_eq_false c6
     clear c6
     obtain ⟨c7, H⟩ := ifn H
     have c7b0 : decide (x11_1 < (l1.length : Int)) = true := decide_eq_true c7
     clear c7
     obtain ⟨t352, A8, H⟩ := bnd H
     by_cases c9 : t352 = 0
     ·rw [if_pos c9] at H
      have c9b0 : (t352 == 0) = true := beq_iff_eq.mpr c9
      have c9b1 : (t352 != 0) = false := bne_eq_false_iff_eq.mpr c9
      clear c9
      have H' := Aside0.mk H
      clear H
      have p350 : 0 ≤ (x11_1 : Int) := TD
      have q350 : x11_1 < (l0.length : Int) := TD
      obtain ⟨ad350, e350, hx350_0⟩ := Kd.at_string HR0.out x11_1 p350 q350
      cases e350
      replace p350 := eq_true p350
      replace q350 := eq_true q350
      have p351 : 0 ≤ (x11_1 : Int) := TD
      have q351 : x11_1 < (l1.length : Int) := TD
      obtain ⟨ad351, e351, hx351_0⟩ := Kd.at_string HR1.out x11_1 p351 q351
      cases e351
      replace p351 := eq_true p351
      replace q351 := eq_true q351
      go_wp2_with (first | ((with_reducible refine gate_callee (f := 200) rfl ?_); refine goesL_ (some 26) rfl rfl Tryz.func200 KR rfl #[.string (rdOf ByteArray.empty l0 x11_1), .string (rdOf ByteArray.empty l1 x11_1)] rfl TA ?_; (with_reducible refine (cmp_Compare_string.calls (rdOf ByteArray.empty l0 x11_1) (rdOf ByteArray.empty l1 x11_1) t352 _ A8.out).mono ?_); rintro e w' ⟨rfl, ⟨nd, rfl⟩⟩; refine ⟨_, rfl, ?_⟩))
      go_roundg k1
      case measure => have := HK1.out; omega
      case rel => exact ⟨(wrap64 (x11_1 + 1)), TF, H', ⟨TM⟩, TN⟩
     ·rw [if_neg c9] at H
      have c9b0 : (t352 == 0) = false := beq_eq_false_iff_ne.mpr c9
      have c9b1 : (t352 != 0) = true := bne_iff_ne.mpr c9
      obtain rfl := Option.some.inj H
      have p350 : 0 ≤ (x11_1 : Int) := TD
      have q350 : x11_1 < (l0.length : Int) := TD
      obtain ⟨ad350, e350, hx350_0⟩ := Kd.at_string HR0.out x11_1 p350 q350
      cases e350
      replace p350 := eq_true p350
      replace q350 := eq_true q350
      have p351 : 0 ≤ (x11_1 : Int) := TD
      have q351 : x11_1 < (l1.length : Int) := TD
      obtain ⟨ad351, e351, hx351_0⟩ := Kd.at_string HR1.out x11_1 p351 q351
      cases e351
      replace p351 := eq_true p351
      replace q351 := eq_true q351
      go_wp2_with (first | ((with_reducible refine gate_callee (f := 200) rfl ?_); refine goesL_ (some 26) rfl rfl Tryz.func200 KR rfl #[.string (rdOf ByteArray.empty l0 x11_1), .string (rdOf ByteArray.empty l1 x11_1)] rfl TA ?_; (with_reducible refine (cmp_Compare_string.calls (rdOf ByteArray.empty l0 x11_1) (rdOf ByteArray.empty l1 x11_1) t352 _ A8.out).mono ?_); rintro e w' ⟨rfl, ⟨nd, rfl⟩⟩; refine ⟨_, rfl, ?_⟩))
      go_ret
      exact ⟨TF, TN⟩
   ·rw [if_neg c3] at H
    have c3b0 : decide (x11_1 < (l0.length : Int)) = false := decide_eq_false c3
    clear c3
    by_cases c10 : (l0.length : Int) < (l1.length : Int)
    ·rw [if_pos c10] at H
     have c10b0 : decide ((l0.length : Int) < (l1.length : Int)) = true := decide_eq_true c10
     have c10b1 : decide (l0.length < l1.length) = true := decide_eq_true (Int.ofNat_lt.mp c10)
     clear c10
     obtain rfl := Option.some.inj H
     go_wp2
     go_ret
     exact ⟨TF, TN⟩
    ·rw [if_neg c10] at H
     have c10b0 : decide ((l0.length : Int) < (l1.length : Int)) = false := decide_eq_false c10
     have c10b1 : decide (l0.length < l1.length) = false := decide_eq_false (fun h => c10 (Int.ofNat_lt.mpr h))
     clear c10
     obtain rfl := Option.some.inj H
     go_wp2
     go_ret
     exact ⟨TF, TN⟩
end
section
/-! ### impl_compareNames: function 139 -/
def impl_compareNames.f (k : Nat) (a0 : ByteArray) (a1 : ByteArray) : Option (Int) := (impl_labelsOf.f k a0).bind fun t353 => ((impl_labelsOf.f k a1).bind fun t356 => ((slices_Reverse_string_string.f k t353).bind fun t359 => ((slices_Reverse_string_string.f k t356).bind fun t360 => ((slices_Compare_string_string.f k t359 t360).bind fun t361 => (some t361)))))
theorem impl_compareNames.calls (k : Nat) (a0 : ByteArray) (a1 : ByteArray) (r : Int) (w : World) (h : impl_compareNames.f k a0 a1 = some r) :
  Calls Tryz.prog 139 #[.string a0, .string a1] w fun e w' => e = .returned (.int .i64 r) ∧ Below w.heap.size w w' := by
 have HB := Aside0.mk (Below.refl w.heap.size w)
 have H : ((impl_labelsOf.f k a0).bind fun t353 => ((impl_labelsOf.f k a1).bind fun t356 => ((slices_Reverse_string_string.f k t353).bind fun t359 => ((slices_Reverse_string_string.f k t356).bind fun t360 => ((slices_Compare_string_string.f k t359 t360).bind fun t361 => (some t361)))))) = some r := h
 clear h
 obtain ⟨t353, A3, H⟩ := bnd H
 obtain ⟨t356, A4, H⟩ := bnd H
 obtain ⟨t359, A5, H⟩ := bnd H
 obtain ⟨t360, A6, H⟩ := bnd H
 obtain ⟨t361, A7, H⟩ := bnd H
 obtain rfl := Option.some.inj H
 go_enter Tryz.func139, Tryz.ntmps139
 go_wp2_with (first | ((with_reducible refine gate_callee (f := 128) rfl ?_); refine goesL_ (some 8) rfl rfl Tryz.func128 KR rfl #[.string a0] rfl TA ?_; (with_reducible refine (impl_labelsOf.calls k a0 t353 _ A3.out).mono ?_); rintro e w8 ⟨v354, rfl, ho0, hb⟩; refine ⟨_, rfl, ?_⟩; have HO355 := RL ho0; replace HB := BS hb; clear hb; (try clear ho0)) | ((with_reducible refine gate_callee (f := 128) rfl ?_); refine goesL_ (some 10) rfl rfl Tryz.func128 KR rfl #[.string a1] rfl TA ?_; (with_reducible refine (impl_labelsOf.calls k a1 t356 _ A4.out).mono ?_); rintro e w9 ⟨v357, rfl, ho0, hb⟩; refine ⟨_, rfl, ?_⟩; have HO358 := RL (NW ho0 HO355); replace HO355 := EL HO355 ho0 hb; replace HB := BS hb; clear hb; (try clear ho0); obtain ⟨Ao10, co10, eo10⟩ := Kd.R_slice HO355.out; subst eo10) | ((with_reducible refine gate_callee (f := 171) rfl ?_); refine goesL_ (some 12) rfl rfl Tryz.func171 KR rfl #[.slice Ao10 t353.length co10] rfl TA ?_; (with_reducible refine (slices_Reverse_string_string.calls k (fun k_ => some k_ = (.slice Ao10 t353.length co10 : Value).ownBlock) (.slice Ao10 t353.length co10) t353 t359 w _ ?side1 ?side2 A5.out).mono ?_); (case side1 => repeat (first | (with_reducible first | exact HB.out | apply below_alloc | apply pw_below_drewN | apply below_drew1) | exact HB.out)); (case side2 => exact Kd.R_tight rfl HO355.out); rintro e w11 ⟨rfl, hy0, hb, hkp⟩; refine ⟨_, rfl, ?_⟩; replace HO355 := Aside0.mk (Kd.R_reok rfl hy0 (fun k_ e_ => HO355.out.1 k_ e_)); replace HO358 := RK (fun k_ => some k_ ≠ (.slice Ao10 t353.length co10 : Value).ownBlock) HO358 hkp; replace HB := Aside0.mk (hb); clear hb; (try clear hkp); (try clear hy0); obtain ⟨Ao12, co12, eo12⟩ := Kd.R_slice HO358.out; subst eo12) | ((with_reducible refine gate_callee (f := 171) rfl ?_); refine goesL_ (some 14) rfl rfl Tryz.func171 KR rfl #[.slice Ao12 t356.length co12] rfl TA ?_; (with_reducible refine (slices_Reverse_string_string.calls k (fun k_ => some k_ = (.slice Ao12 t356.length co12 : Value).ownBlock) (.slice Ao12 t356.length co12) t356 t360 w _ ?side1 ?side2 A6.out).mono ?_); (case side1 => repeat (first | (with_reducible first | exact HB.out | apply below_alloc | apply pw_below_drewN | apply below_drew1) | exact HB.out)); (case side2 => exact Kd.R_tight rfl HO358.out); rintro e w13 ⟨rfl, hy0, hb, hkp⟩; refine ⟨_, rfl, ?_⟩; replace HO355 := RK (fun k_ => some k_ ≠ (.slice Ao12 t356.length co12 : Value).ownBlock) HO355 hkp; replace HO358 := Aside0.mk (Kd.R_reok rfl hy0 (fun k_ e_ => HO358.out.1 k_ e_)); replace HB := Aside0.mk (hb); clear hb; (try clear hkp); (try clear hy0)) | ((with_reducible refine gate_callee (f := 172) rfl ?_); refine goesL_ (some 17) rfl rfl Tryz.func172 KR rfl #[.slice Ao10 t359.length co10, .slice Ao12 t360.length co12] rfl (by (try simp only [List.map_toArray, List.map_cons, List.map_nil]); first | done | (rw [show t359.length = t353.length from (Kd.R_reads' HO355.out).1.symm, show t360.length = t356.length from (Kd.R_reads' HO358.out).1.symm] <;> rfl) | rfl | (simp only [List.length_drop, List.length_take]; rfl)) ?_; (with_reducible refine (slices_Compare_string_string.calls k _ _ t359 _ _ t360 t361 _ ?side1 ?side2 ?side3 ?side4 A7.out).mono ?_); (case side1 => exact CW ((Kd.R_reads' HO355.out).2.2)); (case side2 => rw [show t359.length = t353.length from (Kd.R_reads' HO355.out).1.symm]; exact RI HO355); (case side3 => exact CW ((Kd.R_reads' HO358.out).2.2)); (case side4 => rw [show t360.length = t356.length from (Kd.R_reads' HO358.out).1.symm]; exact RI HO358); rintro e w' ⟨rfl, ⟨nd, rfl⟩⟩; refine ⟨_, rfl, ?_⟩))
 go_ret
 exact ⟨TE, TB⟩
end
section
/-! ### impl_compareKeys: function 188 -/
def impl_compareKeys.f (k : Nat) (a0_0 : ByteArray) (a0_1 : Int) (a0_2 : Int) (a0_3 : ByteArray) (a1_0 : ByteArray) (a1_1 : Int) (a1_2 : Int) (a1_3 : ByteArray) : Option (Int) := (impl_compareNames.f k a0_0 a1_0).bind fun t367 => ((cmp_Compare_int.f a0_1 a1_1).bind fun t368 => ((cmp_Or_int.f k (([t367, t368] : List Int))).bind fun t372 => (some t372)))
def impl_compareKeys.T1 : Bool × List (List Nat × List Nat) := (true, [([], []), ([0], [0]), ([], []), ([2], [2]), ([1, 3], [1, 3]), ([], []), ([5], [5]), ([], []), ([7], [7]), ([6, 8, 4], [6, 8]), ([4, 9], [4, 9]), ([10, 9], [10]), ([11, 11, 0, 1, 2, 3, 4, 5, 6, 7, 8, 9, 10, 11], [11])])
def impl_compareKeys.B1 : List Nat := [0, 1, 0, 4, 15, 0, 32, 0, 128, 511, 1023, 2047, 4095]
theorem impl_compareKeys.tab1 : rtab .any (opsOf Tryz.f188 1) = impl_compareKeys.T1 := by kernel_rfl
theorem impl_compareKeys.bits1 : waitsOk impl_compareKeys.T1.2 impl_compareKeys.B1 = true := by kernel_rfl
theorem impl_compareKeys.calls (k : Nat) (a0_0 : ByteArray) (a0_1 : Int) (a0_2 : Int) (a0_3 : ByteArray) (a1_0 : ByteArray) (a1_1 : Int) (a1_2 : Int) (a1_3 : ByteArray) (r : Int) (w : World) (h : impl_compareKeys.f k a0_0 a0_1 a0_2 a0_3 a1_0 a1_1 a1_2 a1_3 = some r) :
  Calls Tryz.prog 188 #[.agg #[.string a0_0, .int .i64 a0_1, .int .i64 a0_2, .string a0_3], .agg #[.string a1_0, .int .i64 a1_1, .int .i64 a1_2, .string a1_3]] w fun e w' => e = .returned (.int .i64 r) ∧ Below w.heap.size w w' := by
 have hu93 := Tryz.underlying93
 have HB := Aside0.mk (Below.refl w.heap.size w)
 have H : ((impl_compareNames.f k a0_0 a1_0).bind fun t367 => ((cmp_Compare_int.f a0_1 a1_1).bind fun t368 => ((cmp_Or_int.f k (([t367, t368] : List Int))).bind fun t372 => (some t372)))) = some r := h
 clear h
 obtain ⟨t367, A3, H⟩ := bnd H
 obtain ⟨t368, A4, H⟩ := bnd H
 obtain ⟨y369, hy369⟩ : ∃ y_ : List Int, y_ = (([t367, t368] : List Int)) := ⟨_, rfl⟩
 replace H : ((cmp_Or_int.f k y369).bind fun t372 => (some t372)) = some r := by first | (rw [hy369]; with_reducible exact H) | (have H2_ := (Option.bind_some _ _).symm.trans H; rw [hy369]; with_reducible exact H2_) | (have H2_ := (Option.bind_some _ _).symm.trans H; with_reducible exact H2_) | with_reducible exact H | (rw [hy369]; exact H) | exact H
 have Ny369 := Aside0.mk hy369
 clear hy369
 obtain ⟨t372, A5, H⟩ := bnd H
 obtain rfl := Option.some.inj H
 go_enter Tryz.func188, Tryz.ntmps188
 try go_wp2_with (first | ((with_reducible refine gate_dst (N := 2) rfl ?_); refine bE 2 #[.string a0_0, .int .i64 a0_1, .int .i64 a0_2, .string a0_3] 93 ?_; intro gb365 hg w6 hbox hb; have BK365 := Aside0.mk (hbox); have GE365 := bG hg; replace HB := BS hb; clear hb hbox hg) | ((with_reducible refine gate_dst (N := 3) rfl ?_); refine bE 3 #[.string a1_0, .int .i64 a1_1, .int .i64 a1_2, .string a1_3] 93 ?_; intro gb366 hg w7 hbox hb; have BK366 := Aside0.mk (hbox); have GE366 := bG hg; replace HB := BS hb; have NB365_366 := bN BK365 hg; have NB366_365 := bM BK365 hg; replace BK365 := KB BK365 hb; clear hb hbox hg))
 replace BK365 := Aside0.mk (blk_drew BK365.out)
 replace BK366 := Aside0.mk (blk_drew BK366.out)
 replace HB := Aside0.mk (below_drew1 HB.out)
 refine start_ (n := 13) (S := fun w' => w'.cell? ⟨gb365, 0, none⟩ = some (.string a0_0) ∧ w'.cell? ⟨gb365, 1, none⟩ = some (.int .i64 a0_1) ∧ w'.cell? ⟨gb365, 2, none⟩ = some (.int .i64 a0_2) ∧ w'.cell? ⟨gb365, 3, none⟩ = some (.string a0_3) ∧ w'.cell? ⟨gb366, 0, none⟩ = some (.string a1_0) ∧ w'.cell? ⟨gb366, 1, none⟩ = some (.int .i64 a1_1) ∧ w'.cell? ⟨gb366, 2, none⟩ = some (.int .i64 a1_2) ∧ w'.cell? ⟨gb366, 3, none⟩ = some (.string a1_3)) (ds := []) #[false, false, false, false, false, false, false, false, false, false, false, false, false] KR rfl rfl ⟨bc 0 BK365, bc 1 BK365, bc 2 BK365, bc 3 BK365, bc 0 BK366, bc 1 BK366, bc 2 BK366, bc 3 BK366⟩ (fun hHeld => ?_); refine with_tabW impl_compareKeys.tab1 impl_compareKeys.bits1 (fun HT_ HW_ => ?_)
 generalize w7.drew = w8 at BK365 BK366 HB hHeld ⊢
 refine pA 0 5 (mL 13 1) HT_ rfl rfl ?_
 refine pA 2 7 (mL 13 5) HT_ rfl rfl ?_
 refine pA 5 10 (mL 13 37) HT_ rfl rfl ?_
 refine pA 7 12 (mL 13 165) HT_ rfl rfl ?_
 refine tA 1 6 (mL 13 167) HT_ HW_ hHeld rfl rfl (by rintro w' ⟨s0, s1, s2, s3, s4, s5, s6, s7⟩; go_simp; with_reducible rfl) ?_
 refine tA 3 8 (mL 13 175) HT_ HW_ hHeld rfl rfl (by rintro w' ⟨s0, s1, s2, s3, s4, s5, s6, s7⟩; go_simp; with_reducible rfl) ?_
 refine tA 6 11 (mL 13 239) HT_ HW_ hHeld rfl rfl (by rintro w' ⟨s0, s1, s2, s3, s4, s5, s6, s7⟩; go_simp; with_reducible rfl) ?_
 refine tA 8 13 (mL 13 495) HT_ HW_ hHeld rfl rfl (by rintro w' ⟨s0, s1, s2, s3, s4, s5, s6, s7⟩; go_simp; with_reducible rfl) ?_
 refine one_ (i := 4) (N := some 9) (mL 13 511) rfl rfl (one_of HT_.out KR) (by decide) (fun K hK => ?_)
 refine goes_ Tryz.func139 KR rfl #[.string a0_0, .string a1_0] (by rfl) rfl rfl TA ?_
 with_reducible refine (impl_compareNames.calls k a0_0 a1_0 t367 _ A3.out).mono ?_
 rintro e w9 ⟨rfl, hb⟩
 refine ⟨_, rfl, ?_⟩
 replace BK365 := KB BK365 hb
 replace BK366 := KB BK366 hb
 replace HB := BS hb
 (try clear hb)
 (try clear hb2)
 (try clear hk)
 (try clear hi)
 refine hK.out _ _ ⟨bc 0 BK365, bc 1 BK365, bc 2 BK365, bc 3 BK365, bc 0 BK366, bc 1 BK366, bc 2 BK366, bc 3 BK366⟩ (fun hHeld => ?_)
 clear hK K
 refine nA ?_
 refine one_ (i := 9) (N := some 14) (mL 13 1023) rfl rfl (one_of HT_.out KR) (by decide) (fun K hK => ?_)
 refine goes_ Tryz.func92 KR rfl #[.int .i64 a0_1, .int .i64 a1_1] (by rfl) rfl rfl TA ?_
 with_reducible refine (cmp_Compare_int.calls a0_1 a1_1 t368 _ A4.out).mono ?_
 rintro e w' ⟨rfl, ⟨nd, rfl⟩⟩
 refine ⟨_, rfl, ?_⟩
 refine hK.out _ _ ⟨bc 0 BK365, bc 1 BK365, bc 2 BK365, bc 3 BK365, bc 0 BK366, bc 1 BK366, bc 2 BK366, bc 3 BK366⟩ (fun hHeld => ?_)
 clear hK K
 refine nA ?_
 refine one_ (i := 10) (N := some 15) (mL 13 2047) rfl rfl (one_of HT_.out KR) (by decide) (fun K hK => ?_)
 refine Kd.R_lit_step (Kd.int .i64) _ 3 ?hg (N := 15) ?hd (xs := ([t367, t368] : List Int)) (inner := [.int .i64 t367, .int .i64 t368]) (ok := fun _ => True) (okp := fun _ => True) ?hr ?hp (fun _ hk => hk) trivial (Below.refl _ _) (Nat.le_refl _) (by simp) ?_; (case hd => rfl); (case hg => rfl); (case hr => first | (go_simp; done) | (go_simp; rfl)); (case hp => exact (Reps.one (show Kd.M (Kd.int .i64) _ _ _ t367 [.int .i64 t367] from rfl) (Reps.one (show Kd.M (Kd.int .i64) _ _ _ t368 [.int .i64 t368] from rfl) (Reps.none _ _))))
 intro v370 w10 ho11 hb hg_ hnew_
 clear hg_ hnew_
 (first | rw [← Ny369.out] at ho11 | (simp only [Int.reduceToNat] at ho11; rw [← Ny369.out] at ho11))
 have HO371 := RL ho11
 replace BK365 := KB BK365 hb
 replace BK366 := KB BK366 hb
 replace HB := BS hb
 clear hb ho11
 obtain ⟨Ao12, co12, eo12⟩ := Kd.R_slice HO371.out
 (first | subst eo12 | (injection eo12 with f1_ f2_ f3_; have f4_ := f1_.symm; have f5_ := f3_.symm; clear f1_ f2_ f3_; subst f4_; subst f5_))
 refine hK.out _ _ ⟨bc 0 BK365, bc 1 BK365, bc 2 BK365, bc 3 BK365, bc 0 BK366, bc 1 BK366, bc 2 BK366, bc 3 BK366⟩ (fun hHeld => ?_)
 clear hK K
 refine nA ?_
 refine one_ (i := 11) (N := some 16) (mL 13 4095) rfl rfl (one_of HT_.out KR) (by decide) (fun K hK => ?_)
 refine goes_ Tryz.func138 KR rfl #[.slice Ao12 y369.length co12] (by rfl) rfl rfl TA ?_
 with_reducible refine (cmp_Or_int.calls k _ _ y369 t372 _ ?side1 ?side2 A5.out).mono ?_
 (case side1 => exact CW ((Kd.R_reads' HO371.out).2.2))
 (case side2 => exact RI HO371)
 rintro e w' ⟨rfl, ⟨nd, rfl⟩⟩
 refine ⟨_, rfl, ?_⟩
 refine hK.out _ _ ⟨bc 0 BK365, bc 1 BK365, bc 2 BK365, bc 3 BK365, bc 0 BK366, bc 1 BK366, bc 2 BK366, bc 3 BK366⟩ (fun hHeld => ?_)
 clear hK K
 refine nA ?_
 refine pA 12 4 (mL 13 8191) HT_ rfl rfl ?_
 refine done_ (done_of HT_.out KR) ?_
 try go_wp2
 go_ret
 exact ⟨TE, TB⟩
end
section
/-! ### impl_dataBytes: function 190 -/
def impl_dataBytes.f (k : Nat) (a0 : Int) (a1 : ByteArray) : Option (ByteArray) := (impl_DataBytes.f k a0 a1).bind fun bt373 => (if bt373.2 = true then (some bt373.1) else (some (⟨#[]⟩ : ByteArray)))
theorem impl_dataBytes.calls (k : Nat) (a0 : Int) (a1 : ByteArray) (r : ByteArray) (w : World) (hG_ : Glob w) (h : impl_dataBytes.f k a0 a1 = some r) :
  Calls Tryz.prog 190 #[.int .i64 a0, .string a1] w fun e w' => e = .returned (.string r) ∧ Below w.heap.size w w' := by
 have HGL := Aside0.mk hG_
 clear hG_
 have HB := Aside0.mk (Below.refl w.heap.size w)
 have H : ((impl_DataBytes.f k a0 a1).bind fun bt373 => (if bt373.2 = true then (some bt373.1) else (some (⟨#[]⟩ : ByteArray)))) = some r := h
 clear h
 obtain ⟨⟨t373, t374⟩, A3, H⟩ := bnd H
 try dsimp only at H
 by_cases c4 : t374 = true
 ·subst c4
  replace H := ift H
  obtain rfl := Option.some.inj H
  go_enter Tryz.func190, Tryz.ntmps190
  go_wp2_with (first | ((with_reducible refine gate_callee (f := 187) rfl ?_); refine goesL_ (some 10) rfl rfl Tryz.func187 KR rfl #[.int .i64 a0, .string a1] rfl TA ?_; (with_reducible refine (impl_DataBytes.calls k a0 a1 t373 true _ ?side1 A3.out).mono ?_); (case side1 => exact GW HGL); rintro e w5 ⟨rfl, hb⟩; refine ⟨_, rfl, ?_⟩; replace HB := BS hb; clear hb))
  go_ret
  exact ⟨TE, TB⟩
 ·replace c4 := Bool.eq_false_iff.mpr c4
  subst c4
  replace H := iff' H
  obtain rfl := Option.some.inj H
  go_enter Tryz.func190, Tryz.ntmps190
  go_wp2_with (first | ((with_reducible refine gate_callee (f := 187) rfl ?_); refine goesL_ (some 10) rfl rfl Tryz.func187 KR rfl #[.int .i64 a0, .string a1] rfl TA ?_; (with_reducible refine (impl_DataBytes.calls k a0 a1 t373 false _ ?side1 A3.out).mono ?_); (case side1 => exact GW HGL); rintro e w6 ⟨rfl, hb⟩; refine ⟨_, rfl, ?_⟩; replace HB := BS hb; clear hb))
  go_ret
  exact ⟨TE, TB⟩
end
section
/-! ### strings_Compare: function 189 -/
def strings_Compare.f (a0 : ByteArray) (a1 : ByteArray) : Option (Int) := some (Go.Lib.compareBytes a0.data.toList a1.data.toList)
theorem strings_Compare.calls (a0 : ByteArray) (a1 : ByteArray) (r : Int) (w : World) (h : strings_Compare.f a0 a1 = some r) :
  Calls Tryz.prog 189 #[.string a0, .string a1] w fun e w' => e = .returned (.int .i64 r) ∧ Drawn0 w w' := by
 unfold strings_Compare.f at h
 obtain rfl := Option.some.inj h
 exact (Go.Proofs.Any.strings_Compare Go.Proofs.Tryz.lays106 a0 a1 w).mono fun e w' hh => ⟨hh.1, hh.2 ▸ Drawn0.refl _⟩
end
section
/-! ### impl_compareRecords: function 163 -/
def impl_compareRecords.f (k : Nat) (a0_0 : ByteArray) (a0_1 : Int) (a0_2 : Int) (a0_3 : ByteArray) (a1_0 : ByteArray) (a1_1 : Int) (a1_2 : Int) (a1_3 : ByteArray) : Option (Int) := (impl_compareKeys.f k a0_0 a0_1 a0_2 a0_3 a1_0 a1_1 a1_2 a1_3).bind fun t377 => ((impl_dataBytes.f k a0_1 a0_3).bind fun t378 => ((impl_dataBytes.f k a1_1 a1_3).bind fun t379 => ((strings_Compare.f t378 t379).bind fun t380 => ((cmp_Compare_int.f a0_2 a1_2).bind fun t381 => ((cmp_Or_int.f k (([t377, t380, t381] : List Int))).bind fun t385 => (some t385))))))
def impl_compareRecords.T1 : Bool × List (List Nat × List Nat) := (true, [([], []), ([], []), ([0, 1], [0, 1]), ([], []), ([3], [3]), ([], []), ([5], [5]), ([4, 6, 2], [4, 6]), ([], []), ([8], [8]), ([], []), ([10], [10]), ([9, 11, 7], [9, 11]), ([7, 12, 12], [7, 12]), ([], []), ([14], [14]), ([], []), ([16], [16]), ([15, 17, 13], [15, 17]), ([2, 13, 18], [2, 13, 18]), ([19, 18], [19]), ([20, 20, 0, 1, 2, 3, 4, 5, 6, 7, 8, 9, 10, 11, 12, 13, 14, 15, 16, 17, 18, 19, 20], [20])])
def impl_compareRecords.B1 : List Nat := [0, 0, 3, 0, 8, 0, 32, 127, 0, 256, 0, 1024, 4095, 8191, 0, 16384, 0, 65536, 262143, 524287, 1048575, 2097151]
theorem impl_compareRecords.tab1 : rtab .any (opsOf Tryz.f163 1) = impl_compareRecords.T1 := by kernel_rfl
theorem impl_compareRecords.bits1 : waitsOk impl_compareRecords.T1.2 impl_compareRecords.B1 = true := by kernel_rfl
theorem impl_compareRecords.calls (k : Nat) (a0_0 : ByteArray) (a0_1 : Int) (a0_2 : Int) (a0_3 : ByteArray) (a1_0 : ByteArray) (a1_1 : Int) (a1_2 : Int) (a1_3 : ByteArray) (r : Int) (w : World) (hG_ : Glob w) (h : impl_compareRecords.f k a0_0 a0_1 a0_2 a0_3 a1_0 a1_1 a1_2 a1_3 = some r) :
  Calls Tryz.prog 163 #[.agg #[.string a0_0, .int .i64 a0_1, .int .i64 a0_2, .string a0_3], .agg #[.string a1_0, .int .i64 a1_1, .int .i64 a1_2, .string a1_3]] w fun e w' => e = .returned (.int .i64 r) ∧ Below w.heap.size w w' := by
 have hu93 := Tryz.underlying93
 have HGL := Aside0.mk hG_
 clear hG_
 have HB := Aside0.mk (Below.refl w.heap.size w)
 have H : ((impl_compareKeys.f k a0_0 a0_1 a0_2 a0_3 a1_0 a1_1 a1_2 a1_3).bind fun t377 => ((impl_dataBytes.f k a0_1 a0_3).bind fun t378 => ((impl_dataBytes.f k a1_1 a1_3).bind fun t379 => ((strings_Compare.f t378 t379).bind fun t380 => ((cmp_Compare_int.f a0_2 a1_2).bind fun t381 => ((cmp_Or_int.f k (([t377, t380, t381] : List Int))).bind fun t385 => (some t385))))))) = some r := h
 clear h
 obtain ⟨t377, A3, H⟩ := bnd H
 obtain ⟨t378, A4, H⟩ := bnd H
 obtain ⟨t379, A5, H⟩ := bnd H
 obtain ⟨t380, A6, H⟩ := bnd H
 obtain ⟨t381, A7, H⟩ := bnd H
 obtain ⟨y382, hy382⟩ : ∃ y_ : List Int, y_ = (([t377, t380, t381] : List Int)) := ⟨_, rfl⟩
 replace H : ((cmp_Or_int.f k y382).bind fun t385 => (some t385)) = some r := by first | (rw [hy382]; with_reducible exact H) | (have H2_ := (Option.bind_some _ _).symm.trans H; rw [hy382]; with_reducible exact H2_) | (have H2_ := (Option.bind_some _ _).symm.trans H; with_reducible exact H2_) | with_reducible exact H | (rw [hy382]; exact H) | exact H
 have Ny382 := Aside0.mk hy382
 clear hy382
 obtain ⟨t385, A8, H⟩ := bnd H
 obtain rfl := Option.some.inj H
 go_enter Tryz.func163, Tryz.ntmps163
 try go_wp2_with (first | ((with_reducible refine gate_dst (N := 2) rfl ?_); refine bE 2 #[.string a0_0, .int .i64 a0_1, .int .i64 a0_2, .string a0_3] 93 ?_; intro gb375 hg w9 hbox hb; have BK375 := Aside0.mk (hbox); have GE375 := bG hg; replace HB := BS hb; clear hb hbox hg) | ((with_reducible refine gate_dst (N := 3) rfl ?_); refine bE 3 #[.string a1_0, .int .i64 a1_1, .int .i64 a1_2, .string a1_3] 93 ?_; intro gb376 hg w10 hbox hb; have BK376 := Aside0.mk (hbox); have GE376 := bG hg; replace HB := BS hb; have NB375_376 := bN BK375 hg; have NB376_375 := bM BK375 hg; replace BK375 := KB BK375 hb; clear hb hbox hg))
 replace BK375 := Aside0.mk (blk_drew BK375.out)
 replace BK376 := Aside0.mk (blk_drew BK376.out)
 replace HB := Aside0.mk (below_drew1 HB.out)
 refine start_ (n := 22) (S := fun w' => w'.cell? ⟨gb375, 0, none⟩ = some (.string a0_0) ∧ w'.cell? ⟨gb375, 1, none⟩ = some (.int .i64 a0_1) ∧ w'.cell? ⟨gb375, 2, none⟩ = some (.int .i64 a0_2) ∧ w'.cell? ⟨gb375, 3, none⟩ = some (.string a0_3) ∧ w'.cell? ⟨gb376, 0, none⟩ = some (.string a1_0) ∧ w'.cell? ⟨gb376, 1, none⟩ = some (.int .i64 a1_1) ∧ w'.cell? ⟨gb376, 2, none⟩ = some (.int .i64 a1_2) ∧ w'.cell? ⟨gb376, 3, none⟩ = some (.string a1_3)) (ds := []) #[false, false, false, false, false, false, false, false, false, false, false, false, false, false, false, false, false, false, false, false, false, false] KR rfl rfl ⟨bc 0 BK375, bc 1 BK375, bc 2 BK375, bc 3 BK375, bc 0 BK376, bc 1 BK376, bc 2 BK376, bc 3 BK376⟩ (fun hHeld => ?_); refine with_tabW impl_compareRecords.tab1 impl_compareRecords.bits1 (fun HT_ HW_ => ?_)
 generalize w10.drew = w11 at BK375 BK376 HB hHeld ⊢
 refine pA 3 8 (mL 22 8) HT_ rfl rfl ?_
 refine pA 5 10 (mL 22 40) HT_ rfl rfl ?_
 refine pA 8 13 (mL 22 296) HT_ rfl rfl ?_
 refine pA 10 15 (mL 22 1320) HT_ rfl rfl ?_
 refine pA 14 19 (mL 22 17704) HT_ rfl rfl ?_
 refine pA 16 21 (mL 22 83240) HT_ rfl rfl ?_
 refine tA 0 5 (mL 22 83241) HT_ HW_ hHeld rfl rfl (by rintro w' ⟨s0, s1, s2, s3, s4, s5, s6, s7⟩; go_simp; with_reducible rfl) ?_
 refine tA 1 6 (mL 22 83243) HT_ HW_ hHeld rfl rfl (by rintro w' ⟨s0, s1, s2, s3, s4, s5, s6, s7⟩; go_simp; with_reducible rfl) ?_
 refine tA 4 9 (mL 22 83259) HT_ HW_ hHeld rfl rfl (by rintro w' ⟨s0, s1, s2, s3, s4, s5, s6, s7⟩; go_simp; with_reducible rfl) ?_
 refine tA 6 11 (mL 22 83323) HT_ HW_ hHeld rfl rfl (by rintro w' ⟨s0, s1, s2, s3, s4, s5, s6, s7⟩; go_simp; with_reducible rfl) ?_
 refine tA 9 14 (mL 22 83835) HT_ HW_ hHeld rfl rfl (by rintro w' ⟨s0, s1, s2, s3, s4, s5, s6, s7⟩; go_simp; with_reducible rfl) ?_
 refine tA 11 16 (mL 22 85883) HT_ HW_ hHeld rfl rfl (by rintro w' ⟨s0, s1, s2, s3, s4, s5, s6, s7⟩; go_simp; with_reducible rfl) ?_
 refine tA 15 20 (mL 22 118651) HT_ HW_ hHeld rfl rfl (by rintro w' ⟨s0, s1, s2, s3, s4, s5, s6, s7⟩; go_simp; with_reducible rfl) ?_
 refine tA 17 22 (mL 22 249723) HT_ HW_ hHeld rfl rfl (by rintro w' ⟨s0, s1, s2, s3, s4, s5, s6, s7⟩; go_simp; with_reducible rfl) ?_
 refine one_ (i := 2) (N := some 7) (mL 22 249727) rfl rfl (one_of HT_.out KR) (by decide) (fun K hK => ?_)
 refine goes_ Tryz.func188 KR rfl #[.agg #[.string a0_0, .int .i64 a0_1, .int .i64 a0_2, .string a0_3], .agg #[.string a1_0, .int .i64 a1_1, .int .i64 a1_2, .string a1_3]] (by rfl) rfl rfl TA ?_
 with_reducible refine (impl_compareKeys.calls k a0_0 a0_1 a0_2 a0_3 a1_0 a1_1 a1_2 a1_3 t377 _ A3.out).mono ?_
 rintro e w12 ⟨rfl, hb⟩
 refine ⟨_, rfl, ?_⟩
 replace BK375 := KB BK375 hb
 replace BK376 := KB BK376 hb
 replace HB := BS hb
 (try clear hb)
 (try clear hb2)
 (try clear hk)
 (try clear hi)
 refine hK.out _ _ ⟨bc 0 BK375, bc 1 BK375, bc 2 BK375, bc 3 BK375, bc 0 BK376, bc 1 BK376, bc 2 BK376, bc 3 BK376⟩ (fun hHeld => ?_)
 clear hK K
 refine nA ?_
 refine one_ (i := 7) (N := some 12) (mL 22 249855) rfl rfl (one_of HT_.out KR) (by decide) (fun K hK => ?_)
 refine goes_ Tryz.func190 KR rfl #[.int .i64 a0_1, .string a0_3] (by rfl) rfl rfl TA ?_
 with_reducible refine (impl_dataBytes.calls k a0_1 a0_3 t378 _ ?side1 A4.out).mono ?_
 (case side1 => exact GW HGL)
 rintro e w13 ⟨rfl, hb⟩
 refine ⟨_, rfl, ?_⟩
 replace BK375 := KB BK375 hb
 replace BK376 := KB BK376 hb
 replace HB := BS hb
 (try clear hb)
 (try clear hb2)
 (try clear hk)
 (try clear hi)
 refine hK.out _ _ ⟨bc 0 BK375, bc 1 BK375, bc 2 BK375, bc 3 BK375, bc 0 BK376, bc 1 BK376, bc 2 BK376, bc 3 BK376⟩ (fun hHeld => ?_)
 clear hK K
 refine nA ?_
 refine one_ (i := 12) (N := some 17) (mL 22 253951) rfl rfl (one_of HT_.out KR) (by decide) (fun K hK => ?_)
 refine goes_ Tryz.func190 KR rfl #[.int .i64 a1_1, .string a1_3] (by rfl) rfl rfl TA ?_
 with_reducible refine (impl_dataBytes.calls k a1_1 a1_3 t379 _ ?side1 A5.out).mono ?_
 (case side1 => exact GW HGL)
 rintro e w14 ⟨rfl, hb⟩
 refine ⟨_, rfl, ?_⟩
 replace BK375 := KB BK375 hb
 replace BK376 := KB BK376 hb
 replace HB := BS hb
 (try clear hb)
 (try clear hb2)
 (try clear hk)
 (try clear hi)
 refine hK.out _ _ ⟨bc 0 BK375, bc 1 BK375, bc 2 BK375, bc 3 BK375, bc 0 BK376, bc 1 BK376, bc 2 BK376, bc 3 BK376⟩ (fun hHeld => ?_)
 clear hK K
 refine nA ?_
 refine one_ (i := 13) (N := some 18) (mL 22 262143) rfl rfl (one_of HT_.out KR) (by decide) (fun K hK => ?_)
 refine goes_ Tryz.func189 KR rfl #[.string t378, .string t379] (by rfl) rfl rfl TA ?_
 with_reducible refine (strings_Compare.calls t378 t379 t380 _ A6.out).mono ?_
 rintro e w' ⟨rfl, ⟨nd, rfl⟩⟩
 refine ⟨_, rfl, ?_⟩
 refine hK.out _ _ ⟨bc 0 BK375, bc 1 BK375, bc 2 BK375, bc 3 BK375, bc 0 BK376, bc 1 BK376, bc 2 BK376, bc 3 BK376⟩ (fun hHeld => ?_)
 clear hK K
 refine nA ?_
 refine one_ (i := 18) (N := some 23) (mL 22 524287) rfl rfl (one_of HT_.out KR) (by decide) (fun K hK => ?_)
 refine goes_ Tryz.func92 KR rfl #[.int .i64 a0_2, .int .i64 a1_2] (by rfl) rfl rfl TA ?_
 with_reducible refine (cmp_Compare_int.calls a0_2 a1_2 t381 _ A7.out).mono ?_
 rintro e w' ⟨rfl, ⟨nd, rfl⟩⟩
 refine ⟨_, rfl, ?_⟩
 refine hK.out _ _ ⟨bc 0 BK375, bc 1 BK375, bc 2 BK375, bc 3 BK375, bc 0 BK376, bc 1 BK376, bc 2 BK376, bc 3 BK376⟩ (fun hHeld => ?_)
 clear hK K
 refine nA ?_
 refine one_ (i := 19) (N := some 24) (mL 22 1048575) rfl rfl (one_of HT_.out KR) (by decide) (fun K hK => ?_)
 refine Kd.R_lit_step (Kd.int .i64) _ 3 ?hg (N := 24) ?hd (xs := ([t377, t380, t381] : List Int)) (inner := [.int .i64 t377, .int .i64 t380, .int .i64 t381]) (ok := fun _ => True) (okp := fun _ => True) ?hr ?hp (fun _ hk => hk) trivial (Below.refl _ _) (Nat.le_refl _) (by simp) ?_; (case hd => rfl); (case hg => rfl); (case hr => first | (go_simp; done) | (go_simp; rfl)); (case hp => exact (Reps.one (show Kd.M (Kd.int .i64) _ _ _ t377 [.int .i64 t377] from rfl) (Reps.one (show Kd.M (Kd.int .i64) _ _ _ t380 [.int .i64 t380] from rfl) (Reps.one (show Kd.M (Kd.int .i64) _ _ _ t381 [.int .i64 t381] from rfl) (Reps.none _ _)))))
 intro v383 w15 ho16 hb hg_ hnew_
 clear hg_ hnew_
 (first | rw [← Ny382.out] at ho16 | (simp only [Int.reduceToNat] at ho16; rw [← Ny382.out] at ho16))
 have HO384 := RL ho16
 replace BK375 := KB BK375 hb
 replace BK376 := KB BK376 hb
 replace HB := BS hb
 clear hb ho16
 obtain ⟨Ao17, co17, eo17⟩ := Kd.R_slice HO384.out
 (first | subst eo17 | (injection eo17 with f1_ f2_ f3_; have f4_ := f1_.symm; have f5_ := f3_.symm; clear f1_ f2_ f3_; subst f4_; subst f5_))
 refine hK.out _ _ ⟨bc 0 BK375, bc 1 BK375, bc 2 BK375, bc 3 BK375, bc 0 BK376, bc 1 BK376, bc 2 BK376, bc 3 BK376⟩ (fun hHeld => ?_)
 clear hK K
 refine nA ?_
 refine one_ (i := 20) (N := some 25) (mL 22 2097151) rfl rfl (one_of HT_.out KR) (by decide) (fun K hK => ?_)
 refine goes_ Tryz.func138 KR rfl #[.slice Ao17 y382.length co17] (by rfl) rfl rfl TA ?_
 with_reducible refine (cmp_Or_int.calls k _ _ y382 t385 _ ?side1 ?side2 A8.out).mono ?_
 (case side1 => exact CW ((Kd.R_reads' HO384.out).2.2))
 (case side2 => exact RI HO384)
 rintro e w' ⟨rfl, ⟨nd, rfl⟩⟩
 refine ⟨_, rfl, ?_⟩
 refine hK.out _ _ ⟨bc 0 BK375, bc 1 BK375, bc 2 BK375, bc 3 BK375, bc 0 BK376, bc 1 BK376, bc 2 BK376, bc 3 BK376⟩ (fun hHeld => ?_)
 clear hK K
 refine nA ?_
 refine pA 21 4 (mL 22 4194303) HT_ rfl rfl ?_
 refine done_ (done_of HT_.out KR) ?_
 try go_wp2
 go_ret
 exact ⟨TE, TB⟩
end
section
/-! ### impl_areRising: function 121 -/
def impl_areRising.l0 : Nat → List (S_Record) → List (S_Record) → Int → Int → Option (Bool)
 | 0, _, _, _, _ => none
 | k + 1, x0, x5, x6, x7 => if x7 < x6 then (if 0 ≤ x7 then (if x7 < (x5.length : Int) then ((impl_GoodRecord.f k ((rd_TRecord x5 x7).f0) ((rd_TRecord x5 x7).f1) ((rd_TRecord x5 x7).f2) ((rd_TRecord x5 x7).f3)).bind fun t388 => (if t388 = true then (if x7 > 0 then (if 0 ≤ (wrap64 (x7 - 1)) then (if (wrap64 (x7 - 1)) < (x0.length : Int) then ((impl_compareRecords.f k ((rd_TRecord x0 (wrap64 (x7 - 1))).f0) ((rd_TRecord x0 (wrap64 (x7 - 1))).f1) ((rd_TRecord x0 (wrap64 (x7 - 1))).f2) ((rd_TRecord x0 (wrap64 (x7 - 1))).f3) ((rd_TRecord x5 x7).f0) ((rd_TRecord x5 x7).f1) ((rd_TRecord x5 x7).f2) ((rd_TRecord x5 x7).f3)).bind fun t390 => (if t390 ≥ 0 then (some false) else (impl_areRising.l0 k x0 x5 x6 (wrap64 (x7 + 1))))) else (none)) else (none)) else (impl_areRising.l0 k x0 x5 x6 (wrap64 (x7 + 1)))) else (some false))) else (none)) else (none)) else (some true)
def impl_areRising.f (k : Nat) (l0 : List (S_Record)) : Option (Bool) := impl_areRising.l0 k l0 l0 (l0.length : Int) 0
def impl_areRising.T4 : Bool × List (List Nat × List Nat) := (true, [([], []), ([0], [0]), ([1], [1]), ([2, 1], [2]), ([3], [3]), ([4, 3], [3, 4]), ([5, 3, 3], [3, 5]), ([6], [6]), ([6], [6]), ([8, 6], [6, 8]), ([7, 9, 6], [6, 7, 9]), ([10, 6], [6, 10]), ([6], [6]), ([11, 12, 6, 6], [6, 11, 12]), ([13, 6], [6, 13]), ([6, 14, 3], [3, 6, 14]), ([3, 15], [3, 15])])
def impl_areRising.B4 : List Nat := [0, 1, 3, 7, 15, 31, 63, 127, 127, 383, 1023, 2047, 127, 8191, 16383, 32767, 65535]
theorem impl_areRising.tab4 : rtab .any (opsOf Tryz.f121 4) = impl_areRising.T4 := by kernel_rfl
theorem impl_areRising.bits4 : waitsOk impl_areRising.T4.2 impl_areRising.B4 = true := by kernel_rfl
theorem impl_areRising.calls (k : Nat) (A0 : Option Addr) (c0 : Nat) (l0 : List (S_Record)) (r : Bool) (w : World) (hr0 : Kd.C k_Record w A0 l0.length l0) (hc0 : l0.length ≤ c0) (hG_ : Glob w) (h : impl_areRising.f k l0 = some r) :
  Calls Tryz.prog 121 #[.slice A0 l0.length c0] w fun e w' => e = .returned (.bool r) ∧ Below w.heap.size w w' := by
 have hu93 := Tryz.underlying93
 have HR0 := Aside0.mk hr0
 have HC0 := Aside0.mk hc0
 clear hr0 hc0
 have HGL := Aside0.mk hG_
 clear hG_
 have HB := Aside0.mk (Below.refl w.heap.size w)
 have H : (impl_areRising.l0 k l0 l0 (l0.length : Int) 0) = some r := h
 clear h
 have H' := Aside0.mk H
 clear H
 go_enter Tryz.func121, Tryz.ntmps121
 go_wp2
 go_loopg [7] k (fun kq v7 w' => ∃ (x7_1 : Int), v7 = .int .i64 x7_1 ∧ Aside0 (impl_areRising.l0 kq l0 l0 (l0.length : Int) x7_1 = some r) ∧ Aside0 (kq ≤ k) ∧ Aside0 (Below w.heap.size w w'))
 case atStart => exact ⟨(0), TF, H', ⟨Nat.le_refl _⟩, ⟨TB⟩⟩
 case round =>
  clear H'
  obtain ⟨x7_1, rfl, HA, HK1, HB⟩ := hrel
  cases gk with
  | zero => exact absurd HA.out (by simp [impl_areRising.l0])
  | succ k1 =>
   have H := HA.out
   clear HA
   simp only [impl_areRising.l0] at H
   by_cases c2 : x7_1 < (l0.length : Int)
   ·rw [if_pos c2] at H
    have c2b0 : decide (x7_1 < (l0.length : Int)) = true := decide_eq_true c2
    clear c2
    obtain ⟨c3, H⟩ := ifn H
    have c3b0 : decide (0 ≤ x7_1) = true := decide_eq_true c3
    clear c3
    obtain ⟨c4, H⟩ := ifn H
    have c4b0 : decide (x7_1 < (l0.length : Int)) = true := decide_eq_true c4
    clear c4
    obtain ⟨t388, A5, H⟩ := bnd H
    by_cases c6 : t388 = true
    ·subst c6
     replace H := ift H
     by_cases c7 : x7_1 > 0
     ·rw [if_pos c7] at H
      have c7b0 : decide (0 < x7_1) = true := decide_eq_true c7
      clear c7
      obtain ⟨ji8, hji8⟩ : ∃ j_ : Int, (wrap64 (x7_1 - 1)) = j_ := ⟨_, rfl⟩
      replace H : (if 0 ≤ (ji8) then (if (ji8) < (l0.length : Int) then ((impl_compareRecords.f k1 ((rd_TRecord l0 (ji8)).f0) ((rd_TRecord l0 (ji8)).f1) ((rd_TRecord l0 (ji8)).f2) ((rd_TRecord l0 (ji8)).f3) ((rd_TRecord l0 x7_1).f0) ((rd_TRecord l0 x7_1).f1) ((rd_TRecord l0 x7_1).f2) ((rd_TRecord l0 x7_1).f3)).bind fun t390 => (if t390 ≥ 0 then (some false) else (impl_areRising.l0 k1 l0 l0 (l0.length : Int) (wrap64 (x7_1 + 1))))) else (none)) else (none)) = some r := by first | (rw [hji8] at H; exact H) | (simp only [hji8] at H ⊢; exact H)
      (try rw [hji8] at A5)
      have hji8w : (IntKind.i64.wrap (x7_1 - 1)) = ji8 := (i64_w _).trans hji8
      obtain ⟨c9, H⟩ := ifn H
      have c9b0 : decide (0 ≤ (ji8)) = true := decide_eq_true c9
      clear c9
      obtain ⟨c10, H⟩ := ifn H
      have c10b0 : decide ((ji8) < (l0.length : Int)) = true := decide_eq_true c10
      clear c10
      obtain ⟨t390, A11, H⟩ := bnd H
      by_cases c12 : t390 ≥ 0
      ·rw [if_pos c12] at H
       have c12b0 : decide (0 ≤ t390) = true := decide_eq_true c12
       clear c12
       obtain rfl := Option.some.inj H
       have p386 : 0 ≤ (x7_1 : Int) := TD
       have q386 : x7_1 < (l0.length : Int) := TD
       obtain ⟨ad386, e386, hx386_0, hx386_1, hx386_2, hx386_3⟩ := at_TRecord (Kd.C_below HR0.out HB.out) x7_1 p386 q386
       cases e386
       replace p386 := eq_true p386
       replace q386 := eq_true q386
       try go_wp2_with (first | ((with_reducible refine gate_dst (N := 4) rfl ?_); refine bE 4 #[.string (⟨#[]⟩ : ByteArray), .int .i64 0, .int .i64 0, .string (⟨#[]⟩ : ByteArray)] 93 ?_; intro gb387 hg w13 hbox hb; have BK387 := Aside0.mk (hbox); have GE387 := bG hg; replace HB := BS hb; clear hb hbox hg; have hcz14 := cz4 BK387))
       have n0_ : Aside0 (((((w13.setCell ⟨gb387, 0, none⟩ (.string ((rd_TRecord l0 x7_1).f0))).setCell ⟨gb387, 1, none⟩ (.int .i64 ((rd_TRecord l0 x7_1).f1))).setCell ⟨gb387, 2, none⟩ (.int .i64 ((rd_TRecord l0 x7_1).f2))).setCell ⟨gb387, 3, none⟩ (.string ((rd_TRecord l0 x7_1).f3))).heap[gb387]? = some (.cells #[.string ((rd_TRecord l0 x7_1).f0), .int .i64 ((rd_TRecord l0 x7_1).f1), .int .i64 ((rd_TRecord l0 x7_1).f2), .string ((rd_TRecord l0 x7_1).f3)] 93 (0, 0))) := ⟨TS⟩
       have n1_ : Aside0 (Below w.heap.size w ((((w13.setCell ⟨gb387, 0, none⟩ (.string ((rd_TRecord l0 x7_1).f0))).setCell ⟨gb387, 1, none⟩ (.int .i64 ((rd_TRecord l0 x7_1).f1))).setCell ⟨gb387, 2, none⟩ (.int .i64 ((rd_TRecord l0 x7_1).f2))).setCell ⟨gb387, 3, none⟩ (.string ((rd_TRecord l0 x7_1).f3)))) := ⟨TB⟩
       (try clear BK387)
       (try clear HB)
       generalize ((((w13.setCell ⟨gb387, 0, none⟩ (.string ((rd_TRecord l0 x7_1).f0))).setCell ⟨gb387, 1, none⟩ (.int .i64 ((rd_TRecord l0 x7_1).f1))).setCell ⟨gb387, 2, none⟩ (.int .i64 ((rd_TRecord l0 x7_1).f2))).setCell ⟨gb387, 3, none⟩ (.string ((rd_TRecord l0 x7_1).f3))) = w15 at n0_ n1_ ⊢
       have BK387 := n0_
       have HB := n1_
       clear n0_ n1_
       replace BK387 := Aside0.mk (blk_drew BK387.out)
       replace HB := Aside0.mk (below_drew1 HB.out)
       have p389 : 0 ≤ ((ji8) : Int) := TD
       have q389 : (ji8) < (l0.length : Int) := TD
       obtain ⟨ad389, e389, hx389_0, hx389_1, hx389_2, hx389_3⟩ := at_TRecord HR0.out (ji8) p389 q389
       have hw389_3 := hx389_3
       have hw389_2 := hx389_2
       have hw389_1 := hx389_1
       have hw389_0 := hx389_0
       obtain rfl : ad386 = ad389 := (by injection e389)
       replace hx389_0 := hBc HB hx389_0
       replace hx389_1 := hBc HB hx389_1
       replace hx389_2 := hBc HB hx389_2
       replace hx389_3 := hBc HB hx389_3
       replace p389 := eq_true p389
       replace q389 := eq_true q389
       refine start_ (n := 17) (S := fun w' => w'.cell? ⟨gb387, 0, none⟩ = some (.string ((rd_TRecord l0 x7_1).f0)) ∧ w'.cell? ⟨gb387, 1, none⟩ = some (.int .i64 ((rd_TRecord l0 x7_1).f1)) ∧ w'.cell? ⟨gb387, 2, none⟩ = some (.int .i64 ((rd_TRecord l0 x7_1).f2)) ∧ w'.cell? ⟨gb387, 3, none⟩ = some (.string ((rd_TRecord l0 x7_1).f3)) ∧ w'.cell? (ad386.add (((ji8)).toNat * 4)) = some (.string ((rd_TRecord l0 (ji8)).f0)) ∧ w'.cell? ⟨(ad386.add (((ji8)).toNat * 4)).block, (ad386.add (((ji8)).toNat * 4)).off + 1, none⟩ = some (.int .i64 ((rd_TRecord l0 (ji8)).f1)) ∧ w'.cell? ⟨(ad386.add (((ji8)).toNat * 4)).block, (ad386.add (((ji8)).toNat * 4)).off + 2, none⟩ = some (.int .i64 ((rd_TRecord l0 (ji8)).f2)) ∧ w'.cell? ⟨(ad386.add (((ji8)).toNat * 4)).block, (ad386.add (((ji8)).toNat * 4)).off + 3, none⟩ = some (.string ((rd_TRecord l0 (ji8)).f3))) (ds := []) #[false, false, false, false, false, false, false, false, false, false, false, false, false, false, false, false, false] KR rfl rfl ⟨bc 0 BK387, bc 1 BK387, bc 2 BK387, bc 3 BK387, ((HB.out.cell (World.block_lt_of_cell? w _ hw389_0)).trans hw389_0), ((HB.out.cell (World.block_lt_of_cell? w _ hw389_1)).trans hw389_1), ((HB.out.cell (World.block_lt_of_cell? w _ hw389_2)).trans hw389_2), ((HB.out.cell (World.block_lt_of_cell? w _ hw389_3)).trans hw389_3)⟩ (fun hHeld => ?_); refine with_tabW impl_areRising.tab4 impl_areRising.bits4 (fun HT_ HW_ => ?_)
       generalize w15.drew = w16 at BK387 HB hx389_0 hx389_1 hx389_2 hx389_3 hHeld ⊢
       refine tA 0 12 (mL 17 1) HT_ HW_ hHeld rfl rfl (by rintro w' ⟨s0, s1, s2, s3, s4, s5, s6, s7⟩; go_simp; with_reducible rfl) ?_
       refine one_ (i := 1) (N := some 13) (mL 17 3) rfl rfl (one_of HT_.out KR) (by decide) (fun K hK => ?_)
       refine goes_ Tryz.func162 KR rfl #[.agg #[.string ((rd_TRecord l0 x7_1).f0), .int .i64 ((rd_TRecord l0 x7_1).f1), .int .i64 ((rd_TRecord l0 x7_1).f2), .string ((rd_TRecord l0 x7_1).f3)]] (by rfl) rfl rfl TA ?_
       with_reducible refine (impl_GoodRecord.calls k1 ((rd_TRecord l0 x7_1).f0) ((rd_TRecord l0 x7_1).f1) ((rd_TRecord l0 x7_1).f2) ((rd_TRecord l0 x7_1).f3) true _ ?side1 A5.out).mono ?_
       (case side1 => exact GW HGL)
       rintro e w17 ⟨rfl, hb⟩
       refine ⟨_, rfl, ?_⟩
       replace BK387 := KB BK387 hb
       replace HB := BS hb
       (try clear hb)
       (try clear hb2)
       (try clear hk)
       (try clear hi)
       refine hK.out _ _ ⟨bc 0 BK387, bc 1 BK387, bc 2 BK387, bc 3 BK387, ((HB.out.cell (World.block_lt_of_cell? w _ hw389_0)).trans hw389_0), ((HB.out.cell (World.block_lt_of_cell? w _ hw389_1)).trans hw389_1), ((HB.out.cell (World.block_lt_of_cell? w _ hw389_2)).trans hw389_2), ((HB.out.cell (World.block_lt_of_cell? w _ hw389_3)).trans hw389_3)⟩ (fun hHeld => ?_)
       clear hK K
       refine nA ?_
       refine pA 2 14 (mL 17 7) HT_ rfl rfl ?_
       refine pA 3 15 (mL 17 15) HT_ rfl rfl ?_
       refine pA 4 16 (mL 17 31) HT_ rfl rfl ?_
       refine pA 5 17 (mL 17 63) HT_ rfl rfl ?_
       refine pA 6 18 (mL 17 127) HT_ rfl rfl ?_
       refine pA 7 19 (mL 17 255) HT_ rfl rfl ?_
       refine pA 8 20 (mL 17 511) HT_ rfl rfl ?_
       refine pA 9 21 (mL 17 1023) HT_ rfl rfl ?_
       refine pA 10 22 (mL 17 2047) HT_ rfl rfl ?_
       refine tA 11 23 (mL 17 4095) HT_ HW_ hHeld rfl rfl (by rintro w' ⟨s0, s1, s2, s3, s4, s5, s6, s7⟩; go_simp; with_reducible rfl) ?_
       refine tA 12 24 (mL 17 8191) HT_ HW_ hHeld rfl rfl (by rintro w' ⟨s0, s1, s2, s3, s4, s5, s6, s7⟩; go_simp; with_reducible rfl) ?_
       refine one_ (i := 13) (N := some 25) (mL 17 16383) rfl rfl (one_of HT_.out KR) (by decide) (fun K hK => ?_)
       refine goes_ Tryz.func163 KR rfl #[.agg #[.string ((rd_TRecord l0 (ji8)).f0), .int .i64 ((rd_TRecord l0 (ji8)).f1), .int .i64 ((rd_TRecord l0 (ji8)).f2), .string ((rd_TRecord l0 (ji8)).f3)], .agg #[.string ((rd_TRecord l0 x7_1).f0), .int .i64 ((rd_TRecord l0 x7_1).f1), .int .i64 ((rd_TRecord l0 x7_1).f2), .string ((rd_TRecord l0 x7_1).f3)]] (by rfl) rfl rfl (by (try simp only [List.map_toArray, List.map_cons, List.map_nil]); first | done | (simp only [hji8]; rfl) | rfl | (simp only [List.length_drop, List.length_take]; rfl)) ?_
       with_reducible refine (impl_compareRecords.calls k1 ((rd_TRecord l0 (ji8)).f0) ((rd_TRecord l0 (ji8)).f1) ((rd_TRecord l0 (ji8)).f2) ((rd_TRecord l0 (ji8)).f3) ((rd_TRecord l0 x7_1).f0) ((rd_TRecord l0 x7_1).f1) ((rd_TRecord l0 x7_1).f2) ((rd_TRecord l0 x7_1).f3) t390 _ ?side1 A11.out).mono ?_
       (case side1 => exact GW HGL)
       rintro e w18 ⟨rfl, hb⟩
       refine ⟨_, rfl, ?_⟩
       replace BK387 := KB BK387 hb
       replace HB := BS hb
       (try clear hb)
       (try clear hb2)
       (try clear hk)
       (try clear hi)
       refine hK.out _ _ ⟨bc 0 BK387, bc 1 BK387, bc 2 BK387, bc 3 BK387, ((HB.out.cell (World.block_lt_of_cell? w _ hw389_0)).trans hw389_0), ((HB.out.cell (World.block_lt_of_cell? w _ hw389_1)).trans hw389_1), ((HB.out.cell (World.block_lt_of_cell? w _ hw389_2)).trans hw389_2), ((HB.out.cell (World.block_lt_of_cell? w _ hw389_3)).trans hw389_3)⟩ (fun hHeld => ?_)
       clear hK K
       refine nA ?_
       refine pA 14 26 (mL 17 32767) HT_ rfl rfl ?_
       refine pA 15 27 (mL 17 65535) HT_ rfl rfl ?_
       refine pA 16 28 (mL 17 131071) HT_ rfl rfl ?_
       refine done_ (done_of HT_.out KR) ?_
       try go_wp2
       go_ret
       exact ⟨by first | rfl | (simp [errW_none, errW_some] <;> rfl) | (simp only [← hji8]; first | rfl | (simp [errW_none, errW_some] <;> rfl)) | (simp [*, errW_none, errW_some] <;> rfl), TB⟩
      ·rw [if_neg c12] at H
       have c12b0 : decide (0 ≤ t390) = false := decide_eq_false c12
       clear c12
       have H' := Aside0.mk H
       clear H
       have p386 : 0 ≤ (x7_1 : Int) := TD
       have q386 : x7_1 < (l0.length : Int) := TD
       obtain ⟨ad386, e386, hx386_0, hx386_1, hx386_2, hx386_3⟩ := at_TRecord (Kd.C_below HR0.out HB.out) x7_1 p386 q386
       cases e386
       replace p386 := eq_true p386
       replace q386 := eq_true q386
       try go_wp2_with (first | ((with_reducible refine gate_dst (N := 4) rfl ?_); refine bE 4 #[.string (⟨#[]⟩ : ByteArray), .int .i64 0, .int .i64 0, .string (⟨#[]⟩ : ByteArray)] 93 ?_; intro gb387 hg w19 hbox hb; have BK387 := Aside0.mk (hbox); have GE387 := bG hg; replace HB := BS hb; clear hb hbox hg; have hcz20 := cz4 BK387))
       have n0_ : Aside0 (((((w19.setCell ⟨gb387, 0, none⟩ (.string ((rd_TRecord l0 x7_1).f0))).setCell ⟨gb387, 1, none⟩ (.int .i64 ((rd_TRecord l0 x7_1).f1))).setCell ⟨gb387, 2, none⟩ (.int .i64 ((rd_TRecord l0 x7_1).f2))).setCell ⟨gb387, 3, none⟩ (.string ((rd_TRecord l0 x7_1).f3))).heap[gb387]? = some (.cells #[.string ((rd_TRecord l0 x7_1).f0), .int .i64 ((rd_TRecord l0 x7_1).f1), .int .i64 ((rd_TRecord l0 x7_1).f2), .string ((rd_TRecord l0 x7_1).f3)] 93 (0, 0))) := ⟨TS⟩
       have n1_ : Aside0 (Below w.heap.size w ((((w19.setCell ⟨gb387, 0, none⟩ (.string ((rd_TRecord l0 x7_1).f0))).setCell ⟨gb387, 1, none⟩ (.int .i64 ((rd_TRecord l0 x7_1).f1))).setCell ⟨gb387, 2, none⟩ (.int .i64 ((rd_TRecord l0 x7_1).f2))).setCell ⟨gb387, 3, none⟩ (.string ((rd_TRecord l0 x7_1).f3)))) := ⟨TB⟩
       (try clear BK387)
       (try clear HB)
       generalize ((((w19.setCell ⟨gb387, 0, none⟩ (.string ((rd_TRecord l0 x7_1).f0))).setCell ⟨gb387, 1, none⟩ (.int .i64 ((rd_TRecord l0 x7_1).f1))).setCell ⟨gb387, 2, none⟩ (.int .i64 ((rd_TRecord l0 x7_1).f2))).setCell ⟨gb387, 3, none⟩ (.string ((rd_TRecord l0 x7_1).f3))) = w21 at n0_ n1_ ⊢
       have BK387 := n0_
       have HB := n1_
       clear n0_ n1_
       replace BK387 := Aside0.mk (blk_drew BK387.out)
       replace HB := Aside0.mk (below_drew1 HB.out)
       have p389 : 0 ≤ ((ji8) : Int) := TD
       have q389 : (ji8) < (l0.length : Int) := TD
       obtain ⟨ad389, e389, hx389_0, hx389_1, hx389_2, hx389_3⟩ := at_TRecord HR0.out (ji8) p389 q389
       have hw389_3 := hx389_3
       have hw389_2 := hx389_2
       have hw389_1 := hx389_1
       have hw389_0 := hx389_0
       obtain rfl : ad386 = ad389 := (by injection e389)
       replace hx389_0 := hBc HB hx389_0
       replace hx389_1 := hBc HB hx389_1
       replace hx389_2 := hBc HB hx389_2
       replace hx389_3 := hBc HB hx389_3
       replace p389 := eq_true p389
       replace q389 := eq_true q389
       refine start_ (n := 17) (S := fun w' => w'.cell? ⟨gb387, 0, none⟩ = some (.string ((rd_TRecord l0 x7_1).f0)) ∧ w'.cell? ⟨gb387, 1, none⟩ = some (.int .i64 ((rd_TRecord l0 x7_1).f1)) ∧ w'.cell? ⟨gb387, 2, none⟩ = some (.int .i64 ((rd_TRecord l0 x7_1).f2)) ∧ w'.cell? ⟨gb387, 3, none⟩ = some (.string ((rd_TRecord l0 x7_1).f3)) ∧ w'.cell? (ad386.add (((ji8)).toNat * 4)) = some (.string ((rd_TRecord l0 (ji8)).f0)) ∧ w'.cell? ⟨(ad386.add (((ji8)).toNat * 4)).block, (ad386.add (((ji8)).toNat * 4)).off + 1, none⟩ = some (.int .i64 ((rd_TRecord l0 (ji8)).f1)) ∧ w'.cell? ⟨(ad386.add (((ji8)).toNat * 4)).block, (ad386.add (((ji8)).toNat * 4)).off + 2, none⟩ = some (.int .i64 ((rd_TRecord l0 (ji8)).f2)) ∧ w'.cell? ⟨(ad386.add (((ji8)).toNat * 4)).block, (ad386.add (((ji8)).toNat * 4)).off + 3, none⟩ = some (.string ((rd_TRecord l0 (ji8)).f3))) (ds := []) #[false, false, false, false, false, false, false, false, false, false, false, false, false, false, false, false, false] KR rfl rfl ⟨bc 0 BK387, bc 1 BK387, bc 2 BK387, bc 3 BK387, ((HB.out.cell (World.block_lt_of_cell? w _ hw389_0)).trans hw389_0), ((HB.out.cell (World.block_lt_of_cell? w _ hw389_1)).trans hw389_1), ((HB.out.cell (World.block_lt_of_cell? w _ hw389_2)).trans hw389_2), ((HB.out.cell (World.block_lt_of_cell? w _ hw389_3)).trans hw389_3)⟩ (fun hHeld => ?_); refine with_tabW impl_areRising.tab4 impl_areRising.bits4 (fun HT_ HW_ => ?_)
       generalize w21.drew = w22 at BK387 HB hx389_0 hx389_1 hx389_2 hx389_3 hHeld ⊢
       refine tA 0 12 (mL 17 1) HT_ HW_ hHeld rfl rfl (by rintro w' ⟨s0, s1, s2, s3, s4, s5, s6, s7⟩; go_simp; with_reducible rfl) ?_
       refine one_ (i := 1) (N := some 13) (mL 17 3) rfl rfl (one_of HT_.out KR) (by decide) (fun K hK => ?_)
       refine goes_ Tryz.func162 KR rfl #[.agg #[.string ((rd_TRecord l0 x7_1).f0), .int .i64 ((rd_TRecord l0 x7_1).f1), .int .i64 ((rd_TRecord l0 x7_1).f2), .string ((rd_TRecord l0 x7_1).f3)]] (by rfl) rfl rfl TA ?_
       with_reducible refine (impl_GoodRecord.calls k1 ((rd_TRecord l0 x7_1).f0) ((rd_TRecord l0 x7_1).f1) ((rd_TRecord l0 x7_1).f2) ((rd_TRecord l0 x7_1).f3) true _ ?side1 A5.out).mono ?_
       (case side1 => exact GW HGL)
       rintro e w23 ⟨rfl, hb⟩
       refine ⟨_, rfl, ?_⟩
       replace BK387 := KB BK387 hb
       replace HB := BS hb
       (try clear hb)
       (try clear hb2)
       (try clear hk)
       (try clear hi)
       refine hK.out _ _ ⟨bc 0 BK387, bc 1 BK387, bc 2 BK387, bc 3 BK387, ((HB.out.cell (World.block_lt_of_cell? w _ hw389_0)).trans hw389_0), ((HB.out.cell (World.block_lt_of_cell? w _ hw389_1)).trans hw389_1), ((HB.out.cell (World.block_lt_of_cell? w _ hw389_2)).trans hw389_2), ((HB.out.cell (World.block_lt_of_cell? w _ hw389_3)).trans hw389_3)⟩ (fun hHeld => ?_)
       clear hK K
       refine nA ?_
       refine pA 2 14 (mL 17 7) HT_ rfl rfl ?_
       refine pA 3 15 (mL 17 15) HT_ rfl rfl ?_
       refine pA 4 16 (mL 17 31) HT_ rfl rfl ?_
       refine pA 5 17 (mL 17 63) HT_ rfl rfl ?_
       refine pA 6 18 (mL 17 127) HT_ rfl rfl ?_
       refine pA 7 19 (mL 17 255) HT_ rfl rfl ?_
       refine pA 8 20 (mL 17 511) HT_ rfl rfl ?_
       refine pA 9 21 (mL 17 1023) HT_ rfl rfl ?_
       refine pA 10 22 (mL 17 2047) HT_ rfl rfl ?_
       refine tA 11 23 (mL 17 4095) HT_ HW_ hHeld rfl rfl (by rintro w' ⟨s0, s1, s2, s3, s4, s5, s6, s7⟩; go_simp; with_reducible rfl) ?_
       refine tA 12 24 (mL 17 8191) HT_ HW_ hHeld rfl rfl (by rintro w' ⟨s0, s1, s2, s3, s4, s5, s6, s7⟩; go_simp; with_reducible rfl) ?_
       refine one_ (i := 13) (N := some 25) (mL 17 16383) rfl rfl (one_of HT_.out KR) (by decide) (fun K hK => ?_)
       refine goes_ Tryz.func163 KR rfl #[.agg #[.string ((rd_TRecord l0 (ji8)).f0), .int .i64 ((rd_TRecord l0 (ji8)).f1), .int .i64 ((rd_TRecord l0 (ji8)).f2), .string ((rd_TRecord l0 (ji8)).f3)], .agg #[.string ((rd_TRecord l0 x7_1).f0), .int .i64 ((rd_TRecord l0 x7_1).f1), .int .i64 ((rd_TRecord l0 x7_1).f2), .string ((rd_TRecord l0 x7_1).f3)]] (by rfl) rfl rfl (by (try simp only [List.map_toArray, List.map_cons, List.map_nil]); first | done | (simp only [hji8]; rfl) | rfl | (simp only [List.length_drop, List.length_take]; rfl)) ?_
       with_reducible refine (impl_compareRecords.calls k1 ((rd_TRecord l0 (ji8)).f0) ((rd_TRecord l0 (ji8)).f1) ((rd_TRecord l0 (ji8)).f2) ((rd_TRecord l0 (ji8)).f3) ((rd_TRecord l0 x7_1).f0) ((rd_TRecord l0 x7_1).f1) ((rd_TRecord l0 x7_1).f2) ((rd_TRecord l0 x7_1).f3) t390 _ ?side1 A11.out).mono ?_
       (case side1 => exact GW HGL)
       rintro e w24 ⟨rfl, hb⟩
       refine ⟨_, rfl, ?_⟩
       replace BK387 := KB BK387 hb
       replace HB := BS hb
       (try clear hb)
       (try clear hb2)
       (try clear hk)
       (try clear hi)
       refine hK.out _ _ ⟨bc 0 BK387, bc 1 BK387, bc 2 BK387, bc 3 BK387, ((HB.out.cell (World.block_lt_of_cell? w _ hw389_0)).trans hw389_0), ((HB.out.cell (World.block_lt_of_cell? w _ hw389_1)).trans hw389_1), ((HB.out.cell (World.block_lt_of_cell? w _ hw389_2)).trans hw389_2), ((HB.out.cell (World.block_lt_of_cell? w _ hw389_3)).trans hw389_3)⟩ (fun hHeld => ?_)
       clear hK K
       refine nA ?_
       refine pA 14 26 (mL 17 32767) HT_ rfl rfl ?_
       refine pA 15 27 (mL 17 65535) HT_ rfl rfl ?_
       refine pA 16 28 (mL 17 131071) HT_ rfl rfl ?_
       refine done_ (done_of HT_.out KR) ?_
       try go_wp2
       go_roundg k1
       case measure => have := HK1.out; omega
       case rel => exact ⟨(wrap64 (x7_1 + 1)), TF, H', ⟨TM⟩, ⟨TB⟩⟩
     ·rw [if_neg c7] at H
      have c7b0 : decide (0 < x7_1) = false := decide_eq_false c7
      clear c7
      have H' := Aside0.mk H
      clear H
      have p386 : 0 ≤ (x7_1 : Int) := TD
      have q386 : x7_1 < (l0.length : Int) := TD
      obtain ⟨ad386, e386, hx386_0, hx386_1, hx386_2, hx386_3⟩ := at_TRecord (Kd.C_below HR0.out HB.out) x7_1 p386 q386
      cases e386
      replace p386 := eq_true p386
      replace q386 := eq_true q386
      try go_wp2_with (first | ((with_reducible refine gate_dst (N := 4) rfl ?_); refine bE 4 #[.string (⟨#[]⟩ : ByteArray), .int .i64 0, .int .i64 0, .string (⟨#[]⟩ : ByteArray)] 93 ?_; intro gb387 hg w25 hbox hb; have BK387 := Aside0.mk (hbox); have GE387 := bG hg; replace HB := BS hb; clear hb hbox hg; have hcz26 := cz4 BK387))
      have n0_ : Aside0 (((((w25.setCell ⟨gb387, 0, none⟩ (.string ((rd_TRecord l0 x7_1).f0))).setCell ⟨gb387, 1, none⟩ (.int .i64 ((rd_TRecord l0 x7_1).f1))).setCell ⟨gb387, 2, none⟩ (.int .i64 ((rd_TRecord l0 x7_1).f2))).setCell ⟨gb387, 3, none⟩ (.string ((rd_TRecord l0 x7_1).f3))).heap[gb387]? = some (.cells #[.string ((rd_TRecord l0 x7_1).f0), .int .i64 ((rd_TRecord l0 x7_1).f1), .int .i64 ((rd_TRecord l0 x7_1).f2), .string ((rd_TRecord l0 x7_1).f3)] 93 (0, 0))) := ⟨TS⟩
      have n1_ : Aside0 (Below w.heap.size w ((((w25.setCell ⟨gb387, 0, none⟩ (.string ((rd_TRecord l0 x7_1).f0))).setCell ⟨gb387, 1, none⟩ (.int .i64 ((rd_TRecord l0 x7_1).f1))).setCell ⟨gb387, 2, none⟩ (.int .i64 ((rd_TRecord l0 x7_1).f2))).setCell ⟨gb387, 3, none⟩ (.string ((rd_TRecord l0 x7_1).f3)))) := ⟨TB⟩
      (try clear BK387)
      (try clear HB)
      generalize ((((w25.setCell ⟨gb387, 0, none⟩ (.string ((rd_TRecord l0 x7_1).f0))).setCell ⟨gb387, 1, none⟩ (.int .i64 ((rd_TRecord l0 x7_1).f1))).setCell ⟨gb387, 2, none⟩ (.int .i64 ((rd_TRecord l0 x7_1).f2))).setCell ⟨gb387, 3, none⟩ (.string ((rd_TRecord l0 x7_1).f3))) = w27 at n0_ n1_ ⊢
      have BK387 := n0_
      have HB := n1_
      clear n0_ n1_
      replace BK387 := Aside0.mk (blk_drew BK387.out)
      replace HB := Aside0.mk (below_drew1 HB.out)
      refine start_ (n := 17) (S := fun w' => w'.cell? ⟨gb387, 0, none⟩ = some (.string ((rd_TRecord l0 x7_1).f0)) ∧ w'.cell? ⟨gb387, 1, none⟩ = some (.int .i64 ((rd_TRecord l0 x7_1).f1)) ∧ w'.cell? ⟨gb387, 2, none⟩ = some (.int .i64 ((rd_TRecord l0 x7_1).f2)) ∧ w'.cell? ⟨gb387, 3, none⟩ = some (.string ((rd_TRecord l0 x7_1).f3))) (ds := []) #[false, false, false, false, false, false, false, false, false, false, false, false, false, false, false, false, false] KR rfl rfl ⟨bc 0 BK387, bc 1 BK387, bc 2 BK387, bc 3 BK387⟩ (fun hHeld => ?_); refine with_tabW impl_areRising.tab4 impl_areRising.bits4 (fun HT_ HW_ => ?_)
      generalize w27.drew = w28 at BK387 HB hHeld ⊢
      refine tA 0 12 (mL 17 1) HT_ HW_ hHeld rfl rfl (by rintro w' ⟨s0, s1, s2, s3⟩; go_simp; with_reducible rfl) ?_
      refine one_ (i := 1) (N := some 13) (mL 17 3) rfl rfl (one_of HT_.out KR) (by decide) (fun K hK => ?_)
      refine goes_ Tryz.func162 KR rfl #[.agg #[.string ((rd_TRecord l0 x7_1).f0), .int .i64 ((rd_TRecord l0 x7_1).f1), .int .i64 ((rd_TRecord l0 x7_1).f2), .string ((rd_TRecord l0 x7_1).f3)]] (by rfl) rfl rfl TA ?_
      with_reducible refine (impl_GoodRecord.calls k1 ((rd_TRecord l0 x7_1).f0) ((rd_TRecord l0 x7_1).f1) ((rd_TRecord l0 x7_1).f2) ((rd_TRecord l0 x7_1).f3) true _ ?side1 A5.out).mono ?_
      (case side1 => exact GW HGL)
      rintro e w29 ⟨rfl, hb⟩
      refine ⟨_, rfl, ?_⟩
      replace BK387 := KB BK387 hb
      replace HB := BS hb
      (try clear hb)
      (try clear hb2)
      (try clear hk)
      (try clear hi)
      refine hK.out _ _ ⟨bc 0 BK387, bc 1 BK387, bc 2 BK387, bc 3 BK387⟩ (fun hHeld => ?_)
      clear hK K
      refine nA ?_
      refine pA 2 14 (mL 17 7) HT_ rfl rfl ?_
      refine pA 3 15 (mL 17 15) HT_ rfl rfl ?_
      refine pA 4 16 (mL 17 31) HT_ rfl rfl ?_
      refine pA 5 17 (mL 17 63) HT_ rfl rfl ?_
      refine pA 6 18 (mL 17 127) HT_ rfl rfl ?_
      refine pU 7 19 (mL 17 255) HT_ rfl rfl ?_
      refine pU 8 20 (mL 17 511) HT_ rfl rfl ?_
      refine pU 9 21 (mL 17 1023) HT_ rfl rfl ?_
      refine pU 10 22 (mL 17 2047) HT_ rfl rfl ?_
      refine pU 11 23 (mL 17 4095) HT_ rfl rfl ?_
      refine pU 12 24 (mL 17 8191) HT_ rfl rfl ?_
      refine pU 13 25 (mL 17 16383) HT_ rfl rfl ?_
      refine pU 14 26 (mL 17 32767) HT_ rfl rfl ?_
      refine pA 15 27 (mL 17 65535) HT_ rfl rfl ?_
      refine pA 16 28 (mL 17 131071) HT_ rfl rfl ?_
      refine done_ (done_of HT_.out KR) ?_
      try go_wp2
      go_roundg k1
      case measure => have := HK1.out; omega
      case rel => exact ⟨(wrap64 (x7_1 + 1)), TF, H', ⟨TM⟩, ⟨TB⟩⟩
    ·replace c6 := Bool.eq_false_iff.mpr c6
     subst c6
     replace H := iff' H
     obtain rfl := Option.some.inj H
     have p386 : 0 ≤ (x7_1 : Int) := TD
     have q386 : x7_1 < (l0.length : Int) := TD
     obtain ⟨ad386, e386, hx386_0, hx386_1, hx386_2, hx386_3⟩ := at_TRecord (Kd.C_below HR0.out HB.out) x7_1 p386 q386
     cases e386
     replace p386 := eq_true p386
     replace q386 := eq_true q386
     try go_wp2_with (first | ((with_reducible refine gate_dst (N := 4) rfl ?_); refine bE 4 #[.string (⟨#[]⟩ : ByteArray), .int .i64 0, .int .i64 0, .string (⟨#[]⟩ : ByteArray)] 93 ?_; intro gb387 hg w30 hbox hb; have BK387 := Aside0.mk (hbox); have GE387 := bG hg; replace HB := BS hb; clear hb hbox hg; have hcz31 := cz4 BK387))
     have n0_ : Aside0 (((((w30.setCell ⟨gb387, 0, none⟩ (.string ((rd_TRecord l0 x7_1).f0))).setCell ⟨gb387, 1, none⟩ (.int .i64 ((rd_TRecord l0 x7_1).f1))).setCell ⟨gb387, 2, none⟩ (.int .i64 ((rd_TRecord l0 x7_1).f2))).setCell ⟨gb387, 3, none⟩ (.string ((rd_TRecord l0 x7_1).f3))).heap[gb387]? = some (.cells #[.string ((rd_TRecord l0 x7_1).f0), .int .i64 ((rd_TRecord l0 x7_1).f1), .int .i64 ((rd_TRecord l0 x7_1).f2), .string ((rd_TRecord l0 x7_1).f3)] 93 (0, 0))) := ⟨TS⟩
     have n1_ : Aside0 (Below w.heap.size w ((((w30.setCell ⟨gb387, 0, none⟩ (.string ((rd_TRecord l0 x7_1).f0))).setCell ⟨gb387, 1, none⟩ (.int .i64 ((rd_TRecord l0 x7_1).f1))).setCell ⟨gb387, 2, none⟩ (.int .i64 ((rd_TRecord l0 x7_1).f2))).setCell ⟨gb387, 3, none⟩ (.string ((rd_TRecord l0 x7_1).f3)))) := ⟨TB⟩
     (try clear BK387)
     (try clear HB)
     generalize ((((w30.setCell ⟨gb387, 0, none⟩ (.string ((rd_TRecord l0 x7_1).f0))).setCell ⟨gb387, 1, none⟩ (.int .i64 ((rd_TRecord l0 x7_1).f1))).setCell ⟨gb387, 2, none⟩ (.int .i64 ((rd_TRecord l0 x7_1).f2))).setCell ⟨gb387, 3, none⟩ (.string ((rd_TRecord l0 x7_1).f3))) = w32 at n0_ n1_ ⊢
     have BK387 := n0_
     have HB := n1_
     clear n0_ n1_
     replace BK387 := Aside0.mk (blk_drew BK387.out)
     replace HB := Aside0.mk (below_drew1 HB.out)
     refine start_ (n := 17) (S := fun w' => w'.cell? ⟨gb387, 0, none⟩ = some (.string ((rd_TRecord l0 x7_1).f0)) ∧ w'.cell? ⟨gb387, 1, none⟩ = some (.int .i64 ((rd_TRecord l0 x7_1).f1)) ∧ w'.cell? ⟨gb387, 2, none⟩ = some (.int .i64 ((rd_TRecord l0 x7_1).f2)) ∧ w'.cell? ⟨gb387, 3, none⟩ = some (.string ((rd_TRecord l0 x7_1).f3))) (ds := []) #[false, false, false, false, false, false, false, false, false, false, false, false, false, false, false, false, false] KR rfl rfl ⟨bc 0 BK387, bc 1 BK387, bc 2 BK387, bc 3 BK387⟩ (fun hHeld => ?_); refine with_tabW impl_areRising.tab4 impl_areRising.bits4 (fun HT_ HW_ => ?_)
     generalize w32.drew = w33 at BK387 HB hHeld ⊢
     refine tA 0 12 (mL 17 1) HT_ HW_ hHeld rfl rfl (by rintro w' ⟨s0, s1, s2, s3⟩; go_simp; with_reducible rfl) ?_
     refine one_ (i := 1) (N := some 13) (mL 17 3) rfl rfl (one_of HT_.out KR) (by decide) (fun K hK => ?_)
     refine goes_ Tryz.func162 KR rfl #[.agg #[.string ((rd_TRecord l0 x7_1).f0), .int .i64 ((rd_TRecord l0 x7_1).f1), .int .i64 ((rd_TRecord l0 x7_1).f2), .string ((rd_TRecord l0 x7_1).f3)]] (by rfl) rfl rfl TA ?_
     with_reducible refine (impl_GoodRecord.calls k1 ((rd_TRecord l0 x7_1).f0) ((rd_TRecord l0 x7_1).f1) ((rd_TRecord l0 x7_1).f2) ((rd_TRecord l0 x7_1).f3) false _ ?side1 A5.out).mono ?_
     (case side1 => exact GW HGL)
     rintro e w34 ⟨rfl, hb⟩
     refine ⟨_, rfl, ?_⟩
     replace BK387 := KB BK387 hb
     replace HB := BS hb
     (try clear hb)
     (try clear hb2)
     (try clear hk)
     (try clear hi)
     refine hK.out _ _ ⟨bc 0 BK387, bc 1 BK387, bc 2 BK387, bc 3 BK387⟩ (fun hHeld => ?_)
     clear hK K
     refine nA ?_
     refine pA 2 14 (mL 17 7) HT_ rfl rfl ?_
     refine pA 3 15 (mL 17 15) HT_ rfl rfl ?_
     refine pU 4 16 (mL 17 31) HT_ rfl rfl ?_
     refine pU 5 17 (mL 17 63) HT_ rfl rfl ?_
     refine pU 6 18 (mL 17 127) HT_ rfl rfl ?_
     refine pU 7 19 (mL 17 255) HT_ rfl rfl ?_
     refine pU 8 20 (mL 17 511) HT_ rfl rfl ?_
     refine pU 9 21 (mL 17 1023) HT_ rfl rfl ?_
     refine pU 10 22 (mL 17 2047) HT_ rfl rfl ?_
     refine pU 11 23 (mL 17 4095) HT_ rfl rfl ?_
     refine pU 12 24 (mL 17 8191) HT_ rfl rfl ?_
     refine pU 13 25 (mL 17 16383) HT_ rfl rfl ?_
     refine pU 14 26 (mL 17 32767) HT_ rfl rfl ?_
     refine pU 15 27 (mL 17 65535) HT_ rfl rfl ?_
     refine pA 16 28 (mL 17 131071) HT_ rfl rfl ?_
     refine done_ (done_of HT_.out KR) ?_
     try go_wp2
     go_ret
     exact ⟨TE, TB⟩
   ·rw [if_neg c2] at H
    have c2b0 : decide (x7_1 < (l0.length : Int)) = false := decide_eq_false c2
    clear c2
    obtain rfl := Option.some.inj H
    go_wp2
    go_ret
    exact ⟨TE, TB⟩
end
section
/-! ### impl_areOne_1: function 170 -/
def impl_areOne_1.f (a0_0 : ByteArray) (a0_1 : Int) (a0_2 : Int) (a0_3 : ByteArray) (a1_0 : ByteArray) (a2_0 : Int) (l3_0 : List (S_Record)) : Option (Bool) := if a0_0.toList = a1_0.toList then (if a0_1 = a2_0 then (if 0 < (l3_0.length : Int) then (some (a0_2 != ((rd_TRecord l3_0 0).f2))) else (none)) else (some true)) else (some true)
theorem impl_areOne_1.calls (a0_0 : ByteArray) (a0_1 : Int) (a0_2 : Int) (a0_3 : ByteArray) (g1_ : Nat) (a1_0 : ByteArray) (g2_ : Nat) (a2_0 : Int) (g3_ : Nat) (A3_0 : Option Addr) (c3_0 : Nat) (l3_0 : List (S_Record)) (r : Bool) (w : World) (hr3_0 : Kd.C k_Record w A3_0 l3_0.length l3_0) (hc3_0 : l3_0.length ≤ c3_0) (hkg1_ : w.heap[g1_]? = some (.cells #[.string a1_0] 9 (0, 0))) (hkg2_ : w.heap[g2_]? = some (.cells #[.int .i64 a2_0] 3 (0, 0))) (hkg3_ : w.heap[g3_]? = some (.cells #[.slice A3_0 l3_0.length c3_0] 27 (0, 0))) (h : impl_areOne_1.f a0_0 a0_1 a0_2 a0_3 a1_0 a2_0 l3_0 = some r) :
  Calls Tryz.prog 170 #[.agg #[.string a0_0, .int .i64 a0_1, .int .i64 a0_2, .string a0_3], .pointer (some ⟨g1_, 0, none⟩), .pointer (some ⟨g2_, 0, none⟩), .pointer (some ⟨g3_, 0, none⟩)] w fun e w' => e = .returned (.bool r) ∧ Below w.heap.size w w' := by
 have hu93 := Tryz.underlying93
 have HR3_0 := Aside0.mk hr3_0
 have HC3_0 := Aside0.mk hc3_0
 clear hr3_0 hc3_0
 have BKrg1_ := Aside0.mk hkg1_
 clear hkg1_
 have BKrg2_ := Aside0.mk hkg2_
 clear hkg2_
 have BKrg3_ := Aside0.mk hkg3_
 clear hkg3_
 have HB := Aside0.mk (Below.refl w.heap.size w)
 have H : (if a0_0.toList = a1_0.toList then (if a0_1 = a2_0 then (if 0 < (l3_0.length : Int) then (some (a0_2 != ((rd_TRecord l3_0 0).f2))) else (none)) else (some true)) else (some true)) = some r := h
 clear h
 by_cases c5 : a0_0.toList = a1_0.toList
 ·rw [if_pos c5] at H
  have c5b0 : (a0_0.toList == a1_0.toList) = true := beq_iff_eq.mpr c5
  have c5b1 : (a0_0.toList != a1_0.toList) = false := bne_eq_false_iff_eq.mpr c5
  clear c5
  by_cases c6 : a0_1 = a2_0
  ·rw [if_pos c6] at H
   have c6b0 : (a0_1 == a2_0) = true := beq_iff_eq.mpr c6
   have c6b1 : (a0_1 != a2_0) = false := bne_eq_false_iff_eq.mpr c6
   clear c6
   obtain ⟨c7, H⟩ := ifn H
   have c7b0 : decide (0 < (l3_0.length : Int)) = true := decide_eq_true c7
   have c7b1 : decide (0 < l3_0.length) = true := decide_eq_true (by omega)
   clear c7
   obtain rfl := Option.some.inj H
   go_enter Tryz.func170, Tryz.ntmps170
   go_wp2_with (first | ((with_reducible refine gate_dst (N := 4) rfl ?_); refine bE 4 #[.string a0_0, .int .i64 a0_1, .int .i64 a0_2, .string a0_3] 93 ?_; intro gb970 hg w8 hbox hb; have BK970 := Aside0.mk (hbox); have GE970 := bG hg; replace HB := BS hb; have NB1_970 := bN BKrg1_ hg; have NB970_1 := bM BKrg1_ hg; replace BKrg1_ := KB BKrg1_ hb; have NB2_970 := bN BKrg2_ hg; have NB970_2 := bM BKrg2_ hg; replace BKrg2_ := KB BKrg2_ hb; have NB3_970 := bN BKrg3_ hg; have NB970_3 := bM BKrg3_ hg; replace BKrg3_ := KB BKrg3_ hb; clear hb hbox hg; obtain ⟨hnb9, hnc9⟩ := nn NB970_1; obtain ⟨hnb10, hnc10⟩ := nn NB970_2; obtain ⟨hnb11, hnc11⟩ := nn NB970_3; have hcz12 := cz4 BK970; have hcz13 := cz1 BKrg1_; have hcz14 := cz1 BKrg2_; have hcz15 := cz1 BKrg3_; have p971 : 0 ≤ (0 : Int) := (by omega); have q971 : 0 < (l3_0.length : Int) := TD; obtain ⟨ad971, e971, hx971_0, hx971_1, hx971_2, hx971_3⟩ := at_TRecord HR3_0.out 0 p971 q971; cases e971; have qi971 : (0 < l3_0.length) = True := eq_true (by omega); (try rw [show ((0 : Int)).toNat = 0 from rfl] at hx971_0); (try rw [show 0 * 4 = 0 from rfl] at hx971_0); (try rw [Addr.add_zero'] at hx971_0); (try rw [show ((0 : Int)).toNat = 0 from rfl] at hx971_1); (try rw [show 0 * 4 = 0 from rfl] at hx971_1); (try rw [Addr.add_zero'] at hx971_1); (try rw [show ((0 : Int)).toNat = 0 from rfl] at hx971_2); (try rw [show 0 * 4 = 0 from rfl] at hx971_2); (try rw [Addr.add_zero'] at hx971_2); (try rw [show ((0 : Int)).toNat = 0 from rfl] at hx971_3); (try rw [show 0 * 4 = 0 from rfl] at hx971_3); (try rw [Addr.add_zero'] at hx971_3); replace hx971_0 := hBc HB hx971_0; replace hx971_1 := hBc HB hx971_1; replace hx971_2 := hBc HB hx971_2; replace hx971_3 := hBc HB hx971_3; replace p971 := eq_true p971; replace q971 := eq_true q971))
   repeat (go_quiet (first | ((with_reducible refine gate_dst (N := 4) rfl ?_); refine bE 4 #[.string a0_0, .int .i64 a0_1, .int .i64 a0_2, .string a0_3] 93 ?_; intro gb970 hg w8 hbox hb; have BK970 := Aside0.mk (hbox); have GE970 := bG hg; replace HB := BS hb; have NB1_970 := bN BKrg1_ hg; have NB970_1 := bM BKrg1_ hg; replace BKrg1_ := KB BKrg1_ hb; have NB2_970 := bN BKrg2_ hg; have NB970_2 := bM BKrg2_ hg; replace BKrg2_ := KB BKrg2_ hb; have NB3_970 := bN BKrg3_ hg; have NB970_3 := bM BKrg3_ hg; replace BKrg3_ := KB BKrg3_ hb; clear hb hbox hg; obtain ⟨hnb9, hnc9⟩ := nn NB970_1; obtain ⟨hnb10, hnc10⟩ := nn NB970_2; obtain ⟨hnb11, hnc11⟩ := nn NB970_3; have hcz12 := cz4 BK970; have hcz13 := cz1 BKrg1_; have hcz14 := cz1 BKrg2_; have hcz15 := cz1 BKrg3_; have p971 : 0 ≤ (0 : Int) := (by omega); have q971 : 0 < (l3_0.length : Int) := TD; obtain ⟨ad971, e971, hx971_0, hx971_1, hx971_2, hx971_3⟩ := at_TRecord HR3_0.out 0 p971 q971; cases e971; have qi971 : (0 < l3_0.length) = True := eq_true (by omega); (try rw [show ((0 : Int)).toNat = 0 from rfl] at hx971_0); (try rw [show 0 * 4 = 0 from rfl] at hx971_0); (try rw [Addr.add_zero'] at hx971_0); (try rw [show ((0 : Int)).toNat = 0 from rfl] at hx971_1); (try rw [show 0 * 4 = 0 from rfl] at hx971_1); (try rw [Addr.add_zero'] at hx971_1); (try rw [show ((0 : Int)).toNat = 0 from rfl] at hx971_2); (try rw [show 0 * 4 = 0 from rfl] at hx971_2); (try rw [Addr.add_zero'] at hx971_2); (try rw [show ((0 : Int)).toNat = 0 from rfl] at hx971_3); (try rw [show 0 * 4 = 0 from rfl] at hx971_3); (try rw [Addr.add_zero'] at hx971_3); replace hx971_0 := hBc HB hx971_0; replace hx971_1 := hBc HB hx971_1; replace hx971_2 := hBc HB hx971_2; replace hx971_3 := hBc HB hx971_3; replace p971 := eq_true p971; replace q971 := eq_true q971)); try go_wp2_with (first | ((with_reducible refine gate_dst (N := 4) rfl ?_); refine bE 4 #[.string a0_0, .int .i64 a0_1, .int .i64 a0_2, .string a0_3] 93 ?_; intro gb970 hg w8 hbox hb; have BK970 := Aside0.mk (hbox); have GE970 := bG hg; replace HB := BS hb; have NB1_970 := bN BKrg1_ hg; have NB970_1 := bM BKrg1_ hg; replace BKrg1_ := KB BKrg1_ hb; have NB2_970 := bN BKrg2_ hg; have NB970_2 := bM BKrg2_ hg; replace BKrg2_ := KB BKrg2_ hb; have NB3_970 := bN BKrg3_ hg; have NB970_3 := bM BKrg3_ hg; replace BKrg3_ := KB BKrg3_ hb; clear hb hbox hg; obtain ⟨hnb9, hnc9⟩ := nn NB970_1; obtain ⟨hnb10, hnc10⟩ := nn NB970_2; obtain ⟨hnb11, hnc11⟩ := nn NB970_3; have hcz12 := cz4 BK970; have hcz13 := cz1 BKrg1_; have hcz14 := cz1 BKrg2_; have hcz15 := cz1 BKrg3_; have p971 : 0 ≤ (0 : Int) := (by omega); have q971 : 0 < (l3_0.length : Int) := TD; obtain ⟨ad971, e971, hx971_0, hx971_1, hx971_2, hx971_3⟩ := at_TRecord HR3_0.out 0 p971 q971; cases e971; have qi971 : (0 < l3_0.length) = True := eq_true (by omega); (try rw [show ((0 : Int)).toNat = 0 from rfl] at hx971_0); (try rw [show 0 * 4 = 0 from rfl] at hx971_0); (try rw [Addr.add_zero'] at hx971_0); (try rw [show ((0 : Int)).toNat = 0 from rfl] at hx971_1); (try rw [show 0 * 4 = 0 from rfl] at hx971_1); (try rw [Addr.add_zero'] at hx971_1); (try rw [show ((0 : Int)).toNat = 0 from rfl] at hx971_2); (try rw [show 0 * 4 = 0 from rfl] at hx971_2); (try rw [Addr.add_zero'] at hx971_2); (try rw [show ((0 : Int)).toNat = 0 from rfl] at hx971_3); (try rw [show 0 * 4 = 0 from rfl] at hx971_3); (try rw [Addr.add_zero'] at hx971_3); replace hx971_0 := hBc HB hx971_0; replace hx971_1 := hBc HB hx971_1; replace hx971_2 := hBc HB hx971_2; replace hx971_3 := hBc HB hx971_3; replace p971 := eq_true p971; replace q971 := eq_true q971)))
   go_ret
   exact ⟨TE, TB⟩
  ·rw [if_neg c6] at H
   have c6b0 : (a0_1 == a2_0) = false := beq_eq_false_iff_ne.mpr c6
   have c6b1 : (a0_1 != a2_0) = true := bne_iff_ne.mpr c6
   obtain rfl := Option.some.inj H
   go_enter Tryz.func170, Tryz.ntmps170
   go_wp2_with (first | ((with_reducible refine gate_dst (N := 4) rfl ?_); refine bE 4 #[.string a0_0, .int .i64 a0_1, .int .i64 a0_2, .string a0_3] 93 ?_; intro gb970 hg w16 hbox hb; have BK970 := Aside0.mk (hbox); have GE970 := bG hg; replace HB := BS hb; have NB1_970 := bN BKrg1_ hg; have NB970_1 := bM BKrg1_ hg; replace BKrg1_ := KB BKrg1_ hb; have NB2_970 := bN BKrg2_ hg; have NB970_2 := bM BKrg2_ hg; replace BKrg2_ := KB BKrg2_ hb; have NB3_970 := bN BKrg3_ hg; have NB970_3 := bM BKrg3_ hg; replace BKrg3_ := KB BKrg3_ hb; clear hb hbox hg; obtain ⟨hnb17, hnc17⟩ := nn NB970_1; obtain ⟨hnb18, hnc18⟩ := nn NB970_2; obtain ⟨hnb19, hnc19⟩ := nn NB970_3; have hcz20 := cz4 BK970; have hcz21 := cz1 BKrg1_; have hcz22 := cz1 BKrg2_))
   repeat (go_quiet (first | ((with_reducible refine gate_dst (N := 4) rfl ?_); refine bE 4 #[.string a0_0, .int .i64 a0_1, .int .i64 a0_2, .string a0_3] 93 ?_; intro gb970 hg w16 hbox hb; have BK970 := Aside0.mk (hbox); have GE970 := bG hg; replace HB := BS hb; have NB1_970 := bN BKrg1_ hg; have NB970_1 := bM BKrg1_ hg; replace BKrg1_ := KB BKrg1_ hb; have NB2_970 := bN BKrg2_ hg; have NB970_2 := bM BKrg2_ hg; replace BKrg2_ := KB BKrg2_ hb; have NB3_970 := bN BKrg3_ hg; have NB970_3 := bM BKrg3_ hg; replace BKrg3_ := KB BKrg3_ hb; clear hb hbox hg; obtain ⟨hnb17, hnc17⟩ := nn NB970_1; obtain ⟨hnb18, hnc18⟩ := nn NB970_2; obtain ⟨hnb19, hnc19⟩ := nn NB970_3; have hcz20 := cz4 BK970; have hcz21 := cz1 BKrg1_; have hcz22 := cz1 BKrg2_)); try go_wp2_with (first | ((with_reducible refine gate_dst (N := 4) rfl ?_); refine bE 4 #[.string a0_0, .int .i64 a0_1, .int .i64 a0_2, .string a0_3] 93 ?_; intro gb970 hg w16 hbox hb; have BK970 := Aside0.mk (hbox); have GE970 := bG hg; replace HB := BS hb; have NB1_970 := bN BKrg1_ hg; have NB970_1 := bM BKrg1_ hg; replace BKrg1_ := KB BKrg1_ hb; have NB2_970 := bN BKrg2_ hg; have NB970_2 := bM BKrg2_ hg; replace BKrg2_ := KB BKrg2_ hb; have NB3_970 := bN BKrg3_ hg; have NB970_3 := bM BKrg3_ hg; replace BKrg3_ := KB BKrg3_ hb; clear hb hbox hg; obtain ⟨hnb17, hnc17⟩ := nn NB970_1; obtain ⟨hnb18, hnc18⟩ := nn NB970_2; obtain ⟨hnb19, hnc19⟩ := nn NB970_3; have hcz20 := cz4 BK970; have hcz21 := cz1 BKrg1_; have hcz22 := cz1 BKrg2_)))
   go_ret
   exact ⟨TE, TB⟩
 ·rw [if_neg c5] at H
  have c5b0 : (a0_0.toList == a1_0.toList) = false := beq_eq_false_iff_ne.mpr c5
  have c5b1 : (a0_0.toList != a1_0.toList) = true := bne_iff_ne.mpr c5
  obtain rfl := Option.some.inj H
  go_enter Tryz.func170, Tryz.ntmps170
  go_wp2_with (first | ((with_reducible refine gate_dst (N := 4) rfl ?_); refine bE 4 #[.string a0_0, .int .i64 a0_1, .int .i64 a0_2, .string a0_3] 93 ?_; intro gb970 hg w23 hbox hb; have BK970 := Aside0.mk (hbox); have GE970 := bG hg; replace HB := BS hb; have NB1_970 := bN BKrg1_ hg; have NB970_1 := bM BKrg1_ hg; replace BKrg1_ := KB BKrg1_ hb; have NB2_970 := bN BKrg2_ hg; have NB970_2 := bM BKrg2_ hg; replace BKrg2_ := KB BKrg2_ hb; have NB3_970 := bN BKrg3_ hg; have NB970_3 := bM BKrg3_ hg; replace BKrg3_ := KB BKrg3_ hb; clear hb hbox hg; obtain ⟨hnb24, hnc24⟩ := nn NB970_1; obtain ⟨hnb25, hnc25⟩ := nn NB970_2; obtain ⟨hnb26, hnc26⟩ := nn NB970_3; have hcz27 := cz4 BK970; have hcz28 := cz1 BKrg1_))
  repeat (go_quiet (first | ((with_reducible refine gate_dst (N := 4) rfl ?_); refine bE 4 #[.string a0_0, .int .i64 a0_1, .int .i64 a0_2, .string a0_3] 93 ?_; intro gb970 hg w23 hbox hb; have BK970 := Aside0.mk (hbox); have GE970 := bG hg; replace HB := BS hb; have NB1_970 := bN BKrg1_ hg; have NB970_1 := bM BKrg1_ hg; replace BKrg1_ := KB BKrg1_ hb; have NB2_970 := bN BKrg2_ hg; have NB970_2 := bM BKrg2_ hg; replace BKrg2_ := KB BKrg2_ hb; have NB3_970 := bN BKrg3_ hg; have NB970_3 := bM BKrg3_ hg; replace BKrg3_ := KB BKrg3_ hb; clear hb hbox hg; obtain ⟨hnb24, hnc24⟩ := nn NB970_1; obtain ⟨hnb25, hnc25⟩ := nn NB970_2; obtain ⟨hnb26, hnc26⟩ := nn NB970_3; have hcz27 := cz4 BK970; have hcz28 := cz1 BKrg1_)); try go_wp2_with (first | ((with_reducible refine gate_dst (N := 4) rfl ?_); refine bE 4 #[.string a0_0, .int .i64 a0_1, .int .i64 a0_2, .string a0_3] 93 ?_; intro gb970 hg w23 hbox hb; have BK970 := Aside0.mk (hbox); have GE970 := bG hg; replace HB := BS hb; have NB1_970 := bN BKrg1_ hg; have NB970_1 := bM BKrg1_ hg; replace BKrg1_ := KB BKrg1_ hb; have NB2_970 := bN BKrg2_ hg; have NB970_2 := bM BKrg2_ hg; replace BKrg2_ := KB BKrg2_ hb; have NB3_970 := bN BKrg3_ hg; have NB970_3 := bM BKrg3_ hg; replace BKrg3_ := KB BKrg3_ hb; clear hb hbox hg; obtain ⟨hnb24, hnc24⟩ := nn NB970_1; obtain ⟨hnb25, hnc25⟩ := nn NB970_2; obtain ⟨hnb26, hnc26⟩ := nn NB970_3; have hcz27 := cz4 BK970; have hcz28 := cz1 BKrg1_)))
  go_ret
  exact ⟨TE, TB⟩
end
section
/-! ### slices_IndexFunc_impl_Record_impl_Record_areOne_1: function 122 -/
def slices_IndexFunc_impl_Record_impl_Record_areOne_1.l0 : Nat → List (S_Record) → Int → Int → ByteArray → Int → List (S_Record) → Option (Int)
 | 0, _, _, _, _, _, _ => none
 | k + 1, x0, x7, x8, x59000, x60000, x61000 => if x8 < x7 then (if 0 ≤ x8 then (if x8 < (x0.length : Int) then ((impl_areOne_1.f ((rd_TRecord x0 x8).f0) ((rd_TRecord x0 x8).f1) ((rd_TRecord x0 x8).f2) ((rd_TRecord x0 x8).f3) x59000 x60000 x61000).bind fun t973 => (if t973 = true then (some x8) else (slices_IndexFunc_impl_Record_impl_Record_areOne_1.l0 k x0 x7 (wrap64 (x8 + 1)) x59000 x60000 x61000))) else (none)) else (none)) else (some (-1))
def slices_IndexFunc_impl_Record_impl_Record_areOne_1.f (k : Nat) (l0 : List (S_Record)) (a1_0 : ByteArray) (a1_1 : Int) (l1_2 : List (S_Record)) : Option (Int) := slices_IndexFunc_impl_Record_impl_Record_areOne_1.l0 k l0 (l0.length : Int) 0 a1_0 a1_1 l1_2
theorem slices_IndexFunc_impl_Record_impl_Record_areOne_1.calls (k : Nat) (A0 : Option Addr) (c0 : Nat) (l0 : List (S_Record)) (g1_0_ g1_1_ g1_2_ : Nat) (a1_0 : ByteArray) (a1_1 : Int) (A1_2 : Option Addr) (c1_2 : Nat) (l1_2 : List (S_Record)) (r : Int) (w : World) (hr0 : Kd.C k_Record w A0 l0.length l0) (hc0 : l0.length ≤ c0) (hr1_2 : Kd.C k_Record w A1_2 l1_2.length l1_2) (hc1_2 : l1_2.length ≤ c1_2) (hkg1_0_ : w.heap[g1_0_]? = some (.cells #[.string a1_0] 9 (0, 0))) (hkg1_1_ : w.heap[g1_1_]? = some (.cells #[.int .i64 a1_1] 3 (0, 0))) (hkg1_2_ : w.heap[g1_2_]? = some (.cells #[.slice A1_2 l1_2.length c1_2] 27 (0, 0))) (h : slices_IndexFunc_impl_Record_impl_Record_areOne_1.f k l0 a1_0 a1_1 l1_2 = some r) :
  Calls Tryz.prog 122 #[.slice A0 l0.length c0, .func (.func 170) #[] #[.pointer (some ⟨g1_0_, 0, none⟩), .pointer (some ⟨g1_1_, 0, none⟩), .pointer (some ⟨g1_2_, 0, none⟩)]] w fun e w' => e = .returned (.int .i64 r) ∧ Below w.heap.size w w' := by
 have hu93 := Tryz.underlying93
 have HR0 := Aside0.mk hr0
 have HC0 := Aside0.mk hc0
 clear hr0 hc0
 have HR1_2 := Aside0.mk hr1_2
 have HC1_2 := Aside0.mk hc1_2
 clear hr1_2 hc1_2
 have BKrg1_0_ := Aside0.mk hkg1_0_
 clear hkg1_0_
 have BKrg1_1_ := Aside0.mk hkg1_1_
 clear hkg1_1_
 have BKrg1_2_ := Aside0.mk hkg1_2_
 clear hkg1_2_
 have HB := Aside0.mk (Below.refl w.heap.size w)
 have H : (slices_IndexFunc_impl_Record_impl_Record_areOne_1.l0 k l0 (l0.length : Int) 0 a1_0 a1_1 l1_2) = some r := h
 clear h
 have H' := Aside0.mk H
 clear H
 go_enter Tryz.func122, Tryz.ntmps122
 go_wp2
 go_loopg [8] k (fun kq v8 w' => ∃ (x8_1 : Int), v8 = .int .i64 x8_1 ∧ Aside0 (slices_IndexFunc_impl_Record_impl_Record_areOne_1.l0 kq l0 (l0.length : Int) x8_1 a1_0 a1_1 l1_2 = some r) ∧ Aside0 (kq ≤ k) ∧ Aside0 (w'.heap[g1_0_]? = some (.cells #[.string a1_0] 9 (0, 0))) ∧ Aside0 (w'.heap[g1_1_]? = some (.cells #[.int .i64 a1_1] 3 (0, 0))) ∧ Aside0 (w'.heap[g1_2_]? = some (.cells #[(.slice A1_2 l1_2.length c1_2)] 27 (0, 0))) ∧ Aside0 (Below w.heap.size w w'))
 case atStart => exact ⟨(0), TF, H', ⟨Nat.le_refl _⟩, KW BKrg1_0_, KW BKrg1_1_, KW BKrg1_2_, ⟨TB⟩⟩
 case round =>
  clear H'
  obtain ⟨x8_1, rfl, HA, HK1, BKrg1_0_, BKrg1_1_, BKrg1_2_, HB⟩ := hrel
  cases gk with
  | zero => exact absurd HA.out (by simp [slices_IndexFunc_impl_Record_impl_Record_areOne_1.l0])
  | succ k1 =>
   have H := HA.out
   clear HA
   simp only [slices_IndexFunc_impl_Record_impl_Record_areOne_1.l0] at H
   by_cases c3 : x8_1 < (l0.length : Int)
   ·rw [if_pos c3] at H
    have c3b0 : decide (x8_1 < (l0.length : Int)) = true := decide_eq_true c3
    clear c3
    obtain ⟨c4, H⟩ := ifn H
    have c4b0 : decide (0 ≤ x8_1) = true := decide_eq_true c4
    clear c4
    obtain ⟨c5, H⟩ := ifn H
    have c5b0 : decide (x8_1 < (l0.length : Int)) = true := decide_eq_true c5
    clear c5
    obtain ⟨t973, A6, H⟩ := bnd H
    by_cases c7 : t973 = true
    ·subst c7
     replace H := ift H
     obtain rfl := Option.some.inj H
     have p972 : 0 ≤ (x8_1 : Int) := TD
     have q972 : x8_1 < (l0.length : Int) := TD
     obtain ⟨ad972, e972, hx972_0, hx972_1, hx972_2, hx972_3⟩ := at_TRecord (Kd.C_below HR0.out HB.out) x8_1 p972 q972
     cases e972
     replace p972 := eq_true p972
     replace q972 := eq_true q972
     go_wp2_with (first | (go_at_call 170; (with_reducible refine (impl_areOne_1.calls ((rd_TRecord l0 x8_1).f0) ((rd_TRecord l0 x8_1).f1) ((rd_TRecord l0 x8_1).f2) ((rd_TRecord l0 x8_1).f3) g1_0_ a1_0 g1_1_ a1_1 g1_2_ A1_2 c1_2 l1_2 true _ ?side1 ?side2 ?side3 ?side4 ?side5 A6.out).mono ?_); (case side1 => exact CW ((Kd.C_below HR1_2.out HB.out))); (case side2 => exact HC1_2.out); (case side3 => exact (KW BKrg1_0_).out); (case side4 => exact (KW BKrg1_1_).out); (case side5 => exact (KW BKrg1_2_).out); rintro e w8 ⟨rfl, hb⟩; replace BKrg1_0_ := KB BKrg1_0_ hb; replace BKrg1_1_ := KB BKrg1_1_ hb; replace BKrg1_2_ := KB BKrg1_2_ hb; replace HB := BS hb; clear hb))
     go_ret
     exact ⟨TE, TB⟩
    ·replace c7 := Bool.eq_false_iff.mpr c7
     subst c7
     replace H := iff' H
     have H' := Aside0.mk H
     clear H
     have p972 : 0 ≤ (x8_1 : Int) := TD
     have q972 : x8_1 < (l0.length : Int) := TD
     obtain ⟨ad972, e972, hx972_0, hx972_1, hx972_2, hx972_3⟩ := at_TRecord (Kd.C_below HR0.out HB.out) x8_1 p972 q972
     cases e972
     replace p972 := eq_true p972
     replace q972 := eq_true q972
     go_wp2_with (first | (go_at_call 170; (with_reducible refine (impl_areOne_1.calls ((rd_TRecord l0 x8_1).f0) ((rd_TRecord l0 x8_1).f1) ((rd_TRecord l0 x8_1).f2) ((rd_TRecord l0 x8_1).f3) g1_0_ a1_0 g1_1_ a1_1 g1_2_ A1_2 c1_2 l1_2 false _ ?side1 ?side2 ?side3 ?side4 ?side5 A6.out).mono ?_); (case side1 => exact CW ((Kd.C_below HR1_2.out HB.out))); (case side2 => exact HC1_2.out); (case side3 => exact (KW BKrg1_0_).out); (case side4 => exact (KW BKrg1_1_).out); (case side5 => exact (KW BKrg1_2_).out); rintro e w9 ⟨rfl, hb⟩; replace BKrg1_0_ := KB BKrg1_0_ hb; replace BKrg1_1_ := KB BKrg1_1_ hb; replace BKrg1_2_ := KB BKrg1_2_ hb; replace HB := BS hb; clear hb))
     go_roundg k1
     case measure => have := HK1.out; omega
     case rel => exact ⟨(wrap64 (x8_1 + 1)), TF, H', ⟨TM⟩, KW BKrg1_0_, KW BKrg1_1_, KW BKrg1_2_, ⟨TB⟩⟩
   ·rw [if_neg c3] at H
    have c3b0 : decide (x8_1 < (l0.length : Int)) = false := decide_eq_false c3
    clear c3
    obtain rfl := Option.some.inj H
    go_wp2
    go_ret
    exact ⟨TE, TB⟩
end
section
/-! ### slices_ContainsFunc_impl_Record_impl_Record_areOne_1: function 66 -/
def slices_ContainsFunc_impl_Record_impl_Record_areOne_1.f (k : Nat) (l0 : List (S_Record)) (a1_0 : ByteArray) (a1_1 : Int) (l1_2 : List (S_Record)) : Option (Bool) := (slices_IndexFunc_impl_Record_impl_Record_areOne_1.f k l0 a1_0 a1_1 l1_2).bind fun t974 => (some (decide (t974 ≥ 0)))
theorem slices_ContainsFunc_impl_Record_impl_Record_areOne_1.calls (k : Nat) (A0 : Option Addr) (c0 : Nat) (l0 : List (S_Record)) (g1_0_ g1_1_ g1_2_ : Nat) (a1_0 : ByteArray) (a1_1 : Int) (A1_2 : Option Addr) (c1_2 : Nat) (l1_2 : List (S_Record)) (r : Bool) (w : World) (hr0 : Kd.C k_Record w A0 l0.length l0) (hc0 : l0.length ≤ c0) (hr1_2 : Kd.C k_Record w A1_2 l1_2.length l1_2) (hc1_2 : l1_2.length ≤ c1_2) (hkg1_0_ : w.heap[g1_0_]? = some (.cells #[.string a1_0] 9 (0, 0))) (hkg1_1_ : w.heap[g1_1_]? = some (.cells #[.int .i64 a1_1] 3 (0, 0))) (hkg1_2_ : w.heap[g1_2_]? = some (.cells #[.slice A1_2 l1_2.length c1_2] 27 (0, 0))) (h : slices_ContainsFunc_impl_Record_impl_Record_areOne_1.f k l0 a1_0 a1_1 l1_2 = some r) :
  Calls Tryz.prog 66 #[.slice A0 l0.length c0, .func (.func 170) #[] #[.pointer (some ⟨g1_0_, 0, none⟩), .pointer (some ⟨g1_1_, 0, none⟩), .pointer (some ⟨g1_2_, 0, none⟩)]] w fun e w' => e = .returned (.bool r) ∧ Below w.heap.size w w' := by
 have HR0 := Aside0.mk hr0
 have HC0 := Aside0.mk hc0
 clear hr0 hc0
 have HR1_2 := Aside0.mk hr1_2
 have HC1_2 := Aside0.mk hc1_2
 clear hr1_2 hc1_2
 have BKrg1_0_ := Aside0.mk hkg1_0_
 clear hkg1_0_
 have BKrg1_1_ := Aside0.mk hkg1_1_
 clear hkg1_1_
 have BKrg1_2_ := Aside0.mk hkg1_2_
 clear hkg1_2_
 have HB := Aside0.mk (Below.refl w.heap.size w)
 have H : ((slices_IndexFunc_impl_Record_impl_Record_areOne_1.f k l0 a1_0 a1_1 l1_2).bind fun t974 => (some (decide (t974 ≥ 0)))) = some r := h
 clear h
 obtain ⟨t974, A3, H⟩ := bnd H
 obtain rfl := Option.some.inj H
 go_enter Tryz.func66, Tryz.ntmps66
 go_wp2_with (first | ((with_reducible refine gate_callee (f := 122) rfl ?_); refine goesL_ (some 7) rfl rfl Tryz.func122 KR rfl #[.slice A0 l0.length c0, .func (.func 170) #[] #[.pointer (some ⟨g1_0_, 0, none⟩), .pointer (some ⟨g1_1_, 0, none⟩), .pointer (some ⟨g1_2_, 0, none⟩)]] rfl TA ?_; (with_reducible refine (slices_IndexFunc_impl_Record_impl_Record_areOne_1.calls k _ _ l0 g1_0_ g1_1_ g1_2_ a1_0 a1_1 A1_2 c1_2 l1_2 t974 _ ?side1 ?side2 ?side3 ?side4 ?side5 ?side6 ?side7 A3.out).mono ?_); (case side1 => exact CW (HR0.out)); (case side2 => exact HC0.out); (case side3 => exact CW (HR1_2.out)); (case side4 => exact HC1_2.out); (case side5 => exact (KW BKrg1_0_).out); (case side6 => exact (KW BKrg1_1_).out); (case side7 => exact (KW BKrg1_2_).out); rintro e w4 ⟨rfl, hb⟩; refine ⟨_, rfl, ?_⟩; replace BKrg1_0_ := KB BKrg1_0_ hb; replace BKrg1_1_ := KB BKrg1_1_ hb; replace BKrg1_2_ := KB BKrg1_2_ hb; replace HB := BS hb; clear hb))
 go_ret
 exact ⟨TE, TB⟩
end
section
/-! ### impl_areOne: function 137 -/
def impl_areOne.f (k : Nat) (l0 : List (S_Record)) (a1 : ByteArray) (a2 : Int) : Option (Bool) := (impl_within.f (l0.length : Int) 1 12).bind fun t978 => (if t978 = true then ((impl_areRising.f k l0).bind fun t979 => (if t979 = true then ((slices_ContainsFunc_impl_Record_impl_Record_areOne_1.f k l0 a1 a2 l0).bind fun t980 => (some (!t980))) else (some false))) else (some false))
theorem impl_areOne.calls (k : Nat) (A0 : Option Addr) (c0 : Nat) (l0 : List (S_Record)) (a1 : ByteArray) (a2 : Int) (r : Bool) (w : World) (hr0 : Kd.C k_Record w A0 l0.length l0) (hc0 : l0.length ≤ c0) (hG_ : Glob w) (h : impl_areOne.f k l0 a1 a2 = some r) :
  Calls Tryz.prog 137 #[.slice A0 l0.length c0, .string a1, .int .i64 a2] w fun e w' => e = .returned (.bool r) ∧ Below w.heap.size w w' := by
 have HR0 := Aside0.mk hr0
 have HC0 := Aside0.mk hc0
 clear hr0 hc0
 have HGL := Aside0.mk hG_
 clear hG_
 have HB := Aside0.mk (Below.refl w.heap.size w)
 have H : ((impl_within.f (l0.length : Int) 1 12).bind fun t978 => (if t978 = true then ((impl_areRising.f k l0).bind fun t979 => (if t979 = true then ((slices_ContainsFunc_impl_Record_impl_Record_areOne_1.f k l0 a1 a2 l0).bind fun t980 => (some (!t980))) else (some false))) else (some false))) = some r := h
 clear h
 obtain ⟨t978, A4, H⟩ := bnd H
 by_cases c5 : t978 = true
 ·subst c5
  replace H := ift H
  obtain ⟨t979, A6, H⟩ := bnd H
  by_cases c7 : t979 = true
  ·subst c7
   replace H := ift H
   obtain ⟨t980, A8, H⟩ := bnd H
   obtain rfl := Option.some.inj H
   go_enter Tryz.func137, Tryz.ntmps137
   go_wp2_with (first | ((with_reducible refine gate_dst (N := 3) rfl ?_); refine bE 3 #[.slice A0 l0.length c0] 27 ?_; intro gb975 hg w9 hbox hb; have BK975 := Aside0.mk (hbox); have GE975 := bG hg; replace HB := BS hb; clear hb hbox hg) | ((with_reducible refine gate_dst (N := 4) rfl ?_); refine bE 4 #[.string a1] 9 ?_; intro gb976 hg w10 hbox hb; have BK976 := Aside0.mk (hbox); have GE976 := bG hg; replace HB := BS hb; have NB975_976 := bN BK975 hg; have NB976_975 := bM BK975 hg; replace BK975 := KB BK975 hb; clear hb hbox hg) | ((with_reducible refine gate_dst (N := 5) rfl ?_); refine bE 5 #[.int .i64 a2] 3 ?_; intro gb977 hg w11 hbox hb; have BK977 := Aside0.mk (hbox); have GE977 := bG hg; replace HB := BS hb; have NB975_977 := bN BK975 hg; have NB977_975 := bM BK975 hg; replace BK975 := KB BK975 hb; have NB976_977 := bN BK976 hg; have NB977_976 := bM BK976 hg; replace BK976 := KB BK976 hb; clear hb hbox hg; obtain ⟨hnb12, hnc12⟩ := nn NB975_976; obtain ⟨hnb13, hnc13⟩ := nn NB975_977; have hcz14 := cz1 BK975) | ((with_reducible refine gate_callee (f := 86) rfl ?_); refine goesL_ (some 9) rfl rfl Tryz.func86 KR rfl #[.int .i64 (l0.length : Int), .int .i64 1, .int .i64 12] rfl TA ?_; (with_reducible refine (impl_within.calls (l0.length : Int) 1 12 true _ A4.out).mono ?_); rintro e w' ⟨rfl, ⟨nd, rfl⟩⟩; refine ⟨_, rfl, ?_⟩) | (go_at_call 121; (with_reducible refine (impl_areRising.calls k _ _ l0 true _ ?side1 ?side2 ?side3 A6.out).mono ?_); (case side1 => exact CW ((Kd.C_below HR0.out TB))); (case side2 => exact HC0.out); (case side3 => exact GW HGL); rintro e w15 ⟨rfl, hb⟩; replace BK975 := KB BK975 hb; replace BK976 := KB BK976 hb; replace BK977 := KB BK977 hb; replace HB := BS hb; clear hb; have hcz16 := cz1 BK975) | (go_at_call 66; (with_reducible refine (slices_ContainsFunc_impl_Record_impl_Record_areOne_1.calls k _ _ l0 gb976 gb977 gb975 a1 a2 A0 c0 l0 t980 _ ?side1 ?side2 ?side3 ?side4 ?side5 ?side6 ?side7 A8.out).mono ?_); (case side1 => exact CW ((Kd.C_below HR0.out HB.out))); (case side2 => exact HC0.out); (case side3 => exact CW ((Kd.C_below HR0.out HB.out))); (case side4 => exact HC0.out); (case side5 => exact (KW BK976).out); (case side6 => exact (KW BK977).out); (case side7 => exact (KW BK975).out); rintro e w17 ⟨rfl, hb⟩; replace BK975 := KB BK975 hb; replace BK976 := KB BK976 hb; replace BK977 := KB BK977 hb; replace HB := BS hb; clear hb))
   go_ret
   exact ⟨TE, TB⟩
  ·replace c7 := Bool.eq_false_iff.mpr c7
   subst c7
   replace H := iff' H
   obtain rfl := Option.some.inj H
   go_enter Tryz.func137, Tryz.ntmps137
   go_wp2_with (first | ((with_reducible refine gate_dst (N := 3) rfl ?_); refine bE 3 #[.slice A0 l0.length c0] 27 ?_; intro gb975 hg w18 hbox hb; have BK975 := Aside0.mk (hbox); have GE975 := bG hg; replace HB := BS hb; clear hb hbox hg) | ((with_reducible refine gate_dst (N := 4) rfl ?_); refine bE 4 #[.string a1] 9 ?_; intro gb976 hg w19 hbox hb; have BK976 := Aside0.mk (hbox); have GE976 := bG hg; replace HB := BS hb; have NB975_976 := bN BK975 hg; have NB976_975 := bM BK975 hg; replace BK975 := KB BK975 hb; clear hb hbox hg) | ((with_reducible refine gate_dst (N := 5) rfl ?_); refine bE 5 #[.int .i64 a2] 3 ?_; intro gb977 hg w20 hbox hb; have BK977 := Aside0.mk (hbox); have GE977 := bG hg; replace HB := BS hb; have NB975_977 := bN BK975 hg; have NB977_975 := bM BK975 hg; replace BK975 := KB BK975 hb; have NB976_977 := bN BK976 hg; have NB977_976 := bM BK976 hg; replace BK976 := KB BK976 hb; clear hb hbox hg; obtain ⟨hnb21, hnc21⟩ := nn NB975_976; obtain ⟨hnb22, hnc22⟩ := nn NB975_977; have hcz23 := cz1 BK975) | ((with_reducible refine gate_callee (f := 86) rfl ?_); refine goesL_ (some 9) rfl rfl Tryz.func86 KR rfl #[.int .i64 (l0.length : Int), .int .i64 1, .int .i64 12] rfl TA ?_; (with_reducible refine (impl_within.calls (l0.length : Int) 1 12 true _ A4.out).mono ?_); rintro e w' ⟨rfl, ⟨nd, rfl⟩⟩; refine ⟨_, rfl, ?_⟩) | (go_at_call 121; (with_reducible refine (impl_areRising.calls k _ _ l0 false _ ?side1 ?side2 ?side3 A6.out).mono ?_); (case side1 => exact CW ((Kd.C_below HR0.out TB))); (case side2 => exact HC0.out); (case side3 => exact GW HGL); rintro e w24 ⟨rfl, hb⟩; replace BK975 := KB BK975 hb; replace BK976 := KB BK976 hb; replace BK977 := KB BK977 hb; replace HB := BS hb; clear hb))
   go_ret
   exact ⟨TE, TB⟩
 ·replace c5 := Bool.eq_false_iff.mpr c5
  subst c5
  replace H := iff' H
  obtain rfl := Option.some.inj H
  go_enter Tryz.func137, Tryz.ntmps137
  go_wp2_with (first | ((with_reducible refine gate_dst (N := 3) rfl ?_); refine bE 3 #[.slice A0 l0.length c0] 27 ?_; intro gb975 hg w25 hbox hb; have BK975 := Aside0.mk (hbox); have GE975 := bG hg; replace HB := BS hb; clear hb hbox hg) | ((with_reducible refine gate_dst (N := 4) rfl ?_); refine bE 4 #[.string a1] 9 ?_; intro gb976 hg w26 hbox hb; have BK976 := Aside0.mk (hbox); have GE976 := bG hg; replace HB := BS hb; have NB975_976 := bN BK975 hg; have NB976_975 := bM BK975 hg; replace BK975 := KB BK975 hb; clear hb hbox hg) | ((with_reducible refine gate_dst (N := 5) rfl ?_); refine bE 5 #[.int .i64 a2] 3 ?_; intro gb977 hg w27 hbox hb; have BK977 := Aside0.mk (hbox); have GE977 := bG hg; replace HB := BS hb; have NB975_977 := bN BK975 hg; have NB977_975 := bM BK975 hg; replace BK975 := KB BK975 hb; have NB976_977 := bN BK976 hg; have NB977_976 := bM BK976 hg; replace BK976 := KB BK976 hb; clear hb hbox hg; obtain ⟨hnb28, hnc28⟩ := nn NB975_976; obtain ⟨hnb29, hnc29⟩ := nn NB975_977; have hcz30 := cz1 BK975) | ((with_reducible refine gate_callee (f := 86) rfl ?_); refine goesL_ (some 9) rfl rfl Tryz.func86 KR rfl #[.int .i64 (l0.length : Int), .int .i64 1, .int .i64 12] rfl TA ?_; (with_reducible refine (impl_within.calls (l0.length : Int) 1 12 false _ A4.out).mono ?_); rintro e w' ⟨rfl, ⟨nd, rfl⟩⟩; refine ⟨_, rfl, ?_⟩))
  go_ret
  exact ⟨TE, TB⟩
end
section
/-! ### impl_isEntry: function 87 -/
def impl_isEntry.j0 : Nat → Bool → ByteArray → Int → Bool → List (S_Record) → Int → Int → Option (Bool)
 | 0, _, _, _, _, _, _, _ => none
 | k + 1, x34, x983000, x983001, x983002, x983003, x983004, x983005 => if x34 = true then (some false) else (if x983002 = true then (some ((x983003.length : Int) == 0)) else ((impl_areOne.f k x983003 x983000 x983001).bind fun t987 => (some t987)))
def impl_isEntry.f (k : Nat) (a0_0 : Int) (l0_1 : List (S_Entry)) (a1_0 : ByteArray) (a1_1 : Int) (a1_2 : Bool) (l1_3 : List (S_Record)) (a1_4 : Int) (a1_5 : Int) : Option (Bool) := (impl_GoodName.f k a1_0).bind fun t983 => (if t983 = true then ((impl_isType.f k a1_1).bind fun t984 => (if t984 = true then ((impl_within.f a1_4 (wrap64 (a0_0 + 1)) (wrap64 (a0_0 + 100000))).bind fun t985 => (if t985 = true then ((impl_within.f a1_5 1 a0_0).bind fun t986 => (impl_isEntry.j0 k (!t986) a1_0 a1_1 a1_2 l1_3 a1_4 a1_5)) else (impl_isEntry.j0 k true a1_0 a1_1 a1_2 l1_3 a1_4 a1_5))) else (impl_isEntry.j0 k true a1_0 a1_1 a1_2 l1_3 a1_4 a1_5))) else (impl_isEntry.j0 k true a1_0 a1_1 a1_2 l1_3 a1_4 a1_5))
theorem impl_isEntry.calls (k : Nat) (a0_0 : Int) (A0_1 : Option Addr) (c0_1 : Nat) (l0_1 : List (S_Entry)) (a1_0 : ByteArray) (a1_1 : Int) (a1_2 : Bool) (A1_3 : Option Addr) (c1_3 : Nat) (l1_3 : List (S_Record)) (a1_4 : Int) (a1_5 : Int) (r : Bool) (w : World) (hr0_1 : Kd.C k_Entry w A0_1 l0_1.length l0_1) (hc0_1 : l0_1.length ≤ c0_1) (hr1_3 : Kd.C k_Record w A1_3 l1_3.length l1_3) (hc1_3 : l1_3.length ≤ c1_3) (hG_ : Glob w) (h : impl_isEntry.f k a0_0 l0_1 a1_0 a1_1 a1_2 l1_3 a1_4 a1_5 = some r) :
  Calls Tryz.prog 87 #[.agg #[.int .i64 a0_0, .slice A0_1 l0_1.length c0_1], .agg #[.string a1_0, .int .i64 a1_1, .bool a1_2, .slice A1_3 l1_3.length c1_3, .int .i64 a1_4, .int .i64 a1_5]] w fun e w' => e = .returned (.bool r) ∧ Below w.heap.size w w' := by
 have hu54 := Tryz.underlying54
 have hu107 := Tryz.underlying107
 have HR0_1 := Aside0.mk hr0_1
 have HC0_1 := Aside0.mk hc0_1
 clear hr0_1 hc0_1
 have HR1_3 := Aside0.mk hr1_3
 have HC1_3 := Aside0.mk hc1_3
 clear hr1_3 hc1_3
 have HGL := Aside0.mk hG_
 clear hG_
 have HB := Aside0.mk (Below.refl w.heap.size w)
 have H : ((impl_GoodName.f k a1_0).bind fun t983 => (if t983 = true then ((impl_isType.f k a1_1).bind fun t984 => (if t984 = true then ((impl_within.f a1_4 (wrap64 (a0_0 + 1)) (wrap64 (a0_0 + 100000))).bind fun t985 => (if t985 = true then ((impl_within.f a1_5 1 a0_0).bind fun t986 => (impl_isEntry.j0 k (!t986) a1_0 a1_1 a1_2 l1_3 a1_4 a1_5)) else (impl_isEntry.j0 k true a1_0 a1_1 a1_2 l1_3 a1_4 a1_5))) else (impl_isEntry.j0 k true a1_0 a1_1 a1_2 l1_3 a1_4 a1_5))) else (impl_isEntry.j0 k true a1_0 a1_1 a1_2 l1_3 a1_4 a1_5))) = some r := h
 clear h
 have HC3 := Aside0.mk H
 clear H
 go_enter Tryz.func87, Tryz.ntmps87
 go_upto_region 1 with (first | ((with_reducible refine gate_dst (N := 2) rfl ?_); refine bE 2 #[.int .i64 a0_0, .slice A0_1 l0_1.length c0_1] 54 ?_; intro gb981 hg w4 hbox hb; have BK981 := Aside0.mk (hbox); have GE981 := bG hg; replace HB := BS hb; clear hb hbox hg) | ((with_reducible refine gate_dst (N := 3) rfl ?_); refine bE 3 #[.string a1_0, .int .i64 a1_1, .bool a1_2, .slice A1_3 l1_3.length c1_3, .int .i64 a1_4, .int .i64 a1_5] 107 ?_; intro gb982 hg w5 hbox hb; have BK982 := Aside0.mk (hbox); have GE982 := bG hg; replace HB := BS hb; have NB981_982 := bN BK981 hg; have NB982_981 := bM BK981 hg; replace BK981 := KB BK981 hb; clear hb hbox hg))
 (try simp only [Act.put, List.setIfInBounds_toArray, List.set_cons_zero, List.set_cons_succ])
 go_cut [34] (fun v34 wc => ∃ (kq : Nat) (x34_2 : Bool), v34 = .bool x34_2 ∧ Aside0 (impl_isEntry.j0 kq x34_2 a1_0 a1_1 a1_2 l1_3 a1_4 a1_5 = some r) ∧ Aside0 (kq ≤ k) ∧ Aside0 (wc.heap[gb981]? = some (.cells #[.int .i64 a0_0, (.slice A0_1 l0_1.length c0_1)] 54 (0, 0))) ∧ Aside0 (wc.heap[gb982]? = some (.cells #[.string a1_0, .int .i64 a1_1, .bool a1_2, (.slice A1_3 l1_3.length c1_3), .int .i64 a1_4, .int .i64 a1_5] 107 (0, 0))) ∧ Aside0 (Below w.heap.size w wc))
 case first =>
  have H := HC3.out
  clear HC3
  obtain ⟨t983, A6, H⟩ := bnd H
  by_cases c7 : t983 = true
  ·subst c7
   replace H := ift H
   obtain ⟨t984, A8, H⟩ := bnd H
   by_cases c9 : t984 = true
   ·subst c9
    replace H := ift H
    obtain ⟨t985, A10, H⟩ := bnd H
    by_cases c11 : t985 = true
    ·subst c11
     replace H := ift H
     obtain ⟨t986, A12, H⟩ := bnd H
     have H' := Aside0.mk H
     clear H
     have hnb13 := NB982_981.out
     have hnc13 := NB981_982.out
     have hcz14 := cz6 BK982
     go_wp2_with (first | ((with_reducible refine gate_callee (f := 77) rfl ?_); refine goesL_ (some 7) rfl rfl Tryz.func77 KR rfl #[.string a1_0] rfl TA ?_; (with_reducible refine (impl_GoodName.calls k a1_0 true _ A6.out).mono ?_); rintro e w15 ⟨rfl, hb⟩; refine ⟨_, rfl, ?_⟩; replace BK981 := KB BK981 hb; replace BK982 := KB BK982 hb; replace HB := BS hb; clear hb; have hcz16 := cz6 BK982) | (go_at_call 136; (with_reducible refine (impl_isType.calls k a1_1 true _ A8.out).mono ?_); rintro e w17 ⟨rfl, hb⟩; replace BK981 := KB BK981 hb; replace BK982 := KB BK982 hb; replace HB := BS hb; clear hb; have hcz18 := cz6 BK982; have hcz19 := cz2 BK981) | (go_at_call 86; (with_reducible refine (impl_within.calls a1_4 (wrap64 (a0_0 + 1)) (wrap64 (a0_0 + 100000)) true _ A10.out).mono ?_); rintro e w' ⟨rfl, ⟨nd, rfl⟩⟩) | (go_at_call 86; (with_reducible refine (impl_within.calls a1_5 1 a0_0 t986 _ A12.out).mono ?_); rintro e w' ⟨rfl, ⟨nd, rfl⟩⟩))
     go_meet
     case rel => exact ⟨_, (!t986), TF, H', ⟨by first | omega | exact Nat.le_refl _⟩, KW BK981, KW BK982, ⟨TB⟩⟩
    ·replace c11 := Bool.eq_false_iff.mpr c11
     subst c11
     replace H := iff' H
     have H' := Aside0.mk H
     clear H
     have hnb20 := NB982_981.out
     have hnc20 := NB981_982.out
     have hcz21 := cz6 BK982
     go_wp2_with (first | ((with_reducible refine gate_callee (f := 77) rfl ?_); refine goesL_ (some 7) rfl rfl Tryz.func77 KR rfl #[.string a1_0] rfl TA ?_; (with_reducible refine (impl_GoodName.calls k a1_0 true _ A6.out).mono ?_); rintro e w22 ⟨rfl, hb⟩; refine ⟨_, rfl, ?_⟩; replace BK981 := KB BK981 hb; replace BK982 := KB BK982 hb; replace HB := BS hb; clear hb; have hcz23 := cz6 BK982) | (go_at_call 136; (with_reducible refine (impl_isType.calls k a1_1 true _ A8.out).mono ?_); rintro e w24 ⟨rfl, hb⟩; replace BK981 := KB BK981 hb; replace BK982 := KB BK982 hb; replace HB := BS hb; clear hb; have hcz25 := cz6 BK982; have hcz26 := cz2 BK981) | (go_at_call 86; (with_reducible refine (impl_within.calls a1_4 (wrap64 (a0_0 + 1)) (wrap64 (a0_0 + 100000)) false _ A10.out).mono ?_); rintro e w' ⟨rfl, ⟨nd, rfl⟩⟩))
     go_meet
     case rel => exact ⟨_, (true), TF, H', ⟨by first | omega | exact Nat.le_refl _⟩, KW BK981, KW BK982, ⟨TB⟩⟩
   ·replace c9 := Bool.eq_false_iff.mpr c9
    subst c9
    replace H := iff' H
    have H' := Aside0.mk H
    clear H
    have hnb27 := NB982_981.out
    have hnc27 := NB981_982.out
    have hcz28 := cz6 BK982
    go_wp2_with (first | ((with_reducible refine gate_callee (f := 77) rfl ?_); refine goesL_ (some 7) rfl rfl Tryz.func77 KR rfl #[.string a1_0] rfl TA ?_; (with_reducible refine (impl_GoodName.calls k a1_0 true _ A6.out).mono ?_); rintro e w29 ⟨rfl, hb⟩; refine ⟨_, rfl, ?_⟩; replace BK981 := KB BK981 hb; replace BK982 := KB BK982 hb; replace HB := BS hb; clear hb; have hcz30 := cz6 BK982) | (go_at_call 136; (with_reducible refine (impl_isType.calls k a1_1 false _ A8.out).mono ?_); rintro e w31 ⟨rfl, hb⟩; replace BK981 := KB BK981 hb; replace BK982 := KB BK982 hb; replace HB := BS hb; clear hb))
    go_meet
    case rel => exact ⟨_, (true), TF, H', ⟨by first | omega | exact Nat.le_refl _⟩, KW BK981, KW BK982, ⟨TB⟩⟩
  ·replace c7 := Bool.eq_false_iff.mpr c7
   subst c7
   replace H := iff' H
   have H' := Aside0.mk H
   clear H
   have hnb32 := NB982_981.out
   have hnc32 := NB981_982.out
   have hcz33 := cz6 BK982
   go_wp2_with (first | ((with_reducible refine gate_callee (f := 77) rfl ?_); refine goesL_ (some 7) rfl rfl Tryz.func77 KR rfl #[.string a1_0] rfl TA ?_; (with_reducible refine (impl_GoodName.calls k a1_0 false _ A6.out).mono ?_); rintro e w34 ⟨rfl, hb⟩; refine ⟨_, rfl, ?_⟩; replace BK981 := KB BK981 hb; replace BK982 := KB BK982 hb; replace HB := BS hb; clear hb))
   go_meet
   case rel => exact ⟨_, (true), TF, H', ⟨by first | omega | exact Nat.le_refl _⟩, KW BK981, KW BK982, ⟨TB⟩⟩
 case rest =>
  clear HC3
  obtain ⟨kq, x34_2, rfl, HA, HJ2, BK981, BK982, HB⟩ := hcut
  cases kq with
  | zero => exact absurd HA.out (by simp [impl_isEntry.j0])
  | succ kj2 =>
   have H := HA.out
   clear HA
   simp only [impl_isEntry.j0] at H
   by_cases c35 : x34_2 = true
   ·subst c35
    replace H := ift H
    obtain rfl := Option.some.inj H
    go_wp2
    go_ret
    exact ⟨TE, TB⟩
   ·replace c35 := Bool.eq_false_iff.mpr c35
    subst c35
    replace H := iff' H
    by_cases c36 : a1_2 = true
    ·subst c36
     replace H := ift H
     obtain rfl := Option.some.inj H
     have hnb37 := NB982_981.out
     have hnc37 := NB981_982.out
     have hcz38 := cz6 BK982
     go_wp2
     go_ret
     exact ⟨TE, TB⟩
    ·replace c36 := Bool.eq_false_iff.mpr c36
     subst c36
     replace H := iff' H
     obtain ⟨t987, A39, H⟩ := bnd H
     obtain rfl := Option.some.inj H
     have hnb40 := NB982_981.out
     have hnc40 := NB981_982.out
     have hcz41 := cz6 BK982
     go_wp2_with (first | ((with_reducible refine gate_callee (f := 137) rfl ?_); refine goesL_ (some 47) rfl rfl Tryz.func137 KR rfl #[.slice A1_3 l1_3.length c1_3, .string a1_0, .int .i64 a1_1] rfl TA ?_; (with_reducible refine (impl_areOne.calls kj2 _ _ l1_3 a1_0 a1_1 t987 _ ?side1 ?side2 ?side3 A39.out).mono ?_); (case side1 => exact CW ((Kd.C_below HR1_3.out HB.out))); (case side2 => exact HC1_3.out); (case side3 => exact GW HGL); rintro e w42 ⟨rfl, hb⟩; refine ⟨_, rfl, ?_⟩; replace BK981 := KB BK981 hb; replace BK982 := KB BK982 hb; replace HB := BS hb; clear hb))
     go_ret
     exact ⟨TE, TB⟩
end
section
/-! ### impl_compareEntry: function 88 -/
def impl_compareEntry.f (k : Nat) (a0_0 : ByteArray) (a0_1 : Int) (a0_2 : Bool) (l0_3 : List (S_Record)) (a0_4 : Int) (a0_5 : Int) (a1 : ByteArray) (a2 : Int) : Option (Int) := (impl_compareNames.f k a0_0 a1).bind fun t989 => ((cmp_Compare_int.f a0_1 a2).bind fun t990 => ((cmp_Or_int.f k (([t989, t990] : List Int))).bind fun t994 => (some t994)))
def impl_compareEntry.T1 : Bool × List (List Nat × List Nat) := (true, [([], []), ([0], [0]), ([], []), ([1, 2], [1, 2]), ([], []), ([4], [4]), ([], []), ([5, 6, 3], [5, 6]), ([3, 7], [3, 7]), ([8, 7], [8]), ([9, 9, 0, 1, 2, 3, 4, 5, 6, 7, 8, 9], [9])])
def impl_compareEntry.B1 : List Nat := [0, 1, 0, 7, 0, 16, 0, 127, 255, 511, 1023]
theorem impl_compareEntry.tab1 : rtab .any (opsOf Tryz.f88 1) = impl_compareEntry.T1 := by kernel_rfl
theorem impl_compareEntry.bits1 : waitsOk impl_compareEntry.T1.2 impl_compareEntry.B1 = true := by kernel_rfl
theorem impl_compareEntry.calls (k : Nat) (a0_0 : ByteArray) (a0_1 : Int) (a0_2 : Bool) (A0_3 : Option Addr) (c0_3 : Nat) (l0_3 : List (S_Record)) (a0_4 : Int) (a0_5 : Int) (a1 : ByteArray) (a2 : Int) (r : Int) (w : World) (hr0_3 : Kd.C k_Record w A0_3 l0_3.length l0_3) (hc0_3 : l0_3.length ≤ c0_3) (h : impl_compareEntry.f k a0_0 a0_1 a0_2 l0_3 a0_4 a0_5 a1 a2 = some r) :
  Calls Tryz.prog 88 #[.agg #[.string a0_0, .int .i64 a0_1, .bool a0_2, .slice A0_3 l0_3.length c0_3, .int .i64 a0_4, .int .i64 a0_5], .string a1, .int .i64 a2] w fun e w' => e = .returned (.int .i64 r) ∧ Below w.heap.size w w' := by
 have hu107 := Tryz.underlying107
 have HR0_3 := Aside0.mk hr0_3
 have HC0_3 := Aside0.mk hc0_3
 clear hr0_3 hc0_3
 have HB := Aside0.mk (Below.refl w.heap.size w)
 have H : ((impl_compareNames.f k a0_0 a1).bind fun t989 => ((cmp_Compare_int.f a0_1 a2).bind fun t990 => ((cmp_Or_int.f k (([t989, t990] : List Int))).bind fun t994 => (some t994)))) = some r := h
 clear h
 obtain ⟨t989, A4, H⟩ := bnd H
 obtain ⟨t990, A5, H⟩ := bnd H
 obtain ⟨y991, hy991⟩ : ∃ y_ : List Int, y_ = (([t989, t990] : List Int)) := ⟨_, rfl⟩
 replace H : ((cmp_Or_int.f k y991).bind fun t994 => (some t994)) = some r := by first | (rw [hy991]; with_reducible exact H) | (have H2_ := (Option.bind_some _ _).symm.trans H; rw [hy991]; with_reducible exact H2_) | (have H2_ := (Option.bind_some _ _).symm.trans H; with_reducible exact H2_) | with_reducible exact H | (rw [hy991]; exact H) | exact H
 have Ny991 := Aside0.mk hy991
 clear hy991
 obtain ⟨t994, A6, H⟩ := bnd H
 obtain rfl := Option.some.inj H
 go_enter Tryz.func88, Tryz.ntmps88
 try go_wp2_with (first | ((with_reducible refine gate_dst (N := 3) rfl ?_); refine bE 3 #[.string a0_0, .int .i64 a0_1, .bool a0_2, .slice A0_3 l0_3.length c0_3, .int .i64 a0_4, .int .i64 a0_5] 107 ?_; intro gb988 hg w7 hbox hb; have BK988 := Aside0.mk (hbox); have GE988 := bG hg; replace HB := BS hb; clear hb hbox hg))
 replace BK988 := Aside0.mk (blk_drew BK988.out)
 replace HB := Aside0.mk (below_drew1 HB.out)
 refine start_ (n := 11) (S := fun w' => w'.cell? ⟨gb988, 0, none⟩ = some (.string a0_0) ∧ w'.cell? ⟨gb988, 1, none⟩ = some (.int .i64 a0_1) ∧ w'.cell? ⟨gb988, 2, none⟩ = some (.bool a0_2) ∧ w'.cell? ⟨gb988, 3, none⟩ = some (.slice A0_3 l0_3.length c0_3) ∧ w'.cell? ⟨gb988, 4, none⟩ = some (.int .i64 a0_4) ∧ w'.cell? ⟨gb988, 5, none⟩ = some (.int .i64 a0_5)) (ds := []) #[false, false, false, false, false, false, false, false, false, false, false] KR rfl rfl ⟨bc 0 BK988, bc 1 BK988, bc 2 BK988, bc 3 BK988, bc 4 BK988, bc 5 BK988⟩ (fun hHeld => ?_); refine with_tabW impl_compareEntry.tab1 impl_compareEntry.bits1 (fun HT_ HW_ => ?_)
 generalize w7.drew = w8 at BK988 HB hHeld ⊢
 refine pA 0 7 (mL 11 1) HT_ rfl rfl ?_
 refine pA 2 9 (mL 11 5) HT_ rfl rfl ?_
 refine pA 4 11 (mL 11 21) HT_ rfl rfl ?_
 refine pA 6 13 (mL 11 85) HT_ rfl rfl ?_
 refine tA 1 8 (mL 11 87) HT_ HW_ hHeld rfl rfl (by rintro w' ⟨s0, s1, s2, s3, s4, s5⟩; go_simp; with_reducible rfl) ?_
 refine tA 5 12 (mL 11 119) HT_ HW_ hHeld rfl rfl (by rintro w' ⟨s0, s1, s2, s3, s4, s5⟩; go_simp; with_reducible rfl) ?_
 refine one_ (i := 3) (N := some 10) (mL 11 127) rfl rfl (one_of HT_.out KR) (by decide) (fun K hK => ?_)
 refine goes_ Tryz.func139 KR rfl #[.string a0_0, .string a1] (by rfl) rfl rfl TA ?_
 with_reducible refine (impl_compareNames.calls k a0_0 a1 t989 _ A4.out).mono ?_
 rintro e w9 ⟨rfl, hb⟩
 refine ⟨_, rfl, ?_⟩
 replace BK988 := KB BK988 hb
 replace HB := BS hb
 (try clear hb)
 (try clear hb2)
 (try clear hk)
 (try clear hi)
 refine hK.out _ _ ⟨bc 0 BK988, bc 1 BK988, bc 2 BK988, bc 3 BK988, bc 4 BK988, bc 5 BK988⟩ (fun hHeld => ?_)
 clear hK K
 refine nA ?_
 refine one_ (i := 7) (N := some 14) (mL 11 255) rfl rfl (one_of HT_.out KR) (by decide) (fun K hK => ?_)
 refine goes_ Tryz.func92 KR rfl #[.int .i64 a0_1, .int .i64 a2] (by rfl) rfl rfl TA ?_
 with_reducible refine (cmp_Compare_int.calls a0_1 a2 t990 _ A5.out).mono ?_
 rintro e w' ⟨rfl, ⟨nd, rfl⟩⟩
 refine ⟨_, rfl, ?_⟩
 refine hK.out _ _ ⟨bc 0 BK988, bc 1 BK988, bc 2 BK988, bc 3 BK988, bc 4 BK988, bc 5 BK988⟩ (fun hHeld => ?_)
 clear hK K
 refine nA ?_
 refine one_ (i := 8) (N := some 15) (mL 11 511) rfl rfl (one_of HT_.out KR) (by decide) (fun K hK => ?_)
 refine Kd.R_lit_step (Kd.int .i64) _ 3 ?hg (N := 15) ?hd (xs := ([t989, t990] : List Int)) (inner := [.int .i64 t989, .int .i64 t990]) (ok := fun _ => True) (okp := fun _ => True) ?hr ?hp (fun _ hk => hk) trivial (Below.refl _ _) (Nat.le_refl _) (by simp) ?_; (case hd => rfl); (case hg => rfl); (case hr => first | (go_simp; done) | (go_simp; rfl)); (case hp => exact (Reps.one (show Kd.M (Kd.int .i64) _ _ _ t989 [.int .i64 t989] from rfl) (Reps.one (show Kd.M (Kd.int .i64) _ _ _ t990 [.int .i64 t990] from rfl) (Reps.none _ _))))
 intro v992 w10 ho11 hb hg_ hnew_
 clear hg_ hnew_
 (first | rw [← Ny991.out] at ho11 | (simp only [Int.reduceToNat] at ho11; rw [← Ny991.out] at ho11))
 have HO993 := RL ho11
 replace BK988 := KB BK988 hb
 replace HB := BS hb
 clear hb ho11
 obtain ⟨Ao12, co12, eo12⟩ := Kd.R_slice HO993.out
 (first | subst eo12 | (injection eo12 with f1_ f2_ f3_; have f4_ := f1_.symm; have f5_ := f3_.symm; clear f1_ f2_ f3_; subst f4_; subst f5_))
 refine hK.out _ _ ⟨bc 0 BK988, bc 1 BK988, bc 2 BK988, bc 3 BK988, bc 4 BK988, bc 5 BK988⟩ (fun hHeld => ?_)
 clear hK K
 refine nA ?_
 refine one_ (i := 9) (N := some 16) (mL 11 1023) rfl rfl (one_of HT_.out KR) (by decide) (fun K hK => ?_)
 refine goes_ Tryz.func138 KR rfl #[.slice Ao12 y991.length co12] (by rfl) rfl rfl TA ?_
 with_reducible refine (cmp_Or_int.calls k _ _ y991 t994 _ ?side1 ?side2 A6.out).mono ?_
 (case side1 => exact CW ((Kd.R_reads' HO993.out).2.2))
 (case side2 => exact RI HO993)
 rintro e w' ⟨rfl, ⟨nd, rfl⟩⟩
 refine ⟨_, rfl, ?_⟩
 refine hK.out _ _ ⟨bc 0 BK988, bc 1 BK988, bc 2 BK988, bc 3 BK988, bc 4 BK988, bc 5 BK988⟩ (fun hHeld => ?_)
 clear hK K
 refine nA ?_
 refine pA 10 6 (mL 11 2047) HT_ rfl rfl ?_
 refine done_ (done_of HT_.out KR) ?_
 try go_wp2
 go_ret
 exact ⟨TE, TB⟩
end
section
/-! ### impl_GoodCache: function 32 -/
mutual
def impl_GoodCache.j0 : Nat → Bool → Int → List (S_Entry) → Option (Bool)
 | 0, _, _, _ => none
 | k + 1, x14, x996000, x996001 => if x14 = true then (some false) else (impl_GoodCache.l0 k x996001 (x996001.length : Int) 0 x996000 x996001)
def impl_GoodCache.l0 : Nat → List (S_Entry) → Int → Int → Int → List (S_Entry) → Option (Bool)
 | 0, _, _, _, _, _ => none
 | k + 1, x16, x17, x18, x996000, x996001 => if x18 < x17 then (if 0 ≤ x18 then (if x18 < (x16.length : Int) then ((impl_isEntry.f k x996000 x996001 ((rd_TEntry x16 x18).f0) ((rd_TEntry x16 x18).f1) ((rd_TEntry x16 x18).f2) ((rd_TEntry x16 x18).f3) ((rd_TEntry x16 x18).f4) ((rd_TEntry x16 x18).f5)).bind fun t999 => (if t999 = true then (if x18 > 0 then (if 0 ≤ (wrap64 (x18 - 1)) then (if (wrap64 (x18 - 1)) < (x996001.length : Int) then ((impl_compareEntry.f k ((rd_TEntry x996001 (wrap64 (x18 - 1))).f0) ((rd_TEntry x996001 (wrap64 (x18 - 1))).f1) ((rd_TEntry x996001 (wrap64 (x18 - 1))).f2) ((rd_TEntry x996001 (wrap64 (x18 - 1))).f3) ((rd_TEntry x996001 (wrap64 (x18 - 1))).f4) ((rd_TEntry x996001 (wrap64 (x18 - 1))).f5) ((rd_TEntry x16 x18).f0) ((rd_TEntry x16 x18).f1)).bind fun t1001 => (if t1001 ≥ 0 then (some false) else (impl_GoodCache.l0 k x16 x17 (wrap64 (x18 + 1)) x996000 x996001))) else (none)) else (none)) else (impl_GoodCache.l0 k x16 x17 (wrap64 (x18 + 1)) x996000 x996001)) else (some false))) else (none)) else (none)) else (some true)
end
def impl_GoodCache.f (k : Nat) (a0_0 : Int) (l0_1 : List (S_Entry)) : Option (Bool) := (impl_within.f a0_0 1 1000000000).bind fun t996 => (if t996 = true then (impl_GoodCache.j0 k (decide ((l0_1.length : Int) > 20)) a0_0 l0_1) else (impl_GoodCache.j0 k true a0_0 l0_1))
def impl_GoodCache.T6 : Bool × List (List Nat × List Nat) := (true, [([], []), ([], []), ([0, 1], [0, 1]), ([2], [2]), ([3, 2], [3]), ([4], [4]), ([5, 4], [4, 5]), ([6, 4, 4], [4, 6]), ([7], [7]), ([8, 7], [7, 8]), ([7], [7]), ([10, 7], [7, 10]), ([9, 11, 7], [7, 9, 11]), ([12, 7], [7, 12]), ([7], [7]), ([14, 7], [7, 14]), ([7], [7]), ([16, 7], [7, 16]), ([13, 15, 17, 7, 7], [7, 13, 15, 17]), ([18, 7], [7, 18]), ([7, 19, 4], [4, 7, 19]), ([4, 20], [4, 20])])
def impl_GoodCache.B6 : List Nat := [0, 0, 3, 7, 15, 31, 63, 127, 255, 511, 255, 1279, 4095, 8191, 255, 16639, 255, 65791, 262143, 524287, 1048575, 2097151]
theorem impl_GoodCache.tab6 : rtab .any (opsOf Tryz.f32 6) = impl_GoodCache.T6 := by kernel_rfl
theorem impl_GoodCache.bits6 : waitsOk impl_GoodCache.T6.2 impl_GoodCache.B6 = true := by kernel_rfl
theorem impl_GoodCache.calls (k : Nat) (a0_0 : Int) (A0_1 : Option Addr) (c0_1 : Nat) (l0_1 : List (S_Entry)) (r : Bool) (w : World) (hr0_1 : Kd.C k_Entry w A0_1 l0_1.length l0_1) (hc0_1 : l0_1.length ≤ c0_1) (hG_ : Glob w) (h : impl_GoodCache.f k a0_0 l0_1 = some r) :
  Calls Tryz.prog 32 #[.agg #[.int .i64 a0_0, .slice A0_1 l0_1.length c0_1]] w fun e w' => e = .returned (.bool r) ∧ Below w.heap.size w w' := by
 have hu54 := Tryz.underlying54
 have hu107 := Tryz.underlying107
 have HR0_1 := Aside0.mk hr0_1
 have HC0_1 := Aside0.mk hc0_1
 clear hr0_1 hc0_1
 have HGL := Aside0.mk hG_
 clear hG_
 have HB := Aside0.mk (Below.refl w.heap.size w)
 have H : ((impl_within.f a0_0 1 1000000000).bind fun t996 => (if t996 = true then (impl_GoodCache.j0 k (decide ((l0_1.length : Int) > 20)) a0_0 l0_1) else (impl_GoodCache.j0 k true a0_0 l0_1))) = some r := h
 clear h
 have HC2 := Aside0.mk H
 clear H
 go_enter Tryz.func32, Tryz.ntmps32
 go_upto_region 1 with (first | ((with_reducible refine gate_dst (N := 1) rfl ?_); (try (refine gate_guard (by rfl) ?_; dsimp only)); refine bE 1 #[.int .i64 a0_0, .slice A0_1 l0_1.length c0_1] 54 ?_; intro gb995 hg w3 hbox hb; have BK995 := Aside0.mk (hbox); have GE995 := bG hg; replace HB := BS hb; clear hb hbox hg))
 (try simp only [Act.put, List.setIfInBounds_toArray, List.set_cons_zero, List.set_cons_succ])
 go_cut [14] (fun v14 wc => ∃ (kq : Nat) (x14_1 : Bool), v14 = .bool x14_1 ∧ Aside0 (impl_GoodCache.j0 kq x14_1 a0_0 l0_1 = some r) ∧ Aside0 (kq ≤ k) ∧ Aside0 (wc.heap[gb995]? = some (.cells #[.int .i64 a0_0, (.slice A0_1 l0_1.length c0_1)] 54 (0, 0))) ∧ Aside0 (Below w.heap.size w wc))
 case first =>
  have H := HC2.out
  clear HC2
  obtain ⟨t996, A4, H⟩ := bnd H
  by_cases c5 : t996 = true
  ·subst c5
   replace H := ift H
   have H' := Aside0.mk H
   clear H
   have hcz6 := cz2 BK995
   go_wp2_with (first | ((with_reducible refine gate_callee (f := 86) rfl ?_); refine goesL_ (some 7) rfl rfl Tryz.func86 KR rfl #[.int .i64 a0_0, .int .i64 1, .int .i64 1000000000] rfl TA ?_; (with_reducible refine (impl_within.calls a0_0 1 1000000000 true _ A4.out).mono ?_); rintro e w' ⟨rfl, ⟨nd, rfl⟩⟩; refine ⟨_, rfl, ?_⟩))
   go_meet
   case rel => exact ⟨_, (decide ((l0_1.length : Int) > 20)), TF, H', ⟨by first | omega | exact Nat.le_refl _⟩, KW BK995, ⟨TB⟩⟩
  ·replace c5 := Bool.eq_false_iff.mpr c5
   subst c5
   replace H := iff' H
   have H' := Aside0.mk H
   clear H
   have hcz7 := cz2 BK995
   go_wp2_with (first | ((with_reducible refine gate_callee (f := 86) rfl ?_); refine goesL_ (some 7) rfl rfl Tryz.func86 KR rfl #[.int .i64 a0_0, .int .i64 1, .int .i64 1000000000] rfl TA ?_; (with_reducible refine (impl_within.calls a0_0 1 1000000000 false _ A4.out).mono ?_); rintro e w' ⟨rfl, ⟨nd, rfl⟩⟩; refine ⟨_, rfl, ?_⟩))
   go_meet
   case rel => exact ⟨_, (true), TF, H', ⟨by first | omega | exact Nat.le_refl _⟩, KW BK995, ⟨TB⟩⟩
 case rest =>
  clear HC2
  obtain ⟨kq, x14_1, rfl, HA, HJ1, BK995, HB⟩ := hcut
  cases kq with
  | zero => exact absurd HA.out (by simp [impl_GoodCache.j0])
  | succ kj1 =>
   have H := HA.out
   clear HA
   simp only [impl_GoodCache.j0] at H
   by_cases c8 : x14_1 = true
   ·subst c8
    replace H := ift H
    obtain rfl := Option.some.inj H
    go_wp2
    go_ret
    exact ⟨TE, TB⟩
   ·replace c8 := Bool.eq_false_iff.mpr c8
    subst c8
    replace H := iff' H
    have H' := Aside0.mk H
    clear H
    have hcz9 := cz2 BK995
    go_wp2
    go_loopg [18] kj1 (fun kq v18 w' => ∃ (x18_2 : Int), v18 = .int .i64 x18_2 ∧ Aside0 (impl_GoodCache.l0 kq l0_1 (l0_1.length : Int) x18_2 a0_0 l0_1 = some r) ∧ Aside0 (kq ≤ kj1) ∧ Aside0 (w'.heap[gb995]? = some (.cells #[.int .i64 a0_0, (.slice A0_1 l0_1.length c0_1)] 54 (0, 0))) ∧ Aside0 (Below w.heap.size w w'))
    case atStart => exact ⟨(0), TF, H', ⟨Nat.le_refl _⟩, KW BK995, ⟨TB⟩⟩
    case round =>
     clear H'
     obtain ⟨x18_2, rfl, HA, HK2, BK995, HB⟩ := hrel
     cases gk with
     | zero => exact absurd HA.out (by simp [impl_GoodCache.l0])
     | succ k2 =>
      have H := HA.out
      clear HA
      simp only [impl_GoodCache.l0] at H
      by_cases c10 : x18_2 < (l0_1.length : Int)
      ·rw [if_pos c10] at H
       have c10b0 : decide (x18_2 < (l0_1.length : Int)) = true := decide_eq_true c10
       clear c10
       obtain ⟨c11, H⟩ := ifn H
       have c11b0 : decide (0 ≤ x18_2) = true := decide_eq_true c11
       clear c11
       obtain ⟨c12, H⟩ := ifn H
       have c12b0 : decide (x18_2 < (l0_1.length : Int)) = true := decide_eq_true c12
       clear c12
       obtain ⟨t999, A13, H⟩ := bnd H
       by_cases c14 : t999 = true
       ·subst c14
        replace H := ift H
        by_cases c15 : x18_2 > 0
        ·rw [if_pos c15] at H
         have c15b0 : decide (0 < x18_2) = true := decide_eq_true c15
         clear c15
         obtain ⟨ji16, hji16⟩ : ∃ j_ : Int, (wrap64 (x18_2 - 1)) = j_ := ⟨_, rfl⟩
         replace H : (if 0 ≤ (ji16) then (if (ji16) < (l0_1.length : Int) then ((impl_compareEntry.f k2 ((rd_TEntry l0_1 (ji16)).f0) ((rd_TEntry l0_1 (ji16)).f1) ((rd_TEntry l0_1 (ji16)).f2) ((rd_TEntry l0_1 (ji16)).f3) ((rd_TEntry l0_1 (ji16)).f4) ((rd_TEntry l0_1 (ji16)).f5) ((rd_TEntry l0_1 x18_2).f0) ((rd_TEntry l0_1 x18_2).f1)).bind fun t1001 => (if t1001 ≥ 0 then (some false) else (impl_GoodCache.l0 k2 l0_1 (l0_1.length : Int) (wrap64 (x18_2 + 1)) a0_0 l0_1))) else (none)) else (none)) = some r := by first | (rw [hji16] at H; exact H) | (simp only [hji16] at H ⊢; exact H)
         (try rw [hji16] at A13)
         have hji16w : (IntKind.i64.wrap (x18_2 - 1)) = ji16 := (i64_w _).trans hji16
         obtain ⟨c17, H⟩ := ifn H
         have c17b0 : decide (0 ≤ (ji16)) = true := decide_eq_true c17
         clear c17
         obtain ⟨c18, H⟩ := ifn H
         have c18b0 : decide ((ji16) < (l0_1.length : Int)) = true := decide_eq_true c18
         clear c18
         obtain ⟨t1001, A19, H⟩ := bnd H
         by_cases c20 : t1001 ≥ 0
         ·rw [if_pos c20] at H
          have c20b0 : decide (0 ≤ t1001) = true := decide_eq_true c20
          clear c20
          obtain rfl := Option.some.inj H
          have p997 : 0 ≤ (x18_2 : Int) := TD
          have q997 : x18_2 < (l0_1.length : Int) := TD
          obtain ⟨ad997, A997_3, c997_3, e997, hx997_0, hx997_1, hx997_2, hx997_3, hx997_4, hx997_5, hl997_3, hi997_3⟩ := at_TEntry HR0_1.out x18_2 p997 q997
          have hw997_3 := hx997_3
          cases e997
          replace hx997_0 := hBc HB hx997_0
          replace hx997_1 := hBc HB hx997_1
          replace hx997_2 := hBc HB hx997_2
          replace hx997_3 := hBc HB hx997_3
          replace hx997_4 := hBc HB hx997_4
          replace hx997_5 := hBc HB hx997_5
          have HR997_3 := Aside0.mk hi997_3
          have HC997_3 := Aside0.mk hl997_3
          clear hi997_3 hl997_3
          replace p997 := eq_true p997
          replace q997 := eq_true q997
          try go_wp2_with (first | ((with_reducible refine gate_dst (N := 4) rfl ?_); (try (refine gate_guard (by rfl) ?_; dsimp only)); refine bE 4 #[.string (⟨#[]⟩ : ByteArray), .int .i64 0, .bool false, .slice none 0 0, .int .i64 0, .int .i64 0] 107 ?_; intro gb998 hg w21 hbox hb; have BK998 := Aside0.mk (hbox); have GE998 := bG hg; replace HB := BS hb; have NB995_998 := bN BK995 hg; have NB998_995 := bM BK995 hg; replace BK995 := KB BK995 hb; clear hb hbox hg; obtain ⟨hnb22, hnc22⟩ := nn NB998_995; have hcz23 := cz6 BK998))
          have n0_ : Aside0 (((((((w21.setCell ⟨gb998, 0, none⟩ (.string ((rd_TEntry l0_1 x18_2).f0))).setCell ⟨gb998, 1, none⟩ (.int .i64 ((rd_TEntry l0_1 x18_2).f1))).setCell ⟨gb998, 2, none⟩ (.bool ((rd_TEntry l0_1 x18_2).f2))).setCell ⟨gb998, 3, none⟩ (.slice A997_3 ((rd_TEntry l0_1 x18_2).f3).length c997_3)).setCell ⟨gb998, 4, none⟩ (.int .i64 ((rd_TEntry l0_1 x18_2).f4))).setCell ⟨gb998, 5, none⟩ (.int .i64 ((rd_TEntry l0_1 x18_2).f5))).heap[gb995]? = some (.cells #[.int .i64 a0_0, .slice (some ad997) l0_1.length c0_1] 54 (0, 0))) := ⟨TS⟩
          have n1_ : Aside0 (((((((w21.setCell ⟨gb998, 0, none⟩ (.string ((rd_TEntry l0_1 x18_2).f0))).setCell ⟨gb998, 1, none⟩ (.int .i64 ((rd_TEntry l0_1 x18_2).f1))).setCell ⟨gb998, 2, none⟩ (.bool ((rd_TEntry l0_1 x18_2).f2))).setCell ⟨gb998, 3, none⟩ (.slice A997_3 ((rd_TEntry l0_1 x18_2).f3).length c997_3)).setCell ⟨gb998, 4, none⟩ (.int .i64 ((rd_TEntry l0_1 x18_2).f4))).setCell ⟨gb998, 5, none⟩ (.int .i64 ((rd_TEntry l0_1 x18_2).f5))).heap[gb998]? = some (.cells #[.string ((rd_TEntry l0_1 x18_2).f0), .int .i64 ((rd_TEntry l0_1 x18_2).f1), .bool ((rd_TEntry l0_1 x18_2).f2), .slice A997_3 ((rd_TEntry l0_1 x18_2).f3).length c997_3, .int .i64 ((rd_TEntry l0_1 x18_2).f4), .int .i64 ((rd_TEntry l0_1 x18_2).f5)] 107 (0, 0))) := ⟨TS⟩
          have n2_ : Aside0 (Below w.heap.size w ((((((w21.setCell ⟨gb998, 0, none⟩ (.string ((rd_TEntry l0_1 x18_2).f0))).setCell ⟨gb998, 1, none⟩ (.int .i64 ((rd_TEntry l0_1 x18_2).f1))).setCell ⟨gb998, 2, none⟩ (.bool ((rd_TEntry l0_1 x18_2).f2))).setCell ⟨gb998, 3, none⟩ (.slice A997_3 ((rd_TEntry l0_1 x18_2).f3).length c997_3)).setCell ⟨gb998, 4, none⟩ (.int .i64 ((rd_TEntry l0_1 x18_2).f4))).setCell ⟨gb998, 5, none⟩ (.int .i64 ((rd_TEntry l0_1 x18_2).f5)))) := ⟨TB⟩
          (try clear BK995)
          (try clear BK998)
          (try clear HB)
          generalize ((((((w21.setCell ⟨gb998, 0, none⟩ (.string ((rd_TEntry l0_1 x18_2).f0))).setCell ⟨gb998, 1, none⟩ (.int .i64 ((rd_TEntry l0_1 x18_2).f1))).setCell ⟨gb998, 2, none⟩ (.bool ((rd_TEntry l0_1 x18_2).f2))).setCell ⟨gb998, 3, none⟩ (.slice A997_3 ((rd_TEntry l0_1 x18_2).f3).length c997_3)).setCell ⟨gb998, 4, none⟩ (.int .i64 ((rd_TEntry l0_1 x18_2).f4))).setCell ⟨gb998, 5, none⟩ (.int .i64 ((rd_TEntry l0_1 x18_2).f5))) = w24 at n0_ n1_ n2_ ⊢
          have BK995 := n0_
          have BK998 := n1_
          have HB := n2_
          clear n0_ n1_ n2_
          replace BK995 := Aside0.mk (blk_drew BK995.out)
          replace BK998 := Aside0.mk (blk_drew BK998.out)
          replace HB := Aside0.mk (below_drew1 HB.out)
          have p1000 : 0 ≤ ((ji16) : Int) := TD
          have q1000 : (ji16) < (l0_1.length : Int) := TD
          obtain ⟨ad1000, A1000_3, c1000_3, e1000, hx1000_0, hx1000_1, hx1000_2, hx1000_3, hx1000_4, hx1000_5, hl1000_3, hi1000_3⟩ := at_TEntry HR0_1.out (ji16) p1000 q1000
          have hw1000_5 := hx1000_5
          have hw1000_4 := hx1000_4
          have hw1000_3 := hx1000_3
          have hw1000_2 := hx1000_2
          have hw1000_1 := hx1000_1
          have hw1000_0 := hx1000_0
          obtain rfl : ad997 = ad1000 := (by injection e1000)
          replace hx1000_0 := hBc HB hx1000_0
          replace hx1000_1 := hBc HB hx1000_1
          replace hx1000_2 := hBc HB hx1000_2
          replace hx1000_3 := hBc HB hx1000_3
          replace hx1000_4 := hBc HB hx1000_4
          replace hx1000_5 := hBc HB hx1000_5
          have HR1000_3 := Aside0.mk hi1000_3
          have HC1000_3 := Aside0.mk hl1000_3
          clear hi1000_3 hl1000_3
          replace p1000 := eq_true p1000
          replace q1000 := eq_true q1000
          refine start_ (n := 22) (S := fun w' => w'.cell? ⟨gb995, 0, none⟩ = some (.int .i64 a0_0) ∧ w'.cell? ⟨gb995, 1, none⟩ = some (.slice (some ad997) l0_1.length c0_1) ∧ w'.cell? ⟨gb998, 0, none⟩ = some (.string ((rd_TEntry l0_1 x18_2).f0)) ∧ w'.cell? ⟨gb998, 1, none⟩ = some (.int .i64 ((rd_TEntry l0_1 x18_2).f1)) ∧ w'.cell? ⟨gb998, 2, none⟩ = some (.bool ((rd_TEntry l0_1 x18_2).f2)) ∧ w'.cell? ⟨gb998, 3, none⟩ = some (.slice A997_3 ((rd_TEntry l0_1 x18_2).f3).length c997_3) ∧ w'.cell? ⟨gb998, 4, none⟩ = some (.int .i64 ((rd_TEntry l0_1 x18_2).f4)) ∧ w'.cell? ⟨gb998, 5, none⟩ = some (.int .i64 ((rd_TEntry l0_1 x18_2).f5)) ∧ w'.cell? (ad997.add (((ji16)).toNat * 6)) = some (.string ((rd_TEntry l0_1 (ji16)).f0)) ∧ w'.cell? ⟨(ad997.add (((ji16)).toNat * 6)).block, (ad997.add (((ji16)).toNat * 6)).off + 1, none⟩ = some (.int .i64 ((rd_TEntry l0_1 (ji16)).f1)) ∧ w'.cell? ⟨(ad997.add (((ji16)).toNat * 6)).block, (ad997.add (((ji16)).toNat * 6)).off + 2, none⟩ = some (.bool ((rd_TEntry l0_1 (ji16)).f2)) ∧ w'.cell? ⟨(ad997.add (((ji16)).toNat * 6)).block, (ad997.add (((ji16)).toNat * 6)).off + 3, none⟩ = some (.slice A1000_3 ((rd_TEntry l0_1 (ji16)).f3).length c1000_3) ∧ w'.cell? ⟨(ad997.add (((ji16)).toNat * 6)).block, (ad997.add (((ji16)).toNat * 6)).off + 4, none⟩ = some (.int .i64 ((rd_TEntry l0_1 (ji16)).f4)) ∧ w'.cell? ⟨(ad997.add (((ji16)).toNat * 6)).block, (ad997.add (((ji16)).toNat * 6)).off + 5, none⟩ = some (.int .i64 ((rd_TEntry l0_1 (ji16)).f5))) (ds := []) #[false, false, false, false, false, false, false, false, false, false, false, false, false, false, false, false, false, false, false, false, false, false] KR rfl rfl ⟨bc 0 BK995, bc 1 BK995, bc 0 BK998, bc 1 BK998, bc 2 BK998, bc 3 BK998, bc 4 BK998, bc 5 BK998, ((HB.out.cell (World.block_lt_of_cell? w _ hw1000_0)).trans hw1000_0), ((HB.out.cell (World.block_lt_of_cell? w _ hw1000_1)).trans hw1000_1), ((HB.out.cell (World.block_lt_of_cell? w _ hw1000_2)).trans hw1000_2), ((HB.out.cell (World.block_lt_of_cell? w _ hw1000_3)).trans hw1000_3), ((HB.out.cell (World.block_lt_of_cell? w _ hw1000_4)).trans hw1000_4), ((HB.out.cell (World.block_lt_of_cell? w _ hw1000_5)).trans hw1000_5)⟩ (fun hHeld => ?_); refine with_tabW impl_GoodCache.tab6 impl_GoodCache.bits6 (fun HT_ HW_ => ?_)
          generalize w24.drew = w25 at BK995 BK998 HB HR1000_3 hx1000_0 hx1000_1 hx1000_2 hx1000_3 hx1000_4 hx1000_5 hHeld ⊢
          refine tA 0 23 (mL 22 1) HT_ HW_ hHeld rfl rfl (by rintro w' ⟨s0, s1, s2, s3, s4, s5, s6, s7, s8, s9, s10, s11, s12, s13⟩; go_simp; with_reducible rfl) ?_
          refine tA 1 24 (mL 22 3) HT_ HW_ hHeld rfl rfl (by rintro w' ⟨s0, s1, s2, s3, s4, s5, s6, s7, s8, s9, s10, s11, s12, s13⟩; go_simp; with_reducible rfl) ?_
          refine one_ (i := 2) (N := some 25) (mL 22 7) rfl rfl (one_of HT_.out KR) (by decide) (fun K hK => ?_)
          refine goes_ Tryz.func87 KR rfl #[.agg #[.int .i64 a0_0, .slice (some ad997) l0_1.length c0_1], .agg #[.string ((rd_TEntry l0_1 x18_2).f0), .int .i64 ((rd_TEntry l0_1 x18_2).f1), .bool ((rd_TEntry l0_1 x18_2).f2), .slice A997_3 ((rd_TEntry l0_1 x18_2).f3).length c997_3, .int .i64 ((rd_TEntry l0_1 x18_2).f4), .int .i64 ((rd_TEntry l0_1 x18_2).f5)]] (by rfl) rfl rfl TA ?_
          with_reducible refine (impl_isEntry.calls k2 a0_0 _ _ l0_1 ((rd_TEntry l0_1 x18_2).f0) ((rd_TEntry l0_1 x18_2).f1) ((rd_TEntry l0_1 x18_2).f2) _ _ ((rd_TEntry l0_1 x18_2).f3) ((rd_TEntry l0_1 x18_2).f4) ((rd_TEntry l0_1 x18_2).f5) true _ ?side1 ?side2 ?side3 ?side4 ?side5 A13.out).mono ?_
          (case side1 => exact CW ((Kd.C_below HR0_1.out HB.out)))
          (case side2 => exact HC0_1.out)
          (case side3 => exact CW ((Kd.C_below HR997_3.out HB.out)))
          (case side4 => exact HC997_3.out)
          (case side5 => exact GW HGL)
          rintro e w26 ⟨rfl, hb⟩
          refine ⟨_, rfl, ?_⟩
          replace BK995 := KB BK995 hb
          replace BK998 := KB BK998 hb
          replace HB := BS hb
          (try clear hb)
          (try clear hb2)
          (try clear hk)
          (try clear hi)
          refine hK.out _ _ ⟨bc 0 BK995, bc 1 BK995, bc 0 BK998, bc 1 BK998, bc 2 BK998, bc 3 BK998, bc 4 BK998, bc 5 BK998, ((HB.out.cell (World.block_lt_of_cell? w _ hw1000_0)).trans hw1000_0), ((HB.out.cell (World.block_lt_of_cell? w _ hw1000_1)).trans hw1000_1), ((HB.out.cell (World.block_lt_of_cell? w _ hw1000_2)).trans hw1000_2), ((HB.out.cell (World.block_lt_of_cell? w _ hw1000_3)).trans hw1000_3), ((HB.out.cell (World.block_lt_of_cell? w _ hw1000_4)).trans hw1000_4), ((HB.out.cell (World.block_lt_of_cell? w _ hw1000_5)).trans hw1000_5)⟩ (fun hHeld => ?_)
          clear hK K
          refine nA ?_
          refine pA 3 26 (mL 22 15) HT_ rfl rfl ?_
          refine pA 4 27 (mL 22 31) HT_ rfl rfl ?_
          refine pA 5 28 (mL 22 63) HT_ rfl rfl ?_
          refine pA 6 29 (mL 22 127) HT_ rfl rfl ?_
          refine pA 7 30 (mL 22 255) HT_ rfl rfl ?_
          refine pA 8 31 (mL 22 511) HT_ rfl rfl ?_
          refine pA 10 33 (mL 22 1535) HT_ rfl rfl ?_
          refine pA 11 34 (mL 22 3583) HT_ rfl rfl ?_
          refine pA 14 37 (mL 22 19967) HT_ rfl rfl ?_
          refine pA 16 39 (mL 22 85503) HT_ rfl rfl ?_
          refine tA 9 32 (mL 22 86015) HT_ HW_ hHeld rfl rfl (by rintro w' ⟨s0, s1, s2, s3, s4, s5, s6, s7, s8, s9, s10, s11, s12, s13⟩; go_simp; with_reducible rfl) ?_
          refine pA 12 35 (mL 22 90111) HT_ rfl rfl ?_
          refine tA 13 36 (mL 22 98303) HT_ HW_ hHeld rfl rfl (by rintro w' ⟨s0, s1, s2, s3, s4, s5, s6, s7, s8, s9, s10, s11, s12, s13⟩; go_simp; with_reducible rfl) ?_
          refine tA 15 38 (mL 22 131071) HT_ HW_ hHeld rfl rfl (by rintro w' ⟨s0, s1, s2, s3, s4, s5, s6, s7, s8, s9, s10, s11, s12, s13⟩; go_simp; with_reducible rfl) ?_
          refine tA 17 40 (mL 22 262143) HT_ HW_ hHeld rfl rfl (by rintro w' ⟨s0, s1, s2, s3, s4, s5, s6, s7, s8, s9, s10, s11, s12, s13⟩; go_simp; with_reducible rfl) ?_
          refine one_ (i := 18) (N := some 41) (mL 22 524287) rfl rfl (one_of HT_.out KR) (by decide) (fun K hK => ?_)
          refine goes_ Tryz.func88 KR rfl #[.agg #[.string ((rd_TEntry l0_1 (ji16)).f0), .int .i64 ((rd_TEntry l0_1 (ji16)).f1), .bool ((rd_TEntry l0_1 (ji16)).f2), .slice A1000_3 ((rd_TEntry l0_1 (ji16)).f3).length c1000_3, .int .i64 ((rd_TEntry l0_1 (ji16)).f4), .int .i64 ((rd_TEntry l0_1 (ji16)).f5)], .string ((rd_TEntry l0_1 x18_2).f0), .int .i64 ((rd_TEntry l0_1 x18_2).f1)] (by rfl) rfl rfl (by (try simp only [List.map_toArray, List.map_cons, List.map_nil]); first | done | (simp only [hji16]; rfl) | rfl | (simp only [List.length_drop, List.length_take]; rfl)) ?_
          with_reducible refine (impl_compareEntry.calls k2 ((rd_TEntry l0_1 (ji16)).f0) ((rd_TEntry l0_1 (ji16)).f1) ((rd_TEntry l0_1 (ji16)).f2) _ _ ((rd_TEntry l0_1 (ji16)).f3) ((rd_TEntry l0_1 (ji16)).f4) ((rd_TEntry l0_1 (ji16)).f5) ((rd_TEntry l0_1 x18_2).f0) ((rd_TEntry l0_1 x18_2).f1) t1001 _ ?side1 ?side2 A19.out).mono ?_
          (case side1 => exact CW ((Kd.C_below HR1000_3.out HB.out)))
          (case side2 => exact HC1000_3.out)
          rintro e w27 ⟨rfl, hb⟩
          refine ⟨_, rfl, ?_⟩
          replace BK995 := KB BK995 hb
          replace BK998 := KB BK998 hb
          replace HB := BS hb
          (try clear hb)
          (try clear hb2)
          (try clear hk)
          (try clear hi)
          refine hK.out _ _ ⟨bc 0 BK995, bc 1 BK995, bc 0 BK998, bc 1 BK998, bc 2 BK998, bc 3 BK998, bc 4 BK998, bc 5 BK998, ((HB.out.cell (World.block_lt_of_cell? w _ hw1000_0)).trans hw1000_0), ((HB.out.cell (World.block_lt_of_cell? w _ hw1000_1)).trans hw1000_1), ((HB.out.cell (World.block_lt_of_cell? w _ hw1000_2)).trans hw1000_2), ((HB.out.cell (World.block_lt_of_cell? w _ hw1000_3)).trans hw1000_3), ((HB.out.cell (World.block_lt_of_cell? w _ hw1000_4)).trans hw1000_4), ((HB.out.cell (World.block_lt_of_cell? w _ hw1000_5)).trans hw1000_5)⟩ (fun hHeld => ?_)
          clear hK K
          refine nA ?_
          refine pA 19 42 (mL 22 1048575) HT_ rfl rfl ?_
          refine pA 20 43 (mL 22 2097151) HT_ rfl rfl ?_
          refine pA 21 44 (mL 22 4194303) HT_ rfl rfl ?_
          refine done_ (done_of HT_.out KR) ?_
          try go_wp2
          go_ret
          exact ⟨by first | rfl | (simp [errW_none, errW_some] <;> rfl) | (simp only [← hji16]; first | rfl | (simp [errW_none, errW_some] <;> rfl)) | (simp [*, errW_none, errW_some] <;> rfl), TB⟩
         ·rw [if_neg c20] at H
          have c20b0 : decide (0 ≤ t1001) = false := decide_eq_false c20
          clear c20
          have H' := Aside0.mk H
          clear H
          have p997 : 0 ≤ (x18_2 : Int) := TD
          have q997 : x18_2 < (l0_1.length : Int) := TD
          obtain ⟨ad997, A997_3, c997_3, e997, hx997_0, hx997_1, hx997_2, hx997_3, hx997_4, hx997_5, hl997_3, hi997_3⟩ := at_TEntry HR0_1.out x18_2 p997 q997
          have hw997_3 := hx997_3
          cases e997
          replace hx997_0 := hBc HB hx997_0
          replace hx997_1 := hBc HB hx997_1
          replace hx997_2 := hBc HB hx997_2
          replace hx997_3 := hBc HB hx997_3
          replace hx997_4 := hBc HB hx997_4
          replace hx997_5 := hBc HB hx997_5
          have HR997_3 := Aside0.mk hi997_3
          have HC997_3 := Aside0.mk hl997_3
          clear hi997_3 hl997_3
          replace p997 := eq_true p997
          replace q997 := eq_true q997
          try go_wp2_with (first | ((with_reducible refine gate_dst (N := 4) rfl ?_); (try (refine gate_guard (by rfl) ?_; dsimp only)); refine bE 4 #[.string (⟨#[]⟩ : ByteArray), .int .i64 0, .bool false, .slice none 0 0, .int .i64 0, .int .i64 0] 107 ?_; intro gb998 hg w28 hbox hb; have BK998 := Aside0.mk (hbox); have GE998 := bG hg; replace HB := BS hb; have NB995_998 := bN BK995 hg; have NB998_995 := bM BK995 hg; replace BK995 := KB BK995 hb; clear hb hbox hg; obtain ⟨hnb29, hnc29⟩ := nn NB998_995; have hcz30 := cz6 BK998))
          have n0_ : Aside0 (((((((w28.setCell ⟨gb998, 0, none⟩ (.string ((rd_TEntry l0_1 x18_2).f0))).setCell ⟨gb998, 1, none⟩ (.int .i64 ((rd_TEntry l0_1 x18_2).f1))).setCell ⟨gb998, 2, none⟩ (.bool ((rd_TEntry l0_1 x18_2).f2))).setCell ⟨gb998, 3, none⟩ (.slice A997_3 ((rd_TEntry l0_1 x18_2).f3).length c997_3)).setCell ⟨gb998, 4, none⟩ (.int .i64 ((rd_TEntry l0_1 x18_2).f4))).setCell ⟨gb998, 5, none⟩ (.int .i64 ((rd_TEntry l0_1 x18_2).f5))).heap[gb995]? = some (.cells #[.int .i64 a0_0, .slice (some ad997) l0_1.length c0_1] 54 (0, 0))) := ⟨TS⟩
          have n1_ : Aside0 (((((((w28.setCell ⟨gb998, 0, none⟩ (.string ((rd_TEntry l0_1 x18_2).f0))).setCell ⟨gb998, 1, none⟩ (.int .i64 ((rd_TEntry l0_1 x18_2).f1))).setCell ⟨gb998, 2, none⟩ (.bool ((rd_TEntry l0_1 x18_2).f2))).setCell ⟨gb998, 3, none⟩ (.slice A997_3 ((rd_TEntry l0_1 x18_2).f3).length c997_3)).setCell ⟨gb998, 4, none⟩ (.int .i64 ((rd_TEntry l0_1 x18_2).f4))).setCell ⟨gb998, 5, none⟩ (.int .i64 ((rd_TEntry l0_1 x18_2).f5))).heap[gb998]? = some (.cells #[.string ((rd_TEntry l0_1 x18_2).f0), .int .i64 ((rd_TEntry l0_1 x18_2).f1), .bool ((rd_TEntry l0_1 x18_2).f2), .slice A997_3 ((rd_TEntry l0_1 x18_2).f3).length c997_3, .int .i64 ((rd_TEntry l0_1 x18_2).f4), .int .i64 ((rd_TEntry l0_1 x18_2).f5)] 107 (0, 0))) := ⟨TS⟩
          have n2_ : Aside0 (Below w.heap.size w ((((((w28.setCell ⟨gb998, 0, none⟩ (.string ((rd_TEntry l0_1 x18_2).f0))).setCell ⟨gb998, 1, none⟩ (.int .i64 ((rd_TEntry l0_1 x18_2).f1))).setCell ⟨gb998, 2, none⟩ (.bool ((rd_TEntry l0_1 x18_2).f2))).setCell ⟨gb998, 3, none⟩ (.slice A997_3 ((rd_TEntry l0_1 x18_2).f3).length c997_3)).setCell ⟨gb998, 4, none⟩ (.int .i64 ((rd_TEntry l0_1 x18_2).f4))).setCell ⟨gb998, 5, none⟩ (.int .i64 ((rd_TEntry l0_1 x18_2).f5)))) := ⟨TB⟩
          (try clear BK995)
          (try clear BK998)
          (try clear HB)
          generalize ((((((w28.setCell ⟨gb998, 0, none⟩ (.string ((rd_TEntry l0_1 x18_2).f0))).setCell ⟨gb998, 1, none⟩ (.int .i64 ((rd_TEntry l0_1 x18_2).f1))).setCell ⟨gb998, 2, none⟩ (.bool ((rd_TEntry l0_1 x18_2).f2))).setCell ⟨gb998, 3, none⟩ (.slice A997_3 ((rd_TEntry l0_1 x18_2).f3).length c997_3)).setCell ⟨gb998, 4, none⟩ (.int .i64 ((rd_TEntry l0_1 x18_2).f4))).setCell ⟨gb998, 5, none⟩ (.int .i64 ((rd_TEntry l0_1 x18_2).f5))) = w31 at n0_ n1_ n2_ ⊢
          have BK995 := n0_
          have BK998 := n1_
          have HB := n2_
          clear n0_ n1_ n2_
          replace BK995 := Aside0.mk (blk_drew BK995.out)
          replace BK998 := Aside0.mk (blk_drew BK998.out)
          replace HB := Aside0.mk (below_drew1 HB.out)
          have p1000 : 0 ≤ ((ji16) : Int) := TD
          have q1000 : (ji16) < (l0_1.length : Int) := TD
          obtain ⟨ad1000, A1000_3, c1000_3, e1000, hx1000_0, hx1000_1, hx1000_2, hx1000_3, hx1000_4, hx1000_5, hl1000_3, hi1000_3⟩ := at_TEntry HR0_1.out (ji16) p1000 q1000
          have hw1000_5 := hx1000_5
          have hw1000_4 := hx1000_4
          have hw1000_3 := hx1000_3
          have hw1000_2 := hx1000_2
          have hw1000_1 := hx1000_1
          have hw1000_0 := hx1000_0
          obtain rfl : ad997 = ad1000 := (by injection e1000)
          replace hx1000_0 := hBc HB hx1000_0
          replace hx1000_1 := hBc HB hx1000_1
          replace hx1000_2 := hBc HB hx1000_2
          replace hx1000_3 := hBc HB hx1000_3
          replace hx1000_4 := hBc HB hx1000_4
          replace hx1000_5 := hBc HB hx1000_5
          have HR1000_3 := Aside0.mk hi1000_3
          have HC1000_3 := Aside0.mk hl1000_3
          clear hi1000_3 hl1000_3
          replace p1000 := eq_true p1000
          replace q1000 := eq_true q1000
          refine start_ (n := 22) (S := fun w' => w'.cell? ⟨gb995, 0, none⟩ = some (.int .i64 a0_0) ∧ w'.cell? ⟨gb995, 1, none⟩ = some (.slice (some ad997) l0_1.length c0_1) ∧ w'.cell? ⟨gb998, 0, none⟩ = some (.string ((rd_TEntry l0_1 x18_2).f0)) ∧ w'.cell? ⟨gb998, 1, none⟩ = some (.int .i64 ((rd_TEntry l0_1 x18_2).f1)) ∧ w'.cell? ⟨gb998, 2, none⟩ = some (.bool ((rd_TEntry l0_1 x18_2).f2)) ∧ w'.cell? ⟨gb998, 3, none⟩ = some (.slice A997_3 ((rd_TEntry l0_1 x18_2).f3).length c997_3) ∧ w'.cell? ⟨gb998, 4, none⟩ = some (.int .i64 ((rd_TEntry l0_1 x18_2).f4)) ∧ w'.cell? ⟨gb998, 5, none⟩ = some (.int .i64 ((rd_TEntry l0_1 x18_2).f5)) ∧ w'.cell? (ad997.add (((ji16)).toNat * 6)) = some (.string ((rd_TEntry l0_1 (ji16)).f0)) ∧ w'.cell? ⟨(ad997.add (((ji16)).toNat * 6)).block, (ad997.add (((ji16)).toNat * 6)).off + 1, none⟩ = some (.int .i64 ((rd_TEntry l0_1 (ji16)).f1)) ∧ w'.cell? ⟨(ad997.add (((ji16)).toNat * 6)).block, (ad997.add (((ji16)).toNat * 6)).off + 2, none⟩ = some (.bool ((rd_TEntry l0_1 (ji16)).f2)) ∧ w'.cell? ⟨(ad997.add (((ji16)).toNat * 6)).block, (ad997.add (((ji16)).toNat * 6)).off + 3, none⟩ = some (.slice A1000_3 ((rd_TEntry l0_1 (ji16)).f3).length c1000_3) ∧ w'.cell? ⟨(ad997.add (((ji16)).toNat * 6)).block, (ad997.add (((ji16)).toNat * 6)).off + 4, none⟩ = some (.int .i64 ((rd_TEntry l0_1 (ji16)).f4)) ∧ w'.cell? ⟨(ad997.add (((ji16)).toNat * 6)).block, (ad997.add (((ji16)).toNat * 6)).off + 5, none⟩ = some (.int .i64 ((rd_TEntry l0_1 (ji16)).f5))) (ds := []) #[false, false, false, false, false, false, false, false, false, false, false, false, false, false, false, false, false, false, false, false, false, false] KR rfl rfl ⟨bc 0 BK995, bc 1 BK995, bc 0 BK998, bc 1 BK998, bc 2 BK998, bc 3 BK998, bc 4 BK998, bc 5 BK998, ((HB.out.cell (World.block_lt_of_cell? w _ hw1000_0)).trans hw1000_0), ((HB.out.cell (World.block_lt_of_cell? w _ hw1000_1)).trans hw1000_1), ((HB.out.cell (World.block_lt_of_cell? w _ hw1000_2)).trans hw1000_2), ((HB.out.cell (World.block_lt_of_cell? w _ hw1000_3)).trans hw1000_3), ((HB.out.cell (World.block_lt_of_cell? w _ hw1000_4)).trans hw1000_4), ((HB.out.cell (World.block_lt_of_cell? w _ hw1000_5)).trans hw1000_5)⟩ (fun hHeld => ?_); refine with_tabW impl_GoodCache.tab6 impl_GoodCache.bits6 (fun HT_ HW_ => ?_)
          generalize w31.drew = w32 at BK995 BK998 HB HR1000_3 hx1000_0 hx1000_1 hx1000_2 hx1000_3 hx1000_4 hx1000_5 hHeld ⊢
          refine tA 0 23 (mL 22 1) HT_ HW_ hHeld rfl rfl (by rintro w' ⟨s0, s1, s2, s3, s4, s5, s6, s7, s8, s9, s10, s11, s12, s13⟩; go_simp; with_reducible rfl) ?_
          refine tA 1 24 (mL 22 3) HT_ HW_ hHeld rfl rfl (by rintro w' ⟨s0, s1, s2, s3, s4, s5, s6, s7, s8, s9, s10, s11, s12, s13⟩; go_simp; with_reducible rfl) ?_
          refine one_ (i := 2) (N := some 25) (mL 22 7) rfl rfl (one_of HT_.out KR) (by decide) (fun K hK => ?_)
          refine goes_ Tryz.func87 KR rfl #[.agg #[.int .i64 a0_0, .slice (some ad997) l0_1.length c0_1], .agg #[.string ((rd_TEntry l0_1 x18_2).f0), .int .i64 ((rd_TEntry l0_1 x18_2).f1), .bool ((rd_TEntry l0_1 x18_2).f2), .slice A997_3 ((rd_TEntry l0_1 x18_2).f3).length c997_3, .int .i64 ((rd_TEntry l0_1 x18_2).f4), .int .i64 ((rd_TEntry l0_1 x18_2).f5)]] (by rfl) rfl rfl TA ?_
          with_reducible refine (impl_isEntry.calls k2 a0_0 _ _ l0_1 ((rd_TEntry l0_1 x18_2).f0) ((rd_TEntry l0_1 x18_2).f1) ((rd_TEntry l0_1 x18_2).f2) _ _ ((rd_TEntry l0_1 x18_2).f3) ((rd_TEntry l0_1 x18_2).f4) ((rd_TEntry l0_1 x18_2).f5) true _ ?side1 ?side2 ?side3 ?side4 ?side5 A13.out).mono ?_
          (case side1 => exact CW ((Kd.C_below HR0_1.out HB.out)))
          (case side2 => exact HC0_1.out)
          (case side3 => exact CW ((Kd.C_below HR997_3.out HB.out)))
          (case side4 => exact HC997_3.out)
          (case side5 => exact GW HGL)
          rintro e w33 ⟨rfl, hb⟩
          refine ⟨_, rfl, ?_⟩
          replace BK995 := KB BK995 hb
          replace BK998 := KB BK998 hb
          replace HB := BS hb
          (try clear hb)
          (try clear hb2)
          (try clear hk)
          (try clear hi)
          refine hK.out _ _ ⟨bc 0 BK995, bc 1 BK995, bc 0 BK998, bc 1 BK998, bc 2 BK998, bc 3 BK998, bc 4 BK998, bc 5 BK998, ((HB.out.cell (World.block_lt_of_cell? w _ hw1000_0)).trans hw1000_0), ((HB.out.cell (World.block_lt_of_cell? w _ hw1000_1)).trans hw1000_1), ((HB.out.cell (World.block_lt_of_cell? w _ hw1000_2)).trans hw1000_2), ((HB.out.cell (World.block_lt_of_cell? w _ hw1000_3)).trans hw1000_3), ((HB.out.cell (World.block_lt_of_cell? w _ hw1000_4)).trans hw1000_4), ((HB.out.cell (World.block_lt_of_cell? w _ hw1000_5)).trans hw1000_5)⟩ (fun hHeld => ?_)
          clear hK K
          refine nA ?_
          refine pA 3 26 (mL 22 15) HT_ rfl rfl ?_
          refine pA 4 27 (mL 22 31) HT_ rfl rfl ?_
          refine pA 5 28 (mL 22 63) HT_ rfl rfl ?_
          refine pA 6 29 (mL 22 127) HT_ rfl rfl ?_
          refine pA 7 30 (mL 22 255) HT_ rfl rfl ?_
          refine pA 8 31 (mL 22 511) HT_ rfl rfl ?_
          refine pA 10 33 (mL 22 1535) HT_ rfl rfl ?_
          refine pA 11 34 (mL 22 3583) HT_ rfl rfl ?_
          refine pA 14 37 (mL 22 19967) HT_ rfl rfl ?_
          refine pA 16 39 (mL 22 85503) HT_ rfl rfl ?_
          refine tA 9 32 (mL 22 86015) HT_ HW_ hHeld rfl rfl (by rintro w' ⟨s0, s1, s2, s3, s4, s5, s6, s7, s8, s9, s10, s11, s12, s13⟩; go_simp; with_reducible rfl) ?_
          refine pA 12 35 (mL 22 90111) HT_ rfl rfl ?_
          refine tA 13 36 (mL 22 98303) HT_ HW_ hHeld rfl rfl (by rintro w' ⟨s0, s1, s2, s3, s4, s5, s6, s7, s8, s9, s10, s11, s12, s13⟩; go_simp; with_reducible rfl) ?_
          refine tA 15 38 (mL 22 131071) HT_ HW_ hHeld rfl rfl (by rintro w' ⟨s0, s1, s2, s3, s4, s5, s6, s7, s8, s9, s10, s11, s12, s13⟩; go_simp; with_reducible rfl) ?_
          refine tA 17 40 (mL 22 262143) HT_ HW_ hHeld rfl rfl (by rintro w' ⟨s0, s1, s2, s3, s4, s5, s6, s7, s8, s9, s10, s11, s12, s13⟩; go_simp; with_reducible rfl) ?_
          refine one_ (i := 18) (N := some 41) (mL 22 524287) rfl rfl (one_of HT_.out KR) (by decide) (fun K hK => ?_)
          refine goes_ Tryz.func88 KR rfl #[.agg #[.string ((rd_TEntry l0_1 (ji16)).f0), .int .i64 ((rd_TEntry l0_1 (ji16)).f1), .bool ((rd_TEntry l0_1 (ji16)).f2), .slice A1000_3 ((rd_TEntry l0_1 (ji16)).f3).length c1000_3, .int .i64 ((rd_TEntry l0_1 (ji16)).f4), .int .i64 ((rd_TEntry l0_1 (ji16)).f5)], .string ((rd_TEntry l0_1 x18_2).f0), .int .i64 ((rd_TEntry l0_1 x18_2).f1)] (by rfl) rfl rfl (by (try simp only [List.map_toArray, List.map_cons, List.map_nil]); first | done | (simp only [hji16]; rfl) | rfl | (simp only [List.length_drop, List.length_take]; rfl)) ?_
          with_reducible refine (impl_compareEntry.calls k2 ((rd_TEntry l0_1 (ji16)).f0) ((rd_TEntry l0_1 (ji16)).f1) ((rd_TEntry l0_1 (ji16)).f2) _ _ ((rd_TEntry l0_1 (ji16)).f3) ((rd_TEntry l0_1 (ji16)).f4) ((rd_TEntry l0_1 (ji16)).f5) ((rd_TEntry l0_1 x18_2).f0) ((rd_TEntry l0_1 x18_2).f1) t1001 _ ?side1 ?side2 A19.out).mono ?_
          (case side1 => exact CW ((Kd.C_below HR1000_3.out HB.out)))
          (case side2 => exact HC1000_3.out)
          rintro e w34 ⟨rfl, hb⟩
          refine ⟨_, rfl, ?_⟩
          replace BK995 := KB BK995 hb
          replace BK998 := KB BK998 hb
          replace HB := BS hb
          (try clear hb)
          (try clear hb2)
          (try clear hk)
          (try clear hi)
          refine hK.out _ _ ⟨bc 0 BK995, bc 1 BK995, bc 0 BK998, bc 1 BK998, bc 2 BK998, bc 3 BK998, bc 4 BK998, bc 5 BK998, ((HB.out.cell (World.block_lt_of_cell? w _ hw1000_0)).trans hw1000_0), ((HB.out.cell (World.block_lt_of_cell? w _ hw1000_1)).trans hw1000_1), ((HB.out.cell (World.block_lt_of_cell? w _ hw1000_2)).trans hw1000_2), ((HB.out.cell (World.block_lt_of_cell? w _ hw1000_3)).trans hw1000_3), ((HB.out.cell (World.block_lt_of_cell? w _ hw1000_4)).trans hw1000_4), ((HB.out.cell (World.block_lt_of_cell? w _ hw1000_5)).trans hw1000_5)⟩ (fun hHeld => ?_)
          clear hK K
          refine nA ?_
          refine pA 19 42 (mL 22 1048575) HT_ rfl rfl ?_
          refine pA 20 43 (mL 22 2097151) HT_ rfl rfl ?_
          refine pA 21 44 (mL 22 4194303) HT_ rfl rfl ?_
          refine done_ (done_of HT_.out KR) ?_
          try go_wp2
          go_roundg k2
          case measure => have := HJ1.out; have := HK2.out; omega
          case rel => exact ⟨(wrap64 (x18_2 + 1)), TF, H', ⟨by have := HJ1.out; have := HK2.out; omega⟩, KW BK995, ⟨TB⟩⟩
        ·rw [if_neg c15] at H
         have c15b0 : decide (0 < x18_2) = false := decide_eq_false c15
         clear c15
         have H' := Aside0.mk H
         clear H
         have p997 : 0 ≤ (x18_2 : Int) := TD
         have q997 : x18_2 < (l0_1.length : Int) := TD
         obtain ⟨ad997, A997_3, c997_3, e997, hx997_0, hx997_1, hx997_2, hx997_3, hx997_4, hx997_5, hl997_3, hi997_3⟩ := at_TEntry HR0_1.out x18_2 p997 q997
         have hw997_3 := hx997_3
         cases e997
         replace hx997_0 := hBc HB hx997_0
         replace hx997_1 := hBc HB hx997_1
         replace hx997_2 := hBc HB hx997_2
         replace hx997_3 := hBc HB hx997_3
         replace hx997_4 := hBc HB hx997_4
         replace hx997_5 := hBc HB hx997_5
         have HR997_3 := Aside0.mk hi997_3
         have HC997_3 := Aside0.mk hl997_3
         clear hi997_3 hl997_3
         replace p997 := eq_true p997
         replace q997 := eq_true q997
         try go_wp2_with (first | ((with_reducible refine gate_dst (N := 4) rfl ?_); (try (refine gate_guard (by rfl) ?_; dsimp only)); refine bE 4 #[.string (⟨#[]⟩ : ByteArray), .int .i64 0, .bool false, .slice none 0 0, .int .i64 0, .int .i64 0] 107 ?_; intro gb998 hg w35 hbox hb; have BK998 := Aside0.mk (hbox); have GE998 := bG hg; replace HB := BS hb; have NB995_998 := bN BK995 hg; have NB998_995 := bM BK995 hg; replace BK995 := KB BK995 hb; clear hb hbox hg; obtain ⟨hnb36, hnc36⟩ := nn NB998_995; have hcz37 := cz6 BK998))
         have n0_ : Aside0 (((((((w35.setCell ⟨gb998, 0, none⟩ (.string ((rd_TEntry l0_1 x18_2).f0))).setCell ⟨gb998, 1, none⟩ (.int .i64 ((rd_TEntry l0_1 x18_2).f1))).setCell ⟨gb998, 2, none⟩ (.bool ((rd_TEntry l0_1 x18_2).f2))).setCell ⟨gb998, 3, none⟩ (.slice A997_3 ((rd_TEntry l0_1 x18_2).f3).length c997_3)).setCell ⟨gb998, 4, none⟩ (.int .i64 ((rd_TEntry l0_1 x18_2).f4))).setCell ⟨gb998, 5, none⟩ (.int .i64 ((rd_TEntry l0_1 x18_2).f5))).heap[gb995]? = some (.cells #[.int .i64 a0_0, .slice (some ad997) l0_1.length c0_1] 54 (0, 0))) := ⟨TS⟩
         have n1_ : Aside0 (((((((w35.setCell ⟨gb998, 0, none⟩ (.string ((rd_TEntry l0_1 x18_2).f0))).setCell ⟨gb998, 1, none⟩ (.int .i64 ((rd_TEntry l0_1 x18_2).f1))).setCell ⟨gb998, 2, none⟩ (.bool ((rd_TEntry l0_1 x18_2).f2))).setCell ⟨gb998, 3, none⟩ (.slice A997_3 ((rd_TEntry l0_1 x18_2).f3).length c997_3)).setCell ⟨gb998, 4, none⟩ (.int .i64 ((rd_TEntry l0_1 x18_2).f4))).setCell ⟨gb998, 5, none⟩ (.int .i64 ((rd_TEntry l0_1 x18_2).f5))).heap[gb998]? = some (.cells #[.string ((rd_TEntry l0_1 x18_2).f0), .int .i64 ((rd_TEntry l0_1 x18_2).f1), .bool ((rd_TEntry l0_1 x18_2).f2), .slice A997_3 ((rd_TEntry l0_1 x18_2).f3).length c997_3, .int .i64 ((rd_TEntry l0_1 x18_2).f4), .int .i64 ((rd_TEntry l0_1 x18_2).f5)] 107 (0, 0))) := ⟨TS⟩
         have n2_ : Aside0 (Below w.heap.size w ((((((w35.setCell ⟨gb998, 0, none⟩ (.string ((rd_TEntry l0_1 x18_2).f0))).setCell ⟨gb998, 1, none⟩ (.int .i64 ((rd_TEntry l0_1 x18_2).f1))).setCell ⟨gb998, 2, none⟩ (.bool ((rd_TEntry l0_1 x18_2).f2))).setCell ⟨gb998, 3, none⟩ (.slice A997_3 ((rd_TEntry l0_1 x18_2).f3).length c997_3)).setCell ⟨gb998, 4, none⟩ (.int .i64 ((rd_TEntry l0_1 x18_2).f4))).setCell ⟨gb998, 5, none⟩ (.int .i64 ((rd_TEntry l0_1 x18_2).f5)))) := ⟨TB⟩
         (try clear BK995)
         (try clear BK998)
         (try clear HB)
         generalize ((((((w35.setCell ⟨gb998, 0, none⟩ (.string ((rd_TEntry l0_1 x18_2).f0))).setCell ⟨gb998, 1, none⟩ (.int .i64 ((rd_TEntry l0_1 x18_2).f1))).setCell ⟨gb998, 2, none⟩ (.bool ((rd_TEntry l0_1 x18_2).f2))).setCell ⟨gb998, 3, none⟩ (.slice A997_3 ((rd_TEntry l0_1 x18_2).f3).length c997_3)).setCell ⟨gb998, 4, none⟩ (.int .i64 ((rd_TEntry l0_1 x18_2).f4))).setCell ⟨gb998, 5, none⟩ (.int .i64 ((rd_TEntry l0_1 x18_2).f5))) = w38 at n0_ n1_ n2_ ⊢
         have BK995 := n0_
         have BK998 := n1_
         have HB := n2_
         clear n0_ n1_ n2_
         replace BK995 := Aside0.mk (blk_drew BK995.out)
         replace BK998 := Aside0.mk (blk_drew BK998.out)
         replace HB := Aside0.mk (below_drew1 HB.out)
         refine start_ (n := 22) (S := fun w' => w'.cell? ⟨gb995, 0, none⟩ = some (.int .i64 a0_0) ∧ w'.cell? ⟨gb995, 1, none⟩ = some (.slice (some ad997) l0_1.length c0_1) ∧ w'.cell? ⟨gb998, 0, none⟩ = some (.string ((rd_TEntry l0_1 x18_2).f0)) ∧ w'.cell? ⟨gb998, 1, none⟩ = some (.int .i64 ((rd_TEntry l0_1 x18_2).f1)) ∧ w'.cell? ⟨gb998, 2, none⟩ = some (.bool ((rd_TEntry l0_1 x18_2).f2)) ∧ w'.cell? ⟨gb998, 3, none⟩ = some (.slice A997_3 ((rd_TEntry l0_1 x18_2).f3).length c997_3) ∧ w'.cell? ⟨gb998, 4, none⟩ = some (.int .i64 ((rd_TEntry l0_1 x18_2).f4)) ∧ w'.cell? ⟨gb998, 5, none⟩ = some (.int .i64 ((rd_TEntry l0_1 x18_2).f5))) (ds := []) #[false, false, false, false, false, false, false, false, false, false, false, false, false, false, false, false, false, false, false, false, false, false] KR rfl rfl ⟨bc 0 BK995, bc 1 BK995, bc 0 BK998, bc 1 BK998, bc 2 BK998, bc 3 BK998, bc 4 BK998, bc 5 BK998⟩ (fun hHeld => ?_); refine with_tabW impl_GoodCache.tab6 impl_GoodCache.bits6 (fun HT_ HW_ => ?_)
         generalize w38.drew = w39 at BK995 BK998 HB hHeld ⊢
         refine tA 0 23 (mL 22 1) HT_ HW_ hHeld rfl rfl (by rintro w' ⟨s0, s1, s2, s3, s4, s5, s6, s7⟩; go_simp; with_reducible rfl) ?_
         refine tA 1 24 (mL 22 3) HT_ HW_ hHeld rfl rfl (by rintro w' ⟨s0, s1, s2, s3, s4, s5, s6, s7⟩; go_simp; with_reducible rfl) ?_
         refine one_ (i := 2) (N := some 25) (mL 22 7) rfl rfl (one_of HT_.out KR) (by decide) (fun K hK => ?_)
         refine goes_ Tryz.func87 KR rfl #[.agg #[.int .i64 a0_0, .slice (some ad997) l0_1.length c0_1], .agg #[.string ((rd_TEntry l0_1 x18_2).f0), .int .i64 ((rd_TEntry l0_1 x18_2).f1), .bool ((rd_TEntry l0_1 x18_2).f2), .slice A997_3 ((rd_TEntry l0_1 x18_2).f3).length c997_3, .int .i64 ((rd_TEntry l0_1 x18_2).f4), .int .i64 ((rd_TEntry l0_1 x18_2).f5)]] (by rfl) rfl rfl TA ?_
         with_reducible refine (impl_isEntry.calls k2 a0_0 _ _ l0_1 ((rd_TEntry l0_1 x18_2).f0) ((rd_TEntry l0_1 x18_2).f1) ((rd_TEntry l0_1 x18_2).f2) _ _ ((rd_TEntry l0_1 x18_2).f3) ((rd_TEntry l0_1 x18_2).f4) ((rd_TEntry l0_1 x18_2).f5) true _ ?side1 ?side2 ?side3 ?side4 ?side5 A13.out).mono ?_
         (case side1 => exact CW ((Kd.C_below HR0_1.out HB.out)))
         (case side2 => exact HC0_1.out)
         (case side3 => exact CW ((Kd.C_below HR997_3.out HB.out)))
         (case side4 => exact HC997_3.out)
         (case side5 => exact GW HGL)
         rintro e w40 ⟨rfl, hb⟩
         refine ⟨_, rfl, ?_⟩
         replace BK995 := KB BK995 hb
         replace BK998 := KB BK998 hb
         replace HB := BS hb
         (try clear hb)
         (try clear hb2)
         (try clear hk)
         (try clear hi)
         refine hK.out _ _ ⟨bc 0 BK995, bc 1 BK995, bc 0 BK998, bc 1 BK998, bc 2 BK998, bc 3 BK998, bc 4 BK998, bc 5 BK998⟩ (fun hHeld => ?_)
         clear hK K
         refine nA ?_
         refine pA 3 26 (mL 22 15) HT_ rfl rfl ?_
         refine pA 4 27 (mL 22 31) HT_ rfl rfl ?_
         refine pA 5 28 (mL 22 63) HT_ rfl rfl ?_
         refine pA 6 29 (mL 22 127) HT_ rfl rfl ?_
         refine pA 7 30 (mL 22 255) HT_ rfl rfl ?_
         refine pU 8 31 (mL 22 511) HT_ rfl rfl ?_
         refine pU 9 32 (mL 22 1023) HT_ rfl rfl ?_
         refine pU 10 33 (mL 22 2047) HT_ rfl rfl ?_
         refine pU 11 34 (mL 22 4095) HT_ rfl rfl ?_
         refine pU 12 35 (mL 22 8191) HT_ rfl rfl ?_
         refine pU 13 36 (mL 22 16383) HT_ rfl rfl ?_
         refine pU 14 37 (mL 22 32767) HT_ rfl rfl ?_
         refine pU 15 38 (mL 22 65535) HT_ rfl rfl ?_
         refine pU 16 39 (mL 22 131071) HT_ rfl rfl ?_
         refine pU 17 40 (mL 22 262143) HT_ rfl rfl ?_
         refine pU 18 41 (mL 22 524287) HT_ rfl rfl ?_
         refine pU 19 42 (mL 22 1048575) HT_ rfl rfl ?_
         refine pA 20 43 (mL 22 2097151) HT_ rfl rfl ?_
         refine pA 21 44 (mL 22 4194303) HT_ rfl rfl ?_
         refine done_ (done_of HT_.out KR) ?_
         try go_wp2
         go_roundg k2
         case measure => have := HJ1.out; have := HK2.out; omega
         case rel => exact ⟨(wrap64 (x18_2 + 1)), TF, H', ⟨by have := HJ1.out; have := HK2.out; omega⟩, KW BK995, ⟨TB⟩⟩
       ·replace c14 := Bool.eq_false_iff.mpr c14
        subst c14
        replace H := iff' H
        obtain rfl := Option.some.inj H
        have p997 : 0 ≤ (x18_2 : Int) := TD
        have q997 : x18_2 < (l0_1.length : Int) := TD
        obtain ⟨ad997, A997_3, c997_3, e997, hx997_0, hx997_1, hx997_2, hx997_3, hx997_4, hx997_5, hl997_3, hi997_3⟩ := at_TEntry HR0_1.out x18_2 p997 q997
        have hw997_3 := hx997_3
        cases e997
        replace hx997_0 := hBc HB hx997_0
        replace hx997_1 := hBc HB hx997_1
        replace hx997_2 := hBc HB hx997_2
        replace hx997_3 := hBc HB hx997_3
        replace hx997_4 := hBc HB hx997_4
        replace hx997_5 := hBc HB hx997_5
        have HR997_3 := Aside0.mk hi997_3
        have HC997_3 := Aside0.mk hl997_3
        clear hi997_3 hl997_3
        replace p997 := eq_true p997
        replace q997 := eq_true q997
        try go_wp2_with (first | ((with_reducible refine gate_dst (N := 4) rfl ?_); (try (refine gate_guard (by rfl) ?_; dsimp only)); refine bE 4 #[.string (⟨#[]⟩ : ByteArray), .int .i64 0, .bool false, .slice none 0 0, .int .i64 0, .int .i64 0] 107 ?_; intro gb998 hg w41 hbox hb; have BK998 := Aside0.mk (hbox); have GE998 := bG hg; replace HB := BS hb; have NB995_998 := bN BK995 hg; have NB998_995 := bM BK995 hg; replace BK995 := KB BK995 hb; clear hb hbox hg; obtain ⟨hnb42, hnc42⟩ := nn NB998_995; have hcz43 := cz6 BK998))
        have n0_ : Aside0 (((((((w41.setCell ⟨gb998, 0, none⟩ (.string ((rd_TEntry l0_1 x18_2).f0))).setCell ⟨gb998, 1, none⟩ (.int .i64 ((rd_TEntry l0_1 x18_2).f1))).setCell ⟨gb998, 2, none⟩ (.bool ((rd_TEntry l0_1 x18_2).f2))).setCell ⟨gb998, 3, none⟩ (.slice A997_3 ((rd_TEntry l0_1 x18_2).f3).length c997_3)).setCell ⟨gb998, 4, none⟩ (.int .i64 ((rd_TEntry l0_1 x18_2).f4))).setCell ⟨gb998, 5, none⟩ (.int .i64 ((rd_TEntry l0_1 x18_2).f5))).heap[gb995]? = some (.cells #[.int .i64 a0_0, .slice (some ad997) l0_1.length c0_1] 54 (0, 0))) := ⟨TS⟩
        have n1_ : Aside0 (((((((w41.setCell ⟨gb998, 0, none⟩ (.string ((rd_TEntry l0_1 x18_2).f0))).setCell ⟨gb998, 1, none⟩ (.int .i64 ((rd_TEntry l0_1 x18_2).f1))).setCell ⟨gb998, 2, none⟩ (.bool ((rd_TEntry l0_1 x18_2).f2))).setCell ⟨gb998, 3, none⟩ (.slice A997_3 ((rd_TEntry l0_1 x18_2).f3).length c997_3)).setCell ⟨gb998, 4, none⟩ (.int .i64 ((rd_TEntry l0_1 x18_2).f4))).setCell ⟨gb998, 5, none⟩ (.int .i64 ((rd_TEntry l0_1 x18_2).f5))).heap[gb998]? = some (.cells #[.string ((rd_TEntry l0_1 x18_2).f0), .int .i64 ((rd_TEntry l0_1 x18_2).f1), .bool ((rd_TEntry l0_1 x18_2).f2), .slice A997_3 ((rd_TEntry l0_1 x18_2).f3).length c997_3, .int .i64 ((rd_TEntry l0_1 x18_2).f4), .int .i64 ((rd_TEntry l0_1 x18_2).f5)] 107 (0, 0))) := ⟨TS⟩
        have n2_ : Aside0 (Below w.heap.size w ((((((w41.setCell ⟨gb998, 0, none⟩ (.string ((rd_TEntry l0_1 x18_2).f0))).setCell ⟨gb998, 1, none⟩ (.int .i64 ((rd_TEntry l0_1 x18_2).f1))).setCell ⟨gb998, 2, none⟩ (.bool ((rd_TEntry l0_1 x18_2).f2))).setCell ⟨gb998, 3, none⟩ (.slice A997_3 ((rd_TEntry l0_1 x18_2).f3).length c997_3)).setCell ⟨gb998, 4, none⟩ (.int .i64 ((rd_TEntry l0_1 x18_2).f4))).setCell ⟨gb998, 5, none⟩ (.int .i64 ((rd_TEntry l0_1 x18_2).f5)))) := ⟨TB⟩
        (try clear BK995)
        (try clear BK998)
        (try clear HB)
        generalize ((((((w41.setCell ⟨gb998, 0, none⟩ (.string ((rd_TEntry l0_1 x18_2).f0))).setCell ⟨gb998, 1, none⟩ (.int .i64 ((rd_TEntry l0_1 x18_2).f1))).setCell ⟨gb998, 2, none⟩ (.bool ((rd_TEntry l0_1 x18_2).f2))).setCell ⟨gb998, 3, none⟩ (.slice A997_3 ((rd_TEntry l0_1 x18_2).f3).length c997_3)).setCell ⟨gb998, 4, none⟩ (.int .i64 ((rd_TEntry l0_1 x18_2).f4))).setCell ⟨gb998, 5, none⟩ (.int .i64 ((rd_TEntry l0_1 x18_2).f5))) = w44 at n0_ n1_ n2_ ⊢
        have BK995 := n0_
        have BK998 := n1_
        have HB := n2_
        clear n0_ n1_ n2_
        replace BK995 := Aside0.mk (blk_drew BK995.out)
        replace BK998 := Aside0.mk (blk_drew BK998.out)
        replace HB := Aside0.mk (below_drew1 HB.out)
        refine start_ (n := 22) (S := fun w' => w'.cell? ⟨gb995, 0, none⟩ = some (.int .i64 a0_0) ∧ w'.cell? ⟨gb995, 1, none⟩ = some (.slice (some ad997) l0_1.length c0_1) ∧ w'.cell? ⟨gb998, 0, none⟩ = some (.string ((rd_TEntry l0_1 x18_2).f0)) ∧ w'.cell? ⟨gb998, 1, none⟩ = some (.int .i64 ((rd_TEntry l0_1 x18_2).f1)) ∧ w'.cell? ⟨gb998, 2, none⟩ = some (.bool ((rd_TEntry l0_1 x18_2).f2)) ∧ w'.cell? ⟨gb998, 3, none⟩ = some (.slice A997_3 ((rd_TEntry l0_1 x18_2).f3).length c997_3) ∧ w'.cell? ⟨gb998, 4, none⟩ = some (.int .i64 ((rd_TEntry l0_1 x18_2).f4)) ∧ w'.cell? ⟨gb998, 5, none⟩ = some (.int .i64 ((rd_TEntry l0_1 x18_2).f5))) (ds := []) #[false, false, false, false, false, false, false, false, false, false, false, false, false, false, false, false, false, false, false, false, false, false] KR rfl rfl ⟨bc 0 BK995, bc 1 BK995, bc 0 BK998, bc 1 BK998, bc 2 BK998, bc 3 BK998, bc 4 BK998, bc 5 BK998⟩ (fun hHeld => ?_); refine with_tabW impl_GoodCache.tab6 impl_GoodCache.bits6 (fun HT_ HW_ => ?_)
        generalize w44.drew = w45 at BK995 BK998 HB hHeld ⊢
        refine tA 0 23 (mL 22 1) HT_ HW_ hHeld rfl rfl (by rintro w' ⟨s0, s1, s2, s3, s4, s5, s6, s7⟩; go_simp; with_reducible rfl) ?_
        refine tA 1 24 (mL 22 3) HT_ HW_ hHeld rfl rfl (by rintro w' ⟨s0, s1, s2, s3, s4, s5, s6, s7⟩; go_simp; with_reducible rfl) ?_
        refine one_ (i := 2) (N := some 25) (mL 22 7) rfl rfl (one_of HT_.out KR) (by decide) (fun K hK => ?_)
        refine goes_ Tryz.func87 KR rfl #[.agg #[.int .i64 a0_0, .slice (some ad997) l0_1.length c0_1], .agg #[.string ((rd_TEntry l0_1 x18_2).f0), .int .i64 ((rd_TEntry l0_1 x18_2).f1), .bool ((rd_TEntry l0_1 x18_2).f2), .slice A997_3 ((rd_TEntry l0_1 x18_2).f3).length c997_3, .int .i64 ((rd_TEntry l0_1 x18_2).f4), .int .i64 ((rd_TEntry l0_1 x18_2).f5)]] (by rfl) rfl rfl TA ?_
        with_reducible refine (impl_isEntry.calls k2 a0_0 _ _ l0_1 ((rd_TEntry l0_1 x18_2).f0) ((rd_TEntry l0_1 x18_2).f1) ((rd_TEntry l0_1 x18_2).f2) _ _ ((rd_TEntry l0_1 x18_2).f3) ((rd_TEntry l0_1 x18_2).f4) ((rd_TEntry l0_1 x18_2).f5) false _ ?side1 ?side2 ?side3 ?side4 ?side5 A13.out).mono ?_
        (case side1 => exact CW ((Kd.C_below HR0_1.out HB.out)))
        (case side2 => exact HC0_1.out)
        (case side3 => exact CW ((Kd.C_below HR997_3.out HB.out)))
        (case side4 => exact HC997_3.out)
        (case side5 => exact GW HGL)
        rintro e w46 ⟨rfl, hb⟩
        refine ⟨_, rfl, ?_⟩
        replace BK995 := KB BK995 hb
        replace BK998 := KB BK998 hb
        replace HB := BS hb
        (try clear hb)
        (try clear hb2)
        (try clear hk)
        (try clear hi)
        refine hK.out _ _ ⟨bc 0 BK995, bc 1 BK995, bc 0 BK998, bc 1 BK998, bc 2 BK998, bc 3 BK998, bc 4 BK998, bc 5 BK998⟩ (fun hHeld => ?_)
        clear hK K
        refine nA ?_
        refine pA 3 26 (mL 22 15) HT_ rfl rfl ?_
        refine pA 4 27 (mL 22 31) HT_ rfl rfl ?_
        refine pU 5 28 (mL 22 63) HT_ rfl rfl ?_
        refine pU 6 29 (mL 22 127) HT_ rfl rfl ?_
        refine pU 7 30 (mL 22 255) HT_ rfl rfl ?_
        refine pU 8 31 (mL 22 511) HT_ rfl rfl ?_
        refine pU 9 32 (mL 22 1023) HT_ rfl rfl ?_
        refine pU 10 33 (mL 22 2047) HT_ rfl rfl ?_
        refine pU 11 34 (mL 22 4095) HT_ rfl rfl ?_
        refine pU 12 35 (mL 22 8191) HT_ rfl rfl ?_
        refine pU 13 36 (mL 22 16383) HT_ rfl rfl ?_
        refine pU 14 37 (mL 22 32767) HT_ rfl rfl ?_
        refine pU 15 38 (mL 22 65535) HT_ rfl rfl ?_
        refine pU 16 39 (mL 22 131071) HT_ rfl rfl ?_
        refine pU 17 40 (mL 22 262143) HT_ rfl rfl ?_
        refine pU 18 41 (mL 22 524287) HT_ rfl rfl ?_
        refine pU 19 42 (mL 22 1048575) HT_ rfl rfl ?_
        refine pU 20 43 (mL 22 2097151) HT_ rfl rfl ?_
        refine pA 21 44 (mL 22 4194303) HT_ rfl rfl ?_
        refine done_ (done_of HT_.out KR) ?_
        try go_wp2
        go_ret
        exact ⟨TE, TB⟩
      ·rw [if_neg c10] at H
       have c10b0 : decide (x18_2 < (l0_1.length : Int)) = false := decide_eq_false c10
       clear c10
       obtain rfl := Option.some.inj H
       go_wp2
       go_ret
       exact ⟨TE, TB⟩
end
section
/-! ### impl_OldestIn_1: function 91 -/
def impl_OldestIn_1.f (a0_0 : ByteArray) (a0_1 : Int) (a0_2 : Bool) (l0_3 : List (S_Record)) (a0_4 : Int) (a0_5 : Int) (a1_0 : ByteArray) (a1_1 : Int) (a1_2 : Bool) (l1_3 : List (S_Record)) (a1_4 : Int) (a1_5 : Int) : Option (Int) := (cmp_Compare_int.f a0_5 a1_5).bind fun t1380 => (some t1380)
theorem impl_OldestIn_1.calls (a0_0 : ByteArray) (a0_1 : Int) (a0_2 : Bool) (A0_3 : Option Addr) (c0_3 : Nat) (l0_3 : List (S_Record)) (a0_4 : Int) (a0_5 : Int) (a1_0 : ByteArray) (a1_1 : Int) (a1_2 : Bool) (A1_3 : Option Addr) (c1_3 : Nat) (l1_3 : List (S_Record)) (a1_4 : Int) (a1_5 : Int) (r : Int) (w : World) (hr0_3 : Kd.C k_Record w A0_3 l0_3.length l0_3) (hc0_3 : l0_3.length ≤ c0_3) (hr1_3 : Kd.C k_Record w A1_3 l1_3.length l1_3) (hc1_3 : l1_3.length ≤ c1_3) (h : impl_OldestIn_1.f a0_0 a0_1 a0_2 l0_3 a0_4 a0_5 a1_0 a1_1 a1_2 l1_3 a1_4 a1_5 = some r) :
  Calls Tryz.prog 91 #[.agg #[.string a0_0, .int .i64 a0_1, .bool a0_2, .slice A0_3 l0_3.length c0_3, .int .i64 a0_4, .int .i64 a0_5], .agg #[.string a1_0, .int .i64 a1_1, .bool a1_2, .slice A1_3 l1_3.length c1_3, .int .i64 a1_4, .int .i64 a1_5]] w fun e w' => e = .returned (.int .i64 r) ∧ Below w.heap.size w w' := by
 have hu107 := Tryz.underlying107
 have HR0_3 := Aside0.mk hr0_3
 have HC0_3 := Aside0.mk hc0_3
 clear hr0_3 hc0_3
 have HR1_3 := Aside0.mk hr1_3
 have HC1_3 := Aside0.mk hc1_3
 clear hr1_3 hc1_3
 have HB := Aside0.mk (Below.refl w.heap.size w)
 have H : ((cmp_Compare_int.f a0_5 a1_5).bind fun t1380 => (some t1380)) = some r := h
 clear h
 obtain ⟨t1380, A3, H⟩ := bnd H
 obtain rfl := Option.some.inj H
 go_enter Tryz.func91, Tryz.ntmps91
 go_wp2_with (first | ((with_reducible refine gate_dst (N := 2) rfl ?_); refine bE 2 #[.string a0_0, .int .i64 a0_1, .bool a0_2, .slice A0_3 l0_3.length c0_3, .int .i64 a0_4, .int .i64 a0_5] 107 ?_; intro gb1378 hg w4 hbox hb; have BK1378 := Aside0.mk (hbox); have GE1378 := bG hg; replace HB := BS hb; clear hb hbox hg) | ((with_reducible refine gate_dst (N := 3) rfl ?_); refine bE 3 #[.string a1_0, .int .i64 a1_1, .bool a1_2, .slice A1_3 l1_3.length c1_3, .int .i64 a1_4, .int .i64 a1_5] 107 ?_; intro gb1379 hg w5 hbox hb; have BK1379 := Aside0.mk (hbox); have GE1379 := bG hg; replace HB := BS hb; have NB1378_1379 := bN BK1378 hg; have NB1379_1378 := bM BK1378 hg; replace BK1378 := KB BK1378 hb; clear hb hbox hg; obtain ⟨hnb6, hnc6⟩ := nn NB1378_1379; have hcz7 := cz6 BK1378; have hcz8 := cz6 BK1379) | ((with_reducible refine gate_callee (f := 92) rfl ?_); refine goesL_ (some 9) rfl rfl Tryz.func92 KR rfl #[.int .i64 a0_5, .int .i64 a1_5] rfl TA ?_; (with_reducible refine (cmp_Compare_int.calls a0_5 a1_5 t1380 _ A3.out).mono ?_); rintro e w' ⟨rfl, ⟨nd, rfl⟩⟩; refine ⟨_, rfl, ?_⟩))
 go_ret
 exact ⟨TE, TB⟩
end
section
/-! ### impl_OldestIn: function 35 -/
/-- A call of a function value in a region of many orders. -/
theorem goesF_ {P : Program} {ops : Array Oper} {Q : Exit → Act → World → Prop} {oi : Oper} {N : Option Tmp} {a : Act} {w : World} {K : Act → World → Prop} {t : Tmp} {f : FuncId} {fn : Func} {as_ : Array Operand} {ts : Array TypeId} (hv : a.eval (.tmp t) = .func (.func f) #[] #[]) (hf : P.funcs[f]? = some fn) (hname : (fn.name == "runtime.NumGoroutine") = false) (hb : fn.body.isSome = true) (args : Array Value)
  (hw : Region.wanted oi (yielded ops a.tmps) = true) (hN : oi.dst = N) (hop : oi.op = .call { callee := .value (.tmp t), args := as_, argTypes := ts }) (hargs : as_.map a.eval = args)
  (h : Calls P f args w fun e w' => ∃ v, e = .returned v ∧ K (a.put N v) w') : if Region.wanted oi (yielded ops a.tmps) = true then Oper.wp P oi a w K Q else K (a.put N undef) w := by
 refine call_ f args hw hN ?_ h
 have he := enters_ hf hname hb args w
 unfold execOp
 simp [hop, resolve, Deferred.ofValue, invoke, hv, hargs, he]
def impl_OldestIn.m0 : Nat → List (S_Entry) → Int → Int → Option Int
 | 0, _, _, _ => none
 | k + 1, l, j, i => if i < (l.length : Int) then (if 0 ≤ i then ((impl_OldestIn_1.f (rd_TEntry l i).f0 (rd_TEntry l i).f1 (rd_TEntry l i).f2 (rd_TEntry l i).f3 (rd_TEntry l i).f4 (rd_TEntry l i).f5 (rd_TEntry l j).f0 (rd_TEntry l j).f1 (rd_TEntry l j).f2 (rd_TEntry l j).f3 (rd_TEntry l j).f4 (rd_TEntry l j).f5).bind fun t => if t < 0 then impl_OldestIn.m0 k l i (wrap64 (i + 1)) else impl_OldestIn.m0 k l j (wrap64 (i + 1))) else none) else some ((rd_TEntry l j).f5)
def impl_OldestIn.T7 : Bool × List (List Nat × List Nat) := (true, [([], []), ([], []), ([], []), ([1, 2], [1, 2]), ([3], [3]), ([], []), ([0, 4, 5], [0, 4, 5]), ([6], [6])])
def impl_OldestIn.B7 : List Nat := [0, 0, 0, 6, 14, 0, 63, 127]
theorem impl_OldestIn.tab7 : rtab .any (opsOf Tryz.f90 7) = impl_OldestIn.T7 := by kernel_rfl
theorem impl_OldestIn.bits7 : waitsOk impl_OldestIn.T7.2 impl_OldestIn.B7 = true := by kernel_rfl
theorem impl_OldestIn.min (k : Nat) (A0 : Option Addr) (c0 : Nat) (l0 : List (S_Entry)) (r : Int) (w : World) (hr0 : Kd.C k_Entry w A0 l0.length l0) (hc0 : l0.length ≤ c0) (hp : 0 < l0.length) (h : impl_OldestIn.m0 k l0 0 1 = some r) :
  Calls Tryz.prog 90 #[.slice A0 l0.length c0, .func (.func 91) #[] #[]] w fun e w' => (∃ (j : Int) (A : Option Addr) (c : Nat), e = .returned (.agg #[.string (rd_TEntry l0 j).f0, .int .i64 (rd_TEntry l0 j).f1, .bool (rd_TEntry l0 j).f2, .slice A (rd_TEntry l0 j).f3.length c, .int .i64 (rd_TEntry l0 j).f4, .int .i64 r])) ∧ Below w.heap.size w w' := by
 have hu107 := Tryz.underlying107
 have HR0 := Aside0.mk hr0
 have HC0 := Aside0.mk hc0
 clear hr0 hc0
 have HB := Aside0.mk (Below.refl w.heap.size w)
 have H' := Aside0.mk h
 clear h
 have c1 : decide ((l0.length : Int) < 1) = false := decide_eq_false (by omega)
 have p0 : 0 ≤ (0 : Int) := by omega
 have q0 : (0 : Int) < (l0.length : Int) := by omega
 obtain ⟨ad0, A3, c3, e0, hx0_0, hx0_1, hx0_2, hx0_3, hx0_4, hx0_5, hl3, hC3⟩ := at_TEntry HR0.out 0 p0 q0
 have HL3 := Aside0.mk hl3
 have HC3 := Aside0.mk hC3
 have HP := Aside0.mk hp
 clear hl3 hC3 hp
 cases e0
 have qi0 : (0 < l0.length) = True := eq_true HP.out
 (try rw [show ((0 : Int)).toNat = 0 from rfl] at hx0_0)
 (try rw [show 0 * 6 = 0 from rfl] at hx0_0)
 (try rw [Addr.add_zero'] at hx0_0)
 (try rw [show ((0 : Int)).toNat = 0 from rfl] at hx0_1)
 (try rw [show 0 * 6 = 0 from rfl] at hx0_1)
 (try rw [Addr.add_zero'] at hx0_1)
 (try rw [show ((0 : Int)).toNat = 0 from rfl] at hx0_2)
 (try rw [show 0 * 6 = 0 from rfl] at hx0_2)
 (try rw [Addr.add_zero'] at hx0_2)
 (try rw [show ((0 : Int)).toNat = 0 from rfl] at hx0_3)
 (try rw [show 0 * 6 = 0 from rfl] at hx0_3)
 (try rw [Addr.add_zero'] at hx0_3)
 (try rw [show ((0 : Int)).toNat = 0 from rfl] at hx0_4)
 (try rw [show 0 * 6 = 0 from rfl] at hx0_4)
 (try rw [Addr.add_zero'] at hx0_4)
 (try rw [show ((0 : Int)).toNat = 0 from rfl] at hx0_5)
 (try rw [show 0 * 6 = 0 from rfl] at hx0_5)
 (try rw [Addr.add_zero'] at hx0_5)
 replace p0 := eq_true p0
 replace q0 := eq_true q0
 go_enter Tryz.func90, Tryz.ntmps90
 go_wp2_with (first | ((with_reducible refine gate_dst (N := 4) rfl ?_); refine bE 4 #[.string (⟨#[]⟩ : ByteArray), .int .i64 0, .bool false, .slice none 0 0, .int .i64 0, .int .i64 0] 107 ?_; intro gb4 hg w3 hbox hb; have BK4 := Aside0.mk (hbox); have GE4 := bG hg; replace HB := BS hb; replace hx0_0 := hBc HB hx0_0; replace hx0_1 := hBc HB hx0_1; replace hx0_2 := hBc HB hx0_2; replace hx0_3 := hBc HB hx0_3; replace hx0_4 := hBc HB hx0_4; replace hx0_5 := hBc HB hx0_5; clear hb hbox hg) | ((with_reducible refine gate_dst (N := 5) rfl ?_); refine bE 5 #[.string (⟨#[]⟩ : ByteArray), .int .i64 0, .bool false, .slice none 0 0, .int .i64 0, .int .i64 0] 107 ?_; intro gb5 hg w4 hbox hb; have BK5 := Aside0.mk (hbox); have GE5 := bG hg; replace HB := BS hb; have NB4_5 := bN BK4 hg; have NB5_4 := bM BK4 hg; replace BK4 := KB BK4 hb; clear hb hbox hg; obtain ⟨hnb6, hnc6⟩ := nn NB4_5; have hcz5 := cz6 BK5))
 go_loopg [6] k (fun kq v6 w' => ∃ (j i : Int) (A3 : Option Addr) (c3 : Nat), v6 = .int .i64 i ∧ Aside0 (impl_OldestIn.m0 kq l0 j i = some r) ∧ Aside0 (kq ≤ k) ∧ Aside0 (0 ≤ j ∧ j < (l0.length : Int)) ∧ Aside0 ((rd_TEntry l0 j).f3.length ≤ c3) ∧ Aside0 (Kd.C k_Record w A3 (rd_TEntry l0 j).f3.length (rd_TEntry l0 j).f3) ∧ Aside0 (w'.heap[gb4]? = some (.cells #[.string (⟨#[]⟩ : ByteArray), .int .i64 0, .bool false, .slice none 0 0, .int .i64 0, .int .i64 0] 107 (0, 0))) ∧ Aside0 (w'.heap[gb5]? = some (.cells #[.string ((rd_TEntry l0 j).f0), .int .i64 ((rd_TEntry l0 j).f1), .bool ((rd_TEntry l0 j).f2), .slice A3 (rd_TEntry l0 j).f3.length c3, .int .i64 ((rd_TEntry l0 j).f4), .int .i64 ((rd_TEntry l0 j).f5)] 107 (0, 0))) ∧ Aside0 (Below w.heap.size w w'))
 case atStart => exact ⟨0, 1, A3, c3, TF, H', ⟨Nat.le_refl _⟩, ⟨by omega, by have := HP.out; omega⟩, HL3, HC3, ⟨TS⟩, ⟨TS⟩, ⟨TB⟩⟩
 case round =>
  clear H' HL3 HC3 c1 hx0_0 hx0_1 hx0_2 hx0_3 hx0_4 hx0_5 hcz5 BK4 BK5
  obtain ⟨j, i, A3, c3, rfl, HA, HK1, HJ, HL3, HC3, BK4, BK5, HB⟩ := hrel
  cases gk with
  | zero => exact absurd HA.out (by simp [impl_OldestIn.m0])
  | succ k1 =>
   have H := HA.out
   clear HA
   simp only [impl_OldestIn.m0] at H
   by_cases c4 : i < (l0.length : Int)
   ·rw [if_pos c4] at H
    obtain ⟨c5, H⟩ := ifn H
    obtain ⟨t, A6, H⟩ := bnd H
    have c4b := decide_eq_true c4
    have c5b := decide_eq_true c5
    obtain ⟨ad1, A1, c1, e1, hw1_0, hw1_1, hw1_2, hw1_3, hw1_4, hw1_5, hl1, hC1⟩ := at_TEntry HR0.out i c5 c4
    have HL1 := Aside0.mk hl1
    have HC1 := Aside0.mk hC1
    clear hl1 hC1
    cases e1
    have p1 := eq_true c5
    have q1 := eq_true c4
    clear c4 c5
    by_cases c7 : t < 0
    ·rw [if_pos c7] at H
     have H' := Aside0.mk H
     clear H
     have c7b := decide_eq_true c7
     clear c7
     go_wp2
     replace HB := Aside0.mk (below_drew1 HB.out)
     replace BK4 := Aside0.mk (blk_drew BK4.out)
     replace BK5 := Aside0.mk (blk_drew BK5.out)
     have hx1_0 := hBc HB hw1_0
     have hx1_1 := hBc HB hw1_1
     have hx1_2 := hBc HB hw1_2
     have hx1_3 := hBc HB hw1_3
     have hx1_4 := hBc HB hw1_4
     have hx1_5 := hBc HB hw1_5
     refine start_ (n := 8) (S := fun w' => w'.cell? (ad0.add ((i).toNat * 6)) = some (.string ((rd_TEntry l0 i).f0)) ∧ w'.cell? ⟨(ad0.add ((i).toNat * 6)).block, (ad0.add ((i).toNat * 6)).off + 1, none⟩ = some (.int .i64 ((rd_TEntry l0 i).f1)) ∧ w'.cell? ⟨(ad0.add ((i).toNat * 6)).block, (ad0.add ((i).toNat * 6)).off + 2, none⟩ = some (.bool ((rd_TEntry l0 i).f2)) ∧ w'.cell? ⟨(ad0.add ((i).toNat * 6)).block, (ad0.add ((i).toNat * 6)).off + 3, none⟩ = some (.slice A1 (rd_TEntry l0 i).f3.length c1) ∧ w'.cell? ⟨(ad0.add ((i).toNat * 6)).block, (ad0.add ((i).toNat * 6)).off + 4, none⟩ = some (.int .i64 ((rd_TEntry l0 i).f4)) ∧ w'.cell? ⟨(ad0.add ((i).toNat * 6)).block, (ad0.add ((i).toNat * 6)).off + 5, none⟩ = some (.int .i64 ((rd_TEntry l0 i).f5)) ∧ w'.cell? ⟨gb5, 0, none⟩ = some (.string ((rd_TEntry l0 j).f0)) ∧ w'.cell? ⟨gb5, 1, none⟩ = some (.int .i64 ((rd_TEntry l0 j).f1)) ∧ w'.cell? ⟨gb5, 2, none⟩ = some (.bool ((rd_TEntry l0 j).f2)) ∧ w'.cell? ⟨gb5, 3, none⟩ = some (.slice A3 (rd_TEntry l0 j).f3.length c3) ∧ w'.cell? ⟨gb5, 4, none⟩ = some (.int .i64 ((rd_TEntry l0 j).f4)) ∧ w'.cell? ⟨gb5, 5, none⟩ = some (.int .i64 ((rd_TEntry l0 j).f5))) (ds := []) #[false, false, false, false, false, false, false, false] KR rfl rfl ⟨((HB.out.cell (World.block_lt_of_cell? w _ hw1_0)).trans hw1_0), ((HB.out.cell (World.block_lt_of_cell? w _ hw1_1)).trans hw1_1), ((HB.out.cell (World.block_lt_of_cell? w _ hw1_2)).trans hw1_2), ((HB.out.cell (World.block_lt_of_cell? w _ hw1_3)).trans hw1_3), ((HB.out.cell (World.block_lt_of_cell? w _ hw1_4)).trans hw1_4), ((HB.out.cell (World.block_lt_of_cell? w _ hw1_5)).trans hw1_5), bc 0 BK5, bc 1 BK5, bc 2 BK5, bc 3 BK5, bc 4 BK5, bc 5 BK5⟩ (fun hHeld => ?_)
     refine with_tabW impl_OldestIn.tab7 impl_OldestIn.bits7 (fun HT_ HW_ => ?_)
     generalize wr.drew = w9 at HB hx1_0 hx1_1 hx1_2 hx1_3 hx1_4 hx1_5 BK4 BK5 hHeld ⊢
     refine pA 0 20 (mL 8 1) HT_ rfl rfl ?_
     refine pA 1 21 (mL 8 3) HT_ rfl rfl ?_
     refine pA 2 22 (mL 8 7) HT_ rfl rfl ?_
     refine pA 3 23 (mL 8 15) HT_ rfl rfl ?_
     refine tA 4 24 (mL 8 31) HT_ HW_ hHeld rfl rfl (by rintro w' ⟨s0, s1, s2, s3, s4, s5, s6, s7, s8, s9, s10, s11⟩; go_simp; with_reducible rfl) ?_
     refine tA 5 25 (mL 8 63) HT_ HW_ hHeld rfl rfl (by rintro w' ⟨s0, s1, s2, s3, s4, s5, s6, s7, s8, s9, s10, s11⟩; go_simp; with_reducible rfl) ?_
     refine one_ (i := 6) (N := some 26) (mL 8 127) rfl rfl (one_of HT_.out KR) (by decide) (fun K hK => ?_)
     refine goesF_ (t := 20) ?hv Tryz.func91 KR rfl #[.agg #[.string ((rd_TEntry l0 i).f0), .int .i64 ((rd_TEntry l0 i).f1), .bool ((rd_TEntry l0 i).f2), .slice A1 (rd_TEntry l0 i).f3.length c1, .int .i64 ((rd_TEntry l0 i).f4), .int .i64 ((rd_TEntry l0 i).f5)], .agg #[.string ((rd_TEntry l0 j).f0), .int .i64 ((rd_TEntry l0 j).f1), .bool ((rd_TEntry l0 j).f2), .slice A3 (rd_TEntry l0 j).f3.length c3, .int .i64 ((rd_TEntry l0 j).f4), .int .i64 ((rd_TEntry l0 j).f5)]] (by rfl) rfl rfl TA ?_
     case hv => rfl
     refine (impl_OldestIn_1.calls ((rd_TEntry l0 i).f0) ((rd_TEntry l0 i).f1) ((rd_TEntry l0 i).f2) _ _ ((rd_TEntry l0 i).f3) ((rd_TEntry l0 i).f4) ((rd_TEntry l0 i).f5) ((rd_TEntry l0 j).f0) ((rd_TEntry l0 j).f1) ((rd_TEntry l0 j).f2) _ _ ((rd_TEntry l0 j).f3) ((rd_TEntry l0 j).f4) ((rd_TEntry l0 j).f5) t _ (Kd.C_below HC1.out HB.out) HL1.out (Kd.C_below HC3.out HB.out) HL3.out A6.out).mono ?_
     rintro e w10 ⟨rfl, hb⟩
     refine ⟨_, rfl, ?_⟩
     replace BK4 := KB BK4 hb
     replace BK5 := KB BK5 hb
     replace HB := BS hb
     clear hb hx1_0 hx1_1 hx1_2 hx1_3 hx1_4 hx1_5
     refine hK.out _ _ ⟨((HB.out.cell (World.block_lt_of_cell? w _ hw1_0)).trans hw1_0), ((HB.out.cell (World.block_lt_of_cell? w _ hw1_1)).trans hw1_1), ((HB.out.cell (World.block_lt_of_cell? w _ hw1_2)).trans hw1_2), ((HB.out.cell (World.block_lt_of_cell? w _ hw1_3)).trans hw1_3), ((HB.out.cell (World.block_lt_of_cell? w _ hw1_4)).trans hw1_4), ((HB.out.cell (World.block_lt_of_cell? w _ hw1_5)).trans hw1_5), bc 0 BK5, bc 1 BK5, bc 2 BK5, bc 3 BK5, bc 4 BK5, bc 5 BK5⟩ (fun hHeld => ?_)
     clear hK K
     refine nA ?_
     refine pA 7 27 (mL 8 255) HT_ rfl rfl ?_
     refine done_ (done_of HT_.out KR) ?_
     have hx2_0 := hBc HB hw1_0
     have hx2_1 := hBc HB hw1_1
     have hx2_2 := hBc HB hw1_2
     have hx2_3 := hBc HB hw1_3
     have hx2_4 := hBc HB hw1_4
     have hx2_5 := hBc HB hw1_5
     have hcz5 := cz6 BK5
     go_wp2
     go_roundg k1
     case measure => have := HK1.out; omega
     case rel => exact ⟨i, wrap64 (i + 1), A1, c1, TF, H', ⟨TM⟩, ⟨⟨of_eq_true p1, of_eq_true q1⟩⟩, HL1, HC1, ⟨TS⟩, ⟨TS⟩, ⟨TB⟩⟩
    ·rw [if_neg c7] at H
     have H' := Aside0.mk H
     clear H
     have c7b := decide_eq_false c7
     clear c7
     go_wp2
     replace HB := Aside0.mk (below_drew1 HB.out)
     replace BK4 := Aside0.mk (blk_drew BK4.out)
     replace BK5 := Aside0.mk (blk_drew BK5.out)
     have hx1_0 := hBc HB hw1_0
     have hx1_1 := hBc HB hw1_1
     have hx1_2 := hBc HB hw1_2
     have hx1_3 := hBc HB hw1_3
     have hx1_4 := hBc HB hw1_4
     have hx1_5 := hBc HB hw1_5
     refine start_ (n := 8) (S := fun w' => w'.cell? (ad0.add ((i).toNat * 6)) = some (.string ((rd_TEntry l0 i).f0)) ∧ w'.cell? ⟨(ad0.add ((i).toNat * 6)).block, (ad0.add ((i).toNat * 6)).off + 1, none⟩ = some (.int .i64 ((rd_TEntry l0 i).f1)) ∧ w'.cell? ⟨(ad0.add ((i).toNat * 6)).block, (ad0.add ((i).toNat * 6)).off + 2, none⟩ = some (.bool ((rd_TEntry l0 i).f2)) ∧ w'.cell? ⟨(ad0.add ((i).toNat * 6)).block, (ad0.add ((i).toNat * 6)).off + 3, none⟩ = some (.slice A1 (rd_TEntry l0 i).f3.length c1) ∧ w'.cell? ⟨(ad0.add ((i).toNat * 6)).block, (ad0.add ((i).toNat * 6)).off + 4, none⟩ = some (.int .i64 ((rd_TEntry l0 i).f4)) ∧ w'.cell? ⟨(ad0.add ((i).toNat * 6)).block, (ad0.add ((i).toNat * 6)).off + 5, none⟩ = some (.int .i64 ((rd_TEntry l0 i).f5)) ∧ w'.cell? ⟨gb5, 0, none⟩ = some (.string ((rd_TEntry l0 j).f0)) ∧ w'.cell? ⟨gb5, 1, none⟩ = some (.int .i64 ((rd_TEntry l0 j).f1)) ∧ w'.cell? ⟨gb5, 2, none⟩ = some (.bool ((rd_TEntry l0 j).f2)) ∧ w'.cell? ⟨gb5, 3, none⟩ = some (.slice A3 (rd_TEntry l0 j).f3.length c3) ∧ w'.cell? ⟨gb5, 4, none⟩ = some (.int .i64 ((rd_TEntry l0 j).f4)) ∧ w'.cell? ⟨gb5, 5, none⟩ = some (.int .i64 ((rd_TEntry l0 j).f5))) (ds := []) #[false, false, false, false, false, false, false, false] KR rfl rfl ⟨((HB.out.cell (World.block_lt_of_cell? w _ hw1_0)).trans hw1_0), ((HB.out.cell (World.block_lt_of_cell? w _ hw1_1)).trans hw1_1), ((HB.out.cell (World.block_lt_of_cell? w _ hw1_2)).trans hw1_2), ((HB.out.cell (World.block_lt_of_cell? w _ hw1_3)).trans hw1_3), ((HB.out.cell (World.block_lt_of_cell? w _ hw1_4)).trans hw1_4), ((HB.out.cell (World.block_lt_of_cell? w _ hw1_5)).trans hw1_5), bc 0 BK5, bc 1 BK5, bc 2 BK5, bc 3 BK5, bc 4 BK5, bc 5 BK5⟩ (fun hHeld => ?_)
     refine with_tabW impl_OldestIn.tab7 impl_OldestIn.bits7 (fun HT_ HW_ => ?_)
     generalize wr.drew = w9 at HB hx1_0 hx1_1 hx1_2 hx1_3 hx1_4 hx1_5 BK4 BK5 hHeld ⊢
     refine pA 0 20 (mL 8 1) HT_ rfl rfl ?_
     refine pA 1 21 (mL 8 3) HT_ rfl rfl ?_
     refine pA 2 22 (mL 8 7) HT_ rfl rfl ?_
     refine pA 3 23 (mL 8 15) HT_ rfl rfl ?_
     refine tA 4 24 (mL 8 31) HT_ HW_ hHeld rfl rfl (by rintro w' ⟨s0, s1, s2, s3, s4, s5, s6, s7, s8, s9, s10, s11⟩; go_simp; with_reducible rfl) ?_
     refine tA 5 25 (mL 8 63) HT_ HW_ hHeld rfl rfl (by rintro w' ⟨s0, s1, s2, s3, s4, s5, s6, s7, s8, s9, s10, s11⟩; go_simp; with_reducible rfl) ?_
     refine one_ (i := 6) (N := some 26) (mL 8 127) rfl rfl (one_of HT_.out KR) (by decide) (fun K hK => ?_)
     refine goesF_ (t := 20) ?hv Tryz.func91 KR rfl #[.agg #[.string ((rd_TEntry l0 i).f0), .int .i64 ((rd_TEntry l0 i).f1), .bool ((rd_TEntry l0 i).f2), .slice A1 (rd_TEntry l0 i).f3.length c1, .int .i64 ((rd_TEntry l0 i).f4), .int .i64 ((rd_TEntry l0 i).f5)], .agg #[.string ((rd_TEntry l0 j).f0), .int .i64 ((rd_TEntry l0 j).f1), .bool ((rd_TEntry l0 j).f2), .slice A3 (rd_TEntry l0 j).f3.length c3, .int .i64 ((rd_TEntry l0 j).f4), .int .i64 ((rd_TEntry l0 j).f5)]] (by rfl) rfl rfl TA ?_
     case hv => rfl
     refine (impl_OldestIn_1.calls ((rd_TEntry l0 i).f0) ((rd_TEntry l0 i).f1) ((rd_TEntry l0 i).f2) _ _ ((rd_TEntry l0 i).f3) ((rd_TEntry l0 i).f4) ((rd_TEntry l0 i).f5) ((rd_TEntry l0 j).f0) ((rd_TEntry l0 j).f1) ((rd_TEntry l0 j).f2) _ _ ((rd_TEntry l0 j).f3) ((rd_TEntry l0 j).f4) ((rd_TEntry l0 j).f5) t _ (Kd.C_below HC1.out HB.out) HL1.out (Kd.C_below HC3.out HB.out) HL3.out A6.out).mono ?_
     rintro e w10 ⟨rfl, hb⟩
     refine ⟨_, rfl, ?_⟩
     replace BK4 := KB BK4 hb
     replace BK5 := KB BK5 hb
     replace HB := BS hb
     clear hb hx1_0 hx1_1 hx1_2 hx1_3 hx1_4 hx1_5
     refine hK.out _ _ ⟨((HB.out.cell (World.block_lt_of_cell? w _ hw1_0)).trans hw1_0), ((HB.out.cell (World.block_lt_of_cell? w _ hw1_1)).trans hw1_1), ((HB.out.cell (World.block_lt_of_cell? w _ hw1_2)).trans hw1_2), ((HB.out.cell (World.block_lt_of_cell? w _ hw1_3)).trans hw1_3), ((HB.out.cell (World.block_lt_of_cell? w _ hw1_4)).trans hw1_4), ((HB.out.cell (World.block_lt_of_cell? w _ hw1_5)).trans hw1_5), bc 0 BK5, bc 1 BK5, bc 2 BK5, bc 3 BK5, bc 4 BK5, bc 5 BK5⟩ (fun hHeld => ?_)
     clear hK K
     refine nA ?_
     refine pA 7 27 (mL 8 255) HT_ rfl rfl ?_
     refine done_ (done_of HT_.out KR) ?_
     go_wp2
     go_roundg k1
     case measure => have := HK1.out; omega
     case rel => exact ⟨j, wrap64 (i + 1), A3, c3, TF, H', ⟨TM⟩, HJ, HL3, HC3, ⟨TS⟩, ⟨TS⟩, ⟨TB⟩⟩
   ·rw [if_neg c4] at H
    have c4b := decide_eq_false c4
    clear c4
    obtain rfl := Option.some.inj H
    have hcz5 := cz6 BK5
    have hcz4 := cz6 BK4
    have hnb6 := NB4_5.out
    have hnc6 := NB5_4.out
    go_wp2
    refine bodyPost_ret (results_cell_row rfl _ _ gb4 107 #[.string ((rd_TEntry l0 j).f0), .int .i64 ((rd_TEntry l0 j).f1), .bool ((rd_TEntry l0 j).f2), .slice A3 (rd_TEntry l0 j).f3.length c3, .int .i64 ((rd_TEntry l0 j).f4), .int .i64 ((rd_TEntry l0 j).f5)] (0, 0) _ rfl TS Tryz.underlying107 rfl KR) rfl ?_
    exact ⟨⟨j, A3, c3, rfl⟩, TB⟩
def impl_OldestIn.f (k : Nat) (a0_0 : Int) (l0_1 : List (S_Entry)) : Option (Int × Bool) := (impl_GoodCache.f k a0_0 l0_1).bind fun t => if t = true then (if (l0_1.length : Int) = 0 then some (0, false) else (impl_OldestIn.m0 k l0_1 0 1).bind fun r => some (r, true)) else some (0, false)
theorem impl_OldestIn.calls (k : Nat) (a0_0 : Int) (A0_1 : Option Addr) (c0_1 : Nat) (l0_1 : List (S_Entry)) (r1 : Int) (r2 : Bool) (w : World) (hr0_1 : Kd.C k_Entry w A0_1 l0_1.length l0_1) (hc0_1 : l0_1.length ≤ c0_1) (hG_ : Glob w) (h : impl_OldestIn.f k a0_0 l0_1 = some (r1, r2)) :
  Calls Tryz.prog 35 #[.agg #[.int .i64 a0_0, .slice A0_1 l0_1.length c0_1]] w fun e w' => e = .returned (.tuple #[.int .i64 r1, .bool r2]) ∧ Below w.heap.size w w' := by
 have hu54 := Tryz.underlying54
 have hu107 := Tryz.underlying107
 have HR0_1 := Aside0.mk hr0_1
 have HC0_1 := Aside0.mk hc0_1
 have HGL := Aside0.mk hG_
 clear hr0_1 hc0_1 hG_
 have HB := Aside0.mk (Below.refl w.heap.size w)
 unfold impl_OldestIn.f at h
 obtain ⟨t4, A4, H⟩ := bnd h
 clear h
 cases t4 with
 | false =>
  replace H := iff' H
  simp only [Option.some.injEq, Prod.mk.injEq] at H
  obtain ⟨rfl, rfl⟩ := H
  go_enter Tryz.func35, Tryz.ntmps35
  go_wp2_with (first | ((with_reducible refine gate_dst (N := 1) rfl ?_); (try (refine gate_guard (by rfl) ?_; dsimp only)); refine bE 1 #[.int .i64 a0_0, .slice A0_1 l0_1.length c0_1] 54 ?_; intro gb1 hg w3 hbox hb; have BK1 := Aside0.mk (hbox); have GE1 := bG hg; replace HB := BS hb; clear hb hbox hg; have hcz1 := cz2 BK1) | ((with_reducible refine gate_callee (f := 32) rfl ?_); refine goesL_ (some 5) rfl rfl Tryz.func32 KR rfl #[.agg #[.int .i64 a0_0, .slice A0_1 l0_1.length c0_1]] rfl TA ?_; (with_reducible refine (impl_GoodCache.calls k a0_0 _ _ l0_1 false _ ?side1 ?side2 ?side3 A4.out).mono ?_); (case side1 => exact CW ((Kd.C_below HR0_1.out HB.out))); (case side2 => exact HC0_1.out); (case side3 => exact GW HGL); rintro e w7 ⟨rfl, hb⟩; refine ⟨_, rfl, ?_⟩; replace BK1 := KB BK1 hb; replace HB := BS hb; clear hb; have hcz2 := cz2 BK1))
  go_ret2
  exact ⟨TE, TB⟩
 | true =>
  replace H := ift H
  by_cases c5 : (l0_1.length : Int) = 0
  ·rw [if_pos c5] at H
   have c5b0 : ((l0_1.length : Int) == 0) = true := beq_iff_eq.mpr c5
   clear c5
   simp only [Option.some.injEq, Prod.mk.injEq] at H
   obtain ⟨rfl, rfl⟩ := H
   go_enter Tryz.func35, Tryz.ntmps35
   go_wp2_with (first | ((with_reducible refine gate_dst (N := 1) rfl ?_); (try (refine gate_guard (by rfl) ?_; dsimp only)); refine bE 1 #[.int .i64 a0_0, .slice A0_1 l0_1.length c0_1] 54 ?_; intro gb1 hg w3 hbox hb; have BK1 := Aside0.mk (hbox); have GE1 := bG hg; replace HB := BS hb; clear hb hbox hg; have hcz1 := cz2 BK1) | ((with_reducible refine gate_callee (f := 32) rfl ?_); refine goesL_ (some 5) rfl rfl Tryz.func32 KR rfl #[.agg #[.int .i64 a0_0, .slice A0_1 l0_1.length c0_1]] rfl TA ?_; (with_reducible refine (impl_GoodCache.calls k a0_0 _ _ l0_1 true _ ?side1 ?side2 ?side3 A4.out).mono ?_); (case side1 => exact CW ((Kd.C_below HR0_1.out HB.out))); (case side2 => exact HC0_1.out); (case side3 => exact GW HGL); rintro e w7 ⟨rfl, hb⟩; refine ⟨_, rfl, ?_⟩; replace BK1 := KB BK1 hb; replace HB := BS hb; clear hb; have hcz2 := cz2 BK1))
   go_ret2
   exact ⟨TE, TB⟩
  ·rw [if_neg c5] at H
   have c5b0 : ((l0_1.length : Int) == 0) = false := beq_eq_false_iff_ne.mpr c5
   have hpos : 0 < l0_1.length := by omega
   clear c5
   obtain ⟨t5, A5, H⟩ := bnd H
   simp only [Option.some.injEq, Prod.mk.injEq] at H
   obtain ⟨rfl, rfl⟩ := H
   go_enter Tryz.func35, Tryz.ntmps35
   go_wp2_with (first | ((with_reducible refine gate_dst (N := 1) rfl ?_); (try (refine gate_guard (by rfl) ?_; dsimp only)); refine bE 1 #[.int .i64 a0_0, .slice A0_1 l0_1.length c0_1] 54 ?_; intro gb1 hg w3 hbox hb; have BK1 := Aside0.mk (hbox); have GE1 := bG hg; replace HB := BS hb; clear hb hbox hg; have hcz1 := cz2 BK1) | ((with_reducible refine gate_callee (f := 32) rfl ?_); refine goesL_ (some 5) rfl rfl Tryz.func32 KR rfl #[.agg #[.int .i64 a0_0, .slice A0_1 l0_1.length c0_1]] rfl TA ?_; (with_reducible refine (impl_GoodCache.calls k a0_0 _ _ l0_1 true _ ?side1 ?side2 ?side3 A4.out).mono ?_); (case side1 => exact CW ((Kd.C_below HR0_1.out HB.out))); (case side2 => exact HC0_1.out); (case side3 => exact GW HGL); rintro e w7 ⟨rfl, hb⟩; refine ⟨_, rfl, ?_⟩; replace BK1 := KB BK1 hb; replace HB := BS hb; clear hb; have hcz2 := cz2 BK1) | ((with_reducible refine gate_callee (f := 90) rfl ?_); refine goesL_ (some 15) rfl rfl Tryz.func90 KR rfl #[.slice A0_1 l0_1.length c0_1, .func (.func 91) #[] #[]] rfl TA ?_; (refine (impl_OldestIn.min k _ _ l0_1 t5 _ ?side1 ?side2 ?side3 A5.out).mono ?_); (case side1 => exact CW ((Kd.C_below HR0_1.out HB.out))); (case side2 => exact HC0_1.out); (case side3 => exact hpos); rintro e w8 ⟨⟨j, A, c, rfl⟩, hb⟩; refine ⟨_, rfl, ?_⟩; have hfd : ∀ w : World, (Instr.field 107 (.agg #[.string (rd_TEntry l0_1 j).f0, .int .i64 (rd_TEntry l0_1 j).f1, .bool (rd_TEntry l0_1 j).f2, .slice A (rd_TEntry l0_1 j).f3.length c, .int .i64 (rd_TEntry l0_1 j).f4, .int .i64 t5]) 5).run Tryz.prog w = .ok (.int .i64 t5) w := fun _ => KR; replace BK1 := KB BK1 hb; replace HB := BS hb; clear hb))
   go_ret2
   exact ⟨TE, TB⟩

end
section
/-! ### laws_FnExactOldestIn: function 7 -/
def laws_FnExactOldestIn.j0 : Nat → Bool → Int → List (S_LEntry) → Int → List (S_Entry) → Option (Bool)
 | 0, _, _, _, _, _ => none
 | k + 1, x34, x1382000, x1382001, x1394000, x1394001 => if x34 = true then (some false) else ((laws_toCache.f k x1382000 x1382001).bind fun bt1396 => ((laws_eqCache.f k x1394000 x1394001 bt1396.1 bt1396.2).bind fun t1400 => (if t1400 = true then (some true) else (some false))))
def laws_FnExactOldestIn.f (k : Nat) (a0_0 : Int) (l0_1 : List (S_LEntry)) : Option (Bool) := (laws_szCache.f k a0_0 l0_1 1048576).bind fun t1382 => (if t1382 < 0 then (some true) else ((laws_toCache.f k a0_0 l0_1).bind fun bt1383 => ((spec_OldestIn.f k bt1383.1 bt1383.2).bind fun bt1387 => ((laws_toCache.f k a0_0 l0_1).bind fun bt1389 => ((impl_OldestIn.f k bt1389.1 bt1389.2).bind fun bt1394 => (if bt1394.1 = bt1387.1 then (laws_FnExactOldestIn.j0 k (bt1394.2 != bt1387.2) a0_0 l0_1 bt1389.1 bt1389.2) else (laws_FnExactOldestIn.j0 k true a0_0 l0_1 bt1389.1 bt1389.2)))))))
theorem laws_FnExactOldestIn.calls (k : Nat) (a0_0 : Int) (A0_1 : Option Addr) (c0_1 : Nat) (l0_1 : List (S_LEntry)) (r : Bool) (w : World) (hr0_1 : Kd.C k_LEntry w A0_1 l0_1.length l0_1) (hc0_1 : l0_1.length ≤ c0_1) (hG_ : Glob w) (h : laws_FnExactOldestIn.f k a0_0 l0_1 = some r) :
  Calls Tryz.prog 7 #[.agg #[.int .i64 a0_0, .slice A0_1 l0_1.length c0_1]] w fun e w' => e = .returned (.bool r) ∧ Below w.heap.size w w' := by
 have hu49 := Tryz.underlying49
 have hu54 := Tryz.underlying54
 have HR0_1 := Aside0.mk hr0_1
 have HC0_1 := Aside0.mk hc0_1
 clear hr0_1 hc0_1
 have HGL := Aside0.mk hG_
 clear hG_
 have HB := Aside0.mk (Below.refl w.heap.size w)
 have H : ((laws_szCache.f k a0_0 l0_1 1048576).bind fun t1382 => (if t1382 < 0 then (some true) else ((laws_toCache.f k a0_0 l0_1).bind fun bt1383 => ((spec_OldestIn.f k bt1383.1 bt1383.2).bind fun bt1387 => ((laws_toCache.f k a0_0 l0_1).bind fun bt1389 => ((impl_OldestIn.f k bt1389.1 bt1389.2).bind fun bt1394 => (if bt1394.1 = bt1387.1 then (laws_FnExactOldestIn.j0 k (bt1394.2 != bt1387.2) a0_0 l0_1 bt1389.1 bt1389.2) else (laws_FnExactOldestIn.j0 k true a0_0 l0_1 bt1389.1 bt1389.2)))))))) = some r := h
 clear h
 obtain ⟨t1382, A2, H⟩ := bnd H
 by_cases c3 : t1382 < 0
 ·rw [if_pos c3] at H
  have c3b0 : decide (t1382 < 0) = true := decide_eq_true c3
  clear c3
  obtain rfl := Option.some.inj H
  go_enter Tryz.func7, Tryz.ntmps7
  go_wp2_with (first | ((with_reducible refine gate_dst (N := 1) rfl ?_); refine bE 1 #[.int .i64 a0_0, .slice A0_1 l0_1.length c0_1] 49 ?_; intro gb1381 hg w4 hbox hb; have BK1381 := Aside0.mk (hbox); have GE1381 := bG hg; replace HB := BS hb; clear hb hbox hg; have hcz5 := cz2 BK1381) | ((with_reducible refine gate_callee (f := 29) rfl ?_); refine goesL_ (some 11) rfl rfl Tryz.func29 KR rfl #[.agg #[.int .i64 a0_0, .slice A0_1 l0_1.length c0_1], .int .i64 1048576] rfl TA ?_; (with_reducible refine (laws_szCache.calls k a0_0 _ _ l0_1 1048576 t1382 _ ?side1 ?side2 A2.out).mono ?_); (case side1 => exact CW ((Kd.C_below HR0_1.out HB.out))); (case side2 => exact HC0_1.out); rintro e w6 ⟨rfl, hb⟩; refine ⟨_, rfl, ?_⟩; replace BK1381 := KB BK1381 hb; replace HB := BS hb; clear hb))
  go_ret
  exact ⟨TE, TB⟩
 ·rw [if_neg c3] at H
  have c3b0 : decide (t1382 < 0) = false := decide_eq_false c3
  clear c3
  obtain ⟨⟨t1383, t1384⟩, A7, H⟩ := bnd H
  try dsimp only at H
  obtain ⟨⟨t1387, t1388⟩, A8, H⟩ := bnd H
  try dsimp only at H
  obtain ⟨⟨t1389, t1390⟩, A9, H⟩ := bnd H
  try dsimp only at H
  obtain ⟨⟨t1394, t1395⟩, A10, H⟩ := bnd H
  try dsimp only at H
  have HC11 := Aside0.mk H
  clear H
  go_enter Tryz.func7, Tryz.ntmps7
  go_upto_region 8 with (first | ((with_reducible refine gate_dst (N := 1) rfl ?_); refine bE 1 #[.int .i64 a0_0, .slice A0_1 l0_1.length c0_1] 49 ?_; intro gb1381 hg w12 hbox hb; have BK1381 := Aside0.mk (hbox); have GE1381 := bG hg; replace HB := BS hb; clear hb hbox hg; have hcz13 := cz2 BK1381) | ((with_reducible refine gate_callee (f := 29) rfl ?_); refine goesL_ (some 11) rfl rfl Tryz.func29 KR rfl #[.agg #[.int .i64 a0_0, .slice A0_1 l0_1.length c0_1], .int .i64 1048576] rfl TA ?_; (with_reducible refine (laws_szCache.calls k a0_0 _ _ l0_1 1048576 t1382 _ ?side1 ?side2 A2.out).mono ?_); (case side1 => exact CW ((Kd.C_below HR0_1.out HB.out))); (case side2 => exact HC0_1.out); rintro e w14 ⟨rfl, hb⟩; refine ⟨_, rfl, ?_⟩; replace BK1381 := KB BK1381 hb; replace HB := BS hb; clear hb; have hcz15 := cz2 BK1381) | ((with_reducible refine gate_callee (f := 31) rfl ?_); refine goesL_ (some 16) rfl rfl Tryz.func31 KR rfl #[.agg #[.int .i64 a0_0, .slice A0_1 l0_1.length c0_1]] rfl TA ?_; (with_reducible refine (laws_toCache.calls k a0_0 _ _ l0_1 t1383 t1384 _ ?side1 ?side2 A7.out).mono ?_); (case side1 => exact CW ((Kd.C_below HR0_1.out HB.out))); (case side2 => exact HC0_1.out); rintro e w16 ⟨v1385, rfl, ho0, hb⟩; refine ⟨_, rfl, ?_⟩; have HO1386 := Aside0.mk (Kd.S_lower ho0 (below_size TB)); replace BK1381 := KB BK1381 hb; replace HB := BS hb; clear hb; (try clear ho0); obtain ⟨Ao17, co17, eo17⟩ := Kd.S_slice HO1386.out; subst eo17) | ((with_reducible refine gate_callee (f := 34) rfl ?_); refine goesL_ (some 17) rfl rfl Tryz.func34 KR rfl #[.agg #[.int .i64 t1383, .slice Ao17 t1384.length co17]] rfl TA ?_; (with_reducible refine (spec_OldestIn.calls k t1383 _ _ t1384 t1387 t1388 _ ?side1 ?side2 A8.out).mono ?_); (case side1 => exact CW ((Kd.S_reads' HO1386.out).2.2)); (case side2 => exact (Kd.S_reads' HO1386.out).2.1); rintro e w18 ⟨rfl, hb⟩; refine ⟨_, rfl, ?_⟩; replace HO1386 := Aside0.mk (Kd.S_below (by (with_reducible repeat (first | apply Kd.S_alloc | apply Kd.S_drewN | apply Kd.S_drew)); exact HO1386.out) hb); replace BK1381 := KB BK1381 hb; replace HB := BS hb; clear hb; have hcz19 := cz2 BK1381) | ((with_reducible refine gate_callee (f := 31) rfl ?_); refine goesL_ (some 21) rfl rfl Tryz.func31 KR rfl #[.agg #[.int .i64 a0_0, .slice A0_1 l0_1.length c0_1]] rfl TA ?_; (with_reducible refine (laws_toCache.calls k a0_0 _ _ l0_1 t1389 t1390 _ ?side1 ?side2 A9.out).mono ?_); (case side1 => exact CW ((Kd.C_below HR0_1.out HB.out))); (case side2 => exact HC0_1.out); rintro e w20 ⟨v1391, rfl, ho0, hb⟩; refine ⟨_, rfl, ?_⟩; have HO1392 := Aside0.mk (Kd.S_lower (Kd.S_new' ho0 (Kd.S_lt (by (with_reducible repeat (first | apply Kd.S_alloc | apply Kd.S_drewN | apply Kd.S_drew)); exact HO1386.out))) (below_size TB)); replace HO1386 := Aside0.mk (Kd.S_elder' (by (with_reducible repeat (first | apply Kd.S_alloc | apply Kd.S_drewN | apply Kd.S_drew)); exact HO1386.out) (Kd.S_base ho0) hb); replace BK1381 := KB BK1381 hb; replace HB := BS hb; clear hb; (try clear ho0)) | ((with_reducible refine gate_dst (N := 6) rfl ?_); refine bE 6 #[.int .i64 0, .slice none 0 0] 54 ?_; intro gb1393 hg w21 hbox hb; replace HO1386 := Aside0.mk (Kd.S_below (by (with_reducible repeat (first | apply Kd.S_alloc | apply Kd.S_drewN | apply Kd.S_drew)); exact HO1386.out) hb); replace HO1392 := Aside0.mk (Kd.S_below (by (with_reducible repeat (first | apply Kd.S_alloc | apply Kd.S_drewN | apply Kd.S_drew)); exact HO1392.out) hb); have BK1393 := Aside0.mk (hbox); have GE1393 := bG hg; replace HB := BS hb; have NB1381_1393 := bN BK1381 hg; have NB1393_1381 := bM BK1381 hg; replace BK1381 := KB BK1381 hb; clear hb hbox hg; obtain ⟨hnb22, hnc22⟩ := nn NB1393_1381; have hcz23 := cz2 BK1393; obtain ⟨Ao24, co24, eo24⟩ := Kd.S_slice HO1392.out; subst eo24) | ((with_reducible refine gate_callee (f := 35) rfl ?_); refine goesL_ (some 24) rfl rfl Tryz.func35 KR rfl #[.agg #[.int .i64 t1389, .slice Ao24 t1390.length co24]] rfl TA ?_; (with_reducible refine (impl_OldestIn.calls k t1389 _ _ t1390 t1394 t1395 _ ?side1 ?side2 ?side3 A10.out).mono ?_); (case side1 => refine (Kd.S_reads' (e := 107) (base := w.heap.size) (ok := fun k_ => (True ∧ some k_ ≠ (.slice Ao17 t1384.length co17 : Value).ownBlock)) (n := t1390.length) (c := co24) ?_).2.2; exact (by (with_reducible repeat (first | apply Kd.S_alloc | apply Kd.S_drewN | apply Kd.S_drew)); exact (Kd.S_mono (Kd.S_far (p := ⟨gb1393, 1, none⟩) (Kd.S_far (p := ⟨gb1393, 0, none⟩) (Kd.S_types HO1392.out BK1393.out (by decide)) (fun _ hk => hk.2) (.int .i64 t1389)) (fun _ hk => hk.2) (.slice Ao24 t1390.length co24)) (fun _ h_ => h_.1)))); (case side2 => exact (Kd.S_reads' HO1392.out).2.1); (case side3 => exact GW HGL); rintro e w25 ⟨rfl, hb⟩; refine ⟨_, rfl, ?_⟩; replace HO1386 := Aside0.mk (Kd.S_below (by (with_reducible repeat (first | apply Kd.S_alloc | apply Kd.S_drewN | apply Kd.S_drew)); exact (Kd.S_mono (Kd.S_far (p := ⟨gb1393, 1, none⟩) (Kd.S_far (p := ⟨gb1393, 0, none⟩) (Kd.S_types HO1386.out BK1393.out (by decide)) (fun _ hk => hk.2) (.int .i64 t1389)) (fun _ hk => hk.2) (.slice Ao24 t1390.length co24)) (fun _ h_ => h_.1))) hb); replace HO1392 := Aside0.mk (Kd.S_below (by (with_reducible repeat (first | apply Kd.S_alloc | apply Kd.S_drewN | apply Kd.S_drew)); exact (Kd.S_mono (Kd.S_far (p := ⟨gb1393, 1, none⟩) (Kd.S_far (p := ⟨gb1393, 0, none⟩) (Kd.S_types HO1392.out BK1393.out (by decide)) (fun _ hk => hk.2) (.int .i64 t1389)) (fun _ hk => hk.2) (.slice Ao24 t1390.length co24)) (fun _ h_ => h_.1))) hb); replace BK1381 := KF BK1381 hb; replace BK1393 := KP BK1393 #[.int .i64 t1389, .slice Ao24 t1390.length co24] hb; replace HB := BS hb; clear hb))
  (try simp only [Act.put, List.setIfInBounds_toArray, List.set_cons_zero, List.set_cons_succ])
  go_cut [34] (fun v34 wc => ∃ (kq : Nat) (x34_10 : Bool), v34 = .bool x34_10 ∧ Aside0 (laws_FnExactOldestIn.j0 kq x34_10 a0_0 l0_1 t1389 t1390 = some r) ∧ Aside0 (kq ≤ k) ∧ Aside0 (Kd.S k_Entry 107 wc w.heap.size (fun _ => True) (.slice Ao24 t1390.length co24) t1390) ∧ Aside0 (wc.heap[gb1381]? = some (.cells #[.int .i64 a0_0, (.slice A0_1 l0_1.length c0_1)] 49 (0, 0))) ∧ Aside0 (wc.heap[gb1393]? = some (.cells #[.int .i64 t1389, (.slice Ao24 t1390.length co24)] 54 (0, 0))) ∧ Aside0 (Below w.heap.size w wc))
  case first =>
   have H := HC11.out
   clear HC11
   by_cases c26 : t1394 = t1387
   ·rw [if_pos c26] at H
    have c26b0 : (t1394 == t1387) = true := beq_iff_eq.mpr c26
    have c26b1 : (t1394 != t1387) = false := bne_eq_false_iff_eq.mpr c26
    clear c26
    (first | rw [c26b0] | (simp only [i64_w, i32_w]; rw [c26b0]) | rw [c26b1] | skip)
    have H' := Aside0.mk H
    clear H
    go_wp2
    go_meet
    case rel => exact ⟨_, ((t1395 != t1388)), TF, H', ⟨by first | omega | exact Nat.le_refl _⟩, ⟨by (with_reducible repeat (first | apply Kd.S_alloc | apply Kd.S_drewN | apply Kd.S_drew)); exact Kd.S_mono HO1392.out (fun _ hk => trivial)⟩, KW BK1381, KW BK1393, ⟨TB⟩⟩
   ·rw [if_neg c26] at H
    have c26b0 : (t1394 == t1387) = false := beq_eq_false_iff_ne.mpr c26
    have c26b1 : (t1394 != t1387) = true := bne_iff_ne.mpr c26
    (first | rw [c26b0] | (simp only [i64_w, i32_w]; rw [c26b0]) | rw [c26b1] | skip)
    have H' := Aside0.mk H
    clear H
    go_wp2
    go_meet
    case rel => exact ⟨_, (true), TF, H', ⟨by first | omega | exact Nat.le_refl _⟩, ⟨by (with_reducible repeat (first | apply Kd.S_alloc | apply Kd.S_drewN | apply Kd.S_drew)); exact Kd.S_mono HO1392.out (fun _ hk => trivial)⟩, KW BK1381, KW BK1393, ⟨TB⟩⟩
  case rest =>
   clear HC11
   obtain ⟨kq, x34_10, rfl, HA, HJ10, HO_1394001, BK1381, BK1393, HB⟩ := hcut
   cases kq with
   | zero => exact absurd HA.out (by simp [laws_FnExactOldestIn.j0])
   | succ kj10 =>
    have H := HA.out
    clear HA
    simp only [laws_FnExactOldestIn.j0] at H
    by_cases c27 : x34_10 = true
    ·subst c27
     replace H := ift H
     obtain rfl := Option.some.inj H
     go_wp2
     go_ret
     exact ⟨TE, TB⟩
    ·replace c27 := Bool.eq_false_iff.mpr c27
     subst c27
     replace H := iff' H
     obtain ⟨⟨t1396, t1397⟩, A28, H⟩ := bnd H
     try dsimp only at H
     obtain ⟨t1400, A29, H⟩ := bnd H
     by_cases c30 : t1400 = true
     ·subst c30
      replace H := ift H
      obtain rfl := Option.some.inj H
      try go_wp2
      replace HO_1394001 := Aside0.mk (Kd.S_drew HO_1394001.out)
      replace BK1381 := Aside0.mk (blk_drew BK1381.out)
      replace BK1393 := Aside0.mk (blk_drew BK1393.out)
      replace HB := Aside0.mk (below_drew1 HB.out)
      refine start_ (n := 5) (S := fun w' => w'.cell? ⟨gb1393, 0, none⟩ = some (.int .i64 t1389) ∧ w'.cell? ⟨gb1393, 1, none⟩ = some (.slice Ao24 t1390.length co24) ∧ w'.cell? ⟨gb1381, 0, none⟩ = some (.int .i64 a0_0) ∧ w'.cell? ⟨gb1381, 1, none⟩ = some (.slice A0_1 l0_1.length c0_1)) (ds := []) #[false, false, false, false, false] KR rfl rfl ⟨bc 0 BK1393, bc 1 BK1393, bc 0 BK1381, bc 1 BK1381⟩ (fun hHeld => ?_)
      generalize wc.drew = w31 at HO_1394001 BK1381 BK1393 HB hHeld ⊢
      refine take_ (i := 0) (N := some 35) (v := ?_) (a' := ?_) #[true, false, false, false, false] rfl rfl KR (fun _ _ _ h => h) (Or.inl ⟨by rfl, ?_⟩) hHeld ?_ ?_
      rotate_left
      ·rintro w' ⟨s0, s1, s2, s3⟩
       go_simp
       with_reducible rfl
      rotate_left
      ·simp only [Act.put, List.setIfInBounds_toArray, List.set_cons_zero, List.set_cons_succ, i64_w, i32_w]
       rfl
      refine take_ (i := 1) (N := some 36) (v := ?_) (a' := ?_) #[true, true, false, false, false] rfl rfl KR (fun _ _ _ h => h) (Or.inl ⟨by rfl, ?_⟩) hHeld ?_ ?_
      rotate_left
      ·rintro w' ⟨s0, s1, s2, s3⟩
       go_simp
       with_reducible rfl
      rotate_left
      ·simp only [Act.put, List.setIfInBounds_toArray, List.set_cons_zero, List.set_cons_succ, i64_w, i32_w]
       rfl
      refine one_ (i := 2) (N := some 37) (mL 5 7) rfl rfl KR (by decide) (fun K hK => ?_)
      refine goes_ Tryz.func31 KR rfl #[.agg #[.int .i64 a0_0, .slice A0_1 l0_1.length c0_1]] (by rfl) rfl rfl TA ?_
      with_reducible refine (laws_toCache.calls kj10 a0_0 _ _ l0_1 t1396 t1397 _ ?side1 ?side2 A28.out).mono ?_
      (case side1 => exact CW ((Kd.C_below HR0_1.out HB.out)))
      (case side2 => exact HC0_1.out)
      rintro e w32 ⟨v1398, rfl, ho0, hb⟩
      refine ⟨_, rfl, ?_⟩
      have HO1399 := Aside0.mk (Kd.S_lower (Kd.S_new' ho0 (Kd.S_lt (by (with_reducible repeat (first | apply Kd.S_alloc | apply Kd.S_drewN | apply Kd.S_drew)); exact HO_1394001.out))) (below_size TB))
      replace HO_1394001 := Aside0.mk (Kd.S_elder' (by (with_reducible repeat (first | apply Kd.S_alloc | apply Kd.S_drewN | apply Kd.S_drew)); exact HO_1394001.out) (Kd.S_base ho0) hb)
      replace BK1381 := KB BK1381 hb
      replace BK1393 := KB BK1393 hb
      replace HB := BS hb
      (try clear hb)
      (try clear hb2)
      (try clear hk)
      (try clear hi)
      (try clear ho0)
      obtain ⟨Ao33, co33, eo33⟩ := Kd.S_slice HO1399.out
      (first | subst eo33 | (injection eo33 with f1_ f2_ f3_; have f4_ := f1_.symm; have f5_ := f3_.symm; clear f1_ f2_ f3_; subst f4_; subst f5_))
      refine hK.out _ _ ⟨bc 0 BK1393, bc 1 BK1393, bc 0 BK1381, bc 1 BK1381⟩ (fun hHeld => ?_)
      clear hK K
      refine nA ?_
      refine one_ (i := 3) (N := some 38) (mL 5 15) rfl rfl KR (by decide) (fun K hK => ?_)
      refine goes_ Tryz.func33 KR rfl #[.agg #[.int .i64 t1389, .slice Ao24 t1390.length co24], .agg #[.int .i64 t1396, .slice Ao33 t1397.length co33]] (by rfl) rfl rfl TA ?_
      with_reducible refine (laws_eqCache.calls kj10 t1389 _ _ t1390 t1396 _ _ t1397 true _ ?side1 ?side2 ?side3 ?side4 A29.out).mono ?_
      (case side1 => exact CW ((Kd.S_reads' HO_1394001.out).2.2))
      (case side2 => exact (Kd.S_reads' HO_1394001.out).2.1)
      (case side3 => exact CW ((Kd.S_reads' HO1399.out).2.2))
      (case side4 => exact (Kd.S_reads' HO1399.out).2.1)
      rintro e w34 ⟨rfl, hb⟩
      refine ⟨_, rfl, ?_⟩
      replace HO_1394001 := Aside0.mk (Kd.S_below (by (with_reducible repeat (first | apply Kd.S_alloc | apply Kd.S_drewN | apply Kd.S_drew)); exact HO_1394001.out) hb)
      replace HO1399 := Aside0.mk (Kd.S_below (by (with_reducible repeat (first | apply Kd.S_alloc | apply Kd.S_drewN | apply Kd.S_drew)); exact HO1399.out) hb)
      replace BK1381 := KB BK1381 hb
      replace BK1393 := KB BK1393 hb
      replace HB := BS hb
      (try clear hb)
      (try clear hb2)
      (try clear hk)
      (try clear hi)
      refine hK.out _ _ ⟨bc 0 BK1393, bc 1 BK1393, bc 0 BK1381, bc 1 BK1381⟩ (fun hHeld => ?_)
      clear hK K
      refine nA ?_
      refine pure_ (i := 4) (N := some 39) (v := ?_) (a' := ?_) #[true, true, true, true, true] rfl rfl KR (fun _ _ _ h => h) (Or.inl ⟨by rfl, ?_⟩) ?_ ?_
      rotate_left
      ·intro w'
       go_simp
       with_reducible rfl
      rotate_left
      ·simp only [Act.put, List.setIfInBounds_toArray, List.set_cons_zero, List.set_cons_succ, i64_w, i32_w]
       rfl
      refine done_ KR ?_
      try go_wp2
      go_ret
      exact ⟨TE, TB⟩
     ·replace c30 := Bool.eq_false_iff.mpr c30
      subst c30
      replace H := iff' H
      obtain rfl := Option.some.inj H
      try go_wp2
      replace HO_1394001 := Aside0.mk (Kd.S_drew HO_1394001.out)
      replace BK1381 := Aside0.mk (blk_drew BK1381.out)
      replace BK1393 := Aside0.mk (blk_drew BK1393.out)
      replace HB := Aside0.mk (below_drew1 HB.out)
      refine start_ (n := 5) (S := fun w' => w'.cell? ⟨gb1393, 0, none⟩ = some (.int .i64 t1389) ∧ w'.cell? ⟨gb1393, 1, none⟩ = some (.slice Ao24 t1390.length co24) ∧ w'.cell? ⟨gb1381, 0, none⟩ = some (.int .i64 a0_0) ∧ w'.cell? ⟨gb1381, 1, none⟩ = some (.slice A0_1 l0_1.length c0_1)) (ds := []) #[false, false, false, false, false] KR rfl rfl ⟨bc 0 BK1393, bc 1 BK1393, bc 0 BK1381, bc 1 BK1381⟩ (fun hHeld => ?_)
      generalize wc.drew = w35 at HO_1394001 BK1381 BK1393 HB hHeld ⊢
      refine take_ (i := 0) (N := some 35) (v := ?_) (a' := ?_) #[true, false, false, false, false] rfl rfl KR (fun _ _ _ h => h) (Or.inl ⟨by rfl, ?_⟩) hHeld ?_ ?_
      rotate_left
      ·rintro w' ⟨s0, s1, s2, s3⟩
       go_simp
       with_reducible rfl
      rotate_left
      ·simp only [Act.put, List.setIfInBounds_toArray, List.set_cons_zero, List.set_cons_succ, i64_w, i32_w]
       rfl
      refine take_ (i := 1) (N := some 36) (v := ?_) (a' := ?_) #[true, true, false, false, false] rfl rfl KR (fun _ _ _ h => h) (Or.inl ⟨by rfl, ?_⟩) hHeld ?_ ?_
      rotate_left
      ·rintro w' ⟨s0, s1, s2, s3⟩
       go_simp
       with_reducible rfl
      rotate_left
      ·simp only [Act.put, List.setIfInBounds_toArray, List.set_cons_zero, List.set_cons_succ, i64_w, i32_w]
       rfl
      refine one_ (i := 2) (N := some 37) (mL 5 7) rfl rfl KR (by decide) (fun K hK => ?_)
      refine goes_ Tryz.func31 KR rfl #[.agg #[.int .i64 a0_0, .slice A0_1 l0_1.length c0_1]] (by rfl) rfl rfl TA ?_
      with_reducible refine (laws_toCache.calls kj10 a0_0 _ _ l0_1 t1396 t1397 _ ?side1 ?side2 A28.out).mono ?_
      (case side1 => exact CW ((Kd.C_below HR0_1.out HB.out)))
      (case side2 => exact HC0_1.out)
      rintro e w36 ⟨v1398, rfl, ho0, hb⟩
      refine ⟨_, rfl, ?_⟩
      have HO1399 := Aside0.mk (Kd.S_lower (Kd.S_new' ho0 (Kd.S_lt (by (with_reducible repeat (first | apply Kd.S_alloc | apply Kd.S_drewN | apply Kd.S_drew)); exact HO_1394001.out))) (below_size TB))
      replace HO_1394001 := Aside0.mk (Kd.S_elder' (by (with_reducible repeat (first | apply Kd.S_alloc | apply Kd.S_drewN | apply Kd.S_drew)); exact HO_1394001.out) (Kd.S_base ho0) hb)
      replace BK1381 := KB BK1381 hb
      replace BK1393 := KB BK1393 hb
      replace HB := BS hb
      (try clear hb)
      (try clear hb2)
      (try clear hk)
      (try clear hi)
      (try clear ho0)
      obtain ⟨Ao37, co37, eo37⟩ := Kd.S_slice HO1399.out
      (first | subst eo37 | (injection eo37 with f1_ f2_ f3_; have f4_ := f1_.symm; have f5_ := f3_.symm; clear f1_ f2_ f3_; subst f4_; subst f5_))
      refine hK.out _ _ ⟨bc 0 BK1393, bc 1 BK1393, bc 0 BK1381, bc 1 BK1381⟩ (fun hHeld => ?_)
      clear hK K
      refine nA ?_
      refine one_ (i := 3) (N := some 38) (mL 5 15) rfl rfl KR (by decide) (fun K hK => ?_)
      refine goes_ Tryz.func33 KR rfl #[.agg #[.int .i64 t1389, .slice Ao24 t1390.length co24], .agg #[.int .i64 t1396, .slice Ao37 t1397.length co37]] (by rfl) rfl rfl TA ?_
      with_reducible refine (laws_eqCache.calls kj10 t1389 _ _ t1390 t1396 _ _ t1397 false _ ?side1 ?side2 ?side3 ?side4 A29.out).mono ?_
      (case side1 => exact CW ((Kd.S_reads' HO_1394001.out).2.2))
      (case side2 => exact (Kd.S_reads' HO_1394001.out).2.1)
      (case side3 => exact CW ((Kd.S_reads' HO1399.out).2.2))
      (case side4 => exact (Kd.S_reads' HO1399.out).2.1)
      rintro e w38 ⟨rfl, hb⟩
      refine ⟨_, rfl, ?_⟩
      replace HO_1394001 := Aside0.mk (Kd.S_below (by (with_reducible repeat (first | apply Kd.S_alloc | apply Kd.S_drewN | apply Kd.S_drew)); exact HO_1394001.out) hb)
      replace HO1399 := Aside0.mk (Kd.S_below (by (with_reducible repeat (first | apply Kd.S_alloc | apply Kd.S_drewN | apply Kd.S_drew)); exact HO1399.out) hb)
      replace BK1381 := KB BK1381 hb
      replace BK1393 := KB BK1393 hb
      replace HB := BS hb
      (try clear hb)
      (try clear hb2)
      (try clear hk)
      (try clear hi)
      refine hK.out _ _ ⟨bc 0 BK1393, bc 1 BK1393, bc 0 BK1381, bc 1 BK1381⟩ (fun hHeld => ?_)
      clear hK K
      refine nA ?_
      refine pure_ (i := 4) (N := some 39) (v := ?_) (a' := ?_) #[true, true, true, true, true] rfl rfl KR (fun _ _ _ h => h) (Or.inl ⟨by rfl, ?_⟩) ?_ ?_
      rotate_left
      ·intro w'
       go_simp
       with_reducible rfl
      rotate_left
      ·simp only [Act.put, List.setIfInBounds_toArray, List.set_cons_zero, List.set_cons_succ, i64_w, i32_w]
       rfl
      refine done_ KR ?_
      try go_wp2
      go_ret
      exact ⟨TE, TB⟩

/-- THE ONE PURE STATEMENT of laws_FnExactOldestIn. -/
def laws_FnExactOldestIn.Pure : Prop := ∀ (a0_0 : Int) (l0_1 : List (S_LEntry)), ((Lit.int .i64 a0_0).wf = true) → (l0_1.length ≤ maxLen ∧ ∀ x_ ∈ l0_1, WF_LEntry x_) → ∃ k, laws_FnExactOldestIn.f k a0_0 l0_1 = some true
end
section
/-! ### spec_l6List: function 62 -/
def spec_l6List.l0 : Nat → List (S_Record) → List (S_Record) → Int → Int → Option (Bool)
 | 0, _, _, _, _ => none
 | k + 1, x0, x5, x6, x7 => if x7 < x6 then (if 0 ≤ x7 then (if x7 < (x5.length : Int) then ((spec_GoodRecord.f k ((rd_TRecord x5 x7).f0) ((rd_TRecord x5 x7).f1) ((rd_TRecord x5 x7).f2) ((rd_TRecord x5 x7).f3)).bind fun t218 => (if t218 = true then (if x7 > 0 then (if 0 ≤ (wrap64 (x7 - 1)) then (if (wrap64 (x7 - 1)) < (x0.length : Int) then ((spec_l3Compare.f k ((rd_TRecord x0 (wrap64 (x7 - 1))).f0) ((rd_TRecord x0 (wrap64 (x7 - 1))).f1) ((rd_TRecord x0 (wrap64 (x7 - 1))).f2) ((rd_TRecord x0 (wrap64 (x7 - 1))).f3) ((rd_TRecord x5 x7).f0) ((rd_TRecord x5 x7).f1) ((rd_TRecord x5 x7).f2) ((rd_TRecord x5 x7).f3)).bind fun t220 => (if t220 ≥ 0 then (some false) else (spec_l6List.l0 k x0 x5 x6 (wrap64 (x7 + 1))))) else (none)) else (none)) else (spec_l6List.l0 k x0 x5 x6 (wrap64 (x7 + 1)))) else (some false))) else (none)) else (none)) else (some (decide ((x0.length : Int) ≤ 40)))
def spec_l6List.f (k : Nat) (l0 : List (S_Record)) : Option (Bool) := spec_l6List.l0 k l0 l0 (l0.length : Int) 0
def spec_l6List.T4 : Bool × List (List Nat × List Nat) := (true, [([], []), ([0], [0]), ([1], [1]), ([2, 1], [2]), ([3], [3]), ([4, 3], [3, 4]), ([5, 3, 3], [3, 5]), ([6], [6]), ([6], [6]), ([8, 6], [6, 8]), ([7, 9, 6], [6, 7, 9]), ([10, 6], [6, 10]), ([6], [6]), ([11, 12, 6, 6], [6, 11, 12]), ([13, 6], [6, 13]), ([6, 14, 3], [3, 6, 14]), ([3, 15], [3, 15])])
def spec_l6List.B4 : List Nat := [0, 1, 3, 7, 15, 31, 63, 127, 127, 383, 1023, 2047, 127, 8191, 16383, 32767, 65535]
theorem spec_l6List.tab4 : rtab .any (opsOf Tryz.f62 4) = spec_l6List.T4 := by kernel_rfl
theorem spec_l6List.bits4 : waitsOk spec_l6List.T4.2 spec_l6List.B4 = true := by kernel_rfl
theorem spec_l6List.calls (k : Nat) (A0 : Option Addr) (c0 : Nat) (l0 : List (S_Record)) (r : Bool) (w : World) (hr0 : Kd.C k_Record w A0 l0.length l0) (hc0 : l0.length ≤ c0) (h : spec_l6List.f k l0 = some r) :
  Calls Tryz.prog 62 #[.slice A0 l0.length c0] w fun e w' => e = .returned (.bool r) ∧ Below w.heap.size w w' := by
 have hu93 := Tryz.underlying93
 have HR0 := Aside0.mk hr0
 have HC0 := Aside0.mk hc0
 clear hr0 hc0
 have HB := Aside0.mk (Below.refl w.heap.size w)
 have H : (spec_l6List.l0 k l0 l0 (l0.length : Int) 0) = some r := h
 clear h
 have H' := Aside0.mk H
 clear H
 go_enter Tryz.func62, Tryz.ntmps62
 go_wp2
 go_loopg [7] k (fun kq v7 w' => ∃ (x7_1 : Int), v7 = .int .i64 x7_1 ∧ Aside0 (spec_l6List.l0 kq l0 l0 (l0.length : Int) x7_1 = some r) ∧ Aside0 (kq ≤ k) ∧ Aside0 (Below w.heap.size w w'))
 case atStart => exact ⟨(0), TF, H', ⟨Nat.le_refl _⟩, ⟨TB⟩⟩
 case round =>
  clear H'
  obtain ⟨x7_1, rfl, HA, HK1, HB⟩ := hrel
  cases gk with
  | zero => exact absurd HA.out (by simp [spec_l6List.l0])
  | succ k1 =>
   have H := HA.out
   clear HA
   simp only [spec_l6List.l0] at H
   by_cases c2 : x7_1 < (l0.length : Int)
   ·rw [if_pos c2] at H
    have c2b0 : decide (x7_1 < (l0.length : Int)) = true := decide_eq_true c2
    clear c2
    obtain ⟨c3, H⟩ := ifn H
    have c3b0 : decide (0 ≤ x7_1) = true := decide_eq_true c3
    clear c3
    obtain ⟨c4, H⟩ := ifn H
    have c4b0 : decide (x7_1 < (l0.length : Int)) = true := decide_eq_true c4
    clear c4
    obtain ⟨t218, A5, H⟩ := bnd H
    by_cases c6 : t218 = true
    ·subst c6
     replace H := ift H
     by_cases c7 : x7_1 > 0
     ·rw [if_pos c7] at H
      have c7b0 : decide (0 < x7_1) = true := decide_eq_true c7
      clear c7
      obtain ⟨ji8, hji8⟩ : ∃ j_ : Int, (wrap64 (x7_1 - 1)) = j_ := ⟨_, rfl⟩
      replace H : (if 0 ≤ (ji8) then (if (ji8) < (l0.length : Int) then ((spec_l3Compare.f k1 ((rd_TRecord l0 (ji8)).f0) ((rd_TRecord l0 (ji8)).f1) ((rd_TRecord l0 (ji8)).f2) ((rd_TRecord l0 (ji8)).f3) ((rd_TRecord l0 x7_1).f0) ((rd_TRecord l0 x7_1).f1) ((rd_TRecord l0 x7_1).f2) ((rd_TRecord l0 x7_1).f3)).bind fun t220 => (if t220 ≥ 0 then (some false) else (spec_l6List.l0 k1 l0 l0 (l0.length : Int) (wrap64 (x7_1 + 1))))) else (none)) else (none)) = some r := by first | (rw [hji8] at H; exact H) | (simp only [hji8] at H ⊢; exact H)
      (try rw [hji8] at A5)
      have hji8w : (IntKind.i64.wrap (x7_1 - 1)) = ji8 := (i64_w _).trans hji8
      obtain ⟨c9, H⟩ := ifn H
      have c9b0 : decide (0 ≤ (ji8)) = true := decide_eq_true c9
      clear c9
      obtain ⟨c10, H⟩ := ifn H
      have c10b0 : decide ((ji8) < (l0.length : Int)) = true := decide_eq_true c10
      clear c10
      obtain ⟨t220, A11, H⟩ := bnd H
      by_cases c12 : t220 ≥ 0
      ·rw [if_pos c12] at H
       have c12b0 : decide (0 ≤ t220) = true := decide_eq_true c12
       clear c12
       obtain rfl := Option.some.inj H
       have p216 : 0 ≤ (x7_1 : Int) := TD
       have q216 : x7_1 < (l0.length : Int) := TD
       obtain ⟨ad216, e216, hx216_0, hx216_1, hx216_2, hx216_3⟩ := at_TRecord (Kd.C_below HR0.out HB.out) x7_1 p216 q216
       cases e216
       replace p216 := eq_true p216
       replace q216 := eq_true q216
       try go_wp2_with (first | ((with_reducible refine gate_dst (N := 4) rfl ?_); refine bE 4 #[.string (⟨#[]⟩ : ByteArray), .int .i64 0, .int .i64 0, .string (⟨#[]⟩ : ByteArray)] 93 ?_; intro gb217 hg w13 hbox hb; have BK217 := Aside0.mk (hbox); have GE217 := bG hg; replace HB := BS hb; clear hb hbox hg; have hcz14 := cz4 BK217))
       have n0_ : Aside0 (((((w13.setCell ⟨gb217, 0, none⟩ (.string ((rd_TRecord l0 x7_1).f0))).setCell ⟨gb217, 1, none⟩ (.int .i64 ((rd_TRecord l0 x7_1).f1))).setCell ⟨gb217, 2, none⟩ (.int .i64 ((rd_TRecord l0 x7_1).f2))).setCell ⟨gb217, 3, none⟩ (.string ((rd_TRecord l0 x7_1).f3))).heap[gb217]? = some (.cells #[.string ((rd_TRecord l0 x7_1).f0), .int .i64 ((rd_TRecord l0 x7_1).f1), .int .i64 ((rd_TRecord l0 x7_1).f2), .string ((rd_TRecord l0 x7_1).f3)] 93 (0, 0))) := ⟨TS⟩
       have n1_ : Aside0 (Below w.heap.size w ((((w13.setCell ⟨gb217, 0, none⟩ (.string ((rd_TRecord l0 x7_1).f0))).setCell ⟨gb217, 1, none⟩ (.int .i64 ((rd_TRecord l0 x7_1).f1))).setCell ⟨gb217, 2, none⟩ (.int .i64 ((rd_TRecord l0 x7_1).f2))).setCell ⟨gb217, 3, none⟩ (.string ((rd_TRecord l0 x7_1).f3)))) := ⟨TB⟩
       (try clear BK217)
       (try clear HB)
       generalize ((((w13.setCell ⟨gb217, 0, none⟩ (.string ((rd_TRecord l0 x7_1).f0))).setCell ⟨gb217, 1, none⟩ (.int .i64 ((rd_TRecord l0 x7_1).f1))).setCell ⟨gb217, 2, none⟩ (.int .i64 ((rd_TRecord l0 x7_1).f2))).setCell ⟨gb217, 3, none⟩ (.string ((rd_TRecord l0 x7_1).f3))) = w15 at n0_ n1_ ⊢
       have BK217 := n0_
       have HB := n1_
       clear n0_ n1_
       replace BK217 := Aside0.mk (blk_drew BK217.out)
       replace HB := Aside0.mk (below_drew1 HB.out)
       have p219 : 0 ≤ ((ji8) : Int) := TD
       have q219 : (ji8) < (l0.length : Int) := TD
       obtain ⟨ad219, e219, hx219_0, hx219_1, hx219_2, hx219_3⟩ := at_TRecord HR0.out (ji8) p219 q219
       have hw219_3 := hx219_3
       have hw219_2 := hx219_2
       have hw219_1 := hx219_1
       have hw219_0 := hx219_0
       obtain rfl : ad216 = ad219 := (by injection e219)
       replace hx219_0 := hBc HB hx219_0
       replace hx219_1 := hBc HB hx219_1
       replace hx219_2 := hBc HB hx219_2
       replace hx219_3 := hBc HB hx219_3
       replace p219 := eq_true p219
       replace q219 := eq_true q219
       refine start_ (n := 17) (S := fun w' => w'.cell? ⟨gb217, 0, none⟩ = some (.string ((rd_TRecord l0 x7_1).f0)) ∧ w'.cell? ⟨gb217, 1, none⟩ = some (.int .i64 ((rd_TRecord l0 x7_1).f1)) ∧ w'.cell? ⟨gb217, 2, none⟩ = some (.int .i64 ((rd_TRecord l0 x7_1).f2)) ∧ w'.cell? ⟨gb217, 3, none⟩ = some (.string ((rd_TRecord l0 x7_1).f3)) ∧ w'.cell? (ad216.add (((ji8)).toNat * 4)) = some (.string ((rd_TRecord l0 (ji8)).f0)) ∧ w'.cell? ⟨(ad216.add (((ji8)).toNat * 4)).block, (ad216.add (((ji8)).toNat * 4)).off + 1, none⟩ = some (.int .i64 ((rd_TRecord l0 (ji8)).f1)) ∧ w'.cell? ⟨(ad216.add (((ji8)).toNat * 4)).block, (ad216.add (((ji8)).toNat * 4)).off + 2, none⟩ = some (.int .i64 ((rd_TRecord l0 (ji8)).f2)) ∧ w'.cell? ⟨(ad216.add (((ji8)).toNat * 4)).block, (ad216.add (((ji8)).toNat * 4)).off + 3, none⟩ = some (.string ((rd_TRecord l0 (ji8)).f3))) (ds := []) #[false, false, false, false, false, false, false, false, false, false, false, false, false, false, false, false, false] KR rfl rfl ⟨bc 0 BK217, bc 1 BK217, bc 2 BK217, bc 3 BK217, ((HB.out.cell (World.block_lt_of_cell? w _ hw219_0)).trans hw219_0), ((HB.out.cell (World.block_lt_of_cell? w _ hw219_1)).trans hw219_1), ((HB.out.cell (World.block_lt_of_cell? w _ hw219_2)).trans hw219_2), ((HB.out.cell (World.block_lt_of_cell? w _ hw219_3)).trans hw219_3)⟩ (fun hHeld => ?_); refine with_tabW spec_l6List.tab4 spec_l6List.bits4 (fun HT_ HW_ => ?_)
       generalize w15.drew = w16 at BK217 HB hx219_0 hx219_1 hx219_2 hx219_3 hHeld ⊢
       refine tA 0 12 (mL 17 1) HT_ HW_ hHeld rfl rfl (by rintro w' ⟨s0, s1, s2, s3, s4, s5, s6, s7⟩; go_simp; with_reducible rfl) ?_
       refine one_ (i := 1) (N := some 13) (mL 17 3) rfl rfl (one_of HT_.out KR) (by decide) (fun K hK => ?_)
       refine goes_ Tryz.func118 KR rfl #[.agg #[.string ((rd_TRecord l0 x7_1).f0), .int .i64 ((rd_TRecord l0 x7_1).f1), .int .i64 ((rd_TRecord l0 x7_1).f2), .string ((rd_TRecord l0 x7_1).f3)]] (by rfl) rfl rfl TA ?_
       with_reducible refine (spec_GoodRecord.calls k1 ((rd_TRecord l0 x7_1).f0) ((rd_TRecord l0 x7_1).f1) ((rd_TRecord l0 x7_1).f2) ((rd_TRecord l0 x7_1).f3) true _ A5.out).mono ?_
       rintro e w17 ⟨rfl, hb⟩
       refine ⟨_, rfl, ?_⟩
       replace BK217 := KB BK217 hb
       replace HB := BS hb
       (try clear hb)
       (try clear hb2)
       (try clear hk)
       (try clear hi)
       refine hK.out _ _ ⟨bc 0 BK217, bc 1 BK217, bc 2 BK217, bc 3 BK217, ((HB.out.cell (World.block_lt_of_cell? w _ hw219_0)).trans hw219_0), ((HB.out.cell (World.block_lt_of_cell? w _ hw219_1)).trans hw219_1), ((HB.out.cell (World.block_lt_of_cell? w _ hw219_2)).trans hw219_2), ((HB.out.cell (World.block_lt_of_cell? w _ hw219_3)).trans hw219_3)⟩ (fun hHeld => ?_)
       clear hK K
       refine nA ?_
       refine pA 2 14 (mL 17 7) HT_ rfl rfl ?_
       refine pA 3 15 (mL 17 15) HT_ rfl rfl ?_
       refine pA 4 16 (mL 17 31) HT_ rfl rfl ?_
       refine pA 5 17 (mL 17 63) HT_ rfl rfl ?_
       refine pA 6 18 (mL 17 127) HT_ rfl rfl ?_
       refine pA 7 19 (mL 17 255) HT_ rfl rfl ?_
       refine pA 8 20 (mL 17 511) HT_ rfl rfl ?_
       refine pA 9 21 (mL 17 1023) HT_ rfl rfl ?_
       refine pA 10 22 (mL 17 2047) HT_ rfl rfl ?_
       refine tA 11 23 (mL 17 4095) HT_ HW_ hHeld rfl rfl (by rintro w' ⟨s0, s1, s2, s3, s4, s5, s6, s7⟩; go_simp; with_reducible rfl) ?_
       refine tA 12 24 (mL 17 8191) HT_ HW_ hHeld rfl rfl (by rintro w' ⟨s0, s1, s2, s3, s4, s5, s6, s7⟩; go_simp; with_reducible rfl) ?_
       refine one_ (i := 13) (N := some 25) (mL 17 16383) rfl rfl (one_of HT_.out KR) (by decide) (fun K hK => ?_)
       refine goes_ Tryz.func119 KR rfl #[.agg #[.string ((rd_TRecord l0 (ji8)).f0), .int .i64 ((rd_TRecord l0 (ji8)).f1), .int .i64 ((rd_TRecord l0 (ji8)).f2), .string ((rd_TRecord l0 (ji8)).f3)], .agg #[.string ((rd_TRecord l0 x7_1).f0), .int .i64 ((rd_TRecord l0 x7_1).f1), .int .i64 ((rd_TRecord l0 x7_1).f2), .string ((rd_TRecord l0 x7_1).f3)]] (by rfl) rfl rfl (by (try simp only [List.map_toArray, List.map_cons, List.map_nil]); first | done | (simp only [hji8]; rfl) | rfl | (simp only [List.length_drop, List.length_take]; rfl)) ?_
       with_reducible refine (spec_l3Compare.calls k1 ((rd_TRecord l0 (ji8)).f0) ((rd_TRecord l0 (ji8)).f1) ((rd_TRecord l0 (ji8)).f2) ((rd_TRecord l0 (ji8)).f3) ((rd_TRecord l0 x7_1).f0) ((rd_TRecord l0 x7_1).f1) ((rd_TRecord l0 x7_1).f2) ((rd_TRecord l0 x7_1).f3) t220 _ A11.out).mono ?_
       rintro e w18 ⟨rfl, hb⟩
       refine ⟨_, rfl, ?_⟩
       replace BK217 := KB BK217 hb
       replace HB := BS hb
       (try clear hb)
       (try clear hb2)
       (try clear hk)
       (try clear hi)
       refine hK.out _ _ ⟨bc 0 BK217, bc 1 BK217, bc 2 BK217, bc 3 BK217, ((HB.out.cell (World.block_lt_of_cell? w _ hw219_0)).trans hw219_0), ((HB.out.cell (World.block_lt_of_cell? w _ hw219_1)).trans hw219_1), ((HB.out.cell (World.block_lt_of_cell? w _ hw219_2)).trans hw219_2), ((HB.out.cell (World.block_lt_of_cell? w _ hw219_3)).trans hw219_3)⟩ (fun hHeld => ?_)
       clear hK K
       refine nA ?_
       refine pA 14 26 (mL 17 32767) HT_ rfl rfl ?_
       refine pA 15 27 (mL 17 65535) HT_ rfl rfl ?_
       refine pA 16 28 (mL 17 131071) HT_ rfl rfl ?_
       refine done_ (done_of HT_.out KR) ?_
       try go_wp2
       go_ret
       exact ⟨by first | rfl | (simp [errW_none, errW_some] <;> rfl) | (simp only [← hji8]; first | rfl | (simp [errW_none, errW_some] <;> rfl)) | (simp [*, errW_none, errW_some] <;> rfl), TB⟩
      ·rw [if_neg c12] at H
       have c12b0 : decide (0 ≤ t220) = false := decide_eq_false c12
       clear c12
       have H' := Aside0.mk H
       clear H
       have p216 : 0 ≤ (x7_1 : Int) := TD
       have q216 : x7_1 < (l0.length : Int) := TD
       obtain ⟨ad216, e216, hx216_0, hx216_1, hx216_2, hx216_3⟩ := at_TRecord (Kd.C_below HR0.out HB.out) x7_1 p216 q216
       cases e216
       replace p216 := eq_true p216
       replace q216 := eq_true q216
       try go_wp2_with (first | ((with_reducible refine gate_dst (N := 4) rfl ?_); refine bE 4 #[.string (⟨#[]⟩ : ByteArray), .int .i64 0, .int .i64 0, .string (⟨#[]⟩ : ByteArray)] 93 ?_; intro gb217 hg w19 hbox hb; have BK217 := Aside0.mk (hbox); have GE217 := bG hg; replace HB := BS hb; clear hb hbox hg; have hcz20 := cz4 BK217))
       have n0_ : Aside0 (((((w19.setCell ⟨gb217, 0, none⟩ (.string ((rd_TRecord l0 x7_1).f0))).setCell ⟨gb217, 1, none⟩ (.int .i64 ((rd_TRecord l0 x7_1).f1))).setCell ⟨gb217, 2, none⟩ (.int .i64 ((rd_TRecord l0 x7_1).f2))).setCell ⟨gb217, 3, none⟩ (.string ((rd_TRecord l0 x7_1).f3))).heap[gb217]? = some (.cells #[.string ((rd_TRecord l0 x7_1).f0), .int .i64 ((rd_TRecord l0 x7_1).f1), .int .i64 ((rd_TRecord l0 x7_1).f2), .string ((rd_TRecord l0 x7_1).f3)] 93 (0, 0))) := ⟨TS⟩
       have n1_ : Aside0 (Below w.heap.size w ((((w19.setCell ⟨gb217, 0, none⟩ (.string ((rd_TRecord l0 x7_1).f0))).setCell ⟨gb217, 1, none⟩ (.int .i64 ((rd_TRecord l0 x7_1).f1))).setCell ⟨gb217, 2, none⟩ (.int .i64 ((rd_TRecord l0 x7_1).f2))).setCell ⟨gb217, 3, none⟩ (.string ((rd_TRecord l0 x7_1).f3)))) := ⟨TB⟩
       (try clear BK217)
       (try clear HB)
       generalize ((((w19.setCell ⟨gb217, 0, none⟩ (.string ((rd_TRecord l0 x7_1).f0))).setCell ⟨gb217, 1, none⟩ (.int .i64 ((rd_TRecord l0 x7_1).f1))).setCell ⟨gb217, 2, none⟩ (.int .i64 ((rd_TRecord l0 x7_1).f2))).setCell ⟨gb217, 3, none⟩ (.string ((rd_TRecord l0 x7_1).f3))) = w21 at n0_ n1_ ⊢
       have BK217 := n0_
       have HB := n1_
       clear n0_ n1_
       replace BK217 := Aside0.mk (blk_drew BK217.out)
       replace HB := Aside0.mk (below_drew1 HB.out)
       have p219 : 0 ≤ ((ji8) : Int) := TD
       have q219 : (ji8) < (l0.length : Int) := TD
       obtain ⟨ad219, e219, hx219_0, hx219_1, hx219_2, hx219_3⟩ := at_TRecord HR0.out (ji8) p219 q219
       have hw219_3 := hx219_3
       have hw219_2 := hx219_2
       have hw219_1 := hx219_1
       have hw219_0 := hx219_0
       obtain rfl : ad216 = ad219 := (by injection e219)
       replace hx219_0 := hBc HB hx219_0
       replace hx219_1 := hBc HB hx219_1
       replace hx219_2 := hBc HB hx219_2
       replace hx219_3 := hBc HB hx219_3
       replace p219 := eq_true p219
       replace q219 := eq_true q219
       refine start_ (n := 17) (S := fun w' => w'.cell? ⟨gb217, 0, none⟩ = some (.string ((rd_TRecord l0 x7_1).f0)) ∧ w'.cell? ⟨gb217, 1, none⟩ = some (.int .i64 ((rd_TRecord l0 x7_1).f1)) ∧ w'.cell? ⟨gb217, 2, none⟩ = some (.int .i64 ((rd_TRecord l0 x7_1).f2)) ∧ w'.cell? ⟨gb217, 3, none⟩ = some (.string ((rd_TRecord l0 x7_1).f3)) ∧ w'.cell? (ad216.add (((ji8)).toNat * 4)) = some (.string ((rd_TRecord l0 (ji8)).f0)) ∧ w'.cell? ⟨(ad216.add (((ji8)).toNat * 4)).block, (ad216.add (((ji8)).toNat * 4)).off + 1, none⟩ = some (.int .i64 ((rd_TRecord l0 (ji8)).f1)) ∧ w'.cell? ⟨(ad216.add (((ji8)).toNat * 4)).block, (ad216.add (((ji8)).toNat * 4)).off + 2, none⟩ = some (.int .i64 ((rd_TRecord l0 (ji8)).f2)) ∧ w'.cell? ⟨(ad216.add (((ji8)).toNat * 4)).block, (ad216.add (((ji8)).toNat * 4)).off + 3, none⟩ = some (.string ((rd_TRecord l0 (ji8)).f3))) (ds := []) #[false, false, false, false, false, false, false, false, false, false, false, false, false, false, false, false, false] KR rfl rfl ⟨bc 0 BK217, bc 1 BK217, bc 2 BK217, bc 3 BK217, ((HB.out.cell (World.block_lt_of_cell? w _ hw219_0)).trans hw219_0), ((HB.out.cell (World.block_lt_of_cell? w _ hw219_1)).trans hw219_1), ((HB.out.cell (World.block_lt_of_cell? w _ hw219_2)).trans hw219_2), ((HB.out.cell (World.block_lt_of_cell? w _ hw219_3)).trans hw219_3)⟩ (fun hHeld => ?_); refine with_tabW spec_l6List.tab4 spec_l6List.bits4 (fun HT_ HW_ => ?_)
       generalize w21.drew = w22 at BK217 HB hx219_0 hx219_1 hx219_2 hx219_3 hHeld ⊢
       refine tA 0 12 (mL 17 1) HT_ HW_ hHeld rfl rfl (by rintro w' ⟨s0, s1, s2, s3, s4, s5, s6, s7⟩; go_simp; with_reducible rfl) ?_
       refine one_ (i := 1) (N := some 13) (mL 17 3) rfl rfl (one_of HT_.out KR) (by decide) (fun K hK => ?_)
       refine goes_ Tryz.func118 KR rfl #[.agg #[.string ((rd_TRecord l0 x7_1).f0), .int .i64 ((rd_TRecord l0 x7_1).f1), .int .i64 ((rd_TRecord l0 x7_1).f2), .string ((rd_TRecord l0 x7_1).f3)]] (by rfl) rfl rfl TA ?_
       with_reducible refine (spec_GoodRecord.calls k1 ((rd_TRecord l0 x7_1).f0) ((rd_TRecord l0 x7_1).f1) ((rd_TRecord l0 x7_1).f2) ((rd_TRecord l0 x7_1).f3) true _ A5.out).mono ?_
       rintro e w23 ⟨rfl, hb⟩
       refine ⟨_, rfl, ?_⟩
       replace BK217 := KB BK217 hb
       replace HB := BS hb
       (try clear hb)
       (try clear hb2)
       (try clear hk)
       (try clear hi)
       refine hK.out _ _ ⟨bc 0 BK217, bc 1 BK217, bc 2 BK217, bc 3 BK217, ((HB.out.cell (World.block_lt_of_cell? w _ hw219_0)).trans hw219_0), ((HB.out.cell (World.block_lt_of_cell? w _ hw219_1)).trans hw219_1), ((HB.out.cell (World.block_lt_of_cell? w _ hw219_2)).trans hw219_2), ((HB.out.cell (World.block_lt_of_cell? w _ hw219_3)).trans hw219_3)⟩ (fun hHeld => ?_)
       clear hK K
       refine nA ?_
       refine pA 2 14 (mL 17 7) HT_ rfl rfl ?_
       refine pA 3 15 (mL 17 15) HT_ rfl rfl ?_
       refine pA 4 16 (mL 17 31) HT_ rfl rfl ?_
       refine pA 5 17 (mL 17 63) HT_ rfl rfl ?_
       refine pA 6 18 (mL 17 127) HT_ rfl rfl ?_
       refine pA 7 19 (mL 17 255) HT_ rfl rfl ?_
       refine pA 8 20 (mL 17 511) HT_ rfl rfl ?_
       refine pA 9 21 (mL 17 1023) HT_ rfl rfl ?_
       refine pA 10 22 (mL 17 2047) HT_ rfl rfl ?_
       refine tA 11 23 (mL 17 4095) HT_ HW_ hHeld rfl rfl (by rintro w' ⟨s0, s1, s2, s3, s4, s5, s6, s7⟩; go_simp; with_reducible rfl) ?_
       refine tA 12 24 (mL 17 8191) HT_ HW_ hHeld rfl rfl (by rintro w' ⟨s0, s1, s2, s3, s4, s5, s6, s7⟩; go_simp; with_reducible rfl) ?_
       refine one_ (i := 13) (N := some 25) (mL 17 16383) rfl rfl (one_of HT_.out KR) (by decide) (fun K hK => ?_)
       refine goes_ Tryz.func119 KR rfl #[.agg #[.string ((rd_TRecord l0 (ji8)).f0), .int .i64 ((rd_TRecord l0 (ji8)).f1), .int .i64 ((rd_TRecord l0 (ji8)).f2), .string ((rd_TRecord l0 (ji8)).f3)], .agg #[.string ((rd_TRecord l0 x7_1).f0), .int .i64 ((rd_TRecord l0 x7_1).f1), .int .i64 ((rd_TRecord l0 x7_1).f2), .string ((rd_TRecord l0 x7_1).f3)]] (by rfl) rfl rfl (by (try simp only [List.map_toArray, List.map_cons, List.map_nil]); first | done | (simp only [hji8]; rfl) | rfl | (simp only [List.length_drop, List.length_take]; rfl)) ?_
       with_reducible refine (spec_l3Compare.calls k1 ((rd_TRecord l0 (ji8)).f0) ((rd_TRecord l0 (ji8)).f1) ((rd_TRecord l0 (ji8)).f2) ((rd_TRecord l0 (ji8)).f3) ((rd_TRecord l0 x7_1).f0) ((rd_TRecord l0 x7_1).f1) ((rd_TRecord l0 x7_1).f2) ((rd_TRecord l0 x7_1).f3) t220 _ A11.out).mono ?_
       rintro e w24 ⟨rfl, hb⟩
       refine ⟨_, rfl, ?_⟩
       replace BK217 := KB BK217 hb
       replace HB := BS hb
       (try clear hb)
       (try clear hb2)
       (try clear hk)
       (try clear hi)
       refine hK.out _ _ ⟨bc 0 BK217, bc 1 BK217, bc 2 BK217, bc 3 BK217, ((HB.out.cell (World.block_lt_of_cell? w _ hw219_0)).trans hw219_0), ((HB.out.cell (World.block_lt_of_cell? w _ hw219_1)).trans hw219_1), ((HB.out.cell (World.block_lt_of_cell? w _ hw219_2)).trans hw219_2), ((HB.out.cell (World.block_lt_of_cell? w _ hw219_3)).trans hw219_3)⟩ (fun hHeld => ?_)
       clear hK K
       refine nA ?_
       refine pA 14 26 (mL 17 32767) HT_ rfl rfl ?_
       refine pA 15 27 (mL 17 65535) HT_ rfl rfl ?_
       refine pA 16 28 (mL 17 131071) HT_ rfl rfl ?_
       refine done_ (done_of HT_.out KR) ?_
       try go_wp2
       go_roundg k1
       case measure => have := HK1.out; omega
       case rel => exact ⟨(wrap64 (x7_1 + 1)), TF, H', ⟨TM⟩, ⟨TB⟩⟩
     ·rw [if_neg c7] at H
      have c7b0 : decide (0 < x7_1) = false := decide_eq_false c7
      clear c7
      have H' := Aside0.mk H
      clear H
      have p216 : 0 ≤ (x7_1 : Int) := TD
      have q216 : x7_1 < (l0.length : Int) := TD
      obtain ⟨ad216, e216, hx216_0, hx216_1, hx216_2, hx216_3⟩ := at_TRecord (Kd.C_below HR0.out HB.out) x7_1 p216 q216
      cases e216
      replace p216 := eq_true p216
      replace q216 := eq_true q216
      try go_wp2_with (first | ((with_reducible refine gate_dst (N := 4) rfl ?_); refine bE 4 #[.string (⟨#[]⟩ : ByteArray), .int .i64 0, .int .i64 0, .string (⟨#[]⟩ : ByteArray)] 93 ?_; intro gb217 hg w25 hbox hb; have BK217 := Aside0.mk (hbox); have GE217 := bG hg; replace HB := BS hb; clear hb hbox hg; have hcz26 := cz4 BK217))
      have n0_ : Aside0 (((((w25.setCell ⟨gb217, 0, none⟩ (.string ((rd_TRecord l0 x7_1).f0))).setCell ⟨gb217, 1, none⟩ (.int .i64 ((rd_TRecord l0 x7_1).f1))).setCell ⟨gb217, 2, none⟩ (.int .i64 ((rd_TRecord l0 x7_1).f2))).setCell ⟨gb217, 3, none⟩ (.string ((rd_TRecord l0 x7_1).f3))).heap[gb217]? = some (.cells #[.string ((rd_TRecord l0 x7_1).f0), .int .i64 ((rd_TRecord l0 x7_1).f1), .int .i64 ((rd_TRecord l0 x7_1).f2), .string ((rd_TRecord l0 x7_1).f3)] 93 (0, 0))) := ⟨TS⟩
      have n1_ : Aside0 (Below w.heap.size w ((((w25.setCell ⟨gb217, 0, none⟩ (.string ((rd_TRecord l0 x7_1).f0))).setCell ⟨gb217, 1, none⟩ (.int .i64 ((rd_TRecord l0 x7_1).f1))).setCell ⟨gb217, 2, none⟩ (.int .i64 ((rd_TRecord l0 x7_1).f2))).setCell ⟨gb217, 3, none⟩ (.string ((rd_TRecord l0 x7_1).f3)))) := ⟨TB⟩
      (try clear BK217)
      (try clear HB)
      generalize ((((w25.setCell ⟨gb217, 0, none⟩ (.string ((rd_TRecord l0 x7_1).f0))).setCell ⟨gb217, 1, none⟩ (.int .i64 ((rd_TRecord l0 x7_1).f1))).setCell ⟨gb217, 2, none⟩ (.int .i64 ((rd_TRecord l0 x7_1).f2))).setCell ⟨gb217, 3, none⟩ (.string ((rd_TRecord l0 x7_1).f3))) = w27 at n0_ n1_ ⊢
      have BK217 := n0_
      have HB := n1_
      clear n0_ n1_
      replace BK217 := Aside0.mk (blk_drew BK217.out)
      replace HB := Aside0.mk (below_drew1 HB.out)
      refine start_ (n := 17) (S := fun w' => w'.cell? ⟨gb217, 0, none⟩ = some (.string ((rd_TRecord l0 x7_1).f0)) ∧ w'.cell? ⟨gb217, 1, none⟩ = some (.int .i64 ((rd_TRecord l0 x7_1).f1)) ∧ w'.cell? ⟨gb217, 2, none⟩ = some (.int .i64 ((rd_TRecord l0 x7_1).f2)) ∧ w'.cell? ⟨gb217, 3, none⟩ = some (.string ((rd_TRecord l0 x7_1).f3))) (ds := []) #[false, false, false, false, false, false, false, false, false, false, false, false, false, false, false, false, false] KR rfl rfl ⟨bc 0 BK217, bc 1 BK217, bc 2 BK217, bc 3 BK217⟩ (fun hHeld => ?_); refine with_tabW spec_l6List.tab4 spec_l6List.bits4 (fun HT_ HW_ => ?_)
      generalize w27.drew = w28 at BK217 HB hHeld ⊢
      refine tA 0 12 (mL 17 1) HT_ HW_ hHeld rfl rfl (by rintro w' ⟨s0, s1, s2, s3⟩; go_simp; with_reducible rfl) ?_
      refine one_ (i := 1) (N := some 13) (mL 17 3) rfl rfl (one_of HT_.out KR) (by decide) (fun K hK => ?_)
      refine goes_ Tryz.func118 KR rfl #[.agg #[.string ((rd_TRecord l0 x7_1).f0), .int .i64 ((rd_TRecord l0 x7_1).f1), .int .i64 ((rd_TRecord l0 x7_1).f2), .string ((rd_TRecord l0 x7_1).f3)]] (by rfl) rfl rfl TA ?_
      with_reducible refine (spec_GoodRecord.calls k1 ((rd_TRecord l0 x7_1).f0) ((rd_TRecord l0 x7_1).f1) ((rd_TRecord l0 x7_1).f2) ((rd_TRecord l0 x7_1).f3) true _ A5.out).mono ?_
      rintro e w29 ⟨rfl, hb⟩
      refine ⟨_, rfl, ?_⟩
      replace BK217 := KB BK217 hb
      replace HB := BS hb
      (try clear hb)
      (try clear hb2)
      (try clear hk)
      (try clear hi)
      refine hK.out _ _ ⟨bc 0 BK217, bc 1 BK217, bc 2 BK217, bc 3 BK217⟩ (fun hHeld => ?_)
      clear hK K
      refine nA ?_
      refine pA 2 14 (mL 17 7) HT_ rfl rfl ?_
      refine pA 3 15 (mL 17 15) HT_ rfl rfl ?_
      refine pA 4 16 (mL 17 31) HT_ rfl rfl ?_
      refine pA 5 17 (mL 17 63) HT_ rfl rfl ?_
      refine pA 6 18 (mL 17 127) HT_ rfl rfl ?_
      refine pU 7 19 (mL 17 255) HT_ rfl rfl ?_
      refine pU 8 20 (mL 17 511) HT_ rfl rfl ?_
      refine pU 9 21 (mL 17 1023) HT_ rfl rfl ?_
      refine pU 10 22 (mL 17 2047) HT_ rfl rfl ?_
      refine pU 11 23 (mL 17 4095) HT_ rfl rfl ?_
      refine pU 12 24 (mL 17 8191) HT_ rfl rfl ?_
      refine pU 13 25 (mL 17 16383) HT_ rfl rfl ?_
      refine pU 14 26 (mL 17 32767) HT_ rfl rfl ?_
      refine pA 15 27 (mL 17 65535) HT_ rfl rfl ?_
      refine pA 16 28 (mL 17 131071) HT_ rfl rfl ?_
      refine done_ (done_of HT_.out KR) ?_
      try go_wp2
      go_roundg k1
      case measure => have := HK1.out; omega
      case rel => exact ⟨(wrap64 (x7_1 + 1)), TF, H', ⟨TM⟩, ⟨TB⟩⟩
    ·replace c6 := Bool.eq_false_iff.mpr c6
     subst c6
     replace H := iff' H
     obtain rfl := Option.some.inj H
     have p216 : 0 ≤ (x7_1 : Int) := TD
     have q216 : x7_1 < (l0.length : Int) := TD
     obtain ⟨ad216, e216, hx216_0, hx216_1, hx216_2, hx216_3⟩ := at_TRecord (Kd.C_below HR0.out HB.out) x7_1 p216 q216
     cases e216
     replace p216 := eq_true p216
     replace q216 := eq_true q216
     try go_wp2_with (first | ((with_reducible refine gate_dst (N := 4) rfl ?_); refine bE 4 #[.string (⟨#[]⟩ : ByteArray), .int .i64 0, .int .i64 0, .string (⟨#[]⟩ : ByteArray)] 93 ?_; intro gb217 hg w30 hbox hb; have BK217 := Aside0.mk (hbox); have GE217 := bG hg; replace HB := BS hb; clear hb hbox hg; have hcz31 := cz4 BK217))
     have n0_ : Aside0 (((((w30.setCell ⟨gb217, 0, none⟩ (.string ((rd_TRecord l0 x7_1).f0))).setCell ⟨gb217, 1, none⟩ (.int .i64 ((rd_TRecord l0 x7_1).f1))).setCell ⟨gb217, 2, none⟩ (.int .i64 ((rd_TRecord l0 x7_1).f2))).setCell ⟨gb217, 3, none⟩ (.string ((rd_TRecord l0 x7_1).f3))).heap[gb217]? = some (.cells #[.string ((rd_TRecord l0 x7_1).f0), .int .i64 ((rd_TRecord l0 x7_1).f1), .int .i64 ((rd_TRecord l0 x7_1).f2), .string ((rd_TRecord l0 x7_1).f3)] 93 (0, 0))) := ⟨TS⟩
     have n1_ : Aside0 (Below w.heap.size w ((((w30.setCell ⟨gb217, 0, none⟩ (.string ((rd_TRecord l0 x7_1).f0))).setCell ⟨gb217, 1, none⟩ (.int .i64 ((rd_TRecord l0 x7_1).f1))).setCell ⟨gb217, 2, none⟩ (.int .i64 ((rd_TRecord l0 x7_1).f2))).setCell ⟨gb217, 3, none⟩ (.string ((rd_TRecord l0 x7_1).f3)))) := ⟨TB⟩
     (try clear BK217)
     (try clear HB)
     generalize ((((w30.setCell ⟨gb217, 0, none⟩ (.string ((rd_TRecord l0 x7_1).f0))).setCell ⟨gb217, 1, none⟩ (.int .i64 ((rd_TRecord l0 x7_1).f1))).setCell ⟨gb217, 2, none⟩ (.int .i64 ((rd_TRecord l0 x7_1).f2))).setCell ⟨gb217, 3, none⟩ (.string ((rd_TRecord l0 x7_1).f3))) = w32 at n0_ n1_ ⊢
     have BK217 := n0_
     have HB := n1_
     clear n0_ n1_
     replace BK217 := Aside0.mk (blk_drew BK217.out)
     replace HB := Aside0.mk (below_drew1 HB.out)
     refine start_ (n := 17) (S := fun w' => w'.cell? ⟨gb217, 0, none⟩ = some (.string ((rd_TRecord l0 x7_1).f0)) ∧ w'.cell? ⟨gb217, 1, none⟩ = some (.int .i64 ((rd_TRecord l0 x7_1).f1)) ∧ w'.cell? ⟨gb217, 2, none⟩ = some (.int .i64 ((rd_TRecord l0 x7_1).f2)) ∧ w'.cell? ⟨gb217, 3, none⟩ = some (.string ((rd_TRecord l0 x7_1).f3))) (ds := []) #[false, false, false, false, false, false, false, false, false, false, false, false, false, false, false, false, false] KR rfl rfl ⟨bc 0 BK217, bc 1 BK217, bc 2 BK217, bc 3 BK217⟩ (fun hHeld => ?_); refine with_tabW spec_l6List.tab4 spec_l6List.bits4 (fun HT_ HW_ => ?_)
     generalize w32.drew = w33 at BK217 HB hHeld ⊢
     refine tA 0 12 (mL 17 1) HT_ HW_ hHeld rfl rfl (by rintro w' ⟨s0, s1, s2, s3⟩; go_simp; with_reducible rfl) ?_
     refine one_ (i := 1) (N := some 13) (mL 17 3) rfl rfl (one_of HT_.out KR) (by decide) (fun K hK => ?_)
     refine goes_ Tryz.func118 KR rfl #[.agg #[.string ((rd_TRecord l0 x7_1).f0), .int .i64 ((rd_TRecord l0 x7_1).f1), .int .i64 ((rd_TRecord l0 x7_1).f2), .string ((rd_TRecord l0 x7_1).f3)]] (by rfl) rfl rfl TA ?_
     with_reducible refine (spec_GoodRecord.calls k1 ((rd_TRecord l0 x7_1).f0) ((rd_TRecord l0 x7_1).f1) ((rd_TRecord l0 x7_1).f2) ((rd_TRecord l0 x7_1).f3) false _ A5.out).mono ?_
     rintro e w34 ⟨rfl, hb⟩
     refine ⟨_, rfl, ?_⟩
     replace BK217 := KB BK217 hb
     replace HB := BS hb
     (try clear hb)
     (try clear hb2)
     (try clear hk)
     (try clear hi)
     refine hK.out _ _ ⟨bc 0 BK217, bc 1 BK217, bc 2 BK217, bc 3 BK217⟩ (fun hHeld => ?_)
     clear hK K
     refine nA ?_
     refine pA 2 14 (mL 17 7) HT_ rfl rfl ?_
     refine pA 3 15 (mL 17 15) HT_ rfl rfl ?_
     refine pU 4 16 (mL 17 31) HT_ rfl rfl ?_
     refine pU 5 17 (mL 17 63) HT_ rfl rfl ?_
     refine pU 6 18 (mL 17 127) HT_ rfl rfl ?_
     refine pU 7 19 (mL 17 255) HT_ rfl rfl ?_
     refine pU 8 20 (mL 17 511) HT_ rfl rfl ?_
     refine pU 9 21 (mL 17 1023) HT_ rfl rfl ?_
     refine pU 10 22 (mL 17 2047) HT_ rfl rfl ?_
     refine pU 11 23 (mL 17 4095) HT_ rfl rfl ?_
     refine pU 12 24 (mL 17 8191) HT_ rfl rfl ?_
     refine pU 13 25 (mL 17 16383) HT_ rfl rfl ?_
     refine pU 14 26 (mL 17 32767) HT_ rfl rfl ?_
     refine pU 15 27 (mL 17 65535) HT_ rfl rfl ?_
     refine pA 16 28 (mL 17 131071) HT_ rfl rfl ?_
     refine done_ (done_of HT_.out KR) ?_
     try go_wp2
     go_ret
     exact ⟨TE, TB⟩
   ·rw [if_neg c2] at H
    have c2b0 : decide (x7_1 < (l0.length : Int)) = false := decide_eq_false c2
    clear c2
    obtain rfl := Option.some.inj H
    go_wp2
    go_ret
    exact ⟨TE, TB⟩
end
end Go.Proofs.YthohohfmdieohaaGreatDoor.Pp
