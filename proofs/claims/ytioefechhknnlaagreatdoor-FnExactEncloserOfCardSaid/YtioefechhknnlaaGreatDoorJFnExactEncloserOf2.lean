/- The functions that the law reaches, one Lean function and its proof for each; written by wip/pp of this workplace, joined by claimit.py. -/
import Derived.Test.YtioefechhknnlaaGreatDoorProg
import Derived.Below
import Derived.Deep.Draws
import Derived.Deep.AppendLies
import Derived.Maps.AppendAt
import Derived.OwnWalk
import Derived.Laws.BytesArg
import Derived.Laws.MakeOwn
import Derived.Laws.OwnMore
import Derived.Deep.OwnRows
import Derived.Tactics
import Derived.Lib.ConvBytes
import Derived.Laws.Slices
import Derived.WalkKit
import Derived.KernelRfl
import Derived.RowKit3
import Derived.Deep.LoopGhost
import Derived.Deep.QuietTactic
import Derived.BigQuiet
import Derived.WideLaws
import Derived.Deep.DeepCutAuto
import Derived.Deep.CutBlock
import Derived.Deep.RegionHeld3
import Derived.Laws.Rows
import Derived.Lib.AppendStr
import Derived.ArgAppend
import Derived.Laws.IdiomCopy
import Derived.OrdersHeld
import Derived.Laws.BitsLemmas
import Derived.RowKit
import Derived.Test.YtioefechhknnlaaGreatDoorKFnExactEncloserOfW
import Derived.Test.YtioefechhknnlaaGreatDoorJFnExactEncloserOf0
import Derived.Test.YtioefechhknnlaaGreatDoorJFnExactEncloserOf1
namespace Go.Proofs.YtioefechhknnlaaGreatDoor.Pp
open Go.RowKit Go.Proofs.YtioefechhknnlaaGreatDoorW.PrintWords Go.Proofs.YtioefechhknnlaaGreatDoorW.PrintLast Go.Proofs.YtioefechhknnlaaGreatDoorW.PrintMore
attribute [local go_sem] max2_int min2_int max_two min_two max_three min_three max_four min_four   -- for this text's walks alone
set_option linter.unusedVariables false
set_option linter.unusedSimpArgs false
set_option maxHeartbeats 8000000
set_option maxRecDepth 100000

section
/-! ### impl_isBelow: function 63 -/
def impl_isBelow.f (a0 : ByteArray) (a1 : ByteArray) : Option (Bool) := if a0.toList = a1.toList then (some true) else (if a1.toList = ([] : List UInt8) then (some true) else (if 1 + a1.size ≤ 9223372036854775807 then ((strings_HasSuffix.f a0 ((⟨#[46]⟩ : ByteArray) ++ a1)).bind fun t503 => (some t503)) else (none)))
theorem impl_isBelow.calls (a0 : ByteArray) (a1 : ByteArray) (r : Bool) (w : World) (h : impl_isBelow.f a0 a1 = some r) :
  Calls Tryz.prog 63 #[.string a0, .string a1] w fun e w' => e = .returned (.bool r) ∧ Drawn0 w w' := by
 have H : (if a0.toList = a1.toList then (some true) else (if a1.toList = ([] : List UInt8) then (some true) else (if 1 + a1.size ≤ 9223372036854775807 then ((strings_HasSuffix.f a0 ((⟨#[46]⟩ : ByteArray) ++ a1)).bind fun t503 => (some t503)) else (none)))) = some r := h
 clear h
 by_cases c3 : a0.toList = a1.toList
 ·rw [if_pos c3] at H
  have c3b0 : (a0.toList == a1.toList) = true := beq_iff_eq.mpr c3
  have c3b1 : (a0.toList != a1.toList) = false := bne_eq_false_iff_eq.mpr c3
  clear c3
  obtain rfl := Option.some.inj H
  go_enter Tryz.func63, Tryz.ntmps63
  go_wp2
  go_ret
  exact ⟨TF, TN⟩
 ·rw [if_neg c3] at H
  have c3b0 : (a0.toList == a1.toList) = false := beq_eq_false_iff_ne.mpr c3
  have c3b1 : (a0.toList != a1.toList) = true := bne_iff_ne.mpr c3
  by_cases c4 : a1.toList = ([] : List UInt8)
  ·rw [if_pos c4] at H
   have c4b0 : (a1.toList == ([] : List UInt8)) = true := beq_iff_eq.mpr c4
   have c4b1 : (a1.toList != ([] : List UInt8)) = false := bne_eq_false_iff_eq.mpr c4
   clear c4
   obtain rfl := Option.some.inj H
   go_enter Tryz.func63, Tryz.ntmps63
   go_wp2
   go_ret
   exact ⟨TF, TN⟩
  ·rw [if_neg c4] at H
   have c4b0 : (a1.toList == ([] : List UInt8)) = false := beq_eq_false_iff_ne.mpr c4
   have c4b1 : (a1.toList != ([] : List UInt8)) = true := bne_iff_ne.mpr c4
   obtain ⟨c5, H⟩ := ifn H
   have c5b0 := eq_true c5
   have c5b1 : decide (1 + a1.size ≤ 9223372036854775807) = true := decide_eq_true c5
   try have c5b2 : (9223372036854775807 < 1 + a1.size) = False := eq_false (Nat.not_lt.2 c5)
   obtain ⟨t503, A6, H⟩ := bnd H
   obtain rfl := Option.some.inj H
   go_enter Tryz.func63, Tryz.ntmps63
   go_wp2_with (first | (go_at_call 118; (with_reducible refine (strings_HasSuffix.calls a0 ((⟨#[46]⟩ : ByteArray) ++ a1) t503 _ A6.out).mono ?_); rintro e w' ⟨rfl, ⟨nd, rfl⟩⟩))
   go_ret
   exact ⟨TF, TN⟩
end
section
/-! ### impl_isCounter: function 111 -/
def impl_isCounter.f (a0 : Int) : Option (Bool) := (impl_within.f a0 0 1152921504606846976).bind fun t364 => (some t364)
theorem impl_isCounter.calls (a0 : Int) (r : Bool) (w : World) (h : impl_isCounter.f a0 = some r) :
  Calls Tryz.prog 111 #[.int .i64 a0] w fun e w' => e = .returned (.bool r) ∧ Drawn0 w w' := by
 have H : ((impl_within.f a0 0 1152921504606846976).bind fun t364 => (some t364)) = some r := h
 clear h
 obtain ⟨t364, A2, H⟩ := bnd H
 obtain rfl := Option.some.inj H
 go_enter Tryz.func111, Tryz.ntmps111
 go_wp2_with (first | ((with_reducible refine gate_callee (f := 69) rfl ?_); refine goesL_ (some 4) rfl rfl Tryz.func69 KR rfl #[.int .i64 a0, .int .i64 0, .int .i64 1152921504606846976] rfl TA ?_; (with_reducible refine (impl_within.calls a0 0 1152921504606846976 t364 _ A2.out).mono ?_); rintro e w' ⟨rfl, ⟨nd, rfl⟩⟩; refine ⟨_, rfl, ?_⟩))
 go_ret
 exact ⟨TF, TN⟩
end
section
/-! ### impl_at: function 85 -/
def impl_at.l0 : Nat → ByteArray → Int → List (S_Record) → List (S_Record) → Int → Int → Option ((List (S_Record)))
 | 0, _, _, _, _, _, _ => none
 | k + 1, x1, x2, x7, x11, x12, x13 => if x13 < x12 then (if 0 ≤ x13 then (if x13 < (x11.length : Int) then (if ((rd_TRecord x11 x13).f0).toList = x1.toList then (if x2 = 0 then (if x7.length < 2932031007402 then (impl_at.l0 k x1 x2 (x7 ++ [(⟨(rd_TRecord x11 x13).f0, (rd_TRecord x11 x13).f1, (rd_TRecord x11 x13).f2, (rd_TRecord x11 x13).f3⟩ : S_Record)]) x11 x12 (wrap64 (x13 + 1))) else (none)) else (if ((rd_TRecord x11 x13).f1) = x2 then (if x7.length < 2932031007402 then (impl_at.l0 k x1 x2 (x7 ++ [(⟨(rd_TRecord x11 x13).f0, (rd_TRecord x11 x13).f1, (rd_TRecord x11 x13).f2, (rd_TRecord x11 x13).f3⟩ : S_Record)]) x11 x12 (wrap64 (x13 + 1))) else (none)) else (impl_at.l0 k x1 x2 x7 x11 x12 (wrap64 (x13 + 1))))) else (impl_at.l0 k x1 x2 x7 x11 x12 (wrap64 (x13 + 1)))) else (none)) else (none)) else (some x7)
def impl_at.f (k : Nat) (l0 : List (S_Record)) (a1 : ByteArray) (a2 : Int) : Option ((List (S_Record))) := impl_at.l0 k a1 a2 (([] : List (S_Record))) l0 (l0.length : Int) 0
theorem impl_at.calls (k : Nat) (A0 : Option Addr) (c0 : Nat) (l0 : List (S_Record)) (a1 : ByteArray) (a2 : Int) (r : List (S_Record)) (w : World) (hr0 : Kd.C k_Record w A0 l0.length l0) (hc0 : l0.length ≤ c0) (h : impl_at.f k l0 a1 a2 = some r) :
  Calls Tryz.prog 85 #[.slice A0 l0.length c0, .string a1, .int .i64 a2] w fun e w' => ∃ v0_ : Value, e = .returned (v0_) ∧ Kd.R k_Record 100 w' w.heap.size (fun _ => True) v0_ r ∧ Below w.heap.size w w' := by
 have hu100 := Tryz.underlying100
 have HR0 := Aside0.mk hr0
 have HC0 := Aside0.mk hc0
 clear hr0 hc0
 have HB := Aside0.mk (Below.refl w.heap.size w)
 have H : (impl_at.l0 k a1 a2 (([] : List (S_Record))) l0 (l0.length : Int) 0) = some r := h
 clear h
 obtain ⟨y504, hy504⟩ : ∃ y_ : List (S_Record), y_ = (([] : List (S_Record))) := ⟨_, rfl⟩
 replace H : (impl_at.l0 k a1 a2 y504 l0 (l0.length : Int) 0) = some r := by first | (rw [hy504]; with_reducible exact H) | (have H2_ := (Option.bind_some _ _).symm.trans H; rw [hy504]; with_reducible exact H2_) | (have H2_ := (Option.bind_some _ _).symm.trans H; with_reducible exact H2_) | with_reducible exact H | (rw [hy504]; exact H) | exact H
 have Ny504 := Aside0.mk hy504
 clear hy504
 have H' := Aside0.mk H
 clear H
 go_enter Tryz.func85, Tryz.ntmps85
 go_wp2_with (first | ((with_reducible refine gate_dst (N := 10) rfl ?_); refine Kd.R_lit k_Record _ 100 ?hg (N := 10) ?hd (xs := ([] : List (S_Record))) (inner := []) (ok := fun _ => True) (okp := fun _ => True) ?hr ?hp (fun _ hk => hk) trivial (Below.refl _ _) (Nat.le_refl _) (by simp) ?_; (case hd => rfl); (case hg => rfl); (case hr => first | (go_simp; done) | (go_simp; rfl)); (case hp => exact (Reps.none _ _)); intro v505 w4 ho5 hb hg_ hnew_; clear hg_ hnew_; (first | rw [← Ny504.out] at ho5 | (simp only [Int.reduceToNat] at ho5; rw [← Ny504.out] at ho5)); have HO506 := RL ho5; replace HB := BS hb; clear hb ho5))
 go_loopg [7, 13] k (fun kq v7 v13 w' => ∃ (x7_1 : List (S_Record)) (x13_1 : Int), v13 = .int .i64 x13_1 ∧ Aside0 (impl_at.l0 kq a1 a2 x7_1 l0 (l0.length : Int) x13_1 = some r) ∧ Aside0 (kq ≤ k) ∧ Aside0 (Kd.R k_Record 100 w' w.heap.size (fun _ => True) v7 x7_1) ∧ Aside0 (Below w.heap.size w w'))
 case atStart => exact ⟨(y504), (0), TF, H', ⟨Nat.le_refl _⟩, RW HO506, ⟨TB⟩⟩
 case round =>
  clear H'
  try clear p2
  obtain ⟨x7_1, x13_1, rfl, HA, HK1, HO_7, HB⟩ := hrel
  cases gk with
  | zero => exact absurd HA.out (by simp [impl_at.l0])
  | succ k1 =>
   have H := HA.out
   clear HA
   simp only [impl_at.l0] at H
   by_cases c6 : x13_1 < (l0.length : Int)
   ·rw [if_pos c6] at H
    have c6b0 : decide (x13_1 < (l0.length : Int)) = true := decide_eq_true c6
    clear c6
    obtain ⟨c7, H⟩ := ifn H
    have c7b0 : decide (0 ≤ x13_1) = true := decide_eq_true c7
    clear c7
    obtain ⟨c8, H⟩ := ifn H
    have c8b0 : decide (x13_1 < (l0.length : Int)) = true := decide_eq_true c8
    clear c8
    by_cases c9 : ((rd_TRecord l0 x13_1).f0).toList = a1.toList
    ·rw [if_pos c9] at H
     have c9b0 : (((rd_TRecord l0 x13_1).f0).toList == a1.toList) = true := beq_iff_eq.mpr c9
     have c9b1 : (((rd_TRecord l0 x13_1).f0).toList != a1.toList) = false := bne_eq_false_iff_eq.mpr c9
     clear c9
     by_cases c10 : a2 = 0
     ·rw [if_pos c10] at H
      have c10b0 : (a2 == 0) = true := beq_iff_eq.mpr c10
      have c10b1 : (a2 != 0) = false := bne_eq_false_iff_eq.mpr c10
      clear c10
      obtain ⟨c11, H⟩ := ifn H
      have LMc11 := Aside0.mk c11
      clear c11
      obtain ⟨y509, hy509⟩ : ∃ y_ : List (S_Record), y_ = (x7_1 ++ [(⟨(rd_TRecord l0 x13_1).f0, (rd_TRecord l0 x13_1).f1, (rd_TRecord l0 x13_1).f2, (rd_TRecord l0 x13_1).f3⟩ : S_Record)]) := ⟨_, rfl⟩
      replace H : (impl_at.l0 k1 a1 a2 y509 l0 (l0.length : Int) (wrap64 (x13_1 + 1))) = some r := by first | (rw [hy509]; with_reducible exact H) | (have H2_ := (Option.bind_some _ _).symm.trans H; rw [hy509]; with_reducible exact H2_) | (have H2_ := (Option.bind_some _ _).symm.trans H; with_reducible exact H2_) | with_reducible exact H | (rw [hy509]; exact H) | exact H
      have Ny509 := Aside0.mk hy509
      clear hy509
      have H' := Aside0.mk H
      clear H
      have p507 : 0 ≤ (x13_1 : Int) := TD
      have q507 : x13_1 < (l0.length : Int) := TD
      obtain ⟨ad507, e507, hx507_0, hx507_1, hx507_2, hx507_3⟩ := at_TRecord (Kd.C_below HR0.out HB.out) x13_1 p507 q507
      cases e507
      replace p507 := eq_true p507
      replace q507 := eq_true q507
      go_wp2_with (first | ((with_reducible refine gate_dst (N := 9) rfl ?_); refine bE 9 #[.string (⟨#[]⟩ : ByteArray), .int .i64 0, .int .i64 0, .string (⟨#[]⟩ : ByteArray)] 100 ?_; intro gb508 hg w12 hbox hb; replace HO_7 := Aside0.mk (Kd.R_below (Kd.R_elderB (RW HO_7).out gb508 (Nat.le_of_eq hg.symm)) hb); have BK508 := Aside0.mk (hbox); have GE508 := bG hg; replace HB := BS hb; clear hb hbox hg; have hcz13 := cz4 BK508) | ((with_reducible refine gate_builtin (b := .append) (xs := #[.tmp 31, .tmp 33]) rfl ?_); at_builtin; refine Kd.R_append k_Record (w0 := w) w.heap.size rfl (.tmp 31) (.tmp 33) 28 100 (.agg #[(.string ⟨#[]⟩), (.int .i64 0), (.int .i64 0), (.string ⟨#[]⟩)]) 48 rfl Tryz.underlying28 info100 rfl (by decide) (by omega) u7 x7_1 (⟨(rd_TRecord l0 x13_1).f0, (rd_TRecord l0 x13_1).f1, (rd_TRecord l0 x13_1).f2, (rd_TRecord l0 x13_1).f3⟩ : S_Record) [.string ((rd_TRecord l0 x13_1).f0), .int .i64 ((rd_TRecord l0 x13_1).f1), .int .i64 ((rd_TRecord l0 x13_1).f2), .string ((rd_TRecord l0 x13_1).f3)] (fun k_ => k_ ≠ gb508) (fun _ => False) rfl (by first | (go_simp; done) | (go_simp; rfl)) ?aP (fun _ hk => hk.elim) ?aF ?aO ?aB ?aS ?aL ?_; (case aP => exact k_Record_mkM _ _ _ (⟨(rd_TRecord l0 x13_1).f0, (rd_TRecord l0 x13_1).f1, (rd_TRecord l0 x13_1).f2, (rd_TRecord l0 x13_1).f3⟩ : S_Record)); (case aB => exact TB); (case aF => exact (fun k_ hk => Kd.freshB (g := gb508) (o := .cells #[.string ((rd_TRecord l0 x13_1).f0), .int .i64 ((rd_TRecord l0 x13_1).f1), .int .i64 ((rd_TRecord l0 x13_1).f2), .string ((rd_TRecord l0 x13_1).f3)] 100 (0, 0)) (by (with_reducible repeat (first | refine blk_drewN ?_ _ | refine blk_drew ?_ | refine blk_alloc ?_ _)); refine blk_put (cs := #[.string ((rd_TRecord l0 x13_1).f0), .int .i64 ((rd_TRecord l0 x13_1).f1), .int .i64 ((rd_TRecord l0 x13_1).f2), .string (⟨#[]⟩ : ByteArray)]) ?_ 3 _ rfl; (with_reducible repeat (first | refine blk_drewN ?_ _ | refine blk_drew ?_ | refine blk_alloc ?_ _)); refine blk_put (cs := #[.string ((rd_TRecord l0 x13_1).f0), .int .i64 ((rd_TRecord l0 x13_1).f1), .int .i64 0, .string (⟨#[]⟩ : ByteArray)]) ?_ 2 _ rfl; (with_reducible repeat (first | refine blk_drewN ?_ _ | refine blk_drew ?_ | refine blk_alloc ?_ _)); refine blk_put (cs := #[.string ((rd_TRecord l0 x13_1).f0), .int .i64 0, .int .i64 0, .string (⟨#[]⟩ : ByteArray)]) ?_ 1 _ rfl; (with_reducible repeat (first | refine blk_drewN ?_ _ | refine blk_drew ?_ | refine blk_alloc ?_ _)); refine blk_put (cs := #[.string (⟨#[]⟩ : ByteArray), .int .i64 0, .int .i64 0, .string (⟨#[]⟩ : ByteArray)]) ?_ 0 _ rfl; (with_reducible repeat (first | refine blk_drewN ?_ _ | refine blk_drew ?_ | refine blk_alloc ?_ _)); exact BK508.out) k_ hk)); (case aO => exact (by (with_reducible repeat (first | apply Kd.R_alloc | apply Kd.R_drewN | apply Kd.R_drew)); exact Kd.R_mono (Kd.R_far (p := ⟨gb508, 3, none⟩) (Kd.R_far (p := ⟨gb508, 2, none⟩) (Kd.R_far (p := ⟨gb508, 1, none⟩) (Kd.R_far (p := ⟨gb508, 0, none⟩) (Kd.R_mono HO_7.out (fun k_ hk => (⟨hk, hk.2⟩ : _ ∧ k_ ≠ gb508))) (fun _ hk => hk.2) (.string ((rd_TRecord l0 x13_1).f0))) (fun _ hk => hk.2) (.int .i64 ((rd_TRecord l0 x13_1).f1))) (fun _ hk => hk.2) (.int .i64 ((rd_TRecord l0 x13_1).f2))) (fun _ hk => hk.2) (.string ((rd_TRecord l0 x13_1).f3))) (fun _ hk => hk.1.2))); (case aS => exact (below_size TB)); (case aL => have := LMc11.out; omega); intro v510 w14 ho hb hg hat; rw [← Ny509.out] at ho; have n0_ := Aside0.mk (blk_grown (g := gb508) (o := .cells #[.string ((rd_TRecord l0 x13_1).f0), .int .i64 ((rd_TRecord l0 x13_1).f1), .int .i64 ((rd_TRecord l0 x13_1).f2), .string ((rd_TRecord l0 x13_1).f3)] 100 (0, 0)) (by (with_reducible repeat (first | refine blk_drewN ?_ _ | refine blk_drew ?_ | refine blk_alloc ?_ _)); refine blk_put (cs := #[.string ((rd_TRecord l0 x13_1).f0), .int .i64 ((rd_TRecord l0 x13_1).f1), .int .i64 ((rd_TRecord l0 x13_1).f2), .string (⟨#[]⟩ : ByteArray)]) ?_ 3 _ rfl; (with_reducible repeat (first | refine blk_drewN ?_ _ | refine blk_drew ?_ | refine blk_alloc ?_ _)); refine blk_put (cs := #[.string ((rd_TRecord l0 x13_1).f0), .int .i64 ((rd_TRecord l0 x13_1).f1), .int .i64 0, .string (⟨#[]⟩ : ByteArray)]) ?_ 2 _ rfl; (with_reducible repeat (first | refine blk_drewN ?_ _ | refine blk_drew ?_ | refine blk_alloc ?_ _)); refine blk_put (cs := #[.string ((rd_TRecord l0 x13_1).f0), .int .i64 0, .int .i64 0, .string (⟨#[]⟩ : ByteArray)]) ?_ 1 _ rfl; (with_reducible repeat (first | refine blk_drewN ?_ _ | refine blk_drew ?_ | refine blk_alloc ?_ _)); refine blk_put (cs := #[.string (⟨#[]⟩ : ByteArray), .int .i64 0, .int .i64 0, .string (⟨#[]⟩ : ByteArray)]) ?_ 0 _ rfl; (with_reducible repeat (first | refine blk_drewN ?_ _ | refine blk_drew ?_ | refine blk_alloc ?_ _)); exact BK508.out) hg (Kd.R_away HO_7.out (fun _ hk => hk.2))); have n1_ := Aside0.mk (hb); have n2_ := Aside0.mk (ho); clear BK508; clear HB; clear HO_7; have BK508 := n0_; have HB := n1_; have HO511 := n2_; clear n0_ n1_ n2_; clear ho hb hg hat))
      go_roundg k1
      case measure => have := HK1.out; omega
      case rel => exact ⟨(y509), (wrap64 (x13_1 + 1)), TF, H', ⟨TM⟩, ⟨by (with_reducible repeat (first | apply Kd.R_alloc | apply Kd.R_drewN | apply Kd.R_drew)); exact Kd.R_mono HO511.out (fun _ hk => trivial)⟩, ⟨TB⟩⟩
     ·rw [if_neg c10] at H
      have c10b0 : (a2 == 0) = false := beq_eq_false_iff_ne.mpr c10
      have c10b1 : (a2 != 0) = true := bne_iff_ne.mpr c10
      by_cases c15 : ((rd_TRecord l0 x13_1).f1) = a2
      ·rw [if_pos c15] at H
       have c15b0 : (((rd_TRecord l0 x13_1).f1) == a2) = true := beq_iff_eq.mpr c15
       have c15b1 : (((rd_TRecord l0 x13_1).f1) != a2) = false := bne_eq_false_iff_eq.mpr c15
       clear c15
       obtain ⟨c16, H⟩ := ifn H
       have LMc16 := Aside0.mk c16
       clear c16
       obtain ⟨y512, hy512⟩ : ∃ y_ : List (S_Record), y_ = (x7_1 ++ [(⟨(rd_TRecord l0 x13_1).f0, (rd_TRecord l0 x13_1).f1, (rd_TRecord l0 x13_1).f2, (rd_TRecord l0 x13_1).f3⟩ : S_Record)]) := ⟨_, rfl⟩
       replace H : (impl_at.l0 k1 a1 a2 y512 l0 (l0.length : Int) (wrap64 (x13_1 + 1))) = some r := by first | (rw [hy512]; with_reducible exact H) | (have H2_ := (Option.bind_some _ _).symm.trans H; rw [hy512]; with_reducible exact H2_) | (have H2_ := (Option.bind_some _ _).symm.trans H; with_reducible exact H2_) | with_reducible exact H | (rw [hy512]; exact H) | exact H
       have Ny512 := Aside0.mk hy512
       clear hy512
       have H' := Aside0.mk H
       clear H
       have p507 : 0 ≤ (x13_1 : Int) := TD
       have q507 : x13_1 < (l0.length : Int) := TD
       obtain ⟨ad507, e507, hx507_0, hx507_1, hx507_2, hx507_3⟩ := at_TRecord (Kd.C_below HR0.out HB.out) x13_1 p507 q507
       cases e507
       replace p507 := eq_true p507
       replace q507 := eq_true q507
       go_wp2_with (first | ((with_reducible refine gate_dst (N := 9) rfl ?_); refine bE 9 #[.string (⟨#[]⟩ : ByteArray), .int .i64 0, .int .i64 0, .string (⟨#[]⟩ : ByteArray)] 100 ?_; intro gb508 hg w17 hbox hb; replace HO_7 := Aside0.mk (Kd.R_below (Kd.R_elderB (RW HO_7).out gb508 (Nat.le_of_eq hg.symm)) hb); have BK508 := Aside0.mk (hbox); have GE508 := bG hg; replace HB := BS hb; clear hb hbox hg; have hcz18 := cz4 BK508) | ((with_reducible refine gate_builtin (b := .append) (xs := #[.tmp 31, .tmp 33]) rfl ?_); at_builtin; refine Kd.R_append k_Record (w0 := w) w.heap.size rfl (.tmp 31) (.tmp 33) 28 100 (.agg #[(.string ⟨#[]⟩), (.int .i64 0), (.int .i64 0), (.string ⟨#[]⟩)]) 48 rfl Tryz.underlying28 info100 rfl (by decide) (by omega) u7 x7_1 (⟨(rd_TRecord l0 x13_1).f0, (rd_TRecord l0 x13_1).f1, (rd_TRecord l0 x13_1).f2, (rd_TRecord l0 x13_1).f3⟩ : S_Record) [.string ((rd_TRecord l0 x13_1).f0), .int .i64 ((rd_TRecord l0 x13_1).f1), .int .i64 ((rd_TRecord l0 x13_1).f2), .string ((rd_TRecord l0 x13_1).f3)] (fun k_ => k_ ≠ gb508) (fun _ => False) rfl (by first | (go_simp; done) | (go_simp; rfl)) ?aP (fun _ hk => hk.elim) ?aF ?aO ?aB ?aS ?aL ?_; (case aP => exact k_Record_mkM _ _ _ (⟨(rd_TRecord l0 x13_1).f0, (rd_TRecord l0 x13_1).f1, (rd_TRecord l0 x13_1).f2, (rd_TRecord l0 x13_1).f3⟩ : S_Record)); (case aB => exact TB); (case aF => exact (fun k_ hk => Kd.freshB (g := gb508) (o := .cells #[.string ((rd_TRecord l0 x13_1).f0), .int .i64 ((rd_TRecord l0 x13_1).f1), .int .i64 ((rd_TRecord l0 x13_1).f2), .string ((rd_TRecord l0 x13_1).f3)] 100 (0, 0)) (by (with_reducible repeat (first | refine blk_drewN ?_ _ | refine blk_drew ?_ | refine blk_alloc ?_ _)); refine blk_put (cs := #[.string ((rd_TRecord l0 x13_1).f0), .int .i64 ((rd_TRecord l0 x13_1).f1), .int .i64 ((rd_TRecord l0 x13_1).f2), .string (⟨#[]⟩ : ByteArray)]) ?_ 3 _ rfl; (with_reducible repeat (first | refine blk_drewN ?_ _ | refine blk_drew ?_ | refine blk_alloc ?_ _)); refine blk_put (cs := #[.string ((rd_TRecord l0 x13_1).f0), .int .i64 ((rd_TRecord l0 x13_1).f1), .int .i64 0, .string (⟨#[]⟩ : ByteArray)]) ?_ 2 _ rfl; (with_reducible repeat (first | refine blk_drewN ?_ _ | refine blk_drew ?_ | refine blk_alloc ?_ _)); refine blk_put (cs := #[.string ((rd_TRecord l0 x13_1).f0), .int .i64 0, .int .i64 0, .string (⟨#[]⟩ : ByteArray)]) ?_ 1 _ rfl; (with_reducible repeat (first | refine blk_drewN ?_ _ | refine blk_drew ?_ | refine blk_alloc ?_ _)); refine blk_put (cs := #[.string (⟨#[]⟩ : ByteArray), .int .i64 0, .int .i64 0, .string (⟨#[]⟩ : ByteArray)]) ?_ 0 _ rfl; (with_reducible repeat (first | refine blk_drewN ?_ _ | refine blk_drew ?_ | refine blk_alloc ?_ _)); exact BK508.out) k_ hk)); (case aO => exact (by (with_reducible repeat (first | apply Kd.R_alloc | apply Kd.R_drewN | apply Kd.R_drew)); exact Kd.R_mono (Kd.R_far (p := ⟨gb508, 3, none⟩) (Kd.R_far (p := ⟨gb508, 2, none⟩) (Kd.R_far (p := ⟨gb508, 1, none⟩) (Kd.R_far (p := ⟨gb508, 0, none⟩) (Kd.R_mono HO_7.out (fun k_ hk => (⟨hk, hk.2⟩ : _ ∧ k_ ≠ gb508))) (fun _ hk => hk.2) (.string ((rd_TRecord l0 x13_1).f0))) (fun _ hk => hk.2) (.int .i64 ((rd_TRecord l0 x13_1).f1))) (fun _ hk => hk.2) (.int .i64 ((rd_TRecord l0 x13_1).f2))) (fun _ hk => hk.2) (.string ((rd_TRecord l0 x13_1).f3))) (fun _ hk => hk.1.2))); (case aS => exact (below_size TB)); (case aL => have := LMc16.out; omega); intro v513 w19 ho hb hg hat; rw [← Ny512.out] at ho; have n0_ := Aside0.mk (blk_grown (g := gb508) (o := .cells #[.string ((rd_TRecord l0 x13_1).f0), .int .i64 ((rd_TRecord l0 x13_1).f1), .int .i64 ((rd_TRecord l0 x13_1).f2), .string ((rd_TRecord l0 x13_1).f3)] 100 (0, 0)) (by (with_reducible repeat (first | refine blk_drewN ?_ _ | refine blk_drew ?_ | refine blk_alloc ?_ _)); refine blk_put (cs := #[.string ((rd_TRecord l0 x13_1).f0), .int .i64 ((rd_TRecord l0 x13_1).f1), .int .i64 ((rd_TRecord l0 x13_1).f2), .string (⟨#[]⟩ : ByteArray)]) ?_ 3 _ rfl; (with_reducible repeat (first | refine blk_drewN ?_ _ | refine blk_drew ?_ | refine blk_alloc ?_ _)); refine blk_put (cs := #[.string ((rd_TRecord l0 x13_1).f0), .int .i64 ((rd_TRecord l0 x13_1).f1), .int .i64 0, .string (⟨#[]⟩ : ByteArray)]) ?_ 2 _ rfl; (with_reducible repeat (first | refine blk_drewN ?_ _ | refine blk_drew ?_ | refine blk_alloc ?_ _)); refine blk_put (cs := #[.string ((rd_TRecord l0 x13_1).f0), .int .i64 0, .int .i64 0, .string (⟨#[]⟩ : ByteArray)]) ?_ 1 _ rfl; (with_reducible repeat (first | refine blk_drewN ?_ _ | refine blk_drew ?_ | refine blk_alloc ?_ _)); refine blk_put (cs := #[.string (⟨#[]⟩ : ByteArray), .int .i64 0, .int .i64 0, .string (⟨#[]⟩ : ByteArray)]) ?_ 0 _ rfl; (with_reducible repeat (first | refine blk_drewN ?_ _ | refine blk_drew ?_ | refine blk_alloc ?_ _)); exact BK508.out) hg (Kd.R_away HO_7.out (fun _ hk => hk.2))); have n1_ := Aside0.mk (hb); have n2_ := Aside0.mk (ho); clear BK508; clear HB; clear HO_7; have BK508 := n0_; have HB := n1_; have HO514 := n2_; clear n0_ n1_ n2_; clear ho hb hg hat))
       go_roundg k1
       case measure => have := HK1.out; omega
       case rel => exact ⟨(y512), (wrap64 (x13_1 + 1)), TF, H', ⟨TM⟩, ⟨by (with_reducible repeat (first | apply Kd.R_alloc | apply Kd.R_drewN | apply Kd.R_drew)); exact Kd.R_mono HO514.out (fun _ hk => trivial)⟩, ⟨TB⟩⟩
      ·rw [if_neg c15] at H
       have c15b0 : (((rd_TRecord l0 x13_1).f1) == a2) = false := beq_eq_false_iff_ne.mpr c15
       have c15b1 : (((rd_TRecord l0 x13_1).f1) != a2) = true := bne_iff_ne.mpr c15
       have H' := Aside0.mk H
       clear H
       have p507 : 0 ≤ (x13_1 : Int) := TD
       have q507 : x13_1 < (l0.length : Int) := TD
       obtain ⟨ad507, e507, hx507_0, hx507_1, hx507_2, hx507_3⟩ := at_TRecord (Kd.C_below HR0.out HB.out) x13_1 p507 q507
       cases e507
       replace p507 := eq_true p507
       replace q507 := eq_true q507
       go_wp2_with (first | ((with_reducible refine gate_dst (N := 9) rfl ?_); refine bE 9 #[.string (⟨#[]⟩ : ByteArray), .int .i64 0, .int .i64 0, .string (⟨#[]⟩ : ByteArray)] 100 ?_; intro gb508 hg w20 hbox hb; replace HO_7 := Aside0.mk (Kd.R_below (Kd.R_elderB (RW HO_7).out gb508 (Nat.le_of_eq hg.symm)) hb); have BK508 := Aside0.mk (hbox); have GE508 := bG hg; replace HB := BS hb; clear hb hbox hg; have hcz21 := cz4 BK508))
       go_roundg k1
       case measure => have := HK1.out; omega
       case rel => exact ⟨(x7_1), (wrap64 (x13_1 + 1)), TF, H', ⟨TM⟩, ⟨by (with_reducible repeat (first | apply Kd.R_alloc | apply Kd.R_drewN | apply Kd.R_drew)); exact Kd.R_mono (Kd.R_far (p := ⟨gb508, 3, none⟩) (Kd.R_far (p := ⟨gb508, 2, none⟩) (Kd.R_far (p := ⟨gb508, 1, none⟩) (Kd.R_far (p := ⟨gb508, 0, none⟩) (Kd.R_mono HO_7.out (fun k_ hk => (⟨hk, hk.2⟩ : _ ∧ k_ ≠ gb508))) (fun _ hk => hk.2) (.string ((rd_TRecord l0 x13_1).f0))) (fun _ hk => hk.2) (.int .i64 ((rd_TRecord l0 x13_1).f1))) (fun _ hk => hk.2) (.int .i64 ((rd_TRecord l0 x13_1).f2))) (fun _ hk => hk.2) (.string ((rd_TRecord l0 x13_1).f3))) (fun _ hk => trivial)⟩, ⟨TB⟩⟩
    ·rw [if_neg c9] at H
     have c9b0 : (((rd_TRecord l0 x13_1).f0).toList == a1.toList) = false := beq_eq_false_iff_ne.mpr c9
     have c9b1 : (((rd_TRecord l0 x13_1).f0).toList != a1.toList) = true := bne_iff_ne.mpr c9
     have H' := Aside0.mk H
     clear H
     have p507 : 0 ≤ (x13_1 : Int) := TD
     have q507 : x13_1 < (l0.length : Int) := TD
     obtain ⟨ad507, e507, hx507_0, hx507_1, hx507_2, hx507_3⟩ := at_TRecord (Kd.C_below HR0.out HB.out) x13_1 p507 q507
     cases e507
     replace p507 := eq_true p507
     replace q507 := eq_true q507
     go_wp2_with (first | ((with_reducible refine gate_dst (N := 9) rfl ?_); refine bE 9 #[.string (⟨#[]⟩ : ByteArray), .int .i64 0, .int .i64 0, .string (⟨#[]⟩ : ByteArray)] 100 ?_; intro gb508 hg w22 hbox hb; replace HO_7 := Aside0.mk (Kd.R_below (Kd.R_elderB (RW HO_7).out gb508 (Nat.le_of_eq hg.symm)) hb); have BK508 := Aside0.mk (hbox); have GE508 := bG hg; replace HB := BS hb; clear hb hbox hg; have hcz23 := cz4 BK508))
     go_roundg k1
     case measure => have := HK1.out; omega
     case rel => exact ⟨(x7_1), (wrap64 (x13_1 + 1)), TF, H', ⟨TM⟩, ⟨by (with_reducible repeat (first | apply Kd.R_alloc | apply Kd.R_drewN | apply Kd.R_drew)); exact Kd.R_mono (Kd.R_far (p := ⟨gb508, 3, none⟩) (Kd.R_far (p := ⟨gb508, 2, none⟩) (Kd.R_far (p := ⟨gb508, 1, none⟩) (Kd.R_far (p := ⟨gb508, 0, none⟩) (Kd.R_mono HO_7.out (fun k_ hk => (⟨hk, hk.2⟩ : _ ∧ k_ ≠ gb508))) (fun _ hk => hk.2) (.string ((rd_TRecord l0 x13_1).f0))) (fun _ hk => hk.2) (.int .i64 ((rd_TRecord l0 x13_1).f1))) (fun _ hk => hk.2) (.int .i64 ((rd_TRecord l0 x13_1).f2))) (fun _ hk => hk.2) (.string ((rd_TRecord l0 x13_1).f3))) (fun _ hk => trivial)⟩, ⟨TB⟩⟩
   ·rw [if_neg c6] at H
    have c6b0 : decide (x13_1 < (l0.length : Int)) = false := decide_eq_false c6
    clear c6
    obtain rfl := Option.some.inj H
    go_wp2
    go_ret
    exact ⟨_, TE, (RW HO_7).out, TB⟩
end
section
/-! ### strings_Contains: function 195 -/
def strings_Contains.f (a0 : ByteArray) (a1 : ByteArray) : Option (Bool) := (strings_Index.f a0 a1).bind fun t398 => (some (decide (t398 ≥ 0)))
theorem strings_Contains.calls (a0 : ByteArray) (a1 : ByteArray) (r : Bool) (w : World) (h : strings_Contains.f a0 a1 = some r) :
  Calls Tryz.prog 195 #[.string a0, .string a1] w fun e w' => e = .returned (.bool r) ∧ Drawn0 w w' := by
 have H : ((strings_Index.f a0 a1).bind fun t398 => (some (decide (t398 ≥ 0)))) = some r := h
 clear h
 obtain ⟨t398, A3, H⟩ := bnd H
 obtain rfl := Option.some.inj H
 go_enter Tryz.func195, Tryz.ntmps195
 go_wp2_with (first | ((with_reducible refine gate_callee (f := 203) rfl ?_); refine goesL_ (some 7) rfl rfl Tryz.func203 KR rfl #[.string a0, .string a1] rfl TA ?_; (with_reducible refine (strings_Index.calls a0 a1 t398 _ A3.out).mono ?_); rintro e w' ⟨rfl, ⟨nd, rfl⟩⟩; refine ⟨_, rfl, ?_⟩))
 go_ret
 exact ⟨TF, TN⟩
end
section
/-! ### impl_isApex: function 175 -/
def impl_isApex.f (k : Nat) (a0 : ByteArray) : Option (Bool) := (impl_GoodName.f k a0).bind fun t399 => (if t399 = true then ((strings_Contains.f a0 (⟨#[42]⟩ : ByteArray)).bind fun t400 => (some (!t400))) else (some false))
theorem impl_isApex.calls (k : Nat) (a0 : ByteArray) (r : Bool) (w : World) (h : impl_isApex.f k a0 = some r) :
  Calls Tryz.prog 175 #[.string a0] w fun e w' => e = .returned (.bool r) ∧ Below w.heap.size w w' := by
 have HB := Aside0.mk (Below.refl w.heap.size w)
 have H : ((impl_GoodName.f k a0).bind fun t399 => (if t399 = true then ((strings_Contains.f a0 (⟨#[42]⟩ : ByteArray)).bind fun t400 => (some (!t400))) else (some false))) = some r := h
 clear h
 obtain ⟨t399, A2, H⟩ := bnd H
 by_cases c3 : t399 = true
 ·subst c3
  replace H := ift H
  obtain ⟨t400, A4, H⟩ := bnd H
  obtain rfl := Option.some.inj H
  go_enter Tryz.func175, Tryz.ntmps175
  go_wp2_with (first | ((with_reducible refine gate_callee (f := 62) rfl ?_); refine goesL_ (some 4) rfl rfl Tryz.func62 KR rfl #[.string a0] rfl TA ?_; (with_reducible refine (impl_GoodName.calls k a0 true _ A2.out).mono ?_); rintro e w5 ⟨rfl, hb⟩; refine ⟨_, rfl, ?_⟩; replace HB := BS hb; (try clear hb); (try clear hb2); (try clear hk); (try clear hi)) | (go_at_call 195; (with_reducible refine (strings_Contains.calls a0 (⟨#[42]⟩ : ByteArray) t400 _ A4.out).mono ?_); rintro e w' ⟨rfl, ⟨nd, rfl⟩⟩))
  go_ret
  exact ⟨TE, TB⟩
 ·replace c3 := Bool.eq_false_iff.mpr c3
  subst c3
  replace H := iff' H
  obtain rfl := Option.some.inj H
  go_enter Tryz.func175, Tryz.ntmps175
  go_wp2_with (first | ((with_reducible refine gate_callee (f := 62) rfl ?_); refine goesL_ (some 4) rfl rfl Tryz.func62 KR rfl #[.string a0] rfl TA ?_; (with_reducible refine (impl_GoodName.calls k a0 false _ A2.out).mono ?_); rintro e w6 ⟨rfl, hb⟩; refine ⟨_, rfl, ?_⟩; replace HB := BS hb; (try clear hb); (try clear hb2); (try clear hk); (try clear hi)))
  go_ret
  exact ⟨TE, TB⟩
end
section
/-! ### impl_numberIn: function 163 -/
def impl_numberIn.f (a0 : ByteArray) (a1 : Int) : Option (Int × Bool) :=
 if a0.size ≤ 281474976710656 then
  match Go.Lib.atoiAll a0.data.toList with
  | .ok v => some (v, decide (0 ≤ v ∧ v ≤ a1) && (Go.Lib.itoa v == a0.data.toList))
  | .range => some (Go.Lib.atoiSat a0.data.toList, false)
  | _ => some (0, false)
 else none
theorem num_eqs (v : Int) (s : ByteArray) : ((⟨(Go.Lib.itoa v).toArray⟩ : ByteArray).toList == s.toList) = (Go.Lib.itoa v == s.data.toList) := by
 rw [Go.Lib.toList_data, Go.Lib.toList_data]
set_option maxHeartbeats 1000000 in
theorem impl_numberIn.calls (a0 : ByteArray) (a1 : Int) (r1 : Int) (r2 : Bool) (w : World) (hG_ : Glob w) (h : impl_numberIn.f a0 a1 = some (r1, r2)) :
  Calls Tryz.prog 163 #[.string a0, .int .i64 a1] w fun e w' => e = .returned (.tuple #[.int .i64 r1, .bool r2]) ∧ Below w.heap.size w w' := by
 unfold impl_numberIn.f at h
 split at h
 ·rename_i hsz
  cases hA : Go.Lib.atoiAll a0.data.toList with
  | range =>
   rw [hA] at h
   simp only [Option.some.injEq, Prod.mk.injEq] at h
   obtain ⟨rfl, rfl⟩ := h
   go_enter Tryz.func163, Tryz.ntmps163
   go_wp2_with (go_at_call 194; (with_reducible refine (num_atoi_range a0 hsz hA _ hG_).mono ?_); rintro e w1 ⟨tp, p, rfl, hb⟩)
   go_ret2
   exact ⟨rfl, hb⟩
  | ok v =>
   rw [hA] at h
   simp only [Option.some.injEq, Prod.mk.injEq] at h
   obtain ⟨rfl, rfl⟩ := h
   obtain ⟨vb0, vb1⟩ := Go.Lib.atoiAll_bounds hA
   by_cases hv : 0 ≤ v ∧ v ≤ a1
   ·have hW : impl_within.f v 0 a1 = some true := by
     unfold impl_within.f
     rw [if_pos hv.1]
     simp [hv.2]
    have hd : decide (0 ≤ v ∧ v ≤ a1) = true := decide_eq_true hv
    rw [hd, Bool.true_and, ← num_eqs]
    have HB := Aside0.mk (Below.refl w.heap.size w)
    go_enter Tryz.func163, Tryz.ntmps163
    go_wp2_with (first | (go_at_call 194; (with_reducible refine (num_atoi_ok a0 hsz v hA _).mono ?_); rintro e w1 ⟨rfl, hb⟩; have n0_ := Aside0.mk (below_step HB.out hb); clear HB hb; have HB := n0_; clear n0_) | (go_at_call 69; (with_reducible refine (impl_within.calls v 0 a1 true _ hW).mono ?_); rintro e w' ⟨rfl, ⟨nd, rfl⟩⟩) | (go_at_call 154; (with_reducible refine (num_itoa v vb0 vb1 _ (Glob.below hG_ TB)).mono ?_); rintro e w3 ⟨rfl, hb⟩; have n0_ := BS hb; clear HB hb; have HB := n0_; clear n0_))
    go_ret2
    exact ⟨TF, TB⟩
   ·have hW : impl_within.f v 0 a1 = some false := by
     unfold impl_within.f
     by_cases h0 : v ≥ 0
     ·rw [if_pos h0]
      have : ¬ v ≤ a1 := fun h => hv ⟨h0, h⟩
      simp [this]
     ·rw [if_neg h0]
    have hd : decide (0 ≤ v ∧ v ≤ a1) = false := decide_eq_false hv
    rw [hd, Bool.false_and]
    have HB := Aside0.mk (Below.refl w.heap.size w)
    go_enter Tryz.func163, Tryz.ntmps163
    go_wp2_with (first | (go_at_call 194; (with_reducible refine (num_atoi_ok a0 hsz v hA _).mono ?_); rintro e w1 ⟨rfl, hb⟩; have n0_ := Aside0.mk (below_step HB.out hb); clear HB hb; have HB := n0_; clear n0_) | (go_at_call 69; (with_reducible refine (impl_within.calls v 0 a1 false _ hW).mono ?_); rintro e w' ⟨rfl, ⟨nd, rfl⟩⟩))
    go_ret2
    exact ⟨TF, TB⟩
  | _ =>
   have hnn : noNum (Go.Lib.atoiAll a0.data.toList) := by rw [hA]; trivial
   rw [hA] at h
   simp only [Option.some.injEq, Prod.mk.injEq] at h
   obtain ⟨rfl, rfl⟩ := h
   go_enter Tryz.func163, Tryz.ntmps163
   go_wp2_with (go_at_call 194; (with_reducible refine (num_atoi_syntax a0 hsz hnn _ hG_).mono ?_); rintro e w1 ⟨tp, p, rfl, hb⟩)
   go_ret2
   exact ⟨rfl, hb⟩
 ·cases h
end
section
/-! ### impl_big: function 164 -/
def impl_big.l0 : Nat → Int → List Int → Int → Option (ByteArray)
 | 0, _, _, _ => none
 | k + 1, x0, x5, x6 => if x6 ≥ 0 then (if 0 ≤ (wrap64 (8 * x6)) then (if x5.length < 140737488355328 then (impl_big.l0 k x0 (x5 ++ [(shr .i64 x0 (wrap64 (8 * x6))) % 256]) (wrap64 (x6 - 1))) else (none)) else (none)) else (some (strOfNums x5))
def impl_big.f (k : Nat) (a0 : Int) (a1 : Int) : Option (ByteArray) := impl_big.l0 k a0 (([] : List Int)) (wrap64 (a1 - 1))
theorem impl_big.calls (k : Nat) (a0 : Int) (a1 : Int) (r : ByteArray) (w : World) (h : impl_big.f k a0 a1 = some r) :
  Calls Tryz.prog 164 #[.int .i64 a0, .int .i64 a1] w fun e w' => e = .returned (.string r) ∧ Below w.heap.size w w' := by
 have HB := Aside0.mk (Below.refl w.heap.size w)
 have H : (impl_big.l0 k a0 (([] : List Int)) (wrap64 (a1 - 1))) = some r := h
 clear h
 obtain ⟨y401, hy401⟩ : ∃ y_ : List Int, y_ = (([] : List Int)) := ⟨_, rfl⟩
 replace H : (impl_big.l0 k a0 y401 (wrap64 (a1 - 1))) = some r := by first | (rw [hy401]; with_reducible exact H) | (have H2_ := (Option.bind_some _ _).symm.trans H; rw [hy401]; with_reducible exact H2_) | (have H2_ := (Option.bind_some _ _).symm.trans H; with_reducible exact H2_) | with_reducible exact H | (rw [hy401]; exact H) | exact H
 have Ny401 := Aside0.mk hy401
 clear hy401
 have H' := Aside0.mk H
 clear H
 go_enter Tryz.func164, Tryz.ntmps164
 go_wp2_with (first | ((with_reducible refine gate_dst (N := 7) rfl ?_); refine Kd.R_lit (Kd.int .u8) _ 5 ?hg (N := 7) ?hd (xs := ([] : List Int)) (inner := []) (ok := fun _ => True) (okp := fun _ => True) ?hr ?hp (fun _ hk => hk) trivial (Below.refl _ _) (Nat.le_refl _) (by simp) ?_; (case hd => rfl); (case hg => rfl); (case hr => first | (go_simp; done) | (go_simp; rfl)); (case hp => exact (Reps.none _ _)); intro v402 w3 ho4 hb hg_ hnew_; clear hg_ hnew_; (first | rw [← Ny401.out] at ho4 | (simp only [Int.reduceToNat] at ho4; rw [← Ny401.out] at ho4)); have HO403 := RL ho4; replace HB := BS hb; clear hb ho4))
 go_loopg [5, 6] k (fun kq v5 v6 w' => ∃ (x5_1 : List Int) (x6_1 : Int), v6 = .int .i64 x6_1 ∧ Aside0 (impl_big.l0 kq a0 x5_1 x6_1 = some r) ∧ Aside0 (kq ≤ k) ∧ Aside0 (Kd.R (Kd.int .u8) 5 w' w.heap.size (fun _ => True) v5 x5_1) ∧ Aside0 (Below w.heap.size w w'))
 case atStart => exact ⟨(y401), (wrap64 (a1 - 1)), TF, H', ⟨Nat.le_refl _⟩, RW HO403, ⟨TB⟩⟩
 case round =>
  clear H'
  try clear c1
  try clear p2
  obtain ⟨x5_1, x6_1, rfl, HA, HK1, HO_5, HB⟩ := hrel
  cases gk with
  | zero => exact absurd HA.out (by simp [impl_big.l0])
  | succ k1 =>
   have H := HA.out
   clear HA
   simp only [impl_big.l0] at H
   by_cases c5 : x6_1 ≥ 0
   ·rw [if_pos c5] at H
    have c5b0 : decide (0 ≤ x6_1) = true := decide_eq_true c5
    clear c5
    obtain ⟨ji6, hji6⟩ : ∃ j_ : Int, (wrap64 (8 * x6_1)) = j_ := ⟨_, rfl⟩
    replace H : (if 0 ≤ (ji6) then (if x5_1.length < 140737488355328 then (impl_big.l0 k1 a0 (x5_1 ++ [(shr .i64 a0 (ji6)) % 256]) (wrap64 (x6_1 - 1))) else (none)) else (none)) = some r := by first | (rw [hji6] at H; exact H) | (simp only [hji6] at H ⊢; exact H)
    have hji6w : (IntKind.i64.wrap (8 * x6_1)) = ji6 := (i64_w _).trans hji6
    obtain ⟨c7, H⟩ := ifn H
    have c7b0 := eq_true c7
    have c7b1 : decide (0 ≤ (ji6)) = true := decide_eq_true c7
    clear c7
    obtain ⟨ji8, hji8⟩ : ∃ j_ : Int, (shr .i64 a0 (ji6)) = j_ := ⟨_, rfl⟩
    replace H : (if x5_1.length < 140737488355328 then (impl_big.l0 k1 a0 (x5_1 ++ [(ji8) % 256]) (wrap64 (x6_1 - 1))) else (none)) = some r := by first | (rw [hji8] at H; exact H) | (simp only [hji8] at H ⊢; exact H)
    have hji8_ : (a0 / 2 ^ min (ji6).toNat 64) = ji8 := hji8
    have hji8z : (ji6) ≤ 64 → (a0 / 2 ^ (ji6).toNat) = ji8 := shr_small hji8
    obtain ⟨c9, H⟩ := ifn H
    have LMc9 := Aside0.mk c9
    clear c9
    obtain ⟨y404, hy404⟩ : ∃ y_ : List Int, y_ = (x5_1 ++ [(ji8) % 256]) := ⟨_, rfl⟩
    replace H : (impl_big.l0 k1 a0 y404 (wrap64 (x6_1 - 1))) = some r := by first | (rw [hy404]; with_reducible exact H) | (have H2_ := (Option.bind_some _ _).symm.trans H; rw [hy404]; with_reducible exact H2_) | (have H2_ := (Option.bind_some _ _).symm.trans H; with_reducible exact H2_) | with_reducible exact H | (rw [hy404]; exact H) | exact H
    have Ny404 := Aside0.mk hy404
    clear hy404
    have H' := Aside0.mk H
    clear H
    go_wp2_with (first | ((with_reducible refine gate_builtin (b := .append) (xs := #[.tmp 14, .tmp 20]) rfl ?_); at_builtin; refine Kd.R_append (Kd.int .u8) (w0 := w) w.heap.size rfl (.tmp 14) (.tmp 20) 141 5 (.int .u8 0) 1 rfl Tryz.underlying141 info5 rfl (by decide) (by omega) u5 x5_1 ((ji8) % 256) [.int .u8 ((ji8) % 256)] (fun _ => True) (fun _ => False) rfl rfl ?aP (fun _ hk => hk.elim) ?aF ?aO ?aB ?aS ?aL ?_; (case aP => exact rfl); (case aB => exact TB); (case aF => exact (fun _ _ => trivial)); (case aO => exact (RW HO_5).out); (case aS => exact (below_size TB)); (case aL => have := LMc9.out; omega); intro v405 w10 ho hb hg hat; rw [← Ny404.out] at ho; have n0_ := Aside0.mk (hb); have n1_ := Aside0.mk (ho); clear HB; clear HO_5; have HB := n0_; have HO406 := n1_; clear n0_ n1_; clear ho hb hg hat))
    go_roundg k1
    case measure => have := HK1.out; omega
    case rel => exact ⟨(y404), (wrap64 (x6_1 - 1)), TF, H', ⟨TM⟩, RW HO406, ⟨TB⟩⟩
   ·rw [if_neg c5] at H
    have c5b0 : decide (0 ≤ x6_1) = false := decide_eq_false c5
    clear c5
    obtain rfl := Option.some.inj H
    have hcv11 := own_string (P := Tryz.prog) Tryz.underlying141 Tryz.underlying5 Tryz.underlying9 (Kd.own_of_R HO_5.out)
    go_wp2
    go_ret
    exact ⟨TE, TB⟩
end
section
/-! ### impl_isTarget: function 165 -/
def impl_isTarget.f (k : Nat) (a0 : ByteArray) : Option (Bool) := if a0.toList = ([] : List UInt8) then (some false) else ((impl_GoodName.f k a0).bind fun t407 => (if t407 = true then ((strings_Contains.f a0 (⟨#[42]⟩ : ByteArray)).bind fun t408 => (some (!t408))) else (some false)))
theorem impl_isTarget.calls (k : Nat) (a0 : ByteArray) (r : Bool) (w : World) (h : impl_isTarget.f k a0 = some r) :
  Calls Tryz.prog 165 #[.string a0] w fun e w' => e = .returned (.bool r) ∧ Below w.heap.size w w' := by
 have HB := Aside0.mk (Below.refl w.heap.size w)
 have H : (if a0.toList = ([] : List UInt8) then (some false) else ((impl_GoodName.f k a0).bind fun t407 => (if t407 = true then ((strings_Contains.f a0 (⟨#[42]⟩ : ByteArray)).bind fun t408 => (some (!t408))) else (some false)))) = some r := h
 clear h
 by_cases c2 : a0.toList = ([] : List UInt8)
 ·rw [if_pos c2] at H
  have c2b0 : (a0.toList == ([] : List UInt8)) = true := beq_iff_eq.mpr c2
  have c2b1 : (a0.toList != ([] : List UInt8)) = false := bne_eq_false_iff_eq.mpr c2
  clear c2
  obtain rfl := Option.some.inj H
  go_enter Tryz.func165, Tryz.ntmps165
  go_wp2
  go_ret
  exact ⟨by first | rfl | (simp [errW_none, errW_some] <;> rfl) | (simp [*, errW_none, errW_some] <;> rfl) | (simp [errW_none, errW_some]; rw [Bool.eq_iff_iff]; simp), TB⟩
 ·rw [if_neg c2] at H
  have c2b0 : (a0.toList == ([] : List UInt8)) = false := beq_eq_false_iff_ne.mpr c2
  have c2b1 : (a0.toList != ([] : List UInt8)) = true := bne_iff_ne.mpr c2
  obtain ⟨t407, A3, H⟩ := bnd H
  by_cases c4 : t407 = true
  ·subst c4
   replace H := ift H
   obtain ⟨t408, A5, H⟩ := bnd H
   obtain rfl := Option.some.inj H
   go_enter Tryz.func165, Tryz.ntmps165
   go_wp2_with (first | (go_at_call 62; (with_reducible refine (impl_GoodName.calls k a0 true _ A3.out).mono ?_); rintro e w6 ⟨rfl, hb⟩; replace HB := BS hb; (try clear hb); (try clear hb2); (try clear hk); (try clear hi)) | (go_at_call 195; (with_reducible refine (strings_Contains.calls a0 (⟨#[42]⟩ : ByteArray) t408 _ A5.out).mono ?_); rintro e w' ⟨rfl, ⟨nd, rfl⟩⟩))
   go_ret
   exact ⟨by first | rfl | (simp [errW_none, errW_some] <;> rfl) | (simp [*, errW_none, errW_some] <;> rfl) | (simp [errW_none, errW_some]; rw [Bool.eq_iff_iff]; simp), TB⟩
  ·replace c4 := Bool.eq_false_iff.mpr c4
   subst c4
   replace H := iff' H
   obtain rfl := Option.some.inj H
   go_enter Tryz.func165, Tryz.ntmps165
   go_wp2_with (first | (go_at_call 62; (with_reducible refine (impl_GoodName.calls k a0 false _ A3.out).mono ?_); rintro e w7 ⟨rfl, hb⟩; replace HB := BS hb; (try clear hb); (try clear hb2); (try clear hk); (try clear hi)))
   go_ret
   exact ⟨by first | rfl | (simp [errW_none, errW_some] <;> rfl) | (simp [*, errW_none, errW_some] <;> rfl) | (simp [errW_none, errW_some]; rw [Bool.eq_iff_iff]; simp), TB⟩
end
section
/-! ### impl_labelBytes: function 166 -/
def impl_labelBytes.l0 : Nat → ByteArray → List ByteArray → Int → Int → Option (ByteArray)
 | 0, _, _, _, _ => none
 | k + 1, x3, x7, x8, x9 => if x9 < x8 then (if 0 ≤ x9 then (if x9 < (x7.length : Int) then ((some (([(((rdOf ByteArray.empty x7 x9).size : Int)) % 256] : List Int) : List Int)).bind fun y413 => (if (strOfNums y413).size + (rdOf ByteArray.empty x7 x9).size ≤ 9223372036854775807 then (if x3.size + ((strOfNums y413) ++ (rdOf ByteArray.empty x7 x9)).size ≤ 9223372036854775807 then (impl_labelBytes.l0 k (x3 ++ ((strOfNums y413) ++ (rdOf ByteArray.empty x7 x9))) x7 x8 (wrap64 (x9 + 1))) else (none)) else (none))) else (none)) else (none)) else (some x3)
def impl_labelBytes.f (k : Nat) (a0 : ByteArray) : Option (ByteArray) := (impl_labelsOf.f k a0).bind fun t409 => (impl_labelBytes.l0 k (⟨#[]⟩ : ByteArray) t409 (t409.length : Int) 0)
theorem impl_labelBytes.calls (k : Nat) (a0 : ByteArray) (r : ByteArray) (w : World) (h : impl_labelBytes.f k a0 = some r) :
  Calls Tryz.prog 166 #[.string a0] w fun e w' => e = .returned (.string r) ∧ Below w.heap.size w w' := by
 have HB := Aside0.mk (Below.refl w.heap.size w)
 have H : ((impl_labelsOf.f k a0).bind fun t409 => (impl_labelBytes.l0 k (⟨#[]⟩ : ByteArray) t409 (t409.length : Int) 0)) = some r := h
 clear h
 obtain ⟨t409, A2, H⟩ := bnd H
 have H' := Aside0.mk H
 clear H
 go_enter Tryz.func166, Tryz.ntmps166
 go_wp2_with (first | ((with_reducible refine gate_callee (f := 114) rfl ?_); refine goesL_ (some 7) rfl rfl Tryz.func114 KR rfl #[.string a0] rfl TA ?_; (with_reducible refine (impl_labelsOf.calls k a0 t409 _ A2.out).mono ?_); rintro e w3 ⟨v410, rfl, ho0, hb⟩; refine ⟨_, rfl, ?_⟩; have HO411 := RL ho0; replace HB := BS hb; (try clear hb); (try clear hb2); (try clear hk); (try clear hi); (try clear ho0); obtain ⟨Ao4, co4, eo4⟩ := Kd.R_slice HO411.out; subst eo4))
 go_loopg [3, 9] k (fun kq v3 v9 w' => ∃ (x3_1 : ByteArray) (x9_1 : Int), v3 = .string x3_1 ∧ v9 = .int .i64 x9_1 ∧ Aside0 (impl_labelBytes.l0 kq x3_1 t409 (t409.length : Int) x9_1 = some r) ∧ Aside0 (kq ≤ k) ∧ Aside0 (Kd.R Kd.string 9 w' w.heap.size (fun _ => True) (.slice Ao4 t409.length co4) t409) ∧ Aside0 (Below w.heap.size w w'))
 case atStart => exact ⟨((⟨#[]⟩ : ByteArray)), (0), TF, TF, H', ⟨Nat.le_refl _⟩, RW HO411, ⟨TB⟩⟩
 case round =>
  clear H'
  try clear c1
  try clear p2
  obtain ⟨x3_1, x9_1, rfl, rfl, HA, HK1, HO_7, HB⟩ := hrel
  cases gk with
  | zero => exact absurd HA.out (by simp [impl_labelBytes.l0])
  | succ k1 =>
   have H := HA.out
   clear HA
   simp only [impl_labelBytes.l0] at H
   by_cases c5 : x9_1 < (t409.length : Int)
   ·rw [if_pos c5] at H
    have c5b0 : decide (x9_1 < (t409.length : Int)) = true := decide_eq_true c5
    clear c5
    obtain ⟨c6, H⟩ := ifn H
    have c6b0 : decide (0 ≤ x9_1) = true := decide_eq_true c6
    clear c6
    obtain ⟨c7, H⟩ := ifn H
    have c7b0 : decide (x9_1 < (t409.length : Int)) = true := decide_eq_true c7
    clear c7
    obtain ⟨y413, hy413⟩ : ∃ y_ : List Int, y_ = (([(((rdOf ByteArray.empty t409 x9_1).size : Int)) % 256] : List Int)) := ⟨_, rfl⟩
    replace H : (if (strOfNums y413).size + (rdOf ByteArray.empty t409 x9_1).size ≤ 9223372036854775807 then (if x3_1.size + ((strOfNums y413) ++ (rdOf ByteArray.empty t409 x9_1)).size ≤ 9223372036854775807 then (impl_labelBytes.l0 k1 (x3_1 ++ ((strOfNums y413) ++ (rdOf ByteArray.empty t409 x9_1))) t409 (t409.length : Int) (wrap64 (x9_1 + 1))) else (none)) else (none)) = some r := by first | (rw [hy413]; with_reducible exact H) | (have H2_ := (Option.bind_some _ _).symm.trans H; rw [hy413]; with_reducible exact H2_) | (have H2_ := (Option.bind_some _ _).symm.trans H; with_reducible exact H2_) | with_reducible exact H | (rw [hy413]; exact H) | exact H
    have Ny413 := Aside0.mk hy413
    clear hy413
    obtain ⟨c8, H⟩ := ifn H
    have c8b0 := eq_true c8
    have c8b1 : decide ((strOfNums y413).size + (rdOf ByteArray.empty t409 x9_1).size ≤ 9223372036854775807) = true := decide_eq_true c8
    try have c8b2 : (9223372036854775807 < (strOfNums y413).size + (rdOf ByteArray.empty t409 x9_1).size) = False := eq_false (Nat.not_lt.2 c8)
    obtain ⟨c9, H⟩ := ifn H
    have c9b0 := eq_true c9
    have c9b1 : decide (x3_1.size + ((strOfNums y413) ++ (rdOf ByteArray.empty t409 x9_1)).size ≤ 9223372036854775807) = true := decide_eq_true c9
    try have c9b2 : (9223372036854775807 < x3_1.size + ((strOfNums y413) ++ (rdOf ByteArray.empty t409 x9_1)).size) = False := eq_false (Nat.not_lt.2 c9)
    have H' := Aside0.mk H
    clear H
    have p412 : 0 ≤ (x9_1 : Int) := TD
    have q412 : x9_1 < (t409.length : Int) := TD
    obtain ⟨ad412, e412, hx412_0⟩ := Kd.at_string (Kd.R_reads' HO_7.out).2.2 x9_1 p412 q412
    cases e412
    replace p412 := eq_true p412
    replace q412 := eq_true q412
    go_wp2_with (first | ((with_reducible refine gate_dst (N := 17) rfl ?_); refine Kd.R_lit (Kd.int .u8) _ 5 ?hg (N := 17) ?hd (xs := ([(((rdOf ByteArray.empty t409 x9_1).size : Int)) % 256] : List Int)) (inner := [.int .u8 ((((rdOf ByteArray.empty t409 x9_1).size : Int)) % 256)]) (ok := fun _ => True) (okp := fun _ => True) ?hr ?hp (fun _ hk => hk) trivial (Below.refl _ _) (Nat.le_refl _) (by simp) ?_; (case hd => rfl); (case hg => rfl); (case hr => first | (go_simp; done) | (go_simp; rfl)); (case hp => exact (Reps.one (show Kd.M (Kd.int .u8) _ _ _ ((((rdOf ByteArray.empty t409 x9_1).size : Int)) % 256) [.int .u8 ((((rdOf ByteArray.empty t409 x9_1).size : Int)) % 256)] from rfl) (Reps.none _ _))); intro v414 w10 ho11 hb hg_ hnew_; clear hg_ hnew_; (first | rw [← Ny413.out] at ho11 | (simp only [Int.reduceToNat] at ho11; rw [← Ny413.out] at ho11)); replace HO_7 := RB HO_7 hb; have HO415 := RL ho11; replace HB := BS hb; clear hb ho11; have hcv12 := own_string (P := Tryz.prog) Tryz.underlying141 Tryz.underlying5 Tryz.underlying9 (Kd.own_of_R HO415.out)))
    go_roundg k1
    case measure => have := HK1.out; omega
    case rel => exact ⟨(x3_1 ++ ((strOfNums y413) ++ (rdOf ByteArray.empty t409 x9_1))), (wrap64 (x9_1 + 1)), TF, TF, H', ⟨TM⟩, RW HO_7, ⟨TB⟩⟩
   ·rw [if_neg c5] at H
    have c5b0 : decide (x9_1 < (t409.length : Int)) = false := decide_eq_false c5
    clear c5
    obtain rfl := Option.some.inj H
    go_wp2
    go_ret
    exact ⟨TE, TB⟩
end
section
/-! ### stringslite_Index: function 197 -/
def stringslite_Index.f (a0 : ByteArray) (a1 : ByteArray) : Option (Int) := if a1.size = 1 then some (Go.Lib.indexByte a0.data.toList (a1.data.toList.headD 0)) else none
theorem stringslite_Index.calls (a0 : ByteArray) (a1 : ByteArray) (r : Int) (w : World) (h : stringslite_Index.f a0 a1 = some r) :
  Calls Tryz.prog 197 #[.string a0, .string a1] w fun e w' => e = .returned (.int .i64 r) ∧ Drawn0 w w' := by
 unfold stringslite_Index.f at h
 by_cases h1 : a1.size = 1
 ·rw [if_pos h1] at h
  obtain rfl := Option.some.inj h
  obtain ⟨⟨l⟩⟩ := a1
  match l, h1 with
  | [c], _ => exact (Go.Proofs.Any.stringslite_Index_one Go.Proofs.Tryz.lays219 a0 c w).mono fun e w' hh => ⟨hh.1, hh.2 ▸ Drawn0.refl _⟩
 ·rw [if_neg h1] at h
  cases h
end
section
/-! ### stringslite_Cut: function 169 -/
def stringslite_Cut.f (a0 : ByteArray) (a1 : ByteArray) : Option (ByteArray × ByteArray × Bool) := (stringslite_Index.f a0 a1).bind fun t416 => (if t416 ≥ 0 then (if 0 ≤ t416 then (if t416 ≤ (a0.size : Int) then (if 0 ≤ (wrap64 (t416 + (a1.size : Int))) then (if (wrap64 (t416 + (a1.size : Int))) ≤ (a0.size : Int) then (some (a0.extract 0 (t416 : Int).toNat, a0.extract ((wrap64 (t416 + (a1.size : Int))) : Int).toNat a0.size, true)) else (none)) else (none)) else (none)) else (none)) else (some (a0, (⟨#[]⟩ : ByteArray), false)))
theorem stringslite_Cut.calls (a0 : ByteArray) (a1 : ByteArray) (r1 : ByteArray) (r2 : ByteArray) (r3 : Bool) (w : World) (h : stringslite_Cut.f a0 a1 = some (r1, r2, r3)) :
  Calls Tryz.prog 169 #[.string a0, .string a1] w fun e w' => e = .returned (.tuple #[.string r1, .string r2, .bool r3]) ∧ Drawn0 w w' := by
 have H : ((stringslite_Index.f a0 a1).bind fun t416 => (if t416 ≥ 0 then (if 0 ≤ t416 then (if t416 ≤ (a0.size : Int) then (if 0 ≤ (wrap64 (t416 + (a1.size : Int))) then (if (wrap64 (t416 + (a1.size : Int))) ≤ (a0.size : Int) then (some (a0.extract 0 (t416 : Int).toNat, a0.extract ((wrap64 (t416 + (a1.size : Int))) : Int).toNat a0.size, true)) else (none)) else (none)) else (none)) else (none)) else (some (a0, (⟨#[]⟩ : ByteArray), false)))) = some (r1, r2, r3) := h
 clear h
 obtain ⟨t416, A3, H⟩ := bnd H
 by_cases c4 : t416 ≥ 0
 ·rw [if_pos c4] at H
  have c4b0 : decide (0 ≤ t416) = true := decide_eq_true c4
  clear c4
  obtain ⟨c5, H⟩ := ifn H
  have c5b0 := eq_true c5
  have c5b1 : decide (0 ≤ t416) = true := decide_eq_true c5
  clear c5
  obtain ⟨c6, H⟩ := ifn H
  have c6b0 := eq_true c6
  have c6b1 : decide (t416 ≤ (a0.size : Int)) = true := decide_eq_true c6
  clear c6
  obtain ⟨ji7, hji7⟩ : ∃ j_ : Int, (wrap64 (t416 + (a1.size : Int))) = j_ := ⟨_, rfl⟩
  replace H : (if 0 ≤ (ji7) then (if (ji7) ≤ (a0.size : Int) then (some (a0.extract 0 (t416 : Int).toNat, a0.extract ((ji7) : Int).toNat a0.size, true)) else (none)) else (none)) = some (r1, r2, r3) := by first | (rw [hji7] at H; exact H) | (simp only [hji7] at H ⊢; exact H)
  (try rw [hji7] at A3)
  have hji7w : (IntKind.i64.wrap (t416 + (a1.size : Int))) = ji7 := (i64_w _).trans hji7
  obtain ⟨c8, H⟩ := ifn H
  have c8b0 := eq_true c8
  have c8b1 : decide (0 ≤ (ji7)) = true := decide_eq_true c8
  clear c8
  obtain ⟨c9, H⟩ := ifn H
  have c9b0 := eq_true c9
  have c9b1 : decide ((ji7) ≤ (a0.size : Int)) = true := decide_eq_true c9
  clear c9
  simp only [Option.some.injEq, Prod.mk.injEq] at H
  obtain ⟨rfl, rfl, rfl⟩ := H
  go_enter Tryz.func169, Tryz.ntmps169
  go_wp2_with (first | (go_at_call 197; (with_reducible refine (stringslite_Index.calls a0 a1 t416 _ A3.out).mono ?_); rintro e w' ⟨rfl, ⟨nd, rfl⟩⟩; (try first | exact ⟨rfl, _, World.drewN_drewN _ _ _⟩ | exact ⟨rfl, _, Eq.trans (World.drewN_drewN _ _ _) (congrArg (World.drewN _) (Nat.add_assoc _ _ _))⟩)))
  repeat (go_quiet (first | (go_at_call 197; (with_reducible refine (stringslite_Index.calls a0 a1 t416 _ A3.out).mono ?_); rintro e w' ⟨rfl, ⟨nd, rfl⟩⟩; (try first | exact ⟨rfl, _, World.drewN_drewN _ _ _⟩ | exact ⟨rfl, _, Eq.trans (World.drewN_drewN _ _ _) (congrArg (World.drewN _) (Nat.add_assoc _ _ _))⟩))); try go_wp2_with (first | (go_at_call 197; (with_reducible refine (stringslite_Index.calls a0 a1 t416 _ A3.out).mono ?_); rintro e w' ⟨rfl, ⟨nd, rfl⟩⟩; (try first | exact ⟨rfl, _, World.drewN_drewN _ _ _⟩ | exact ⟨rfl, _, Eq.trans (World.drewN_drewN _ _ _) (congrArg (World.drewN _) (Nat.add_assoc _ _ _))⟩))))
  go_ret3
  exact ⟨by first | rfl | (simp; done) | (simp only [← hji7] <;> (first | rfl | simp)) | (simp [*]; done), TN⟩
 ·rw [if_neg c4] at H
  have c4b0 : decide (0 ≤ t416) = false := decide_eq_false c4
  clear c4
  simp only [Option.some.injEq, Prod.mk.injEq] at H
  obtain ⟨rfl, rfl, rfl⟩ := H
  go_enter Tryz.func169, Tryz.ntmps169
  go_wp2_with (first | (go_at_call 197; (with_reducible refine (stringslite_Index.calls a0 a1 t416 _ A3.out).mono ?_); rintro e w' ⟨rfl, ⟨nd, rfl⟩⟩; (try first | exact ⟨rfl, _, World.drewN_drewN _ _ _⟩ | exact ⟨rfl, _, Eq.trans (World.drewN_drewN _ _ _) (congrArg (World.drewN _) (Nat.add_assoc _ _ _))⟩)))
  repeat (go_quiet (first | (go_at_call 197; (with_reducible refine (stringslite_Index.calls a0 a1 t416 _ A3.out).mono ?_); rintro e w' ⟨rfl, ⟨nd, rfl⟩⟩; (try first | exact ⟨rfl, _, World.drewN_drewN _ _ _⟩ | exact ⟨rfl, _, Eq.trans (World.drewN_drewN _ _ _) (congrArg (World.drewN _) (Nat.add_assoc _ _ _))⟩))); try go_wp2_with (first | (go_at_call 197; (with_reducible refine (stringslite_Index.calls a0 a1 t416 _ A3.out).mono ?_); rintro e w' ⟨rfl, ⟨nd, rfl⟩⟩; (try first | exact ⟨rfl, _, World.drewN_drewN _ _ _⟩ | exact ⟨rfl, _, Eq.trans (World.drewN_drewN _ _ _) (congrArg (World.drewN _) (Nat.add_assoc _ _ _))⟩))))
  go_ret3
  exact ⟨TF, TN⟩
end
section
/-! ### strings_Cut: function 130 -/
def strings_Cut.f (a0 : ByteArray) (a1 : ByteArray) : Option (ByteArray × ByteArray × Bool) := (stringslite_Cut.f a0 a1).bind fun bt417 => (some (bt417.1, bt417.2.1, bt417.2.2))
theorem strings_Cut.calls (a0 : ByteArray) (a1 : ByteArray) (r1 : ByteArray) (r2 : ByteArray) (r3 : Bool) (w : World) (h : strings_Cut.f a0 a1 = some (r1, r2, r3)) :
  Calls Tryz.prog 130 #[.string a0, .string a1] w fun e w' => e = .returned (.tuple #[.string r1, .string r2, .bool r3]) ∧ Drawn0 w w' := by
 have H : ((stringslite_Cut.f a0 a1).bind fun bt417 => (some (bt417.1, bt417.2.1, bt417.2.2))) = some (r1, r2, r3) := h
 clear h
 obtain ⟨⟨t417, t418, t419⟩, A3, H⟩ := bnd H
 try dsimp only at H
 simp only [Option.some.injEq, Prod.mk.injEq] at H
 obtain ⟨rfl, rfl, rfl⟩ := H
 go_enter Tryz.func130, Tryz.ntmps130
 go_wp2_with (first | ((with_reducible refine gate_callee (f := 169) rfl ?_); refine goesL_ (some 9) rfl rfl Tryz.func169 KR rfl #[.string a0, .string a1] rfl TA ?_; (with_reducible refine (stringslite_Cut.calls a0 a1 t417 t418 t419 _ A3.out).mono ?_); rintro e w' ⟨rfl, ⟨nd, rfl⟩⟩; refine ⟨_, rfl, ?_⟩))
 go_ret3
 exact ⟨TF, TN⟩
end
section
/-! ### impl_DataBytes_1: function 168 -/
def impl_DataBytes_1.f (a0 : Int) : Option (Bool) := if a0 < 32 then (some true) else (some (decide (a0 > 126)))
theorem impl_DataBytes_1.calls (a0 : Int) (r : Bool) (w : World) (h : impl_DataBytes_1.f a0 = some r) :
  Calls Tryz.prog 168 #[.int .u8 a0] w fun e w' => e = .returned (.bool r) ∧ Drawn0 w w' := by
 have H : (if a0 < 32 then (some true) else (some (decide (a0 > 126)))) = some r := h
 clear h
 by_cases c2 : a0 < 32
 ·rw [if_pos c2] at H
  have c2b0 : decide (a0 < 32) = true := decide_eq_true c2
  clear c2
  obtain rfl := Option.some.inj H
  go_enter Tryz.func168, Tryz.ntmps168
  go_wp2
  go_ret
  exact ⟨TF, TN⟩
 ·rw [if_neg c2] at H
  have c2b0 : decide (a0 < 32) = false := decide_eq_false c2
  clear c2
  obtain rfl := Option.some.inj H
  go_enter Tryz.func168, Tryz.ntmps168
  go_wp2
  go_ret
  exact ⟨TF, TN⟩
end
section
/-! ### slices_IndexFunc_byte_byte_DataBytes_1: function 196 -/
def slices_IndexFunc_byte_byte_DataBytes_1.l0 : Nat → List Int → Int → Int → Option (Int)
 | 0, _, _, _ => none
 | k + 1, x0, x7, x8 => if x8 < x7 then (if 0 ≤ x8 then (if x8 < (x0.length : Int) then ((impl_DataBytes_1.f (rd x0 x8)).bind fun t421 => (if t421 = true then (some x8) else (slices_IndexFunc_byte_byte_DataBytes_1.l0 k x0 x7 (wrap64 (x8 + 1))))) else (none)) else (none)) else (some (-1))
def slices_IndexFunc_byte_byte_DataBytes_1.f (k : Nat) (l0 : List Int)  : Option (Int) := slices_IndexFunc_byte_byte_DataBytes_1.l0 k l0 (l0.length : Int) 0
theorem slices_IndexFunc_byte_byte_DataBytes_1.calls (k : Nat) (A0 : Option Addr) (c0 : Nat) (l0 : List Int)  (r : Int) (w : World) (hr0 : Kd.C (Kd.int .u8) w A0 l0.length l0) (hc0 : l0.length ≤ c0) (h : slices_IndexFunc_byte_byte_DataBytes_1.f k l0 = some r) :
  Calls Tryz.prog 196 #[.slice A0 l0.length c0, .func (.func 168) #[] #[]] w fun e w' => e = .returned (.int .i64 r) ∧ Drawn0 w w' := by
 have HR0 := Aside0.mk hr0
 have HC0 := Aside0.mk hc0
 clear hr0 hc0
 have H : (slices_IndexFunc_byte_byte_DataBytes_1.l0 k l0 (l0.length : Int) 0) = some r := h
 clear h
 have H' := Aside0.mk H
 clear H
 go_enter Tryz.func196, Tryz.ntmps196
 go_wp2
 go_loopg [8] k (fun kq v8 w' => ∃ (x8_1 : Int), v8 = .int .i64 x8_1 ∧ Aside0 (slices_IndexFunc_byte_byte_DataBytes_1.l0 kq l0 (l0.length : Int) x8_1 = some r) ∧ Aside0 (kq ≤ k) ∧ Drawn0 w w')
 case atStart => exact ⟨(0), TF, H', ⟨Nat.le_refl _⟩, TN⟩
 case round =>
  clear H'
  try clear c1
  try clear p2
  obtain ⟨x8_1, rfl, HA, HK1, ⟨m1, rfl⟩⟩ := hrel
  cases gk with
  | zero => exact absurd HA.out (by simp [slices_IndexFunc_byte_byte_DataBytes_1.l0])
  | succ k1 =>
   have H := HA.out
   clear HA
   simp only [slices_IndexFunc_byte_byte_DataBytes_1.l0] at H
   by_cases c3 : x8_1 < (l0.length : Int)
   ·rw [if_pos c3] at H
    have c3b0 : decide (x8_1 < (l0.length : Int)) = true := decide_eq_true c3
    clear c3
    obtain ⟨c4, H⟩ := ifn H
    have c4b0 : decide (0 ≤ x8_1) = true := decide_eq_true c4
    clear c4
    obtain ⟨c5, H⟩ := ifn H
    have c5b0 : decide (x8_1 < (l0.length : Int)) = true := decide_eq_true c5
    clear c5
    obtain ⟨t421, A6, H⟩ := bnd H
    by_cases c7 : t421 = true
    ·subst c7
     replace H := ift H
     obtain rfl := Option.some.inj H
     have p420 : 0 ≤ (x8_1 : Int) := TD
     have q420 : x8_1 < (l0.length : Int) := TD
     obtain ⟨ad420, e420, hx420_0⟩ := Kd.at_int HR0.out x8_1 p420 q420
     cases e420
     replace p420 := eq_true p420
     replace q420 := eq_true q420
     go_wp2_with (first | (go_at_call 168; (with_reducible refine (impl_DataBytes_1.calls (rd l0 x8_1) true _ A6.out).mono ?_); rintro e w' ⟨rfl, ⟨nd, rfl⟩⟩))
     go_ret
     exact ⟨TF, TN⟩
    ·replace c7 := Bool.eq_false_iff.mpr c7
     subst c7
     replace H := iff' H
     have H' := Aside0.mk H
     clear H
     have p420 : 0 ≤ (x8_1 : Int) := TD
     have q420 : x8_1 < (l0.length : Int) := TD
     obtain ⟨ad420, e420, hx420_0⟩ := Kd.at_int HR0.out x8_1 p420 q420
     cases e420
     replace p420 := eq_true p420
     replace q420 := eq_true q420
     go_wp2_with (first | (go_at_call 168; (with_reducible refine (impl_DataBytes_1.calls (rd l0 x8_1) false _ A6.out).mono ?_); rintro e w' ⟨rfl, ⟨nd, rfl⟩⟩))
     go_roundg k1
     case measure => have := HK1.out; omega
     case rel => exact ⟨(wrap64 (x8_1 + 1)), TF, H', ⟨TM⟩, TN⟩
   ·rw [if_neg c3] at H
    have c3b0 : decide (x8_1 < (l0.length : Int)) = false := decide_eq_false c3
    clear c3
    obtain rfl := Option.some.inj H
    go_wp2
    go_ret
    exact ⟨TF, TN⟩
end
section
/-! ### slices_ContainsFunc_byte_byte_DataBytes_1: function 167 -/
def slices_ContainsFunc_byte_byte_DataBytes_1.f (k : Nat) (l0 : List Int)  : Option (Bool) := (slices_IndexFunc_byte_byte_DataBytes_1.f k l0).bind fun t422 => (some (decide (t422 ≥ 0)))
theorem slices_ContainsFunc_byte_byte_DataBytes_1.calls (k : Nat) (A0 : Option Addr) (c0 : Nat) (l0 : List Int)  (r : Bool) (w : World) (hr0 : Kd.C (Kd.int .u8) w A0 l0.length l0) (hc0 : l0.length ≤ c0) (h : slices_ContainsFunc_byte_byte_DataBytes_1.f k l0 = some r) :
  Calls Tryz.prog 167 #[.slice A0 l0.length c0, .func (.func 168) #[] #[]] w fun e w' => e = .returned (.bool r) ∧ Drawn0 w w' := by
 have HR0 := Aside0.mk hr0
 have HC0 := Aside0.mk hc0
 clear hr0 hc0
 have H : ((slices_IndexFunc_byte_byte_DataBytes_1.f k l0).bind fun t422 => (some (decide (t422 ≥ 0)))) = some r := h
 clear h
 obtain ⟨t422, A3, H⟩ := bnd H
 obtain rfl := Option.some.inj H
 go_enter Tryz.func167, Tryz.ntmps167
 go_wp2_with (first | ((with_reducible refine gate_callee (f := 196) rfl ?_); refine goesL_ (some 7) rfl rfl Tryz.func196 KR rfl #[.slice A0 l0.length c0, .func (.func 168) #[] #[]] rfl TA ?_; (with_reducible refine (slices_IndexFunc_byte_byte_DataBytes_1.calls k _ _ l0  t422 _ ?side1 ?side2 A3.out).mono ?_); (case side1 => exact CW (HR0.out)); (case side2 => exact HC0.out); rintro e w' ⟨rfl, ⟨nd, rfl⟩⟩; refine ⟨_, rfl, ?_⟩))
 go_ret
 exact ⟨TF, TN⟩
end
section
/-! ### impl_DataBytes: function 129 -/
mutual
def impl_DataBytes.l0 : Nat → ByteArray → List ByteArray → List ByteArray → Int → Int → Option (ByteArray × Bool)
 | 0, _, _, _, _, _ => none
 | k + 1, x6, x7, x24, x25, x26 => if x26 < x25 then (if 0 ≤ x26 then (if x26 < (x24.length : Int) then ((impl_numberIn.f (rdOf ByteArray.empty x24 x26) 255).bind fun bt427 => (if bt427.2 = true then (if (x7.length : Int) = 4 then ((impl_big.f k bt427.1 1).bind fun t429 => (if x6.size + t429.size ≤ 9223372036854775807 then (impl_DataBytes.l0 k (x6 ++ t429) x7 x24 x25 (wrap64 (x26 + 1))) else (none))) else (some ((⟨#[]⟩ : ByteArray), false))) else (some ((⟨#[]⟩ : ByteArray), false)))) else (none)) else (none)) else (some (x6, true))
def impl_DataBytes.j1 : Nat → ByteArray → Int → Bool → Option (ByteArray × Bool)
 | 0, _, _, _ => none
 | k + 1, x1, x19, x48 => if x48 = true then ((impl_isTarget.f k x1).bind fun t430 => (if t430 = true then ((impl_labelBytes.f k x1).bind fun t431 => (if t431.size + 1 ≤ 9223372036854775807 then (some (t431 ++ (⟨#[0]⟩ : ByteArray), true)) else (none))) else (some ((⟨#[]⟩ : ByteArray), false)))) else (if x19 = 6 then ((impl_numberIn.f x1 4294967295).bind fun bt432 => (if bt432.2 = true then ((impl_big.f k bt432.1 4).bind fun t434 => (some (t434, true))) else (some ((⟨#[]⟩ : ByteArray), false)))) else (if x19 = 15 then ((strings_Cut.f x1 (⟨#[32]⟩ : ByteArray)).bind fun bt435 => ((impl_numberIn.f bt435.1 65535).bind fun bt438 => (if bt438.2 = true then ((impl_isTarget.f k bt435.2.1).bind fun t440 => (impl_DataBytes.j2 k bt435.2.1 bt438.1 (!t440))) else (impl_DataBytes.j2 k bt435.2.1 bt438.1 true)))) else (if x19 = 16 then (if (x1.size : Int) > 30 then (some ((⟨#[]⟩ : ByteArray), false)) else (if x1.size ≤ 9223372036854775807 then ((slices_ContainsFunc_byte_byte_DataBytes_1.f k (bytesOf x1)).bind fun t446 => (if t446 = true then (some ((⟨#[]⟩ : ByteArray), false)) else ((impl_big.f k (x1.size : Int) 1).bind fun t447 => (if t447.size + x1.size ≤ 9223372036854775807 then (some (t447 ++ x1, true)) else (none))))) else (none))) else (some ((⟨#[]⟩ : ByteArray), false)))))
def impl_DataBytes.j2 : Nat → ByteArray → Int → Bool → Option (ByteArray × Bool)
 | 0, _, _, _ => none
 | k + 1, x15, x17, x87 => if x87 = true then (some ((⟨#[]⟩ : ByteArray), false)) else ((impl_big.f k x17 2).bind fun t441 => ((impl_labelBytes.f k x15).bind fun t442 => (if t441.size + t442.size ≤ 9223372036854775807 then (if (t441 ++ t442).size + 1 ≤ 9223372036854775807 then (some ((t441 ++ t442) ++ (⟨#[0]⟩ : ByteArray), true)) else (none)) else (none))))
end
def impl_DataBytes.f (k : Nat) (a0 : Int) (a1 : ByteArray) : Option (ByteArray × Bool) := if a0 = 1 then ((strings_Split.f k a1 (⟨#[46]⟩ : ByteArray)).bind fun t423 => (impl_DataBytes.l0 k (⟨#[]⟩ : ByteArray) t423 t423 (t423.length : Int) 0)) else (if a0 = 2 then (impl_DataBytes.j1 k a1 a0 (a0 == 2)) else (impl_DataBytes.j1 k a1 a0 (a0 == 5)))
theorem impl_DataBytes.calls (k : Nat) (a0 : Int) (a1 : ByteArray) (r1 : ByteArray) (r2 : Bool) (w : World) (hG_ : Glob w) (h : impl_DataBytes.f k a0 a1 = some (r1, r2)) :
  Calls Tryz.prog 129 #[.int .i64 a0, .string a1] w fun e w' => e = .returned (.tuple #[.string r1, .bool r2]) ∧ Below w.heap.size w w' := by
 have HGL := Aside0.mk hG_
 clear hG_
 have HB := Aside0.mk (Below.refl w.heap.size w)
 have H : (if a0 = 1 then ((strings_Split.f k a1 (⟨#[46]⟩ : ByteArray)).bind fun t423 => (impl_DataBytes.l0 k (⟨#[]⟩ : ByteArray) t423 t423 (t423.length : Int) 0)) else (if a0 = 2 then (impl_DataBytes.j1 k a1 a0 (a0 == 2)) else (impl_DataBytes.j1 k a1 a0 (a0 == 5)))) = some (r1, r2) := h
 clear h
 by_cases c3 : a0 = 1
 ·rw [if_pos c3] at H
  have c3b0 : (a0 == 1) = true := beq_iff_eq.mpr c3
  have c3b1 : (a0 != 1) = false := bne_eq_false_iff_eq.mpr c3
  clear c3
  obtain ⟨t423, A4, H⟩ := bnd H
  have H' := Aside0.mk H
  clear H
  go_enter Tryz.func129, Tryz.ntmps129
  go_wp2_with (first | ((with_reducible refine gate_callee (f := 155) rfl ?_); refine goesL_ (some 23) rfl rfl Tryz.func155 KR rfl #[.string a1, .string (⟨#[46]⟩ : ByteArray)] rfl TA ?_; (with_reducible refine (strings_Split.calls k a1 (⟨#[46]⟩ : ByteArray) t423 _ A4.out).mono ?_); rintro e w5 ⟨v424, rfl, ho0, hb⟩; refine ⟨_, rfl, ?_⟩; have HO425 := RL ho0; replace HB := BS hb; (try clear hb); (try clear hb2); (try clear hk); (try clear hi); (try clear ho0); obtain ⟨Ao6, co6, eo6⟩ := Kd.R_slice HO425.out; subst eo6))
  go_loopg [6, 26] k (fun kq v6 v26 w' => ∃ (x6_1 : ByteArray) (x26_1 : Int), v6 = .string x6_1 ∧ v26 = .int .i64 x26_1 ∧ Aside0 (impl_DataBytes.l0 kq x6_1 t423 t423 (t423.length : Int) x26_1 = some (r1, r2)) ∧ Aside0 (kq ≤ k) ∧ Aside0 (Kd.R Kd.string 9 w' w.heap.size (fun _ => True) (.slice Ao6 t423.length co6) t423) ∧ Aside0 (Kd.R Kd.string 9 w' w.heap.size (fun _ => True) (.slice Ao6 t423.length co6) t423) ∧ Aside0 (Below w.heap.size w w'))
  case atStart => exact ⟨((⟨#[]⟩ : ByteArray)), (0), TF, TF, H', ⟨Nat.le_refl _⟩, RW HO425, RW HO425, ⟨TB⟩⟩
  case round =>
   clear H'
   try clear c1
   try clear p2
   try clear c3
   try clear c3b0
   try clear c3b1
   obtain ⟨x6_1, x26_1, rfl, rfl, HA, HK1, HO_7, HO_24, HB⟩ := hrel
   cases gk with
   | zero => exact absurd HA.out (by simp [impl_DataBytes.l0])
   | succ k1 =>
    have H := HA.out
    clear HA
    simp only [impl_DataBytes.l0] at H
    by_cases c7 : x26_1 < (t423.length : Int)
    ·rw [if_pos c7] at H
     have c7b0 : decide (x26_1 < (t423.length : Int)) = true := decide_eq_true c7
     clear c7
     obtain ⟨c8, H⟩ := ifn H
     have c8b0 : decide (0 ≤ x26_1) = true := decide_eq_true c8
     clear c8
     obtain ⟨c9, H⟩ := ifn H
     have c9b0 : decide (x26_1 < (t423.length : Int)) = true := decide_eq_true c9
     clear c9
     obtain ⟨⟨t427, t428⟩, A10, H⟩ := bnd H
     try dsimp only at H
     by_cases c11 : t428 = true
     ·subst c11
      replace H := ift H
      by_cases c12 : (t423.length : Int) = 4
      ·rw [if_pos c12] at H
       have c12b0 : ((t423.length : Int) == 4) = true := beq_iff_eq.mpr c12
       have c12b1 : ((t423.length : Int) != 4) = false := bne_eq_false_iff_eq.mpr c12
       clear c12
       obtain ⟨t429, A13, H⟩ := bnd H
       obtain ⟨c14, H⟩ := ifn H
       have c14b0 := eq_true c14
       have c14b1 : decide (x6_1.size + t429.size ≤ 9223372036854775807) = true := decide_eq_true c14
       try have c14b2 : (9223372036854775807 < x6_1.size + t429.size) = False := eq_false (Nat.not_lt.2 c14)
       have H' := Aside0.mk H
       clear H
       have p426 : 0 ≤ (x26_1 : Int) := TD
       have q426 : x26_1 < (t423.length : Int) := TD
       obtain ⟨ad426, e426, hx426_0⟩ := Kd.at_string (Kd.R_reads' HO_24.out).2.2 x26_1 p426 q426
       cases e426
       replace p426 := eq_true p426
       replace q426 := eq_true q426
       go_wp2_with (first | ((with_reducible refine gate_callee (f := 163) rfl ?_); refine goesL_ (some 32) rfl rfl Tryz.func163 KR rfl #[.string (rdOf ByteArray.empty t423 x26_1), .int .i64 255] rfl TA ?_; (with_reducible refine (impl_numberIn.calls (rdOf ByteArray.empty t423 x26_1) 255 t427 true _ ?side1 A10.out).mono ?_); (case side1 => exact GW HGL); rintro e w15 ⟨rfl, hb⟩; refine ⟨_, rfl, ?_⟩; replace HO_7 := RB HO_7 hb; replace HO_24 := RB HO_24 hb; replace HB := BS hb; (try clear hb); (try clear hb2); (try clear hk); (try clear hi)) | ((with_reducible refine gate_callee (f := 164) rfl ?_); refine goesL_ (some 44) rfl rfl Tryz.func164 KR rfl #[.int .i64 t427, .int .i64 1] rfl TA ?_; (with_reducible refine (impl_big.calls k1 t427 1 t429 _ A13.out).mono ?_); rintro e w16 ⟨rfl, hb⟩; refine ⟨_, rfl, ?_⟩; replace HO_7 := RB HO_7 hb; replace HO_24 := RB HO_24 hb; replace HB := BS hb; (try clear hb); (try clear hb2); (try clear hk); (try clear hi)))
       go_roundg k1
       case measure => have := HK1.out; omega
       case rel => exact ⟨(x6_1 ++ t429), (wrap64 (x26_1 + 1)), TF, TF, H', ⟨TM⟩, RW HO_7, RW HO_24, ⟨TB⟩⟩
      ·rw [if_neg c12] at H
       have c12b0 : ((t423.length : Int) == 4) = false := beq_eq_false_iff_ne.mpr c12
       have c12b1 : ((t423.length : Int) != 4) = true := bne_iff_ne.mpr c12
       simp only [Option.some.injEq, Prod.mk.injEq] at H
       obtain ⟨rfl, rfl⟩ := H
       have p426 : 0 ≤ (x26_1 : Int) := TD
       have q426 : x26_1 < (t423.length : Int) := TD
       obtain ⟨ad426, e426, hx426_0⟩ := Kd.at_string (Kd.R_reads' HO_24.out).2.2 x26_1 p426 q426
       cases e426
       replace p426 := eq_true p426
       replace q426 := eq_true q426
       go_wp2_with (first | ((with_reducible refine gate_callee (f := 163) rfl ?_); refine goesL_ (some 32) rfl rfl Tryz.func163 KR rfl #[.string (rdOf ByteArray.empty t423 x26_1), .int .i64 255] rfl TA ?_; (with_reducible refine (impl_numberIn.calls (rdOf ByteArray.empty t423 x26_1) 255 t427 true _ ?side1 A10.out).mono ?_); (case side1 => exact GW HGL); rintro e w17 ⟨rfl, hb⟩; refine ⟨_, rfl, ?_⟩; replace HO_7 := RB HO_7 hb; replace HO_24 := RB HO_24 hb; replace HB := BS hb; (try clear hb); (try clear hb2); (try clear hk); (try clear hi)))
       go_ret2
       exact ⟨TE, TB⟩
     ·replace c11 := Bool.eq_false_iff.mpr c11
      subst c11
      replace H := iff' H
      simp only [Option.some.injEq, Prod.mk.injEq] at H
      obtain ⟨rfl, rfl⟩ := H
      have p426 : 0 ≤ (x26_1 : Int) := TD
      have q426 : x26_1 < (t423.length : Int) := TD
      obtain ⟨ad426, e426, hx426_0⟩ := Kd.at_string (Kd.R_reads' HO_24.out).2.2 x26_1 p426 q426
      cases e426
      replace p426 := eq_true p426
      replace q426 := eq_true q426
      go_wp2_with (first | ((with_reducible refine gate_callee (f := 163) rfl ?_); refine goesL_ (some 32) rfl rfl Tryz.func163 KR rfl #[.string (rdOf ByteArray.empty t423 x26_1), .int .i64 255] rfl TA ?_; (with_reducible refine (impl_numberIn.calls (rdOf ByteArray.empty t423 x26_1) 255 t427 false _ ?side1 A10.out).mono ?_); (case side1 => exact GW HGL); rintro e w18 ⟨rfl, hb⟩; refine ⟨_, rfl, ?_⟩; replace HO_7 := RB HO_7 hb; replace HO_24 := RB HO_24 hb; replace HB := BS hb; (try clear hb); (try clear hb2); (try clear hk); (try clear hi)))
      go_ret2
      exact ⟨TE, TB⟩
    ·rw [if_neg c7] at H
     have c7b0 : decide (x26_1 < (t423.length : Int)) = false := decide_eq_false c7
     clear c7
     simp only [Option.some.injEq, Prod.mk.injEq] at H
     obtain ⟨rfl, rfl⟩ := H
     go_wp2
     go_ret2
     exact ⟨TE, TB⟩
 ·rw [if_neg c3] at H
  have c3b0 : (a0 == 1) = false := beq_eq_false_iff_ne.mpr c3
  have c3b1 : (a0 != 1) = true := bne_iff_ne.mpr c3
  have HC19 := Aside0.mk H
  clear H
  go_enter Tryz.func129, Tryz.ntmps129
  go_upto_if 48 with (fail)
  go_cut [48] (fun v48 wc => ∃ (kq : Nat) (x48_18 : Bool), v48 = .bool x48_18 ∧ Aside0 (impl_DataBytes.j1 kq a1 a0 x48_18 = some (r1, r2)) ∧ Aside0 (kq ≤ k) ∧ Aside0 (Below w.heap.size w wc))
  case first =>
   have H := HC19.out
   clear HC19
   by_cases c20 : a0 = 2
   ·rw [if_pos c20] at H
    have c20b0 : (a0 == 2) = true := beq_iff_eq.mpr c20
    have c20b1 : (a0 != 2) = false := bne_eq_false_iff_eq.mpr c20
    clear c20
    (first | rw [c20b0] | (simp only [i64_w, i32_w]; rw [c20b0]) | rw [c20b1] | skip)
    have H' := Aside0.mk H
    clear H
    go_wp2
    go_meet
    case rel => exact ⟨_, ((a0 == 2)), TF, H', ⟨by first | omega | exact Nat.le_refl _⟩, ⟨TB⟩⟩
   ·rw [if_neg c20] at H
    have c20b0 : (a0 == 2) = false := beq_eq_false_iff_ne.mpr c20
    have c20b1 : (a0 != 2) = true := bne_iff_ne.mpr c20
    (first | rw [c20b0] | (simp only [i64_w, i32_w]; rw [c20b0]) | rw [c20b1] | skip)
    have H' := Aside0.mk H
    clear H
    go_wp2
    go_meet
    case rel => exact ⟨_, ((a0 == 5)), TF, H', ⟨by first | omega | exact Nat.le_refl _⟩, ⟨TB⟩⟩
  case rest =>
   clear HC19
   try clear c1
   try clear c2
   try clear p2
   try clear c3
   try clear c3b0
   try clear c3b1
   try clear p4
   try clear q4
   try clear hx4
   try clear p6
   try clear c7
   try clear c7b0
   try clear c8
   try clear c8b0
   try clear c9
   try clear c9b0
   try clear c11
   try clear c12
   try clear c12b0
   try clear c12b1
   try clear c14
   try clear c14b0
   try clear c14b1
   try clear c14b2
   try clear c15
   try clear c16
   try clear c20
   try clear c20b0
   try clear c20b1
   try clear hx426_0
   try clear p2
   try clear p426
   try clear q426
   obtain ⟨kq, x48_18, rfl, HA, HJ18, HB⟩ := hcut
   cases kq with
   | zero => exact absurd HA.out (by simp [impl_DataBytes.j1])
   | succ kj18 =>
    have H := HA.out
    clear HA
    simp only [impl_DataBytes.j1] at H
    by_cases c21 : x48_18 = true
    ·subst c21
     replace H := ift H
     obtain ⟨t430, A22, H⟩ := bnd H
     by_cases c23 : t430 = true
     ·subst c23
      replace H := ift H
      obtain ⟨t431, A24, H⟩ := bnd H
      obtain ⟨c25, H⟩ := ifn H
      have c25b0 := eq_true c25
      have c25b1 : decide (t431.size + 1 ≤ 9223372036854775807) = true := decide_eq_true c25
      try have c25b2 : (9223372036854775807 < t431.size + 1) = False := eq_false (Nat.not_lt.2 c25)
      simp only [Option.some.injEq, Prod.mk.injEq] at H
      obtain ⟨rfl, rfl⟩ := H
      go_wp2_with (first | ((with_reducible refine gate_callee (f := 165) rfl ?_); refine goesL_ (some 52) rfl rfl Tryz.func165 KR rfl #[.string a1] rfl TA ?_; (with_reducible refine (impl_isTarget.calls kj18 a1 true _ A22.out).mono ?_); rintro e w26 ⟨rfl, hb⟩; refine ⟨_, rfl, ?_⟩; replace HB := BS hb; (try clear hb); (try clear hb2); (try clear hk); (try clear hi)) | ((with_reducible refine gate_callee (f := 166) rfl ?_); refine goesL_ (some 55) rfl rfl Tryz.func166 KR rfl #[.string a1] rfl TA ?_; (with_reducible refine (impl_labelBytes.calls kj18 a1 t431 _ A24.out).mono ?_); rintro e w27 ⟨rfl, hb⟩; refine ⟨_, rfl, ?_⟩; replace HB := BS hb; (try clear hb); (try clear hb2); (try clear hk); (try clear hi)))
      go_ret2
      exact ⟨TE, TB⟩
     ·replace c23 := Bool.eq_false_iff.mpr c23
      subst c23
      replace H := iff' H
      simp only [Option.some.injEq, Prod.mk.injEq] at H
      obtain ⟨rfl, rfl⟩ := H
      go_wp2_with (first | ((with_reducible refine gate_callee (f := 165) rfl ?_); refine goesL_ (some 52) rfl rfl Tryz.func165 KR rfl #[.string a1] rfl TA ?_; (with_reducible refine (impl_isTarget.calls kj18 a1 false _ A22.out).mono ?_); rintro e w28 ⟨rfl, hb⟩; refine ⟨_, rfl, ?_⟩; replace HB := BS hb; (try clear hb); (try clear hb2); (try clear hk); (try clear hi)))
      go_ret2
      exact ⟨TE, TB⟩
    ·replace c21 := Bool.eq_false_iff.mpr c21
     subst c21
     replace H := iff' H
     by_cases c29 : a0 = 6
     ·rw [if_pos c29] at H
      have c29b0 : (a0 == 6) = true := beq_iff_eq.mpr c29
      have c29b1 : (a0 != 6) = false := bne_eq_false_iff_eq.mpr c29
      clear c29
      obtain ⟨⟨t432, t433⟩, A30, H⟩ := bnd H
      try dsimp only at H
      by_cases c31 : t433 = true
      ·subst c31
       replace H := ift H
       obtain ⟨t434, A32, H⟩ := bnd H
       simp only [Option.some.injEq, Prod.mk.injEq] at H
       obtain ⟨rfl, rfl⟩ := H
       go_wp2_with (first | ((with_reducible refine gate_callee (f := 163) rfl ?_); refine goesL_ (some 61) rfl rfl Tryz.func163 KR rfl #[.string a1, .int .i64 4294967295] rfl TA ?_; (with_reducible refine (impl_numberIn.calls a1 4294967295 t432 true _ ?side1 A30.out).mono ?_); (case side1 => exact GW HGL); rintro e w33 ⟨rfl, hb⟩; refine ⟨_, rfl, ?_⟩; replace HB := BS hb; (try clear hb); (try clear hb2); (try clear hk); (try clear hi)) | ((with_reducible refine gate_callee (f := 164) rfl ?_); refine goesL_ (some 67) rfl rfl Tryz.func164 KR rfl #[.int .i64 t432, .int .i64 4] rfl TA ?_; (with_reducible refine (impl_big.calls kj18 t432 4 t434 _ A32.out).mono ?_); rintro e w34 ⟨rfl, hb⟩; refine ⟨_, rfl, ?_⟩; replace HB := BS hb; (try clear hb); (try clear hb2); (try clear hk); (try clear hi)))
       go_ret2
       exact ⟨TE, TB⟩
      ·replace c31 := Bool.eq_false_iff.mpr c31
       subst c31
       replace H := iff' H
       simp only [Option.some.injEq, Prod.mk.injEq] at H
       obtain ⟨rfl, rfl⟩ := H
       go_wp2_with (first | ((with_reducible refine gate_callee (f := 163) rfl ?_); refine goesL_ (some 61) rfl rfl Tryz.func163 KR rfl #[.string a1, .int .i64 4294967295] rfl TA ?_; (with_reducible refine (impl_numberIn.calls a1 4294967295 t432 false _ ?side1 A30.out).mono ?_); (case side1 => exact GW HGL); rintro e w35 ⟨rfl, hb⟩; refine ⟨_, rfl, ?_⟩; replace HB := BS hb; (try clear hb); (try clear hb2); (try clear hk); (try clear hi)))
       go_ret2
       exact ⟨TE, TB⟩
     ·rw [if_neg c29] at H
      have c29b0 : (a0 == 6) = false := beq_eq_false_iff_ne.mpr c29
      have c29b1 : (a0 != 6) = true := bne_iff_ne.mpr c29
      by_cases c36 : a0 = 15
      ·rw [if_pos c36] at H
       have c36b0 : (a0 == 15) = true := beq_iff_eq.mpr c36
       have c36b1 : (a0 != 15) = false := bne_eq_false_iff_eq.mpr c36
       clear c36
       obtain ⟨⟨t435, t436, t437⟩, A37, H⟩ := bnd H
       try dsimp only at H
       obtain ⟨⟨t438, t439⟩, A38, H⟩ := bnd H
       try dsimp only at H
       have HC39 := Aside0.mk H
       clear H
       go_upto_region 27 with (first | ((with_reducible refine gate_callee (f := 130) rfl ?_); refine goesL_ (some 72) rfl rfl Tryz.func130 KR rfl #[.string a1, .string (⟨#[32]⟩ : ByteArray)] rfl TA ?_; (with_reducible refine (strings_Cut.calls a1 (⟨#[32]⟩ : ByteArray) t435 t436 t437 _ A37.out).mono ?_); rintro e w' ⟨rfl, ⟨nd, rfl⟩⟩; refine ⟨_, rfl, ?_⟩) | ((with_reducible refine gate_callee (f := 163) rfl ?_); refine goesL_ (some 78) rfl rfl Tryz.func163 KR rfl #[.string t435, .int .i64 65535] rfl TA ?_; (with_reducible refine (impl_numberIn.calls t435 65535 t438 t439 _ ?side1 A38.out).mono ?_); (case side1 => exact GW HGL); rintro e w40 ⟨rfl, hb⟩; refine ⟨_, rfl, ?_⟩; replace HB := BS hb; (try clear hb); (try clear hb2); (try clear hk); (try clear hi)))
       (try simp only [Act.put, List.setIfInBounds_toArray, List.set_cons_zero, List.set_cons_succ])
       go_cut [87] (fun v87 wc => ∃ (kq : Nat) (x87_38 : Bool), v87 = .bool x87_38 ∧ Aside0 (impl_DataBytes.j2 kq t436 t438 x87_38 = some (r1, r2)) ∧ Aside0 (kq ≤ kj18) ∧ Aside0 (Below w.heap.size w wc))
       case first =>
        have H := HC39.out
        clear HC39
        by_cases c41 : t439 = true
        ·subst c41
         replace H := ift H
         obtain ⟨t440, A42, H⟩ := bnd H
         have H' := Aside0.mk H
         clear H
         go_wp2_with (first | (go_at_call 165; (with_reducible refine (impl_isTarget.calls kj18 t436 t440 _ A42.out).mono ?_); rintro e w43 ⟨rfl, hb⟩; replace HB := BS hb; (try clear hb); (try clear hb2); (try clear hk); (try clear hi)))
         go_meet
         case rel => exact ⟨_, (!t440), TF, H', ⟨by have := HJ18.out; first | omega | exact Nat.le_refl _⟩, ⟨TB⟩⟩
        ·replace c41 := Bool.eq_false_iff.mpr c41
         subst c41
         replace H := iff' H
         have H' := Aside0.mk H
         clear H
         go_wp2
         go_meet
         case rel => exact ⟨_, (true), TF, H', ⟨by have := HJ18.out; first | omega | exact Nat.le_refl _⟩, ⟨TB⟩⟩
       case rest =>
        clear HC39
        try clear c1
        try clear c2
        try clear p2
        try clear c3
        try clear c3b0
        try clear c3b1
        try clear c4
        try clear p4
        try clear q4
        try clear hx4
        try clear p6
        try clear c7
        try clear c7b0
        try clear c8
        try clear c8b0
        try clear c9
        try clear c9b0
        try clear c11
        try clear c12
        try clear c12b0
        try clear c12b1
        try clear c13
        try clear c14
        try clear c14b0
        try clear c14b1
        try clear c14b2
        try clear c15
        try clear c16
        try clear c20
        try clear c20b0
        try clear c20b1
        try clear c21
        try clear c23
        try clear c25
        try clear c25b0
        try clear c25b1
        try clear c25b2
        try clear c29
        try clear c29b0
        try clear c29b1
        try clear c31
        try clear c36
        try clear c36b0
        try clear c36b1
        try clear c41
        try clear p42
        try clear q42
        try clear hx42
        try clear hx426_0
        try clear p2
        try clear p4
        try clear p426
        try clear p6
        try clear q4
        try clear q426
        obtain ⟨kq, x87_38, rfl, HA, HJ38, HB⟩ := hcut
        cases kq with
        | zero => exact absurd HA.out (by simp [impl_DataBytes.j2])
        | succ kj38 =>
         have H := HA.out
         clear HA
         simp only [impl_DataBytes.j2] at H
         by_cases c44 : x87_38 = true
         ·subst c44
          replace H := ift H
          simp only [Option.some.injEq, Prod.mk.injEq] at H
          obtain ⟨rfl, rfl⟩ := H
          go_wp2
          go_ret2
          exact ⟨TE, TB⟩
         ·replace c44 := Bool.eq_false_iff.mpr c44
          subst c44
          replace H := iff' H
          obtain ⟨t441, A45, H⟩ := bnd H
          obtain ⟨t442, A46, H⟩ := bnd H
          obtain ⟨c47, H⟩ := ifn H
          have c47b0 := eq_true c47
          have c47b1 : decide (t441.size + t442.size ≤ 9223372036854775807) = true := decide_eq_true c47
          try have c47b2 : (9223372036854775807 < t441.size + t442.size) = False := eq_false (Nat.not_lt.2 c47)
          obtain ⟨c48, H⟩ := ifn H
          have c48b0 := eq_true c48
          have c48b1 : decide ((t441 ++ t442).size + 1 ≤ 9223372036854775807) = true := decide_eq_true c48
          try have c48b7 : (t441.size + t442.size + 1 ≤ 9223372036854775807) = True := eq_true (by have h_ := c48; simp only [ByteArray.size_append] at h_; exact h_)
          try have c48b9 : (9223372036854775807 < t441.size + t442.size + 1) = False := eq_false (Nat.not_lt.2 (by have h_ := c48; simp only [ByteArray.size_append] at h_; exact h_))
          try have c48b8 : decide (t441.size + t442.size + 1 ≤ 9223372036854775807) = true := decide_eq_true (by have h_ := c48; simp only [ByteArray.size_append] at h_; exact h_)
          try have c48b2 : (9223372036854775807 < (t441 ++ t442).size + 1) = False := eq_false (Nat.not_lt.2 c48)
          simp only [Option.some.injEq, Prod.mk.injEq] at H
          obtain ⟨rfl, rfl⟩ := H
          go_wp2_with (first | ((with_reducible refine gate_callee (f := 164) rfl ?_); refine goesL_ (some 89) rfl rfl Tryz.func164 KR rfl #[.int .i64 t438, .int .i64 2] rfl TA ?_; (with_reducible refine (impl_big.calls kj38 t438 2 t441 _ A45.out).mono ?_); rintro e w49 ⟨rfl, hb⟩; refine ⟨_, rfl, ?_⟩; replace HB := BS hb; (try clear hb); (try clear hb2); (try clear hk); (try clear hi)) | ((with_reducible refine gate_callee (f := 166) rfl ?_); refine goesL_ (some 91) rfl rfl Tryz.func166 KR rfl #[.string t436] rfl TA ?_; (with_reducible refine (impl_labelBytes.calls kj38 t436 t442 _ A46.out).mono ?_); rintro e w50 ⟨rfl, hb⟩; refine ⟨_, rfl, ?_⟩; replace HB := BS hb; (try clear hb); (try clear hb2); (try clear hk); (try clear hi)))
          go_ret2
          exact ⟨TE, TB⟩
      ·rw [if_neg c36] at H
       have c36b0 : (a0 == 15) = false := beq_eq_false_iff_ne.mpr c36
       have c36b1 : (a0 != 15) = true := bne_iff_ne.mpr c36
       by_cases c51 : a0 = 16
       ·rw [if_pos c51] at H
        have c51b0 : (a0 == 16) = true := beq_iff_eq.mpr c51
        have c51b1 : (a0 != 16) = false := bne_eq_false_iff_eq.mpr c51
        clear c51
        by_cases c52 : (a1.size : Int) > 30
        ·rw [if_pos c52] at H
         have c52b0 : decide (30 < (a1.size : Int)) = true := decide_eq_true c52
         have c52b1 : decide (30 < a1.size) = true := decide_eq_true (by omega)
         clear c52
         simp only [Option.some.injEq, Prod.mk.injEq] at H
         obtain ⟨rfl, rfl⟩ := H
         go_wp2
         go_ret2
         exact ⟨TE, TB⟩
        ·rw [if_neg c52] at H
         have c52b0 : decide (30 < (a1.size : Int)) = false := decide_eq_false c52
         have c52b1 : decide (30 < a1.size) = false := decide_eq_false (by omega)
         clear c52
         obtain ⟨c53, H⟩ := ifn H
         have c53b0 := eq_true c53
         have c53b1 : decide (a1.size ≤ 9223372036854775807) = true := decide_eq_true c53
         try have c53b2 : (9223372036854775807 < a1.size) = False := eq_false (Nat.not_lt.2 c53)
         clear c53
         obtain ⟨y443, hy443⟩ : ∃ y_ : List Int, y_ = (bytesOf a1) := ⟨_, rfl⟩
         replace H : ((slices_ContainsFunc_byte_byte_DataBytes_1.f kj18 y443).bind fun t446 => (if t446 = true then (some ((⟨#[]⟩ : ByteArray), false)) else ((impl_big.f kj18 (a1.size : Int) 1).bind fun t447 => (if t447.size + a1.size ≤ 9223372036854775807 then (some (t447 ++ a1, true)) else (none))))) = some (r1, r2) := by first | (rw [hy443]; with_reducible exact H) | (have H2_ := (Option.bind_some _ _).symm.trans H; rw [hy443]; with_reducible exact H2_) | (have H2_ := (Option.bind_some _ _).symm.trans H; with_reducible exact H2_) | with_reducible exact H | (rw [hy443]; exact H) | exact H
         have Ny443 := Aside0.mk hy443
         clear hy443
         obtain ⟨t446, A54, H⟩ := bnd H
         by_cases c55 : t446 = true
         ·subst c55
          replace H := ift H
          simp only [Option.some.injEq, Prod.mk.injEq] at H
          obtain ⟨rfl, rfl⟩ := H
          go_wp2_with (first | ((with_reducible refine gate_dst (N := 101) rfl ?_); (try (refine gate_guard (by rfl) ?_; dsimp only)); refine Kd.V_bytes _ 5 rfl (N := 101) rfl 9 141 _ rfl a1 rfl Tryz.underlying9 Tryz.underlying141 Tryz.underlying5 TD (ok := fun k_ => wc.heap.size ≤ k_) (Nat.le_refl _) (Below.refl _ _) (Nat.le_refl _) ?_; intro v444 w56 ho57 hb hg_ hnew_; clear hg_ hnew_; (first | rw [← Ny443.out] at ho57 | (simp only [Int.reduceToNat] at ho57; rw [← Ny443.out] at ho57)); have HO445 := Aside0.mk (Kd.V_lower (Kd.V_mono (ok' := fun k_ => True) ho57 (fun k_ hk_ => trivial)) (below_size TB)); replace HB := BS hb; clear hb ho57; obtain ⟨Ao58, co58, eo58⟩ := Kd.V_slice HO445.out; subst eo58) | (go_at_call 167; (with_reducible refine (slices_ContainsFunc_byte_byte_DataBytes_1.calls kj18 _ _ y443  true _ ?side1 ?side2 A54.out).mono ?_); (case side1 => exact CW ((Kd.V_reads' HO445.out).2.2)); (case side2 => exact (Kd.V_reads' HO445.out).2.1); rintro e w' ⟨rfl, ⟨nd, rfl⟩⟩))
          go_ret2
          exact ⟨TE, TB⟩
         ·replace c55 := Bool.eq_false_iff.mpr c55
          subst c55
          replace H := iff' H
          obtain ⟨t447, A59, H⟩ := bnd H
          obtain ⟨c60, H⟩ := ifn H
          have c60b0 := eq_true c60
          have c60b1 : decide (t447.size + a1.size ≤ 9223372036854775807) = true := decide_eq_true c60
          try have c60b2 : (9223372036854775807 < t447.size + a1.size) = False := eq_false (Nat.not_lt.2 c60)
          simp only [Option.some.injEq, Prod.mk.injEq] at H
          obtain ⟨rfl, rfl⟩ := H
          go_wp2_with (first | ((with_reducible refine gate_dst (N := 101) rfl ?_); (try (refine gate_guard (by rfl) ?_; dsimp only)); refine Kd.V_bytes _ 5 rfl (N := 101) rfl 9 141 _ rfl a1 rfl Tryz.underlying9 Tryz.underlying141 Tryz.underlying5 TD (ok := fun k_ => wc.heap.size ≤ k_) (Nat.le_refl _) (Below.refl _ _) (Nat.le_refl _) ?_; intro v444 w61 ho62 hb hg_ hnew_; clear hg_ hnew_; (first | rw [← Ny443.out] at ho62 | (simp only [Int.reduceToNat] at ho62; rw [← Ny443.out] at ho62)); have HO445 := Aside0.mk (Kd.V_lower (Kd.V_mono (ok' := fun k_ => True) ho62 (fun k_ hk_ => trivial)) (below_size TB)); replace HB := BS hb; clear hb ho62; obtain ⟨Ao63, co63, eo63⟩ := Kd.V_slice HO445.out; subst eo63) | (go_at_call 167; (with_reducible refine (slices_ContainsFunc_byte_byte_DataBytes_1.calls kj18 _ _ y443  false _ ?side1 ?side2 A54.out).mono ?_); (case side1 => exact CW ((Kd.V_reads' HO445.out).2.2)); (case side2 => exact (Kd.V_reads' HO445.out).2.1); rintro e w' ⟨rfl, ⟨nd, rfl⟩⟩) | ((with_reducible refine gate_callee (f := 164) rfl ?_); refine goesL_ (some 106) rfl rfl Tryz.func164 KR rfl #[.int .i64 (a1.size : Int), .int .i64 1] rfl TA ?_; (with_reducible refine (impl_big.calls kj18 (a1.size : Int) 1 t447 _ A59.out).mono ?_); rintro e w64 ⟨rfl, hb⟩; refine ⟨_, rfl, ?_⟩; replace HO445 := Aside0.mk (Kd.V_below (by (with_reducible repeat (first | apply Kd.V_alloc | apply Kd.V_drewN | apply Kd.V_drew)); exact HO445.out) hb); replace HB := BS hb; (try clear hb); (try clear hb2); (try clear hk); (try clear hi)))
          go_ret2
          exact ⟨TE, TB⟩
       ·rw [if_neg c51] at H
        have c51b0 : (a0 == 16) = false := beq_eq_false_iff_ne.mpr c51
        have c51b1 : (a0 != 16) = true := bne_iff_ne.mpr c51
        simp only [Option.some.injEq, Prod.mk.injEq] at H
        obtain ⟨rfl, rfl⟩ := H
        go_wp2
        go_ret2
        exact ⟨TE, TB⟩
end
section
/-! ### impl_GoodRecord: function 82 -/
def impl_GoodRecord.f (k : Nat) (a0_0 : ByteArray) (a0_1 : Int) (a0_2 : Int) (a0_3 : ByteArray) : Option (Bool) := (impl_GoodName.f k a0_0).bind fun t449 => (if t449 = true then ((impl_within.f a0_2 0 100000).bind fun t450 => (if t450 = true then (if (a0_3.size : Int) > 100 then (some false) else ((impl_DataBytes.f k a0_1 a0_3).bind fun bt451 => (some bt451.2))) else (some false))) else (some false))
theorem impl_GoodRecord.calls (k : Nat) (a0_0 : ByteArray) (a0_1 : Int) (a0_2 : Int) (a0_3 : ByteArray) (r : Bool) (w : World) (hG_ : Glob w) (h : impl_GoodRecord.f k a0_0 a0_1 a0_2 a0_3 = some r) :
  Calls Tryz.prog 82 #[.agg #[.string a0_0, .int .i64 a0_1, .int .i64 a0_2, .string a0_3]] w fun e w' => e = .returned (.bool r) ∧ Below w.heap.size w w' := by
 have hu100 := Tryz.underlying100
 have HGL := Aside0.mk hG_
 clear hG_
 have HB := Aside0.mk (Below.refl w.heap.size w)
 have H : ((impl_GoodName.f k a0_0).bind fun t449 => (if t449 = true then ((impl_within.f a0_2 0 100000).bind fun t450 => (if t450 = true then (if (a0_3.size : Int) > 100 then (some false) else ((impl_DataBytes.f k a0_1 a0_3).bind fun bt451 => (some bt451.2))) else (some false))) else (some false))) = some r := h
 clear h
 obtain ⟨t449, A2, H⟩ := bnd H
 by_cases c3 : t449 = true
 ·subst c3
  replace H := ift H
  obtain ⟨t450, A4, H⟩ := bnd H
  by_cases c5 : t450 = true
  ·subst c5
   replace H := ift H
   by_cases c6 : (a0_3.size : Int) > 100
   ·rw [if_pos c6] at H
    have c6b0 : decide (100 < (a0_3.size : Int)) = true := decide_eq_true c6
    have c6b1 : decide (100 < a0_3.size) = true := decide_eq_true (by omega)
    clear c6
    obtain rfl := Option.some.inj H
    go_enter Tryz.func82, Tryz.ntmps82
    go_wp2_with (first | ((with_reducible refine gate_dst (N := 1) rfl ?_); (try (refine gate_guard (by rfl) ?_; dsimp only)); refine bE 1 #[.string a0_0, .int .i64 a0_1, .int .i64 a0_2, .string a0_3] 100 ?_; intro gb448 hg w7 hbox hb; have BK448 := Aside0.mk (hbox); have GE448 := bG hg; replace HB := BS hb; clear hb hbox hg; have hcz8 := cz4 BK448) | ((with_reducible refine gate_callee (f := 62) rfl ?_); refine goesL_ (some 7) rfl rfl Tryz.func62 KR rfl #[.string a0_0] rfl TA ?_; (with_reducible refine (impl_GoodName.calls k a0_0 true _ A2.out).mono ?_); rintro e w9 ⟨rfl, hb⟩; refine ⟨_, rfl, ?_⟩; replace BK448 := KB BK448 hb; replace HB := BS hb; (try clear hb); (try clear hb2); (try clear hk); (try clear hi); have hcz10 := cz4 BK448) | (go_at_call 69; (with_reducible refine (impl_within.calls a0_2 0 100000 true _ A4.out).mono ?_); rintro e w' ⟨rfl, ⟨nd, rfl⟩⟩))
    go_ret
    exact ⟨TE, TB⟩
   ·rw [if_neg c6] at H
    have c6b0 : decide (100 < (a0_3.size : Int)) = false := decide_eq_false c6
    have c6b1 : decide (100 < a0_3.size) = false := decide_eq_false (by omega)
    clear c6
    obtain ⟨⟨t451, t452⟩, A11, H⟩ := bnd H
    try dsimp only at H
    obtain rfl := Option.some.inj H
    go_enter Tryz.func82, Tryz.ntmps82
    go_wp2_with (first | ((with_reducible refine gate_dst (N := 1) rfl ?_); (try (refine gate_guard (by rfl) ?_; dsimp only)); refine bE 1 #[.string a0_0, .int .i64 a0_1, .int .i64 a0_2, .string a0_3] 100 ?_; intro gb448 hg w12 hbox hb; have BK448 := Aside0.mk (hbox); have GE448 := bG hg; replace HB := BS hb; clear hb hbox hg; have hcz13 := cz4 BK448) | ((with_reducible refine gate_callee (f := 62) rfl ?_); refine goesL_ (some 7) rfl rfl Tryz.func62 KR rfl #[.string a0_0] rfl TA ?_; (with_reducible refine (impl_GoodName.calls k a0_0 true _ A2.out).mono ?_); rintro e w14 ⟨rfl, hb⟩; refine ⟨_, rfl, ?_⟩; replace BK448 := KB BK448 hb; replace HB := BS hb; (try clear hb); (try clear hb2); (try clear hk); (try clear hi); have hcz15 := cz4 BK448) | (go_at_call 69; (with_reducible refine (impl_within.calls a0_2 0 100000 true _ A4.out).mono ?_); rintro e w' ⟨rfl, ⟨nd, rfl⟩⟩) | ((with_reducible refine gate_callee (f := 129) rfl ?_); refine goesL_ (some 26) rfl rfl Tryz.func129 KR rfl #[.int .i64 a0_1, .string a0_3] rfl TA ?_; (with_reducible refine (impl_DataBytes.calls k a0_1 a0_3 t451 t452 _ ?side1 A11.out).mono ?_); (case side1 => exact GW HGL); rintro e w16 ⟨rfl, hb⟩; refine ⟨_, rfl, ?_⟩; replace BK448 := KB BK448 hb; replace HB := BS hb; (try clear hb); (try clear hb2); (try clear hk); (try clear hi)))
    go_ret
    exact ⟨TE, TB⟩
  ·replace c5 := Bool.eq_false_iff.mpr c5
   subst c5
   replace H := iff' H
   obtain rfl := Option.some.inj H
   go_enter Tryz.func82, Tryz.ntmps82
   go_wp2_with (first | ((with_reducible refine gate_dst (N := 1) rfl ?_); (try (refine gate_guard (by rfl) ?_; dsimp only)); refine bE 1 #[.string a0_0, .int .i64 a0_1, .int .i64 a0_2, .string a0_3] 100 ?_; intro gb448 hg w17 hbox hb; have BK448 := Aside0.mk (hbox); have GE448 := bG hg; replace HB := BS hb; clear hb hbox hg; have hcz18 := cz4 BK448) | ((with_reducible refine gate_callee (f := 62) rfl ?_); refine goesL_ (some 7) rfl rfl Tryz.func62 KR rfl #[.string a0_0] rfl TA ?_; (with_reducible refine (impl_GoodName.calls k a0_0 true _ A2.out).mono ?_); rintro e w19 ⟨rfl, hb⟩; refine ⟨_, rfl, ?_⟩; replace BK448 := KB BK448 hb; replace HB := BS hb; (try clear hb); (try clear hb2); (try clear hk); (try clear hi); have hcz20 := cz4 BK448) | (go_at_call 69; (with_reducible refine (impl_within.calls a0_2 0 100000 false _ A4.out).mono ?_); rintro e w' ⟨rfl, ⟨nd, rfl⟩⟩))
   go_ret
   exact ⟨TE, TB⟩
 ·replace c3 := Bool.eq_false_iff.mpr c3
  subst c3
  replace H := iff' H
  obtain rfl := Option.some.inj H
  go_enter Tryz.func82, Tryz.ntmps82
  go_wp2_with (first | ((with_reducible refine gate_dst (N := 1) rfl ?_); (try (refine gate_guard (by rfl) ?_; dsimp only)); refine bE 1 #[.string a0_0, .int .i64 a0_1, .int .i64 a0_2, .string a0_3] 100 ?_; intro gb448 hg w21 hbox hb; have BK448 := Aside0.mk (hbox); have GE448 := bG hg; replace HB := BS hb; clear hb hbox hg; have hcz22 := cz4 BK448) | ((with_reducible refine gate_callee (f := 62) rfl ?_); refine goesL_ (some 7) rfl rfl Tryz.func62 KR rfl #[.string a0_0] rfl TA ?_; (with_reducible refine (impl_GoodName.calls k a0_0 false _ A2.out).mono ?_); rintro e w23 ⟨rfl, hb⟩; refine ⟨_, rfl, ?_⟩; replace BK448 := KB BK448 hb; replace HB := BS hb; (try clear hb); (try clear hb2); (try clear hk); (try clear hi)))
  go_ret
  exact ⟨TE, TB⟩
end
section
/-! ### cmp_isNaN_int: function 236 -/
def cmp_isNaN_int.f (a0 : Int) : Option (Bool) := some (a0 != a0)
theorem cmp_isNaN_int.calls (a0 : Int) (r : Bool) (w : World) (h : cmp_isNaN_int.f a0 = some r) :
  Calls Tryz.prog 236 #[.int .i64 a0] w fun e w' => e = .returned (.bool r) ∧ Drawn0 w w' := by
 have H : (some (a0 != a0)) = some r := h
 clear h
 obtain rfl := Option.some.inj H
 go_enter Tryz.func236, Tryz.ntmps236
 go_wp2
 go_ret
 exact ⟨TF, TN⟩
end
section
/-! ### cmp_Compare_int: function 218 -/
def cmp_Compare_int.f (a0 : Int) (a1 : Int) : Option (Int) := (cmp_isNaN_int.f a0).bind fun t471 => ((cmp_isNaN_int.f a1).bind fun t472 => (if t471 = true then (if t472 = true then (some 0) else (some (-1))) else (if t472 = true then (some 1) else (if a0 < a1 then (some (-1)) else (if a0 > a1 then (some 1) else (some 0))))))
theorem cmp_Compare_int.calls (a0 : Int) (a1 : Int) (r : Int) (w : World) (h : cmp_Compare_int.f a0 a1 = some r) :
  Calls Tryz.prog 218 #[.int .i64 a0, .int .i64 a1] w fun e w' => e = .returned (.int .i64 r) ∧ Drawn0 w w' := by
 have H : ((cmp_isNaN_int.f a0).bind fun t471 => ((cmp_isNaN_int.f a1).bind fun t472 => (if t471 = true then (if t472 = true then (some 0) else (some (-1))) else (if t472 = true then (some 1) else (if a0 < a1 then (some (-1)) else (if a0 > a1 then (some 1) else (some 0))))))) = some r := h
 clear h
 obtain ⟨t471, A3, H⟩ := bnd H
 obtain ⟨t472, A4, H⟩ := bnd H
 by_cases c5 : t471 = true
 ·subst c5
  replace H := ift H
  by_cases c6 : t472 = true
  ·subst c6
   replace H := ift H
   obtain rfl := Option.some.inj H
   go_enter Tryz.func218, Tryz.ntmps218
   go_wp2_with (first | ((with_reducible refine gate_callee (f := 236) rfl ?_); refine goesL_ (some 8) rfl rfl Tryz.func236 KR rfl #[.int .i64 a0] rfl TA ?_; (with_reducible refine (cmp_isNaN_int.calls a0 true _ A3.out).mono ?_); rintro e w' ⟨rfl, ⟨nd, rfl⟩⟩; refine ⟨_, rfl, ?_⟩) | ((with_reducible refine gate_callee (f := 236) rfl ?_); refine goesL_ (some 10) rfl rfl Tryz.func236 KR rfl #[.int .i64 a1] rfl TA ?_; (with_reducible refine (cmp_isNaN_int.calls a1 true _ A4.out).mono ?_); rintro e w' ⟨rfl, ⟨nd, rfl⟩⟩; refine ⟨_, rfl, ?_⟩))
   go_ret
   exact ⟨TF, TN⟩
  ·replace c6 := Bool.eq_false_iff.mpr c6
   subst c6
   replace H := iff' H
   obtain rfl := Option.some.inj H
   go_enter Tryz.func218, Tryz.ntmps218
   go_wp2_with (first | ((with_reducible refine gate_callee (f := 236) rfl ?_); refine goesL_ (some 8) rfl rfl Tryz.func236 KR rfl #[.int .i64 a0] rfl TA ?_; (with_reducible refine (cmp_isNaN_int.calls a0 true _ A3.out).mono ?_); rintro e w' ⟨rfl, ⟨nd, rfl⟩⟩; refine ⟨_, rfl, ?_⟩) | ((with_reducible refine gate_callee (f := 236) rfl ?_); refine goesL_ (some 10) rfl rfl Tryz.func236 KR rfl #[.int .i64 a1] rfl TA ?_; (with_reducible refine (cmp_isNaN_int.calls a1 false _ A4.out).mono ?_); rintro e w' ⟨rfl, ⟨nd, rfl⟩⟩; refine ⟨_, rfl, ?_⟩))
   go_ret
   exact ⟨TF, TN⟩
 ·replace c5 := Bool.eq_false_iff.mpr c5
  subst c5
  replace H := iff' H
  by_cases c7 : t472 = true
  ·subst c7
   replace H := ift H
   obtain rfl := Option.some.inj H
   go_enter Tryz.func218, Tryz.ntmps218
   go_wp2_with (first | ((with_reducible refine gate_callee (f := 236) rfl ?_); refine goesL_ (some 8) rfl rfl Tryz.func236 KR rfl #[.int .i64 a0] rfl TA ?_; (with_reducible refine (cmp_isNaN_int.calls a0 false _ A3.out).mono ?_); rintro e w' ⟨rfl, ⟨nd, rfl⟩⟩; refine ⟨_, rfl, ?_⟩) | ((with_reducible refine gate_callee (f := 236) rfl ?_); refine goesL_ (some 10) rfl rfl Tryz.func236 KR rfl #[.int .i64 a1] rfl TA ?_; (with_reducible refine (cmp_isNaN_int.calls a1 true _ A4.out).mono ?_); rintro e w' ⟨rfl, ⟨nd, rfl⟩⟩; refine ⟨_, rfl, ?_⟩))
   go_ret
   exact ⟨TF, TN⟩
  ·replace c7 := Bool.eq_false_iff.mpr c7
   subst c7
   replace H := iff' H
   by_cases c8 : a0 < a1
   ·rw [if_pos c8] at H
    have c8b0 : decide (a0 < a1) = true := decide_eq_true c8
    clear c8
    obtain rfl := Option.some.inj H
    go_enter Tryz.func218, Tryz.ntmps218
    go_wp2_with (first | ((with_reducible refine gate_callee (f := 236) rfl ?_); refine goesL_ (some 8) rfl rfl Tryz.func236 KR rfl #[.int .i64 a0] rfl TA ?_; (with_reducible refine (cmp_isNaN_int.calls a0 false _ A3.out).mono ?_); rintro e w' ⟨rfl, ⟨nd, rfl⟩⟩; refine ⟨_, rfl, ?_⟩) | ((with_reducible refine gate_callee (f := 236) rfl ?_); refine goesL_ (some 10) rfl rfl Tryz.func236 KR rfl #[.int .i64 a1] rfl TA ?_; (with_reducible refine (cmp_isNaN_int.calls a1 false _ A4.out).mono ?_); rintro e w' ⟨rfl, ⟨nd, rfl⟩⟩; refine ⟨_, rfl, ?_⟩))
    go_ret
    exact ⟨TF, TN⟩
   ·rw [if_neg c8] at H
    have c8b0 : decide (a0 < a1) = false := decide_eq_false c8
    clear c8
    by_cases c9 : a0 > a1
    ·rw [if_pos c9] at H
     have c9b0 : decide (a1 < a0) = true := decide_eq_true c9
     clear c9
     obtain rfl := Option.some.inj H
     go_enter Tryz.func218, Tryz.ntmps218
     go_wp2_with (first | ((with_reducible refine gate_callee (f := 236) rfl ?_); refine goesL_ (some 8) rfl rfl Tryz.func236 KR rfl #[.int .i64 a0] rfl TA ?_; (with_reducible refine (cmp_isNaN_int.calls a0 false _ A3.out).mono ?_); rintro e w' ⟨rfl, ⟨nd, rfl⟩⟩; refine ⟨_, rfl, ?_⟩) | ((with_reducible refine gate_callee (f := 236) rfl ?_); refine goesL_ (some 10) rfl rfl Tryz.func236 KR rfl #[.int .i64 a1] rfl TA ?_; (with_reducible refine (cmp_isNaN_int.calls a1 false _ A4.out).mono ?_); rintro e w' ⟨rfl, ⟨nd, rfl⟩⟩; refine ⟨_, rfl, ?_⟩))
     go_ret
     exact ⟨TF, TN⟩
    ·rw [if_neg c9] at H
     have c9b0 : decide (a1 < a0) = false := decide_eq_false c9
     clear c9
     obtain rfl := Option.some.inj H
     go_enter Tryz.func218, Tryz.ntmps218
     go_wp2_with (first | ((with_reducible refine gate_callee (f := 236) rfl ?_); refine goesL_ (some 8) rfl rfl Tryz.func236 KR rfl #[.int .i64 a0] rfl TA ?_; (with_reducible refine (cmp_isNaN_int.calls a0 false _ A3.out).mono ?_); rintro e w' ⟨rfl, ⟨nd, rfl⟩⟩; refine ⟨_, rfl, ?_⟩) | ((with_reducible refine gate_callee (f := 236) rfl ?_); refine goesL_ (some 10) rfl rfl Tryz.func236 KR rfl #[.int .i64 a1] rfl TA ?_; (with_reducible refine (cmp_isNaN_int.calls a1 false _ A4.out).mono ?_); rintro e w' ⟨rfl, ⟨nd, rfl⟩⟩; refine ⟨_, rfl, ?_⟩))
     go_ret
     exact ⟨TF, TN⟩
end
section
/-! ### cmp_Or_int: function 214 -/
def cmp_Or_int.l0 : Nat → Int → List Int → Int → Int → Option (Int)
 | 0, _, _, _, _ => none
 | k + 1, x3, x6, x7, x8 => if x8 < x7 then (if 0 ≤ x8 then (if x8 < (x6.length : Int) then (if (rd x6 x8) = x3 then (cmp_Or_int.l0 k x3 x6 x7 (wrap64 (x8 + 1))) else (some (rd x6 x8))) else (none)) else (none)) else (some x3)
def cmp_Or_int.f (k : Nat) (l0 : List Int) : Option (Int) := cmp_Or_int.l0 k 0 l0 (l0.length : Int) 0
theorem cmp_Or_int.calls (k : Nat) (A0 : Option Addr) (c0 : Nat) (l0 : List Int) (r : Int) (w : World) (hr0 : Kd.C (Kd.int .i64) w A0 l0.length l0) (hc0 : l0.length ≤ c0) (h : cmp_Or_int.f k l0 = some r) :
  Calls Tryz.prog 214 #[.slice A0 l0.length c0] w fun e w' => e = .returned (.int .i64 r) ∧ Drawn0 w w' := by
 have HR0 := Aside0.mk hr0
 have HC0 := Aside0.mk hc0
 clear hr0 hc0
 have H : (cmp_Or_int.l0 k 0 l0 (l0.length : Int) 0) = some r := h
 clear h
 have H' := Aside0.mk H
 clear H
 go_enter Tryz.func214, Tryz.ntmps214
 go_wp2
 go_loopg [8] k (fun kq v8 w' => ∃ (x8_1 : Int), v8 = .int .i64 x8_1 ∧ Aside0 (cmp_Or_int.l0 kq 0 l0 (l0.length : Int) x8_1 = some r) ∧ Aside0 (kq ≤ k) ∧ Drawn0 w w')
 case atStart => exact ⟨(0), TF, H', ⟨Nat.le_refl _⟩, TN⟩
 case round =>
  clear H'
  obtain ⟨x8_1, rfl, HA, HK1, ⟨m1, rfl⟩⟩ := hrel
  cases gk with
  | zero => exact absurd HA.out (by simp [cmp_Or_int.l0])
  | succ k1 =>
   have H := HA.out
   clear HA
   simp only [cmp_Or_int.l0] at H
   by_cases c2 : x8_1 < (l0.length : Int)
   ·rw [if_pos c2] at H
    have c2b0 : decide (x8_1 < (l0.length : Int)) = true := decide_eq_true c2
    clear c2
    obtain ⟨c3, H⟩ := ifn H
    have c3b0 : decide (0 ≤ x8_1) = true := decide_eq_true c3
    clear c3
    obtain ⟨c4, H⟩ := ifn H
    have c4b0 : decide (x8_1 < (l0.length : Int)) = true := decide_eq_true c4
    clear c4
    by_cases c5 : (rd l0 x8_1) = 0
    ·rw [if_pos c5] at H
     have c5b0 : ((rd l0 x8_1) == 0) = true := beq_iff_eq.mpr c5
     have c5b1 : ((rd l0 x8_1) != 0) = false := bne_eq_false_iff_eq.mpr c5
     clear c5
     have H' := Aside0.mk H
     clear H
     have p473 : 0 ≤ (x8_1 : Int) := TD
     have q473 : x8_1 < (l0.length : Int) := TD
     obtain ⟨ad473, e473, hx473_0⟩ := Kd.at_int HR0.out x8_1 p473 q473
     cases e473
     replace p473 := eq_true p473
     replace q473 := eq_true q473
     go_wp2
     go_roundg k1
     case measure => have := HK1.out; omega
     case rel => exact ⟨(wrap64 (x8_1 + 1)), TF, H', ⟨TM⟩, TN⟩
    ·rw [if_neg c5] at H
     have c5b0 : ((rd l0 x8_1) == 0) = false := beq_eq_false_iff_ne.mpr c5
     have c5b1 : ((rd l0 x8_1) != 0) = true := bne_iff_ne.mpr c5
     obtain rfl := Option.some.inj H
     have p473 : 0 ≤ (x8_1 : Int) := TD
     have q473 : x8_1 < (l0.length : Int) := TD
     obtain ⟨ad473, e473, hx473_0⟩ := Kd.at_int HR0.out x8_1 p473 q473
     cases e473
     replace p473 := eq_true p473
     replace q473 := eq_true q473
     go_wp2
     go_ret
     exact ⟨TF, TN⟩
   ·rw [if_neg c2] at H
    have c2b0 : decide (x8_1 < (l0.length : Int)) = false := decide_eq_false c2
    clear c2
    obtain rfl := Option.some.inj H
    go_wp2
    go_ret
    exact ⟨TF, TN⟩
end
section
/-! ### slices_Reverse_string_string: function 121 -/
def slices_Reverse_string_string.l0 : Nat → List ByteArray → Int → Int → Option (List ByteArray)
 | 0, _, _, _ => none
 | k + 1, x0, x2, x3 => if x2 < x3 then (if 0 ≤ x3 then (if x3 < (x0.length : Int) then (if 0 ≤ x2 then (if x2 < (x0.length : Int) then (slices_Reverse_string_string.l0 k ((x0.set (x2 : Int).toNat (rdOf ByteArray.empty x0 x3)).set (x3 : Int).toNat (rdOf ByteArray.empty x0 x2)) (wrap64 (x2 + 1)) (wrap64 (x3 - 1))) else (none)) else (none)) else (none)) else (none)) else (some x0)
def slices_Reverse_string_string.f (k : Nat) (l0 : List ByteArray) : Option (List ByteArray) := slices_Reverse_string_string.l0 k l0 0 (wrap64 ((l0.length : Int) - 1))
def slices_Reverse_string_string.T3 : Bool × List (List Nat × List Nat) := (true, [([], []), ([], []), ([], []), ([], []), ([], []), ([], []), ([4, 5], [4, 5]), ([6], [6]), ([], []), ([], []), ([8, 9], [8, 9]), ([10], [10]), ([0, 1, 0, 1, 4, 5, 6, 7, 11], [0, 1]), ([12, 7, 0, 1, 4, 5, 6, 7, 11], [7, 12]), ([2, 3, 0, 1, 2, 3, 4, 5, 6, 7, 8, 9, 10, 11, 12, 13], [2, 3]), ([14, 11, 13, 0, 1, 2, 3, 4, 5, 6, 7, 8, 9, 10, 11, 12, 13], [11, 14])])
def slices_Reverse_string_string.B3 : List Nat := [0, 0, 0, 0, 0, 0, 48, 112, 0, 0, 768, 1792, 4083, 8179, 16383, 32767]
theorem slices_Reverse_string_string.tab3 : rtab .any (opsOf Tryz.f121 3) = slices_Reverse_string_string.T3 := by kernel_rfl
theorem slices_Reverse_string_string.bits3 : waitsOk slices_Reverse_string_string.T3.2 slices_Reverse_string_string.B3 = true := by kernel_rfl
theorem slices_Reverse_string_string.calls (k : Nat) (P0_ : Nat → Prop) (u9000_ : Value) (l0 : List ByteArray) (r : List ByteArray) (w0 w : World) (hB : Below w0.heap.size w0 w) (ho0 : Kd.R Kd.string 9 w w0.heap.size P0_ u9000_ l0) (h : slices_Reverse_string_string.f k l0 = some r) :
  Calls Tryz.prog 121 #[u9000_] w fun e w' => e = .returned (.tuple #[]) ∧ Kd.R Kd.string 9 w' w0.heap.size (fun k_ => (P0_ k_ ∨ w.heap.size ≤ k_)) u9000_ r ∧ Below w0.heap.size w0 w' ∧ Kept w w' (fun k_ => P0_ k_) := by
 have HO0 := Aside0.mk (show Kd.R Kd.string 9 w w0.heap.size (fun k_ => (P0_ k_ ∨ w.heap.size ≤ k_)) u9000_ l0 from Kd.R_mono ho0 (fun k_ hk => (.inl hk)))
 have HK := Aside0.mk (Kept.refl w (fun k_ => P0_ k_))
 have HW0 := Aside0.mk hB.size
 have HB := Aside0.mk hB
 clear hB
 have H : (slices_Reverse_string_string.l0 k l0 0 (wrap64 ((l0.length : Int) - 1))) = some r := h
 clear h
 have H' := Aside0.mk H
 clear H
 obtain ⟨Ao2, co2, eo2⟩ := Kd.R_slice HO0.out
 subst eo2
 go_enter Tryz.func121, Tryz.ntmps121
 go_wp2
 go_loopg [2, 3] k (fun kq v2 v3 w' => ∃ (x0_1 : List ByteArray) (x2_1 : Int) (x3_1 : Int), v2 = .int .i64 x2_1 ∧ v3 = .int .i64 x3_1 ∧ Aside0 (slices_Reverse_string_string.l0 kq x0_1 x2_1 x3_1 = some r) ∧ Aside0 (kq ≤ k) ∧ Aside0 (Kd.R Kd.string 9 w' w0.heap.size (fun k_ => (P0_ k_ ∨ w.heap.size ≤ k_)) (.slice Ao2 l0.length co2) x0_1) ∧ Aside0 (Kept w w' (fun k_ => P0_ k_)) ∧ Aside0 (Below w0.heap.size w0 w'))
 case atStart => exact ⟨(l0), (0), (wrap64 ((l0.length : Int) - 1)), TF, TF, H', ⟨Nat.le_refl _⟩, RW HO0, ⟨TK⟩, ⟨TB⟩⟩
 case round =>
  clear H'
  try clear c1
  try clear p2
  obtain ⟨x0_1, x2_1, x3_1, rfl, rfl, HA, HK1, HO_0, HK, HB⟩ := hrel
  have hl0_1 := (Kd.R_reads' HO_0.out).1
  rw [hl0_1] at HO_0
  (try simp only [hl0_1])
  cases gk with
  | zero => exact absurd HA.out (by simp [slices_Reverse_string_string.l0])
  | succ k1 =>
   have H := HA.out
   clear HA
   simp only [slices_Reverse_string_string.l0] at H
   by_cases c3 : x2_1 < x3_1
   ·rw [if_pos c3] at H
    have c3b0 : decide (x2_1 < x3_1) = true := decide_eq_true c3
    clear c3
    obtain ⟨c4, H⟩ := ifn H
    have c4b0 : decide (0 ≤ x3_1) = true := decide_eq_true c4
    clear c4
    obtain ⟨c5, H⟩ := ifn H
    have c5b0 : decide (x3_1 < (x0_1.length : Int)) = true := decide_eq_true c5
    clear c5
    obtain ⟨c6, H⟩ := ifn H
    have c6b0 : decide (0 ≤ x2_1) = true := decide_eq_true c6
    clear c6
    obtain ⟨c7, H⟩ := ifn H
    have c7b0 : decide (x2_1 < (x0_1.length : Int)) = true := decide_eq_true c7
    clear c7
    obtain ⟨y455, hy455⟩ : ∃ y_ : List ByteArray, y_ = (x0_1.set (x2_1 : Int).toNat (rdOf ByteArray.empty x0_1 x3_1)) := ⟨_, rfl⟩
    replace H : (slices_Reverse_string_string.l0 k1 (y455.set (x3_1 : Int).toNat (rdOf ByteArray.empty x0_1 x2_1)) (wrap64 (x2_1 + 1)) (wrap64 (x3_1 - 1))) = some r := by first | (rw [hy455]; with_reducible exact H) | (have H2_ := (Option.bind_some _ _).symm.trans H; rw [hy455]; with_reducible exact H2_) | (have H2_ := (Option.bind_some _ _).symm.trans H; with_reducible exact H2_) | with_reducible exact H | (rw [hy455]; exact H) | exact H
    have Ny455 := Aside0.mk hy455
    clear hy455
    obtain ⟨y456, hy456⟩ : ∃ y_ : List ByteArray, y_ = (y455.set (x3_1 : Int).toNat (rdOf ByteArray.empty x0_1 x2_1)) := ⟨_, rfl⟩
    replace H : (slices_Reverse_string_string.l0 k1 y456 (wrap64 (x2_1 + 1)) (wrap64 (x3_1 - 1))) = some r := by first | (rw [hy456]; with_reducible exact H) | (have H2_ := (Option.bind_some _ _).symm.trans H; rw [hy456]; with_reducible exact H2_) | (have H2_ := (Option.bind_some _ _).symm.trans H; with_reducible exact H2_) | with_reducible exact H | (rw [hy456]; exact H) | exact H
    have Ny456 := Aside0.mk hy456
    clear hy456
    have H' := Aside0.mk H
    clear H
    try go_wp2
    replace HO_0 := Aside0.mk (Kd.R_drew HO_0.out)
    replace HK := Aside0.mk (Kept.drew HK.out)
    replace HB := Aside0.mk (below_drew1 HB.out)
    have p453 : 0 ≤ (x3_1 : Int) := TD
    have q453 : x3_1 < (x0_1.length : Int) := TD
    obtain ⟨ad453, e453, hx453_0⟩ := Kd.at_string (Kd.R_reads' HO_0.out).2.2 x3_1 p453 q453
    cases e453
    replace p453 := eq_true p453
    replace q453 := eq_true q453
    have p454 : 0 ≤ (x2_1 : Int) := TD
    have q454 : x2_1 < (x0_1.length : Int) := TD
    obtain ⟨ad454, e454, hx454_0⟩ := Kd.at_string (Kd.R_reads' HO_0.out).2.2 x2_1 p454 q454
    obtain rfl : ad453 = ad454 := (by injection e454)
    replace p454 := eq_true p454
    replace q454 := eq_true q454
    have p8 : 0 ≤ (x2_1 : Int) := TD
    have q8 : (x2_1 : Int) < ((x0_1.length : Int) : Int) := TD
    obtain ⟨go8, co8, eo8, gb8, gl8, cl8, HG8⟩ := Kd.R_form HO_0.out (by omega)
    (first | cases eo8 | (injection eo8 with ea_ en_ ec_; (first | subst ea_ | (injection ea_ with ea_; subst ea_)); subst ec_; clear en_))
    have GB8 := Aside0.mk gb8
    have GG8 := Aside0.mk HG8
    clear gb8 gl8 HG8
    have HMgo8 := Aside0.mk (show (P0_ go8 ∨ w.heap.size ≤ go8) from (HO_0.out.1 _ rfl))
    (first | simp only [add_plain] at hx453_0 | skip)
    (first | simp only [add_plain] at hx454_0 | skip)
    obtain ⟨hx8_0, hf8_0⟩ := Kd.R_celln (⟨#[]⟩ : ByteArray) HO_0.out (x2_1 : Int) p8 q8
    replace p8 := eq_true p8
    replace q8 := eq_true q8
    have HP11 := Kd.R_putn HO_0.out (x2_1 : Int) (rdOf ByteArray.empty x0_1 x3_1)
    rw [← Ny455.out] at HP11
    have HQ11 := Aside0.mk HP11
    clear HP11
    have p9 : 0 ≤ (x3_1 : Int) := TD
    have q9 : (x3_1 : Int) < ((x0_1.length : Int) : Int) := TD
    obtain ⟨hx9_0, hf9_0⟩ := Kd.R_celln (⟨#[]⟩ : ByteArray) HQ11.out (x3_1 : Int) p9 q9
    replace p9 := eq_true p9
    replace q9 := eq_true q9
    have HP12 := Kd.R_putn HQ11.out (x3_1 : Int) (rdOf ByteArray.empty x0_1 x2_1)
    rw [← Ny456.out] at HP12
    have HQ12 := Aside0.mk HP12
    clear HP12
    refine start_ (n := 16) (S := fun w' => w'.cell? ⟨go8, (x3_1).toNat, none⟩ = some (.string (rdOf ByteArray.empty x0_1 x3_1)) ∧ w'.cell? ⟨go8, (x2_1).toNat, none⟩ = some (.string (rdOf ByteArray.empty x0_1 x2_1))) (ds := [13, 15]) #[false, false, false, false, false, false, false, false, false, false, false, false, false, false, false, false] KR rfl rfl ⟨hx453_0, hx454_0⟩ (fun hHeld => ?_); refine with_tabW slices_Reverse_string_string.tab3 slices_Reverse_string_string.bits3 (fun HT_ HW_ => ?_)
    generalize wr.drew = w10 at HO_0 HK HB GG8 HQ11 HQ12 hf8_0 hf9_0 hx453_0 hx454_0 hx8_0 hx9_0 hHeld ⊢
    refine pA 0 14 (mL 16 1) HT_ rfl rfl ?_
    refine pA 1 15 (mL 16 3) HT_ rfl rfl ?_
    refine pA 2 16 (mL 16 7) HT_ rfl rfl ?_
    refine pA 3 17 (mL 16 15) HT_ rfl rfl ?_
    refine pA 4 18 (mL 16 31) HT_ rfl rfl ?_
    refine pA 5 19 (mL 16 63) HT_ rfl rfl ?_
    refine pA 6 20 (mL 16 127) HT_ rfl rfl ?_
    refine pA 8 22 (mL 16 383) HT_ rfl rfl ?_
    refine pA 9 23 (mL 16 895) HT_ rfl rfl ?_
    refine pA 10 24 (mL 16 1919) HT_ rfl rfl ?_
    refine tA 7 21 (mL 16 2047) HT_ HW_ hHeld rfl rfl (by rintro w' ⟨s0, s1⟩; go_simp; with_reducible rfl) ?_
    refine tA 11 25 (mL 16 4095) HT_ HW_ hHeld rfl rfl (by rintro w' ⟨s0, s1⟩; go_simp; with_reducible rfl) ?_
    refine pA 12 26 (mL 16 8191) HT_ rfl rfl ?_
    refine last_ (i := 13) (N := none) (mL 16 16383) rfl rfl (one_of HT_.out KR) (by decide) (fun K hK => ?_)
    refine skip_ (w1 := ?_) (by rfl) rfl ?_ ?_
    rotate_left
    ·go_simp
     rfl
    refine hK.out _ _ ?_
    clear hK K
    refine pA 14 27 (mL 16 32767) HT_ rfl rfl ?_
    refine last_ (i := 15) (N := none) (mL 16 65535) rfl rfl (one_of HT_.out KR) (by decide) (fun K hK => ?_)
    refine skip_ (w1 := ?_) (by rfl) rfl ?_ ?_
    rotate_left
    ·go_simp
     rfl
    refine hK.out _ _ ?_
    clear hK K
    refine done_ (done_of HT_.out KR) ?_
    try go_wp2
    (try simp only [← hl0_1])
    go_roundg k1
    case measure => have := HK1.out; omega
    case rel => exact ⟨(y456), (wrap64 (x2_1 + 1)), (wrap64 (x3_1 - 1)), TF, TF, H', ⟨TM⟩, ⟨by (try simp only [hl0_1]); (with_reducible repeat (first | apply Kd.R_alloc | apply Kd.R_drewN | apply Kd.R_drew)); exact HQ12.out⟩, ⟨by repeat (first | (with_reducible first | exact HK.out | apply Kept.alloc | apply Kept.drewN | apply Kept.drew | refine Kept.setCell ?_ HMgo8.out _ | refine Kept.setCell ?_ HMgo8.out _) | exact HK.out)⟩, ⟨TB⟩⟩
   ·rw [if_neg c3] at H
    have c3b0 : decide (x2_1 < x3_1) = false := decide_eq_false c3
    clear c3
    obtain rfl := Option.some.inj H
    go_wp2
    first | go_end0 | ((try simp only [Exit.inBlock, Exit.then]); refine bodyPost_ret (results_none rfl _ _ _) rfl ?_)
    exact ⟨TE, (by first | exact (RW HO_0).out | (simp only [hl0_1]; exact (RW HO_0).out)), TB, TK⟩
end
section
/-! ### cmp_isNaN_string: function 188 -/
def cmp_isNaN_string.f (a0 : ByteArray) : Option (Bool) := some (a0.toList != a0.toList)
theorem cmp_isNaN_string.calls (a0 : ByteArray) (r : Bool) (w : World) (h : cmp_isNaN_string.f a0 = some r) :
  Calls Tryz.prog 188 #[.string a0] w fun e w' => e = .returned (.bool r) ∧ Drawn0 w w' := by
 have H : (some (a0.toList != a0.toList)) = some r := h
 clear h
 obtain rfl := Option.some.inj H
 go_enter Tryz.func188, Tryz.ntmps188
 go_wp2
 go_ret
 exact ⟨TF, TN⟩
end
section
/-! ### cmp_Compare_string: function 160 -/
def cmp_Compare_string.f (a0 : ByteArray) (a1 : ByteArray) : Option (Int) := (cmp_isNaN_string.f a0).bind fun t457 => ((cmp_isNaN_string.f a1).bind fun t458 => (if t457 = true then (if t458 = true then (some 0) else (some (-1))) else (if t458 = true then (some 1) else (if (Op.bytesLess a0.toList a1.toList) = true then (some (-1)) else (if a0.toList = a1.toList then (some 0) else (some 1))))))
theorem cmp_Compare_string.calls (a0 : ByteArray) (a1 : ByteArray) (r : Int) (w : World) (h : cmp_Compare_string.f a0 a1 = some r) :
  Calls Tryz.prog 160 #[.string a0, .string a1] w fun e w' => e = .returned (.int .i64 r) ∧ Drawn0 w w' := by
 have H : ((cmp_isNaN_string.f a0).bind fun t457 => ((cmp_isNaN_string.f a1).bind fun t458 => (if t457 = true then (if t458 = true then (some 0) else (some (-1))) else (if t458 = true then (some 1) else (if (Op.bytesLess a0.toList a1.toList) = true then (some (-1)) else (if a0.toList = a1.toList then (some 0) else (some 1))))))) = some r := h
 clear h
 obtain ⟨t457, A3, H⟩ := bnd H
 obtain ⟨t458, A4, H⟩ := bnd H
 by_cases c5 : t457 = true
 ·subst c5
  replace H := ift H
  by_cases c6 : t458 = true
  ·subst c6
   replace H := ift H
   obtain rfl := Option.some.inj H
   go_enter Tryz.func160, Tryz.ntmps160
   go_wp2_with (first | ((with_reducible refine gate_callee (f := 188) rfl ?_); refine goesL_ (some 8) rfl rfl Tryz.func188 KR rfl #[.string a0] rfl TA ?_; (with_reducible refine (cmp_isNaN_string.calls a0 true _ A3.out).mono ?_); rintro e w' ⟨rfl, ⟨nd, rfl⟩⟩; refine ⟨_, rfl, ?_⟩) | ((with_reducible refine gate_callee (f := 188) rfl ?_); refine goesL_ (some 10) rfl rfl Tryz.func188 KR rfl #[.string a1] rfl TA ?_; (with_reducible refine (cmp_isNaN_string.calls a1 true _ A4.out).mono ?_); rintro e w' ⟨rfl, ⟨nd, rfl⟩⟩; refine ⟨_, rfl, ?_⟩))
   go_ret
   exact ⟨TF, TN⟩
  ·replace c6 := Bool.eq_false_iff.mpr c6
   subst c6
   replace H := iff' H
   obtain rfl := Option.some.inj H
   go_enter Tryz.func160, Tryz.ntmps160
   go_wp2_with (first | ((with_reducible refine gate_callee (f := 188) rfl ?_); refine goesL_ (some 8) rfl rfl Tryz.func188 KR rfl #[.string a0] rfl TA ?_; (with_reducible refine (cmp_isNaN_string.calls a0 true _ A3.out).mono ?_); rintro e w' ⟨rfl, ⟨nd, rfl⟩⟩; refine ⟨_, rfl, ?_⟩) | ((with_reducible refine gate_callee (f := 188) rfl ?_); refine goesL_ (some 10) rfl rfl Tryz.func188 KR rfl #[.string a1] rfl TA ?_; (with_reducible refine (cmp_isNaN_string.calls a1 false _ A4.out).mono ?_); rintro e w' ⟨rfl, ⟨nd, rfl⟩⟩; refine ⟨_, rfl, ?_⟩))
   go_ret
   exact ⟨TF, TN⟩
 ·replace c5 := Bool.eq_false_iff.mpr c5
  subst c5
  replace H := iff' H
  by_cases c7 : t458 = true
  ·subst c7
   replace H := ift H
   obtain rfl := Option.some.inj H
   go_enter Tryz.func160, Tryz.ntmps160
   go_wp2_with (first | ((with_reducible refine gate_callee (f := 188) rfl ?_); refine goesL_ (some 8) rfl rfl Tryz.func188 KR rfl #[.string a0] rfl TA ?_; (with_reducible refine (cmp_isNaN_string.calls a0 false _ A3.out).mono ?_); rintro e w' ⟨rfl, ⟨nd, rfl⟩⟩; refine ⟨_, rfl, ?_⟩) | ((with_reducible refine gate_callee (f := 188) rfl ?_); refine goesL_ (some 10) rfl rfl Tryz.func188 KR rfl #[.string a1] rfl TA ?_; (with_reducible refine (cmp_isNaN_string.calls a1 true _ A4.out).mono ?_); rintro e w' ⟨rfl, ⟨nd, rfl⟩⟩; refine ⟨_, rfl, ?_⟩))
   go_ret
   exact ⟨TF, TN⟩
  ·replace c7 := Bool.eq_false_iff.mpr c7
   subst c7
   replace H := iff' H
   by_cases c8 : (Op.bytesLess a0.toList a1.toList) = true
   ·rw [if_pos c8] at H
    have c8b0 : (Op.bytesLess a0.toList a1.toList) = true := c8
    clear c8
    obtain rfl := Option.some.inj H
    go_enter Tryz.func160, Tryz.ntmps160
    go_wp2_with (first | ((with_reducible refine gate_callee (f := 188) rfl ?_); refine goesL_ (some 8) rfl rfl Tryz.func188 KR rfl #[.string a0] rfl TA ?_; (with_reducible refine (cmp_isNaN_string.calls a0 false _ A3.out).mono ?_); rintro e w' ⟨rfl, ⟨nd, rfl⟩⟩; refine ⟨_, rfl, ?_⟩) | ((with_reducible refine gate_callee (f := 188) rfl ?_); refine goesL_ (some 10) rfl rfl Tryz.func188 KR rfl #[.string a1] rfl TA ?_; (with_reducible refine (cmp_isNaN_string.calls a1 false _ A4.out).mono ?_); rintro e w' ⟨rfl, ⟨nd, rfl⟩⟩; refine ⟨_, rfl, ?_⟩))
    go_ret
    exact ⟨TF, TN⟩
   ·rw [if_neg c8] at H
    have c8b0 : (Op.bytesLess a0.toList a1.toList) = false := by simpa using c8
    clear c8
    by_cases c9 : a0.toList = a1.toList
    ·rw [if_pos c9] at H
     have c9b0 : (a0.toList == a1.toList) = true := beq_iff_eq.mpr c9
     have c9b1 : (a0.toList != a1.toList) = false := bne_eq_false_iff_eq.mpr c9
     clear c9
     obtain rfl := Option.some.inj H
     go_enter Tryz.func160, Tryz.ntmps160
     go_wp2_with (first | ((with_reducible refine gate_callee (f := 188) rfl ?_); refine goesL_ (some 8) rfl rfl Tryz.func188 KR rfl #[.string a0] rfl TA ?_; (with_reducible refine (cmp_isNaN_string.calls a0 false _ A3.out).mono ?_); rintro e w' ⟨rfl, ⟨nd, rfl⟩⟩; refine ⟨_, rfl, ?_⟩) | ((with_reducible refine gate_callee (f := 188) rfl ?_); refine goesL_ (some 10) rfl rfl Tryz.func188 KR rfl #[.string a1] rfl TA ?_; (with_reducible refine (cmp_isNaN_string.calls a1 false _ A4.out).mono ?_); rintro e w' ⟨rfl, ⟨nd, rfl⟩⟩; refine ⟨_, rfl, ?_⟩))
     go_ret
     exact ⟨TF, TN⟩
    ·rw [if_neg c9] at H
     have c9b0 : (a0.toList == a1.toList) = false := beq_eq_false_iff_ne.mpr c9
     have c9b1 : (a0.toList != a1.toList) = true := bne_iff_ne.mpr c9
     obtain rfl := Option.some.inj H
     go_enter Tryz.func160, Tryz.ntmps160
     go_wp2_with (first | ((with_reducible refine gate_callee (f := 188) rfl ?_); refine goesL_ (some 8) rfl rfl Tryz.func188 KR rfl #[.string a0] rfl TA ?_; (with_reducible refine (cmp_isNaN_string.calls a0 false _ A3.out).mono ?_); rintro e w' ⟨rfl, ⟨nd, rfl⟩⟩; refine ⟨_, rfl, ?_⟩) | ((with_reducible refine gate_callee (f := 188) rfl ?_); refine goesL_ (some 10) rfl rfl Tryz.func188 KR rfl #[.string a1] rfl TA ?_; (with_reducible refine (cmp_isNaN_string.calls a1 false _ A4.out).mono ?_); rintro e w' ⟨rfl, ⟨nd, rfl⟩⟩; refine ⟨_, rfl, ?_⟩))
     go_ret
     exact ⟨TF, TN⟩
end
section
/-! ### slices_Compare_string_string: function 122 -/
def slices_Compare_string_string.l0 : Nat → List ByteArray → List ByteArray → List ByteArray → Int → Int → Option (Int)
 | 0, _, _, _, _, _ => none
 | k + 1, x0, x1, x9, x10, x11 => if x11 < x10 then (if 0 ≤ x11 then (if x11 < (x9.length : Int) then (if x11 ≥ (x1.length : Int) then (some 1) else (if x11 < (x1.length : Int) then ((cmp_Compare_string.f (rdOf ByteArray.empty x9 x11) (rdOf ByteArray.empty x1 x11)).bind fun t461 => (if t461 = 0 then (slices_Compare_string_string.l0 k x0 x1 x9 x10 (wrap64 (x11 + 1))) else (some t461))) else (none))) else (none)) else (none)) else (if (x0.length : Int) < (x1.length : Int) then (some (-1)) else (some 0))
def slices_Compare_string_string.f (k : Nat) (l0 : List ByteArray) (l1 : List ByteArray) : Option (Int) := slices_Compare_string_string.l0 k l0 l1 l0 (l0.length : Int) 0
theorem slices_Compare_string_string.calls (k : Nat) (A0 : Option Addr) (c0 : Nat) (l0 : List ByteArray) (A1 : Option Addr) (c1 : Nat) (l1 : List ByteArray) (r : Int) (w : World) (hr0 : Kd.C Kd.string w A0 l0.length l0) (hc0 : l0.length ≤ c0) (hr1 : Kd.C Kd.string w A1 l1.length l1) (hc1 : l1.length ≤ c1) (h : slices_Compare_string_string.f k l0 l1 = some r) :
  Calls Tryz.prog 122 #[.slice A0 l0.length c0, .slice A1 l1.length c1] w fun e w' => e = .returned (.int .i64 r) ∧ Drawn0 w w' := by
 have HR0 := Aside0.mk hr0
 have HC0 := Aside0.mk hc0
 clear hr0 hc0
 have HR1 := Aside0.mk hr1
 have HC1 := Aside0.mk hc1
 clear hr1 hc1
 have H : (slices_Compare_string_string.l0 k l0 l1 l0 (l0.length : Int) 0) = some r := h
 clear h
 have H' := Aside0.mk H
 clear H
 go_enter Tryz.func122, Tryz.ntmps122
 go_wp2
 go_loopg [11] k (fun kq v11 w' => ∃ (x11_1 : Int), v11 = .int .i64 x11_1 ∧ Aside0 (slices_Compare_string_string.l0 kq l0 l1 l0 (l0.length : Int) x11_1 = some r) ∧ Aside0 (kq ≤ k) ∧ Drawn0 w w')
 case atStart => exact ⟨(0), TF, H', ⟨Nat.le_refl _⟩, TN⟩
 case round =>
  clear H'
  try clear c1
  try clear p2
  obtain ⟨x11_1, rfl, HA, HK1, ⟨m1, rfl⟩⟩ := hrel
  cases gk with
  | zero => exact absurd HA.out (by simp [slices_Compare_string_string.l0])
  | succ k1 =>
   have H := HA.out
   clear HA
   simp only [slices_Compare_string_string.l0] at H
   by_cases c3 : x11_1 < (l0.length : Int)
   ·rw [if_pos c3] at H
    have c3b0 : decide (x11_1 < (l0.length : Int)) = true := decide_eq_true c3
    clear c3
    obtain ⟨c4, H⟩ := ifn H
    have c4b0 : decide (0 ≤ x11_1) = true := decide_eq_true c4
    clear c4
    obtain ⟨c5, H⟩ := ifn H
    have c5b0 : decide (x11_1 < (l0.length : Int)) = true := decide_eq_true c5
    clear c5
    by_cases c6 : x11_1 ≥ (l1.length : Int)
    ·rw [if_pos c6] at H
     have c6b0 : decide ((l1.length : Int) ≤ x11_1) = true := decide_eq_true c6
     clear c6
     obtain rfl := Option.some.inj H
     have p459 : 0 ≤ (x11_1 : Int) := TD
     have q459 : x11_1 < (l0.length : Int) := TD
     obtain ⟨ad459, e459, hx459_0⟩ := Kd.at_string HR0.out x11_1 p459 q459
     cases e459
     replace p459 := eq_true p459
     replace q459 := eq_true q459
     go_wp2
     go_ret
     exact ⟨TF, TN⟩
    ·rw [if_neg c6] at H
     have c6b0 : decide ((l1.length : Int) ≤ x11_1) = false := decide_eq_false c6
     clear c6
     obtain ⟨c7, H⟩ := ifn H
     have c7b0 : decide (x11_1 < (l1.length : Int)) = true := decide_eq_true c7
     clear c7
     obtain ⟨t461, A8, H⟩ := bnd H
     by_cases c9 : t461 = 0
     ·rw [if_pos c9] at H
      have c9b0 : (t461 == 0) = true := beq_iff_eq.mpr c9
      have c9b1 : (t461 != 0) = false := bne_eq_false_iff_eq.mpr c9
      clear c9
      have H' := Aside0.mk H
      clear H
      have p459 : 0 ≤ (x11_1 : Int) := TD
      have q459 : x11_1 < (l0.length : Int) := TD
      obtain ⟨ad459, e459, hx459_0⟩ := Kd.at_string HR0.out x11_1 p459 q459
      cases e459
      replace p459 := eq_true p459
      replace q459 := eq_true q459
      have p460 : 0 ≤ (x11_1 : Int) := TD
      have q460 : x11_1 < (l1.length : Int) := TD
      obtain ⟨ad460, e460, hx460_0⟩ := Kd.at_string HR1.out x11_1 p460 q460
      cases e460
      replace p460 := eq_true p460
      replace q460 := eq_true q460
      go_wp2_with (first | ((with_reducible refine gate_callee (f := 160) rfl ?_); refine goesL_ (some 26) rfl rfl Tryz.func160 KR rfl #[.string (rdOf ByteArray.empty l0 x11_1), .string (rdOf ByteArray.empty l1 x11_1)] rfl TA ?_; (with_reducible refine (cmp_Compare_string.calls (rdOf ByteArray.empty l0 x11_1) (rdOf ByteArray.empty l1 x11_1) t461 _ A8.out).mono ?_); rintro e w' ⟨rfl, ⟨nd, rfl⟩⟩; refine ⟨_, rfl, ?_⟩))
      go_roundg k1
      case measure => have := HK1.out; omega
      case rel => exact ⟨(wrap64 (x11_1 + 1)), TF, H', ⟨TM⟩, TN⟩
     ·rw [if_neg c9] at H
      have c9b0 : (t461 == 0) = false := beq_eq_false_iff_ne.mpr c9
      have c9b1 : (t461 != 0) = true := bne_iff_ne.mpr c9
      obtain rfl := Option.some.inj H
      have p459 : 0 ≤ (x11_1 : Int) := TD
      have q459 : x11_1 < (l0.length : Int) := TD
      obtain ⟨ad459, e459, hx459_0⟩ := Kd.at_string HR0.out x11_1 p459 q459
      cases e459
      replace p459 := eq_true p459
      replace q459 := eq_true q459
      have p460 : 0 ≤ (x11_1 : Int) := TD
      have q460 : x11_1 < (l1.length : Int) := TD
      obtain ⟨ad460, e460, hx460_0⟩ := Kd.at_string HR1.out x11_1 p460 q460
      cases e460
      replace p460 := eq_true p460
      replace q460 := eq_true q460
      go_wp2_with (first | ((with_reducible refine gate_callee (f := 160) rfl ?_); refine goesL_ (some 26) rfl rfl Tryz.func160 KR rfl #[.string (rdOf ByteArray.empty l0 x11_1), .string (rdOf ByteArray.empty l1 x11_1)] rfl TA ?_; (with_reducible refine (cmp_Compare_string.calls (rdOf ByteArray.empty l0 x11_1) (rdOf ByteArray.empty l1 x11_1) t461 _ A8.out).mono ?_); rintro e w' ⟨rfl, ⟨nd, rfl⟩⟩; refine ⟨_, rfl, ?_⟩))
      go_ret
      exact ⟨TF, TN⟩
   ·rw [if_neg c3] at H
    have c3b0 : decide (x11_1 < (l0.length : Int)) = false := decide_eq_false c3
    clear c3
    by_cases c10 : (l0.length : Int) < (l1.length : Int)
    ·rw [if_pos c10] at H
     have c10b0 : decide ((l0.length : Int) < (l1.length : Int)) = true := decide_eq_true c10
     have c10b1 : decide (l0.length < l1.length) = true := decide_eq_true (Int.ofNat_lt.mp c10)
     clear c10
     obtain rfl := Option.some.inj H
     go_wp2
     go_ret
     exact ⟨TF, TN⟩
    ·rw [if_neg c10] at H
     have c10b0 : decide ((l0.length : Int) < (l1.length : Int)) = false := decide_eq_false c10
     have c10b1 : decide (l0.length < l1.length) = false := decide_eq_false (fun h => c10 (Int.ofNat_lt.mpr h))
     clear c10
     obtain rfl := Option.some.inj H
     go_wp2
     go_ret
     exact ⟨TF, TN⟩
end
section
/-! ### impl_compareNames: function 70 -/
def impl_compareNames.f (k : Nat) (a0 : ByteArray) (a1 : ByteArray) : Option (Int) := (impl_labelsOf.f k a0).bind fun t462 => ((impl_labelsOf.f k a1).bind fun t465 => ((slices_Reverse_string_string.f k t462).bind fun t468 => ((slices_Reverse_string_string.f k t465).bind fun t469 => ((slices_Compare_string_string.f k t468 t469).bind fun t470 => (some t470)))))
theorem impl_compareNames.calls (k : Nat) (a0 : ByteArray) (a1 : ByteArray) (r : Int) (w : World) (h : impl_compareNames.f k a0 a1 = some r) :
  Calls Tryz.prog 70 #[.string a0, .string a1] w fun e w' => e = .returned (.int .i64 r) ∧ Below w.heap.size w w' := by
 have HB := Aside0.mk (Below.refl w.heap.size w)
 have H : ((impl_labelsOf.f k a0).bind fun t462 => ((impl_labelsOf.f k a1).bind fun t465 => ((slices_Reverse_string_string.f k t462).bind fun t468 => ((slices_Reverse_string_string.f k t465).bind fun t469 => ((slices_Compare_string_string.f k t468 t469).bind fun t470 => (some t470)))))) = some r := h
 clear h
 obtain ⟨t462, A3, H⟩ := bnd H
 obtain ⟨t465, A4, H⟩ := bnd H
 obtain ⟨t468, A5, H⟩ := bnd H
 obtain ⟨t469, A6, H⟩ := bnd H
 obtain ⟨t470, A7, H⟩ := bnd H
 obtain rfl := Option.some.inj H
 go_enter Tryz.func70, Tryz.ntmps70
 go_wp2_with (first | ((with_reducible refine gate_callee (f := 114) rfl ?_); refine goesL_ (some 8) rfl rfl Tryz.func114 KR rfl #[.string a0] rfl TA ?_; (with_reducible refine (impl_labelsOf.calls k a0 t462 _ A3.out).mono ?_); rintro e w8 ⟨v463, rfl, ho0, hb⟩; refine ⟨_, rfl, ?_⟩; have HO464 := RL ho0; replace HB := BS hb; (try clear hb); (try clear hb2); (try clear hk); (try clear hi); (try clear ho0)) | ((with_reducible refine gate_callee (f := 114) rfl ?_); refine goesL_ (some 10) rfl rfl Tryz.func114 KR rfl #[.string a1] rfl TA ?_; (with_reducible refine (impl_labelsOf.calls k a1 t465 _ A4.out).mono ?_); rintro e w9 ⟨v466, rfl, ho0, hb⟩; refine ⟨_, rfl, ?_⟩; have HO467 := Aside0.mk (Kd.R_lower (Kd.R_new' ho0 (Kd.R_lt (RW HO464).out)) (below_size TB)); replace HO464 := Aside0.mk (Kd.R_elder' (RW HO464).out (Kd.R_base ho0) hb); replace HB := BS hb; (try clear hb); (try clear hb2); (try clear hk); (try clear hi); (try clear ho0); obtain ⟨Ao10, co10, eo10⟩ := Kd.R_slice HO464.out; subst eo10) | ((with_reducible refine gate_callee (f := 121) rfl ?_); refine goesL_ (some 12) rfl rfl Tryz.func121 KR rfl #[.slice Ao10 t462.length co10] rfl TA ?_; (with_reducible refine (slices_Reverse_string_string.calls k (fun k_ => some k_ = (.slice Ao10 t462.length co10 : Value).ownBlock) (.slice Ao10 t462.length co10) t462 t468 w _ ?side1 ?side2 A5.out).mono ?_); (case side1 => repeat (first | (with_reducible first | exact HB.out | apply below_alloc | apply pw_below_drewN | apply below_drew1) | exact HB.out)); (case side2 => exact Kd.R_tight rfl HO464.out); rintro e w11 ⟨rfl, hy0, hb, hkp⟩; refine ⟨_, rfl, ?_⟩; replace HO464 := Aside0.mk (Kd.R_reok rfl hy0 (fun k_ e_ => HO464.out.1 k_ e_)); replace HO467 := Aside0.mk (Kd.R_mono (ok' := fun k_ => some k_ ≠ (.slice Ao10 t462.length co10 : Value).ownBlock) (Kd.R_keptB (HO467.out) hkp (fun k_ hk_ hs_ => (hk_.2) hs_)) (fun k_ hk_ => hk_.1.2)); replace HB := Aside0.mk (hb); (try clear hb); (try clear hkp); (try clear hy0); obtain ⟨Ao12, co12, eo12⟩ := Kd.R_slice HO467.out; subst eo12) | ((with_reducible refine gate_callee (f := 121) rfl ?_); refine goesL_ (some 14) rfl rfl Tryz.func121 KR rfl #[.slice Ao12 t465.length co12] rfl TA ?_; (with_reducible refine (slices_Reverse_string_string.calls k (fun k_ => some k_ = (.slice Ao12 t465.length co12 : Value).ownBlock) (.slice Ao12 t465.length co12) t465 t469 w _ ?side1 ?side2 A6.out).mono ?_); (case side1 => repeat (first | (with_reducible first | exact HB.out | apply below_alloc | apply pw_below_drewN | apply below_drew1) | exact HB.out)); (case side2 => exact Kd.R_tight rfl HO467.out); rintro e w13 ⟨rfl, hy0, hb, hkp⟩; refine ⟨_, rfl, ?_⟩; replace HO464 := Aside0.mk (Kd.R_mono (ok' := fun k_ => some k_ ≠ (.slice Ao12 t465.length co12 : Value).ownBlock) (Kd.R_keptB (HO464.out) hkp (fun k_ hk_ hs_ => (hk_.2) hs_)) (fun k_ hk_ => hk_.1.2)); replace HO467 := Aside0.mk (Kd.R_reok rfl hy0 (fun k_ e_ => HO467.out.1 k_ e_)); replace HB := Aside0.mk (hb); (try clear hb); (try clear hkp); (try clear hy0)) | ((with_reducible refine gate_callee (f := 122) rfl ?_); refine goesL_ (some 17) rfl rfl Tryz.func122 KR rfl #[.slice Ao10 t468.length co10, .slice Ao12 t469.length co12] rfl (by (try simp only [List.map_toArray, List.map_cons, List.map_nil]); first | done | (rw [show t468.length = t462.length from (Kd.R_reads' HO464.out).1.symm, show t469.length = t465.length from (Kd.R_reads' HO467.out).1.symm] <;> rfl) | rfl | (simp only [List.length_drop, List.length_take]; rfl)) ?_; (with_reducible refine (slices_Compare_string_string.calls k _ _ t468 _ _ t469 t470 _ ?side1 ?side2 ?side3 ?side4 A7.out).mono ?_); (case side1 => exact CW ((Kd.R_reads' HO464.out).2.2)); (case side2 => rw [show t468.length = t462.length from (Kd.R_reads' HO464.out).1.symm]; exact (Kd.R_reads' HO464.out).2.1); (case side3 => exact CW ((Kd.R_reads' HO467.out).2.2)); (case side4 => rw [show t469.length = t465.length from (Kd.R_reads' HO467.out).1.symm]; exact (Kd.R_reads' HO467.out).2.1); rintro e w' ⟨rfl, ⟨nd, rfl⟩⟩; refine ⟨_, rfl, ?_⟩))
 go_ret
 exact ⟨TE, TB⟩
end
section
/-! ### impl_compareKeys: function 215 -/
def impl_compareKeys.f (k : Nat) (a0_0 : ByteArray) (a0_1 : Int) (a0_2 : Int) (a0_3 : ByteArray) (a1_0 : ByteArray) (a1_1 : Int) (a1_2 : Int) (a1_3 : ByteArray) : Option (Int) := (impl_compareNames.f k a0_0 a1_0).bind fun t476 => ((cmp_Compare_int.f a0_1 a1_1).bind fun t477 => ((cmp_Or_int.f k (([t476, t477] : List Int))).bind fun t481 => (some t481)))
def impl_compareKeys.T1 : Bool × List (List Nat × List Nat) := (true, [([], []), ([0], [0]), ([], []), ([2], [2]), ([1, 3], [1, 3]), ([], []), ([5], [5]), ([], []), ([7], [7]), ([6, 8, 4], [6, 8]), ([4, 9], [4, 9]), ([10, 9], [10]), ([11, 11, 0, 1, 2, 3, 4, 5, 6, 7, 8, 9, 10, 11], [11])])
def impl_compareKeys.B1 : List Nat := [0, 1, 0, 4, 15, 0, 32, 0, 128, 511, 1023, 2047, 4095]
theorem impl_compareKeys.tab1 : rtab .any (opsOf Tryz.f215 1) = impl_compareKeys.T1 := by kernel_rfl
theorem impl_compareKeys.bits1 : waitsOk impl_compareKeys.T1.2 impl_compareKeys.B1 = true := by kernel_rfl
theorem impl_compareKeys.calls (k : Nat) (a0_0 : ByteArray) (a0_1 : Int) (a0_2 : Int) (a0_3 : ByteArray) (a1_0 : ByteArray) (a1_1 : Int) (a1_2 : Int) (a1_3 : ByteArray) (r : Int) (w : World) (h : impl_compareKeys.f k a0_0 a0_1 a0_2 a0_3 a1_0 a1_1 a1_2 a1_3 = some r) :
  Calls Tryz.prog 215 #[.agg #[.string a0_0, .int .i64 a0_1, .int .i64 a0_2, .string a0_3], .agg #[.string a1_0, .int .i64 a1_1, .int .i64 a1_2, .string a1_3]] w fun e w' => e = .returned (.int .i64 r) ∧ Below w.heap.size w w' := by
 have hu100 := Tryz.underlying100
 have HB := Aside0.mk (Below.refl w.heap.size w)
 have H : ((impl_compareNames.f k a0_0 a1_0).bind fun t476 => ((cmp_Compare_int.f a0_1 a1_1).bind fun t477 => ((cmp_Or_int.f k (([t476, t477] : List Int))).bind fun t481 => (some t481)))) = some r := h
 clear h
 obtain ⟨t476, A3, H⟩ := bnd H
 obtain ⟨t477, A4, H⟩ := bnd H
 obtain ⟨y478, hy478⟩ : ∃ y_ : List Int, y_ = (([t476, t477] : List Int)) := ⟨_, rfl⟩
 replace H : ((cmp_Or_int.f k y478).bind fun t481 => (some t481)) = some r := by first | (rw [hy478]; with_reducible exact H) | (have H2_ := (Option.bind_some _ _).symm.trans H; rw [hy478]; with_reducible exact H2_) | (have H2_ := (Option.bind_some _ _).symm.trans H; with_reducible exact H2_) | with_reducible exact H | (rw [hy478]; exact H) | exact H
 have Ny478 := Aside0.mk hy478
 clear hy478
 obtain ⟨t481, A5, H⟩ := bnd H
 obtain rfl := Option.some.inj H
 go_enter Tryz.func215, Tryz.ntmps215
 try go_wp2_with (first | ((with_reducible refine gate_dst (N := 2) rfl ?_); refine bE 2 #[.string a0_0, .int .i64 a0_1, .int .i64 a0_2, .string a0_3] 100 ?_; intro gb474 hg w6 hbox hb; have BK474 := Aside0.mk (hbox); have GE474 := bG hg; replace HB := BS hb; clear hb hbox hg) | ((with_reducible refine gate_dst (N := 3) rfl ?_); refine bE 3 #[.string a1_0, .int .i64 a1_1, .int .i64 a1_2, .string a1_3] 100 ?_; intro gb475 hg w7 hbox hb; have BK475 := Aside0.mk (hbox); have GE475 := bG hg; replace HB := BS hb; have NB474_475 := bN BK474 hg; have NB475_474 := bM BK474 hg; replace BK474 := KB BK474 hb; clear hb hbox hg))
 replace BK474 := Aside0.mk (blk_drew BK474.out)
 replace BK475 := Aside0.mk (blk_drew BK475.out)
 replace HB := Aside0.mk (below_drew1 HB.out)
 refine start_ (n := 13) (S := fun w' => w'.cell? ⟨gb474, 0, none⟩ = some (.string a0_0) ∧ w'.cell? ⟨gb474, 1, none⟩ = some (.int .i64 a0_1) ∧ w'.cell? ⟨gb474, 2, none⟩ = some (.int .i64 a0_2) ∧ w'.cell? ⟨gb474, 3, none⟩ = some (.string a0_3) ∧ w'.cell? ⟨gb475, 0, none⟩ = some (.string a1_0) ∧ w'.cell? ⟨gb475, 1, none⟩ = some (.int .i64 a1_1) ∧ w'.cell? ⟨gb475, 2, none⟩ = some (.int .i64 a1_2) ∧ w'.cell? ⟨gb475, 3, none⟩ = some (.string a1_3)) (ds := []) #[false, false, false, false, false, false, false, false, false, false, false, false, false] KR rfl rfl ⟨bc 0 BK474, bc 1 BK474, bc 2 BK474, bc 3 BK474, bc 0 BK475, bc 1 BK475, bc 2 BK475, bc 3 BK475⟩ (fun hHeld => ?_); refine with_tabW impl_compareKeys.tab1 impl_compareKeys.bits1 (fun HT_ HW_ => ?_)
 generalize w7.drew = w8 at BK474 BK475 HB hHeld ⊢
 refine pA 0 5 (mL 13 1) HT_ rfl rfl ?_
 refine pA 2 7 (mL 13 5) HT_ rfl rfl ?_
 refine pA 5 10 (mL 13 37) HT_ rfl rfl ?_
 refine pA 7 12 (mL 13 165) HT_ rfl rfl ?_
 refine tA 1 6 (mL 13 167) HT_ HW_ hHeld rfl rfl (by rintro w' ⟨s0, s1, s2, s3, s4, s5, s6, s7⟩; go_simp; with_reducible rfl) ?_
 refine tA 3 8 (mL 13 175) HT_ HW_ hHeld rfl rfl (by rintro w' ⟨s0, s1, s2, s3, s4, s5, s6, s7⟩; go_simp; with_reducible rfl) ?_
 refine tA 6 11 (mL 13 239) HT_ HW_ hHeld rfl rfl (by rintro w' ⟨s0, s1, s2, s3, s4, s5, s6, s7⟩; go_simp; with_reducible rfl) ?_
 refine tA 8 13 (mL 13 495) HT_ HW_ hHeld rfl rfl (by rintro w' ⟨s0, s1, s2, s3, s4, s5, s6, s7⟩; go_simp; with_reducible rfl) ?_
 refine one_ (i := 4) (N := some 9) (mL 13 511) rfl rfl (one_of HT_.out KR) (by decide) (fun K hK => ?_)
 refine goes_ Tryz.func70 KR rfl #[.string a0_0, .string a1_0] (by rfl) rfl rfl TA ?_
 with_reducible refine (impl_compareNames.calls k a0_0 a1_0 t476 _ A3.out).mono ?_
 rintro e w9 ⟨rfl, hb⟩
 refine ⟨_, rfl, ?_⟩
 replace BK474 := KB BK474 hb
 replace BK475 := KB BK475 hb
 replace HB := BS hb
 (try clear hb)
 (try clear hb2)
 (try clear hk)
 (try clear hi)
 refine hK.out _ _ ⟨bc 0 BK474, bc 1 BK474, bc 2 BK474, bc 3 BK474, bc 0 BK475, bc 1 BK475, bc 2 BK475, bc 3 BK475⟩ (fun hHeld => ?_)
 clear hK K
 refine nA ?_
 refine one_ (i := 9) (N := some 14) (mL 13 1023) rfl rfl (one_of HT_.out KR) (by decide) (fun K hK => ?_)
 refine goes_ Tryz.func218 KR rfl #[.int .i64 a0_1, .int .i64 a1_1] (by rfl) rfl rfl TA ?_
 with_reducible refine (cmp_Compare_int.calls a0_1 a1_1 t477 _ A4.out).mono ?_
 rintro e w' ⟨rfl, ⟨nd, rfl⟩⟩
 refine ⟨_, rfl, ?_⟩
 refine hK.out _ _ ⟨bc 0 BK474, bc 1 BK474, bc 2 BK474, bc 3 BK474, bc 0 BK475, bc 1 BK475, bc 2 BK475, bc 3 BK475⟩ (fun hHeld => ?_)
 clear hK K
 refine nA ?_
 refine one_ (i := 10) (N := some 15) (mL 13 2047) rfl rfl (one_of HT_.out KR) (by decide) (fun K hK => ?_)
 refine Kd.R_lit_step (Kd.int .i64) _ 3 ?hg (N := 15) ?hd (xs := ([t476, t477] : List Int)) (inner := [.int .i64 t476, .int .i64 t477]) (ok := fun _ => True) (okp := fun _ => True) ?hr ?hp (fun _ hk => hk) trivial (Below.refl _ _) (Nat.le_refl _) (by simp) ?_; (case hd => rfl); (case hg => rfl); (case hr => first | (go_simp; done) | (go_simp; rfl)); (case hp => exact (Reps.one (show Kd.M (Kd.int .i64) _ _ _ t476 [.int .i64 t476] from rfl) (Reps.one (show Kd.M (Kd.int .i64) _ _ _ t477 [.int .i64 t477] from rfl) (Reps.none _ _))))
 intro v479 w10 ho11 hb hg_ hnew_
 clear hg_ hnew_
 (first | rw [← Ny478.out] at ho11 | (simp only [Int.reduceToNat] at ho11; rw [← Ny478.out] at ho11))
 have HO480 := RL ho11
 replace BK474 := KB BK474 hb
 replace BK475 := KB BK475 hb
 replace HB := BS hb
 clear hb ho11
 obtain ⟨Ao12, co12, eo12⟩ := Kd.R_slice HO480.out
 (first | subst eo12 | (injection eo12 with f1_ f2_ f3_; have f4_ := f1_.symm; have f5_ := f3_.symm; clear f1_ f2_ f3_; subst f4_; subst f5_))
 refine hK.out _ _ ⟨bc 0 BK474, bc 1 BK474, bc 2 BK474, bc 3 BK474, bc 0 BK475, bc 1 BK475, bc 2 BK475, bc 3 BK475⟩ (fun hHeld => ?_)
 clear hK K
 refine nA ?_
 refine one_ (i := 11) (N := some 16) (mL 13 4095) rfl rfl (one_of HT_.out KR) (by decide) (fun K hK => ?_)
 refine goes_ Tryz.func214 KR rfl #[.slice Ao12 y478.length co12] (by rfl) rfl rfl TA ?_
 with_reducible refine (cmp_Or_int.calls k _ _ y478 t481 _ ?side1 ?side2 A5.out).mono ?_
 (case side1 => exact CW ((Kd.R_reads' HO480.out).2.2))
 (case side2 => exact (Kd.R_reads' HO480.out).2.1)
 rintro e w' ⟨rfl, ⟨nd, rfl⟩⟩
 refine ⟨_, rfl, ?_⟩
 refine hK.out _ _ ⟨bc 0 BK474, bc 1 BK474, bc 2 BK474, bc 3 BK474, bc 0 BK475, bc 1 BK475, bc 2 BK475, bc 3 BK475⟩ (fun hHeld => ?_)
 clear hK K
 refine nA ?_
 refine pA 12 4 (mL 13 8191) HT_ rfl rfl ?_
 refine done_ (done_of HT_.out KR) ?_
 try go_wp2
 go_ret
 exact ⟨TE, TB⟩
end
section
/-! ### impl_dataBytes: function 217 -/
def impl_dataBytes.f (k : Nat) (a0 : Int) (a1 : ByteArray) : Option (ByteArray) := (impl_DataBytes.f k a0 a1).bind fun bt482 => (if bt482.2 = true then (some bt482.1) else (some (⟨#[]⟩ : ByteArray)))
theorem impl_dataBytes.calls (k : Nat) (a0 : Int) (a1 : ByteArray) (r : ByteArray) (w : World) (hG_ : Glob w) (h : impl_dataBytes.f k a0 a1 = some r) :
  Calls Tryz.prog 217 #[.int .i64 a0, .string a1] w fun e w' => e = .returned (.string r) ∧ Below w.heap.size w w' := by
 have HGL := Aside0.mk hG_
 clear hG_
 have HB := Aside0.mk (Below.refl w.heap.size w)
 have H : ((impl_DataBytes.f k a0 a1).bind fun bt482 => (if bt482.2 = true then (some bt482.1) else (some (⟨#[]⟩ : ByteArray)))) = some r := h
 clear h
 obtain ⟨⟨t482, t483⟩, A3, H⟩ := bnd H
 try dsimp only at H
 by_cases c4 : t483 = true
 ·subst c4
  replace H := ift H
  obtain rfl := Option.some.inj H
  go_enter Tryz.func217, Tryz.ntmps217
  go_wp2_with (first | ((with_reducible refine gate_callee (f := 129) rfl ?_); refine goesL_ (some 10) rfl rfl Tryz.func129 KR rfl #[.int .i64 a0, .string a1] rfl TA ?_; (with_reducible refine (impl_DataBytes.calls k a0 a1 t482 true _ ?side1 A3.out).mono ?_); (case side1 => exact GW HGL); rintro e w5 ⟨rfl, hb⟩; refine ⟨_, rfl, ?_⟩; replace HB := BS hb; (try clear hb); (try clear hb2); (try clear hk); (try clear hi)))
  go_ret
  exact ⟨TE, TB⟩
 ·replace c4 := Bool.eq_false_iff.mpr c4
  subst c4
  replace H := iff' H
  obtain rfl := Option.some.inj H
  go_enter Tryz.func217, Tryz.ntmps217
  go_wp2_with (first | ((with_reducible refine gate_callee (f := 129) rfl ?_); refine goesL_ (some 10) rfl rfl Tryz.func129 KR rfl #[.int .i64 a0, .string a1] rfl TA ?_; (with_reducible refine (impl_DataBytes.calls k a0 a1 t482 false _ ?side1 A3.out).mono ?_); (case side1 => exact GW HGL); rintro e w6 ⟨rfl, hb⟩; refine ⟨_, rfl, ?_⟩; replace HB := BS hb; (try clear hb); (try clear hb2); (try clear hk); (try clear hi)))
  go_ret
  exact ⟨TE, TB⟩
end
section
/-! ### strings_Compare: function 216 -/
def strings_Compare.f (a0 : ByteArray) (a1 : ByteArray) : Option (Int) := some (Go.Lib.compareBytes a0.data.toList a1.data.toList)
theorem strings_Compare.calls (a0 : ByteArray) (a1 : ByteArray) (r : Int) (w : World) (h : strings_Compare.f a0 a1 = some r) :
  Calls Tryz.prog 216 #[.string a0, .string a1] w fun e w' => e = .returned (.int .i64 r) ∧ Drawn0 w w' := by
 unfold strings_Compare.f at h
 obtain rfl := Option.some.inj h
 exact (Go.Proofs.Any.strings_Compare Go.Proofs.Tryz.lays106 a0 a1 w).mono fun e w' hh => ⟨hh.1, hh.2 ▸ Drawn0.refl _⟩
end
section
/-! ### impl_compareRecords: function 199 -/
def impl_compareRecords.f (k : Nat) (a0_0 : ByteArray) (a0_1 : Int) (a0_2 : Int) (a0_3 : ByteArray) (a1_0 : ByteArray) (a1_1 : Int) (a1_2 : Int) (a1_3 : ByteArray) : Option (Int) := (impl_compareKeys.f k a0_0 a0_1 a0_2 a0_3 a1_0 a1_1 a1_2 a1_3).bind fun t486 => ((impl_dataBytes.f k a0_1 a0_3).bind fun t487 => ((impl_dataBytes.f k a1_1 a1_3).bind fun t488 => ((strings_Compare.f t487 t488).bind fun t489 => ((cmp_Compare_int.f a0_2 a1_2).bind fun t490 => ((cmp_Or_int.f k (([t486, t489, t490] : List Int))).bind fun t494 => (some t494))))))
def impl_compareRecords.T1 : Bool × List (List Nat × List Nat) := (true, [([], []), ([], []), ([0, 1], [0, 1]), ([], []), ([3], [3]), ([], []), ([5], [5]), ([4, 6, 2], [4, 6]), ([], []), ([8], [8]), ([], []), ([10], [10]), ([9, 11, 7], [9, 11]), ([7, 12, 12], [7, 12]), ([], []), ([14], [14]), ([], []), ([16], [16]), ([15, 17, 13], [15, 17]), ([2, 13, 18], [2, 13, 18]), ([19, 18], [19]), ([20, 20, 0, 1, 2, 3, 4, 5, 6, 7, 8, 9, 10, 11, 12, 13, 14, 15, 16, 17, 18, 19, 20], [20])])
def impl_compareRecords.B1 : List Nat := [0, 0, 3, 0, 8, 0, 32, 127, 0, 256, 0, 1024, 4095, 8191, 0, 16384, 0, 65536, 262143, 524287, 1048575, 2097151]
theorem impl_compareRecords.tab1 : rtab .any (opsOf Tryz.f199 1) = impl_compareRecords.T1 := by kernel_rfl
theorem impl_compareRecords.bits1 : waitsOk impl_compareRecords.T1.2 impl_compareRecords.B1 = true := by kernel_rfl
theorem impl_compareRecords.calls (k : Nat) (a0_0 : ByteArray) (a0_1 : Int) (a0_2 : Int) (a0_3 : ByteArray) (a1_0 : ByteArray) (a1_1 : Int) (a1_2 : Int) (a1_3 : ByteArray) (r : Int) (w : World) (hG_ : Glob w) (h : impl_compareRecords.f k a0_0 a0_1 a0_2 a0_3 a1_0 a1_1 a1_2 a1_3 = some r) :
  Calls Tryz.prog 199 #[.agg #[.string a0_0, .int .i64 a0_1, .int .i64 a0_2, .string a0_3], .agg #[.string a1_0, .int .i64 a1_1, .int .i64 a1_2, .string a1_3]] w fun e w' => e = .returned (.int .i64 r) ∧ Below w.heap.size w w' := by
 have hu100 := Tryz.underlying100
 have HGL := Aside0.mk hG_
 clear hG_
 have HB := Aside0.mk (Below.refl w.heap.size w)
 have H : ((impl_compareKeys.f k a0_0 a0_1 a0_2 a0_3 a1_0 a1_1 a1_2 a1_3).bind fun t486 => ((impl_dataBytes.f k a0_1 a0_3).bind fun t487 => ((impl_dataBytes.f k a1_1 a1_3).bind fun t488 => ((strings_Compare.f t487 t488).bind fun t489 => ((cmp_Compare_int.f a0_2 a1_2).bind fun t490 => ((cmp_Or_int.f k (([t486, t489, t490] : List Int))).bind fun t494 => (some t494))))))) = some r := h
 clear h
 obtain ⟨t486, A3, H⟩ := bnd H
 obtain ⟨t487, A4, H⟩ := bnd H
 obtain ⟨t488, A5, H⟩ := bnd H
 obtain ⟨t489, A6, H⟩ := bnd H
 obtain ⟨t490, A7, H⟩ := bnd H
 obtain ⟨y491, hy491⟩ : ∃ y_ : List Int, y_ = (([t486, t489, t490] : List Int)) := ⟨_, rfl⟩
 replace H : ((cmp_Or_int.f k y491).bind fun t494 => (some t494)) = some r := by first | (rw [hy491]; with_reducible exact H) | (have H2_ := (Option.bind_some _ _).symm.trans H; rw [hy491]; with_reducible exact H2_) | (have H2_ := (Option.bind_some _ _).symm.trans H; with_reducible exact H2_) | with_reducible exact H | (rw [hy491]; exact H) | exact H
 have Ny491 := Aside0.mk hy491
 clear hy491
 obtain ⟨t494, A8, H⟩ := bnd H
 obtain rfl := Option.some.inj H
 go_enter Tryz.func199, Tryz.ntmps199
 try go_wp2_with (first | ((with_reducible refine gate_dst (N := 2) rfl ?_); refine bE 2 #[.string a0_0, .int .i64 a0_1, .int .i64 a0_2, .string a0_3] 100 ?_; intro gb484 hg w9 hbox hb; have BK484 := Aside0.mk (hbox); have GE484 := bG hg; replace HB := BS hb; clear hb hbox hg) | ((with_reducible refine gate_dst (N := 3) rfl ?_); refine bE 3 #[.string a1_0, .int .i64 a1_1, .int .i64 a1_2, .string a1_3] 100 ?_; intro gb485 hg w10 hbox hb; have BK485 := Aside0.mk (hbox); have GE485 := bG hg; replace HB := BS hb; have NB484_485 := bN BK484 hg; have NB485_484 := bM BK484 hg; replace BK484 := KB BK484 hb; clear hb hbox hg))
 replace BK484 := Aside0.mk (blk_drew BK484.out)
 replace BK485 := Aside0.mk (blk_drew BK485.out)
 replace HB := Aside0.mk (below_drew1 HB.out)
 refine start_ (n := 22) (S := fun w' => w'.cell? ⟨gb484, 0, none⟩ = some (.string a0_0) ∧ w'.cell? ⟨gb484, 1, none⟩ = some (.int .i64 a0_1) ∧ w'.cell? ⟨gb484, 2, none⟩ = some (.int .i64 a0_2) ∧ w'.cell? ⟨gb484, 3, none⟩ = some (.string a0_3) ∧ w'.cell? ⟨gb485, 0, none⟩ = some (.string a1_0) ∧ w'.cell? ⟨gb485, 1, none⟩ = some (.int .i64 a1_1) ∧ w'.cell? ⟨gb485, 2, none⟩ = some (.int .i64 a1_2) ∧ w'.cell? ⟨gb485, 3, none⟩ = some (.string a1_3)) (ds := []) #[false, false, false, false, false, false, false, false, false, false, false, false, false, false, false, false, false, false, false, false, false, false] KR rfl rfl ⟨bc 0 BK484, bc 1 BK484, bc 2 BK484, bc 3 BK484, bc 0 BK485, bc 1 BK485, bc 2 BK485, bc 3 BK485⟩ (fun hHeld => ?_); refine with_tabW impl_compareRecords.tab1 impl_compareRecords.bits1 (fun HT_ HW_ => ?_)
 generalize w10.drew = w11 at BK484 BK485 HB hHeld ⊢
 refine pA 3 8 (mL 22 8) HT_ rfl rfl ?_
 refine pA 5 10 (mL 22 40) HT_ rfl rfl ?_
 refine pA 8 13 (mL 22 296) HT_ rfl rfl ?_
 refine pA 10 15 (mL 22 1320) HT_ rfl rfl ?_
 refine pA 14 19 (mL 22 17704) HT_ rfl rfl ?_
 refine pA 16 21 (mL 22 83240) HT_ rfl rfl ?_
 refine tA 0 5 (mL 22 83241) HT_ HW_ hHeld rfl rfl (by rintro w' ⟨s0, s1, s2, s3, s4, s5, s6, s7⟩; go_simp; with_reducible rfl) ?_
 refine tA 1 6 (mL 22 83243) HT_ HW_ hHeld rfl rfl (by rintro w' ⟨s0, s1, s2, s3, s4, s5, s6, s7⟩; go_simp; with_reducible rfl) ?_
 refine tA 4 9 (mL 22 83259) HT_ HW_ hHeld rfl rfl (by rintro w' ⟨s0, s1, s2, s3, s4, s5, s6, s7⟩; go_simp; with_reducible rfl) ?_
 refine tA 6 11 (mL 22 83323) HT_ HW_ hHeld rfl rfl (by rintro w' ⟨s0, s1, s2, s3, s4, s5, s6, s7⟩; go_simp; with_reducible rfl) ?_
 refine tA 9 14 (mL 22 83835) HT_ HW_ hHeld rfl rfl (by rintro w' ⟨s0, s1, s2, s3, s4, s5, s6, s7⟩; go_simp; with_reducible rfl) ?_
 refine tA 11 16 (mL 22 85883) HT_ HW_ hHeld rfl rfl (by rintro w' ⟨s0, s1, s2, s3, s4, s5, s6, s7⟩; go_simp; with_reducible rfl) ?_
 refine tA 15 20 (mL 22 118651) HT_ HW_ hHeld rfl rfl (by rintro w' ⟨s0, s1, s2, s3, s4, s5, s6, s7⟩; go_simp; with_reducible rfl) ?_
 refine tA 17 22 (mL 22 249723) HT_ HW_ hHeld rfl rfl (by rintro w' ⟨s0, s1, s2, s3, s4, s5, s6, s7⟩; go_simp; with_reducible rfl) ?_
 refine one_ (i := 2) (N := some 7) (mL 22 249727) rfl rfl (one_of HT_.out KR) (by decide) (fun K hK => ?_)
 refine goes_ Tryz.func215 KR rfl #[.agg #[.string a0_0, .int .i64 a0_1, .int .i64 a0_2, .string a0_3], .agg #[.string a1_0, .int .i64 a1_1, .int .i64 a1_2, .string a1_3]] (by rfl) rfl rfl TA ?_
 with_reducible refine (impl_compareKeys.calls k a0_0 a0_1 a0_2 a0_3 a1_0 a1_1 a1_2 a1_3 t486 _ A3.out).mono ?_
 rintro e w12 ⟨rfl, hb⟩
 refine ⟨_, rfl, ?_⟩
 replace BK484 := KB BK484 hb
 replace BK485 := KB BK485 hb
 replace HB := BS hb
 (try clear hb)
 (try clear hb2)
 (try clear hk)
 (try clear hi)
 refine hK.out _ _ ⟨bc 0 BK484, bc 1 BK484, bc 2 BK484, bc 3 BK484, bc 0 BK485, bc 1 BK485, bc 2 BK485, bc 3 BK485⟩ (fun hHeld => ?_)
 clear hK K
 refine nA ?_
 refine one_ (i := 7) (N := some 12) (mL 22 249855) rfl rfl (one_of HT_.out KR) (by decide) (fun K hK => ?_)
 refine goes_ Tryz.func217 KR rfl #[.int .i64 a0_1, .string a0_3] (by rfl) rfl rfl TA ?_
 with_reducible refine (impl_dataBytes.calls k a0_1 a0_3 t487 _ ?side1 A4.out).mono ?_
 (case side1 => exact GW HGL)
 rintro e w13 ⟨rfl, hb⟩
 refine ⟨_, rfl, ?_⟩
 replace BK484 := KB BK484 hb
 replace BK485 := KB BK485 hb
 replace HB := BS hb
 (try clear hb)
 (try clear hb2)
 (try clear hk)
 (try clear hi)
 refine hK.out _ _ ⟨bc 0 BK484, bc 1 BK484, bc 2 BK484, bc 3 BK484, bc 0 BK485, bc 1 BK485, bc 2 BK485, bc 3 BK485⟩ (fun hHeld => ?_)
 clear hK K
 refine nA ?_
 refine one_ (i := 12) (N := some 17) (mL 22 253951) rfl rfl (one_of HT_.out KR) (by decide) (fun K hK => ?_)
 refine goes_ Tryz.func217 KR rfl #[.int .i64 a1_1, .string a1_3] (by rfl) rfl rfl TA ?_
 with_reducible refine (impl_dataBytes.calls k a1_1 a1_3 t488 _ ?side1 A5.out).mono ?_
 (case side1 => exact GW HGL)
 rintro e w14 ⟨rfl, hb⟩
 refine ⟨_, rfl, ?_⟩
 replace BK484 := KB BK484 hb
 replace BK485 := KB BK485 hb
 replace HB := BS hb
 (try clear hb)
 (try clear hb2)
 (try clear hk)
 (try clear hi)
 refine hK.out _ _ ⟨bc 0 BK484, bc 1 BK484, bc 2 BK484, bc 3 BK484, bc 0 BK485, bc 1 BK485, bc 2 BK485, bc 3 BK485⟩ (fun hHeld => ?_)
 clear hK K
 refine nA ?_
 refine one_ (i := 13) (N := some 18) (mL 22 262143) rfl rfl (one_of HT_.out KR) (by decide) (fun K hK => ?_)
 refine goes_ Tryz.func216 KR rfl #[.string t487, .string t488] (by rfl) rfl rfl TA ?_
 with_reducible refine (strings_Compare.calls t487 t488 t489 _ A6.out).mono ?_
 rintro e w' ⟨rfl, ⟨nd, rfl⟩⟩
 refine ⟨_, rfl, ?_⟩
 refine hK.out _ _ ⟨bc 0 BK484, bc 1 BK484, bc 2 BK484, bc 3 BK484, bc 0 BK485, bc 1 BK485, bc 2 BK485, bc 3 BK485⟩ (fun hHeld => ?_)
 clear hK K
 refine nA ?_
 refine one_ (i := 18) (N := some 23) (mL 22 524287) rfl rfl (one_of HT_.out KR) (by decide) (fun K hK => ?_)
 refine goes_ Tryz.func218 KR rfl #[.int .i64 a0_2, .int .i64 a1_2] (by rfl) rfl rfl TA ?_
 with_reducible refine (cmp_Compare_int.calls a0_2 a1_2 t490 _ A7.out).mono ?_
 rintro e w' ⟨rfl, ⟨nd, rfl⟩⟩
 refine ⟨_, rfl, ?_⟩
 refine hK.out _ _ ⟨bc 0 BK484, bc 1 BK484, bc 2 BK484, bc 3 BK484, bc 0 BK485, bc 1 BK485, bc 2 BK485, bc 3 BK485⟩ (fun hHeld => ?_)
 clear hK K
 refine nA ?_
 refine one_ (i := 19) (N := some 24) (mL 22 1048575) rfl rfl (one_of HT_.out KR) (by decide) (fun K hK => ?_)
 refine Kd.R_lit_step (Kd.int .i64) _ 3 ?hg (N := 24) ?hd (xs := ([t486, t489, t490] : List Int)) (inner := [.int .i64 t486, .int .i64 t489, .int .i64 t490]) (ok := fun _ => True) (okp := fun _ => True) ?hr ?hp (fun _ hk => hk) trivial (Below.refl _ _) (Nat.le_refl _) (by simp) ?_; (case hd => rfl); (case hg => rfl); (case hr => first | (go_simp; done) | (go_simp; rfl)); (case hp => exact (Reps.one (show Kd.M (Kd.int .i64) _ _ _ t486 [.int .i64 t486] from rfl) (Reps.one (show Kd.M (Kd.int .i64) _ _ _ t489 [.int .i64 t489] from rfl) (Reps.one (show Kd.M (Kd.int .i64) _ _ _ t490 [.int .i64 t490] from rfl) (Reps.none _ _)))))
 intro v492 w15 ho16 hb hg_ hnew_
 clear hg_ hnew_
 (first | rw [← Ny491.out] at ho16 | (simp only [Int.reduceToNat] at ho16; rw [← Ny491.out] at ho16))
 have HO493 := RL ho16
 replace BK484 := KB BK484 hb
 replace BK485 := KB BK485 hb
 replace HB := BS hb
 clear hb ho16
 obtain ⟨Ao17, co17, eo17⟩ := Kd.R_slice HO493.out
 (first | subst eo17 | (injection eo17 with f1_ f2_ f3_; have f4_ := f1_.symm; have f5_ := f3_.symm; clear f1_ f2_ f3_; subst f4_; subst f5_))
 refine hK.out _ _ ⟨bc 0 BK484, bc 1 BK484, bc 2 BK484, bc 3 BK484, bc 0 BK485, bc 1 BK485, bc 2 BK485, bc 3 BK485⟩ (fun hHeld => ?_)
 clear hK K
 refine nA ?_
 refine one_ (i := 20) (N := some 25) (mL 22 2097151) rfl rfl (one_of HT_.out KR) (by decide) (fun K hK => ?_)
 refine goes_ Tryz.func214 KR rfl #[.slice Ao17 y491.length co17] (by rfl) rfl rfl TA ?_
 with_reducible refine (cmp_Or_int.calls k _ _ y491 t494 _ ?side1 ?side2 A8.out).mono ?_
 (case side1 => exact CW ((Kd.R_reads' HO493.out).2.2))
 (case side2 => exact (Kd.R_reads' HO493.out).2.1)
 rintro e w' ⟨rfl, ⟨nd, rfl⟩⟩
 refine ⟨_, rfl, ?_⟩
 refine hK.out _ _ ⟨bc 0 BK484, bc 1 BK484, bc 2 BK484, bc 3 BK484, bc 0 BK485, bc 1 BK485, bc 2 BK485, bc 3 BK485⟩ (fun hHeld => ?_)
 clear hK K
 refine nA ?_
 refine pA 21 4 (mL 22 4194303) HT_ rfl rfl ?_
 refine done_ (done_of HT_.out KR) ?_
 try go_wp2
 go_ret
 exact ⟨TE, TB⟩
end
section
/-! ### impl_areRising: function 176 -/
def impl_areRising.l0 : Nat → List (S_Record) → List (S_Record) → Int → Int → Option (Bool)
 | 0, _, _, _, _ => none
 | k + 1, x0, x5, x6, x7 => if x7 < x6 then (if 0 ≤ x7 then (if x7 < (x5.length : Int) then ((impl_GoodRecord.f k ((rd_TRecord x5 x7).f0) ((rd_TRecord x5 x7).f1) ((rd_TRecord x5 x7).f2) ((rd_TRecord x5 x7).f3)).bind fun t497 => (if t497 = true then (if x7 > 0 then (if 0 ≤ (wrap64 (x7 - 1)) then (if (wrap64 (x7 - 1)) < (x0.length : Int) then ((impl_compareRecords.f k ((rd_TRecord x0 (wrap64 (x7 - 1))).f0) ((rd_TRecord x0 (wrap64 (x7 - 1))).f1) ((rd_TRecord x0 (wrap64 (x7 - 1))).f2) ((rd_TRecord x0 (wrap64 (x7 - 1))).f3) ((rd_TRecord x5 x7).f0) ((rd_TRecord x5 x7).f1) ((rd_TRecord x5 x7).f2) ((rd_TRecord x5 x7).f3)).bind fun t499 => (if t499 ≥ 0 then (some false) else (impl_areRising.l0 k x0 x5 x6 (wrap64 (x7 + 1))))) else (none)) else (none)) else (impl_areRising.l0 k x0 x5 x6 (wrap64 (x7 + 1)))) else (some false))) else (none)) else (none)) else (some true)
def impl_areRising.f (k : Nat) (l0 : List (S_Record)) : Option (Bool) := impl_areRising.l0 k l0 l0 (l0.length : Int) 0
def impl_areRising.T4 : Bool × List (List Nat × List Nat) := (true, [([], []), ([0], [0]), ([1], [1]), ([2, 1], [2]), ([3], [3]), ([4, 3], [3, 4]), ([5, 3, 3], [3, 5]), ([6], [6]), ([6], [6]), ([8, 6], [6, 8]), ([7, 9, 6], [6, 7, 9]), ([10, 6], [6, 10]), ([6], [6]), ([11, 12, 6, 6], [6, 11, 12]), ([13, 6], [6, 13]), ([6, 14, 3], [3, 6, 14]), ([3, 15], [3, 15])])
def impl_areRising.B4 : List Nat := [0, 1, 3, 7, 15, 31, 63, 127, 127, 383, 1023, 2047, 127, 8191, 16383, 32767, 65535]
theorem impl_areRising.tab4 : rtab .any (opsOf Tryz.f176 4) = impl_areRising.T4 := by kernel_rfl
theorem impl_areRising.bits4 : waitsOk impl_areRising.T4.2 impl_areRising.B4 = true := by kernel_rfl
theorem impl_areRising.calls (k : Nat) (A0 : Option Addr) (c0 : Nat) (l0 : List (S_Record)) (r : Bool) (w : World) (hr0 : Kd.C k_Record w A0 l0.length l0) (hc0 : l0.length ≤ c0) (hG_ : Glob w) (h : impl_areRising.f k l0 = some r) :
  Calls Tryz.prog 176 #[.slice A0 l0.length c0] w fun e w' => e = .returned (.bool r) ∧ Below w.heap.size w w' := by
 have hu100 := Tryz.underlying100
 have HR0 := Aside0.mk hr0
 have HC0 := Aside0.mk hc0
 clear hr0 hc0
 have HGL := Aside0.mk hG_
 clear hG_
 have HB := Aside0.mk (Below.refl w.heap.size w)
 have H : (impl_areRising.l0 k l0 l0 (l0.length : Int) 0) = some r := h
 clear h
 have H' := Aside0.mk H
 clear H
 go_enter Tryz.func176, Tryz.ntmps176
 go_wp2
 go_loopg [7] k (fun kq v7 w' => ∃ (x7_1 : Int), v7 = .int .i64 x7_1 ∧ Aside0 (impl_areRising.l0 kq l0 l0 (l0.length : Int) x7_1 = some r) ∧ Aside0 (kq ≤ k) ∧ Aside0 (Below w.heap.size w w'))
 case atStart => exact ⟨(0), TF, H', ⟨Nat.le_refl _⟩, ⟨TB⟩⟩
 case round =>
  clear H'
  try clear c1
  obtain ⟨x7_1, rfl, HA, HK1, HB⟩ := hrel
  cases gk with
  | zero => exact absurd HA.out (by simp [impl_areRising.l0])
  | succ k1 =>
   have H := HA.out
   clear HA
   simp only [impl_areRising.l0] at H
   by_cases c2 : x7_1 < (l0.length : Int)
   ·rw [if_pos c2] at H
    have c2b0 : decide (x7_1 < (l0.length : Int)) = true := decide_eq_true c2
    clear c2
    obtain ⟨c3, H⟩ := ifn H
    have c3b0 : decide (0 ≤ x7_1) = true := decide_eq_true c3
    clear c3
    obtain ⟨c4, H⟩ := ifn H
    have c4b0 : decide (x7_1 < (l0.length : Int)) = true := decide_eq_true c4
    clear c4
    obtain ⟨t497, A5, H⟩ := bnd H
    by_cases c6 : t497 = true
    ·subst c6
     replace H := ift H
     by_cases c7 : x7_1 > 0
     ·rw [if_pos c7] at H
      have c7b0 : decide (0 < x7_1) = true := decide_eq_true c7
      clear c7
      obtain ⟨ji8, hji8⟩ : ∃ j_ : Int, (wrap64 (x7_1 - 1)) = j_ := ⟨_, rfl⟩
      replace H : (if 0 ≤ (ji8) then (if (ji8) < (l0.length : Int) then ((impl_compareRecords.f k1 ((rd_TRecord l0 (ji8)).f0) ((rd_TRecord l0 (ji8)).f1) ((rd_TRecord l0 (ji8)).f2) ((rd_TRecord l0 (ji8)).f3) ((rd_TRecord l0 x7_1).f0) ((rd_TRecord l0 x7_1).f1) ((rd_TRecord l0 x7_1).f2) ((rd_TRecord l0 x7_1).f3)).bind fun t499 => (if t499 ≥ 0 then (some false) else (impl_areRising.l0 k1 l0 l0 (l0.length : Int) (wrap64 (x7_1 + 1))))) else (none)) else (none)) = some r := by first | (rw [hji8] at H; exact H) | (simp only [hji8] at H ⊢; exact H)
      (try rw [hji8] at A5)
      have hji8w : (IntKind.i64.wrap (x7_1 - 1)) = ji8 := (i64_w _).trans hji8
      obtain ⟨c9, H⟩ := ifn H
      have c9b0 : decide (0 ≤ (ji8)) = true := decide_eq_true c9
      clear c9
      obtain ⟨c10, H⟩ := ifn H
      have c10b0 : decide ((ji8) < (l0.length : Int)) = true := decide_eq_true c10
      clear c10
      obtain ⟨t499, A11, H⟩ := bnd H
      by_cases c12 : t499 ≥ 0
      ·rw [if_pos c12] at H
       have c12b0 : decide (0 ≤ t499) = true := decide_eq_true c12
       clear c12
       obtain rfl := Option.some.inj H
       have p495 : 0 ≤ (x7_1 : Int) := TD
       have q495 : x7_1 < (l0.length : Int) := TD
       obtain ⟨ad495, e495, hx495_0, hx495_1, hx495_2, hx495_3⟩ := at_TRecord (Kd.C_below HR0.out HB.out) x7_1 p495 q495
       cases e495
       replace p495 := eq_true p495
       replace q495 := eq_true q495
       try go_wp2_with (first | ((with_reducible refine gate_dst (N := 4) rfl ?_); refine bE 4 #[.string (⟨#[]⟩ : ByteArray), .int .i64 0, .int .i64 0, .string (⟨#[]⟩ : ByteArray)] 100 ?_; intro gb496 hg w13 hbox hb; have BK496 := Aside0.mk (hbox); have GE496 := bG hg; replace HB := BS hb; clear hb hbox hg; have hcz14 := cz4 BK496))
       have n0_ : Aside0 (((((w13.setCell ⟨gb496, 0, none⟩ (.string ((rd_TRecord l0 x7_1).f0))).setCell ⟨gb496, 1, none⟩ (.int .i64 ((rd_TRecord l0 x7_1).f1))).setCell ⟨gb496, 2, none⟩ (.int .i64 ((rd_TRecord l0 x7_1).f2))).setCell ⟨gb496, 3, none⟩ (.string ((rd_TRecord l0 x7_1).f3))).heap[gb496]? = some (.cells #[.string ((rd_TRecord l0 x7_1).f0), .int .i64 ((rd_TRecord l0 x7_1).f1), .int .i64 ((rd_TRecord l0 x7_1).f2), .string ((rd_TRecord l0 x7_1).f3)] 100 (0, 0))) := ⟨TS⟩
       have n1_ : Aside0 (Below w.heap.size w ((((w13.setCell ⟨gb496, 0, none⟩ (.string ((rd_TRecord l0 x7_1).f0))).setCell ⟨gb496, 1, none⟩ (.int .i64 ((rd_TRecord l0 x7_1).f1))).setCell ⟨gb496, 2, none⟩ (.int .i64 ((rd_TRecord l0 x7_1).f2))).setCell ⟨gb496, 3, none⟩ (.string ((rd_TRecord l0 x7_1).f3)))) := ⟨TB⟩
       (try clear BK496)
       (try clear HB)
       generalize ((((w13.setCell ⟨gb496, 0, none⟩ (.string ((rd_TRecord l0 x7_1).f0))).setCell ⟨gb496, 1, none⟩ (.int .i64 ((rd_TRecord l0 x7_1).f1))).setCell ⟨gb496, 2, none⟩ (.int .i64 ((rd_TRecord l0 x7_1).f2))).setCell ⟨gb496, 3, none⟩ (.string ((rd_TRecord l0 x7_1).f3))) = w15 at n0_ n1_ ⊢
       have BK496 := n0_
       have HB := n1_
       clear n0_ n1_
       replace BK496 := Aside0.mk (blk_drew BK496.out)
       replace HB := Aside0.mk (below_drew1 HB.out)
       have p498 : 0 ≤ ((ji8) : Int) := TD
       have q498 : (ji8) < (l0.length : Int) := TD
       obtain ⟨ad498, e498, hx498_0, hx498_1, hx498_2, hx498_3⟩ := at_TRecord HR0.out (ji8) p498 q498
       have hw498_3 := hx498_3
       have hw498_2 := hx498_2
       have hw498_1 := hx498_1
       have hw498_0 := hx498_0
       obtain rfl : ad495 = ad498 := (by injection e498)
       replace hx498_0 := hBc HB hx498_0
       replace hx498_1 := hBc HB hx498_1
       replace hx498_2 := hBc HB hx498_2
       replace hx498_3 := hBc HB hx498_3
       replace p498 := eq_true p498
       replace q498 := eq_true q498
       refine start_ (n := 17) (S := fun w' => w'.cell? ⟨gb496, 0, none⟩ = some (.string ((rd_TRecord l0 x7_1).f0)) ∧ w'.cell? ⟨gb496, 1, none⟩ = some (.int .i64 ((rd_TRecord l0 x7_1).f1)) ∧ w'.cell? ⟨gb496, 2, none⟩ = some (.int .i64 ((rd_TRecord l0 x7_1).f2)) ∧ w'.cell? ⟨gb496, 3, none⟩ = some (.string ((rd_TRecord l0 x7_1).f3)) ∧ w'.cell? (ad495.add (((ji8)).toNat * 4)) = some (.string ((rd_TRecord l0 (ji8)).f0)) ∧ w'.cell? ⟨(ad495.add (((ji8)).toNat * 4)).block, (ad495.add (((ji8)).toNat * 4)).off + 1, none⟩ = some (.int .i64 ((rd_TRecord l0 (ji8)).f1)) ∧ w'.cell? ⟨(ad495.add (((ji8)).toNat * 4)).block, (ad495.add (((ji8)).toNat * 4)).off + 2, none⟩ = some (.int .i64 ((rd_TRecord l0 (ji8)).f2)) ∧ w'.cell? ⟨(ad495.add (((ji8)).toNat * 4)).block, (ad495.add (((ji8)).toNat * 4)).off + 3, none⟩ = some (.string ((rd_TRecord l0 (ji8)).f3))) (ds := []) #[false, false, false, false, false, false, false, false, false, false, false, false, false, false, false, false, false] KR rfl rfl ⟨bc 0 BK496, bc 1 BK496, bc 2 BK496, bc 3 BK496, ((HB.out.cell (World.block_lt_of_cell? w _ hw498_0)).trans hw498_0), ((HB.out.cell (World.block_lt_of_cell? w _ hw498_1)).trans hw498_1), ((HB.out.cell (World.block_lt_of_cell? w _ hw498_2)).trans hw498_2), ((HB.out.cell (World.block_lt_of_cell? w _ hw498_3)).trans hw498_3)⟩ (fun hHeld => ?_); refine with_tabW impl_areRising.tab4 impl_areRising.bits4 (fun HT_ HW_ => ?_)
       generalize w15.drew = w16 at BK496 HB hx498_0 hx498_1 hx498_2 hx498_3 hHeld ⊢
       refine tA 0 12 (mL 17 1) HT_ HW_ hHeld rfl rfl (by rintro w' ⟨s0, s1, s2, s3, s4, s5, s6, s7⟩; go_simp; with_reducible rfl) ?_
       refine one_ (i := 1) (N := some 13) (mL 17 3) rfl rfl (one_of HT_.out KR) (by decide) (fun K hK => ?_)
       refine goes_ Tryz.func82 KR rfl #[.agg #[.string ((rd_TRecord l0 x7_1).f0), .int .i64 ((rd_TRecord l0 x7_1).f1), .int .i64 ((rd_TRecord l0 x7_1).f2), .string ((rd_TRecord l0 x7_1).f3)]] (by rfl) rfl rfl TA ?_
       with_reducible refine (impl_GoodRecord.calls k1 ((rd_TRecord l0 x7_1).f0) ((rd_TRecord l0 x7_1).f1) ((rd_TRecord l0 x7_1).f2) ((rd_TRecord l0 x7_1).f3) true _ ?side1 A5.out).mono ?_
       (case side1 => exact GW HGL)
       rintro e w17 ⟨rfl, hb⟩
       refine ⟨_, rfl, ?_⟩
       replace BK496 := KB BK496 hb
       replace HB := BS hb
       (try clear hb)
       (try clear hb2)
       (try clear hk)
       (try clear hi)
       refine hK.out _ _ ⟨bc 0 BK496, bc 1 BK496, bc 2 BK496, bc 3 BK496, ((HB.out.cell (World.block_lt_of_cell? w _ hw498_0)).trans hw498_0), ((HB.out.cell (World.block_lt_of_cell? w _ hw498_1)).trans hw498_1), ((HB.out.cell (World.block_lt_of_cell? w _ hw498_2)).trans hw498_2), ((HB.out.cell (World.block_lt_of_cell? w _ hw498_3)).trans hw498_3)⟩ (fun hHeld => ?_)
       clear hK K
       refine nA ?_
       refine pA 2 14 (mL 17 7) HT_ rfl rfl ?_
       refine pA 3 15 (mL 17 15) HT_ rfl rfl ?_
       refine pA 4 16 (mL 17 31) HT_ rfl rfl ?_
       refine pA 5 17 (mL 17 63) HT_ rfl rfl ?_
       refine pA 6 18 (mL 17 127) HT_ rfl rfl ?_
       refine pA 7 19 (mL 17 255) HT_ rfl rfl ?_
       refine pA 8 20 (mL 17 511) HT_ rfl rfl ?_
       refine pA 9 21 (mL 17 1023) HT_ rfl rfl ?_
       refine pA 10 22 (mL 17 2047) HT_ rfl rfl ?_
       refine tA 11 23 (mL 17 4095) HT_ HW_ hHeld rfl rfl (by rintro w' ⟨s0, s1, s2, s3, s4, s5, s6, s7⟩; go_simp; with_reducible rfl) ?_
       refine tA 12 24 (mL 17 8191) HT_ HW_ hHeld rfl rfl (by rintro w' ⟨s0, s1, s2, s3, s4, s5, s6, s7⟩; go_simp; with_reducible rfl) ?_
       refine one_ (i := 13) (N := some 25) (mL 17 16383) rfl rfl (one_of HT_.out KR) (by decide) (fun K hK => ?_)
       refine goes_ Tryz.func199 KR rfl #[.agg #[.string ((rd_TRecord l0 (ji8)).f0), .int .i64 ((rd_TRecord l0 (ji8)).f1), .int .i64 ((rd_TRecord l0 (ji8)).f2), .string ((rd_TRecord l0 (ji8)).f3)], .agg #[.string ((rd_TRecord l0 x7_1).f0), .int .i64 ((rd_TRecord l0 x7_1).f1), .int .i64 ((rd_TRecord l0 x7_1).f2), .string ((rd_TRecord l0 x7_1).f3)]] (by rfl) rfl rfl (by (try simp only [List.map_toArray, List.map_cons, List.map_nil]); first | done | (simp only [hji8]; rfl) | rfl | (simp only [List.length_drop, List.length_take]; rfl)) ?_
       with_reducible refine (impl_compareRecords.calls k1 ((rd_TRecord l0 (ji8)).f0) ((rd_TRecord l0 (ji8)).f1) ((rd_TRecord l0 (ji8)).f2) ((rd_TRecord l0 (ji8)).f3) ((rd_TRecord l0 x7_1).f0) ((rd_TRecord l0 x7_1).f1) ((rd_TRecord l0 x7_1).f2) ((rd_TRecord l0 x7_1).f3) t499 _ ?side1 A11.out).mono ?_
       (case side1 => exact GW HGL)
       rintro e w18 ⟨rfl, hb⟩
       refine ⟨_, rfl, ?_⟩
       replace BK496 := KB BK496 hb
       replace HB := BS hb
       (try clear hb)
       (try clear hb2)
       (try clear hk)
       (try clear hi)
       refine hK.out _ _ ⟨bc 0 BK496, bc 1 BK496, bc 2 BK496, bc 3 BK496, ((HB.out.cell (World.block_lt_of_cell? w _ hw498_0)).trans hw498_0), ((HB.out.cell (World.block_lt_of_cell? w _ hw498_1)).trans hw498_1), ((HB.out.cell (World.block_lt_of_cell? w _ hw498_2)).trans hw498_2), ((HB.out.cell (World.block_lt_of_cell? w _ hw498_3)).trans hw498_3)⟩ (fun hHeld => ?_)
       clear hK K
       refine nA ?_
       refine pA 14 26 (mL 17 32767) HT_ rfl rfl ?_
       refine pA 15 27 (mL 17 65535) HT_ rfl rfl ?_
       refine pA 16 28 (mL 17 131071) HT_ rfl rfl ?_
       refine done_ (done_of HT_.out KR) ?_
       try go_wp2
       go_ret
       exact ⟨by first | rfl | (simp [errW_none, errW_some] <;> rfl) | (simp only [← hji8]; first | rfl | (simp [errW_none, errW_some] <;> rfl)) | (simp [*, errW_none, errW_some] <;> rfl), TB⟩
      ·rw [if_neg c12] at H
       have c12b0 : decide (0 ≤ t499) = false := decide_eq_false c12
       clear c12
       have H' := Aside0.mk H
       clear H
       have p495 : 0 ≤ (x7_1 : Int) := TD
       have q495 : x7_1 < (l0.length : Int) := TD
       obtain ⟨ad495, e495, hx495_0, hx495_1, hx495_2, hx495_3⟩ := at_TRecord (Kd.C_below HR0.out HB.out) x7_1 p495 q495
       cases e495
       replace p495 := eq_true p495
       replace q495 := eq_true q495
       try go_wp2_with (first | ((with_reducible refine gate_dst (N := 4) rfl ?_); refine bE 4 #[.string (⟨#[]⟩ : ByteArray), .int .i64 0, .int .i64 0, .string (⟨#[]⟩ : ByteArray)] 100 ?_; intro gb496 hg w19 hbox hb; have BK496 := Aside0.mk (hbox); have GE496 := bG hg; replace HB := BS hb; clear hb hbox hg; have hcz20 := cz4 BK496))
       have n0_ : Aside0 (((((w19.setCell ⟨gb496, 0, none⟩ (.string ((rd_TRecord l0 x7_1).f0))).setCell ⟨gb496, 1, none⟩ (.int .i64 ((rd_TRecord l0 x7_1).f1))).setCell ⟨gb496, 2, none⟩ (.int .i64 ((rd_TRecord l0 x7_1).f2))).setCell ⟨gb496, 3, none⟩ (.string ((rd_TRecord l0 x7_1).f3))).heap[gb496]? = some (.cells #[.string ((rd_TRecord l0 x7_1).f0), .int .i64 ((rd_TRecord l0 x7_1).f1), .int .i64 ((rd_TRecord l0 x7_1).f2), .string ((rd_TRecord l0 x7_1).f3)] 100 (0, 0))) := ⟨TS⟩
       have n1_ : Aside0 (Below w.heap.size w ((((w19.setCell ⟨gb496, 0, none⟩ (.string ((rd_TRecord l0 x7_1).f0))).setCell ⟨gb496, 1, none⟩ (.int .i64 ((rd_TRecord l0 x7_1).f1))).setCell ⟨gb496, 2, none⟩ (.int .i64 ((rd_TRecord l0 x7_1).f2))).setCell ⟨gb496, 3, none⟩ (.string ((rd_TRecord l0 x7_1).f3)))) := ⟨TB⟩
       (try clear BK496)
       (try clear HB)
       generalize ((((w19.setCell ⟨gb496, 0, none⟩ (.string ((rd_TRecord l0 x7_1).f0))).setCell ⟨gb496, 1, none⟩ (.int .i64 ((rd_TRecord l0 x7_1).f1))).setCell ⟨gb496, 2, none⟩ (.int .i64 ((rd_TRecord l0 x7_1).f2))).setCell ⟨gb496, 3, none⟩ (.string ((rd_TRecord l0 x7_1).f3))) = w21 at n0_ n1_ ⊢
       have BK496 := n0_
       have HB := n1_
       clear n0_ n1_
       replace BK496 := Aside0.mk (blk_drew BK496.out)
       replace HB := Aside0.mk (below_drew1 HB.out)
       have p498 : 0 ≤ ((ji8) : Int) := TD
       have q498 : (ji8) < (l0.length : Int) := TD
       obtain ⟨ad498, e498, hx498_0, hx498_1, hx498_2, hx498_3⟩ := at_TRecord HR0.out (ji8) p498 q498
       have hw498_3 := hx498_3
       have hw498_2 := hx498_2
       have hw498_1 := hx498_1
       have hw498_0 := hx498_0
       obtain rfl : ad495 = ad498 := (by injection e498)
       replace hx498_0 := hBc HB hx498_0
       replace hx498_1 := hBc HB hx498_1
       replace hx498_2 := hBc HB hx498_2
       replace hx498_3 := hBc HB hx498_3
       replace p498 := eq_true p498
       replace q498 := eq_true q498
       refine start_ (n := 17) (S := fun w' => w'.cell? ⟨gb496, 0, none⟩ = some (.string ((rd_TRecord l0 x7_1).f0)) ∧ w'.cell? ⟨gb496, 1, none⟩ = some (.int .i64 ((rd_TRecord l0 x7_1).f1)) ∧ w'.cell? ⟨gb496, 2, none⟩ = some (.int .i64 ((rd_TRecord l0 x7_1).f2)) ∧ w'.cell? ⟨gb496, 3, none⟩ = some (.string ((rd_TRecord l0 x7_1).f3)) ∧ w'.cell? (ad495.add (((ji8)).toNat * 4)) = some (.string ((rd_TRecord l0 (ji8)).f0)) ∧ w'.cell? ⟨(ad495.add (((ji8)).toNat * 4)).block, (ad495.add (((ji8)).toNat * 4)).off + 1, none⟩ = some (.int .i64 ((rd_TRecord l0 (ji8)).f1)) ∧ w'.cell? ⟨(ad495.add (((ji8)).toNat * 4)).block, (ad495.add (((ji8)).toNat * 4)).off + 2, none⟩ = some (.int .i64 ((rd_TRecord l0 (ji8)).f2)) ∧ w'.cell? ⟨(ad495.add (((ji8)).toNat * 4)).block, (ad495.add (((ji8)).toNat * 4)).off + 3, none⟩ = some (.string ((rd_TRecord l0 (ji8)).f3))) (ds := []) #[false, false, false, false, false, false, false, false, false, false, false, false, false, false, false, false, false] KR rfl rfl ⟨bc 0 BK496, bc 1 BK496, bc 2 BK496, bc 3 BK496, ((HB.out.cell (World.block_lt_of_cell? w _ hw498_0)).trans hw498_0), ((HB.out.cell (World.block_lt_of_cell? w _ hw498_1)).trans hw498_1), ((HB.out.cell (World.block_lt_of_cell? w _ hw498_2)).trans hw498_2), ((HB.out.cell (World.block_lt_of_cell? w _ hw498_3)).trans hw498_3)⟩ (fun hHeld => ?_); refine with_tabW impl_areRising.tab4 impl_areRising.bits4 (fun HT_ HW_ => ?_)
       generalize w21.drew = w22 at BK496 HB hx498_0 hx498_1 hx498_2 hx498_3 hHeld ⊢
       refine tA 0 12 (mL 17 1) HT_ HW_ hHeld rfl rfl (by rintro w' ⟨s0, s1, s2, s3, s4, s5, s6, s7⟩; go_simp; with_reducible rfl) ?_
       refine one_ (i := 1) (N := some 13) (mL 17 3) rfl rfl (one_of HT_.out KR) (by decide) (fun K hK => ?_)
       refine goes_ Tryz.func82 KR rfl #[.agg #[.string ((rd_TRecord l0 x7_1).f0), .int .i64 ((rd_TRecord l0 x7_1).f1), .int .i64 ((rd_TRecord l0 x7_1).f2), .string ((rd_TRecord l0 x7_1).f3)]] (by rfl) rfl rfl TA ?_
       with_reducible refine (impl_GoodRecord.calls k1 ((rd_TRecord l0 x7_1).f0) ((rd_TRecord l0 x7_1).f1) ((rd_TRecord l0 x7_1).f2) ((rd_TRecord l0 x7_1).f3) true _ ?side1 A5.out).mono ?_
       (case side1 => exact GW HGL)
       rintro e w23 ⟨rfl, hb⟩
       refine ⟨_, rfl, ?_⟩
       replace BK496 := KB BK496 hb
       replace HB := BS hb
       (try clear hb)
       (try clear hb2)
       (try clear hk)
       (try clear hi)
       refine hK.out _ _ ⟨bc 0 BK496, bc 1 BK496, bc 2 BK496, bc 3 BK496, ((HB.out.cell (World.block_lt_of_cell? w _ hw498_0)).trans hw498_0), ((HB.out.cell (World.block_lt_of_cell? w _ hw498_1)).trans hw498_1), ((HB.out.cell (World.block_lt_of_cell? w _ hw498_2)).trans hw498_2), ((HB.out.cell (World.block_lt_of_cell? w _ hw498_3)).trans hw498_3)⟩ (fun hHeld => ?_)
       clear hK K
       refine nA ?_
       refine pA 2 14 (mL 17 7) HT_ rfl rfl ?_
       refine pA 3 15 (mL 17 15) HT_ rfl rfl ?_
       refine pA 4 16 (mL 17 31) HT_ rfl rfl ?_
       refine pA 5 17 (mL 17 63) HT_ rfl rfl ?_
       refine pA 6 18 (mL 17 127) HT_ rfl rfl ?_
       refine pA 7 19 (mL 17 255) HT_ rfl rfl ?_
       refine pA 8 20 (mL 17 511) HT_ rfl rfl ?_
       refine pA 9 21 (mL 17 1023) HT_ rfl rfl ?_
       refine pA 10 22 (mL 17 2047) HT_ rfl rfl ?_
       refine tA 11 23 (mL 17 4095) HT_ HW_ hHeld rfl rfl (by rintro w' ⟨s0, s1, s2, s3, s4, s5, s6, s7⟩; go_simp; with_reducible rfl) ?_
       refine tA 12 24 (mL 17 8191) HT_ HW_ hHeld rfl rfl (by rintro w' ⟨s0, s1, s2, s3, s4, s5, s6, s7⟩; go_simp; with_reducible rfl) ?_
       refine one_ (i := 13) (N := some 25) (mL 17 16383) rfl rfl (one_of HT_.out KR) (by decide) (fun K hK => ?_)
       refine goes_ Tryz.func199 KR rfl #[.agg #[.string ((rd_TRecord l0 (ji8)).f0), .int .i64 ((rd_TRecord l0 (ji8)).f1), .int .i64 ((rd_TRecord l0 (ji8)).f2), .string ((rd_TRecord l0 (ji8)).f3)], .agg #[.string ((rd_TRecord l0 x7_1).f0), .int .i64 ((rd_TRecord l0 x7_1).f1), .int .i64 ((rd_TRecord l0 x7_1).f2), .string ((rd_TRecord l0 x7_1).f3)]] (by rfl) rfl rfl (by (try simp only [List.map_toArray, List.map_cons, List.map_nil]); first | done | (simp only [hji8]; rfl) | rfl | (simp only [List.length_drop, List.length_take]; rfl)) ?_
       with_reducible refine (impl_compareRecords.calls k1 ((rd_TRecord l0 (ji8)).f0) ((rd_TRecord l0 (ji8)).f1) ((rd_TRecord l0 (ji8)).f2) ((rd_TRecord l0 (ji8)).f3) ((rd_TRecord l0 x7_1).f0) ((rd_TRecord l0 x7_1).f1) ((rd_TRecord l0 x7_1).f2) ((rd_TRecord l0 x7_1).f3) t499 _ ?side1 A11.out).mono ?_
       (case side1 => exact GW HGL)
       rintro e w24 ⟨rfl, hb⟩
       refine ⟨_, rfl, ?_⟩
       replace BK496 := KB BK496 hb
       replace HB := BS hb
       (try clear hb)
       (try clear hb2)
       (try clear hk)
       (try clear hi)
       refine hK.out _ _ ⟨bc 0 BK496, bc 1 BK496, bc 2 BK496, bc 3 BK496, ((HB.out.cell (World.block_lt_of_cell? w _ hw498_0)).trans hw498_0), ((HB.out.cell (World.block_lt_of_cell? w _ hw498_1)).trans hw498_1), ((HB.out.cell (World.block_lt_of_cell? w _ hw498_2)).trans hw498_2), ((HB.out.cell (World.block_lt_of_cell? w _ hw498_3)).trans hw498_3)⟩ (fun hHeld => ?_)
       clear hK K
       refine nA ?_
       refine pA 14 26 (mL 17 32767) HT_ rfl rfl ?_
       refine pA 15 27 (mL 17 65535) HT_ rfl rfl ?_
       refine pA 16 28 (mL 17 131071) HT_ rfl rfl ?_
       refine done_ (done_of HT_.out KR) ?_
       try go_wp2
       go_roundg k1
       case measure => have := HK1.out; omega
       case rel => exact ⟨(wrap64 (x7_1 + 1)), TF, H', ⟨TM⟩, ⟨TB⟩⟩
     ·rw [if_neg c7] at H
      have c7b0 : decide (0 < x7_1) = false := decide_eq_false c7
      clear c7
      have H' := Aside0.mk H
      clear H
      have p495 : 0 ≤ (x7_1 : Int) := TD
      have q495 : x7_1 < (l0.length : Int) := TD
      obtain ⟨ad495, e495, hx495_0, hx495_1, hx495_2, hx495_3⟩ := at_TRecord (Kd.C_below HR0.out HB.out) x7_1 p495 q495
      cases e495
      replace p495 := eq_true p495
      replace q495 := eq_true q495
      try go_wp2_with (first | ((with_reducible refine gate_dst (N := 4) rfl ?_); refine bE 4 #[.string (⟨#[]⟩ : ByteArray), .int .i64 0, .int .i64 0, .string (⟨#[]⟩ : ByteArray)] 100 ?_; intro gb496 hg w25 hbox hb; have BK496 := Aside0.mk (hbox); have GE496 := bG hg; replace HB := BS hb; clear hb hbox hg; have hcz26 := cz4 BK496))
      have n0_ : Aside0 (((((w25.setCell ⟨gb496, 0, none⟩ (.string ((rd_TRecord l0 x7_1).f0))).setCell ⟨gb496, 1, none⟩ (.int .i64 ((rd_TRecord l0 x7_1).f1))).setCell ⟨gb496, 2, none⟩ (.int .i64 ((rd_TRecord l0 x7_1).f2))).setCell ⟨gb496, 3, none⟩ (.string ((rd_TRecord l0 x7_1).f3))).heap[gb496]? = some (.cells #[.string ((rd_TRecord l0 x7_1).f0), .int .i64 ((rd_TRecord l0 x7_1).f1), .int .i64 ((rd_TRecord l0 x7_1).f2), .string ((rd_TRecord l0 x7_1).f3)] 100 (0, 0))) := ⟨TS⟩
      have n1_ : Aside0 (Below w.heap.size w ((((w25.setCell ⟨gb496, 0, none⟩ (.string ((rd_TRecord l0 x7_1).f0))).setCell ⟨gb496, 1, none⟩ (.int .i64 ((rd_TRecord l0 x7_1).f1))).setCell ⟨gb496, 2, none⟩ (.int .i64 ((rd_TRecord l0 x7_1).f2))).setCell ⟨gb496, 3, none⟩ (.string ((rd_TRecord l0 x7_1).f3)))) := ⟨TB⟩
      (try clear BK496)
      (try clear HB)
      generalize ((((w25.setCell ⟨gb496, 0, none⟩ (.string ((rd_TRecord l0 x7_1).f0))).setCell ⟨gb496, 1, none⟩ (.int .i64 ((rd_TRecord l0 x7_1).f1))).setCell ⟨gb496, 2, none⟩ (.int .i64 ((rd_TRecord l0 x7_1).f2))).setCell ⟨gb496, 3, none⟩ (.string ((rd_TRecord l0 x7_1).f3))) = w27 at n0_ n1_ ⊢
      have BK496 := n0_
      have HB := n1_
      clear n0_ n1_
      replace BK496 := Aside0.mk (blk_drew BK496.out)
      replace HB := Aside0.mk (below_drew1 HB.out)
      refine start_ (n := 17) (S := fun w' => w'.cell? ⟨gb496, 0, none⟩ = some (.string ((rd_TRecord l0 x7_1).f0)) ∧ w'.cell? ⟨gb496, 1, none⟩ = some (.int .i64 ((rd_TRecord l0 x7_1).f1)) ∧ w'.cell? ⟨gb496, 2, none⟩ = some (.int .i64 ((rd_TRecord l0 x7_1).f2)) ∧ w'.cell? ⟨gb496, 3, none⟩ = some (.string ((rd_TRecord l0 x7_1).f3))) (ds := []) #[false, false, false, false, false, false, false, false, false, false, false, false, false, false, false, false, false] KR rfl rfl ⟨bc 0 BK496, bc 1 BK496, bc 2 BK496, bc 3 BK496⟩ (fun hHeld => ?_); refine with_tabW impl_areRising.tab4 impl_areRising.bits4 (fun HT_ HW_ => ?_)
      generalize w27.drew = w28 at BK496 HB hHeld ⊢
      refine tA 0 12 (mL 17 1) HT_ HW_ hHeld rfl rfl (by rintro w' ⟨s0, s1, s2, s3⟩; go_simp; with_reducible rfl) ?_
      refine one_ (i := 1) (N := some 13) (mL 17 3) rfl rfl (one_of HT_.out KR) (by decide) (fun K hK => ?_)
      refine goes_ Tryz.func82 KR rfl #[.agg #[.string ((rd_TRecord l0 x7_1).f0), .int .i64 ((rd_TRecord l0 x7_1).f1), .int .i64 ((rd_TRecord l0 x7_1).f2), .string ((rd_TRecord l0 x7_1).f3)]] (by rfl) rfl rfl TA ?_
      with_reducible refine (impl_GoodRecord.calls k1 ((rd_TRecord l0 x7_1).f0) ((rd_TRecord l0 x7_1).f1) ((rd_TRecord l0 x7_1).f2) ((rd_TRecord l0 x7_1).f3) true _ ?side1 A5.out).mono ?_
      (case side1 => exact GW HGL)
      rintro e w29 ⟨rfl, hb⟩
      refine ⟨_, rfl, ?_⟩
      replace BK496 := KB BK496 hb
      replace HB := BS hb
      (try clear hb)
      (try clear hb2)
      (try clear hk)
      (try clear hi)
      refine hK.out _ _ ⟨bc 0 BK496, bc 1 BK496, bc 2 BK496, bc 3 BK496⟩ (fun hHeld => ?_)
      clear hK K
      refine nA ?_
      refine pA 2 14 (mL 17 7) HT_ rfl rfl ?_
      refine pA 3 15 (mL 17 15) HT_ rfl rfl ?_
      refine pA 4 16 (mL 17 31) HT_ rfl rfl ?_
      refine pA 5 17 (mL 17 63) HT_ rfl rfl ?_
      refine pA 6 18 (mL 17 127) HT_ rfl rfl ?_
      refine pU 7 19 (mL 17 255) HT_ rfl rfl ?_
      refine pU 8 20 (mL 17 511) HT_ rfl rfl ?_
      refine pU 9 21 (mL 17 1023) HT_ rfl rfl ?_
      refine pU 10 22 (mL 17 2047) HT_ rfl rfl ?_
      refine pU 11 23 (mL 17 4095) HT_ rfl rfl ?_
      refine pU 12 24 (mL 17 8191) HT_ rfl rfl ?_
      refine pU 13 25 (mL 17 16383) HT_ rfl rfl ?_
      refine pU 14 26 (mL 17 32767) HT_ rfl rfl ?_
      refine pA 15 27 (mL 17 65535) HT_ rfl rfl ?_
      refine pA 16 28 (mL 17 131071) HT_ rfl rfl ?_
      refine done_ (done_of HT_.out KR) ?_
      try go_wp2
      go_roundg k1
      case measure => have := HK1.out; omega
      case rel => exact ⟨(wrap64 (x7_1 + 1)), TF, H', ⟨TM⟩, ⟨TB⟩⟩
    ·replace c6 := Bool.eq_false_iff.mpr c6
     subst c6
     replace H := iff' H
     obtain rfl := Option.some.inj H
     have p495 : 0 ≤ (x7_1 : Int) := TD
     have q495 : x7_1 < (l0.length : Int) := TD
     obtain ⟨ad495, e495, hx495_0, hx495_1, hx495_2, hx495_3⟩ := at_TRecord (Kd.C_below HR0.out HB.out) x7_1 p495 q495
     cases e495
     replace p495 := eq_true p495
     replace q495 := eq_true q495
     try go_wp2_with (first | ((with_reducible refine gate_dst (N := 4) rfl ?_); refine bE 4 #[.string (⟨#[]⟩ : ByteArray), .int .i64 0, .int .i64 0, .string (⟨#[]⟩ : ByteArray)] 100 ?_; intro gb496 hg w30 hbox hb; have BK496 := Aside0.mk (hbox); have GE496 := bG hg; replace HB := BS hb; clear hb hbox hg; have hcz31 := cz4 BK496))
     have n0_ : Aside0 (((((w30.setCell ⟨gb496, 0, none⟩ (.string ((rd_TRecord l0 x7_1).f0))).setCell ⟨gb496, 1, none⟩ (.int .i64 ((rd_TRecord l0 x7_1).f1))).setCell ⟨gb496, 2, none⟩ (.int .i64 ((rd_TRecord l0 x7_1).f2))).setCell ⟨gb496, 3, none⟩ (.string ((rd_TRecord l0 x7_1).f3))).heap[gb496]? = some (.cells #[.string ((rd_TRecord l0 x7_1).f0), .int .i64 ((rd_TRecord l0 x7_1).f1), .int .i64 ((rd_TRecord l0 x7_1).f2), .string ((rd_TRecord l0 x7_1).f3)] 100 (0, 0))) := ⟨TS⟩
     have n1_ : Aside0 (Below w.heap.size w ((((w30.setCell ⟨gb496, 0, none⟩ (.string ((rd_TRecord l0 x7_1).f0))).setCell ⟨gb496, 1, none⟩ (.int .i64 ((rd_TRecord l0 x7_1).f1))).setCell ⟨gb496, 2, none⟩ (.int .i64 ((rd_TRecord l0 x7_1).f2))).setCell ⟨gb496, 3, none⟩ (.string ((rd_TRecord l0 x7_1).f3)))) := ⟨TB⟩
     (try clear BK496)
     (try clear HB)
     generalize ((((w30.setCell ⟨gb496, 0, none⟩ (.string ((rd_TRecord l0 x7_1).f0))).setCell ⟨gb496, 1, none⟩ (.int .i64 ((rd_TRecord l0 x7_1).f1))).setCell ⟨gb496, 2, none⟩ (.int .i64 ((rd_TRecord l0 x7_1).f2))).setCell ⟨gb496, 3, none⟩ (.string ((rd_TRecord l0 x7_1).f3))) = w32 at n0_ n1_ ⊢
     have BK496 := n0_
     have HB := n1_
     clear n0_ n1_
     replace BK496 := Aside0.mk (blk_drew BK496.out)
     replace HB := Aside0.mk (below_drew1 HB.out)
     refine start_ (n := 17) (S := fun w' => w'.cell? ⟨gb496, 0, none⟩ = some (.string ((rd_TRecord l0 x7_1).f0)) ∧ w'.cell? ⟨gb496, 1, none⟩ = some (.int .i64 ((rd_TRecord l0 x7_1).f1)) ∧ w'.cell? ⟨gb496, 2, none⟩ = some (.int .i64 ((rd_TRecord l0 x7_1).f2)) ∧ w'.cell? ⟨gb496, 3, none⟩ = some (.string ((rd_TRecord l0 x7_1).f3))) (ds := []) #[false, false, false, false, false, false, false, false, false, false, false, false, false, false, false, false, false] KR rfl rfl ⟨bc 0 BK496, bc 1 BK496, bc 2 BK496, bc 3 BK496⟩ (fun hHeld => ?_); refine with_tabW impl_areRising.tab4 impl_areRising.bits4 (fun HT_ HW_ => ?_)
     generalize w32.drew = w33 at BK496 HB hHeld ⊢
     refine tA 0 12 (mL 17 1) HT_ HW_ hHeld rfl rfl (by rintro w' ⟨s0, s1, s2, s3⟩; go_simp; with_reducible rfl) ?_
     refine one_ (i := 1) (N := some 13) (mL 17 3) rfl rfl (one_of HT_.out KR) (by decide) (fun K hK => ?_)
     refine goes_ Tryz.func82 KR rfl #[.agg #[.string ((rd_TRecord l0 x7_1).f0), .int .i64 ((rd_TRecord l0 x7_1).f1), .int .i64 ((rd_TRecord l0 x7_1).f2), .string ((rd_TRecord l0 x7_1).f3)]] (by rfl) rfl rfl TA ?_
     with_reducible refine (impl_GoodRecord.calls k1 ((rd_TRecord l0 x7_1).f0) ((rd_TRecord l0 x7_1).f1) ((rd_TRecord l0 x7_1).f2) ((rd_TRecord l0 x7_1).f3) false _ ?side1 A5.out).mono ?_
     (case side1 => exact GW HGL)
     rintro e w34 ⟨rfl, hb⟩
     refine ⟨_, rfl, ?_⟩
     replace BK496 := KB BK496 hb
     replace HB := BS hb
     (try clear hb)
     (try clear hb2)
     (try clear hk)
     (try clear hi)
     refine hK.out _ _ ⟨bc 0 BK496, bc 1 BK496, bc 2 BK496, bc 3 BK496⟩ (fun hHeld => ?_)
     clear hK K
     refine nA ?_
     refine pA 2 14 (mL 17 7) HT_ rfl rfl ?_
     refine pA 3 15 (mL 17 15) HT_ rfl rfl ?_
     refine pU 4 16 (mL 17 31) HT_ rfl rfl ?_
     refine pU 5 17 (mL 17 63) HT_ rfl rfl ?_
     refine pU 6 18 (mL 17 127) HT_ rfl rfl ?_
     refine pU 7 19 (mL 17 255) HT_ rfl rfl ?_
     refine pU 8 20 (mL 17 511) HT_ rfl rfl ?_
     refine pU 9 21 (mL 17 1023) HT_ rfl rfl ?_
     refine pU 10 22 (mL 17 2047) HT_ rfl rfl ?_
     refine pU 11 23 (mL 17 4095) HT_ rfl rfl ?_
     refine pU 12 24 (mL 17 8191) HT_ rfl rfl ?_
     refine pU 13 25 (mL 17 16383) HT_ rfl rfl ?_
     refine pU 14 26 (mL 17 32767) HT_ rfl rfl ?_
     refine pU 15 27 (mL 17 65535) HT_ rfl rfl ?_
     refine pA 16 28 (mL 17 131071) HT_ rfl rfl ?_
     refine done_ (done_of HT_.out KR) ?_
     try go_wp2
     go_ret
     exact ⟨TE, TB⟩
   ·rw [if_neg c2] at H
    have c2b0 : decide (x7_1 < (l0.length : Int)) = false := decide_eq_false c2
    clear c2
    obtain rfl := Option.some.inj H
    go_wp2
    go_ret
    exact ⟨TE, TB⟩
end
section
/-! ### impl_isWhole: function 151 -/
def impl_isWhole.f (k : Nat) (a0 : ByteArray) (l1 : List (S_Record)) : Option (Bool) := (impl_isApex.f k a0).bind fun t500 => (if t500 = true then (if (l1.length : Int) ≤ 40 then ((impl_areRising.f k l1).bind fun t501 => (some t501)) else (some false)) else (some false))
theorem impl_isWhole.calls (k : Nat) (a0 : ByteArray) (A1 : Option Addr) (c1 : Nat) (l1 : List (S_Record)) (r : Bool) (w : World) (hr1 : Kd.C k_Record w A1 l1.length l1) (hc1 : l1.length ≤ c1) (hG_ : Glob w) (h : impl_isWhole.f k a0 l1 = some r) :
  Calls Tryz.prog 151 #[.string a0, .slice A1 l1.length c1] w fun e w' => e = .returned (.bool r) ∧ Below w.heap.size w w' := by
 have HR1 := Aside0.mk hr1
 have HC1 := Aside0.mk hc1
 clear hr1 hc1
 have HGL := Aside0.mk hG_
 clear hG_
 have HB := Aside0.mk (Below.refl w.heap.size w)
 have H : ((impl_isApex.f k a0).bind fun t500 => (if t500 = true then (if (l1.length : Int) ≤ 40 then ((impl_areRising.f k l1).bind fun t501 => (some t501)) else (some false)) else (some false))) = some r := h
 clear h
 obtain ⟨t500, A3, H⟩ := bnd H
 by_cases c4 : t500 = true
 ·subst c4
  replace H := ift H
  by_cases c5 : (l1.length : Int) ≤ 40
  ·rw [if_pos c5] at H
   have c5b0 : decide ((l1.length : Int) ≤ 40) = true := decide_eq_true c5
   have c5b1 : decide (l1.length ≤ 40) = true := decide_eq_true (by omega)
   clear c5
   obtain ⟨t501, A6, H⟩ := bnd H
   obtain rfl := Option.some.inj H
   go_enter Tryz.func151, Tryz.ntmps151
   go_wp2_with (first | ((with_reducible refine gate_callee (f := 175) rfl ?_); refine goesL_ (some 6) rfl rfl Tryz.func175 KR rfl #[.string a0] rfl TA ?_; (with_reducible refine (impl_isApex.calls k a0 true _ A3.out).mono ?_); rintro e w7 ⟨rfl, hb⟩; refine ⟨_, rfl, ?_⟩; replace HB := BS hb; (try clear hb); (try clear hb2); (try clear hk); (try clear hi)) | (go_at_call 176; (with_reducible refine (impl_areRising.calls k _ _ l1 t501 _ ?side1 ?side2 ?side3 A6.out).mono ?_); (case side1 => exact CW ((Kd.C_below HR1.out HB.out))); (case side2 => exact HC1.out); (case side3 => exact GW HGL); rintro e w8 ⟨rfl, hb⟩; replace HB := BS hb; (try clear hb); (try clear hb2); (try clear hk); (try clear hi)))
   go_ret
   exact ⟨TE, TB⟩
  ·rw [if_neg c5] at H
   have c5b0 : decide ((l1.length : Int) ≤ 40) = false := decide_eq_false c5
   have c5b1 : decide (l1.length ≤ 40) = false := decide_eq_false (by omega)
   clear c5
   obtain rfl := Option.some.inj H
   go_enter Tryz.func151, Tryz.ntmps151
   go_wp2_with (first | ((with_reducible refine gate_callee (f := 175) rfl ?_); refine goesL_ (some 6) rfl rfl Tryz.func175 KR rfl #[.string a0] rfl TA ?_; (with_reducible refine (impl_isApex.calls k a0 true _ A3.out).mono ?_); rintro e w9 ⟨rfl, hb⟩; refine ⟨_, rfl, ?_⟩; replace HB := BS hb; (try clear hb); (try clear hb2); (try clear hk); (try clear hi)))
   go_ret
   exact ⟨TE, TB⟩
 ·replace c4 := Bool.eq_false_iff.mpr c4
  subst c4
  replace H := iff' H
  obtain rfl := Option.some.inj H
  go_enter Tryz.func151, Tryz.ntmps151
  go_wp2_with (first | ((with_reducible refine gate_callee (f := 175) rfl ?_); refine goesL_ (some 6) rfl rfl Tryz.func175 KR rfl #[.string a0] rfl TA ?_; (with_reducible refine (impl_isApex.calls k a0 false _ A3.out).mono ?_); rintro e w10 ⟨rfl, hb⟩; refine ⟨_, rfl, ?_⟩; replace HB := BS hb; (try clear hb); (try clear hb2); (try clear hk); (try clear hi)))
  go_ret
  exact ⟨TE, TB⟩
end
section
theorem eqARecord (d : Nat) (w : World) (x0 y0 : ByteArray) (x1 y1 : Int) (x2 y2 : Int) (x3 y3 : ByteArray) :
  (Op.equalIn (d + 2) 100 (.agg #[.string x0, .int .i64 x1, .int .i64 x2, .string x3]) (.agg #[.string y0, .int .i64 y1, .int .i64 y2, .string y3])).run Tryz.prog w = .ok (x0.toList == y0.toList && (x1 == y1 && (x2 == y2 && (x3.toList == y3.toList)))) w := by
 refine eqA_of Tryz.underlying100 KR ?_
 refine eqf_cons (by rfl) (by go_simp; rfl) (by go_simp; rfl) (by go_simp) ?_
 refine eqf_cons (by rfl) (by go_simp; rfl) (by go_simp; rfl) (by go_simp) ?_
 refine eqf_cons (by rfl) (by go_simp; rfl) (by go_simp; rfl) (by go_simp) ?_
 exact eqf_last (by rfl) (by go_simp; rfl) (by go_simp; rfl) (by go_simp)
end
section
attribute [local go_sem high] eqARecord
/-! ### impl_breaks_1: function 177 -/
def impl_breaks_1.f (a0_0 : ByteArray) (a0_1 : Int) (a0_2 : Int) (a0_3 : ByteArray) (a1_0 : ByteArray) (a1_1 : Int) (a1_2 : Int) (a1_3 : ByteArray) : Option (Bool) := if a0_2 = a1_2 then (if a0_3.toList = a1_3.toList then (some (!(a0_0.toList == a1_0.toList) || (!(a0_1 == a1_1) || (!(a0_2 == a1_2) || (!(a0_3.toList == a1_3.toList)))))) else (some false)) else (some true)
theorem impl_breaks_1.calls (a0_0 : ByteArray) (a0_1 : Int) (a0_2 : Int) (a0_3 : ByteArray) (g1_ : Nat) (a1_0 : ByteArray) (a1_1 : Int) (a1_2 : Int) (a1_3 : ByteArray) (r : Bool) (w : World) (hkg1_ : w.heap[g1_]? = some (.cells #[.string a1_0, .int .i64 a1_1, .int .i64 a1_2, .string a1_3] 100 (0, 0))) (h : impl_breaks_1.f a0_0 a0_1 a0_2 a0_3 a1_0 a1_1 a1_2 a1_3 = some r) :
  Calls Tryz.prog 177 #[.agg #[.string a0_0, .int .i64 a0_1, .int .i64 a0_2, .string a0_3], .pointer (some ⟨g1_, 0, none⟩)] w fun e w' => e = .returned (.bool r) ∧ Below w.heap.size w w' := by
 have hu100 := Tryz.underlying100
 have BKrg1_ := Aside0.mk hkg1_
 clear hkg1_
 have HB := Aside0.mk (Below.refl w.heap.size w)
 have H : (if a0_2 = a1_2 then (if a0_3.toList = a1_3.toList then (some (!(a0_0.toList == a1_0.toList) || (!(a0_1 == a1_1) || (!(a0_2 == a1_2) || (!(a0_3.toList == a1_3.toList)))))) else (some false)) else (some true)) = some r := h
 clear h
 by_cases c3 : a0_2 = a1_2
 ·rw [if_pos c3] at H
  have c3b0 : (a0_2 == a1_2) = true := beq_iff_eq.mpr c3
  have c3b1 : (a0_2 != a1_2) = false := bne_eq_false_iff_eq.mpr c3
  clear c3
  by_cases c4 : a0_3.toList = a1_3.toList
  ·rw [if_pos c4] at H
   have c4b0 : (a0_3.toList == a1_3.toList) = true := beq_iff_eq.mpr c4
   have c4b1 : (a0_3.toList != a1_3.toList) = false := bne_eq_false_iff_eq.mpr c4
   clear c4
   obtain rfl := Option.some.inj H
   go_enter Tryz.func177, Tryz.ntmps177
   go_wp2_with (first | ((with_reducible refine gate_dst (N := 2) rfl ?_); refine bE 2 #[.string a0_0, .int .i64 a0_1, .int .i64 a0_2, .string a0_3] 100 ?_; intro gb515 hg w5 hbox hb; have BK515 := Aside0.mk (hbox); have GE515 := bG hg; replace HB := BS hb; have NB1_515 := bN BKrg1_ hg; have NB515_1 := bM BKrg1_ hg; replace BKrg1_ := KB BKrg1_ hb; clear hb hbox hg; have hnb6 := NB515_1.out; have hnc6 := NB1_515.out; have hcz7 := cz4 BK515; have hcz8 := cz4 BKrg1_))
   go_ret
   exact ⟨TE, TB⟩
  ·rw [if_neg c4] at H
   have c4b0 : (a0_3.toList == a1_3.toList) = false := beq_eq_false_iff_ne.mpr c4
   have c4b1 : (a0_3.toList != a1_3.toList) = true := bne_iff_ne.mpr c4
   obtain rfl := Option.some.inj H
   go_enter Tryz.func177, Tryz.ntmps177
   go_wp2_with (first | ((with_reducible refine gate_dst (N := 2) rfl ?_); refine bE 2 #[.string a0_0, .int .i64 a0_1, .int .i64 a0_2, .string a0_3] 100 ?_; intro gb515 hg w9 hbox hb; have BK515 := Aside0.mk (hbox); have GE515 := bG hg; replace HB := BS hb; have NB1_515 := bN BKrg1_ hg; have NB515_1 := bM BKrg1_ hg; replace BKrg1_ := KB BKrg1_ hb; clear hb hbox hg; have hnb10 := NB515_1.out; have hnc10 := NB1_515.out; have hcz11 := cz4 BK515; have hcz12 := cz4 BKrg1_))
   go_ret
   exact ⟨TE, TB⟩
 ·rw [if_neg c3] at H
  have c3b0 : (a0_2 == a1_2) = false := beq_eq_false_iff_ne.mpr c3
  have c3b1 : (a0_2 != a1_2) = true := bne_iff_ne.mpr c3
  obtain rfl := Option.some.inj H
  go_enter Tryz.func177, Tryz.ntmps177
  go_wp2_with (first | ((with_reducible refine gate_dst (N := 2) rfl ?_); refine bE 2 #[.string a0_0, .int .i64 a0_1, .int .i64 a0_2, .string a0_3] 100 ?_; intro gb515 hg w13 hbox hb; have BK515 := Aside0.mk (hbox); have GE515 := bG hg; replace HB := BS hb; have NB1_515 := bN BKrg1_ hg; have NB515_1 := bM BKrg1_ hg; replace BKrg1_ := KB BKrg1_ hb; clear hb hbox hg; have hnb14 := NB515_1.out; have hnc14 := NB1_515.out; have hcz15 := cz4 BK515; have hcz16 := cz4 BKrg1_))
  go_ret
  exact ⟨TE, TB⟩
end
section
/-! ### slices_IndexFunc_impl_Record_impl_Record_breaks_1: function 128 -/
def slices_IndexFunc_impl_Record_impl_Record_breaks_1.l0 : Nat → List (S_Record) → Int → Int → ByteArray → Int → Int → ByteArray → Option (Int)
 | 0, _, _, _, _, _, _, _ => none
 | k + 1, x0, x7, x8, x59000, x59001, x59002, x59003 => if x8 < x7 then (if 0 ≤ x8 then (if x8 < (x0.length : Int) then ((impl_breaks_1.f ((rd_TRecord x0 x8).f0) ((rd_TRecord x0 x8).f1) ((rd_TRecord x0 x8).f2) ((rd_TRecord x0 x8).f3) x59000 x59001 x59002 x59003).bind fun t517 => (if t517 = true then (some x8) else (slices_IndexFunc_impl_Record_impl_Record_breaks_1.l0 k x0 x7 (wrap64 (x8 + 1)) x59000 x59001 x59002 x59003))) else (none)) else (none)) else (some (-1))
def slices_IndexFunc_impl_Record_impl_Record_breaks_1.f (k : Nat) (l0 : List (S_Record)) (a1_0 : ByteArray) (a1_1 : Int) (a1_2 : Int) (a1_3 : ByteArray) : Option (Int) := slices_IndexFunc_impl_Record_impl_Record_breaks_1.l0 k l0 (l0.length : Int) 0 a1_0 a1_1 a1_2 a1_3
theorem slices_IndexFunc_impl_Record_impl_Record_breaks_1.calls (k : Nat) (A0 : Option Addr) (c0 : Nat) (l0 : List (S_Record)) (g1_0_ : Nat) (a1_0 : ByteArray) (a1_1 : Int) (a1_2 : Int) (a1_3 : ByteArray) (r : Int) (w : World) (hr0 : Kd.C k_Record w A0 l0.length l0) (hc0 : l0.length ≤ c0) (hkg1_0_ : w.heap[g1_0_]? = some (.cells #[.string a1_0, .int .i64 a1_1, .int .i64 a1_2, .string a1_3] 100 (0, 0))) (h : slices_IndexFunc_impl_Record_impl_Record_breaks_1.f k l0 a1_0 a1_1 a1_2 a1_3 = some r) :
  Calls Tryz.prog 128 #[.slice A0 l0.length c0, .func (.func 177) #[] #[.pointer (some ⟨g1_0_, 0, none⟩)]] w fun e w' => e = .returned (.int .i64 r) ∧ Below w.heap.size w w' := by
 have hu100 := Tryz.underlying100
 have HR0 := Aside0.mk hr0
 have HC0 := Aside0.mk hc0
 clear hr0 hc0
 have BKrg1_0_ := Aside0.mk hkg1_0_
 clear hkg1_0_
 have HB := Aside0.mk (Below.refl w.heap.size w)
 have H : (slices_IndexFunc_impl_Record_impl_Record_breaks_1.l0 k l0 (l0.length : Int) 0 a1_0 a1_1 a1_2 a1_3) = some r := h
 clear h
 have H' := Aside0.mk H
 clear H
 go_enter Tryz.func128, Tryz.ntmps128
 go_wp2
 go_loopg [8] k (fun kq v8 w' => ∃ (x8_1 : Int), v8 = .int .i64 x8_1 ∧ Aside0 (slices_IndexFunc_impl_Record_impl_Record_breaks_1.l0 kq l0 (l0.length : Int) x8_1 a1_0 a1_1 a1_2 a1_3 = some r) ∧ Aside0 (kq ≤ k) ∧ Aside0 (w'.heap[g1_0_]? = some (.cells #[.string a1_0, .int .i64 a1_1, .int .i64 a1_2, .string a1_3] 100 (0, 0))) ∧ Aside0 (Below w.heap.size w w'))
 case atStart => exact ⟨(0), TF, H', ⟨Nat.le_refl _⟩, KW BKrg1_0_, ⟨TB⟩⟩
 case round =>
  clear H'
  try clear c1
  try clear p2
  obtain ⟨x8_1, rfl, HA, HK1, BKrg1_0_, HB⟩ := hrel
  cases gk with
  | zero => exact absurd HA.out (by simp [slices_IndexFunc_impl_Record_impl_Record_breaks_1.l0])
  | succ k1 =>
   have H := HA.out
   clear HA
   simp only [slices_IndexFunc_impl_Record_impl_Record_breaks_1.l0] at H
   by_cases c3 : x8_1 < (l0.length : Int)
   ·rw [if_pos c3] at H
    have c3b0 : decide (x8_1 < (l0.length : Int)) = true := decide_eq_true c3
    clear c3
    obtain ⟨c4, H⟩ := ifn H
    have c4b0 : decide (0 ≤ x8_1) = true := decide_eq_true c4
    clear c4
    obtain ⟨c5, H⟩ := ifn H
    have c5b0 : decide (x8_1 < (l0.length : Int)) = true := decide_eq_true c5
    clear c5
    obtain ⟨t517, A6, H⟩ := bnd H
    by_cases c7 : t517 = true
    ·subst c7
     replace H := ift H
     obtain rfl := Option.some.inj H
     have p516 : 0 ≤ (x8_1 : Int) := TD
     have q516 : x8_1 < (l0.length : Int) := TD
     obtain ⟨ad516, e516, hx516_0, hx516_1, hx516_2, hx516_3⟩ := at_TRecord (Kd.C_below HR0.out HB.out) x8_1 p516 q516
     cases e516
     replace p516 := eq_true p516
     replace q516 := eq_true q516
     go_wp2_with (first | (go_at_call 177; (with_reducible refine (impl_breaks_1.calls ((rd_TRecord l0 x8_1).f0) ((rd_TRecord l0 x8_1).f1) ((rd_TRecord l0 x8_1).f2) ((rd_TRecord l0 x8_1).f3) g1_0_ a1_0 a1_1 a1_2 a1_3 true _ ?side1 A6.out).mono ?_); (case side1 => exact (KW BKrg1_0_).out); rintro e w8 ⟨rfl, hb⟩; replace BKrg1_0_ := KB BKrg1_0_ hb; replace HB := BS hb; (try clear hb); (try clear hb2); (try clear hk); (try clear hi)))
     go_ret
     exact ⟨TE, TB⟩
    ·replace c7 := Bool.eq_false_iff.mpr c7
     subst c7
     replace H := iff' H
     have H' := Aside0.mk H
     clear H
     have p516 : 0 ≤ (x8_1 : Int) := TD
     have q516 : x8_1 < (l0.length : Int) := TD
     obtain ⟨ad516, e516, hx516_0, hx516_1, hx516_2, hx516_3⟩ := at_TRecord (Kd.C_below HR0.out HB.out) x8_1 p516 q516
     cases e516
     replace p516 := eq_true p516
     replace q516 := eq_true q516
     go_wp2_with (first | (go_at_call 177; (with_reducible refine (impl_breaks_1.calls ((rd_TRecord l0 x8_1).f0) ((rd_TRecord l0 x8_1).f1) ((rd_TRecord l0 x8_1).f2) ((rd_TRecord l0 x8_1).f3) g1_0_ a1_0 a1_1 a1_2 a1_3 false _ ?side1 A6.out).mono ?_); (case side1 => exact (KW BKrg1_0_).out); rintro e w9 ⟨rfl, hb⟩; replace BKrg1_0_ := KB BKrg1_0_ hb; replace HB := BS hb; (try clear hb); (try clear hb2); (try clear hk); (try clear hi)))
     go_roundg k1
     case measure => have := HK1.out; omega
     case rel => exact ⟨(wrap64 (x8_1 + 1)), TF, H', ⟨TM⟩, KW BKrg1_0_, ⟨TB⟩⟩
   ·rw [if_neg c3] at H
    have c3b0 : decide (x8_1 < (l0.length : Int)) = false := decide_eq_false c3
    clear c3
    obtain rfl := Option.some.inj H
    go_wp2
    go_ret
    exact ⟨TE, TB⟩
end
section
/-! ### slices_ContainsFunc_impl_Record_impl_Record_breaks_1: function 80 -/
def slices_ContainsFunc_impl_Record_impl_Record_breaks_1.f (k : Nat) (l0 : List (S_Record)) (a1_0 : ByteArray) (a1_1 : Int) (a1_2 : Int) (a1_3 : ByteArray) : Option (Bool) := (slices_IndexFunc_impl_Record_impl_Record_breaks_1.f k l0 a1_0 a1_1 a1_2 a1_3).bind fun t518 => (some (decide (t518 ≥ 0)))
theorem slices_ContainsFunc_impl_Record_impl_Record_breaks_1.calls (k : Nat) (A0 : Option Addr) (c0 : Nat) (l0 : List (S_Record)) (g1_0_ : Nat) (a1_0 : ByteArray) (a1_1 : Int) (a1_2 : Int) (a1_3 : ByteArray) (r : Bool) (w : World) (hr0 : Kd.C k_Record w A0 l0.length l0) (hc0 : l0.length ≤ c0) (hkg1_0_ : w.heap[g1_0_]? = some (.cells #[.string a1_0, .int .i64 a1_1, .int .i64 a1_2, .string a1_3] 100 (0, 0))) (h : slices_ContainsFunc_impl_Record_impl_Record_breaks_1.f k l0 a1_0 a1_1 a1_2 a1_3 = some r) :
  Calls Tryz.prog 80 #[.slice A0 l0.length c0, .func (.func 177) #[] #[.pointer (some ⟨g1_0_, 0, none⟩)]] w fun e w' => e = .returned (.bool r) ∧ Below w.heap.size w w' := by
 have HR0 := Aside0.mk hr0
 have HC0 := Aside0.mk hc0
 clear hr0 hc0
 have BKrg1_0_ := Aside0.mk hkg1_0_
 clear hkg1_0_
 have HB := Aside0.mk (Below.refl w.heap.size w)
 have H : ((slices_IndexFunc_impl_Record_impl_Record_breaks_1.f k l0 a1_0 a1_1 a1_2 a1_3).bind fun t518 => (some (decide (t518 ≥ 0)))) = some r := h
 clear h
 obtain ⟨t518, A3, H⟩ := bnd H
 obtain rfl := Option.some.inj H
 go_enter Tryz.func80, Tryz.ntmps80
 go_wp2_with (first | ((with_reducible refine gate_callee (f := 128) rfl ?_); refine goesL_ (some 7) rfl rfl Tryz.func128 KR rfl #[.slice A0 l0.length c0, .func (.func 177) #[] #[.pointer (some ⟨g1_0_, 0, none⟩)]] rfl TA ?_; (with_reducible refine (slices_IndexFunc_impl_Record_impl_Record_breaks_1.calls k _ _ l0 g1_0_ a1_0 a1_1 a1_2 a1_3 t518 _ ?side1 ?side2 ?side3 A3.out).mono ?_); (case side1 => exact CW (HR0.out)); (case side2 => exact HC0.out); (case side3 => exact (KW BKrg1_0_).out); rintro e w4 ⟨rfl, hb⟩; refine ⟨_, rfl, ?_⟩; replace BKrg1_0_ := KB BKrg1_0_ hb; replace HB := BS hb; (try clear hb); (try clear hb2); (try clear hk); (try clear hi)))
 go_ret
 exact ⟨TE, TB⟩
end
section
/-! ### impl_breaks_2: function 178 -/
def impl_breaks_2.f (a0_0 : ByteArray) (a0_1 : Int) (a0_2 : Int) (a0_3 : ByteArray) (a1_0 : ByteArray) (a2_0 : ByteArray) (a2_1 : Int) (a2_2 : Int) (a2_3 : ByteArray) : Option (Bool) := if a0_1 = 2 then (if a0_0.toList = a1_0.toList then (some false) else ((impl_isBelow.f a2_0 a0_0).bind fun t520 => (if t520 = true then (if a2_1 = 1 then (some false) else (if a2_1 = 2 then (some (!(a2_0.toList == a0_0.toList))) else (some (!false)))) else (some false)))) else (some false)
theorem impl_breaks_2.calls (a0_0 : ByteArray) (a0_1 : Int) (a0_2 : Int) (a0_3 : ByteArray) (g1_ : Nat) (a1_0 : ByteArray) (g2_ : Nat) (a2_0 : ByteArray) (a2_1 : Int) (a2_2 : Int) (a2_3 : ByteArray) (r : Bool) (w : World) (hkg1_ : w.heap[g1_]? = some (.cells #[.string a1_0] 9 (0, 0))) (hkg2_ : w.heap[g2_]? = some (.cells #[.string a2_0, .int .i64 a2_1, .int .i64 a2_2, .string a2_3] 100 (0, 0))) (h : impl_breaks_2.f a0_0 a0_1 a0_2 a0_3 a1_0 a2_0 a2_1 a2_2 a2_3 = some r) :
  Calls Tryz.prog 178 #[.agg #[.string a0_0, .int .i64 a0_1, .int .i64 a0_2, .string a0_3], .pointer (some ⟨g1_, 0, none⟩), .pointer (some ⟨g2_, 0, none⟩)] w fun e w' => e = .returned (.bool r) ∧ Below w.heap.size w w' := by
 have hu100 := Tryz.underlying100
 have BKrg1_ := Aside0.mk hkg1_
 clear hkg1_
 have BKrg2_ := Aside0.mk hkg2_
 clear hkg2_
 have HB := Aside0.mk (Below.refl w.heap.size w)
 have H : (if a0_1 = 2 then (if a0_0.toList = a1_0.toList then (some false) else ((impl_isBelow.f a2_0 a0_0).bind fun t520 => (if t520 = true then (if a2_1 = 1 then (some false) else (if a2_1 = 2 then (some (!(a2_0.toList == a0_0.toList))) else (some (!false)))) else (some false)))) else (some false)) = some r := h
 clear h
 by_cases c4 : a0_1 = 2
 ·rw [if_pos c4] at H
  have c4b0 : (a0_1 == 2) = true := beq_iff_eq.mpr c4
  have c4b1 : (a0_1 != 2) = false := bne_eq_false_iff_eq.mpr c4
  clear c4
  by_cases c5 : a0_0.toList = a1_0.toList
  ·rw [if_pos c5] at H
   have c5b0 : (a0_0.toList == a1_0.toList) = true := beq_iff_eq.mpr c5
   have c5b1 : (a0_0.toList != a1_0.toList) = false := bne_eq_false_iff_eq.mpr c5
   clear c5
   obtain rfl := Option.some.inj H
   go_enter Tryz.func178, Tryz.ntmps178
   go_wp2_with (first | ((with_reducible refine gate_dst (N := 3) rfl ?_); refine bE 3 #[.string a0_0, .int .i64 a0_1, .int .i64 a0_2, .string a0_3] 100 ?_; intro gb519 hg w6 hbox hb; have BK519 := Aside0.mk (hbox); have GE519 := bG hg; replace HB := BS hb; have NB1_519 := bN BKrg1_ hg; have NB519_1 := bM BKrg1_ hg; replace BKrg1_ := KB BKrg1_ hb; have NB2_519 := bN BKrg2_ hg; have NB519_2 := bM BKrg2_ hg; replace BKrg2_ := KB BKrg2_ hb; clear hb hbox hg; have hnb7 := NB519_1.out; have hnc7 := NB1_519.out; have hnb8 := NB519_2.out; have hnc8 := NB2_519.out; have hcz9 := cz4 BK519; have hcz10 := cz1 BKrg1_))
   go_ret
   exact ⟨TE, TB⟩
  ·rw [if_neg c5] at H
   have c5b0 : (a0_0.toList == a1_0.toList) = false := beq_eq_false_iff_ne.mpr c5
   have c5b1 : (a0_0.toList != a1_0.toList) = true := bne_iff_ne.mpr c5
   obtain ⟨t520, A11, H⟩ := bnd H
   by_cases c12 : t520 = true
   ·subst c12
    replace H := ift H
    by_cases c13 : a2_1 = 1
    ·rw [if_pos c13] at H
     have c13b0 : (a2_1 == 1) = true := beq_iff_eq.mpr c13
     have c13b1 : (a2_1 != 1) = false := bne_eq_false_iff_eq.mpr c13
     clear c13
     obtain rfl := Option.some.inj H
     go_enter Tryz.func178, Tryz.ntmps178
     go_wp2_with (first | ((with_reducible refine gate_dst (N := 3) rfl ?_); refine bE 3 #[.string a0_0, .int .i64 a0_1, .int .i64 a0_2, .string a0_3] 100 ?_; intro gb519 hg w14 hbox hb; have BK519 := Aside0.mk (hbox); have GE519 := bG hg; replace HB := BS hb; have NB1_519 := bN BKrg1_ hg; have NB519_1 := bM BKrg1_ hg; replace BKrg1_ := KB BKrg1_ hb; have NB2_519 := bN BKrg2_ hg; have NB519_2 := bM BKrg2_ hg; replace BKrg2_ := KB BKrg2_ hb; clear hb hbox hg; have hnb15 := NB519_1.out; have hnc15 := NB1_519.out; have hnb16 := NB519_2.out; have hnc16 := NB2_519.out; have hcz17 := cz4 BK519; have hcz18 := cz1 BKrg1_; have hcz19 := cz4 BKrg2_) | (go_at_call 63; (with_reducible refine (impl_isBelow.calls a2_0 a0_0 true _ A11.out).mono ?_); rintro e w' ⟨rfl, ⟨nd, rfl⟩⟩))
     go_ret
     exact ⟨TE, TB⟩
    ·rw [if_neg c13] at H
     have c13b0 : (a2_1 == 1) = false := beq_eq_false_iff_ne.mpr c13
     have c13b1 : (a2_1 != 1) = true := bne_iff_ne.mpr c13
     by_cases c20 : a2_1 = 2
     ·rw [if_pos c20] at H
      have c20b0 : (a2_1 == 2) = true := beq_iff_eq.mpr c20
      have c20b1 : (a2_1 != 2) = false := bne_eq_false_iff_eq.mpr c20
      clear c20
      obtain rfl := Option.some.inj H
      go_enter Tryz.func178, Tryz.ntmps178
      go_wp2_with (first | ((with_reducible refine gate_dst (N := 3) rfl ?_); refine bE 3 #[.string a0_0, .int .i64 a0_1, .int .i64 a0_2, .string a0_3] 100 ?_; intro gb519 hg w21 hbox hb; have BK519 := Aside0.mk (hbox); have GE519 := bG hg; replace HB := BS hb; have NB1_519 := bN BKrg1_ hg; have NB519_1 := bM BKrg1_ hg; replace BKrg1_ := KB BKrg1_ hb; have NB2_519 := bN BKrg2_ hg; have NB519_2 := bM BKrg2_ hg; replace BKrg2_ := KB BKrg2_ hb; clear hb hbox hg; have hnb22 := NB519_1.out; have hnc22 := NB1_519.out; have hnb23 := NB519_2.out; have hnc23 := NB2_519.out; have hcz24 := cz4 BK519; have hcz25 := cz1 BKrg1_; have hcz26 := cz4 BKrg2_) | (go_at_call 63; (with_reducible refine (impl_isBelow.calls a2_0 a0_0 true _ A11.out).mono ?_); rintro e w' ⟨rfl, ⟨nd, rfl⟩⟩))
      go_ret
      exact ⟨TE, TB⟩
     ·rw [if_neg c20] at H
      have c20b0 : (a2_1 == 2) = false := beq_eq_false_iff_ne.mpr c20
      have c20b1 : (a2_1 != 2) = true := bne_iff_ne.mpr c20
      obtain rfl := Option.some.inj H
      go_enter Tryz.func178, Tryz.ntmps178
      go_wp2_with (first | ((with_reducible refine gate_dst (N := 3) rfl ?_); refine bE 3 #[.string a0_0, .int .i64 a0_1, .int .i64 a0_2, .string a0_3] 100 ?_; intro gb519 hg w27 hbox hb; have BK519 := Aside0.mk (hbox); have GE519 := bG hg; replace HB := BS hb; have NB1_519 := bN BKrg1_ hg; have NB519_1 := bM BKrg1_ hg; replace BKrg1_ := KB BKrg1_ hb; have NB2_519 := bN BKrg2_ hg; have NB519_2 := bM BKrg2_ hg; replace BKrg2_ := KB BKrg2_ hb; clear hb hbox hg; have hnb28 := NB519_1.out; have hnc28 := NB1_519.out; have hnb29 := NB519_2.out; have hnc29 := NB2_519.out; have hcz30 := cz4 BK519; have hcz31 := cz1 BKrg1_; have hcz32 := cz4 BKrg2_) | (go_at_call 63; (with_reducible refine (impl_isBelow.calls a2_0 a0_0 true _ A11.out).mono ?_); rintro e w' ⟨rfl, ⟨nd, rfl⟩⟩))
      go_ret
      exact ⟨TE, TB⟩
   ·replace c12 := Bool.eq_false_iff.mpr c12
    subst c12
    replace H := iff' H
    obtain rfl := Option.some.inj H
    go_enter Tryz.func178, Tryz.ntmps178
    go_wp2_with (first | ((with_reducible refine gate_dst (N := 3) rfl ?_); refine bE 3 #[.string a0_0, .int .i64 a0_1, .int .i64 a0_2, .string a0_3] 100 ?_; intro gb519 hg w33 hbox hb; have BK519 := Aside0.mk (hbox); have GE519 := bG hg; replace HB := BS hb; have NB1_519 := bN BKrg1_ hg; have NB519_1 := bM BKrg1_ hg; replace BKrg1_ := KB BKrg1_ hb; have NB2_519 := bN BKrg2_ hg; have NB519_2 := bM BKrg2_ hg; replace BKrg2_ := KB BKrg2_ hb; clear hb hbox hg; have hnb34 := NB519_1.out; have hnc34 := NB1_519.out; have hnb35 := NB519_2.out; have hnc35 := NB2_519.out; have hcz36 := cz4 BK519; have hcz37 := cz1 BKrg1_; have hcz38 := cz4 BKrg2_) | (go_at_call 63; (with_reducible refine (impl_isBelow.calls a2_0 a0_0 false _ A11.out).mono ?_); rintro e w' ⟨rfl, ⟨nd, rfl⟩⟩))
    go_ret
    exact ⟨TE, TB⟩
 ·rw [if_neg c4] at H
  have c4b0 : (a0_1 == 2) = false := beq_eq_false_iff_ne.mpr c4
  have c4b1 : (a0_1 != 2) = true := bne_iff_ne.mpr c4
  obtain rfl := Option.some.inj H
  go_enter Tryz.func178, Tryz.ntmps178
  go_wp2_with (first | ((with_reducible refine gate_dst (N := 3) rfl ?_); refine bE 3 #[.string a0_0, .int .i64 a0_1, .int .i64 a0_2, .string a0_3] 100 ?_; intro gb519 hg w39 hbox hb; have BK519 := Aside0.mk (hbox); have GE519 := bG hg; replace HB := BS hb; have NB1_519 := bN BKrg1_ hg; have NB519_1 := bM BKrg1_ hg; replace BKrg1_ := KB BKrg1_ hb; have NB2_519 := bN BKrg2_ hg; have NB519_2 := bM BKrg2_ hg; replace BKrg2_ := KB BKrg2_ hb; clear hb hbox hg; have hnb40 := NB519_1.out; have hnc40 := NB1_519.out; have hnb41 := NB519_2.out; have hnc41 := NB2_519.out; have hcz42 := cz4 BK519))
  go_ret
  exact ⟨TE, TB⟩
end
section
/-! ### slices_IndexFunc_impl_Record_impl_Record_breaks_2: function 128 -/
def slices_IndexFunc_impl_Record_impl_Record_breaks_2.l0 : Nat → List (S_Record) → Int → Int → ByteArray → ByteArray → Int → Int → ByteArray → Option (Int)
 | 0, _, _, _, _, _, _, _, _ => none
 | k + 1, x0, x7, x8, x59000, x60000, x60001, x60002, x60003 => if x8 < x7 then (if 0 ≤ x8 then (if x8 < (x0.length : Int) then ((impl_breaks_2.f ((rd_TRecord x0 x8).f0) ((rd_TRecord x0 x8).f1) ((rd_TRecord x0 x8).f2) ((rd_TRecord x0 x8).f3) x59000 x60000 x60001 x60002 x60003).bind fun t522 => (if t522 = true then (some x8) else (slices_IndexFunc_impl_Record_impl_Record_breaks_2.l0 k x0 x7 (wrap64 (x8 + 1)) x59000 x60000 x60001 x60002 x60003))) else (none)) else (none)) else (some (-1))
def slices_IndexFunc_impl_Record_impl_Record_breaks_2.f (k : Nat) (l0 : List (S_Record)) (a1_0 : ByteArray) (a1_1 : ByteArray) (a1_2 : Int) (a1_3 : Int) (a1_4 : ByteArray) : Option (Int) := slices_IndexFunc_impl_Record_impl_Record_breaks_2.l0 k l0 (l0.length : Int) 0 a1_0 a1_1 a1_2 a1_3 a1_4
theorem slices_IndexFunc_impl_Record_impl_Record_breaks_2.calls (k : Nat) (A0 : Option Addr) (c0 : Nat) (l0 : List (S_Record)) (g1_0_ g1_1_ : Nat) (a1_0 : ByteArray) (a1_1 : ByteArray) (a1_2 : Int) (a1_3 : Int) (a1_4 : ByteArray) (r : Int) (w : World) (hr0 : Kd.C k_Record w A0 l0.length l0) (hc0 : l0.length ≤ c0) (hkg1_0_ : w.heap[g1_0_]? = some (.cells #[.string a1_0] 9 (0, 0))) (hkg1_1_ : w.heap[g1_1_]? = some (.cells #[.string a1_1, .int .i64 a1_2, .int .i64 a1_3, .string a1_4] 100 (0, 0))) (h : slices_IndexFunc_impl_Record_impl_Record_breaks_2.f k l0 a1_0 a1_1 a1_2 a1_3 a1_4 = some r) :
  Calls Tryz.prog 128 #[.slice A0 l0.length c0, .func (.func 178) #[] #[.pointer (some ⟨g1_0_, 0, none⟩), .pointer (some ⟨g1_1_, 0, none⟩)]] w fun e w' => e = .returned (.int .i64 r) ∧ Below w.heap.size w w' := by
 have hu100 := Tryz.underlying100
 have HR0 := Aside0.mk hr0
 have HC0 := Aside0.mk hc0
 clear hr0 hc0
 have BKrg1_0_ := Aside0.mk hkg1_0_
 clear hkg1_0_
 have BKrg1_1_ := Aside0.mk hkg1_1_
 clear hkg1_1_
 have HB := Aside0.mk (Below.refl w.heap.size w)
 have H : (slices_IndexFunc_impl_Record_impl_Record_breaks_2.l0 k l0 (l0.length : Int) 0 a1_0 a1_1 a1_2 a1_3 a1_4) = some r := h
 clear h
 have H' := Aside0.mk H
 clear H
 go_enter Tryz.func128, Tryz.ntmps128
 go_wp2
 go_loopg [8] k (fun kq v8 w' => ∃ (x8_1 : Int), v8 = .int .i64 x8_1 ∧ Aside0 (slices_IndexFunc_impl_Record_impl_Record_breaks_2.l0 kq l0 (l0.length : Int) x8_1 a1_0 a1_1 a1_2 a1_3 a1_4 = some r) ∧ Aside0 (kq ≤ k) ∧ Aside0 (w'.heap[g1_0_]? = some (.cells #[.string a1_0] 9 (0, 0))) ∧ Aside0 (w'.heap[g1_1_]? = some (.cells #[.string a1_1, .int .i64 a1_2, .int .i64 a1_3, .string a1_4] 100 (0, 0))) ∧ Aside0 (Below w.heap.size w w'))
 case atStart => exact ⟨(0), TF, H', ⟨Nat.le_refl _⟩, KW BKrg1_0_, KW BKrg1_1_, ⟨TB⟩⟩
 case round =>
  clear H'
  try clear c1
  try clear p2
  obtain ⟨x8_1, rfl, HA, HK1, BKrg1_0_, BKrg1_1_, HB⟩ := hrel
  cases gk with
  | zero => exact absurd HA.out (by simp [slices_IndexFunc_impl_Record_impl_Record_breaks_2.l0])
  | succ k1 =>
   have H := HA.out
   clear HA
   simp only [slices_IndexFunc_impl_Record_impl_Record_breaks_2.l0] at H
   by_cases c3 : x8_1 < (l0.length : Int)
   ·rw [if_pos c3] at H
    have c3b0 : decide (x8_1 < (l0.length : Int)) = true := decide_eq_true c3
    clear c3
    obtain ⟨c4, H⟩ := ifn H
    have c4b0 : decide (0 ≤ x8_1) = true := decide_eq_true c4
    clear c4
    obtain ⟨c5, H⟩ := ifn H
    have c5b0 : decide (x8_1 < (l0.length : Int)) = true := decide_eq_true c5
    clear c5
    obtain ⟨t522, A6, H⟩ := bnd H
    by_cases c7 : t522 = true
    ·subst c7
     replace H := ift H
     obtain rfl := Option.some.inj H
     have p521 : 0 ≤ (x8_1 : Int) := TD
     have q521 : x8_1 < (l0.length : Int) := TD
     obtain ⟨ad521, e521, hx521_0, hx521_1, hx521_2, hx521_3⟩ := at_TRecord (Kd.C_below HR0.out HB.out) x8_1 p521 q521
     cases e521
     replace p521 := eq_true p521
     replace q521 := eq_true q521
     go_wp2_with (first | (go_at_call 178; (with_reducible refine (impl_breaks_2.calls ((rd_TRecord l0 x8_1).f0) ((rd_TRecord l0 x8_1).f1) ((rd_TRecord l0 x8_1).f2) ((rd_TRecord l0 x8_1).f3) g1_0_ a1_0 g1_1_ a1_1 a1_2 a1_3 a1_4 true _ ?side1 ?side2 A6.out).mono ?_); (case side1 => exact (KW BKrg1_0_).out); (case side2 => exact (KW BKrg1_1_).out); rintro e w8 ⟨rfl, hb⟩; replace BKrg1_0_ := KB BKrg1_0_ hb; replace BKrg1_1_ := KB BKrg1_1_ hb; replace HB := BS hb; (try clear hb); (try clear hb2); (try clear hk); (try clear hi)))
     go_ret
     exact ⟨TE, TB⟩
    ·replace c7 := Bool.eq_false_iff.mpr c7
     subst c7
     replace H := iff' H
     have H' := Aside0.mk H
     clear H
     have p521 : 0 ≤ (x8_1 : Int) := TD
     have q521 : x8_1 < (l0.length : Int) := TD
     obtain ⟨ad521, e521, hx521_0, hx521_1, hx521_2, hx521_3⟩ := at_TRecord (Kd.C_below HR0.out HB.out) x8_1 p521 q521
     cases e521
     replace p521 := eq_true p521
     replace q521 := eq_true q521
     go_wp2_with (first | (go_at_call 178; (with_reducible refine (impl_breaks_2.calls ((rd_TRecord l0 x8_1).f0) ((rd_TRecord l0 x8_1).f1) ((rd_TRecord l0 x8_1).f2) ((rd_TRecord l0 x8_1).f3) g1_0_ a1_0 g1_1_ a1_1 a1_2 a1_3 a1_4 false _ ?side1 ?side2 A6.out).mono ?_); (case side1 => exact (KW BKrg1_0_).out); (case side2 => exact (KW BKrg1_1_).out); rintro e w9 ⟨rfl, hb⟩; replace BKrg1_0_ := KB BKrg1_0_ hb; replace BKrg1_1_ := KB BKrg1_1_ hb; replace HB := BS hb; (try clear hb); (try clear hb2); (try clear hk); (try clear hi)))
     go_roundg k1
     case measure => have := HK1.out; omega
     case rel => exact ⟨(wrap64 (x8_1 + 1)), TF, H', ⟨TM⟩, KW BKrg1_0_, KW BKrg1_1_, ⟨TB⟩⟩
   ·rw [if_neg c3] at H
    have c3b0 : decide (x8_1 < (l0.length : Int)) = false := decide_eq_false c3
    clear c3
    obtain rfl := Option.some.inj H
    go_wp2
    go_ret
    exact ⟨TE, TB⟩
end
section
/-! ### slices_ContainsFunc_impl_Record_impl_Record_breaks_2: function 80 -/
def slices_ContainsFunc_impl_Record_impl_Record_breaks_2.f (k : Nat) (l0 : List (S_Record)) (a1_0 : ByteArray) (a1_1 : ByteArray) (a1_2 : Int) (a1_3 : Int) (a1_4 : ByteArray) : Option (Bool) := (slices_IndexFunc_impl_Record_impl_Record_breaks_2.f k l0 a1_0 a1_1 a1_2 a1_3 a1_4).bind fun t523 => (some (decide (t523 ≥ 0)))
theorem slices_ContainsFunc_impl_Record_impl_Record_breaks_2.calls (k : Nat) (A0 : Option Addr) (c0 : Nat) (l0 : List (S_Record)) (g1_0_ g1_1_ : Nat) (a1_0 : ByteArray) (a1_1 : ByteArray) (a1_2 : Int) (a1_3 : Int) (a1_4 : ByteArray) (r : Bool) (w : World) (hr0 : Kd.C k_Record w A0 l0.length l0) (hc0 : l0.length ≤ c0) (hkg1_0_ : w.heap[g1_0_]? = some (.cells #[.string a1_0] 9 (0, 0))) (hkg1_1_ : w.heap[g1_1_]? = some (.cells #[.string a1_1, .int .i64 a1_2, .int .i64 a1_3, .string a1_4] 100 (0, 0))) (h : slices_ContainsFunc_impl_Record_impl_Record_breaks_2.f k l0 a1_0 a1_1 a1_2 a1_3 a1_4 = some r) :
  Calls Tryz.prog 80 #[.slice A0 l0.length c0, .func (.func 178) #[] #[.pointer (some ⟨g1_0_, 0, none⟩), .pointer (some ⟨g1_1_, 0, none⟩)]] w fun e w' => e = .returned (.bool r) ∧ Below w.heap.size w w' := by
 have HR0 := Aside0.mk hr0
 have HC0 := Aside0.mk hc0
 clear hr0 hc0
 have BKrg1_0_ := Aside0.mk hkg1_0_
 clear hkg1_0_
 have BKrg1_1_ := Aside0.mk hkg1_1_
 clear hkg1_1_
 have HB := Aside0.mk (Below.refl w.heap.size w)
 have H : ((slices_IndexFunc_impl_Record_impl_Record_breaks_2.f k l0 a1_0 a1_1 a1_2 a1_3 a1_4).bind fun t523 => (some (decide (t523 ≥ 0)))) = some r := h
 clear h
 obtain ⟨t523, A3, H⟩ := bnd H
 obtain rfl := Option.some.inj H
 go_enter Tryz.func80, Tryz.ntmps80
 go_wp2_with (first | ((with_reducible refine gate_callee (f := 128) rfl ?_); refine goesL_ (some 7) rfl rfl Tryz.func128 KR rfl #[.slice A0 l0.length c0, .func (.func 178) #[] #[.pointer (some ⟨g1_0_, 0, none⟩), .pointer (some ⟨g1_1_, 0, none⟩)]] rfl TA ?_; (with_reducible refine (slices_IndexFunc_impl_Record_impl_Record_breaks_2.calls k _ _ l0 g1_0_ g1_1_ a1_0 a1_1 a1_2 a1_3 a1_4 t523 _ ?side1 ?side2 ?side3 ?side4 A3.out).mono ?_); (case side1 => exact CW (HR0.out)); (case side2 => exact HC0.out); (case side3 => exact (KW BKrg1_0_).out); (case side4 => exact (KW BKrg1_1_).out); rintro e w4 ⟨rfl, hb⟩; refine ⟨_, rfl, ?_⟩; replace BKrg1_0_ := KB BKrg1_0_ hb; replace BKrg1_1_ := KB BKrg1_1_ hb; replace HB := BS hb; (try clear hb); (try clear hb2); (try clear hk); (try clear hi)))
 go_ret
 exact ⟨TE, TB⟩
end
section
/-! ### impl_breaks: function 153 -/
def impl_breaks.f (k : Nat) (a0 : ByteArray) (l1 : List (S_Record)) (a2_0 : ByteArray) (a2_1 : Int) (a2_2 : Int) (a2_3 : ByteArray) (a3 : Int) : Option (Bool) := if a3 = 1 then ((impl_isBelow.f a2_0 a0).bind fun t526 => (some (!t526))) else (if a3 = 2 then (if a2_1 = 6 then (some (a2_0.toList != a0.toList)) else (some false)) else (if a3 = 3 then ((impl_at.f k l1 a2_0 a2_1).bind fun t527 => ((slices_ContainsFunc_impl_Record_impl_Record_breaks_1.f k t527 a2_0 a2_1 a2_2 a2_3).bind fun t530 => (some t530))) else (if a3 = 4 then (if a2_1 = 5 then ((impl_at.f k l1 a2_0 0).bind fun t531 => (some (decide ((t531.length : Int) > 1)))) else (some false)) else (if a3 = 5 then (if a2_1 = 5 then (some (a2_0.toList == a0.toList)) else (some false)) else ((slices_ContainsFunc_impl_Record_impl_Record_breaks_2.f k l1 a0 a2_0 a2_1 a2_2 a2_3).bind fun t534 => (some t534))))))
theorem impl_breaks.calls (k : Nat) (a0 : ByteArray) (A1 : Option Addr) (c1 : Nat) (l1 : List (S_Record)) (a2_0 : ByteArray) (a2_1 : Int) (a2_2 : Int) (a2_3 : ByteArray) (a3 : Int) (r : Bool) (w : World) (hr1 : Kd.C k_Record w A1 l1.length l1) (hc1 : l1.length ≤ c1) (h : impl_breaks.f k a0 l1 a2_0 a2_1 a2_2 a2_3 a3 = some r) :
  Calls Tryz.prog 153 #[.string a0, .slice A1 l1.length c1, .agg #[.string a2_0, .int .i64 a2_1, .int .i64 a2_2, .string a2_3], .int .i64 a3] w fun e w' => e = .returned (.bool r) ∧ Below w.heap.size w w' := by
 have hu100 := Tryz.underlying100
 have HR1 := Aside0.mk hr1
 have HC1 := Aside0.mk hc1
 clear hr1 hc1
 have HB := Aside0.mk (Below.refl w.heap.size w)
 have H : (if a3 = 1 then ((impl_isBelow.f a2_0 a0).bind fun t526 => (some (!t526))) else (if a3 = 2 then (if a2_1 = 6 then (some (a2_0.toList != a0.toList)) else (some false)) else (if a3 = 3 then ((impl_at.f k l1 a2_0 a2_1).bind fun t527 => ((slices_ContainsFunc_impl_Record_impl_Record_breaks_1.f k t527 a2_0 a2_1 a2_2 a2_3).bind fun t530 => (some t530))) else (if a3 = 4 then (if a2_1 = 5 then ((impl_at.f k l1 a2_0 0).bind fun t531 => (some (decide ((t531.length : Int) > 1)))) else (some false)) else (if a3 = 5 then (if a2_1 = 5 then (some (a2_0.toList == a0.toList)) else (some false)) else ((slices_ContainsFunc_impl_Record_impl_Record_breaks_2.f k l1 a0 a2_0 a2_1 a2_2 a2_3).bind fun t534 => (some t534))))))) = some r := h
 clear h
 by_cases c5 : a3 = 1
 ·rw [if_pos c5] at H
  have c5b0 : (a3 == 1) = true := beq_iff_eq.mpr c5
  have c5b1 : (a3 != 1) = false := bne_eq_false_iff_eq.mpr c5
  clear c5
  obtain ⟨t526, A6, H⟩ := bnd H
  obtain rfl := Option.some.inj H
  go_enter Tryz.func153, Tryz.ntmps153
  go_wp2_with (first | ((with_reducible refine gate_dst (N := 4) rfl ?_); (try (refine gate_guard (by rfl) ?_; dsimp only)); refine bE 4 #[.string a0] 9 ?_; intro gb524 hg w7 hbox hb; have BK524 := Aside0.mk (hbox); have GE524 := bG hg; replace HB := BS hb; clear hb hbox hg) | ((with_reducible refine gate_dst (N := 6) rfl ?_); (try (refine gate_guard (by rfl) ?_; dsimp only)); refine bE 6 #[.string a2_0, .int .i64 a2_1, .int .i64 a2_2, .string a2_3] 100 ?_; intro gb525 hg w8 hbox hb; have BK525 := Aside0.mk (hbox); have GE525 := bG hg; replace HB := BS hb; have NB524_525 := bN BK524 hg; have NB525_524 := bM BK524 hg; replace BK524 := KB BK524 hb; clear hb hbox hg; have hnb9 := NB525_524.out; have hnc9 := NB524_525.out; have hcz10 := cz4 BK525; have hcz11 := cz1 BK524) | ((with_reducible refine gate_callee (f := 63) rfl ?_); refine goesL_ (some 15) rfl rfl Tryz.func63 KR rfl #[.string a2_0, .string a0] rfl TA ?_; (with_reducible refine (impl_isBelow.calls a2_0 a0 t526 _ A6.out).mono ?_); rintro e w' ⟨rfl, ⟨nd, rfl⟩⟩; refine ⟨_, rfl, ?_⟩))
  go_ret
  exact ⟨TE, TB⟩
 ·rw [if_neg c5] at H
  have c5b0 : (a3 == 1) = false := beq_eq_false_iff_ne.mpr c5
  have c5b1 : (a3 != 1) = true := bne_iff_ne.mpr c5
  by_cases c12 : a3 = 2
  ·rw [if_pos c12] at H
   have c12b0 : (a3 == 2) = true := beq_iff_eq.mpr c12
   have c12b1 : (a3 != 2) = false := bne_eq_false_iff_eq.mpr c12
   clear c12
   by_cases c13 : a2_1 = 6
   ·rw [if_pos c13] at H
    have c13b0 : (a2_1 == 6) = true := beq_iff_eq.mpr c13
    have c13b1 : (a2_1 != 6) = false := bne_eq_false_iff_eq.mpr c13
    clear c13
    obtain rfl := Option.some.inj H
    go_enter Tryz.func153, Tryz.ntmps153
    go_wp2_with (first | ((with_reducible refine gate_dst (N := 4) rfl ?_); (try (refine gate_guard (by rfl) ?_; dsimp only)); refine bE 4 #[.string a0] 9 ?_; intro gb524 hg w14 hbox hb; have BK524 := Aside0.mk (hbox); have GE524 := bG hg; replace HB := BS hb; clear hb hbox hg) | ((with_reducible refine gate_dst (N := 6) rfl ?_); (try (refine gate_guard (by rfl) ?_; dsimp only)); refine bE 6 #[.string a2_0, .int .i64 a2_1, .int .i64 a2_2, .string a2_3] 100 ?_; intro gb525 hg w15 hbox hb; have BK525 := Aside0.mk (hbox); have GE525 := bG hg; replace HB := BS hb; have NB524_525 := bN BK524 hg; have NB525_524 := bM BK524 hg; replace BK524 := KB BK524 hb; clear hb hbox hg; have hnb16 := NB525_524.out; have hnc16 := NB524_525.out; have hcz17 := cz4 BK525; have hcz18 := cz1 BK524))
    go_ret
    exact ⟨TE, TB⟩
   ·rw [if_neg c13] at H
    have c13b0 : (a2_1 == 6) = false := beq_eq_false_iff_ne.mpr c13
    have c13b1 : (a2_1 != 6) = true := bne_iff_ne.mpr c13
    obtain rfl := Option.some.inj H
    go_enter Tryz.func153, Tryz.ntmps153
    go_wp2_with (first | ((with_reducible refine gate_dst (N := 4) rfl ?_); (try (refine gate_guard (by rfl) ?_; dsimp only)); refine bE 4 #[.string a0] 9 ?_; intro gb524 hg w19 hbox hb; have BK524 := Aside0.mk (hbox); have GE524 := bG hg; replace HB := BS hb; clear hb hbox hg) | ((with_reducible refine gate_dst (N := 6) rfl ?_); (try (refine gate_guard (by rfl) ?_; dsimp only)); refine bE 6 #[.string a2_0, .int .i64 a2_1, .int .i64 a2_2, .string a2_3] 100 ?_; intro gb525 hg w20 hbox hb; have BK525 := Aside0.mk (hbox); have GE525 := bG hg; replace HB := BS hb; have NB524_525 := bN BK524 hg; have NB525_524 := bM BK524 hg; replace BK524 := KB BK524 hb; clear hb hbox hg; have hnb21 := NB525_524.out; have hnc21 := NB524_525.out; have hcz22 := cz4 BK525))
    go_ret
    exact ⟨TE, TB⟩
  ·rw [if_neg c12] at H
   have c12b0 : (a3 == 2) = false := beq_eq_false_iff_ne.mpr c12
   have c12b1 : (a3 != 2) = true := bne_iff_ne.mpr c12
   by_cases c23 : a3 = 3
   ·rw [if_pos c23] at H
    have c23b0 : (a3 == 3) = true := beq_iff_eq.mpr c23
    have c23b1 : (a3 != 3) = false := bne_eq_false_iff_eq.mpr c23
    clear c23
    obtain ⟨t527, A24, H⟩ := bnd H
    obtain ⟨t530, A25, H⟩ := bnd H
    obtain rfl := Option.some.inj H
    go_enter Tryz.func153, Tryz.ntmps153
    go_wp2_with (first | ((with_reducible refine gate_dst (N := 4) rfl ?_); (try (refine gate_guard (by rfl) ?_; dsimp only)); refine bE 4 #[.string a0] 9 ?_; intro gb524 hg w26 hbox hb; have BK524 := Aside0.mk (hbox); have GE524 := bG hg; replace HB := BS hb; clear hb hbox hg) | ((with_reducible refine gate_dst (N := 6) rfl ?_); (try (refine gate_guard (by rfl) ?_; dsimp only)); refine bE 6 #[.string a2_0, .int .i64 a2_1, .int .i64 a2_2, .string a2_3] 100 ?_; intro gb525 hg w27 hbox hb; have BK525 := Aside0.mk (hbox); have GE525 := bG hg; replace HB := BS hb; have NB524_525 := bN BK524 hg; have NB525_524 := bM BK524 hg; replace BK524 := KB BK524 hb; clear hb hbox hg; have hnb28 := NB525_524.out; have hnc28 := NB524_525.out; have hcz29 := cz4 BK525) | ((with_reducible refine gate_callee (f := 85) rfl ?_); refine goesL_ (some 35) rfl rfl Tryz.func85 KR rfl #[.slice A1 l1.length c1, .string a2_0, .int .i64 a2_1] rfl TA ?_; (with_reducible refine (impl_at.calls k _ _ l1 a2_0 a2_1 t527 _ ?side1 ?side2 A24.out).mono ?_); (case side1 => exact CW ((Kd.C_below HR1.out HB.out))); (case side2 => exact HC1.out); rintro e w30 ⟨v528, rfl, ho0, hb⟩; refine ⟨_, rfl, ?_⟩; have HO529 := Aside0.mk (Kd.R_lower (Kd.R_newB ho0 (g := gb525) (o := .cells #[.string a2_0, .int .i64 a2_1, .int .i64 a2_2, .string a2_3] 100 (0, 0)) (KW BK525).out) (below_size TB)); replace BK524 := KB BK524 hb; replace BK525 := KB BK525 hb; replace HB := BS hb; (try clear hb); (try clear hb2); (try clear hk); (try clear hi); (try clear ho0); obtain ⟨Ao31, co31, eo31⟩ := Kd.R_slice HO529.out; subst eo31) | ((with_reducible refine gate_callee (f := 80) rfl ?_); refine goesL_ (some 37) rfl rfl Tryz.func80 KR rfl #[.slice Ao31 t527.length co31, .func (.func 177) #[] #[.pointer (some ⟨gb525, 0, none⟩)]] rfl TA ?_; (with_reducible refine (slices_ContainsFunc_impl_Record_impl_Record_breaks_1.calls k _ _ t527 gb525 a2_0 a2_1 a2_2 a2_3 t530 _ ?side1 ?side2 ?side3 A25.out).mono ?_); (case side1 => exact CW ((Kd.R_reads' HO529.out).2.2)); (case side2 => exact (Kd.R_reads' HO529.out).2.1); (case side3 => exact (KW BK525).out); rintro e w32 ⟨rfl, hb⟩; refine ⟨_, rfl, ?_⟩; replace HO529 := RB HO529 hb; replace BK524 := KB BK524 hb; replace BK525 := KB BK525 hb; replace HB := BS hb; (try clear hb); (try clear hb2); (try clear hk); (try clear hi)))
    go_ret
    exact ⟨TE, TB⟩
   ·rw [if_neg c23] at H
    have c23b0 : (a3 == 3) = false := beq_eq_false_iff_ne.mpr c23
    have c23b1 : (a3 != 3) = true := bne_iff_ne.mpr c23
    by_cases c33 : a3 = 4
    ·rw [if_pos c33] at H
     have c33b0 : (a3 == 4) = true := beq_iff_eq.mpr c33
     have c33b1 : (a3 != 4) = false := bne_eq_false_iff_eq.mpr c33
     clear c33
     by_cases c34 : a2_1 = 5
     ·rw [if_pos c34] at H
      have c34b0 : (a2_1 == 5) = true := beq_iff_eq.mpr c34
      have c34b1 : (a2_1 != 5) = false := bne_eq_false_iff_eq.mpr c34
      clear c34
      obtain ⟨t531, A35, H⟩ := bnd H
      obtain rfl := Option.some.inj H
      go_enter Tryz.func153, Tryz.ntmps153
      go_wp2_with (first | ((with_reducible refine gate_dst (N := 4) rfl ?_); (try (refine gate_guard (by rfl) ?_; dsimp only)); refine bE 4 #[.string a0] 9 ?_; intro gb524 hg w36 hbox hb; have BK524 := Aside0.mk (hbox); have GE524 := bG hg; replace HB := BS hb; clear hb hbox hg) | ((with_reducible refine gate_dst (N := 6) rfl ?_); (try (refine gate_guard (by rfl) ?_; dsimp only)); refine bE 6 #[.string a2_0, .int .i64 a2_1, .int .i64 a2_2, .string a2_3] 100 ?_; intro gb525 hg w37 hbox hb; have BK525 := Aside0.mk (hbox); have GE525 := bG hg; replace HB := BS hb; have NB524_525 := bN BK524 hg; have NB525_524 := bM BK524 hg; replace BK524 := KB BK524 hb; clear hb hbox hg; have hnb38 := NB525_524.out; have hnc38 := NB524_525.out; have hcz39 := cz4 BK525) | (go_at_call 85; (with_reducible refine (impl_at.calls k _ _ l1 a2_0 0 t531 _ ?side1 ?side2 A35.out).mono ?_); (case side1 => exact CW ((Kd.C_below HR1.out HB.out))); (case side2 => exact HC1.out); rintro e w40 ⟨v532, rfl, ho0, hb⟩; have HO533 := Aside0.mk (Kd.R_lower (Kd.R_newB ho0 (g := gb525) (o := .cells #[.string a2_0, .int .i64 a2_1, .int .i64 a2_2, .string a2_3] 100 (0, 0)) (KW BK525).out) (below_size TB)); replace BK524 := KB BK524 hb; replace BK525 := KB BK525 hb; replace HB := BS hb; (try clear hb); (try clear hb2); (try clear hk); (try clear hi); (try clear ho0); obtain ⟨Ao41, co41, eo41⟩ := Kd.R_slice HO533.out; subst eo41))
      go_ret
      exact ⟨TE, TB⟩
     ·rw [if_neg c34] at H
      have c34b0 : (a2_1 == 5) = false := beq_eq_false_iff_ne.mpr c34
      have c34b1 : (a2_1 != 5) = true := bne_iff_ne.mpr c34
      obtain rfl := Option.some.inj H
      go_enter Tryz.func153, Tryz.ntmps153
      go_wp2_with (first | ((with_reducible refine gate_dst (N := 4) rfl ?_); (try (refine gate_guard (by rfl) ?_; dsimp only)); refine bE 4 #[.string a0] 9 ?_; intro gb524 hg w42 hbox hb; have BK524 := Aside0.mk (hbox); have GE524 := bG hg; replace HB := BS hb; clear hb hbox hg) | ((with_reducible refine gate_dst (N := 6) rfl ?_); (try (refine gate_guard (by rfl) ?_; dsimp only)); refine bE 6 #[.string a2_0, .int .i64 a2_1, .int .i64 a2_2, .string a2_3] 100 ?_; intro gb525 hg w43 hbox hb; have BK525 := Aside0.mk (hbox); have GE525 := bG hg; replace HB := BS hb; have NB524_525 := bN BK524 hg; have NB525_524 := bM BK524 hg; replace BK524 := KB BK524 hb; clear hb hbox hg; have hnb44 := NB525_524.out; have hnc44 := NB524_525.out; have hcz45 := cz4 BK525))
      go_ret
      exact ⟨TE, TB⟩
    ·rw [if_neg c33] at H
     have c33b0 : (a3 == 4) = false := beq_eq_false_iff_ne.mpr c33
     have c33b1 : (a3 != 4) = true := bne_iff_ne.mpr c33
     by_cases c46 : a3 = 5
     ·rw [if_pos c46] at H
      have c46b0 : (a3 == 5) = true := beq_iff_eq.mpr c46
      have c46b1 : (a3 != 5) = false := bne_eq_false_iff_eq.mpr c46
      clear c46
      by_cases c47 : a2_1 = 5
      ·rw [if_pos c47] at H
       have c47b0 : (a2_1 == 5) = true := beq_iff_eq.mpr c47
       have c47b1 : (a2_1 != 5) = false := bne_eq_false_iff_eq.mpr c47
       clear c47
       obtain rfl := Option.some.inj H
       go_enter Tryz.func153, Tryz.ntmps153
       go_wp2_with (first | ((with_reducible refine gate_dst (N := 4) rfl ?_); (try (refine gate_guard (by rfl) ?_; dsimp only)); refine bE 4 #[.string a0] 9 ?_; intro gb524 hg w48 hbox hb; have BK524 := Aside0.mk (hbox); have GE524 := bG hg; replace HB := BS hb; clear hb hbox hg) | ((with_reducible refine gate_dst (N := 6) rfl ?_); (try (refine gate_guard (by rfl) ?_; dsimp only)); refine bE 6 #[.string a2_0, .int .i64 a2_1, .int .i64 a2_2, .string a2_3] 100 ?_; intro gb525 hg w49 hbox hb; have BK525 := Aside0.mk (hbox); have GE525 := bG hg; replace HB := BS hb; have NB524_525 := bN BK524 hg; have NB525_524 := bM BK524 hg; replace BK524 := KB BK524 hb; clear hb hbox hg; have hnb50 := NB525_524.out; have hnc50 := NB524_525.out; have hcz51 := cz4 BK525; have hcz52 := cz1 BK524))
       go_ret
       exact ⟨TE, TB⟩
      ·rw [if_neg c47] at H
       have c47b0 : (a2_1 == 5) = false := beq_eq_false_iff_ne.mpr c47
       have c47b1 : (a2_1 != 5) = true := bne_iff_ne.mpr c47
       obtain rfl := Option.some.inj H
       go_enter Tryz.func153, Tryz.ntmps153
       go_wp2_with (first | ((with_reducible refine gate_dst (N := 4) rfl ?_); (try (refine gate_guard (by rfl) ?_; dsimp only)); refine bE 4 #[.string a0] 9 ?_; intro gb524 hg w53 hbox hb; have BK524 := Aside0.mk (hbox); have GE524 := bG hg; replace HB := BS hb; clear hb hbox hg) | ((with_reducible refine gate_dst (N := 6) rfl ?_); (try (refine gate_guard (by rfl) ?_; dsimp only)); refine bE 6 #[.string a2_0, .int .i64 a2_1, .int .i64 a2_2, .string a2_3] 100 ?_; intro gb525 hg w54 hbox hb; have BK525 := Aside0.mk (hbox); have GE525 := bG hg; replace HB := BS hb; have NB524_525 := bN BK524 hg; have NB525_524 := bM BK524 hg; replace BK524 := KB BK524 hb; clear hb hbox hg; have hnb55 := NB525_524.out; have hnc55 := NB524_525.out; have hcz56 := cz4 BK525))
       go_ret
       exact ⟨TE, TB⟩
     ·rw [if_neg c46] at H
      have c46b0 : (a3 == 5) = false := beq_eq_false_iff_ne.mpr c46
      have c46b1 : (a3 != 5) = true := bne_iff_ne.mpr c46
      obtain ⟨t534, A57, H⟩ := bnd H
      obtain rfl := Option.some.inj H
      go_enter Tryz.func153, Tryz.ntmps153
      go_wp2_with (first | ((with_reducible refine gate_dst (N := 4) rfl ?_); (try (refine gate_guard (by rfl) ?_; dsimp only)); refine bE 4 #[.string a0] 9 ?_; intro gb524 hg w58 hbox hb; have BK524 := Aside0.mk (hbox); have GE524 := bG hg; replace HB := BS hb; clear hb hbox hg) | ((with_reducible refine gate_dst (N := 6) rfl ?_); (try (refine gate_guard (by rfl) ?_; dsimp only)); refine bE 6 #[.string a2_0, .int .i64 a2_1, .int .i64 a2_2, .string a2_3] 100 ?_; intro gb525 hg w59 hbox hb; have BK525 := Aside0.mk (hbox); have GE525 := bG hg; replace HB := BS hb; have NB524_525 := bN BK524 hg; have NB525_524 := bM BK524 hg; replace BK524 := KB BK524 hb; clear hb hbox hg) | ((with_reducible refine gate_callee (f := 80) rfl ?_); refine goesL_ (some 64) rfl rfl Tryz.func80 KR rfl #[.slice A1 l1.length c1, .func (.func 178) #[] #[.pointer (some ⟨gb524, 0, none⟩), .pointer (some ⟨gb525, 0, none⟩)]] rfl TA ?_; (with_reducible refine (slices_ContainsFunc_impl_Record_impl_Record_breaks_2.calls k _ _ l1 gb524 gb525 a0 a2_0 a2_1 a2_2 a2_3 t534 _ ?side1 ?side2 ?side3 ?side4 A57.out).mono ?_); (case side1 => exact CW ((Kd.C_below HR1.out HB.out))); (case side2 => exact HC1.out); (case side3 => exact (KW BK524).out); (case side4 => exact (KW BK525).out); rintro e w60 ⟨rfl, hb⟩; refine ⟨_, rfl, ?_⟩; replace BK524 := KB BK524 hb; replace BK525 := KB BK525 hb; replace HB := BS hb; (try clear hb); (try clear hb2); (try clear hk); (try clear hi)))
      go_ret
      exact ⟨TE, TB⟩
end
section
/-! ### impl_RuleOf_1: function 152 -/
def impl_RuleOf_1.f (k : Nat) (a0_0 : ByteArray) (a0_1 : Int) (a0_2 : Int) (a0_3 : ByteArray) (a1_0 : ByteArray) (l2_0 : List (S_Record)) (a3_0 : Int) : Option (Bool) := (impl_breaks.f k a1_0 l2_0 a0_0 a0_1 a0_2 a0_3 a3_0).bind fun t536 => (some t536)
theorem impl_RuleOf_1.calls (k : Nat) (a0_0 : ByteArray) (a0_1 : Int) (a0_2 : Int) (a0_3 : ByteArray) (g1_ : Nat) (a1_0 : ByteArray) (g2_ : Nat) (A2_0 : Option Addr) (c2_0 : Nat) (l2_0 : List (S_Record)) (g3_ : Nat) (a3_0 : Int) (r : Bool) (w : World) (hr2_0 : Kd.C k_Record w A2_0 l2_0.length l2_0) (hc2_0 : l2_0.length ≤ c2_0) (hkg1_ : w.heap[g1_]? = some (.cells #[.string a1_0] 9 (0, 0))) (hkg2_ : w.heap[g2_]? = some (.cells #[.slice A2_0 l2_0.length c2_0] 28 (0, 0))) (hkg3_ : w.heap[g3_]? = some (.cells #[.int .i64 a3_0] 3 (0, 0))) (h : impl_RuleOf_1.f k a0_0 a0_1 a0_2 a0_3 a1_0 l2_0 a3_0 = some r) :
  Calls Tryz.prog 152 #[.agg #[.string a0_0, .int .i64 a0_1, .int .i64 a0_2, .string a0_3], .pointer (some ⟨g1_, 0, none⟩), .pointer (some ⟨g2_, 0, none⟩), .pointer (some ⟨g3_, 0, none⟩)] w fun e w' => e = .returned (.bool r) ∧ Below w.heap.size w w' := by
 have hu100 := Tryz.underlying100
 have HR2_0 := Aside0.mk hr2_0
 have HC2_0 := Aside0.mk hc2_0
 clear hr2_0 hc2_0
 have BKrg1_ := Aside0.mk hkg1_
 clear hkg1_
 have BKrg2_ := Aside0.mk hkg2_
 clear hkg2_
 have BKrg3_ := Aside0.mk hkg3_
 clear hkg3_
 have HB := Aside0.mk (Below.refl w.heap.size w)
 have H : ((impl_breaks.f k a1_0 l2_0 a0_0 a0_1 a0_2 a0_3 a3_0).bind fun t536 => (some t536)) = some r := h
 clear h
 obtain ⟨t536, A5, H⟩ := bnd H
 obtain rfl := Option.some.inj H
 go_enter Tryz.func152, Tryz.ntmps152
 go_wp2_with (first | ((with_reducible refine gate_dst (N := 4) rfl ?_); refine bE 4 #[.string a0_0, .int .i64 a0_1, .int .i64 a0_2, .string a0_3] 100 ?_; intro gb535 hg w6 hbox hb; have BK535 := Aside0.mk (hbox); have GE535 := bG hg; replace HB := BS hb; have NB1_535 := bN BKrg1_ hg; have NB535_1 := bM BKrg1_ hg; replace BKrg1_ := KB BKrg1_ hb; have NB2_535 := bN BKrg2_ hg; have NB535_2 := bM BKrg2_ hg; replace BKrg2_ := KB BKrg2_ hb; have NB3_535 := bN BKrg3_ hg; have NB535_3 := bM BKrg3_ hg; replace BKrg3_ := KB BKrg3_ hb; clear hb hbox hg; have hnb7 := NB1_535.out; have hnc7 := NB535_1.out; have hcz8 := cz1 BKrg1_; have hnb9 := NB2_535.out; have hnc9 := NB535_2.out; have hcz10 := cz1 BKrg2_; have hnb11 := NB535_3.out; have hnc11 := NB3_535.out; have hcz12 := cz4 BK535; have hcz13 := cz1 BKrg3_) | ((with_reducible refine gate_callee (f := 153) rfl ?_); refine goesL_ (some 10) rfl rfl Tryz.func153 KR rfl #[.string a1_0, .slice A2_0 l2_0.length c2_0, .agg #[.string a0_0, .int .i64 a0_1, .int .i64 a0_2, .string a0_3], .int .i64 a3_0] rfl TA ?_; (with_reducible refine (impl_breaks.calls k a1_0 _ _ l2_0 a0_0 a0_1 a0_2 a0_3 a3_0 t536 _ ?side1 ?side2 A5.out).mono ?_); (case side1 => exact CW ((Kd.C_below HR2_0.out HB.out))); (case side2 => exact HC2_0.out); rintro e w14 ⟨rfl, hb⟩; refine ⟨_, rfl, ?_⟩; replace BKrg1_ := KB BKrg1_ hb; replace BKrg2_ := KB BKrg2_ hb; replace BKrg3_ := KB BKrg3_ hb; replace BK535 := KB BK535 hb; replace HB := BS hb; (try clear hb); (try clear hb2); (try clear hk); (try clear hi)))
 go_ret
 exact ⟨TE, TB⟩
end
section
/-! ### slices_IndexFunc_impl_Record_impl_Record_RuleOf_1: function 128 -/
def slices_IndexFunc_impl_Record_impl_Record_RuleOf_1.l0 : Nat → List (S_Record) → Int → Int → ByteArray → List (S_Record) → Int → Option (Int)
 | 0, _, _, _, _, _, _ => none
 | k + 1, x0, x7, x8, x59000, x60000, x61000 => if x8 < x7 then (if 0 ≤ x8 then (if x8 < (x0.length : Int) then ((impl_RuleOf_1.f k ((rd_TRecord x0 x8).f0) ((rd_TRecord x0 x8).f1) ((rd_TRecord x0 x8).f2) ((rd_TRecord x0 x8).f3) x59000 x60000 x61000).bind fun t538 => (if t538 = true then (some x8) else (slices_IndexFunc_impl_Record_impl_Record_RuleOf_1.l0 k x0 x7 (wrap64 (x8 + 1)) x59000 x60000 x61000))) else (none)) else (none)) else (some (-1))
def slices_IndexFunc_impl_Record_impl_Record_RuleOf_1.f (k : Nat) (l0 : List (S_Record)) (a1_0 : ByteArray) (l1_1 : List (S_Record)) (a1_2 : Int) : Option (Int) := slices_IndexFunc_impl_Record_impl_Record_RuleOf_1.l0 k l0 (l0.length : Int) 0 a1_0 l1_1 a1_2
theorem slices_IndexFunc_impl_Record_impl_Record_RuleOf_1.calls (k : Nat) (A0 : Option Addr) (c0 : Nat) (l0 : List (S_Record)) (g1_0_ g1_1_ g1_2_ : Nat) (a1_0 : ByteArray) (A1_1 : Option Addr) (c1_1 : Nat) (l1_1 : List (S_Record)) (a1_2 : Int) (r : Int) (w : World) (hr0 : Kd.C k_Record w A0 l0.length l0) (hc0 : l0.length ≤ c0) (hr1_1 : Kd.C k_Record w A1_1 l1_1.length l1_1) (hc1_1 : l1_1.length ≤ c1_1) (hkg1_0_ : w.heap[g1_0_]? = some (.cells #[.string a1_0] 9 (0, 0))) (hkg1_1_ : w.heap[g1_1_]? = some (.cells #[.slice A1_1 l1_1.length c1_1] 28 (0, 0))) (hkg1_2_ : w.heap[g1_2_]? = some (.cells #[.int .i64 a1_2] 3 (0, 0))) (h : slices_IndexFunc_impl_Record_impl_Record_RuleOf_1.f k l0 a1_0 l1_1 a1_2 = some r) :
  Calls Tryz.prog 128 #[.slice A0 l0.length c0, .func (.func 152) #[] #[.pointer (some ⟨g1_0_, 0, none⟩), .pointer (some ⟨g1_1_, 0, none⟩), .pointer (some ⟨g1_2_, 0, none⟩)]] w fun e w' => e = .returned (.int .i64 r) ∧ Below w.heap.size w w' := by
 have hu100 := Tryz.underlying100
 have HR0 := Aside0.mk hr0
 have HC0 := Aside0.mk hc0
 clear hr0 hc0
 have HR1_1 := Aside0.mk hr1_1
 have HC1_1 := Aside0.mk hc1_1
 clear hr1_1 hc1_1
 have BKrg1_0_ := Aside0.mk hkg1_0_
 clear hkg1_0_
 have BKrg1_1_ := Aside0.mk hkg1_1_
 clear hkg1_1_
 have BKrg1_2_ := Aside0.mk hkg1_2_
 clear hkg1_2_
 have HB := Aside0.mk (Below.refl w.heap.size w)
 have H : (slices_IndexFunc_impl_Record_impl_Record_RuleOf_1.l0 k l0 (l0.length : Int) 0 a1_0 l1_1 a1_2) = some r := h
 clear h
 have H' := Aside0.mk H
 clear H
 go_enter Tryz.func128, Tryz.ntmps128
 go_wp2
 go_loopg [8] k (fun kq v8 w' => ∃ (x8_1 : Int), v8 = .int .i64 x8_1 ∧ Aside0 (slices_IndexFunc_impl_Record_impl_Record_RuleOf_1.l0 kq l0 (l0.length : Int) x8_1 a1_0 l1_1 a1_2 = some r) ∧ Aside0 (kq ≤ k) ∧ Aside0 (w'.heap[g1_0_]? = some (.cells #[.string a1_0] 9 (0, 0))) ∧ Aside0 (w'.heap[g1_1_]? = some (.cells #[(.slice A1_1 l1_1.length c1_1)] 28 (0, 0))) ∧ Aside0 (w'.heap[g1_2_]? = some (.cells #[.int .i64 a1_2] 3 (0, 0))) ∧ Aside0 (Below w.heap.size w w'))
 case atStart => exact ⟨(0), TF, H', ⟨Nat.le_refl _⟩, KW BKrg1_0_, KW BKrg1_1_, KW BKrg1_2_, ⟨TB⟩⟩
 case round =>
  clear H'
  try clear c1
  try clear p2
  obtain ⟨x8_1, rfl, HA, HK1, BKrg1_0_, BKrg1_1_, BKrg1_2_, HB⟩ := hrel
  cases gk with
  | zero => exact absurd HA.out (by simp [slices_IndexFunc_impl_Record_impl_Record_RuleOf_1.l0])
  | succ k1 =>
   have H := HA.out
   clear HA
   simp only [slices_IndexFunc_impl_Record_impl_Record_RuleOf_1.l0] at H
   by_cases c3 : x8_1 < (l0.length : Int)
   ·rw [if_pos c3] at H
    have c3b0 : decide (x8_1 < (l0.length : Int)) = true := decide_eq_true c3
    clear c3
    obtain ⟨c4, H⟩ := ifn H
    have c4b0 : decide (0 ≤ x8_1) = true := decide_eq_true c4
    clear c4
    obtain ⟨c5, H⟩ := ifn H
    have c5b0 : decide (x8_1 < (l0.length : Int)) = true := decide_eq_true c5
    clear c5
    obtain ⟨t538, A6, H⟩ := bnd H
    by_cases c7 : t538 = true
    ·subst c7
     replace H := ift H
     obtain rfl := Option.some.inj H
     have p537 : 0 ≤ (x8_1 : Int) := TD
     have q537 : x8_1 < (l0.length : Int) := TD
     obtain ⟨ad537, e537, hx537_0, hx537_1, hx537_2, hx537_3⟩ := at_TRecord (Kd.C_below HR0.out HB.out) x8_1 p537 q537
     cases e537
     replace p537 := eq_true p537
     replace q537 := eq_true q537
     go_wp2_with (first | (go_at_call 152; (with_reducible refine (impl_RuleOf_1.calls k1 ((rd_TRecord l0 x8_1).f0) ((rd_TRecord l0 x8_1).f1) ((rd_TRecord l0 x8_1).f2) ((rd_TRecord l0 x8_1).f3) g1_0_ a1_0 g1_1_ A1_1 c1_1 l1_1 g1_2_ a1_2 true _ ?side1 ?side2 ?side3 ?side4 ?side5 A6.out).mono ?_); (case side1 => exact CW ((Kd.C_below HR1_1.out HB.out))); (case side2 => exact HC1_1.out); (case side3 => exact (KW BKrg1_0_).out); (case side4 => exact (KW BKrg1_1_).out); (case side5 => exact (KW BKrg1_2_).out); rintro e w8 ⟨rfl, hb⟩; replace BKrg1_0_ := KB BKrg1_0_ hb; replace BKrg1_1_ := KB BKrg1_1_ hb; replace BKrg1_2_ := KB BKrg1_2_ hb; replace HB := BS hb; (try clear hb); (try clear hb2); (try clear hk); (try clear hi)))
     go_ret
     exact ⟨TE, TB⟩
    ·replace c7 := Bool.eq_false_iff.mpr c7
     subst c7
     replace H := iff' H
     have H' := Aside0.mk H
     clear H
     have p537 : 0 ≤ (x8_1 : Int) := TD
     have q537 : x8_1 < (l0.length : Int) := TD
     obtain ⟨ad537, e537, hx537_0, hx537_1, hx537_2, hx537_3⟩ := at_TRecord (Kd.C_below HR0.out HB.out) x8_1 p537 q537
     cases e537
     replace p537 := eq_true p537
     replace q537 := eq_true q537
     go_wp2_with (first | (go_at_call 152; (with_reducible refine (impl_RuleOf_1.calls k1 ((rd_TRecord l0 x8_1).f0) ((rd_TRecord l0 x8_1).f1) ((rd_TRecord l0 x8_1).f2) ((rd_TRecord l0 x8_1).f3) g1_0_ a1_0 g1_1_ A1_1 c1_1 l1_1 g1_2_ a1_2 false _ ?side1 ?side2 ?side3 ?side4 ?side5 A6.out).mono ?_); (case side1 => exact CW ((Kd.C_below HR1_1.out HB.out))); (case side2 => exact HC1_1.out); (case side3 => exact (KW BKrg1_0_).out); (case side4 => exact (KW BKrg1_1_).out); (case side5 => exact (KW BKrg1_2_).out); rintro e w9 ⟨rfl, hb⟩; replace BKrg1_0_ := KB BKrg1_0_ hb; replace BKrg1_1_ := KB BKrg1_1_ hb; replace BKrg1_2_ := KB BKrg1_2_ hb; replace HB := BS hb; (try clear hb); (try clear hb2); (try clear hk); (try clear hi)))
     go_roundg k1
     case measure => have := HK1.out; omega
     case rel => exact ⟨(wrap64 (x8_1 + 1)), TF, H', ⟨TM⟩, KW BKrg1_0_, KW BKrg1_1_, KW BKrg1_2_, ⟨TB⟩⟩
   ·rw [if_neg c3] at H
    have c3b0 : decide (x8_1 < (l0.length : Int)) = false := decide_eq_false c3
    clear c3
    obtain rfl := Option.some.inj H
    go_wp2
    go_ret
    exact ⟨TE, TB⟩
end
section
/-! ### slices_ContainsFunc_impl_Record_impl_Record_RuleOf_1: function 80 -/
def slices_ContainsFunc_impl_Record_impl_Record_RuleOf_1.f (k : Nat) (l0 : List (S_Record)) (a1_0 : ByteArray) (l1_1 : List (S_Record)) (a1_2 : Int) : Option (Bool) := (slices_IndexFunc_impl_Record_impl_Record_RuleOf_1.f k l0 a1_0 l1_1 a1_2).bind fun t539 => (some (decide (t539 ≥ 0)))
theorem slices_ContainsFunc_impl_Record_impl_Record_RuleOf_1.calls (k : Nat) (A0 : Option Addr) (c0 : Nat) (l0 : List (S_Record)) (g1_0_ g1_1_ g1_2_ : Nat) (a1_0 : ByteArray) (A1_1 : Option Addr) (c1_1 : Nat) (l1_1 : List (S_Record)) (a1_2 : Int) (r : Bool) (w : World) (hr0 : Kd.C k_Record w A0 l0.length l0) (hc0 : l0.length ≤ c0) (hr1_1 : Kd.C k_Record w A1_1 l1_1.length l1_1) (hc1_1 : l1_1.length ≤ c1_1) (hkg1_0_ : w.heap[g1_0_]? = some (.cells #[.string a1_0] 9 (0, 0))) (hkg1_1_ : w.heap[g1_1_]? = some (.cells #[.slice A1_1 l1_1.length c1_1] 28 (0, 0))) (hkg1_2_ : w.heap[g1_2_]? = some (.cells #[.int .i64 a1_2] 3 (0, 0))) (h : slices_ContainsFunc_impl_Record_impl_Record_RuleOf_1.f k l0 a1_0 l1_1 a1_2 = some r) :
  Calls Tryz.prog 80 #[.slice A0 l0.length c0, .func (.func 152) #[] #[.pointer (some ⟨g1_0_, 0, none⟩), .pointer (some ⟨g1_1_, 0, none⟩), .pointer (some ⟨g1_2_, 0, none⟩)]] w fun e w' => e = .returned (.bool r) ∧ Below w.heap.size w w' := by
 have HR0 := Aside0.mk hr0
 have HC0 := Aside0.mk hc0
 clear hr0 hc0
 have HR1_1 := Aside0.mk hr1_1
 have HC1_1 := Aside0.mk hc1_1
 clear hr1_1 hc1_1
 have BKrg1_0_ := Aside0.mk hkg1_0_
 clear hkg1_0_
 have BKrg1_1_ := Aside0.mk hkg1_1_
 clear hkg1_1_
 have BKrg1_2_ := Aside0.mk hkg1_2_
 clear hkg1_2_
 have HB := Aside0.mk (Below.refl w.heap.size w)
 have H : ((slices_IndexFunc_impl_Record_impl_Record_RuleOf_1.f k l0 a1_0 l1_1 a1_2).bind fun t539 => (some (decide (t539 ≥ 0)))) = some r := h
 clear h
 obtain ⟨t539, A3, H⟩ := bnd H
 obtain rfl := Option.some.inj H
 go_enter Tryz.func80, Tryz.ntmps80
 go_wp2_with (first | ((with_reducible refine gate_callee (f := 128) rfl ?_); refine goesL_ (some 7) rfl rfl Tryz.func128 KR rfl #[.slice A0 l0.length c0, .func (.func 152) #[] #[.pointer (some ⟨g1_0_, 0, none⟩), .pointer (some ⟨g1_1_, 0, none⟩), .pointer (some ⟨g1_2_, 0, none⟩)]] rfl TA ?_; (with_reducible refine (slices_IndexFunc_impl_Record_impl_Record_RuleOf_1.calls k _ _ l0 g1_0_ g1_1_ g1_2_ a1_0 A1_1 c1_1 l1_1 a1_2 t539 _ ?side1 ?side2 ?side3 ?side4 ?side5 ?side6 ?side7 A3.out).mono ?_); (case side1 => exact CW (HR0.out)); (case side2 => exact HC0.out); (case side3 => exact CW (HR1_1.out)); (case side4 => exact HC1_1.out); (case side5 => exact (KW BKrg1_0_).out); (case side6 => exact (KW BKrg1_1_).out); (case side7 => exact (KW BKrg1_2_).out); rintro e w4 ⟨rfl, hb⟩; refine ⟨_, rfl, ?_⟩; replace BKrg1_0_ := KB BKrg1_0_ hb; replace BKrg1_1_ := KB BKrg1_1_ hb; replace BKrg1_2_ := KB BKrg1_2_ hb; replace HB := BS hb; (try clear hb); (try clear hb2); (try clear hk); (try clear hi)))
 go_ret
 exact ⟨TE, TB⟩
end
section
/-! ### impl_RuleOf: function 112 -/
def impl_RuleOf.l0 : Nat → ByteArray → List (S_Record) → Int → Option (Int)
 | 0, _, _, _ => none
 | k + 1, x541000, x542000, x544000 => if x544000 ≤ 6 then ((slices_ContainsFunc_impl_Record_impl_Record_RuleOf_1.f k x542000 x541000 x542000 x544000).bind fun t544 => (if t544 = true then (some x544000) else (if x544000 = 2 then ((impl_at.f k x542000 x541000 6).bind fun t545 => (if (t545.length : Int) = 1 then (impl_RuleOf.l0 k x541000 x542000 (wrap64 (x544000 + 1))) else (some x544000))) else (impl_RuleOf.l0 k x541000 x542000 (wrap64 (x544000 + 1)))))) else (some 0)
def impl_RuleOf.f (k : Nat) (a0 : ByteArray) (l1 : List (S_Record)) : Option (Int) := (impl_isWhole.f k a0 l1).bind fun t542 => (if t542 = true then (impl_RuleOf.l0 k a0 l1 1) else (some 9))
theorem impl_RuleOf.calls (k : Nat) (a0 : ByteArray) (A1 : Option Addr) (c1 : Nat) (l1 : List (S_Record)) (r : Int) (w : World) (hr1 : Kd.C k_Record w A1 l1.length l1) (hc1 : l1.length ≤ c1) (hG_ : Glob w) (h : impl_RuleOf.f k a0 l1 = some r) :
  Calls Tryz.prog 112 #[.string a0, .slice A1 l1.length c1] w fun e w' => e = .returned (.int .i64 r) ∧ Below w.heap.size w w' := by
 have HR1 := Aside0.mk hr1
 have HC1 := Aside0.mk hc1
 clear hr1 hc1
 have HGL := Aside0.mk hG_
 clear hG_
 have HB := Aside0.mk (Below.refl w.heap.size w)
 have H : ((impl_isWhole.f k a0 l1).bind fun t542 => (if t542 = true then (impl_RuleOf.l0 k a0 l1 1) else (some 9))) = some r := h
 clear h
 obtain ⟨t542, A3, H⟩ := bnd H
 by_cases c4 : t542 = true
 ·subst c4
  replace H := ift H
  have H' := Aside0.mk H
  clear H
  go_enter Tryz.func112, Tryz.ntmps112
  go_wp2_with (first | ((with_reducible refine gate_dst (N := 2) rfl ?_); (try (refine gate_guard (by rfl) ?_; dsimp only)); refine bE 2 #[.string a0] 9 ?_; intro gb540 hg w5 hbox hb; have BK540 := Aside0.mk (hbox); have GE540 := bG hg; replace HB := BS hb; clear hb hbox hg) | ((with_reducible refine gate_dst (N := 3) rfl ?_); (try (refine gate_guard (by rfl) ?_; dsimp only)); refine bE 3 #[.slice A1 l1.length c1] 28 ?_; intro gb541 hg w6 hbox hb; have BK541 := Aside0.mk (hbox); have GE541 := bG hg; replace HB := BS hb; have NB540_541 := bN BK540 hg; have NB541_540 := bM BK540 hg; replace BK540 := KB BK540 hb; clear hb hbox hg; have hnb7 := NB540_541.out; have hnc7 := NB541_540.out; have hcz8 := cz1 BK540; have hcz9 := cz1 BK541) | ((with_reducible refine gate_callee (f := 151) rfl ?_); refine goesL_ (some 8) rfl rfl Tryz.func151 KR rfl #[.string a0, .slice A1 l1.length c1] rfl TA ?_; (with_reducible refine (impl_isWhole.calls k a0 _ _ l1 true _ ?side1 ?side2 ?side3 A3.out).mono ?_); (case side1 => exact CW ((Kd.C_below HR1.out HB.out))); (case side2 => exact HC1.out); (case side3 => exact GW HGL); rintro e w10 ⟨rfl, hb⟩; refine ⟨_, rfl, ?_⟩; replace BK540 := KB BK540 hb; replace BK541 := KB BK541 hb; replace HB := BS hb; (try clear hb); (try clear hb2); (try clear hk); (try clear hi)) | ((with_reducible refine gate_dst (N := 5) rfl ?_); (try (refine gate_guard (by rfl) ?_; dsimp only)); refine bE 5 #[.int .i64 0] 3 ?_; intro gb543 hg w11 hbox hb; have BK543 := Aside0.mk (hbox); have GE543 := bG hg; replace HB := BS hb; have NB540_543 := bN BK540 hg; have NB543_540 := bM BK540 hg; replace BK540 := KB BK540 hb; have NB541_543 := bN BK541 hg; have NB543_541 := bM BK541 hg; replace BK541 := KB BK541 hb; clear hb hbox hg; have hnb12 := NB543_540.out; have hnc12 := NB540_543.out; have hnb13 := NB543_541.out; have hnc13 := NB541_543.out; have hcz14 := cz1 BK543))
  go_loopg [5] k (fun kq v5 w' => ∃ (gb543 : Nat) (xb : Int), v5 = .pointer (some ⟨gb543, 0, none⟩) ∧ Aside0 (impl_RuleOf.l0 kq a0 l1 xb = some r) ∧ Aside0 (kq ≤ k) ∧ Aside0 (w'.heap[gb540]? = some (.cells #[.string a0] 9 (0, 0))) ∧ Aside0 (w'.heap[gb541]? = some (.cells #[(.slice A1 l1.length c1)] 28 (0, 0))) ∧ Aside0 (w'.heap[gb543]? = some (.cells #[.int .i64 xb] 3 (0, 0))) ∧ Aside0 (gb540 ≠ gb543) ∧ Aside0 (gb541 ≠ gb543) ∧ Aside0 (Below w.heap.size w w'))
  case atStart => exact ⟨_, _, rfl, H', ⟨Nat.le_refl _⟩, ⟨TS⟩, ⟨TS⟩, ⟨TS⟩, NB540_543, NB541_543, ⟨TB⟩⟩
  case round =>
   clear H'
   try clear c1
   try clear p2
   try clear c4
   try clear c7
   try clear c11
   try clear c12
   try clear c13
   try clear hcz14
   try clear hcz8
   try clear hcz9
   try clear hfz14_0
   try clear hfz8_0
   try clear hfz9_0
   obtain ⟨gb543, xb, hv_, HA, HK1, BK540, BK541, BK543, NB540_543, NB541_543, HB⟩ := hrel
   subst hv_
   have NB543_540 : Aside0 (gb543 ≠ gb540) := ⟨NB540_543.out.symm⟩
   have NB543_541 : Aside0 (gb543 ≠ gb541) := ⟨NB541_543.out.symm⟩
   cases gk with
   | zero => exact absurd HA.out (by simp [impl_RuleOf.l0])
   | succ k1 =>
    have H := HA.out
    clear HA
    simp only [impl_RuleOf.l0] at H
    by_cases c15 : xb ≤ 6
    ·rw [if_pos c15] at H
     have c15b0 : decide (xb ≤ 6) = true := decide_eq_true c15
     clear c15
     obtain ⟨t544, A16, H⟩ := bnd H
     by_cases c17 : t544 = true
     ·subst c17
      replace H := ift H
      obtain rfl := Option.some.inj H
      have hnb18 := NB543_540.out
      have hnc18 := NB540_543.out
      have hnb19 := NB543_541.out
      have hnc19 := NB541_543.out
      have hcz20 := cz1 BK543
      have hnb21 := NB541_540.out
      have hnc21 := NB540_541.out
      have hcz22 := cz1 BK541
      go_wp2_with (first | ((with_reducible refine gate_callee (f := 80) rfl ?_); refine goesL_ (some 16) rfl rfl Tryz.func80 KR rfl #[.slice A1 l1.length c1, .func (.func 152) #[] #[.pointer (some ⟨gb540, 0, none⟩), .pointer (some ⟨gb541, 0, none⟩), .pointer (some ⟨gb543, 0, none⟩)]] rfl TA ?_; (with_reducible refine (slices_ContainsFunc_impl_Record_impl_Record_RuleOf_1.calls k1 _ _ l1 gb540 gb541 gb543 a0 A1 c1 l1 xb true _ ?side1 ?side2 ?side3 ?side4 ?side5 ?side6 ?side7 A16.out).mono ?_); (case side1 => exact CW ((Kd.C_below HR1.out HB.out))); (case side2 => exact HC1.out); (case side3 => exact CW ((Kd.C_below HR1.out HB.out))); (case side4 => exact HC1.out); (case side5 => exact (KW BK540).out); (case side6 => exact (KW BK541).out); (case side7 => exact (KW BK543).out); rintro e w23 ⟨rfl, hb⟩; refine ⟨_, rfl, ?_⟩; replace BK540 := KB BK540 hb; replace BK541 := KB BK541 hb; replace BK543 := KB BK543 hb; replace HB := BS hb; (try clear hb); (try clear hb2); (try clear hk); (try clear hi); have hcz24 := cz1 BK543))
      go_ret
      exact ⟨TE, TB⟩
     ·replace c17 := Bool.eq_false_iff.mpr c17
      subst c17
      replace H := iff' H
      by_cases c25 : xb = 2
      ·rw [if_pos c25] at H
       have c25b0 : (xb == 2) = true := beq_iff_eq.mpr c25
       have c25b1 : (xb != 2) = false := bne_eq_false_iff_eq.mpr c25
       clear c25
       obtain ⟨t545, A26, H⟩ := bnd H
       by_cases c27 : (t545.length : Int) = 1
       ·rw [if_pos c27] at H
        have c27b0 : ((t545.length : Int) == 1) = true := beq_iff_eq.mpr c27
        have c27b1 : ((t545.length : Int) != 1) = false := bne_eq_false_iff_eq.mpr c27
        clear c27
        have H' := Aside0.mk H
        clear H
        have hnb28 := NB543_540.out
        have hnc28 := NB540_543.out
        have hnb29 := NB543_541.out
        have hnc29 := NB541_543.out
        have hcz30 := cz1 BK543
        have hnb31 := NB541_540.out
        have hnc31 := NB540_541.out
        have hcz32 := cz1 BK541
        go_wp2_with (first | ((with_reducible refine gate_callee (f := 80) rfl ?_); refine goesL_ (some 16) rfl rfl Tryz.func80 KR rfl #[.slice A1 l1.length c1, .func (.func 152) #[] #[.pointer (some ⟨gb540, 0, none⟩), .pointer (some ⟨gb541, 0, none⟩), .pointer (some ⟨gb543, 0, none⟩)]] rfl TA ?_; (with_reducible refine (slices_ContainsFunc_impl_Record_impl_Record_RuleOf_1.calls k1 _ _ l1 gb540 gb541 gb543 a0 A1 c1 l1 xb false _ ?side1 ?side2 ?side3 ?side4 ?side5 ?side6 ?side7 A16.out).mono ?_); (case side1 => exact CW ((Kd.C_below HR1.out HB.out))); (case side2 => exact HC1.out); (case side3 => exact CW ((Kd.C_below HR1.out HB.out))); (case side4 => exact HC1.out); (case side5 => exact (KW BK540).out); (case side6 => exact (KW BK541).out); (case side7 => exact (KW BK543).out); rintro e w33 ⟨rfl, hb⟩; refine ⟨_, rfl, ?_⟩; replace BK540 := KB BK540 hb; replace BK541 := KB BK541 hb; replace BK543 := KB BK543 hb; replace HB := BS hb; (try clear hb); (try clear hb2); (try clear hk); (try clear hi); have hcz34 := cz1 BK543; have hcz35 := cz1 BK541; have hcz36 := cz1 BK540) | (go_at_call 85; (with_reducible refine (impl_at.calls k1 _ _ l1 a0 6 t545 _ ?side1 ?side2 A26.out).mono ?_); (case side1 => exact CW ((Kd.C_below HR1.out HB.out))); (case side2 => exact HC1.out); rintro e w37 ⟨v546, rfl, ho0, hb⟩; have HO547 := RL ho0; replace BK540 := KB BK540 hb; replace BK541 := KB BK541 hb; replace BK543 := KB BK543 hb; replace HB := BS hb; (try clear hb); (try clear hb2); (try clear hk); (try clear hi); (try clear ho0); obtain ⟨Ao38, co38, eo38⟩ := Kd.R_slice HO547.out; subst eo38; have hcz39 := cz1 BK543) | ((with_reducible refine gate_dst (N := 5) rfl ?_); (try (refine gate_guard (by rfl) ?_; dsimp only)); refine bE 5 #[.int .i64 0] 3 ?_; intro gb548 hg w40 hbox hb; replace HO547 := RB HO547 hb; have BK548 := Aside0.mk (hbox); have GE548 := bG hg; replace HB := BS hb; have NB540_548 := bN BK540 hg; have NB548_540 := bM BK540 hg; replace BK540 := KB BK540 hb; have NB541_548 := bN BK541 hg; have NB548_541 := bM BK541 hg; replace BK541 := KB BK541 hb; have NB543_548 := bN BK543 hg; have NB548_543 := bM BK543 hg; replace BK543 := KB BK543 hb; clear hb hbox hg; have hnb41 := NB548_540.out; have hnc41 := NB540_548.out; have hnb42 := NB548_541.out; have hnc42 := NB541_548.out; have hnb43 := NB548_543.out; have hnc43 := NB543_548.out; have hcz44 := cz1 BK548))
        go_roundg k1
        case measure => have := HK1.out; omega
        case rel => exact ⟨_, _, rfl, H', ⟨TM⟩, ⟨TS⟩, ⟨TS⟩, ⟨TS⟩, NB540_548, NB541_548, ⟨TB⟩⟩
       ·rw [if_neg c27] at H
        have c27b0 : ((t545.length : Int) == 1) = false := beq_eq_false_iff_ne.mpr c27
        have c27b1 : ((t545.length : Int) != 1) = true := bne_iff_ne.mpr c27
        obtain rfl := Option.some.inj H
        have hnb45 := NB543_540.out
        have hnc45 := NB540_543.out
        have hnb46 := NB543_541.out
        have hnc46 := NB541_543.out
        have hcz47 := cz1 BK543
        have hnb48 := NB541_540.out
        have hnc48 := NB540_541.out
        have hcz49 := cz1 BK541
        go_wp2_with (first | ((with_reducible refine gate_callee (f := 80) rfl ?_); refine goesL_ (some 16) rfl rfl Tryz.func80 KR rfl #[.slice A1 l1.length c1, .func (.func 152) #[] #[.pointer (some ⟨gb540, 0, none⟩), .pointer (some ⟨gb541, 0, none⟩), .pointer (some ⟨gb543, 0, none⟩)]] rfl TA ?_; (with_reducible refine (slices_ContainsFunc_impl_Record_impl_Record_RuleOf_1.calls k1 _ _ l1 gb540 gb541 gb543 a0 A1 c1 l1 xb false _ ?side1 ?side2 ?side3 ?side4 ?side5 ?side6 ?side7 A16.out).mono ?_); (case side1 => exact CW ((Kd.C_below HR1.out HB.out))); (case side2 => exact HC1.out); (case side3 => exact CW ((Kd.C_below HR1.out HB.out))); (case side4 => exact HC1.out); (case side5 => exact (KW BK540).out); (case side6 => exact (KW BK541).out); (case side7 => exact (KW BK543).out); rintro e w50 ⟨rfl, hb⟩; refine ⟨_, rfl, ?_⟩; replace BK540 := KB BK540 hb; replace BK541 := KB BK541 hb; replace BK543 := KB BK543 hb; replace HB := BS hb; (try clear hb); (try clear hb2); (try clear hk); (try clear hi); have hcz51 := cz1 BK543; have hcz52 := cz1 BK541; have hcz53 := cz1 BK540) | (go_at_call 85; (with_reducible refine (impl_at.calls k1 _ _ l1 a0 6 t545 _ ?side1 ?side2 A26.out).mono ?_); (case side1 => exact CW ((Kd.C_below HR1.out HB.out))); (case side2 => exact HC1.out); rintro e w54 ⟨v546, rfl, ho0, hb⟩; have HO547 := RL ho0; replace BK540 := KB BK540 hb; replace BK541 := KB BK541 hb; replace BK543 := KB BK543 hb; replace HB := BS hb; (try clear hb); (try clear hb2); (try clear hk); (try clear hi); (try clear ho0); obtain ⟨Ao55, co55, eo55⟩ := Kd.R_slice HO547.out; subst eo55; have hcz56 := cz1 BK543))
        go_ret
        exact ⟨TE, TB⟩
      ·rw [if_neg c25] at H
       have c25b0 : (xb == 2) = false := beq_eq_false_iff_ne.mpr c25
       have c25b1 : (xb != 2) = true := bne_iff_ne.mpr c25
       have H' := Aside0.mk H
       clear H
       have hnb57 := NB543_540.out
       have hnc57 := NB540_543.out
       have hnb58 := NB543_541.out
       have hnc58 := NB541_543.out
       have hcz59 := cz1 BK543
       have hnb60 := NB541_540.out
       have hnc60 := NB540_541.out
       have hcz61 := cz1 BK541
       go_wp2_with (first | ((with_reducible refine gate_callee (f := 80) rfl ?_); refine goesL_ (some 16) rfl rfl Tryz.func80 KR rfl #[.slice A1 l1.length c1, .func (.func 152) #[] #[.pointer (some ⟨gb540, 0, none⟩), .pointer (some ⟨gb541, 0, none⟩), .pointer (some ⟨gb543, 0, none⟩)]] rfl TA ?_; (with_reducible refine (slices_ContainsFunc_impl_Record_impl_Record_RuleOf_1.calls k1 _ _ l1 gb540 gb541 gb543 a0 A1 c1 l1 xb false _ ?side1 ?side2 ?side3 ?side4 ?side5 ?side6 ?side7 A16.out).mono ?_); (case side1 => exact CW ((Kd.C_below HR1.out HB.out))); (case side2 => exact HC1.out); (case side3 => exact CW ((Kd.C_below HR1.out HB.out))); (case side4 => exact HC1.out); (case side5 => exact (KW BK540).out); (case side6 => exact (KW BK541).out); (case side7 => exact (KW BK543).out); rintro e w62 ⟨rfl, hb⟩; refine ⟨_, rfl, ?_⟩; replace BK540 := KB BK540 hb; replace BK541 := KB BK541 hb; replace BK543 := KB BK543 hb; replace HB := BS hb; (try clear hb); (try clear hb2); (try clear hk); (try clear hi); have hcz63 := cz1 BK543) | ((with_reducible refine gate_dst (N := 5) rfl ?_); (try (refine gate_guard (by rfl) ?_; dsimp only)); refine bE 5 #[.int .i64 0] 3 ?_; intro gb549 hg w64 hbox hb; have BK549 := Aside0.mk (hbox); have GE549 := bG hg; replace HB := BS hb; have NB540_549 := bN BK540 hg; have NB549_540 := bM BK540 hg; replace BK540 := KB BK540 hb; have NB541_549 := bN BK541 hg; have NB549_541 := bM BK541 hg; replace BK541 := KB BK541 hb; have NB543_549 := bN BK543 hg; have NB549_543 := bM BK543 hg; replace BK543 := KB BK543 hb; clear hb hbox hg; have hnb65 := NB549_540.out; have hnc65 := NB540_549.out; have hnb66 := NB549_541.out; have hnc66 := NB541_549.out; have hnb67 := NB549_543.out; have hnc67 := NB543_549.out; have hcz68 := cz1 BK549))
       go_roundg k1
       case measure => have := HK1.out; omega
       case rel => exact ⟨_, _, rfl, H', ⟨TM⟩, ⟨TS⟩, ⟨TS⟩, ⟨TS⟩, NB540_549, NB541_549, ⟨TB⟩⟩
    ·rw [if_neg c15] at H
     have c15b0 : decide (xb ≤ 6) = false := decide_eq_false c15
     clear c15
     obtain rfl := Option.some.inj H
     have hnb69 := NB543_540.out
     have hnc69 := NB540_543.out
     have hnb70 := NB543_541.out
     have hnc70 := NB541_543.out
     have hcz71 := cz1 BK543
     go_wp2
     go_ret
     exact ⟨TE, TB⟩
 ·replace c4 := Bool.eq_false_iff.mpr c4
  subst c4
  replace H := iff' H
  obtain rfl := Option.some.inj H
  go_enter Tryz.func112, Tryz.ntmps112
  go_wp2_with (first | ((with_reducible refine gate_dst (N := 2) rfl ?_); (try (refine gate_guard (by rfl) ?_; dsimp only)); refine bE 2 #[.string a0] 9 ?_; intro gb540 hg w72 hbox hb; have BK540 := Aside0.mk (hbox); have GE540 := bG hg; replace HB := BS hb; clear hb hbox hg) | ((with_reducible refine gate_dst (N := 3) rfl ?_); (try (refine gate_guard (by rfl) ?_; dsimp only)); refine bE 3 #[.slice A1 l1.length c1] 28 ?_; intro gb541 hg w73 hbox hb; have BK541 := Aside0.mk (hbox); have GE541 := bG hg; replace HB := BS hb; have NB540_541 := bN BK540 hg; have NB541_540 := bM BK540 hg; replace BK540 := KB BK540 hb; clear hb hbox hg; have hnb74 := NB540_541.out; have hnc74 := NB541_540.out; have hcz75 := cz1 BK540; have hcz76 := cz1 BK541) | ((with_reducible refine gate_callee (f := 151) rfl ?_); refine goesL_ (some 8) rfl rfl Tryz.func151 KR rfl #[.string a0, .slice A1 l1.length c1] rfl TA ?_; (with_reducible refine (impl_isWhole.calls k a0 _ _ l1 false _ ?side1 ?side2 ?side3 A3.out).mono ?_); (case side1 => exact CW ((Kd.C_below HR1.out HB.out))); (case side2 => exact HC1.out); (case side3 => exact GW HGL); rintro e w77 ⟨rfl, hb⟩; refine ⟨_, rfl, ?_⟩; replace BK540 := KB BK540 hb; replace BK541 := KB BK541 hb; replace HB := BS hb; (try clear hb); (try clear hb2); (try clear hk); (try clear hi)))
  go_ret
  exact ⟨TE, TB⟩
end
section
/-! ### strconv_Itoa: function 154 -/
def strconv_Itoa.f (a0 : Int) : Option (ByteArray) := if -9223372036854775808 ≤ a0 ∧ a0 ≤ 9223372036854775807 then some ⟨(Go.Lib.itoa a0).toArray⟩ else none
theorem strconv_Itoa.calls (a0 : Int) (r : ByteArray) (w : World) (hG_ : Glob w) (h : strconv_Itoa.f a0 = some r) :
  Calls Tryz.prog 154 #[.int .i64 a0] w fun e w' => e = .returned (.string r) ∧ Below w.heap.size w w' := by
 unfold strconv_Itoa.f at h
 split at h
 ·rename_i h1
  obtain rfl := Option.some.inj h
  exact num_itoa a0 h1.1 h1.2 w hG_
 ·cases h
end
section
/-! ### impl_serialText: function 113 -/
def impl_serialText.f (a0 : Int) : Option (ByteArray) := (strconv_Itoa.f (Int.tmod a0 4294967296)).bind fun t550 => (some t550)
theorem impl_serialText.calls (a0 : Int) (r : ByteArray) (w : World) (hG_ : Glob w) (h : impl_serialText.f a0 = some r) :
  Calls Tryz.prog 113 #[.int .i64 a0] w fun e w' => e = .returned (.string r) ∧ Below w.heap.size w w' := by
 have HGL := Aside0.mk hG_
 clear hG_
 have HB := Aside0.mk (Below.refl w.heap.size w)
 have H : ((strconv_Itoa.f (Int.tmod a0 4294967296)).bind fun t550 => (some t550)) = some r := h
 clear h
 obtain ⟨t550, A2, H⟩ := bnd H
 obtain rfl := Option.some.inj H
 go_enter Tryz.func113, Tryz.ntmps113
 go_wp2_with (first | ((with_reducible refine gate_callee (f := 154) rfl ?_); refine goesL_ (some 5) rfl rfl Tryz.func154 KR rfl #[.int .i64 (Int.tmod a0 4294967296)] rfl TA ?_; (with_reducible refine (strconv_Itoa.calls (Int.tmod a0 4294967296) t550 _ ?side1 A2.out).mono ?_); (case side1 => exact GW HGL); rintro e w3 ⟨rfl, hb⟩; refine ⟨_, rfl, ?_⟩; replace HB := BS hb; (try clear hb); (try clear hb2); (try clear hk); (try clear hi)))
 go_ret
 exact ⟨TE, TB⟩
end
end Go.Proofs.YtioefechhknnlaaGreatDoor.Pp
