/- The functions that the law reaches, one Lean function and its proof for each; written by wip/pp of this workplace, joined by claimit.py. -/
import Derived.Test.YthohohfmdieohaaGreatDoorProg
import Derived.Below
import Derived.Deep.Draws
import Derived.Deep.AppendLies
import Derived.Maps.AppendAt
import Derived.OwnWalk
import Derived.Laws.BytesArg
import Derived.Laws.MakeOwn
import Derived.Laws.OwnMore
import Derived.Deep.OwnRows
import Derived.Tactics
import Derived.Lib.ConvBytes
import Derived.Laws.Slices
import Derived.WalkKit
import Derived.KernelRfl
import Derived.RowKit3
import Derived.Deep.LoopGhost
import Derived.Deep.QuietTactic
import Derived.BigQuiet
import Derived.WideLaws
import Derived.Deep.DeepCutAuto
import Derived.Deep.CutBlock
import Derived.Deep.RegionHeld3
import Derived.Laws.Rows
import Derived.Lib.AppendStr
import Derived.ArgAppend
import Derived.Laws.IdiomCopy
import Derived.OrdersHeld
import Derived.Laws.BitsLemmas
import Derived.RowKit
import Derived.Test.YthohohfmdieohaaGreatDoorKFnExactCutAboveW
import Derived.Test.YthohohfmdieohaaGreatDoorJFnExactCutAbove0
import Derived.Test.YthohohfmdieohaaGreatDoorJFnExactCutAbove1
namespace Go.Proofs.YthohohfmdieohaaGreatDoor.Pp
open Go.RowKit Go.Proofs.YthohohfmdieohaaGreatDoorW.PrintWords Go.Proofs.YthohohfmdieohaaGreatDoorW.PrintLast Go.Proofs.YthohohfmdieohaaGreatDoorW.PrintMore
attribute [local go_sem] max2_int min2_int max_two min_two max_three min_three max_four min_four   -- for this text's walks alone
set_option linter.unusedVariables false
set_option linter.unusedSimpArgs false
set_option maxHeartbeats 8000000
set_option maxRecDepth 100000

section
/-! ### impl_at: function 154 -/
def impl_at.l0 : Nat → ByteArray → Int → List (S_Record) → List (S_Record) → Int → Int → Option ((List (S_Record)))
 | 0, _, _, _, _, _, _ => none
 | k + 1, x1, x2, x7, x11, x12, x13 => if x13 < x12 then (if 0 ≤ x13 then (if x13 < (x11.length : Int) then (if ((rd_TRecord x11 x13).f0).toList = x1.toList then (if x2 = 0 then (if x7.length < 2932031007402 then (impl_at.l0 k x1 x2 (x7 ++ [(⟨(rd_TRecord x11 x13).f0, (rd_TRecord x11 x13).f1, (rd_TRecord x11 x13).f2, (rd_TRecord x11 x13).f3⟩ : S_Record)]) x11 x12 (wrap64 (x13 + 1))) else (none)) else (if ((rd_TRecord x11 x13).f1) = x2 then (if x7.length < 2932031007402 then (impl_at.l0 k x1 x2 (x7 ++ [(⟨(rd_TRecord x11 x13).f0, (rd_TRecord x11 x13).f1, (rd_TRecord x11 x13).f2, (rd_TRecord x11 x13).f3⟩ : S_Record)]) x11 x12 (wrap64 (x13 + 1))) else (none)) else (impl_at.l0 k x1 x2 x7 x11 x12 (wrap64 (x13 + 1))))) else (impl_at.l0 k x1 x2 x7 x11 x12 (wrap64 (x13 + 1)))) else (none)) else (none)) else (some x7)
def impl_at.f (k : Nat) (l0 : List (S_Record)) (a1 : ByteArray) (a2 : Int) : Option ((List (S_Record))) := impl_at.l0 k a1 a2 (([] : List (S_Record))) l0 (l0.length : Int) 0
theorem impl_at.calls (k : Nat) (A0 : Option Addr) (c0 : Nat) (l0 : List (S_Record)) (a1 : ByteArray) (a2 : Int) (r : List (S_Record)) (w : World) (hr0 : Kd.C k_Record w A0 l0.length l0) (hc0 : l0.length ≤ c0) (h : impl_at.f k l0 a1 a2 = some r) :
  Calls Tryz.prog 154 #[.slice A0 l0.length c0, .string a1, .int .i64 a2] w fun e w' => ∃ v0_ : Value, e = .returned (v0_) ∧ Kd.R k_Record 93 w' w.heap.size (fun _ => True) v0_ r ∧ Below w.heap.size w w' := by
 have hu93 := Tryz.underlying93
 have HR0 := Aside0.mk hr0
 have HC0 := Aside0.mk hc0
 clear hr0 hc0
 have HB := Aside0.mk (Below.refl w.heap.size w)
 have H : (impl_at.l0 k a1 a2 (([] : List (S_Record))) l0 (l0.length : Int) 0) = some r := h
 clear h
 obtain ⟨y613, hy613⟩ : ∃ y_ : List (S_Record), y_ = (([] : List (S_Record))) := ⟨_, rfl⟩
 replace H : (impl_at.l0 k a1 a2 y613 l0 (l0.length : Int) 0) = some r := by first | (rw [hy613]; with_reducible exact H) | (have H2_ := (Option.bind_some _ _).symm.trans H; rw [hy613]; with_reducible exact H2_) | (have H2_ := (Option.bind_some _ _).symm.trans H; with_reducible exact H2_) | with_reducible exact H | (rw [hy613]; exact H) | exact H
 have Ny613 := Aside0.mk hy613
 clear hy613
 have H' := Aside0.mk H
 clear H
 go_enter Tryz.func154, Tryz.ntmps154
 go_wp2_with (first | ((with_reducible refine gate_dst (N := 10) rfl ?_); refine Kd.R_lit k_Record _ 93 ?hg (N := 10) ?hd (xs := ([] : List (S_Record))) (inner := []) (ok := fun _ => True) (okp := fun _ => True) ?hr ?hp (fun _ hk => hk) trivial (Below.refl _ _) (Nat.le_refl _) (by simp) ?_; (case hd => rfl); (case hg => rfl); (case hr => first | (go_simp; done) | (go_simp; rfl)); (case hp => exact (Reps.none _ _)); intro v614 w4 ho5 hb hg_ hnew_; clear hg_ hnew_; (first | rw [← Ny613.out] at ho5 | (simp only [Int.reduceToNat] at ho5; rw [← Ny613.out] at ho5)); have HO615 := RL ho5; replace HB := BS hb; clear hb ho5))
 go_loopg [7, 13] k (fun kq v7 v13 w' => ∃ (x7_1 : List (S_Record)) (x13_1 : Int), v13 = .int .i64 x13_1 ∧ Aside0 (impl_at.l0 kq a1 a2 x7_1 l0 (l0.length : Int) x13_1 = some r) ∧ Aside0 (kq ≤ k) ∧ Aside0 (Kd.R k_Record 93 w' w.heap.size (fun _ => True) v7 x7_1) ∧ Aside0 (Below w.heap.size w w'))
 case atStart => exact ⟨(y613), (0), TF, H', ⟨Nat.le_refl _⟩, RW HO615, ⟨TB⟩⟩
 case round =>
  clear H'
  try clear c1
  try clear p2
  obtain ⟨x7_1, x13_1, rfl, HA, HK1, HO_7, HB⟩ := hrel
  cases gk with
  | zero => exact absurd HA.out (by simp [impl_at.l0])
  | succ k1 =>
   have H := HA.out
   clear HA
   simp only [impl_at.l0] at H
   by_cases c6 : x13_1 < (l0.length : Int)
   ·rw [if_pos c6] at H
    have c6b0 : decide (x13_1 < (l0.length : Int)) = true := decide_eq_true c6
    clear c6
    obtain ⟨c7, H⟩ := ifn H
    have c7b0 : decide (0 ≤ x13_1) = true := decide_eq_true c7
    clear c7
    obtain ⟨c8, H⟩ := ifn H
    have c8b0 : decide (x13_1 < (l0.length : Int)) = true := decide_eq_true c8
    clear c8
    by_cases c9 : ((rd_TRecord l0 x13_1).f0).toList = a1.toList
    ·rw [if_pos c9] at H
     have c9b0 : (((rd_TRecord l0 x13_1).f0).toList == a1.toList) = true := beq_iff_eq.mpr c9
     have c9b1 : (((rd_TRecord l0 x13_1).f0).toList != a1.toList) = false := bne_eq_false_iff_eq.mpr c9
     clear c9
     by_cases c10 : a2 = 0
     ·rw [if_pos c10] at H
      have c10b0 : (a2 == 0) = true := beq_iff_eq.mpr c10
      have c10b1 : (a2 != 0) = false := bne_eq_false_iff_eq.mpr c10
      clear c10
      obtain ⟨c11, H⟩ := ifn H
      have LMc11 := Aside0.mk c11
      clear c11
      obtain ⟨y618, hy618⟩ : ∃ y_ : List (S_Record), y_ = (x7_1 ++ [(⟨(rd_TRecord l0 x13_1).f0, (rd_TRecord l0 x13_1).f1, (rd_TRecord l0 x13_1).f2, (rd_TRecord l0 x13_1).f3⟩ : S_Record)]) := ⟨_, rfl⟩
      replace H : (impl_at.l0 k1 a1 a2 y618 l0 (l0.length : Int) (wrap64 (x13_1 + 1))) = some r := by first | (rw [hy618]; with_reducible exact H) | (have H2_ := (Option.bind_some _ _).symm.trans H; rw [hy618]; with_reducible exact H2_) | (have H2_ := (Option.bind_some _ _).symm.trans H; with_reducible exact H2_) | with_reducible exact H | (rw [hy618]; exact H) | exact H
      have Ny618 := Aside0.mk hy618
      clear hy618
      have H' := Aside0.mk H
      clear H
      have p616 : 0 ≤ (x13_1 : Int) := TD
      have q616 : x13_1 < (l0.length : Int) := TD
      obtain ⟨ad616, e616, hx616_0, hx616_1, hx616_2, hx616_3⟩ := at_TRecord (Kd.C_below HR0.out HB.out) x13_1 p616 q616
      cases e616
      replace p616 := eq_true p616
      replace q616 := eq_true q616
      go_wp2_with (first | ((with_reducible refine gate_dst (N := 9) rfl ?_); refine bE 9 #[.string (⟨#[]⟩ : ByteArray), .int .i64 0, .int .i64 0, .string (⟨#[]⟩ : ByteArray)] 93 ?_; intro gb617 hg w12 hbox hb; replace HO_7 := Aside0.mk (Kd.R_below (Kd.R_elderB (RW HO_7).out gb617 (Nat.le_of_eq hg.symm)) hb); have BK617 := Aside0.mk (hbox); have GE617 := bG hg; replace HB := BS hb; clear hb hbox hg; have hcz13 := cz4 BK617) | ((with_reducible refine gate_builtin (b := .append) (xs := #[.tmp 31, .tmp 33]) rfl ?_); at_builtin; refine Kd.R_append k_Record (w0 := w) w.heap.size rfl (.tmp 31) (.tmp 33) 27 93 (.agg #[(.string ⟨#[]⟩), (.int .i64 0), (.int .i64 0), (.string ⟨#[]⟩)]) 48 rfl Tryz.underlying27 info93 rfl (by decide) (by omega) u7 x7_1 (⟨(rd_TRecord l0 x13_1).f0, (rd_TRecord l0 x13_1).f1, (rd_TRecord l0 x13_1).f2, (rd_TRecord l0 x13_1).f3⟩ : S_Record) [.string ((rd_TRecord l0 x13_1).f0), .int .i64 ((rd_TRecord l0 x13_1).f1), .int .i64 ((rd_TRecord l0 x13_1).f2), .string ((rd_TRecord l0 x13_1).f3)] (fun k_ => k_ ≠ gb617) (fun _ => False) rfl (by first | (go_simp; done) | (go_simp; rfl)) ?aP (fun _ hk => hk.elim) ?aF ?aO ?aB ?aS ?aL ?_; (case aP => exact k_Record_mkM _ _ _ (⟨(rd_TRecord l0 x13_1).f0, (rd_TRecord l0 x13_1).f1, (rd_TRecord l0 x13_1).f2, (rd_TRecord l0 x13_1).f3⟩ : S_Record)); (case aB => exact TB); (case aF => exact (fun k_ hk => Kd.freshB (g := gb617) (o := .cells #[.string ((rd_TRecord l0 x13_1).f0), .int .i64 ((rd_TRecord l0 x13_1).f1), .int .i64 ((rd_TRecord l0 x13_1).f2), .string ((rd_TRecord l0 x13_1).f3)] 93 (0, 0)) (by (with_reducible repeat (first | refine blk_drewN ?_ _ | refine blk_drew ?_ | refine blk_alloc ?_ _)); refine blk_put (cs := #[.string ((rd_TRecord l0 x13_1).f0), .int .i64 ((rd_TRecord l0 x13_1).f1), .int .i64 ((rd_TRecord l0 x13_1).f2), .string (⟨#[]⟩ : ByteArray)]) ?_ 3 _ rfl; (with_reducible repeat (first | refine blk_drewN ?_ _ | refine blk_drew ?_ | refine blk_alloc ?_ _)); refine blk_put (cs := #[.string ((rd_TRecord l0 x13_1).f0), .int .i64 ((rd_TRecord l0 x13_1).f1), .int .i64 0, .string (⟨#[]⟩ : ByteArray)]) ?_ 2 _ rfl; (with_reducible repeat (first | refine blk_drewN ?_ _ | refine blk_drew ?_ | refine blk_alloc ?_ _)); refine blk_put (cs := #[.string ((rd_TRecord l0 x13_1).f0), .int .i64 0, .int .i64 0, .string (⟨#[]⟩ : ByteArray)]) ?_ 1 _ rfl; (with_reducible repeat (first | refine blk_drewN ?_ _ | refine blk_drew ?_ | refine blk_alloc ?_ _)); refine blk_put (cs := #[.string (⟨#[]⟩ : ByteArray), .int .i64 0, .int .i64 0, .string (⟨#[]⟩ : ByteArray)]) ?_ 0 _ rfl; (with_reducible repeat (first | refine blk_drewN ?_ _ | refine blk_drew ?_ | refine blk_alloc ?_ _)); exact BK617.out) k_ hk)); (case aO => exact (by (with_reducible repeat (first | apply Kd.R_alloc | apply Kd.R_drewN | apply Kd.R_drew)); exact Kd.R_mono (Kd.R_far (p := ⟨gb617, 3, none⟩) (Kd.R_far (p := ⟨gb617, 2, none⟩) (Kd.R_far (p := ⟨gb617, 1, none⟩) (Kd.R_far (p := ⟨gb617, 0, none⟩) (Kd.R_mono HO_7.out (fun k_ hk => (⟨hk, hk.2⟩ : _ ∧ k_ ≠ gb617))) (fun _ hk => hk.2) (.string ((rd_TRecord l0 x13_1).f0))) (fun _ hk => hk.2) (.int .i64 ((rd_TRecord l0 x13_1).f1))) (fun _ hk => hk.2) (.int .i64 ((rd_TRecord l0 x13_1).f2))) (fun _ hk => hk.2) (.string ((rd_TRecord l0 x13_1).f3))) (fun _ hk => hk.1.2))); (case aS => exact (below_size TB)); (case aL => have := LMc11.out; omega); intro v619 w14 ho hb hg hat; rw [← Ny618.out] at ho; have n0_ := Aside0.mk (blk_grown (g := gb617) (o := .cells #[.string ((rd_TRecord l0 x13_1).f0), .int .i64 ((rd_TRecord l0 x13_1).f1), .int .i64 ((rd_TRecord l0 x13_1).f2), .string ((rd_TRecord l0 x13_1).f3)] 93 (0, 0)) (by (with_reducible repeat (first | refine blk_drewN ?_ _ | refine blk_drew ?_ | refine blk_alloc ?_ _)); refine blk_put (cs := #[.string ((rd_TRecord l0 x13_1).f0), .int .i64 ((rd_TRecord l0 x13_1).f1), .int .i64 ((rd_TRecord l0 x13_1).f2), .string (⟨#[]⟩ : ByteArray)]) ?_ 3 _ rfl; (with_reducible repeat (first | refine blk_drewN ?_ _ | refine blk_drew ?_ | refine blk_alloc ?_ _)); refine blk_put (cs := #[.string ((rd_TRecord l0 x13_1).f0), .int .i64 ((rd_TRecord l0 x13_1).f1), .int .i64 0, .string (⟨#[]⟩ : ByteArray)]) ?_ 2 _ rfl; (with_reducible repeat (first | refine blk_drewN ?_ _ | refine blk_drew ?_ | refine blk_alloc ?_ _)); refine blk_put (cs := #[.string ((rd_TRecord l0 x13_1).f0), .int .i64 0, .int .i64 0, .string (⟨#[]⟩ : ByteArray)]) ?_ 1 _ rfl; (with_reducible repeat (first | refine blk_drewN ?_ _ | refine blk_drew ?_ | refine blk_alloc ?_ _)); refine blk_put (cs := #[.string (⟨#[]⟩ : ByteArray), .int .i64 0, .int .i64 0, .string (⟨#[]⟩ : ByteArray)]) ?_ 0 _ rfl; (with_reducible repeat (first | refine blk_drewN ?_ _ | refine blk_drew ?_ | refine blk_alloc ?_ _)); exact BK617.out) hg (Kd.R_away HO_7.out (fun _ hk => hk.2))); have n1_ := Aside0.mk (hb); have n2_ := Aside0.mk (ho); clear BK617; clear HB; clear HO_7; have BK617 := n0_; have HB := n1_; have HO620 := n2_; clear n0_ n1_ n2_; clear ho hb hg hat))
      go_roundg k1
      case measure => have := HK1.out; omega
      case rel => exact ⟨(y618), (wrap64 (x13_1 + 1)), TF, H', ⟨TM⟩, ⟨by (with_reducible repeat (first | apply Kd.R_alloc | apply Kd.R_drewN | apply Kd.R_drew)); exact Kd.R_mono HO620.out (fun _ hk => trivial)⟩, ⟨TB⟩⟩
     ·rw [if_neg c10] at H
      have c10b0 : (a2 == 0) = false := beq_eq_false_iff_ne.mpr c10
      have c10b1 : (a2 != 0) = true := bne_iff_ne.mpr c10
      by_cases c15 : ((rd_TRecord l0 x13_1).f1) = a2
      ·rw [if_pos c15] at H
       have c15b0 : (((rd_TRecord l0 x13_1).f1) == a2) = true := beq_iff_eq.mpr c15
       have c15b1 : (((rd_TRecord l0 x13_1).f1) != a2) = false := bne_eq_false_iff_eq.mpr c15
       clear c15
       obtain ⟨c16, H⟩ := ifn H
       have LMc16 := Aside0.mk c16
       clear c16
       obtain ⟨y621, hy621⟩ : ∃ y_ : List (S_Record), y_ = (x7_1 ++ [(⟨(rd_TRecord l0 x13_1).f0, (rd_TRecord l0 x13_1).f1, (rd_TRecord l0 x13_1).f2, (rd_TRecord l0 x13_1).f3⟩ : S_Record)]) := ⟨_, rfl⟩
       replace H : (impl_at.l0 k1 a1 a2 y621 l0 (l0.length : Int) (wrap64 (x13_1 + 1))) = some r := by first | (rw [hy621]; with_reducible exact H) | (have H2_ := (Option.bind_some _ _).symm.trans H; rw [hy621]; with_reducible exact H2_) | (have H2_ := (Option.bind_some _ _).symm.trans H; with_reducible exact H2_) | with_reducible exact H | (rw [hy621]; exact H) | exact H
       have Ny621 := Aside0.mk hy621
       clear hy621
       have H' := Aside0.mk H
       clear H
       have p616 : 0 ≤ (x13_1 : Int) := TD
       have q616 : x13_1 < (l0.length : Int) := TD
       obtain ⟨ad616, e616, hx616_0, hx616_1, hx616_2, hx616_3⟩ := at_TRecord (Kd.C_below HR0.out HB.out) x13_1 p616 q616
       cases e616
       replace p616 := eq_true p616
       replace q616 := eq_true q616
       go_wp2_with (first | ((with_reducible refine gate_dst (N := 9) rfl ?_); refine bE 9 #[.string (⟨#[]⟩ : ByteArray), .int .i64 0, .int .i64 0, .string (⟨#[]⟩ : ByteArray)] 93 ?_; intro gb617 hg w17 hbox hb; replace HO_7 := Aside0.mk (Kd.R_below (Kd.R_elderB (RW HO_7).out gb617 (Nat.le_of_eq hg.symm)) hb); have BK617 := Aside0.mk (hbox); have GE617 := bG hg; replace HB := BS hb; clear hb hbox hg; have hcz18 := cz4 BK617) | ((with_reducible refine gate_builtin (b := .append) (xs := #[.tmp 31, .tmp 33]) rfl ?_); at_builtin; refine Kd.R_append k_Record (w0 := w) w.heap.size rfl (.tmp 31) (.tmp 33) 27 93 (.agg #[(.string ⟨#[]⟩), (.int .i64 0), (.int .i64 0), (.string ⟨#[]⟩)]) 48 rfl Tryz.underlying27 info93 rfl (by decide) (by omega) u7 x7_1 (⟨(rd_TRecord l0 x13_1).f0, (rd_TRecord l0 x13_1).f1, (rd_TRecord l0 x13_1).f2, (rd_TRecord l0 x13_1).f3⟩ : S_Record) [.string ((rd_TRecord l0 x13_1).f0), .int .i64 ((rd_TRecord l0 x13_1).f1), .int .i64 ((rd_TRecord l0 x13_1).f2), .string ((rd_TRecord l0 x13_1).f3)] (fun k_ => k_ ≠ gb617) (fun _ => False) rfl (by first | (go_simp; done) | (go_simp; rfl)) ?aP (fun _ hk => hk.elim) ?aF ?aO ?aB ?aS ?aL ?_; (case aP => exact k_Record_mkM _ _ _ (⟨(rd_TRecord l0 x13_1).f0, (rd_TRecord l0 x13_1).f1, (rd_TRecord l0 x13_1).f2, (rd_TRecord l0 x13_1).f3⟩ : S_Record)); (case aB => exact TB); (case aF => exact (fun k_ hk => Kd.freshB (g := gb617) (o := .cells #[.string ((rd_TRecord l0 x13_1).f0), .int .i64 ((rd_TRecord l0 x13_1).f1), .int .i64 ((rd_TRecord l0 x13_1).f2), .string ((rd_TRecord l0 x13_1).f3)] 93 (0, 0)) (by (with_reducible repeat (first | refine blk_drewN ?_ _ | refine blk_drew ?_ | refine blk_alloc ?_ _)); refine blk_put (cs := #[.string ((rd_TRecord l0 x13_1).f0), .int .i64 ((rd_TRecord l0 x13_1).f1), .int .i64 ((rd_TRecord l0 x13_1).f2), .string (⟨#[]⟩ : ByteArray)]) ?_ 3 _ rfl; (with_reducible repeat (first | refine blk_drewN ?_ _ | refine blk_drew ?_ | refine blk_alloc ?_ _)); refine blk_put (cs := #[.string ((rd_TRecord l0 x13_1).f0), .int .i64 ((rd_TRecord l0 x13_1).f1), .int .i64 0, .string (⟨#[]⟩ : ByteArray)]) ?_ 2 _ rfl; (with_reducible repeat (first | refine blk_drewN ?_ _ | refine blk_drew ?_ | refine blk_alloc ?_ _)); refine blk_put (cs := #[.string ((rd_TRecord l0 x13_1).f0), .int .i64 0, .int .i64 0, .string (⟨#[]⟩ : ByteArray)]) ?_ 1 _ rfl; (with_reducible repeat (first | refine blk_drewN ?_ _ | refine blk_drew ?_ | refine blk_alloc ?_ _)); refine blk_put (cs := #[.string (⟨#[]⟩ : ByteArray), .int .i64 0, .int .i64 0, .string (⟨#[]⟩ : ByteArray)]) ?_ 0 _ rfl; (with_reducible repeat (first | refine blk_drewN ?_ _ | refine blk_drew ?_ | refine blk_alloc ?_ _)); exact BK617.out) k_ hk)); (case aO => exact (by (with_reducible repeat (first | apply Kd.R_alloc | apply Kd.R_drewN | apply Kd.R_drew)); exact Kd.R_mono (Kd.R_far (p := ⟨gb617, 3, none⟩) (Kd.R_far (p := ⟨gb617, 2, none⟩) (Kd.R_far (p := ⟨gb617, 1, none⟩) (Kd.R_far (p := ⟨gb617, 0, none⟩) (Kd.R_mono HO_7.out (fun k_ hk => (⟨hk, hk.2⟩ : _ ∧ k_ ≠ gb617))) (fun _ hk => hk.2) (.string ((rd_TRecord l0 x13_1).f0))) (fun _ hk => hk.2) (.int .i64 ((rd_TRecord l0 x13_1).f1))) (fun _ hk => hk.2) (.int .i64 ((rd_TRecord l0 x13_1).f2))) (fun _ hk => hk.2) (.string ((rd_TRecord l0 x13_1).f3))) (fun _ hk => hk.1.2))); (case aS => exact (below_size TB)); (case aL => have := LMc16.out; omega); intro v622 w19 ho hb hg hat; rw [← Ny621.out] at ho; have n0_ := Aside0.mk (blk_grown (g := gb617) (o := .cells #[.string ((rd_TRecord l0 x13_1).f0), .int .i64 ((rd_TRecord l0 x13_1).f1), .int .i64 ((rd_TRecord l0 x13_1).f2), .string ((rd_TRecord l0 x13_1).f3)] 93 (0, 0)) (by (with_reducible repeat (first | refine blk_drewN ?_ _ | refine blk_drew ?_ | refine blk_alloc ?_ _)); refine blk_put (cs := #[.string ((rd_TRecord l0 x13_1).f0), .int .i64 ((rd_TRecord l0 x13_1).f1), .int .i64 ((rd_TRecord l0 x13_1).f2), .string (⟨#[]⟩ : ByteArray)]) ?_ 3 _ rfl; (with_reducible repeat (first | refine blk_drewN ?_ _ | refine blk_drew ?_ | refine blk_alloc ?_ _)); refine blk_put (cs := #[.string ((rd_TRecord l0 x13_1).f0), .int .i64 ((rd_TRecord l0 x13_1).f1), .int .i64 0, .string (⟨#[]⟩ : ByteArray)]) ?_ 2 _ rfl; (with_reducible repeat (first | refine blk_drewN ?_ _ | refine blk_drew ?_ | refine blk_alloc ?_ _)); refine blk_put (cs := #[.string ((rd_TRecord l0 x13_1).f0), .int .i64 0, .int .i64 0, .string (⟨#[]⟩ : ByteArray)]) ?_ 1 _ rfl; (with_reducible repeat (first | refine blk_drewN ?_ _ | refine blk_drew ?_ | refine blk_alloc ?_ _)); refine blk_put (cs := #[.string (⟨#[]⟩ : ByteArray), .int .i64 0, .int .i64 0, .string (⟨#[]⟩ : ByteArray)]) ?_ 0 _ rfl; (with_reducible repeat (first | refine blk_drewN ?_ _ | refine blk_drew ?_ | refine blk_alloc ?_ _)); exact BK617.out) hg (Kd.R_away HO_7.out (fun _ hk => hk.2))); have n1_ := Aside0.mk (hb); have n2_ := Aside0.mk (ho); clear BK617; clear HB; clear HO_7; have BK617 := n0_; have HB := n1_; have HO623 := n2_; clear n0_ n1_ n2_; clear ho hb hg hat))
       go_roundg k1
       case measure => have := HK1.out; omega
       case rel => exact ⟨(y621), (wrap64 (x13_1 + 1)), TF, H', ⟨TM⟩, ⟨by (with_reducible repeat (first | apply Kd.R_alloc | apply Kd.R_drewN | apply Kd.R_drew)); exact Kd.R_mono HO623.out (fun _ hk => trivial)⟩, ⟨TB⟩⟩
      ·rw [if_neg c15] at H
       have c15b0 : (((rd_TRecord l0 x13_1).f1) == a2) = false := beq_eq_false_iff_ne.mpr c15
       have c15b1 : (((rd_TRecord l0 x13_1).f1) != a2) = true := bne_iff_ne.mpr c15
       have H' := Aside0.mk H
       clear H
       have p616 : 0 ≤ (x13_1 : Int) := TD
       have q616 : x13_1 < (l0.length : Int) := TD
       obtain ⟨ad616, e616, hx616_0, hx616_1, hx616_2, hx616_3⟩ := at_TRecord (Kd.C_below HR0.out HB.out) x13_1 p616 q616
       cases e616
       replace p616 := eq_true p616
       replace q616 := eq_true q616
       go_wp2_with (first | ((with_reducible refine gate_dst (N := 9) rfl ?_); refine bE 9 #[.string (⟨#[]⟩ : ByteArray), .int .i64 0, .int .i64 0, .string (⟨#[]⟩ : ByteArray)] 93 ?_; intro gb617 hg w20 hbox hb; replace HO_7 := Aside0.mk (Kd.R_below (Kd.R_elderB (RW HO_7).out gb617 (Nat.le_of_eq hg.symm)) hb); have BK617 := Aside0.mk (hbox); have GE617 := bG hg; replace HB := BS hb; clear hb hbox hg; have hcz21 := cz4 BK617))
       go_roundg k1
       case measure => have := HK1.out; omega
       case rel => exact ⟨(x7_1), (wrap64 (x13_1 + 1)), TF, H', ⟨TM⟩, ⟨by (with_reducible repeat (first | apply Kd.R_alloc | apply Kd.R_drewN | apply Kd.R_drew)); exact Kd.R_mono (Kd.R_far (p := ⟨gb617, 3, none⟩) (Kd.R_far (p := ⟨gb617, 2, none⟩) (Kd.R_far (p := ⟨gb617, 1, none⟩) (Kd.R_far (p := ⟨gb617, 0, none⟩) (Kd.R_mono HO_7.out (fun k_ hk => (⟨hk, hk.2⟩ : _ ∧ k_ ≠ gb617))) (fun _ hk => hk.2) (.string ((rd_TRecord l0 x13_1).f0))) (fun _ hk => hk.2) (.int .i64 ((rd_TRecord l0 x13_1).f1))) (fun _ hk => hk.2) (.int .i64 ((rd_TRecord l0 x13_1).f2))) (fun _ hk => hk.2) (.string ((rd_TRecord l0 x13_1).f3))) (fun _ hk => trivial)⟩, ⟨TB⟩⟩
    ·rw [if_neg c9] at H
     have c9b0 : (((rd_TRecord l0 x13_1).f0).toList == a1.toList) = false := beq_eq_false_iff_ne.mpr c9
     have c9b1 : (((rd_TRecord l0 x13_1).f0).toList != a1.toList) = true := bne_iff_ne.mpr c9
     have H' := Aside0.mk H
     clear H
     have p616 : 0 ≤ (x13_1 : Int) := TD
     have q616 : x13_1 < (l0.length : Int) := TD
     obtain ⟨ad616, e616, hx616_0, hx616_1, hx616_2, hx616_3⟩ := at_TRecord (Kd.C_below HR0.out HB.out) x13_1 p616 q616
     cases e616
     replace p616 := eq_true p616
     replace q616 := eq_true q616
     go_wp2_with (first | ((with_reducible refine gate_dst (N := 9) rfl ?_); refine bE 9 #[.string (⟨#[]⟩ : ByteArray), .int .i64 0, .int .i64 0, .string (⟨#[]⟩ : ByteArray)] 93 ?_; intro gb617 hg w22 hbox hb; replace HO_7 := Aside0.mk (Kd.R_below (Kd.R_elderB (RW HO_7).out gb617 (Nat.le_of_eq hg.symm)) hb); have BK617 := Aside0.mk (hbox); have GE617 := bG hg; replace HB := BS hb; clear hb hbox hg; have hcz23 := cz4 BK617))
     go_roundg k1
     case measure => have := HK1.out; omega
     case rel => exact ⟨(x7_1), (wrap64 (x13_1 + 1)), TF, H', ⟨TM⟩, ⟨by (with_reducible repeat (first | apply Kd.R_alloc | apply Kd.R_drewN | apply Kd.R_drew)); exact Kd.R_mono (Kd.R_far (p := ⟨gb617, 3, none⟩) (Kd.R_far (p := ⟨gb617, 2, none⟩) (Kd.R_far (p := ⟨gb617, 1, none⟩) (Kd.R_far (p := ⟨gb617, 0, none⟩) (Kd.R_mono HO_7.out (fun k_ hk => (⟨hk, hk.2⟩ : _ ∧ k_ ≠ gb617))) (fun _ hk => hk.2) (.string ((rd_TRecord l0 x13_1).f0))) (fun _ hk => hk.2) (.int .i64 ((rd_TRecord l0 x13_1).f1))) (fun _ hk => hk.2) (.int .i64 ((rd_TRecord l0 x13_1).f2))) (fun _ hk => hk.2) (.string ((rd_TRecord l0 x13_1).f3))) (fun _ hk => trivial)⟩, ⟨TB⟩⟩
   ·rw [if_neg c6] at H
    have c6b0 : decide (x13_1 < (l0.length : Int)) = false := decide_eq_false c6
    clear c6
    obtain rfl := Option.some.inj H
    go_wp2
    go_ret
    exact ⟨_, TE, (RW HO_7).out, TB⟩
end
section
/-! ### impl_numberIn: function 208 -/
def impl_numberIn.f (a0 : ByteArray) (a1 : Int) : Option (Int × Bool) :=
 if a0.size ≤ 281474976710656 then
  match Go.Lib.atoiAll a0.data.toList with
  | .ok v => some (v, decide (0 ≤ v ∧ v ≤ a1) && (Go.Lib.itoa v == a0.data.toList))
  | .range => some (Go.Lib.atoiSat a0.data.toList, false)
  | _ => some (0, false)
 else none
theorem num_eqs (v : Int) (s : ByteArray) : ((⟨(Go.Lib.itoa v).toArray⟩ : ByteArray).toList == s.toList) = (Go.Lib.itoa v == s.data.toList) := by
 rw [Go.Lib.toList_data, Go.Lib.toList_data]
set_option maxHeartbeats 1000000 in
theorem impl_numberIn.calls (a0 : ByteArray) (a1 : Int) (r1 : Int) (r2 : Bool) (w : World) (hG_ : Glob w) (h : impl_numberIn.f a0 a1 = some (r1, r2)) :
  Calls Tryz.prog 208 #[.string a0, .int .i64 a1] w fun e w' => e = .returned (.tuple #[.int .i64 r1, .bool r2]) ∧ Below w.heap.size w w' := by
 unfold impl_numberIn.f at h
 split at h
 ·rename_i hsz
  cases hA : Go.Lib.atoiAll a0.data.toList with
  | range =>
   rw [hA] at h
   simp only [Option.some.injEq, Prod.mk.injEq] at h
   obtain ⟨rfl, rfl⟩ := h
   go_enter Tryz.func208, Tryz.ntmps208
   go_wp2_with (go_at_call 227; (with_reducible refine (num_atoi_range a0 hsz hA _ hG_).mono ?_); rintro e w1 ⟨tp, p, rfl, hb⟩)
   go_ret2
   exact ⟨rfl, hb⟩
  | ok v =>
   rw [hA] at h
   simp only [Option.some.injEq, Prod.mk.injEq] at h
   obtain ⟨rfl, rfl⟩ := h
   obtain ⟨vb0, vb1⟩ := Go.Lib.atoiAll_bounds hA
   by_cases hv : 0 ≤ v ∧ v ≤ a1
   ·have hW : impl_within.f v 0 a1 = some true := by
     unfold impl_within.f
     rw [if_pos hv.1]
     simp [hv.2]
    have hd : decide (0 ≤ v ∧ v ≤ a1) = true := decide_eq_true hv
    rw [hd, Bool.true_and, ← num_eqs]
    have HB := Aside0.mk (Below.refl w.heap.size w)
    go_enter Tryz.func208, Tryz.ntmps208
    go_wp2_with (first | (go_at_call 227; (with_reducible refine (num_atoi_ok a0 hsz v hA _).mono ?_); rintro e w1 ⟨rfl, hb⟩; have n0_ := Aside0.mk (below_step HB.out hb); clear HB hb; have HB := n0_; clear n0_) | (go_at_call 86; (with_reducible refine (impl_within.calls v 0 a1 true _ hW).mono ?_); rintro e w' ⟨rfl, ⟨nd, rfl⟩⟩) | (go_at_call 181; (with_reducible refine (num_itoa v vb0 vb1 _ (Glob.below hG_ TB)).mono ?_); rintro e w3 ⟨rfl, hb⟩; have n0_ := BS hb; clear HB hb; have HB := n0_; clear n0_))
    go_ret2
    exact ⟨TF, TB⟩
   ·have hW : impl_within.f v 0 a1 = some false := by
     unfold impl_within.f
     by_cases h0 : v ≥ 0
     ·rw [if_pos h0]
      have : ¬ v ≤ a1 := fun h => hv ⟨h0, h⟩
      simp [this]
     ·rw [if_neg h0]
    have hd : decide (0 ≤ v ∧ v ≤ a1) = false := decide_eq_false hv
    rw [hd, Bool.false_and]
    have HB := Aside0.mk (Below.refl w.heap.size w)
    go_enter Tryz.func208, Tryz.ntmps208
    go_wp2_with (first | (go_at_call 227; (with_reducible refine (num_atoi_ok a0 hsz v hA _).mono ?_); rintro e w1 ⟨rfl, hb⟩; have n0_ := Aside0.mk (below_step HB.out hb); clear HB hb; have HB := n0_; clear n0_) | (go_at_call 86; (with_reducible refine (impl_within.calls v 0 a1 false _ hW).mono ?_); rintro e w' ⟨rfl, ⟨nd, rfl⟩⟩))
    go_ret2
    exact ⟨TF, TB⟩
  | _ =>
   have hnn : noNum (Go.Lib.atoiAll a0.data.toList) := by rw [hA]; trivial
   rw [hA] at h
   simp only [Option.some.injEq, Prod.mk.injEq] at h
   obtain ⟨rfl, rfl⟩ := h
   go_enter Tryz.func208, Tryz.ntmps208
   go_wp2_with (go_at_call 227; (with_reducible refine (num_atoi_syntax a0 hsz hnn _ hG_).mono ?_); rintro e w1 ⟨tp, p, rfl, hb⟩)
   go_ret2
   exact ⟨rfl, hb⟩
 ·cases h
end
section
/-! ### impl_big: function 209 -/
def impl_big.l0 : Nat → Int → List Int → Int → Option (ByteArray)
 | 0, _, _, _ => none
 | k + 1, x0, x5, x6 => if x6 ≥ 0 then (if 0 ≤ (wrap64 (8 * x6)) then (if x5.length < 140737488355328 then (impl_big.l0 k x0 (x5 ++ [(shr .i64 x0 (wrap64 (8 * x6))) % 256]) (wrap64 (x6 - 1))) else (none)) else (none)) else (some (strOfNums x5))
def impl_big.f (k : Nat) (a0 : Int) (a1 : Int) : Option (ByteArray) := impl_big.l0 k a0 (([] : List Int)) (wrap64 (a1 - 1))
theorem impl_big.calls (k : Nat) (a0 : Int) (a1 : Int) (r : ByteArray) (w : World) (h : impl_big.f k a0 a1 = some r) :
  Calls Tryz.prog 209 #[.int .i64 a0, .int .i64 a1] w fun e w' => e = .returned (.string r) ∧ Below w.heap.size w w' := by
 have HB := Aside0.mk (Below.refl w.heap.size w)
 have H : (impl_big.l0 k a0 (([] : List Int)) (wrap64 (a1 - 1))) = some r := h
 clear h
 obtain ⟨y291, hy291⟩ : ∃ y_ : List Int, y_ = (([] : List Int)) := ⟨_, rfl⟩
 replace H : (impl_big.l0 k a0 y291 (wrap64 (a1 - 1))) = some r := by first | (rw [hy291]; with_reducible exact H) | (have H2_ := (Option.bind_some _ _).symm.trans H; rw [hy291]; with_reducible exact H2_) | (have H2_ := (Option.bind_some _ _).symm.trans H; with_reducible exact H2_) | with_reducible exact H | (rw [hy291]; exact H) | exact H
 have Ny291 := Aside0.mk hy291
 clear hy291
 have H' := Aside0.mk H
 clear H
 go_enter Tryz.func209, Tryz.ntmps209
 go_wp2_with (first | ((with_reducible refine gate_dst (N := 7) rfl ?_); refine Kd.R_lit (Kd.int .u8) _ 5 ?hg (N := 7) ?hd (xs := ([] : List Int)) (inner := []) (ok := fun _ => True) (okp := fun _ => True) ?hr ?hp (fun _ hk => hk) trivial (Below.refl _ _) (Nat.le_refl _) (by simp) ?_; (case hd => rfl); (case hg => rfl); (case hr => first | (go_simp; done) | (go_simp; rfl)); (case hp => exact (Reps.none _ _)); intro v292 w3 ho4 hb hg_ hnew_; clear hg_ hnew_; (first | rw [← Ny291.out] at ho4 | (simp only [Int.reduceToNat] at ho4; rw [← Ny291.out] at ho4)); have HO293 := RL ho4; replace HB := BS hb; clear hb ho4))
 go_loopg [5, 6] k (fun kq v5 v6 w' => ∃ (x5_1 : List Int) (x6_1 : Int), v6 = .int .i64 x6_1 ∧ Aside0 (impl_big.l0 kq a0 x5_1 x6_1 = some r) ∧ Aside0 (kq ≤ k) ∧ Aside0 (Kd.R (Kd.int .u8) 5 w' w.heap.size (fun _ => True) v5 x5_1) ∧ Aside0 (Below w.heap.size w w'))
 case atStart => exact ⟨(y291), (wrap64 (a1 - 1)), TF, H', ⟨Nat.le_refl _⟩, RW HO293, ⟨TB⟩⟩
 case round =>
  clear H'
  try clear c2
  try clear p2
  obtain ⟨x5_1, x6_1, rfl, HA, HK1, HO_5, HB⟩ := hrel
  cases gk with
  | zero => exact absurd HA.out (by simp [impl_big.l0])
  | succ k1 =>
   have H := HA.out
   clear HA
   simp only [impl_big.l0] at H
   by_cases c5 : x6_1 ≥ 0
   ·rw [if_pos c5] at H
    have c5b0 : decide (0 ≤ x6_1) = true := decide_eq_true c5
    clear c5
    obtain ⟨ji6, hji6⟩ : ∃ j_ : Int, (wrap64 (8 * x6_1)) = j_ := ⟨_, rfl⟩
    replace H : (if 0 ≤ (ji6) then (if x5_1.length < 140737488355328 then (impl_big.l0 k1 a0 (x5_1 ++ [(shr .i64 a0 (ji6)) % 256]) (wrap64 (x6_1 - 1))) else (none)) else (none)) = some r := by first | (rw [hji6] at H; exact H) | (simp only [hji6] at H ⊢; exact H)
    have hji6w : (IntKind.i64.wrap (8 * x6_1)) = ji6 := (i64_w _).trans hji6
    obtain ⟨c7, H⟩ := ifn H
    have c7b0 := eq_true c7
    have c7b1 : decide (0 ≤ (ji6)) = true := decide_eq_true c7
    clear c7
    obtain ⟨ji8, hji8⟩ : ∃ j_ : Int, (shr .i64 a0 (ji6)) = j_ := ⟨_, rfl⟩
    replace H : (if x5_1.length < 140737488355328 then (impl_big.l0 k1 a0 (x5_1 ++ [(ji8) % 256]) (wrap64 (x6_1 - 1))) else (none)) = some r := by first | (rw [hji8] at H; exact H) | (simp only [hji8] at H ⊢; exact H)
    have hji8_ : (a0 / 2 ^ min (ji6).toNat 64) = ji8 := hji8
    have hji8z : (ji6) ≤ 64 → (a0 / 2 ^ (ji6).toNat) = ji8 := shr_small hji8
    obtain ⟨c9, H⟩ := ifn H
    have LMc9 := Aside0.mk c9
    clear c9
    obtain ⟨y294, hy294⟩ : ∃ y_ : List Int, y_ = (x5_1 ++ [(ji8) % 256]) := ⟨_, rfl⟩
    replace H : (impl_big.l0 k1 a0 y294 (wrap64 (x6_1 - 1))) = some r := by first | (rw [hy294]; with_reducible exact H) | (have H2_ := (Option.bind_some _ _).symm.trans H; rw [hy294]; with_reducible exact H2_) | (have H2_ := (Option.bind_some _ _).symm.trans H; with_reducible exact H2_) | with_reducible exact H | (rw [hy294]; exact H) | exact H
    have Ny294 := Aside0.mk hy294
    clear hy294
    have H' := Aside0.mk H
    clear H
    go_wp2_with (first | ((with_reducible refine gate_builtin (b := .append) (xs := #[.tmp 14, .tmp 20]) rfl ?_); at_builtin; refine Kd.R_append (Kd.int .u8) (w0 := w) w.heap.size rfl (.tmp 14) (.tmp 20) 162 5 (.int .u8 0) 1 rfl Tryz.underlying162 info5 rfl (by decide) (by omega) u5 x5_1 ((ji8) % 256) [.int .u8 ((ji8) % 256)] (fun _ => True) (fun _ => False) rfl rfl ?aP (fun _ hk => hk.elim) ?aF ?aO ?aB ?aS ?aL ?_; (case aP => exact rfl); (case aB => exact TB); (case aF => exact (fun _ _ => trivial)); (case aO => exact (RW HO_5).out); (case aS => exact (below_size TB)); (case aL => have := LMc9.out; omega); intro v295 w10 ho hb hg hat; rw [← Ny294.out] at ho; have n0_ := Aside0.mk (hb); have n1_ := Aside0.mk (ho); clear HB; clear HO_5; have HB := n0_; have HO296 := n1_; clear n0_ n1_; clear ho hb hg hat))
    go_roundg k1
    case measure => have := HK1.out; omega
    case rel => exact ⟨(y294), (wrap64 (x6_1 - 1)), TF, H', ⟨TM⟩, RW HO296, ⟨TB⟩⟩
   ·rw [if_neg c5] at H
    have c5b0 : decide (0 ≤ x6_1) = false := decide_eq_false c5
    clear c5
    obtain rfl := Option.some.inj H
    have hcv11 := own_string (P := Tryz.prog) Tryz.underlying162 Tryz.underlying5 Tryz.underlying9 (Kd.own_of_R HO_5.out)
    go_wp2
    go_ret
    exact ⟨TE, TB⟩
end
section
/-! ### strings_Contains: function 224 -/
def strings_Contains.f (a0 : ByteArray) (a1 : ByteArray) : Option (Bool) := (strings_Index.f a0 a1).bind fun t297 => (some (decide (t297 ≥ 0)))
theorem strings_Contains.calls (a0 : ByteArray) (a1 : ByteArray) (r : Bool) (w : World) (h : strings_Contains.f a0 a1 = some r) :
  Calls Tryz.prog 224 #[.string a0, .string a1] w fun e w' => e = .returned (.bool r) ∧ Drawn0 w w' := by
 have H : ((strings_Index.f a0 a1).bind fun t297 => (some (decide (t297 ≥ 0)))) = some r := h
 clear h
 obtain ⟨t297, A3, H⟩ := bnd H
 obtain rfl := Option.some.inj H
 go_enter Tryz.func224, Tryz.ntmps224
 go_wp2_with (first | ((with_reducible refine gate_callee (f := 217) rfl ?_); refine goesL_ (some 7) rfl rfl Tryz.func217 KR rfl #[.string a0, .string a1] rfl TA ?_; (with_reducible refine (strings_Index.calls a0 a1 t297 _ A3.out).mono ?_); rintro e w' ⟨rfl, ⟨nd, rfl⟩⟩; refine ⟨_, rfl, ?_⟩))
 go_ret
 exact ⟨TF, TN⟩
end
section
/-! ### impl_isTarget: function 210 -/
def impl_isTarget.f (k : Nat) (a0 : ByteArray) : Option (Bool) := if a0.toList = ([] : List UInt8) then (some false) else ((impl_GoodName.f k a0).bind fun t298 => (if t298 = true then ((strings_Contains.f a0 (⟨#[42]⟩ : ByteArray)).bind fun t299 => (some (!t299))) else (some false)))
theorem impl_isTarget.calls (k : Nat) (a0 : ByteArray) (r : Bool) (w : World) (h : impl_isTarget.f k a0 = some r) :
  Calls Tryz.prog 210 #[.string a0] w fun e w' => e = .returned (.bool r) ∧ Below w.heap.size w w' := by
 have HB := Aside0.mk (Below.refl w.heap.size w)
 have H : (if a0.toList = ([] : List UInt8) then (some false) else ((impl_GoodName.f k a0).bind fun t298 => (if t298 = true then ((strings_Contains.f a0 (⟨#[42]⟩ : ByteArray)).bind fun t299 => (some (!t299))) else (some false)))) = some r := h
 clear h
 by_cases c2 : a0.toList = ([] : List UInt8)
 ·rw [if_pos c2] at H
  have c2b0 : (a0.toList == ([] : List UInt8)) = true := beq_iff_eq.mpr c2
  have c2b1 : (a0.toList != ([] : List UInt8)) = false := bne_eq_false_iff_eq.mpr c2
  clear c2
  obtain rfl := Option.some.inj H
  go_enter Tryz.func210, Tryz.ntmps210
  go_wp2
  go_ret
  exact ⟨by first | rfl | (simp [errW_none, errW_some] <;> rfl) | (simp [*, errW_none, errW_some] <;> rfl) | (simp [errW_none, errW_some]; rw [Bool.eq_iff_iff]; simp), TB⟩
 ·rw [if_neg c2] at H
  have c2b0 : (a0.toList == ([] : List UInt8)) = false := beq_eq_false_iff_ne.mpr c2
  have c2b1 : (a0.toList != ([] : List UInt8)) = true := bne_iff_ne.mpr c2
  obtain ⟨t298, A3, H⟩ := bnd H
  by_cases c4 : t298 = true
  ·subst c4
   replace H := ift H
   obtain ⟨t299, A5, H⟩ := bnd H
   obtain rfl := Option.some.inj H
   go_enter Tryz.func210, Tryz.ntmps210
   go_wp2_with (first | (go_at_call 77; (with_reducible refine (impl_GoodName.calls k a0 true _ A3.out).mono ?_); rintro e w6 ⟨rfl, hb⟩; replace HB := BS hb; (try clear hb); (try clear hb2); (try clear hk); (try clear hi)) | (go_at_call 224; (with_reducible refine (strings_Contains.calls a0 (⟨#[42]⟩ : ByteArray) t299 _ A5.out).mono ?_); rintro e w' ⟨rfl, ⟨nd, rfl⟩⟩))
   go_ret
   exact ⟨by first | rfl | (simp [errW_none, errW_some] <;> rfl) | (simp [*, errW_none, errW_some] <;> rfl) | (simp [errW_none, errW_some]; rw [Bool.eq_iff_iff]; simp), TB⟩
  ·replace c4 := Bool.eq_false_iff.mpr c4
   subst c4
   replace H := iff' H
   obtain rfl := Option.some.inj H
   go_enter Tryz.func210, Tryz.ntmps210
   go_wp2_with (first | (go_at_call 77; (with_reducible refine (impl_GoodName.calls k a0 false _ A3.out).mono ?_); rintro e w7 ⟨rfl, hb⟩; replace HB := BS hb; (try clear hb); (try clear hb2); (try clear hk); (try clear hi)))
   go_ret
   exact ⟨by first | rfl | (simp [errW_none, errW_some] <;> rfl) | (simp [*, errW_none, errW_some] <;> rfl) | (simp [errW_none, errW_some]; rw [Bool.eq_iff_iff]; simp), TB⟩
end
section
/-! ### impl_labelBytes: function 211 -/
def impl_labelBytes.l0 : Nat → ByteArray → List ByteArray → Int → Int → Option (ByteArray)
 | 0, _, _, _, _ => none
 | k + 1, x3, x7, x8, x9 => if x9 < x8 then (if 0 ≤ x9 then (if x9 < (x7.length : Int) then ((some (([(((rdOf ByteArray.empty x7 x9).size : Int)) % 256] : List Int) : List Int)).bind fun y304 => (if (strOfNums y304).size + (rdOf ByteArray.empty x7 x9).size ≤ 9223372036854775807 then (if x3.size + ((strOfNums y304) ++ (rdOf ByteArray.empty x7 x9)).size ≤ 9223372036854775807 then (impl_labelBytes.l0 k (x3 ++ ((strOfNums y304) ++ (rdOf ByteArray.empty x7 x9))) x7 x8 (wrap64 (x9 + 1))) else (none)) else (none))) else (none)) else (none)) else (some x3)
def impl_labelBytes.f (k : Nat) (a0 : ByteArray) : Option (ByteArray) := (impl_labelsOf.f k a0).bind fun t300 => (impl_labelBytes.l0 k (⟨#[]⟩ : ByteArray) t300 (t300.length : Int) 0)
theorem impl_labelBytes.calls (k : Nat) (a0 : ByteArray) (r : ByteArray) (w : World) (h : impl_labelBytes.f k a0 = some r) :
  Calls Tryz.prog 211 #[.string a0] w fun e w' => e = .returned (.string r) ∧ Below w.heap.size w w' := by
 have HB := Aside0.mk (Below.refl w.heap.size w)
 have H : ((impl_labelsOf.f k a0).bind fun t300 => (impl_labelBytes.l0 k (⟨#[]⟩ : ByteArray) t300 (t300.length : Int) 0)) = some r := h
 clear h
 obtain ⟨t300, A2, H⟩ := bnd H
 have H' := Aside0.mk H
 clear H
 go_enter Tryz.func211, Tryz.ntmps211
 go_wp2_with (first | ((with_reducible refine gate_callee (f := 128) rfl ?_); refine goesL_ (some 7) rfl rfl Tryz.func128 KR rfl #[.string a0] rfl TA ?_; (with_reducible refine (impl_labelsOf.calls k a0 t300 _ A2.out).mono ?_); rintro e w3 ⟨v301, rfl, ho0, hb⟩; refine ⟨_, rfl, ?_⟩; have HO302 := RL ho0; replace HB := BS hb; (try clear hb); (try clear hb2); (try clear hk); (try clear hi); (try clear ho0); obtain ⟨Ao4, co4, eo4⟩ := Kd.R_slice HO302.out; subst eo4))
 go_loopg [3, 9] k (fun kq v3 v9 w' => ∃ (x3_1 : ByteArray) (x9_1 : Int), v3 = .string x3_1 ∧ v9 = .int .i64 x9_1 ∧ Aside0 (impl_labelBytes.l0 kq x3_1 t300 (t300.length : Int) x9_1 = some r) ∧ Aside0 (kq ≤ k) ∧ Aside0 (Kd.R Kd.string 9 w' w.heap.size (fun _ => True) (.slice Ao4 t300.length co4) t300) ∧ Aside0 (Below w.heap.size w w'))
 case atStart => exact ⟨((⟨#[]⟩ : ByteArray)), (0), TF, TF, H', ⟨Nat.le_refl _⟩, RW HO302, ⟨TB⟩⟩
 case round =>
  clear H'
  try clear c1
  try clear c2
  try clear p2
  obtain ⟨x3_1, x9_1, rfl, rfl, HA, HK1, HO_7, HB⟩ := hrel
  cases gk with
  | zero => exact absurd HA.out (by simp [impl_labelBytes.l0])
  | succ k1 =>
   have H := HA.out
   clear HA
   simp only [impl_labelBytes.l0] at H
   by_cases c5 : x9_1 < (t300.length : Int)
   ·rw [if_pos c5] at H
    have c5b0 : decide (x9_1 < (t300.length : Int)) = true := decide_eq_true c5
    clear c5
    obtain ⟨c6, H⟩ := ifn H
    have c6b0 : decide (0 ≤ x9_1) = true := decide_eq_true c6
    clear c6
    obtain ⟨c7, H⟩ := ifn H
    have c7b0 : decide (x9_1 < (t300.length : Int)) = true := decide_eq_true c7
    clear c7
    obtain ⟨y304, hy304⟩ : ∃ y_ : List Int, y_ = (([(((rdOf ByteArray.empty t300 x9_1).size : Int)) % 256] : List Int)) := ⟨_, rfl⟩
    replace H : (if (strOfNums y304).size + (rdOf ByteArray.empty t300 x9_1).size ≤ 9223372036854775807 then (if x3_1.size + ((strOfNums y304) ++ (rdOf ByteArray.empty t300 x9_1)).size ≤ 9223372036854775807 then (impl_labelBytes.l0 k1 (x3_1 ++ ((strOfNums y304) ++ (rdOf ByteArray.empty t300 x9_1))) t300 (t300.length : Int) (wrap64 (x9_1 + 1))) else (none)) else (none)) = some r := by first | (rw [hy304]; with_reducible exact H) | (have H2_ := (Option.bind_some _ _).symm.trans H; rw [hy304]; with_reducible exact H2_) | (have H2_ := (Option.bind_some _ _).symm.trans H; with_reducible exact H2_) | with_reducible exact H | (rw [hy304]; exact H) | exact H
    have Ny304 := Aside0.mk hy304
    clear hy304
    obtain ⟨c8, H⟩ := ifn H
    have c8b0 := eq_true c8
    have c8b1 : decide ((strOfNums y304).size + (rdOf ByteArray.empty t300 x9_1).size ≤ 9223372036854775807) = true := decide_eq_true c8
    try have c8b2 : (9223372036854775807 < (strOfNums y304).size + (rdOf ByteArray.empty t300 x9_1).size) = False := eq_false (Nat.not_lt.2 c8)
    obtain ⟨c9, H⟩ := ifn H
    have c9b0 := eq_true c9
    have c9b1 : decide (x3_1.size + ((strOfNums y304) ++ (rdOf ByteArray.empty t300 x9_1)).size ≤ 9223372036854775807) = true := decide_eq_true c9
    try have c9b2 : (9223372036854775807 < x3_1.size + ((strOfNums y304) ++ (rdOf ByteArray.empty t300 x9_1)).size) = False := eq_false (Nat.not_lt.2 c9)
    have H' := Aside0.mk H
    clear H
    have p303 : 0 ≤ (x9_1 : Int) := TD
    have q303 : x9_1 < (t300.length : Int) := TD
    obtain ⟨ad303, e303, hx303_0⟩ := Kd.at_string (Kd.R_reads' HO_7.out).2.2 x9_1 p303 q303
    cases e303
    replace p303 := eq_true p303
    replace q303 := eq_true q303
    go_wp2_with (first | ((with_reducible refine gate_dst (N := 17) rfl ?_); refine Kd.R_lit (Kd.int .u8) _ 5 ?hg (N := 17) ?hd (xs := ([(((rdOf ByteArray.empty t300 x9_1).size : Int)) % 256] : List Int)) (inner := [.int .u8 ((((rdOf ByteArray.empty t300 x9_1).size : Int)) % 256)]) (ok := fun _ => True) (okp := fun _ => True) ?hr ?hp (fun _ hk => hk) trivial (Below.refl _ _) (Nat.le_refl _) (by simp) ?_; (case hd => rfl); (case hg => rfl); (case hr => first | (go_simp; done) | (go_simp; rfl)); (case hp => exact (Reps.one (show Kd.M (Kd.int .u8) _ _ _ ((((rdOf ByteArray.empty t300 x9_1).size : Int)) % 256) [.int .u8 ((((rdOf ByteArray.empty t300 x9_1).size : Int)) % 256)] from rfl) (Reps.none _ _))); intro v305 w10 ho11 hb hg_ hnew_; clear hg_ hnew_; (first | rw [← Ny304.out] at ho11 | (simp only [Int.reduceToNat] at ho11; rw [← Ny304.out] at ho11)); replace HO_7 := RB HO_7 hb; have HO306 := RL ho11; replace HB := BS hb; clear hb ho11; have hcv12 := own_string (P := Tryz.prog) Tryz.underlying162 Tryz.underlying5 Tryz.underlying9 (Kd.own_of_R HO306.out)))
    go_roundg k1
    case measure => have := HK1.out; omega
    case rel => exact ⟨(x3_1 ++ ((strOfNums y304) ++ (rdOf ByteArray.empty t300 x9_1))), (wrap64 (x9_1 + 1)), TF, TF, H', ⟨TM⟩, RW HO_7, ⟨TB⟩⟩
   ·rw [if_neg c5] at H
    have c5b0 : decide (x9_1 < (t300.length : Int)) = false := decide_eq_false c5
    clear c5
    obtain rfl := Option.some.inj H
    go_wp2
    go_ret
    exact ⟨TE, TB⟩
end
section
/-! ### stringslite_Index: function 226 -/
def stringslite_Index.f (a0 : ByteArray) (a1 : ByteArray) : Option (Int) := if a1.size = 1 then some (Go.Lib.indexByte a0.data.toList (a1.data.toList.headD 0)) else none
theorem stringslite_Index.calls (a0 : ByteArray) (a1 : ByteArray) (r : Int) (w : World) (h : stringslite_Index.f a0 a1 = some r) :
  Calls Tryz.prog 226 #[.string a0, .string a1] w fun e w' => e = .returned (.int .i64 r) ∧ Drawn0 w w' := by
 unfold stringslite_Index.f at h
 by_cases h1 : a1.size = 1
 ·rw [if_pos h1] at h
  obtain rfl := Option.some.inj h
  obtain ⟨⟨l⟩⟩ := a1
  match l, h1 with
  | [c], _ => exact (Go.Proofs.Any.stringslite_Index_one Go.Proofs.Tryz.lays219 a0 c w).mono fun e w' hh => ⟨hh.1, hh.2 ▸ Drawn0.refl _⟩
 ·rw [if_neg h1] at h
  cases h
end
section
/-! ### stringslite_Cut: function 207 -/
def stringslite_Cut.f (a0 : ByteArray) (a1 : ByteArray) : Option (ByteArray × ByteArray × Bool) := (stringslite_Index.f a0 a1).bind fun t307 => (if t307 ≥ 0 then (if 0 ≤ t307 then (if t307 ≤ (a0.size : Int) then (if 0 ≤ (wrap64 (t307 + (a1.size : Int))) then (if (wrap64 (t307 + (a1.size : Int))) ≤ (a0.size : Int) then (some (a0.extract 0 (t307 : Int).toNat, a0.extract ((wrap64 (t307 + (a1.size : Int))) : Int).toNat a0.size, true)) else (none)) else (none)) else (none)) else (none)) else (some (a0, (⟨#[]⟩ : ByteArray), false)))
theorem stringslite_Cut.calls (a0 : ByteArray) (a1 : ByteArray) (r1 : ByteArray) (r2 : ByteArray) (r3 : Bool) (w : World) (h : stringslite_Cut.f a0 a1 = some (r1, r2, r3)) :
  Calls Tryz.prog 207 #[.string a0, .string a1] w fun e w' => e = .returned (.tuple #[.string r1, .string r2, .bool r3]) ∧ Drawn0 w w' := by
 have H : ((stringslite_Index.f a0 a1).bind fun t307 => (if t307 ≥ 0 then (if 0 ≤ t307 then (if t307 ≤ (a0.size : Int) then (if 0 ≤ (wrap64 (t307 + (a1.size : Int))) then (if (wrap64 (t307 + (a1.size : Int))) ≤ (a0.size : Int) then (some (a0.extract 0 (t307 : Int).toNat, a0.extract ((wrap64 (t307 + (a1.size : Int))) : Int).toNat a0.size, true)) else (none)) else (none)) else (none)) else (none)) else (some (a0, (⟨#[]⟩ : ByteArray), false)))) = some (r1, r2, r3) := h
 clear h
 obtain ⟨t307, A3, H⟩ := bnd H
 by_cases c4 : t307 ≥ 0
 ·rw [if_pos c4] at H
  have c4b0 : decide (0 ≤ t307) = true := decide_eq_true c4
  clear c4
  obtain ⟨c5, H⟩ := ifn H
  have c5b0 := eq_true c5
  have c5b1 : decide (0 ≤ t307) = true := decide_eq_true c5
  clear c5
  obtain ⟨c6, H⟩ := ifn H
  have c6b0 := eq_true c6
  have c6b1 : decide (t307 ≤ (a0.size : Int)) = true := decide_eq_true c6
  clear c6
  obtain ⟨ji7, hji7⟩ : ∃ j_ : Int, (wrap64 (t307 + (a1.size : Int))) = j_ := ⟨_, rfl⟩
  replace H : (if 0 ≤ (ji7) then (if (ji7) ≤ (a0.size : Int) then (some (a0.extract 0 (t307 : Int).toNat, a0.extract ((ji7) : Int).toNat a0.size, true)) else (none)) else (none)) = some (r1, r2, r3) := by first | (rw [hji7] at H; exact H) | (simp only [hji7] at H ⊢; exact H)
  (try rw [hji7] at A3)
  have hji7w : (IntKind.i64.wrap (t307 + (a1.size : Int))) = ji7 := (i64_w _).trans hji7
  obtain ⟨c8, H⟩ := ifn H
  have c8b0 := eq_true c8
  have c8b1 : decide (0 ≤ (ji7)) = true := decide_eq_true c8
  clear c8
  obtain ⟨c9, H⟩ := ifn H
  have c9b0 := eq_true c9
  have c9b1 : decide ((ji7) ≤ (a0.size : Int)) = true := decide_eq_true c9
  clear c9
  simp only [Option.some.injEq, Prod.mk.injEq] at H
  obtain ⟨rfl, rfl, rfl⟩ := H
  go_enter Tryz.func207, Tryz.ntmps207
  go_wp2_with (first | (go_at_call 226; (with_reducible refine (stringslite_Index.calls a0 a1 t307 _ A3.out).mono ?_); rintro e w' ⟨rfl, ⟨nd, rfl⟩⟩; (try first | exact ⟨rfl, _, World.drewN_drewN _ _ _⟩ | exact ⟨rfl, _, Eq.trans (World.drewN_drewN _ _ _) (congrArg (World.drewN _) (Nat.add_assoc _ _ _))⟩)))
  repeat (go_quiet (first | (go_at_call 226; (with_reducible refine (stringslite_Index.calls a0 a1 t307 _ A3.out).mono ?_); rintro e w' ⟨rfl, ⟨nd, rfl⟩⟩; (try first | exact ⟨rfl, _, World.drewN_drewN _ _ _⟩ | exact ⟨rfl, _, Eq.trans (World.drewN_drewN _ _ _) (congrArg (World.drewN _) (Nat.add_assoc _ _ _))⟩))); try go_wp2_with (first | (go_at_call 226; (with_reducible refine (stringslite_Index.calls a0 a1 t307 _ A3.out).mono ?_); rintro e w' ⟨rfl, ⟨nd, rfl⟩⟩; (try first | exact ⟨rfl, _, World.drewN_drewN _ _ _⟩ | exact ⟨rfl, _, Eq.trans (World.drewN_drewN _ _ _) (congrArg (World.drewN _) (Nat.add_assoc _ _ _))⟩))))
  go_ret3
  exact ⟨by first | rfl | (simp; done) | (simp only [← hji7] <;> (first | rfl | simp)) | (simp [*]; done), TN⟩
 ·rw [if_neg c4] at H
  have c4b0 : decide (0 ≤ t307) = false := decide_eq_false c4
  clear c4
  simp only [Option.some.injEq, Prod.mk.injEq] at H
  obtain ⟨rfl, rfl, rfl⟩ := H
  go_enter Tryz.func207, Tryz.ntmps207
  go_wp2_with (first | (go_at_call 226; (with_reducible refine (stringslite_Index.calls a0 a1 t307 _ A3.out).mono ?_); rintro e w' ⟨rfl, ⟨nd, rfl⟩⟩; (try first | exact ⟨rfl, _, World.drewN_drewN _ _ _⟩ | exact ⟨rfl, _, Eq.trans (World.drewN_drewN _ _ _) (congrArg (World.drewN _) (Nat.add_assoc _ _ _))⟩)))
  repeat (go_quiet (first | (go_at_call 226; (with_reducible refine (stringslite_Index.calls a0 a1 t307 _ A3.out).mono ?_); rintro e w' ⟨rfl, ⟨nd, rfl⟩⟩; (try first | exact ⟨rfl, _, World.drewN_drewN _ _ _⟩ | exact ⟨rfl, _, Eq.trans (World.drewN_drewN _ _ _) (congrArg (World.drewN _) (Nat.add_assoc _ _ _))⟩))); try go_wp2_with (first | (go_at_call 226; (with_reducible refine (stringslite_Index.calls a0 a1 t307 _ A3.out).mono ?_); rintro e w' ⟨rfl, ⟨nd, rfl⟩⟩; (try first | exact ⟨rfl, _, World.drewN_drewN _ _ _⟩ | exact ⟨rfl, _, Eq.trans (World.drewN_drewN _ _ _) (congrArg (World.drewN _) (Nat.add_assoc _ _ _))⟩))))
  go_ret3
  exact ⟨TF, TN⟩
end
section
/-! ### strings_Cut: function 182 -/
def strings_Cut.f (a0 : ByteArray) (a1 : ByteArray) : Option (ByteArray × ByteArray × Bool) := (stringslite_Cut.f a0 a1).bind fun bt308 => (some (bt308.1, bt308.2.1, bt308.2.2))
theorem strings_Cut.calls (a0 : ByteArray) (a1 : ByteArray) (r1 : ByteArray) (r2 : ByteArray) (r3 : Bool) (w : World) (h : strings_Cut.f a0 a1 = some (r1, r2, r3)) :
  Calls Tryz.prog 182 #[.string a0, .string a1] w fun e w' => e = .returned (.tuple #[.string r1, .string r2, .bool r3]) ∧ Drawn0 w w' := by
 have H : ((stringslite_Cut.f a0 a1).bind fun bt308 => (some (bt308.1, bt308.2.1, bt308.2.2))) = some (r1, r2, r3) := h
 clear h
 obtain ⟨⟨t308, t309, t310⟩, A3, H⟩ := bnd H
 try dsimp only at H
 simp only [Option.some.injEq, Prod.mk.injEq] at H
 obtain ⟨rfl, rfl, rfl⟩ := H
 go_enter Tryz.func182, Tryz.ntmps182
 go_wp2_with (first | ((with_reducible refine gate_callee (f := 207) rfl ?_); refine goesL_ (some 9) rfl rfl Tryz.func207 KR rfl #[.string a0, .string a1] rfl TA ?_; (with_reducible refine (stringslite_Cut.calls a0 a1 t308 t309 t310 _ A3.out).mono ?_); rintro e w' ⟨rfl, ⟨nd, rfl⟩⟩; refine ⟨_, rfl, ?_⟩))
 go_ret3
 exact ⟨TF, TN⟩
end
section
/-! ### impl_DataBytes_1: function 213 -/
def impl_DataBytes_1.f (a0 : Int) : Option (Bool) := if a0 < 32 then (some true) else (some (decide (a0 > 126)))
theorem impl_DataBytes_1.calls (a0 : Int) (r : Bool) (w : World) (h : impl_DataBytes_1.f a0 = some r) :
  Calls Tryz.prog 213 #[.int .u8 a0] w fun e w' => e = .returned (.bool r) ∧ Drawn0 w w' := by
 have H : (if a0 < 32 then (some true) else (some (decide (a0 > 126)))) = some r := h
 clear h
 by_cases c2 : a0 < 32
 ·rw [if_pos c2] at H
  have c2b0 : decide (a0 < 32) = true := decide_eq_true c2
  clear c2
  obtain rfl := Option.some.inj H
  go_enter Tryz.func213, Tryz.ntmps213
  go_wp2
  go_ret
  exact ⟨TF, TN⟩
 ·rw [if_neg c2] at H
  have c2b0 : decide (a0 < 32) = false := decide_eq_false c2
  clear c2
  obtain rfl := Option.some.inj H
  go_enter Tryz.func213, Tryz.ntmps213
  go_wp2
  go_ret
  exact ⟨TF, TN⟩
end
section
/-! ### slices_IndexFunc_byte_byte_DataBytes_1: function 228 -/
def slices_IndexFunc_byte_byte_DataBytes_1.l0 : Nat → List Int → Int → Int → Option (Int)
 | 0, _, _, _ => none
 | k + 1, x0, x7, x8 => if x8 < x7 then (if 0 ≤ x8 then (if x8 < (x0.length : Int) then ((impl_DataBytes_1.f (rd x0 x8)).bind fun t312 => (if t312 = true then (some x8) else (slices_IndexFunc_byte_byte_DataBytes_1.l0 k x0 x7 (wrap64 (x8 + 1))))) else (none)) else (none)) else (some (-1))
def slices_IndexFunc_byte_byte_DataBytes_1.f (k : Nat) (l0 : List Int)  : Option (Int) := slices_IndexFunc_byte_byte_DataBytes_1.l0 k l0 (l0.length : Int) 0
theorem slices_IndexFunc_byte_byte_DataBytes_1.calls (k : Nat) (A0 : Option Addr) (c0 : Nat) (l0 : List Int)  (r : Int) (w : World) (hr0 : Kd.C (Kd.int .u8) w A0 l0.length l0) (hc0 : l0.length ≤ c0) (h : slices_IndexFunc_byte_byte_DataBytes_1.f k l0 = some r) :
  Calls Tryz.prog 228 #[.slice A0 l0.length c0, .func (.func 213) #[] #[]] w fun e w' => e = .returned (.int .i64 r) ∧ Drawn0 w w' := by
 have HR0 := Aside0.mk hr0
 have HC0 := Aside0.mk hc0
 clear hr0 hc0
 have H : (slices_IndexFunc_byte_byte_DataBytes_1.l0 k l0 (l0.length : Int) 0) = some r := h
 clear h
 have H' := Aside0.mk H
 clear H
 go_enter Tryz.func228, Tryz.ntmps228
 go_wp2
 go_loopg [8] k (fun kq v8 w' => ∃ (x8_1 : Int), v8 = .int .i64 x8_1 ∧ Aside0 (slices_IndexFunc_byte_byte_DataBytes_1.l0 kq l0 (l0.length : Int) x8_1 = some r) ∧ Aside0 (kq ≤ k) ∧ Drawn0 w w')
 case atStart => exact ⟨(0), TF, H', ⟨Nat.le_refl _⟩, TN⟩
 case round =>
  clear H'
  try clear c2
  try clear p2
  obtain ⟨x8_1, rfl, HA, HK1, ⟨m1, rfl⟩⟩ := hrel
  cases gk with
  | zero => exact absurd HA.out (by simp [slices_IndexFunc_byte_byte_DataBytes_1.l0])
  | succ k1 =>
   have H := HA.out
   clear HA
   simp only [slices_IndexFunc_byte_byte_DataBytes_1.l0] at H
   by_cases c3 : x8_1 < (l0.length : Int)
   ·rw [if_pos c3] at H
    have c3b0 : decide (x8_1 < (l0.length : Int)) = true := decide_eq_true c3
    clear c3
    obtain ⟨c4, H⟩ := ifn H
    have c4b0 : decide (0 ≤ x8_1) = true := decide_eq_true c4
    clear c4
    obtain ⟨c5, H⟩ := ifn H
    have c5b0 : decide (x8_1 < (l0.length : Int)) = true := decide_eq_true c5
    clear c5
    obtain ⟨t312, A6, H⟩ := bnd H
    by_cases c7 : t312 = true
    ·subst c7
     replace H := ift H
     obtain rfl := Option.some.inj H
     have p311 : 0 ≤ (x8_1 : Int) := TD
     have q311 : x8_1 < (l0.length : Int) := TD
     obtain ⟨ad311, e311, hx311_0⟩ := Kd.at_int HR0.out x8_1 p311 q311
     cases e311
     replace p311 := eq_true p311
     replace q311 := eq_true q311
     go_wp2_with (first | (go_at_call 213; (with_reducible refine (impl_DataBytes_1.calls (rd l0 x8_1) true _ A6.out).mono ?_); rintro e w' ⟨rfl, ⟨nd, rfl⟩⟩))
     go_ret
     exact ⟨TF, TN⟩
    ·replace c7 := Bool.eq_false_iff.mpr c7
     subst c7
     replace H := iff' H
     have H' := Aside0.mk H
     clear H
     have p311 : 0 ≤ (x8_1 : Int) := TD
     have q311 : x8_1 < (l0.length : Int) := TD
     obtain ⟨ad311, e311, hx311_0⟩ := Kd.at_int HR0.out x8_1 p311 q311
     cases e311
     replace p311 := eq_true p311
     replace q311 := eq_true q311
     go_wp2_with (first | (go_at_call 213; (with_reducible refine (impl_DataBytes_1.calls (rd l0 x8_1) false _ A6.out).mono ?_); rintro e w' ⟨rfl, ⟨nd, rfl⟩⟩))
     go_roundg k1
     case measure => have := HK1.out; omega
     case rel => exact ⟨(wrap64 (x8_1 + 1)), TF, H', ⟨TM⟩, TN⟩
   ·rw [if_neg c3] at H
    have c3b0 : decide (x8_1 < (l0.length : Int)) = false := decide_eq_false c3
    clear c3
    obtain rfl := Option.some.inj H
    go_wp2
    go_ret
    exact ⟨TF, TN⟩
end
section
/-! ### slices_ContainsFunc_byte_byte_DataBytes_1: function 212 -/
def slices_ContainsFunc_byte_byte_DataBytes_1.f (k : Nat) (l0 : List Int)  : Option (Bool) := (slices_IndexFunc_byte_byte_DataBytes_1.f k l0).bind fun t313 => (some (decide (t313 ≥ 0)))
theorem slices_ContainsFunc_byte_byte_DataBytes_1.calls (k : Nat) (A0 : Option Addr) (c0 : Nat) (l0 : List Int)  (r : Bool) (w : World) (hr0 : Kd.C (Kd.int .u8) w A0 l0.length l0) (hc0 : l0.length ≤ c0) (h : slices_ContainsFunc_byte_byte_DataBytes_1.f k l0 = some r) :
  Calls Tryz.prog 212 #[.slice A0 l0.length c0, .func (.func 213) #[] #[]] w fun e w' => e = .returned (.bool r) ∧ Drawn0 w w' := by
 have HR0 := Aside0.mk hr0
 have HC0 := Aside0.mk hc0
 clear hr0 hc0
 have H : ((slices_IndexFunc_byte_byte_DataBytes_1.f k l0).bind fun t313 => (some (decide (t313 ≥ 0)))) = some r := h
 clear h
 obtain ⟨t313, A3, H⟩ := bnd H
 obtain rfl := Option.some.inj H
 go_enter Tryz.func212, Tryz.ntmps212
 go_wp2_with (first | ((with_reducible refine gate_callee (f := 228) rfl ?_); refine goesL_ (some 7) rfl rfl Tryz.func228 KR rfl #[.slice A0 l0.length c0, .func (.func 213) #[] #[]] rfl TA ?_; (with_reducible refine (slices_IndexFunc_byte_byte_DataBytes_1.calls k _ _ l0  t313 _ ?side1 ?side2 A3.out).mono ?_); (case side1 => exact CW (HR0.out)); (case side2 => exact HC0.out); rintro e w' ⟨rfl, ⟨nd, rfl⟩⟩; refine ⟨_, rfl, ?_⟩))
 go_ret
 exact ⟨TF, TN⟩
end
section
/-! ### impl_DataBytes: function 187 -/
mutual
def impl_DataBytes.l0 : Nat → ByteArray → List ByteArray → List ByteArray → Int → Int → Option (ByteArray × Bool)
 | 0, _, _, _, _, _ => none
 | k + 1, x6, x7, x24, x25, x26 => if x26 < x25 then (if 0 ≤ x26 then (if x26 < (x24.length : Int) then ((impl_numberIn.f (rdOf ByteArray.empty x24 x26) 255).bind fun bt318 => (if bt318.2 = true then (if (x7.length : Int) = 4 then ((impl_big.f k bt318.1 1).bind fun t320 => (if x6.size + t320.size ≤ 9223372036854775807 then (impl_DataBytes.l0 k (x6 ++ t320) x7 x24 x25 (wrap64 (x26 + 1))) else (none))) else (some ((⟨#[]⟩ : ByteArray), false))) else (some ((⟨#[]⟩ : ByteArray), false)))) else (none)) else (none)) else (some (x6, true))
def impl_DataBytes.j1 : Nat → ByteArray → Int → Bool → Option (ByteArray × Bool)
 | 0, _, _, _ => none
 | k + 1, x1, x19, x48 => if x48 = true then ((impl_isTarget.f k x1).bind fun t321 => (if t321 = true then ((impl_labelBytes.f k x1).bind fun t322 => (if t322.size + 1 ≤ 9223372036854775807 then (some (t322 ++ (⟨#[0]⟩ : ByteArray), true)) else (none))) else (some ((⟨#[]⟩ : ByteArray), false)))) else (if x19 = 6 then ((impl_numberIn.f x1 4294967295).bind fun bt323 => (if bt323.2 = true then ((impl_big.f k bt323.1 4).bind fun t325 => (some (t325, true))) else (some ((⟨#[]⟩ : ByteArray), false)))) else (if x19 = 15 then ((strings_Cut.f x1 (⟨#[32]⟩ : ByteArray)).bind fun bt326 => ((impl_numberIn.f bt326.1 65535).bind fun bt329 => (if bt329.2 = true then ((impl_isTarget.f k bt326.2.1).bind fun t331 => (impl_DataBytes.j2 k bt326.2.1 bt329.1 (!t331))) else (impl_DataBytes.j2 k bt326.2.1 bt329.1 true)))) else (if x19 = 16 then (if (x1.size : Int) > 30 then (some ((⟨#[]⟩ : ByteArray), false)) else (if x1.size ≤ 9223372036854775807 then ((slices_ContainsFunc_byte_byte_DataBytes_1.f k (bytesOf x1)).bind fun t337 => (if t337 = true then (some ((⟨#[]⟩ : ByteArray), false)) else ((impl_big.f k (x1.size : Int) 1).bind fun t338 => (if t338.size + x1.size ≤ 9223372036854775807 then (some (t338 ++ x1, true)) else (none))))) else (none))) else (some ((⟨#[]⟩ : ByteArray), false)))))
def impl_DataBytes.j2 : Nat → ByteArray → Int → Bool → Option (ByteArray × Bool)
 | 0, _, _, _ => none
 | k + 1, x15, x17, x87 => if x87 = true then (some ((⟨#[]⟩ : ByteArray), false)) else ((impl_big.f k x17 2).bind fun t332 => ((impl_labelBytes.f k x15).bind fun t333 => (if t332.size + t333.size ≤ 9223372036854775807 then (if (t332 ++ t333).size + 1 ≤ 9223372036854775807 then (some ((t332 ++ t333) ++ (⟨#[0]⟩ : ByteArray), true)) else (none)) else (none))))
end
def impl_DataBytes.f (k : Nat) (a0 : Int) (a1 : ByteArray) : Option (ByteArray × Bool) := if a0 = 1 then ((strings_Split.f k a1 (⟨#[46]⟩ : ByteArray)).bind fun t314 => (impl_DataBytes.l0 k (⟨#[]⟩ : ByteArray) t314 t314 (t314.length : Int) 0)) else (if a0 = 2 then (impl_DataBytes.j1 k a1 a0 (a0 == 2)) else (impl_DataBytes.j1 k a1 a0 (a0 == 5)))
theorem impl_DataBytes.calls (k : Nat) (a0 : Int) (a1 : ByteArray) (r1 : ByteArray) (r2 : Bool) (w : World) (hG_ : Glob w) (h : impl_DataBytes.f k a0 a1 = some (r1, r2)) :
  Calls Tryz.prog 187 #[.int .i64 a0, .string a1] w fun e w' => e = .returned (.tuple #[.string r1, .bool r2]) ∧ Below w.heap.size w w' := by
 have HGL := Aside0.mk hG_
 clear hG_
 have HB := Aside0.mk (Below.refl w.heap.size w)
 have H : (if a0 = 1 then ((strings_Split.f k a1 (⟨#[46]⟩ : ByteArray)).bind fun t314 => (impl_DataBytes.l0 k (⟨#[]⟩ : ByteArray) t314 t314 (t314.length : Int) 0)) else (if a0 = 2 then (impl_DataBytes.j1 k a1 a0 (a0 == 2)) else (impl_DataBytes.j1 k a1 a0 (a0 == 5)))) = some (r1, r2) := h
 clear h
 by_cases c3 : a0 = 1
 ·rw [if_pos c3] at H
  have c3b0 : (a0 == 1) = true := beq_iff_eq.mpr c3
  have c3b1 : (a0 != 1) = false := bne_eq_false_iff_eq.mpr c3
  clear c3
  obtain ⟨t314, A4, H⟩ := bnd H
  have H' := Aside0.mk H
  clear H
  go_enter Tryz.func187, Tryz.ntmps187
  go_wp2_with (first | ((with_reducible refine gate_callee (f := 166) rfl ?_); refine goesL_ (some 23) rfl rfl Tryz.func166 KR rfl #[.string a1, .string (⟨#[46]⟩ : ByteArray)] rfl TA ?_; (with_reducible refine (strings_Split.calls k a1 (⟨#[46]⟩ : ByteArray) t314 _ A4.out).mono ?_); rintro e w5 ⟨v315, rfl, ho0, hb⟩; refine ⟨_, rfl, ?_⟩; have HO316 := RL ho0; replace HB := BS hb; (try clear hb); (try clear hb2); (try clear hk); (try clear hi); (try clear ho0); obtain ⟨Ao6, co6, eo6⟩ := Kd.R_slice HO316.out; subst eo6))
  go_loopg [6, 26] k (fun kq v6 v26 w' => ∃ (x6_1 : ByteArray) (x26_1 : Int), v6 = .string x6_1 ∧ v26 = .int .i64 x26_1 ∧ Aside0 (impl_DataBytes.l0 kq x6_1 t314 t314 (t314.length : Int) x26_1 = some (r1, r2)) ∧ Aside0 (kq ≤ k) ∧ Aside0 (Kd.R Kd.string 9 w' w.heap.size (fun _ => True) (.slice Ao6 t314.length co6) t314) ∧ Aside0 (Kd.R Kd.string 9 w' w.heap.size (fun _ => True) (.slice Ao6 t314.length co6) t314) ∧ Aside0 (Below w.heap.size w w'))
  case atStart => exact ⟨((⟨#[]⟩ : ByteArray)), (0), TF, TF, H', ⟨Nat.le_refl _⟩, RW HO316, RW HO316, ⟨TB⟩⟩
  case round =>
   clear H'
   try clear c1
   try clear p2
   try clear c3
   try clear c3b0
   try clear c3b1
   obtain ⟨x6_1, x26_1, rfl, rfl, HA, HK1, HO_7, HO_24, HB⟩ := hrel
   cases gk with
   | zero => exact absurd HA.out (by simp [impl_DataBytes.l0])
   | succ k1 =>
    have H := HA.out
    clear HA
    simp only [impl_DataBytes.l0] at H
    by_cases c7 : x26_1 < (t314.length : Int)
    ·rw [if_pos c7] at H
     have c7b0 : decide (x26_1 < (t314.length : Int)) = true := decide_eq_true c7
     clear c7
     obtain ⟨c8, H⟩ := ifn H
     have c8b0 : decide (0 ≤ x26_1) = true := decide_eq_true c8
     clear c8
     obtain ⟨c9, H⟩ := ifn H
     have c9b0 : decide (x26_1 < (t314.length : Int)) = true := decide_eq_true c9
     clear c9
     obtain ⟨⟨t318, t319⟩, A10, H⟩ := bnd H
     try dsimp only at H
     by_cases c11 : t319 = true
     ·subst c11
      replace H := ift H
      by_cases c12 : (t314.length : Int) = 4
      ·rw [if_pos c12] at H
       have c12b0 : ((t314.length : Int) == 4) = true := beq_iff_eq.mpr c12
       have c12b1 : ((t314.length : Int) != 4) = false := bne_eq_false_iff_eq.mpr c12
       clear c12
       obtain ⟨t320, A13, H⟩ := bnd H
       obtain ⟨c14, H⟩ := ifn H
       have c14b0 := eq_true c14
       have c14b1 : decide (x6_1.size + t320.size ≤ 9223372036854775807) = true := decide_eq_true c14
       try have c14b2 : (9223372036854775807 < x6_1.size + t320.size) = False := eq_false (Nat.not_lt.2 c14)
       have H' := Aside0.mk H
       clear H
       have p317 : 0 ≤ (x26_1 : Int) := TD
       have q317 : x26_1 < (t314.length : Int) := TD
       obtain ⟨ad317, e317, hx317_0⟩ := Kd.at_string (Kd.R_reads' HO_24.out).2.2 x26_1 p317 q317
       cases e317
       replace p317 := eq_true p317
       replace q317 := eq_true q317
       go_wp2_with (first | ((with_reducible refine gate_callee (f := 208) rfl ?_); refine goesL_ (some 32) rfl rfl Tryz.func208 KR rfl #[.string (rdOf ByteArray.empty t314 x26_1), .int .i64 255] rfl TA ?_; (with_reducible refine (impl_numberIn.calls (rdOf ByteArray.empty t314 x26_1) 255 t318 true _ ?side1 A10.out).mono ?_); (case side1 => exact GW HGL); rintro e w15 ⟨rfl, hb⟩; refine ⟨_, rfl, ?_⟩; replace HO_7 := RB HO_7 hb; replace HO_24 := RB HO_24 hb; replace HB := BS hb; (try clear hb); (try clear hb2); (try clear hk); (try clear hi)) | ((with_reducible refine gate_callee (f := 209) rfl ?_); refine goesL_ (some 44) rfl rfl Tryz.func209 KR rfl #[.int .i64 t318, .int .i64 1] rfl TA ?_; (with_reducible refine (impl_big.calls k1 t318 1 t320 _ A13.out).mono ?_); rintro e w16 ⟨rfl, hb⟩; refine ⟨_, rfl, ?_⟩; replace HO_7 := RB HO_7 hb; replace HO_24 := RB HO_24 hb; replace HB := BS hb; (try clear hb); (try clear hb2); (try clear hk); (try clear hi)))
       go_roundg k1
       case measure => have := HK1.out; omega
       case rel => exact ⟨(x6_1 ++ t320), (wrap64 (x26_1 + 1)), TF, TF, H', ⟨TM⟩, RW HO_7, RW HO_24, ⟨TB⟩⟩
      ·rw [if_neg c12] at H
       have c12b0 : ((t314.length : Int) == 4) = false := beq_eq_false_iff_ne.mpr c12
       have c12b1 : ((t314.length : Int) != 4) = true := bne_iff_ne.mpr c12
       simp only [Option.some.injEq, Prod.mk.injEq] at H
       obtain ⟨rfl, rfl⟩ := H
       have p317 : 0 ≤ (x26_1 : Int) := TD
       have q317 : x26_1 < (t314.length : Int) := TD
       obtain ⟨ad317, e317, hx317_0⟩ := Kd.at_string (Kd.R_reads' HO_24.out).2.2 x26_1 p317 q317
       cases e317
       replace p317 := eq_true p317
       replace q317 := eq_true q317
       go_wp2_with (first | ((with_reducible refine gate_callee (f := 208) rfl ?_); refine goesL_ (some 32) rfl rfl Tryz.func208 KR rfl #[.string (rdOf ByteArray.empty t314 x26_1), .int .i64 255] rfl TA ?_; (with_reducible refine (impl_numberIn.calls (rdOf ByteArray.empty t314 x26_1) 255 t318 true _ ?side1 A10.out).mono ?_); (case side1 => exact GW HGL); rintro e w17 ⟨rfl, hb⟩; refine ⟨_, rfl, ?_⟩; replace HO_7 := RB HO_7 hb; replace HO_24 := RB HO_24 hb; replace HB := BS hb; (try clear hb); (try clear hb2); (try clear hk); (try clear hi)))
       go_ret2
       exact ⟨TE, TB⟩
     ·replace c11 := Bool.eq_false_iff.mpr c11
      subst c11
      replace H := iff' H
      simp only [Option.some.injEq, Prod.mk.injEq] at H
      obtain ⟨rfl, rfl⟩ := H
      have p317 : 0 ≤ (x26_1 : Int) := TD
      have q317 : x26_1 < (t314.length : Int) := TD
      obtain ⟨ad317, e317, hx317_0⟩ := Kd.at_string (Kd.R_reads' HO_24.out).2.2 x26_1 p317 q317
      cases e317
      replace p317 := eq_true p317
      replace q317 := eq_true q317
      go_wp2_with (first | ((with_reducible refine gate_callee (f := 208) rfl ?_); refine goesL_ (some 32) rfl rfl Tryz.func208 KR rfl #[.string (rdOf ByteArray.empty t314 x26_1), .int .i64 255] rfl TA ?_; (with_reducible refine (impl_numberIn.calls (rdOf ByteArray.empty t314 x26_1) 255 t318 false _ ?side1 A10.out).mono ?_); (case side1 => exact GW HGL); rintro e w18 ⟨rfl, hb⟩; refine ⟨_, rfl, ?_⟩; replace HO_7 := RB HO_7 hb; replace HO_24 := RB HO_24 hb; replace HB := BS hb; (try clear hb); (try clear hb2); (try clear hk); (try clear hi)))
      go_ret2
      exact ⟨TE, TB⟩
    ·rw [if_neg c7] at H
     have c7b0 : decide (x26_1 < (t314.length : Int)) = false := decide_eq_false c7
     clear c7
     simp only [Option.some.injEq, Prod.mk.injEq] at H
     obtain ⟨rfl, rfl⟩ := H
     go_wp2
     go_ret2
     exact ⟨TE, TB⟩
 ·rw [if_neg c3] at H
  have c3b0 : (a0 == 1) = false := beq_eq_false_iff_ne.mpr c3
  have c3b1 : (a0 != 1) = true := bne_iff_ne.mpr c3
  have HC19 := Aside0.mk H
  clear H
  go_enter Tryz.func187, Tryz.ntmps187
  go_upto_if 48 with (fail)
  go_cut [48] (fun v48 wc => ∃ (kq : Nat) (x48_18 : Bool), v48 = .bool x48_18 ∧ Aside0 (impl_DataBytes.j1 kq a1 a0 x48_18 = some (r1, r2)) ∧ Aside0 (kq ≤ k) ∧ Aside0 (Below w.heap.size w wc))
  case first =>
   have H := HC19.out
   clear HC19
   by_cases c20 : a0 = 2
   ·rw [if_pos c20] at H
    have c20b0 : (a0 == 2) = true := beq_iff_eq.mpr c20
    have c20b1 : (a0 != 2) = false := bne_eq_false_iff_eq.mpr c20
    clear c20
    (first | rw [c20b0] | (simp only [i64_w, i32_w]; rw [c20b0]) | skip)
    have H' := Aside0.mk H
    clear H
    go_wp2
    go_meet
    case rel => exact ⟨_, ((a0 == 2)), TF, H', ⟨by first | omega | exact Nat.le_refl _⟩, ⟨TB⟩⟩
   ·rw [if_neg c20] at H
    have c20b0 : (a0 == 2) = false := beq_eq_false_iff_ne.mpr c20
    have c20b1 : (a0 != 2) = true := bne_iff_ne.mpr c20
    (first | rw [c20b0] | (simp only [i64_w, i32_w]; rw [c20b0]) | skip)
    have H' := Aside0.mk H
    clear H
    go_wp2
    go_meet
    case rel => exact ⟨_, ((a0 == 5)), TF, H', ⟨by first | omega | exact Nat.le_refl _⟩, ⟨TB⟩⟩
  case rest =>
   clear HC19
   try clear c1
   try clear c2
   try clear p2
   try clear c3
   try clear c3b0
   try clear c3b1
   try clear p3
   try clear q3
   try clear hx3
   try clear p6
   try clear c7
   try clear c7b0
   try clear c8
   try clear c8b0
   try clear c9
   try clear c9b0
   try clear c11
   try clear c12
   try clear c12b0
   try clear c12b1
   try clear c14
   try clear c14b0
   try clear c14b1
   try clear c14b2
   try clear c16
   try clear c18
   try clear c20
   try clear c20b0
   try clear c20b1
   try clear hx317_0
   try clear p2
   try clear p317
   try clear q317
   obtain ⟨kq, x48_18, rfl, HA, HJ18, HB⟩ := hcut
   cases kq with
   | zero => exact absurd HA.out (by simp [impl_DataBytes.j1])
   | succ kj18 =>
    have H := HA.out
    clear HA
    simp only [impl_DataBytes.j1] at H
    by_cases c21 : x48_18 = true
    ·subst c21
     replace H := ift H
     obtain ⟨t321, A22, H⟩ := bnd H
     by_cases c23 : t321 = true
     ·subst c23
      replace H := ift H
      obtain ⟨t322, A24, H⟩ := bnd H
      obtain ⟨c25, H⟩ := ifn H
      have c25b0 := eq_true c25
      have c25b1 : decide (t322.size + 1 ≤ 9223372036854775807) = true := decide_eq_true c25
      try have c25b2 : (9223372036854775807 < t322.size + 1) = False := eq_false (Nat.not_lt.2 c25)
      simp only [Option.some.injEq, Prod.mk.injEq] at H
      obtain ⟨rfl, rfl⟩ := H
      go_wp2_with (first | ((with_reducible refine gate_callee (f := 210) rfl ?_); refine goesL_ (some 52) rfl rfl Tryz.func210 KR rfl #[.string a1] rfl TA ?_; (with_reducible refine (impl_isTarget.calls kj18 a1 true _ A22.out).mono ?_); rintro e w26 ⟨rfl, hb⟩; refine ⟨_, rfl, ?_⟩; replace HB := BS hb; (try clear hb); (try clear hb2); (try clear hk); (try clear hi)) | ((with_reducible refine gate_callee (f := 211) rfl ?_); refine goesL_ (some 55) rfl rfl Tryz.func211 KR rfl #[.string a1] rfl TA ?_; (with_reducible refine (impl_labelBytes.calls kj18 a1 t322 _ A24.out).mono ?_); rintro e w27 ⟨rfl, hb⟩; refine ⟨_, rfl, ?_⟩; replace HB := BS hb; (try clear hb); (try clear hb2); (try clear hk); (try clear hi)))
      go_ret2
      exact ⟨TE, TB⟩
     ·replace c23 := Bool.eq_false_iff.mpr c23
      subst c23
      replace H := iff' H
      simp only [Option.some.injEq, Prod.mk.injEq] at H
      obtain ⟨rfl, rfl⟩ := H
      go_wp2_with (first | ((with_reducible refine gate_callee (f := 210) rfl ?_); refine goesL_ (some 52) rfl rfl Tryz.func210 KR rfl #[.string a1] rfl TA ?_; (with_reducible refine (impl_isTarget.calls kj18 a1 false _ A22.out).mono ?_); rintro e w28 ⟨rfl, hb⟩; refine ⟨_, rfl, ?_⟩; replace HB := BS hb; (try clear hb); (try clear hb2); (try clear hk); (try clear hi)))
      go_ret2
      exact ⟨TE, TB⟩
    ·replace c21 := Bool.eq_false_iff.mpr c21
     subst c21
     replace H := iff' H
     by_cases c29 : a0 = 6
     ·rw [if_pos c29] at H
      have c29b0 : (a0 == 6) = true := beq_iff_eq.mpr c29
      have c29b1 : (a0 != 6) = false := bne_eq_false_iff_eq.mpr c29
      clear c29
      obtain ⟨⟨t323, t324⟩, A30, H⟩ := bnd H
      try dsimp only at H
      by_cases c31 : t324 = true
      ·subst c31
       replace H := ift H
       obtain ⟨t325, A32, H⟩ := bnd H
       simp only [Option.some.injEq, Prod.mk.injEq] at H
       obtain ⟨rfl, rfl⟩ := H
       go_wp2_with (first | ((with_reducible refine gate_callee (f := 208) rfl ?_); refine goesL_ (some 61) rfl rfl Tryz.func208 KR rfl #[.string a1, .int .i64 4294967295] rfl TA ?_; (with_reducible refine (impl_numberIn.calls a1 4294967295 t323 true _ ?side1 A30.out).mono ?_); (case side1 => exact GW HGL); rintro e w33 ⟨rfl, hb⟩; refine ⟨_, rfl, ?_⟩; replace HB := BS hb; (try clear hb); (try clear hb2); (try clear hk); (try clear hi)) | ((with_reducible refine gate_callee (f := 209) rfl ?_); refine goesL_ (some 67) rfl rfl Tryz.func209 KR rfl #[.int .i64 t323, .int .i64 4] rfl TA ?_; (with_reducible refine (impl_big.calls kj18 t323 4 t325 _ A32.out).mono ?_); rintro e w34 ⟨rfl, hb⟩; refine ⟨_, rfl, ?_⟩; replace HB := BS hb; (try clear hb); (try clear hb2); (try clear hk); (try clear hi)))
       go_ret2
       exact ⟨TE, TB⟩
      ·replace c31 := Bool.eq_false_iff.mpr c31
       subst c31
       replace H := iff' H
       simp only [Option.some.injEq, Prod.mk.injEq] at H
       obtain ⟨rfl, rfl⟩ := H
       go_wp2_with (first | ((with_reducible refine gate_callee (f := 208) rfl ?_); refine goesL_ (some 61) rfl rfl Tryz.func208 KR rfl #[.string a1, .int .i64 4294967295] rfl TA ?_; (with_reducible refine (impl_numberIn.calls a1 4294967295 t323 false _ ?side1 A30.out).mono ?_); (case side1 => exact GW HGL); rintro e w35 ⟨rfl, hb⟩; refine ⟨_, rfl, ?_⟩; replace HB := BS hb; (try clear hb); (try clear hb2); (try clear hk); (try clear hi)))
       go_ret2
       exact ⟨TE, TB⟩
     ·rw [if_neg c29] at H
      have c29b0 : (a0 == 6) = false := beq_eq_false_iff_ne.mpr c29
      have c29b1 : (a0 != 6) = true := bne_iff_ne.mpr c29
      by_cases c36 : a0 = 15
      ·rw [if_pos c36] at H
       have c36b0 : (a0 == 15) = true := beq_iff_eq.mpr c36
       have c36b1 : (a0 != 15) = false := bne_eq_false_iff_eq.mpr c36
       clear c36
       obtain ⟨⟨t326, t327, t328⟩, A37, H⟩ := bnd H
       try dsimp only at H
       obtain ⟨⟨t329, t330⟩, A38, H⟩ := bnd H
       try dsimp only at H
       have HC39 := Aside0.mk H
       clear H
       go_upto_region 27 with (first | ((with_reducible refine gate_callee (f := 182) rfl ?_); refine goesL_ (some 72) rfl rfl Tryz.func182 KR rfl #[.string a1, .string (⟨#[32]⟩ : ByteArray)] rfl TA ?_; (with_reducible refine (strings_Cut.calls a1 (⟨#[32]⟩ : ByteArray) t326 t327 t328 _ A37.out).mono ?_); rintro e w' ⟨rfl, ⟨nd, rfl⟩⟩; refine ⟨_, rfl, ?_⟩) | ((with_reducible refine gate_callee (f := 208) rfl ?_); refine goesL_ (some 78) rfl rfl Tryz.func208 KR rfl #[.string t326, .int .i64 65535] rfl TA ?_; (with_reducible refine (impl_numberIn.calls t326 65535 t329 t330 _ ?side1 A38.out).mono ?_); (case side1 => exact GW HGL); rintro e w40 ⟨rfl, hb⟩; refine ⟨_, rfl, ?_⟩; replace HB := BS hb; (try clear hb); (try clear hb2); (try clear hk); (try clear hi)))
       (try simp only [Act.put, List.setIfInBounds_toArray, List.set_cons_zero, List.set_cons_succ])
       go_cut [87] (fun v87 wc => ∃ (kq : Nat) (x87_38 : Bool), v87 = .bool x87_38 ∧ Aside0 (impl_DataBytes.j2 kq t327 t329 x87_38 = some (r1, r2)) ∧ Aside0 (kq ≤ kj18) ∧ Aside0 (Below w.heap.size w wc))
       case first =>
        have H := HC39.out
        clear HC39
        by_cases c41 : t330 = true
        ·subst c41
         replace H := ift H
         obtain ⟨t331, A42, H⟩ := bnd H
         have H' := Aside0.mk H
         clear H
         go_wp2_with (first | (go_at_call 210; (with_reducible refine (impl_isTarget.calls kj18 t327 t331 _ A42.out).mono ?_); rintro e w43 ⟨rfl, hb⟩; replace HB := BS hb; (try clear hb); (try clear hb2); (try clear hk); (try clear hi)))
         go_meet
         case rel => exact ⟨_, (!t331), TF, H', ⟨by have := HJ18.out; first | omega | exact Nat.le_refl _⟩, ⟨TB⟩⟩
        ·replace c41 := Bool.eq_false_iff.mpr c41
         subst c41
         replace H := iff' H
         have H' := Aside0.mk H
         clear H
         go_wp2
         go_meet
         case rel => exact ⟨_, (true), TF, H', ⟨by have := HJ18.out; first | omega | exact Nat.le_refl _⟩, ⟨TB⟩⟩
       case rest =>
        clear HC39
        try clear c1
        try clear c2
        try clear p2
        try clear c3
        try clear c3b0
        try clear c3b1
        try clear p3
        try clear q3
        try clear hx3
        try clear c4
        try clear p6
        try clear c7
        try clear c7b0
        try clear c8
        try clear c8b0
        try clear c9
        try clear c9b0
        try clear c11
        try clear c12
        try clear c12b0
        try clear c12b1
        try clear c14
        try clear c14b0
        try clear c14b1
        try clear c14b2
        try clear c16
        try clear c18
        try clear c20
        try clear c20b0
        try clear c20b1
        try clear c21
        try clear c23
        try clear c25
        try clear c25b0
        try clear c25b1
        try clear c25b2
        try clear c29
        try clear c29b0
        try clear c29b1
        try clear c31
        try clear p31
        try clear q31
        try clear hx31
        try clear c36
        try clear c36b0
        try clear c36b1
        try clear c41
        try clear hx317_0
        try clear p2
        try clear p3
        try clear p317
        try clear p6
        try clear q3
        try clear q317
        obtain ⟨kq, x87_38, rfl, HA, HJ38, HB⟩ := hcut
        cases kq with
        | zero => exact absurd HA.out (by simp [impl_DataBytes.j2])
        | succ kj38 =>
         have H := HA.out
         clear HA
         simp only [impl_DataBytes.j2] at H
         by_cases c44 : x87_38 = true
         ·subst c44
          replace H := ift H
          simp only [Option.some.injEq, Prod.mk.injEq] at H
          obtain ⟨rfl, rfl⟩ := H
          go_wp2
          go_ret2
          exact ⟨TE, TB⟩
         ·replace c44 := Bool.eq_false_iff.mpr c44
          subst c44
          replace H := iff' H
          obtain ⟨t332, A45, H⟩ := bnd H
          obtain ⟨t333, A46, H⟩ := bnd H
          obtain ⟨c47, H⟩ := ifn H
          have c47b0 := eq_true c47
          have c47b1 : decide (t332.size + t333.size ≤ 9223372036854775807) = true := decide_eq_true c47
          try have c47b2 : (9223372036854775807 < t332.size + t333.size) = False := eq_false (Nat.not_lt.2 c47)
          obtain ⟨c48, H⟩ := ifn H
          have c48b0 := eq_true c48
          have c48b1 : decide ((t332 ++ t333).size + 1 ≤ 9223372036854775807) = true := decide_eq_true c48
          try have c48b7 : (t332.size + t333.size + 1 ≤ 9223372036854775807) = True := eq_true (by have h_ := c48; simp only [ByteArray.size_append] at h_; exact h_)
          try have c48b9 : (9223372036854775807 < t332.size + t333.size + 1) = False := eq_false (Nat.not_lt.2 (by have h_ := c48; simp only [ByteArray.size_append] at h_; exact h_))
          try have c48b8 : decide (t332.size + t333.size + 1 ≤ 9223372036854775807) = true := decide_eq_true (by have h_ := c48; simp only [ByteArray.size_append] at h_; exact h_)
          try have c48b2 : (9223372036854775807 < (t332 ++ t333).size + 1) = False := eq_false (Nat.not_lt.2 c48)
          simp only [Option.some.injEq, Prod.mk.injEq] at H
          obtain ⟨rfl, rfl⟩ := H
          go_wp2_with (first | ((with_reducible refine gate_callee (f := 209) rfl ?_); refine goesL_ (some 89) rfl rfl Tryz.func209 KR rfl #[.int .i64 t329, .int .i64 2] rfl TA ?_; (with_reducible refine (impl_big.calls kj38 t329 2 t332 _ A45.out).mono ?_); rintro e w49 ⟨rfl, hb⟩; refine ⟨_, rfl, ?_⟩; replace HB := BS hb; (try clear hb); (try clear hb2); (try clear hk); (try clear hi)) | ((with_reducible refine gate_callee (f := 211) rfl ?_); refine goesL_ (some 91) rfl rfl Tryz.func211 KR rfl #[.string t327] rfl TA ?_; (with_reducible refine (impl_labelBytes.calls kj38 t327 t333 _ A46.out).mono ?_); rintro e w50 ⟨rfl, hb⟩; refine ⟨_, rfl, ?_⟩; replace HB := BS hb; (try clear hb); (try clear hb2); (try clear hk); (try clear hi)))
          go_ret2
          exact ⟨TE, TB⟩
      ·rw [if_neg c36] at H
       have c36b0 : (a0 == 15) = false := beq_eq_false_iff_ne.mpr c36
       have c36b1 : (a0 != 15) = true := bne_iff_ne.mpr c36
       by_cases c51 : a0 = 16
       ·rw [if_pos c51] at H
        have c51b0 : (a0 == 16) = true := beq_iff_eq.mpr c51
        have c51b1 : (a0 != 16) = false := bne_eq_false_iff_eq.mpr c51
        clear c51
        by_cases c52 : (a1.size : Int) > 30
        ·rw [if_pos c52] at H
         have c52b0 : decide (30 < (a1.size : Int)) = true := decide_eq_true c52
         have c52b1 : decide (30 < a1.size) = true := decide_eq_true (by omega)
         clear c52
         simp only [Option.some.injEq, Prod.mk.injEq] at H
         obtain ⟨rfl, rfl⟩ := H
         go_wp2
         go_ret2
         exact ⟨TE, TB⟩
        ·rw [if_neg c52] at H
         have c52b0 : decide (30 < (a1.size : Int)) = false := decide_eq_false c52
         have c52b1 : decide (30 < a1.size) = false := decide_eq_false (by omega)
         clear c52
         obtain ⟨c53, H⟩ := ifn H
         have c53b0 := eq_true c53
         have c53b1 : decide (a1.size ≤ 9223372036854775807) = true := decide_eq_true c53
         try have c53b2 : (9223372036854775807 < a1.size) = False := eq_false (Nat.not_lt.2 c53)
         clear c53
         obtain ⟨y334, hy334⟩ : ∃ y_ : List Int, y_ = (bytesOf a1) := ⟨_, rfl⟩
         replace H : ((slices_ContainsFunc_byte_byte_DataBytes_1.f kj18 y334).bind fun t337 => (if t337 = true then (some ((⟨#[]⟩ : ByteArray), false)) else ((impl_big.f kj18 (a1.size : Int) 1).bind fun t338 => (if t338.size + a1.size ≤ 9223372036854775807 then (some (t338 ++ a1, true)) else (none))))) = some (r1, r2) := by first | (rw [hy334]; with_reducible exact H) | (have H2_ := (Option.bind_some _ _).symm.trans H; rw [hy334]; with_reducible exact H2_) | (have H2_ := (Option.bind_some _ _).symm.trans H; with_reducible exact H2_) | with_reducible exact H | (rw [hy334]; exact H) | exact H
         have Ny334 := Aside0.mk hy334
         clear hy334
         obtain ⟨t337, A54, H⟩ := bnd H
         by_cases c55 : t337 = true
         ·subst c55
          replace H := ift H
          simp only [Option.some.injEq, Prod.mk.injEq] at H
          obtain ⟨rfl, rfl⟩ := H
          go_wp2_with (first | ((with_reducible refine gate_dst (N := 101) rfl ?_); (try (refine gate_guard (by rfl) ?_; dsimp only)); refine Kd.V_bytes _ 5 rfl (N := 101) rfl 9 162 _ rfl a1 rfl Tryz.underlying9 Tryz.underlying162 Tryz.underlying5 TD (ok := fun k_ => wc.heap.size ≤ k_) (Nat.le_refl _) (Below.refl _ _) (Nat.le_refl _) ?_; intro v335 w56 ho57 hb hg_ hnew_; clear hg_ hnew_; (first | rw [← Ny334.out] at ho57 | (simp only [Int.reduceToNat] at ho57; rw [← Ny334.out] at ho57)); have HO336 := Aside0.mk (Kd.V_lower (Kd.V_mono (ok' := fun k_ => True) ho57 (fun k_ hk_ => trivial)) (below_size TB)); replace HB := BS hb; clear hb ho57; obtain ⟨Ao58, co58, eo58⟩ := Kd.V_slice HO336.out; subst eo58) | (go_at_call 212; (with_reducible refine (slices_ContainsFunc_byte_byte_DataBytes_1.calls kj18 _ _ y334  true _ ?side1 ?side2 A54.out).mono ?_); (case side1 => exact CW ((Kd.V_reads' HO336.out).2.2)); (case side2 => exact (Kd.V_reads' HO336.out).2.1); rintro e w' ⟨rfl, ⟨nd, rfl⟩⟩))
          go_ret2
          exact ⟨TE, TB⟩
         ·replace c55 := Bool.eq_false_iff.mpr c55
          subst c55
          replace H := iff' H
          obtain ⟨t338, A59, H⟩ := bnd H
          obtain ⟨c60, H⟩ := ifn H
          have c60b0 := eq_true c60
          have c60b1 : decide (t338.size + a1.size ≤ 9223372036854775807) = true := decide_eq_true c60
          try have c60b2 : (9223372036854775807 < t338.size + a1.size) = False := eq_false (Nat.not_lt.2 c60)
          simp only [Option.some.injEq, Prod.mk.injEq] at H
          obtain ⟨rfl, rfl⟩ := H
          go_wp2_with (first | ((with_reducible refine gate_dst (N := 101) rfl ?_); (try (refine gate_guard (by rfl) ?_; dsimp only)); refine Kd.V_bytes _ 5 rfl (N := 101) rfl 9 162 _ rfl a1 rfl Tryz.underlying9 Tryz.underlying162 Tryz.underlying5 TD (ok := fun k_ => wc.heap.size ≤ k_) (Nat.le_refl _) (Below.refl _ _) (Nat.le_refl _) ?_; intro v335 w61 ho62 hb hg_ hnew_; clear hg_ hnew_; (first | rw [← Ny334.out] at ho62 | (simp only [Int.reduceToNat] at ho62; rw [← Ny334.out] at ho62)); have HO336 := Aside0.mk (Kd.V_lower (Kd.V_mono (ok' := fun k_ => True) ho62 (fun k_ hk_ => trivial)) (below_size TB)); replace HB := BS hb; clear hb ho62; obtain ⟨Ao63, co63, eo63⟩ := Kd.V_slice HO336.out; subst eo63) | (go_at_call 212; (with_reducible refine (slices_ContainsFunc_byte_byte_DataBytes_1.calls kj18 _ _ y334  false _ ?side1 ?side2 A54.out).mono ?_); (case side1 => exact CW ((Kd.V_reads' HO336.out).2.2)); (case side2 => exact (Kd.V_reads' HO336.out).2.1); rintro e w' ⟨rfl, ⟨nd, rfl⟩⟩) | ((with_reducible refine gate_callee (f := 209) rfl ?_); refine goesL_ (some 106) rfl rfl Tryz.func209 KR rfl #[.int .i64 (a1.size : Int), .int .i64 1] rfl TA ?_; (with_reducible refine (impl_big.calls kj18 (a1.size : Int) 1 t338 _ A59.out).mono ?_); rintro e w64 ⟨rfl, hb⟩; refine ⟨_, rfl, ?_⟩; replace HO336 := Aside0.mk (Kd.V_below (by (with_reducible repeat (first | apply Kd.V_alloc | apply Kd.V_drewN | apply Kd.V_drew)); exact HO336.out) hb); replace HB := BS hb; (try clear hb); (try clear hb2); (try clear hk); (try clear hi)))
          go_ret2
          exact ⟨TE, TB⟩
       ·rw [if_neg c51] at H
        have c51b0 : (a0 == 16) = false := beq_eq_false_iff_ne.mpr c51
        have c51b1 : (a0 != 16) = true := bne_iff_ne.mpr c51
        simp only [Option.some.injEq, Prod.mk.injEq] at H
        obtain ⟨rfl, rfl⟩ := H
        go_wp2
        go_ret2
        exact ⟨TE, TB⟩
end
section
/-! ### impl_GoodRecord: function 162 -/
def impl_GoodRecord.f (k : Nat) (a0_0 : ByteArray) (a0_1 : Int) (a0_2 : Int) (a0_3 : ByteArray) : Option (Bool) := (impl_GoodName.f k a0_0).bind fun t340 => (if t340 = true then ((impl_within.f a0_2 0 100000).bind fun t341 => (if t341 = true then (if (a0_3.size : Int) > 100 then (some false) else ((impl_DataBytes.f k a0_1 a0_3).bind fun bt342 => (some bt342.2))) else (some false))) else (some false))
theorem impl_GoodRecord.calls (k : Nat) (a0_0 : ByteArray) (a0_1 : Int) (a0_2 : Int) (a0_3 : ByteArray) (r : Bool) (w : World) (hG_ : Glob w) (h : impl_GoodRecord.f k a0_0 a0_1 a0_2 a0_3 = some r) :
  Calls Tryz.prog 162 #[.agg #[.string a0_0, .int .i64 a0_1, .int .i64 a0_2, .string a0_3]] w fun e w' => e = .returned (.bool r) ∧ Below w.heap.size w w' := by
 have hu93 := Tryz.underlying93
 have HGL := Aside0.mk hG_
 clear hG_
 have HB := Aside0.mk (Below.refl w.heap.size w)
 have H : ((impl_GoodName.f k a0_0).bind fun t340 => (if t340 = true then ((impl_within.f a0_2 0 100000).bind fun t341 => (if t341 = true then (if (a0_3.size : Int) > 100 then (some false) else ((impl_DataBytes.f k a0_1 a0_3).bind fun bt342 => (some bt342.2))) else (some false))) else (some false))) = some r := h
 clear h
 obtain ⟨t340, A2, H⟩ := bnd H
 by_cases c3 : t340 = true
 ·subst c3
  replace H := ift H
  obtain ⟨t341, A4, H⟩ := bnd H
  by_cases c5 : t341 = true
  ·subst c5
   replace H := ift H
   by_cases c6 : (a0_3.size : Int) > 100
   ·rw [if_pos c6] at H
    have c6b0 : decide (100 < (a0_3.size : Int)) = true := decide_eq_true c6
    have c6b1 : decide (100 < a0_3.size) = true := decide_eq_true (by omega)
    clear c6
    obtain rfl := Option.some.inj H
    go_enter Tryz.func162, Tryz.ntmps162
    go_wp2_with (first | ((with_reducible refine gate_dst (N := 1) rfl ?_); (try (refine gate_guard (by rfl) ?_; dsimp only)); refine bE 1 #[.string a0_0, .int .i64 a0_1, .int .i64 a0_2, .string a0_3] 93 ?_; intro gb339 hg w7 hbox hb; have BK339 := Aside0.mk (hbox); have GE339 := bG hg; replace HB := BS hb; clear hb hbox hg; have hcz8 := cz4 BK339) | ((with_reducible refine gate_callee (f := 77) rfl ?_); refine goesL_ (some 7) rfl rfl Tryz.func77 KR rfl #[.string a0_0] rfl TA ?_; (with_reducible refine (impl_GoodName.calls k a0_0 true _ A2.out).mono ?_); rintro e w9 ⟨rfl, hb⟩; refine ⟨_, rfl, ?_⟩; replace BK339 := KB BK339 hb; replace HB := BS hb; (try clear hb); (try clear hb2); (try clear hk); (try clear hi); have hcz10 := cz4 BK339) | (go_at_call 86; (with_reducible refine (impl_within.calls a0_2 0 100000 true _ A4.out).mono ?_); rintro e w' ⟨rfl, ⟨nd, rfl⟩⟩))
    go_ret
    exact ⟨TE, TB⟩
   ·rw [if_neg c6] at H
    have c6b0 : decide (100 < (a0_3.size : Int)) = false := decide_eq_false c6
    have c6b1 : decide (100 < a0_3.size) = false := decide_eq_false (by omega)
    clear c6
    obtain ⟨⟨t342, t343⟩, A11, H⟩ := bnd H
    try dsimp only at H
    obtain rfl := Option.some.inj H
    go_enter Tryz.func162, Tryz.ntmps162
    go_wp2_with (first | ((with_reducible refine gate_dst (N := 1) rfl ?_); (try (refine gate_guard (by rfl) ?_; dsimp only)); refine bE 1 #[.string a0_0, .int .i64 a0_1, .int .i64 a0_2, .string a0_3] 93 ?_; intro gb339 hg w12 hbox hb; have BK339 := Aside0.mk (hbox); have GE339 := bG hg; replace HB := BS hb; clear hb hbox hg; have hcz13 := cz4 BK339) | ((with_reducible refine gate_callee (f := 77) rfl ?_); refine goesL_ (some 7) rfl rfl Tryz.func77 KR rfl #[.string a0_0] rfl TA ?_; (with_reducible refine (impl_GoodName.calls k a0_0 true _ A2.out).mono ?_); rintro e w14 ⟨rfl, hb⟩; refine ⟨_, rfl, ?_⟩; replace BK339 := KB BK339 hb; replace HB := BS hb; (try clear hb); (try clear hb2); (try clear hk); (try clear hi); have hcz15 := cz4 BK339) | (go_at_call 86; (with_reducible refine (impl_within.calls a0_2 0 100000 true _ A4.out).mono ?_); rintro e w' ⟨rfl, ⟨nd, rfl⟩⟩) | ((with_reducible refine gate_callee (f := 187) rfl ?_); refine goesL_ (some 26) rfl rfl Tryz.func187 KR rfl #[.int .i64 a0_1, .string a0_3] rfl TA ?_; (with_reducible refine (impl_DataBytes.calls k a0_1 a0_3 t342 t343 _ ?side1 A11.out).mono ?_); (case side1 => exact GW HGL); rintro e w16 ⟨rfl, hb⟩; refine ⟨_, rfl, ?_⟩; replace BK339 := KB BK339 hb; replace HB := BS hb; (try clear hb); (try clear hb2); (try clear hk); (try clear hi)))
    go_ret
    exact ⟨TE, TB⟩
  ·replace c5 := Bool.eq_false_iff.mpr c5
   subst c5
   replace H := iff' H
   obtain rfl := Option.some.inj H
   go_enter Tryz.func162, Tryz.ntmps162
   go_wp2_with (first | ((with_reducible refine gate_dst (N := 1) rfl ?_); (try (refine gate_guard (by rfl) ?_; dsimp only)); refine bE 1 #[.string a0_0, .int .i64 a0_1, .int .i64 a0_2, .string a0_3] 93 ?_; intro gb339 hg w17 hbox hb; have BK339 := Aside0.mk (hbox); have GE339 := bG hg; replace HB := BS hb; clear hb hbox hg; have hcz18 := cz4 BK339) | ((with_reducible refine gate_callee (f := 77) rfl ?_); refine goesL_ (some 7) rfl rfl Tryz.func77 KR rfl #[.string a0_0] rfl TA ?_; (with_reducible refine (impl_GoodName.calls k a0_0 true _ A2.out).mono ?_); rintro e w19 ⟨rfl, hb⟩; refine ⟨_, rfl, ?_⟩; replace BK339 := KB BK339 hb; replace HB := BS hb; (try clear hb); (try clear hb2); (try clear hk); (try clear hi); have hcz20 := cz4 BK339) | (go_at_call 86; (with_reducible refine (impl_within.calls a0_2 0 100000 false _ A4.out).mono ?_); rintro e w' ⟨rfl, ⟨nd, rfl⟩⟩))
   go_ret
   exact ⟨TE, TB⟩
 ·replace c3 := Bool.eq_false_iff.mpr c3
  subst c3
  replace H := iff' H
  obtain rfl := Option.some.inj H
  go_enter Tryz.func162, Tryz.ntmps162
  go_wp2_with (first | ((with_reducible refine gate_dst (N := 1) rfl ?_); (try (refine gate_guard (by rfl) ?_; dsimp only)); refine bE 1 #[.string a0_0, .int .i64 a0_1, .int .i64 a0_2, .string a0_3] 93 ?_; intro gb339 hg w21 hbox hb; have BK339 := Aside0.mk (hbox); have GE339 := bG hg; replace HB := BS hb; clear hb hbox hg; have hcz22 := cz4 BK339) | ((with_reducible refine gate_callee (f := 77) rfl ?_); refine goesL_ (some 7) rfl rfl Tryz.func77 KR rfl #[.string a0_0] rfl TA ?_; (with_reducible refine (impl_GoodName.calls k a0_0 false _ A2.out).mono ?_); rintro e w23 ⟨rfl, hb⟩; refine ⟨_, rfl, ?_⟩; replace BK339 := KB BK339 hb; replace HB := BS hb; (try clear hb); (try clear hb2); (try clear hk); (try clear hi)))
  go_ret
  exact ⟨TE, TB⟩
end
section
/-! ### cmp_isNaN_int: function 141 -/
def cmp_isNaN_int.f (a0 : Int) : Option (Bool) := some (a0 != a0)
theorem cmp_isNaN_int.calls (a0 : Int) (r : Bool) (w : World) (h : cmp_isNaN_int.f a0 = some r) :
  Calls Tryz.prog 141 #[.int .i64 a0] w fun e w' => e = .returned (.bool r) ∧ Drawn0 w w' := by
 have H : (some (a0 != a0)) = some r := h
 clear h
 obtain rfl := Option.some.inj H
 go_enter Tryz.func141, Tryz.ntmps141
 go_wp2
 go_ret
 exact ⟨TF, TN⟩
end
section
/-! ### cmp_Compare_int: function 92 -/
def cmp_Compare_int.f (a0 : Int) (a1 : Int) : Option (Int) := (cmp_isNaN_int.f a0).bind fun t362 => ((cmp_isNaN_int.f a1).bind fun t363 => (if t362 = true then (if t363 = true then (some 0) else (some (-1))) else (if t363 = true then (some 1) else (if a0 < a1 then (some (-1)) else (if a0 > a1 then (some 1) else (some 0))))))
theorem cmp_Compare_int.calls (a0 : Int) (a1 : Int) (r : Int) (w : World) (h : cmp_Compare_int.f a0 a1 = some r) :
  Calls Tryz.prog 92 #[.int .i64 a0, .int .i64 a1] w fun e w' => e = .returned (.int .i64 r) ∧ Drawn0 w w' := by
 have H : ((cmp_isNaN_int.f a0).bind fun t362 => ((cmp_isNaN_int.f a1).bind fun t363 => (if t362 = true then (if t363 = true then (some 0) else (some (-1))) else (if t363 = true then (some 1) else (if a0 < a1 then (some (-1)) else (if a0 > a1 then (some 1) else (some 0))))))) = some r := h
 clear h
 obtain ⟨t362, A3, H⟩ := bnd H
 obtain ⟨t363, A4, H⟩ := bnd H
 by_cases c5 : t362 = true
 ·subst c5
  replace H := ift H
  by_cases c6 : t363 = true
  ·subst c6
   replace H := ift H
   obtain rfl := Option.some.inj H
   go_enter Tryz.func92, Tryz.ntmps92
   go_wp2_with (first | ((with_reducible refine gate_callee (f := 141) rfl ?_); refine goesL_ (some 8) rfl rfl Tryz.func141 KR rfl #[.int .i64 a0] rfl TA ?_; (with_reducible refine (cmp_isNaN_int.calls a0 true _ A3.out).mono ?_); rintro e w' ⟨rfl, ⟨nd, rfl⟩⟩; refine ⟨_, rfl, ?_⟩) | ((with_reducible refine gate_callee (f := 141) rfl ?_); refine goesL_ (some 10) rfl rfl Tryz.func141 KR rfl #[.int .i64 a1] rfl TA ?_; (with_reducible refine (cmp_isNaN_int.calls a1 true _ A4.out).mono ?_); rintro e w' ⟨rfl, ⟨nd, rfl⟩⟩; refine ⟨_, rfl, ?_⟩))
   go_ret
   exact ⟨TF, TN⟩
  ·replace c6 := Bool.eq_false_iff.mpr c6
   subst c6
   replace H := iff' H
   obtain rfl := Option.some.inj H
   go_enter Tryz.func92, Tryz.ntmps92
   go_wp2_with (first | ((with_reducible refine gate_callee (f := 141) rfl ?_); refine goesL_ (some 8) rfl rfl Tryz.func141 KR rfl #[.int .i64 a0] rfl TA ?_; (with_reducible refine (cmp_isNaN_int.calls a0 true _ A3.out).mono ?_); rintro e w' ⟨rfl, ⟨nd, rfl⟩⟩; refine ⟨_, rfl, ?_⟩) | ((with_reducible refine gate_callee (f := 141) rfl ?_); refine goesL_ (some 10) rfl rfl Tryz.func141 KR rfl #[.int .i64 a1] rfl TA ?_; (with_reducible refine (cmp_isNaN_int.calls a1 false _ A4.out).mono ?_); rintro e w' ⟨rfl, ⟨nd, rfl⟩⟩; refine ⟨_, rfl, ?_⟩))
   go_ret
   exact ⟨TF, TN⟩
 ·replace c5 := Bool.eq_false_iff.mpr c5
  subst c5
  replace H := iff' H
  by_cases c7 : t363 = true
  ·subst c7
   replace H := ift H
   obtain rfl := Option.some.inj H
   go_enter Tryz.func92, Tryz.ntmps92
   go_wp2_with (first | ((with_reducible refine gate_callee (f := 141) rfl ?_); refine goesL_ (some 8) rfl rfl Tryz.func141 KR rfl #[.int .i64 a0] rfl TA ?_; (with_reducible refine (cmp_isNaN_int.calls a0 false _ A3.out).mono ?_); rintro e w' ⟨rfl, ⟨nd, rfl⟩⟩; refine ⟨_, rfl, ?_⟩) | ((with_reducible refine gate_callee (f := 141) rfl ?_); refine goesL_ (some 10) rfl rfl Tryz.func141 KR rfl #[.int .i64 a1] rfl TA ?_; (with_reducible refine (cmp_isNaN_int.calls a1 true _ A4.out).mono ?_); rintro e w' ⟨rfl, ⟨nd, rfl⟩⟩; refine ⟨_, rfl, ?_⟩))
   go_ret
   exact ⟨TF, TN⟩
  ·replace c7 := Bool.eq_false_iff.mpr c7
   subst c7
   replace H := iff' H
   by_cases c8 : a0 < a1
   ·rw [if_pos c8] at H
    have c8b0 : decide (a0 < a1) = true := decide_eq_true c8
    clear c8
    obtain rfl := Option.some.inj H
    go_enter Tryz.func92, Tryz.ntmps92
    go_wp2_with (first | ((with_reducible refine gate_callee (f := 141) rfl ?_); refine goesL_ (some 8) rfl rfl Tryz.func141 KR rfl #[.int .i64 a0] rfl TA ?_; (with_reducible refine (cmp_isNaN_int.calls a0 false _ A3.out).mono ?_); rintro e w' ⟨rfl, ⟨nd, rfl⟩⟩; refine ⟨_, rfl, ?_⟩) | ((with_reducible refine gate_callee (f := 141) rfl ?_); refine goesL_ (some 10) rfl rfl Tryz.func141 KR rfl #[.int .i64 a1] rfl TA ?_; (with_reducible refine (cmp_isNaN_int.calls a1 false _ A4.out).mono ?_); rintro e w' ⟨rfl, ⟨nd, rfl⟩⟩; refine ⟨_, rfl, ?_⟩))
    go_ret
    exact ⟨TF, TN⟩
   ·rw [if_neg c8] at H
    have c8b0 : decide (a0 < a1) = false := decide_eq_false c8
    clear c8
    by_cases c9 : a0 > a1
    ·rw [if_pos c9] at H
     have c9b0 : decide (a1 < a0) = true := decide_eq_true c9
     clear c9
     obtain rfl := Option.some.inj H
     go_enter Tryz.func92, Tryz.ntmps92
     go_wp2_with (first | ((with_reducible refine gate_callee (f := 141) rfl ?_); refine goesL_ (some 8) rfl rfl Tryz.func141 KR rfl #[.int .i64 a0] rfl TA ?_; (with_reducible refine (cmp_isNaN_int.calls a0 false _ A3.out).mono ?_); rintro e w' ⟨rfl, ⟨nd, rfl⟩⟩; refine ⟨_, rfl, ?_⟩) | ((with_reducible refine gate_callee (f := 141) rfl ?_); refine goesL_ (some 10) rfl rfl Tryz.func141 KR rfl #[.int .i64 a1] rfl TA ?_; (with_reducible refine (cmp_isNaN_int.calls a1 false _ A4.out).mono ?_); rintro e w' ⟨rfl, ⟨nd, rfl⟩⟩; refine ⟨_, rfl, ?_⟩))
     go_ret
     exact ⟨TF, TN⟩
    ·rw [if_neg c9] at H
     have c9b0 : decide (a1 < a0) = false := decide_eq_false c9
     clear c9
     obtain rfl := Option.some.inj H
     go_enter Tryz.func92, Tryz.ntmps92
     go_wp2_with (first | ((with_reducible refine gate_callee (f := 141) rfl ?_); refine goesL_ (some 8) rfl rfl Tryz.func141 KR rfl #[.int .i64 a0] rfl TA ?_; (with_reducible refine (cmp_isNaN_int.calls a0 false _ A3.out).mono ?_); rintro e w' ⟨rfl, ⟨nd, rfl⟩⟩; refine ⟨_, rfl, ?_⟩) | ((with_reducible refine gate_callee (f := 141) rfl ?_); refine goesL_ (some 10) rfl rfl Tryz.func141 KR rfl #[.int .i64 a1] rfl TA ?_; (with_reducible refine (cmp_isNaN_int.calls a1 false _ A4.out).mono ?_); rintro e w' ⟨rfl, ⟨nd, rfl⟩⟩; refine ⟨_, rfl, ?_⟩))
     go_ret
     exact ⟨TF, TN⟩
end
section
/-! ### cmp_Or_int: function 138 -/
def cmp_Or_int.l0 : Nat → Int → List Int → Int → Int → Option (Int)
 | 0, _, _, _, _ => none
 | k + 1, x3, x6, x7, x8 => if x8 < x7 then (if 0 ≤ x8 then (if x8 < (x6.length : Int) then (if (rd x6 x8) = x3 then (cmp_Or_int.l0 k x3 x6 x7 (wrap64 (x8 + 1))) else (some (rd x6 x8))) else (none)) else (none)) else (some x3)
def cmp_Or_int.f (k : Nat) (l0 : List Int) : Option (Int) := cmp_Or_int.l0 k 0 l0 (l0.length : Int) 0
theorem cmp_Or_int.calls (k : Nat) (A0 : Option Addr) (c0 : Nat) (l0 : List Int) (r : Int) (w : World) (hr0 : Kd.C (Kd.int .i64) w A0 l0.length l0) (hc0 : l0.length ≤ c0) (h : cmp_Or_int.f k l0 = some r) :
  Calls Tryz.prog 138 #[.slice A0 l0.length c0] w fun e w' => e = .returned (.int .i64 r) ∧ Drawn0 w w' := by
 have HR0 := Aside0.mk hr0
 have HC0 := Aside0.mk hc0
 clear hr0 hc0
 have H : (cmp_Or_int.l0 k 0 l0 (l0.length : Int) 0) = some r := h
 clear h
 have H' := Aside0.mk H
 clear H
 go_enter Tryz.func138, Tryz.ntmps138
 go_wp2
 go_loopg [8] k (fun kq v8 w' => ∃ (x8_1 : Int), v8 = .int .i64 x8_1 ∧ Aside0 (cmp_Or_int.l0 kq 0 l0 (l0.length : Int) x8_1 = some r) ∧ Aside0 (kq ≤ k) ∧ Drawn0 w w')
 case atStart => exact ⟨(0), TF, H', ⟨Nat.le_refl _⟩, TN⟩
 case round =>
  clear H'
  try clear c1
  obtain ⟨x8_1, rfl, HA, HK1, ⟨m1, rfl⟩⟩ := hrel
  cases gk with
  | zero => exact absurd HA.out (by simp [cmp_Or_int.l0])
  | succ k1 =>
   have H := HA.out
   clear HA
   simp only [cmp_Or_int.l0] at H
   by_cases c2 : x8_1 < (l0.length : Int)
   ·rw [if_pos c2] at H
    have c2b0 : decide (x8_1 < (l0.length : Int)) = true := decide_eq_true c2
    clear c2
    obtain ⟨c3, H⟩ := ifn H
    have c3b0 : decide (0 ≤ x8_1) = true := decide_eq_true c3
    clear c3
    obtain ⟨c4, H⟩ := ifn H
    have c4b0 : decide (x8_1 < (l0.length : Int)) = true := decide_eq_true c4
    clear c4
    by_cases c5 : (rd l0 x8_1) = 0
    ·rw [if_pos c5] at H
     have c5b0 : ((rd l0 x8_1) == 0) = true := beq_iff_eq.mpr c5
     have c5b1 : ((rd l0 x8_1) != 0) = false := bne_eq_false_iff_eq.mpr c5
     clear c5
     have H' := Aside0.mk H
     clear H
     have p364 : 0 ≤ (x8_1 : Int) := TD
     have q364 : x8_1 < (l0.length : Int) := TD
     obtain ⟨ad364, e364, hx364_0⟩ := Kd.at_int HR0.out x8_1 p364 q364
     cases e364
     replace p364 := eq_true p364
     replace q364 := eq_true q364
     go_wp2
     go_roundg k1
     case measure => have := HK1.out; omega
     case rel => exact ⟨(wrap64 (x8_1 + 1)), TF, H', ⟨TM⟩, TN⟩
    ·rw [if_neg c5] at H
     have c5b0 : ((rd l0 x8_1) == 0) = false := beq_eq_false_iff_ne.mpr c5
     have c5b1 : ((rd l0 x8_1) != 0) = true := bne_iff_ne.mpr c5
     obtain rfl := Option.some.inj H
     have p364 : 0 ≤ (x8_1 : Int) := TD
     have q364 : x8_1 < (l0.length : Int) := TD
     obtain ⟨ad364, e364, hx364_0⟩ := Kd.at_int HR0.out x8_1 p364 q364
     cases e364
     replace p364 := eq_true p364
     replace q364 := eq_true q364
     go_wp2
     go_ret
     exact ⟨TF, TN⟩
   ·rw [if_neg c2] at H
    have c2b0 : decide (x8_1 < (l0.length : Int)) = false := decide_eq_false c2
    clear c2
    obtain rfl := Option.some.inj H
    go_wp2
    go_ret
    exact ⟨TF, TN⟩
end
section
/-! ### slices_Reverse_string_string: function 171 -/
def slices_Reverse_string_string.l0 : Nat → List ByteArray → Int → Int → Option (List ByteArray)
 | 0, _, _, _ => none
 | k + 1, x0, x2, x3 => if x2 < x3 then (if 0 ≤ x3 then (if x3 < (x0.length : Int) then (if 0 ≤ x2 then (if x2 < (x0.length : Int) then (slices_Reverse_string_string.l0 k ((x0.set (x2 : Int).toNat (rdOf ByteArray.empty x0 x3)).set (x3 : Int).toNat (rdOf ByteArray.empty x0 x2)) (wrap64 (x2 + 1)) (wrap64 (x3 - 1))) else (none)) else (none)) else (none)) else (none)) else (some x0)
def slices_Reverse_string_string.f (k : Nat) (l0 : List ByteArray) : Option (List ByteArray) := slices_Reverse_string_string.l0 k l0 0 (wrap64 ((l0.length : Int) - 1))
def slices_Reverse_string_string.T3 : Bool × List (List Nat × List Nat) := (true, [([], []), ([], []), ([], []), ([], []), ([], []), ([], []), ([4, 5], [4, 5]), ([6], [6]), ([], []), ([], []), ([8, 9], [8, 9]), ([10], [10]), ([0, 1, 0, 1, 4, 5, 6, 7, 11], [0, 1]), ([12, 7, 0, 1, 4, 5, 6, 7, 11], [7, 12]), ([2, 3, 0, 1, 2, 3, 4, 5, 6, 7, 8, 9, 10, 11, 12, 13], [2, 3]), ([14, 11, 13, 0, 1, 2, 3, 4, 5, 6, 7, 8, 9, 10, 11, 12, 13], [11, 14])])
def slices_Reverse_string_string.B3 : List Nat := [0, 0, 0, 0, 0, 0, 48, 112, 0, 0, 768, 1792, 4083, 8179, 16383, 32767]
theorem slices_Reverse_string_string.tab3 : rtab .any (opsOf Tryz.f171 3) = slices_Reverse_string_string.T3 := by kernel_rfl
theorem slices_Reverse_string_string.bits3 : waitsOk slices_Reverse_string_string.T3.2 slices_Reverse_string_string.B3 = true := by kernel_rfl
theorem slices_Reverse_string_string.calls (k : Nat) (P0_ : Nat → Prop) (u9000_ : Value) (l0 : List ByteArray) (r : List ByteArray) (w0 w : World) (hB : Below w0.heap.size w0 w) (ho0 : Kd.R Kd.string 9 w w0.heap.size P0_ u9000_ l0) (h : slices_Reverse_string_string.f k l0 = some r) :
  Calls Tryz.prog 171 #[u9000_] w fun e w' => e = .returned (.tuple #[]) ∧ Kd.R Kd.string 9 w' w0.heap.size (fun k_ => (P0_ k_ ∨ w.heap.size ≤ k_)) u9000_ r ∧ Below w0.heap.size w0 w' ∧ Kept w w' (fun k_ => P0_ k_) := by
 have HO0 := Aside0.mk (show Kd.R Kd.string 9 w w0.heap.size (fun k_ => (P0_ k_ ∨ w.heap.size ≤ k_)) u9000_ l0 from Kd.R_mono ho0 (fun k_ hk => (.inl hk)))
 have HK := Aside0.mk (Kept.refl w (fun k_ => P0_ k_))
 have HW0 := Aside0.mk hB.size
 have HB := Aside0.mk hB
 clear hB
 have H : (slices_Reverse_string_string.l0 k l0 0 (wrap64 ((l0.length : Int) - 1))) = some r := h
 clear h
 have H' := Aside0.mk H
 clear H
 obtain ⟨Ao2, co2, eo2⟩ := Kd.R_slice HO0.out
 subst eo2
 go_enter Tryz.func171, Tryz.ntmps171
 go_wp2
 go_loopg [2, 3] k (fun kq v2 v3 w' => ∃ (x0_1 : List ByteArray) (x2_1 : Int) (x3_1 : Int), v2 = .int .i64 x2_1 ∧ v3 = .int .i64 x3_1 ∧ Aside0 (slices_Reverse_string_string.l0 kq x0_1 x2_1 x3_1 = some r) ∧ Aside0 (kq ≤ k) ∧ Aside0 (Kd.R Kd.string 9 w' w0.heap.size (fun k_ => (P0_ k_ ∨ w.heap.size ≤ k_)) (.slice Ao2 l0.length co2) x0_1) ∧ Aside0 (Kept w w' (fun k_ => P0_ k_)) ∧ Aside0 (Below w0.heap.size w0 w'))
 case atStart => exact ⟨(l0), (0), (wrap64 ((l0.length : Int) - 1)), TF, TF, H', ⟨Nat.le_refl _⟩, RW HO0, ⟨TK⟩, ⟨TB⟩⟩
 case round =>
  clear H'
  try clear c1
  try clear p2
  obtain ⟨x0_1, x2_1, x3_1, rfl, rfl, HA, HK1, HO_0, HK, HB⟩ := hrel
  have hl0_1 := (Kd.R_reads' HO_0.out).1
  rw [hl0_1] at HO_0
  (try simp only [hl0_1])
  cases gk with
  | zero => exact absurd HA.out (by simp [slices_Reverse_string_string.l0])
  | succ k1 =>
   have H := HA.out
   clear HA
   simp only [slices_Reverse_string_string.l0] at H
   by_cases c3 : x2_1 < x3_1
   ·rw [if_pos c3] at H
    have c3b0 : decide (x2_1 < x3_1) = true := decide_eq_true c3
    clear c3
    obtain ⟨c4, H⟩ := ifn H
    have c4b0 : decide (0 ≤ x3_1) = true := decide_eq_true c4
    clear c4
    obtain ⟨c5, H⟩ := ifn H
    have c5b0 : decide (x3_1 < (x0_1.length : Int)) = true := decide_eq_true c5
    clear c5
    obtain ⟨c6, H⟩ := ifn H
    have c6b0 : decide (0 ≤ x2_1) = true := decide_eq_true c6
    clear c6
    obtain ⟨c7, H⟩ := ifn H
    have c7b0 : decide (x2_1 < (x0_1.length : Int)) = true := decide_eq_true c7
    clear c7
    obtain ⟨y346, hy346⟩ : ∃ y_ : List ByteArray, y_ = (x0_1.set (x2_1 : Int).toNat (rdOf ByteArray.empty x0_1 x3_1)) := ⟨_, rfl⟩
    replace H : (slices_Reverse_string_string.l0 k1 (y346.set (x3_1 : Int).toNat (rdOf ByteArray.empty x0_1 x2_1)) (wrap64 (x2_1 + 1)) (wrap64 (x3_1 - 1))) = some r := by first | (rw [hy346]; with_reducible exact H) | (have H2_ := (Option.bind_some _ _).symm.trans H; rw [hy346]; with_reducible exact H2_) | (have H2_ := (Option.bind_some _ _).symm.trans H; with_reducible exact H2_) | with_reducible exact H | (rw [hy346]; exact H) | exact H
    have Ny346 := Aside0.mk hy346
    clear hy346
    obtain ⟨y347, hy347⟩ : ∃ y_ : List ByteArray, y_ = (y346.set (x3_1 : Int).toNat (rdOf ByteArray.empty x0_1 x2_1)) := ⟨_, rfl⟩
    replace H : (slices_Reverse_string_string.l0 k1 y347 (wrap64 (x2_1 + 1)) (wrap64 (x3_1 - 1))) = some r := by first | (rw [hy347]; with_reducible exact H) | (have H2_ := (Option.bind_some _ _).symm.trans H; rw [hy347]; with_reducible exact H2_) | (have H2_ := (Option.bind_some _ _).symm.trans H; with_reducible exact H2_) | with_reducible exact H | (rw [hy347]; exact H) | exact H
    have Ny347 := Aside0.mk hy347
    clear hy347
    have H' := Aside0.mk H
    clear H
    try go_wp2
    replace HO_0 := Aside0.mk (Kd.R_drew HO_0.out)
    replace HK := Aside0.mk (Kept.drew HK.out)
    replace HB := Aside0.mk (below_drew1 HB.out)
    have p344 : 0 ≤ (x3_1 : Int) := TD
    have q344 : x3_1 < (x0_1.length : Int) := TD
    obtain ⟨ad344, e344, hx344_0⟩ := Kd.at_string (Kd.R_reads' HO_0.out).2.2 x3_1 p344 q344
    cases e344
    replace p344 := eq_true p344
    replace q344 := eq_true q344
    have p345 : 0 ≤ (x2_1 : Int) := TD
    have q345 : x2_1 < (x0_1.length : Int) := TD
    obtain ⟨ad345, e345, hx345_0⟩ := Kd.at_string (Kd.R_reads' HO_0.out).2.2 x2_1 p345 q345
    obtain rfl : ad344 = ad345 := (by injection e345)
    replace p345 := eq_true p345
    replace q345 := eq_true q345
    have p8 : 0 ≤ (x2_1 : Int) := TD
    have q8 : (x2_1 : Int) < ((x0_1.length : Int) : Int) := TD
    obtain ⟨go8, co8, eo8, gb8, gl8, cl8, HG8⟩ := Kd.R_form HO_0.out (by omega)
    (first | cases eo8 | (injection eo8 with ea_ en_ ec_; (first | subst ea_ | (injection ea_ with ea_; subst ea_)); subst ec_; clear en_))
    have GB8 := Aside0.mk gb8
    have GG8 := Aside0.mk HG8
    clear gb8 gl8 HG8
    have HMgo8 := Aside0.mk (show (P0_ go8 ∨ w.heap.size ≤ go8) from (HO_0.out.1 _ rfl))
    (first | simp only [add_plain] at hx344_0 | skip)
    (first | simp only [add_plain] at hx345_0 | skip)
    obtain ⟨hx8_0, hf8_0⟩ := Kd.R_celln (⟨#[]⟩ : ByteArray) HO_0.out (x2_1 : Int) p8 q8
    replace p8 := eq_true p8
    replace q8 := eq_true q8
    have HP11 := Kd.R_putn HO_0.out (x2_1 : Int) (rdOf ByteArray.empty x0_1 x3_1)
    rw [← Ny346.out] at HP11
    have HQ11 := Aside0.mk HP11
    clear HP11
    have p9 : 0 ≤ (x3_1 : Int) := TD
    have q9 : (x3_1 : Int) < ((x0_1.length : Int) : Int) := TD
    obtain ⟨hx9_0, hf9_0⟩ := Kd.R_celln (⟨#[]⟩ : ByteArray) HQ11.out (x3_1 : Int) p9 q9
    replace p9 := eq_true p9
    replace q9 := eq_true q9
    have HP12 := Kd.R_putn HQ11.out (x3_1 : Int) (rdOf ByteArray.empty x0_1 x2_1)
    rw [← Ny347.out] at HP12
    have HQ12 := Aside0.mk HP12
    clear HP12
    refine start_ (n := 16) (S := fun w' => w'.cell? ⟨go8, (x3_1).toNat, none⟩ = some (.string (rdOf ByteArray.empty x0_1 x3_1)) ∧ w'.cell? ⟨go8, (x2_1).toNat, none⟩ = some (.string (rdOf ByteArray.empty x0_1 x2_1))) (ds := [13, 15]) #[false, false, false, false, false, false, false, false, false, false, false, false, false, false, false, false] KR rfl rfl ⟨hx344_0, hx345_0⟩ (fun hHeld => ?_); refine with_tabW slices_Reverse_string_string.tab3 slices_Reverse_string_string.bits3 (fun HT_ HW_ => ?_)
    generalize wr.drew = w10 at HO_0 HK HB GG8 HQ11 HQ12 hf8_0 hf9_0 hx344_0 hx345_0 hx8_0 hx9_0 hHeld ⊢
    refine pA 0 14 (mL 16 1) HT_ rfl rfl ?_
    refine pA 1 15 (mL 16 3) HT_ rfl rfl ?_
    refine pA 2 16 (mL 16 7) HT_ rfl rfl ?_
    refine pA 3 17 (mL 16 15) HT_ rfl rfl ?_
    refine pA 4 18 (mL 16 31) HT_ rfl rfl ?_
    refine pA 5 19 (mL 16 63) HT_ rfl rfl ?_
    refine pA 6 20 (mL 16 127) HT_ rfl rfl ?_
    refine pA 8 22 (mL 16 383) HT_ rfl rfl ?_
    refine pA 9 23 (mL 16 895) HT_ rfl rfl ?_
    refine pA 10 24 (mL 16 1919) HT_ rfl rfl ?_
    refine tA 7 21 (mL 16 2047) HT_ HW_ hHeld rfl rfl (by rintro w' ⟨s0, s1⟩; go_simp; with_reducible rfl) ?_
    refine tA 11 25 (mL 16 4095) HT_ HW_ hHeld rfl rfl (by rintro w' ⟨s0, s1⟩; go_simp; with_reducible rfl) ?_
    refine pA 12 26 (mL 16 8191) HT_ rfl rfl ?_
    refine last_ (i := 13) (N := none) (mL 16 16383) rfl rfl (one_of HT_.out KR) (by decide) (fun K hK => ?_)
    refine skip_ (w1 := ?_) (by rfl) rfl ?_ ?_
    rotate_left
    ·go_simp
     rfl
    refine hK.out _ _ ?_
    clear hK K
    refine pA 14 27 (mL 16 32767) HT_ rfl rfl ?_
    refine last_ (i := 15) (N := none) (mL 16 65535) rfl rfl (one_of HT_.out KR) (by decide) (fun K hK => ?_)
    refine skip_ (w1 := ?_) (by rfl) rfl ?_ ?_
    rotate_left
    ·go_simp
     rfl
    refine hK.out _ _ ?_
    clear hK K
    refine done_ (done_of HT_.out KR) ?_
    try go_wp2
    (try simp only [← hl0_1])
    go_roundg k1
    case measure => have := HK1.out; omega
    case rel => exact ⟨(y347), (wrap64 (x2_1 + 1)), (wrap64 (x3_1 - 1)), TF, TF, H', ⟨TM⟩, ⟨by (try simp only [hl0_1]); (with_reducible repeat (first | apply Kd.R_alloc | apply Kd.R_drewN | apply Kd.R_drew)); exact HQ12.out⟩, ⟨by repeat (first | (with_reducible first | exact HK.out | apply Kept.alloc | apply Kept.drewN | apply Kept.drew | refine Kept.setCell ?_ HMgo8.out _ | refine Kept.setCell ?_ HMgo8.out _) | exact HK.out)⟩, ⟨TB⟩⟩
   ·rw [if_neg c3] at H
    have c3b0 : decide (x2_1 < x3_1) = false := decide_eq_false c3
    clear c3
    obtain rfl := Option.some.inj H
    go_wp2
    first | go_end0 | ((try simp only [Exit.inBlock, Exit.then]); refine bodyPost_ret (results_none rfl _ _ _) rfl ?_)
    exact ⟨TE, (by first | exact (RW HO_0).out | (simp only [hl0_1]; exact (RW HO_0).out)), TB, TK⟩
end
section
/-! ### cmp_isNaN_string: function 222 -/
def cmp_isNaN_string.f (a0 : ByteArray) : Option (Bool) := some (a0.toList != a0.toList)
theorem cmp_isNaN_string.calls (a0 : ByteArray) (r : Bool) (w : World) (h : cmp_isNaN_string.f a0 = some r) :
  Calls Tryz.prog 222 #[.string a0] w fun e w' => e = .returned (.bool r) ∧ Drawn0 w w' := by
 have H : (some (a0.toList != a0.toList)) = some r := h
 clear h
 obtain rfl := Option.some.inj H
 go_enter Tryz.func222, Tryz.ntmps222
 go_wp2
 go_ret
 exact ⟨TF, TN⟩
end
section
/-! ### cmp_Compare_string: function 200 -/
def cmp_Compare_string.f (a0 : ByteArray) (a1 : ByteArray) : Option (Int) := (cmp_isNaN_string.f a0).bind fun t348 => ((cmp_isNaN_string.f a1).bind fun t349 => (if t348 = true then (if t349 = true then (some 0) else (some (-1))) else (if t349 = true then (some 1) else (if (Op.bytesLess a0.toList a1.toList) = true then (some (-1)) else (if a0.toList = a1.toList then (some 0) else (some 1))))))
theorem cmp_Compare_string.calls (a0 : ByteArray) (a1 : ByteArray) (r : Int) (w : World) (h : cmp_Compare_string.f a0 a1 = some r) :
  Calls Tryz.prog 200 #[.string a0, .string a1] w fun e w' => e = .returned (.int .i64 r) ∧ Drawn0 w w' := by
 have H : ((cmp_isNaN_string.f a0).bind fun t348 => ((cmp_isNaN_string.f a1).bind fun t349 => (if t348 = true then (if t349 = true then (some 0) else (some (-1))) else (if t349 = true then (some 1) else (if (Op.bytesLess a0.toList a1.toList) = true then (some (-1)) else (if a0.toList = a1.toList then (some 0) else (some 1))))))) = some r := h
 clear h
 obtain ⟨t348, A3, H⟩ := bnd H
 obtain ⟨t349, A4, H⟩ := bnd H
 by_cases c5 : t348 = true
 ·subst c5
  replace H := ift H
  by_cases c6 : t349 = true
  ·subst c6
   replace H := ift H
   obtain rfl := Option.some.inj H
   go_enter Tryz.func200, Tryz.ntmps200
   go_wp2_with (first | ((with_reducible refine gate_callee (f := 222) rfl ?_); refine goesL_ (some 8) rfl rfl Tryz.func222 KR rfl #[.string a0] rfl TA ?_; (with_reducible refine (cmp_isNaN_string.calls a0 true _ A3.out).mono ?_); rintro e w' ⟨rfl, ⟨nd, rfl⟩⟩; refine ⟨_, rfl, ?_⟩) | ((with_reducible refine gate_callee (f := 222) rfl ?_); refine goesL_ (some 10) rfl rfl Tryz.func222 KR rfl #[.string a1] rfl TA ?_; (with_reducible refine (cmp_isNaN_string.calls a1 true _ A4.out).mono ?_); rintro e w' ⟨rfl, ⟨nd, rfl⟩⟩; refine ⟨_, rfl, ?_⟩))
   go_ret
   exact ⟨TF, TN⟩
  ·replace c6 := Bool.eq_false_iff.mpr c6
   subst c6
   replace H := iff' H
   obtain rfl := Option.some.inj H
   go_enter Tryz.func200, Tryz.ntmps200
   go_wp2_with (first | ((with_reducible refine gate_callee (f := 222) rfl ?_); refine goesL_ (some 8) rfl rfl Tryz.func222 KR rfl #[.string a0] rfl TA ?_; (with_reducible refine (cmp_isNaN_string.calls a0 true _ A3.out).mono ?_); rintro e w' ⟨rfl, ⟨nd, rfl⟩⟩; refine ⟨_, rfl, ?_⟩) | ((with_reducible refine gate_callee (f := 222) rfl ?_); refine goesL_ (some 10) rfl rfl Tryz.func222 KR rfl #[.string a1] rfl TA ?_; (with_reducible refine (cmp_isNaN_string.calls a1 false _ A4.out).mono ?_); rintro e w' ⟨rfl, ⟨nd, rfl⟩⟩; refine ⟨_, rfl, ?_⟩))
   go_ret
   exact ⟨TF, TN⟩
 ·replace c5 := Bool.eq_false_iff.mpr c5
  subst c5
  replace H := iff' H
  by_cases c7 : t349 = true
  ·subst c7
   replace H := ift H
   obtain rfl := Option.some.inj H
   go_enter Tryz.func200, Tryz.ntmps200
   go_wp2_with (first | ((with_reducible refine gate_callee (f := 222) rfl ?_); refine goesL_ (some 8) rfl rfl Tryz.func222 KR rfl #[.string a0] rfl TA ?_; (with_reducible refine (cmp_isNaN_string.calls a0 false _ A3.out).mono ?_); rintro e w' ⟨rfl, ⟨nd, rfl⟩⟩; refine ⟨_, rfl, ?_⟩) | ((with_reducible refine gate_callee (f := 222) rfl ?_); refine goesL_ (some 10) rfl rfl Tryz.func222 KR rfl #[.string a1] rfl TA ?_; (with_reducible refine (cmp_isNaN_string.calls a1 true _ A4.out).mono ?_); rintro e w' ⟨rfl, ⟨nd, rfl⟩⟩; refine ⟨_, rfl, ?_⟩))
   go_ret
   exact ⟨TF, TN⟩
  ·replace c7 := Bool.eq_false_iff.mpr c7
   subst c7
   replace H := iff' H
   by_cases c8 : (Op.bytesLess a0.toList a1.toList) = true
   ·rw [if_pos c8] at H
    have c8b0 : (Op.bytesLess a0.toList a1.toList) = true := c8
    clear c8
    obtain rfl := Option.some.inj H
    go_enter Tryz.func200, Tryz.ntmps200
    go_wp2_with (first | ((with_reducible refine gate_callee (f := 222) rfl ?_); refine goesL_ (some 8) rfl rfl Tryz.func222 KR rfl #[.string a0] rfl TA ?_; (with_reducible refine (cmp_isNaN_string.calls a0 false _ A3.out).mono ?_); rintro e w' ⟨rfl, ⟨nd, rfl⟩⟩; refine ⟨_, rfl, ?_⟩) | ((with_reducible refine gate_callee (f := 222) rfl ?_); refine goesL_ (some 10) rfl rfl Tryz.func222 KR rfl #[.string a1] rfl TA ?_; (with_reducible refine (cmp_isNaN_string.calls a1 false _ A4.out).mono ?_); rintro e w' ⟨rfl, ⟨nd, rfl⟩⟩; refine ⟨_, rfl, ?_⟩))
    go_ret
    exact ⟨TF, TN⟩
   ·rw [if_neg c8] at H
    have c8b0 : (Op.bytesLess a0.toList a1.toList) = false := by simpa using c8
    clear c8
    by_cases c9 : a0.toList = a1.toList
    ·rw [if_pos c9] at H
     have c9b0 : (a0.toList == a1.toList) = true := beq_iff_eq.mpr c9
     have c9b1 : (a0.toList != a1.toList) = false := bne_eq_false_iff_eq.mpr c9
     clear c9
     obtain rfl := Option.some.inj H
     go_enter Tryz.func200, Tryz.ntmps200
     go_wp2_with (first | ((with_reducible refine gate_callee (f := 222) rfl ?_); refine goesL_ (some 8) rfl rfl Tryz.func222 KR rfl #[.string a0] rfl TA ?_; (with_reducible refine (cmp_isNaN_string.calls a0 false _ A3.out).mono ?_); rintro e w' ⟨rfl, ⟨nd, rfl⟩⟩; refine ⟨_, rfl, ?_⟩) | ((with_reducible refine gate_callee (f := 222) rfl ?_); refine goesL_ (some 10) rfl rfl Tryz.func222 KR rfl #[.string a1] rfl TA ?_; (with_reducible refine (cmp_isNaN_string.calls a1 false _ A4.out).mono ?_); rintro e w' ⟨rfl, ⟨nd, rfl⟩⟩; refine ⟨_, rfl, ?_⟩))
     go_ret
     exact ⟨TF, TN⟩
    ·rw [if_neg c9] at H
     have c9b0 : (a0.toList == a1.toList) = false := beq_eq_false_iff_ne.mpr c9
     have c9b1 : (a0.toList != a1.toList) = true := bne_iff_ne.mpr c9
     obtain rfl := Option.some.inj H
     go_enter Tryz.func200, Tryz.ntmps200
     go_wp2_with (first | ((with_reducible refine gate_callee (f := 222) rfl ?_); refine goesL_ (some 8) rfl rfl Tryz.func222 KR rfl #[.string a0] rfl TA ?_; (with_reducible refine (cmp_isNaN_string.calls a0 false _ A3.out).mono ?_); rintro e w' ⟨rfl, ⟨nd, rfl⟩⟩; refine ⟨_, rfl, ?_⟩) | ((with_reducible refine gate_callee (f := 222) rfl ?_); refine goesL_ (some 10) rfl rfl Tryz.func222 KR rfl #[.string a1] rfl TA ?_; (with_reducible refine (cmp_isNaN_string.calls a1 false _ A4.out).mono ?_); rintro e w' ⟨rfl, ⟨nd, rfl⟩⟩; refine ⟨_, rfl, ?_⟩))
     go_ret
     exact ⟨TF, TN⟩
end
section
/-! ### slices_Compare_string_string: function 172 -/
def slices_Compare_string_string.l0 : Nat → List ByteArray → List ByteArray → List ByteArray → Int → Int → Option (Int)
 | 0, _, _, _, _, _ => none
 | k + 1, x0, x1, x9, x10, x11 => if x11 < x10 then (if 0 ≤ x11 then (if x11 < (x9.length : Int) then (if x11 ≥ (x1.length : Int) then (some 1) else (if x11 < (x1.length : Int) then ((cmp_Compare_string.f (rdOf ByteArray.empty x9 x11) (rdOf ByteArray.empty x1 x11)).bind fun t352 => (if t352 = 0 then (slices_Compare_string_string.l0 k x0 x1 x9 x10 (wrap64 (x11 + 1))) else (some t352))) else (none))) else (none)) else (none)) else (if (x0.length : Int) < (x1.length : Int) then (some (-1)) else (some 0))
def slices_Compare_string_string.f (k : Nat) (l0 : List ByteArray) (l1 : List ByteArray) : Option (Int) := slices_Compare_string_string.l0 k l0 l1 l0 (l0.length : Int) 0
theorem slices_Compare_string_string.calls (k : Nat) (A0 : Option Addr) (c0 : Nat) (l0 : List ByteArray) (A1 : Option Addr) (c1 : Nat) (l1 : List ByteArray) (r : Int) (w : World) (hr0 : Kd.C Kd.string w A0 l0.length l0) (hc0 : l0.length ≤ c0) (hr1 : Kd.C Kd.string w A1 l1.length l1) (hc1 : l1.length ≤ c1) (h : slices_Compare_string_string.f k l0 l1 = some r) :
  Calls Tryz.prog 172 #[.slice A0 l0.length c0, .slice A1 l1.length c1] w fun e w' => e = .returned (.int .i64 r) ∧ Drawn0 w w' := by
 have HR0 := Aside0.mk hr0
 have HC0 := Aside0.mk hc0
 clear hr0 hc0
 have HR1 := Aside0.mk hr1
 have HC1 := Aside0.mk hc1
 clear hr1 hc1
 have H : (slices_Compare_string_string.l0 k l0 l1 l0 (l0.length : Int) 0) = some r := h
 clear h
 have H' := Aside0.mk H
 clear H
 go_enter Tryz.func172, Tryz.ntmps172
 go_wp2
 go_loopg [11] k (fun kq v11 w' => ∃ (x11_1 : Int), v11 = .int .i64 x11_1 ∧ Aside0 (slices_Compare_string_string.l0 kq l0 l1 l0 (l0.length : Int) x11_1 = some r) ∧ Aside0 (kq ≤ k) ∧ Drawn0 w w')
 case atStart => exact ⟨(0), TF, H', ⟨Nat.le_refl _⟩, TN⟩
 case round =>
  clear H'
  try clear c1
  try clear p2
  obtain ⟨x11_1, rfl, HA, HK1, ⟨m1, rfl⟩⟩ := hrel
  cases gk with
  | zero => exact absurd HA.out (by simp [slices_Compare_string_string.l0])
  | succ k1 =>
   have H := HA.out
   clear HA
   simp only [slices_Compare_string_string.l0] at H
   by_cases c3 : x11_1 < (l0.length : Int)
   ·rw [if_pos c3] at H
    have c3b0 : decide (x11_1 < (l0.length : Int)) = true := decide_eq_true c3
    clear c3
    obtain ⟨c4, H⟩ := ifn H
    have c4b0 : decide (0 ≤ x11_1) = true := decide_eq_true c4
    clear c4
    obtain ⟨c5, H⟩ := ifn H
    have c5b0 : decide (x11_1 < (l0.length : Int)) = true := decide_eq_true c5
    clear c5
    by_cases c6 : x11_1 ≥ (l1.length : Int)
    ·rw [if_pos c6] at H
     have c6b0 : decide ((l1.length : Int) ≤ x11_1) = true := decide_eq_true c6
     clear c6
     obtain rfl := Option.some.inj H
     have p350 : 0 ≤ (x11_1 : Int) := TD
     have q350 : x11_1 < (l0.length : Int) := TD
     obtain ⟨ad350, e350, hx350_0⟩ := Kd.at_string HR0.out x11_1 p350 q350
     cases e350
     replace p350 := eq_true p350
     replace q350 := eq_true q350
     go_wp2
     go_ret
     exact ⟨TF, TN⟩
    ·rw [if_neg c6] at H
     have c6b0 : decide ((l1.length : Int) ≤ x11_1) = false := decide_eq_false c6
     clear c6
     obtain ⟨c7, H⟩ := ifn H
     have c7b0 : decide (x11_1 < (l1.length : Int)) = true := decide_eq_true c7
     clear c7
     obtain ⟨t352, A8, H⟩ := bnd H
     by_cases c9 : t352 = 0
     ·rw [if_pos c9] at H
      have c9b0 : (t352 == 0) = true := beq_iff_eq.mpr c9
      have c9b1 : (t352 != 0) = false := bne_eq_false_iff_eq.mpr c9
      clear c9
      have H' := Aside0.mk H
      clear H
      have p350 : 0 ≤ (x11_1 : Int) := TD
      have q350 : x11_1 < (l0.length : Int) := TD
      obtain ⟨ad350, e350, hx350_0⟩ := Kd.at_string HR0.out x11_1 p350 q350
      cases e350
      replace p350 := eq_true p350
      replace q350 := eq_true q350
      have p351 : 0 ≤ (x11_1 : Int) := TD
      have q351 : x11_1 < (l1.length : Int) := TD
      obtain ⟨ad351, e351, hx351_0⟩ := Kd.at_string HR1.out x11_1 p351 q351
      cases e351
      replace p351 := eq_true p351
      replace q351 := eq_true q351
      go_wp2_with (first | ((with_reducible refine gate_callee (f := 200) rfl ?_); refine goesL_ (some 26) rfl rfl Tryz.func200 KR rfl #[.string (rdOf ByteArray.empty l0 x11_1), .string (rdOf ByteArray.empty l1 x11_1)] rfl TA ?_; (with_reducible refine (cmp_Compare_string.calls (rdOf ByteArray.empty l0 x11_1) (rdOf ByteArray.empty l1 x11_1) t352 _ A8.out).mono ?_); rintro e w' ⟨rfl, ⟨nd, rfl⟩⟩; refine ⟨_, rfl, ?_⟩))
      go_roundg k1
      case measure => have := HK1.out; omega
      case rel => exact ⟨(wrap64 (x11_1 + 1)), TF, H', ⟨TM⟩, TN⟩
     ·rw [if_neg c9] at H
      have c9b0 : (t352 == 0) = false := beq_eq_false_iff_ne.mpr c9
      have c9b1 : (t352 != 0) = true := bne_iff_ne.mpr c9
      obtain rfl := Option.some.inj H
      have p350 : 0 ≤ (x11_1 : Int) := TD
      have q350 : x11_1 < (l0.length : Int) := TD
      obtain ⟨ad350, e350, hx350_0⟩ := Kd.at_string HR0.out x11_1 p350 q350
      cases e350
      replace p350 := eq_true p350
      replace q350 := eq_true q350
      have p351 : 0 ≤ (x11_1 : Int) := TD
      have q351 : x11_1 < (l1.length : Int) := TD
      obtain ⟨ad351, e351, hx351_0⟩ := Kd.at_string HR1.out x11_1 p351 q351
      cases e351
      replace p351 := eq_true p351
      replace q351 := eq_true q351
      go_wp2_with (first | ((with_reducible refine gate_callee (f := 200) rfl ?_); refine goesL_ (some 26) rfl rfl Tryz.func200 KR rfl #[.string (rdOf ByteArray.empty l0 x11_1), .string (rdOf ByteArray.empty l1 x11_1)] rfl TA ?_; (with_reducible refine (cmp_Compare_string.calls (rdOf ByteArray.empty l0 x11_1) (rdOf ByteArray.empty l1 x11_1) t352 _ A8.out).mono ?_); rintro e w' ⟨rfl, ⟨nd, rfl⟩⟩; refine ⟨_, rfl, ?_⟩))
      go_ret
      exact ⟨TF, TN⟩
   ·rw [if_neg c3] at H
    have c3b0 : decide (x11_1 < (l0.length : Int)) = false := decide_eq_false c3
    clear c3
    by_cases c10 : (l0.length : Int) < (l1.length : Int)
    ·rw [if_pos c10] at H
     have c10b0 : decide ((l0.length : Int) < (l1.length : Int)) = true := decide_eq_true c10
     have c10b1 : decide (l0.length < l1.length) = true := decide_eq_true (Int.ofNat_lt.mp c10)
     clear c10
     obtain rfl := Option.some.inj H
     go_wp2
     go_ret
     exact ⟨TF, TN⟩
    ·rw [if_neg c10] at H
     have c10b0 : decide ((l0.length : Int) < (l1.length : Int)) = false := decide_eq_false c10
     have c10b1 : decide (l0.length < l1.length) = false := decide_eq_false (fun h => c10 (Int.ofNat_lt.mpr h))
     clear c10
     obtain rfl := Option.some.inj H
     go_wp2
     go_ret
     exact ⟨TF, TN⟩
end
section
/-! ### impl_compareNames: function 139 -/
def impl_compareNames.f (k : Nat) (a0 : ByteArray) (a1 : ByteArray) : Option (Int) := (impl_labelsOf.f k a0).bind fun t353 => ((impl_labelsOf.f k a1).bind fun t356 => ((slices_Reverse_string_string.f k t353).bind fun t359 => ((slices_Reverse_string_string.f k t356).bind fun t360 => ((slices_Compare_string_string.f k t359 t360).bind fun t361 => (some t361)))))
theorem impl_compareNames.calls (k : Nat) (a0 : ByteArray) (a1 : ByteArray) (r : Int) (w : World) (h : impl_compareNames.f k a0 a1 = some r) :
  Calls Tryz.prog 139 #[.string a0, .string a1] w fun e w' => e = .returned (.int .i64 r) ∧ Below w.heap.size w w' := by
 have HB := Aside0.mk (Below.refl w.heap.size w)
 have H : ((impl_labelsOf.f k a0).bind fun t353 => ((impl_labelsOf.f k a1).bind fun t356 => ((slices_Reverse_string_string.f k t353).bind fun t359 => ((slices_Reverse_string_string.f k t356).bind fun t360 => ((slices_Compare_string_string.f k t359 t360).bind fun t361 => (some t361)))))) = some r := h
 clear h
 obtain ⟨t353, A3, H⟩ := bnd H
 obtain ⟨t356, A4, H⟩ := bnd H
 obtain ⟨t359, A5, H⟩ := bnd H
 obtain ⟨t360, A6, H⟩ := bnd H
 obtain ⟨t361, A7, H⟩ := bnd H
 obtain rfl := Option.some.inj H
 go_enter Tryz.func139, Tryz.ntmps139
 go_wp2_with (first | ((with_reducible refine gate_callee (f := 128) rfl ?_); refine goesL_ (some 8) rfl rfl Tryz.func128 KR rfl #[.string a0] rfl TA ?_; (with_reducible refine (impl_labelsOf.calls k a0 t353 _ A3.out).mono ?_); rintro e w8 ⟨v354, rfl, ho0, hb⟩; refine ⟨_, rfl, ?_⟩; have HO355 := RL ho0; replace HB := BS hb; (try clear hb); (try clear hb2); (try clear hk); (try clear hi); (try clear ho0)) | ((with_reducible refine gate_callee (f := 128) rfl ?_); refine goesL_ (some 10) rfl rfl Tryz.func128 KR rfl #[.string a1] rfl TA ?_; (with_reducible refine (impl_labelsOf.calls k a1 t356 _ A4.out).mono ?_); rintro e w9 ⟨v357, rfl, ho0, hb⟩; refine ⟨_, rfl, ?_⟩; have HO358 := Aside0.mk (Kd.R_lower (Kd.R_new' ho0 (Kd.R_lt (RW HO355).out)) (below_size TB)); replace HO355 := Aside0.mk (Kd.R_elder' (RW HO355).out (Kd.R_base ho0) hb); replace HB := BS hb; (try clear hb); (try clear hb2); (try clear hk); (try clear hi); (try clear ho0); obtain ⟨Ao10, co10, eo10⟩ := Kd.R_slice HO355.out; subst eo10) | ((with_reducible refine gate_callee (f := 171) rfl ?_); refine goesL_ (some 12) rfl rfl Tryz.func171 KR rfl #[.slice Ao10 t353.length co10] rfl TA ?_; (with_reducible refine (slices_Reverse_string_string.calls k (fun k_ => some k_ = (.slice Ao10 t353.length co10 : Value).ownBlock) (.slice Ao10 t353.length co10) t353 t359 w _ ?side1 ?side2 A5.out).mono ?_); (case side1 => repeat (first | (with_reducible first | exact HB.out | apply below_alloc | apply pw_below_drewN | apply below_drew1) | exact HB.out)); (case side2 => exact Kd.R_tight rfl HO355.out); rintro e w11 ⟨rfl, hy0, hb, hkp⟩; refine ⟨_, rfl, ?_⟩; replace HO355 := Aside0.mk (Kd.R_reok rfl hy0 (fun k_ e_ => HO355.out.1 k_ e_)); replace HO358 := Aside0.mk (Kd.R_mono (ok' := fun k_ => some k_ ≠ (.slice Ao10 t353.length co10 : Value).ownBlock) (Kd.R_keptB (HO358.out) hkp (fun k_ hk_ hs_ => (hk_.2) hs_)) (fun k_ hk_ => hk_.1.2)); replace HB := Aside0.mk (hb); (try clear hb); (try clear hkp); (try clear hy0); obtain ⟨Ao12, co12, eo12⟩ := Kd.R_slice HO358.out; subst eo12) | ((with_reducible refine gate_callee (f := 171) rfl ?_); refine goesL_ (some 14) rfl rfl Tryz.func171 KR rfl #[.slice Ao12 t356.length co12] rfl TA ?_; (with_reducible refine (slices_Reverse_string_string.calls k (fun k_ => some k_ = (.slice Ao12 t356.length co12 : Value).ownBlock) (.slice Ao12 t356.length co12) t356 t360 w _ ?side1 ?side2 A6.out).mono ?_); (case side1 => repeat (first | (with_reducible first | exact HB.out | apply below_alloc | apply pw_below_drewN | apply below_drew1) | exact HB.out)); (case side2 => exact Kd.R_tight rfl HO358.out); rintro e w13 ⟨rfl, hy0, hb, hkp⟩; refine ⟨_, rfl, ?_⟩; replace HO355 := Aside0.mk (Kd.R_mono (ok' := fun k_ => some k_ ≠ (.slice Ao12 t356.length co12 : Value).ownBlock) (Kd.R_keptB (HO355.out) hkp (fun k_ hk_ hs_ => (hk_.2) hs_)) (fun k_ hk_ => hk_.1.2)); replace HO358 := Aside0.mk (Kd.R_reok rfl hy0 (fun k_ e_ => HO358.out.1 k_ e_)); replace HB := Aside0.mk (hb); (try clear hb); (try clear hkp); (try clear hy0)) | ((with_reducible refine gate_callee (f := 172) rfl ?_); refine goesL_ (some 17) rfl rfl Tryz.func172 KR rfl #[.slice Ao10 t359.length co10, .slice Ao12 t360.length co12] rfl (by (try simp only [List.map_toArray, List.map_cons, List.map_nil]); first | done | (rw [show t359.length = t353.length from (Kd.R_reads' HO355.out).1.symm, show t360.length = t356.length from (Kd.R_reads' HO358.out).1.symm] <;> rfl) | rfl | (simp only [List.length_drop, List.length_take]; rfl)) ?_; (with_reducible refine (slices_Compare_string_string.calls k _ _ t359 _ _ t360 t361 _ ?side1 ?side2 ?side3 ?side4 A7.out).mono ?_); (case side1 => exact CW ((Kd.R_reads' HO355.out).2.2)); (case side2 => rw [show t359.length = t353.length from (Kd.R_reads' HO355.out).1.symm]; exact (Kd.R_reads' HO355.out).2.1); (case side3 => exact CW ((Kd.R_reads' HO358.out).2.2)); (case side4 => rw [show t360.length = t356.length from (Kd.R_reads' HO358.out).1.symm]; exact (Kd.R_reads' HO358.out).2.1); rintro e w' ⟨rfl, ⟨nd, rfl⟩⟩; refine ⟨_, rfl, ?_⟩))
 go_ret
 exact ⟨TE, TB⟩
end
section
/-! ### impl_compareKeys: function 188 -/
def impl_compareKeys.f (k : Nat) (a0_0 : ByteArray) (a0_1 : Int) (a0_2 : Int) (a0_3 : ByteArray) (a1_0 : ByteArray) (a1_1 : Int) (a1_2 : Int) (a1_3 : ByteArray) : Option (Int) := (impl_compareNames.f k a0_0 a1_0).bind fun t367 => ((cmp_Compare_int.f a0_1 a1_1).bind fun t368 => ((cmp_Or_int.f k (([t367, t368] : List Int))).bind fun t372 => (some t372)))
def impl_compareKeys.T1 : Bool × List (List Nat × List Nat) := (true, [([], []), ([0], [0]), ([], []), ([2], [2]), ([1, 3], [1, 3]), ([], []), ([5], [5]), ([], []), ([7], [7]), ([6, 8, 4], [6, 8]), ([4, 9], [4, 9]), ([10, 9], [10]), ([11, 11, 0, 1, 2, 3, 4, 5, 6, 7, 8, 9, 10, 11], [11])])
def impl_compareKeys.B1 : List Nat := [0, 1, 0, 4, 15, 0, 32, 0, 128, 511, 1023, 2047, 4095]
theorem impl_compareKeys.tab1 : rtab .any (opsOf Tryz.f188 1) = impl_compareKeys.T1 := by kernel_rfl
theorem impl_compareKeys.bits1 : waitsOk impl_compareKeys.T1.2 impl_compareKeys.B1 = true := by kernel_rfl
theorem impl_compareKeys.calls (k : Nat) (a0_0 : ByteArray) (a0_1 : Int) (a0_2 : Int) (a0_3 : ByteArray) (a1_0 : ByteArray) (a1_1 : Int) (a1_2 : Int) (a1_3 : ByteArray) (r : Int) (w : World) (h : impl_compareKeys.f k a0_0 a0_1 a0_2 a0_3 a1_0 a1_1 a1_2 a1_3 = some r) :
  Calls Tryz.prog 188 #[.agg #[.string a0_0, .int .i64 a0_1, .int .i64 a0_2, .string a0_3], .agg #[.string a1_0, .int .i64 a1_1, .int .i64 a1_2, .string a1_3]] w fun e w' => e = .returned (.int .i64 r) ∧ Below w.heap.size w w' := by
 have hu93 := Tryz.underlying93
 have HB := Aside0.mk (Below.refl w.heap.size w)
 have H : ((impl_compareNames.f k a0_0 a1_0).bind fun t367 => ((cmp_Compare_int.f a0_1 a1_1).bind fun t368 => ((cmp_Or_int.f k (([t367, t368] : List Int))).bind fun t372 => (some t372)))) = some r := h
 clear h
 obtain ⟨t367, A3, H⟩ := bnd H
 obtain ⟨t368, A4, H⟩ := bnd H
 obtain ⟨y369, hy369⟩ : ∃ y_ : List Int, y_ = (([t367, t368] : List Int)) := ⟨_, rfl⟩
 replace H : ((cmp_Or_int.f k y369).bind fun t372 => (some t372)) = some r := by first | (rw [hy369]; with_reducible exact H) | (have H2_ := (Option.bind_some _ _).symm.trans H; rw [hy369]; with_reducible exact H2_) | (have H2_ := (Option.bind_some _ _).symm.trans H; with_reducible exact H2_) | with_reducible exact H | (rw [hy369]; exact H) | exact H
 have Ny369 := Aside0.mk hy369
 clear hy369
 obtain ⟨t372, A5, H⟩ := bnd H
 obtain rfl := Option.some.inj H
 go_enter Tryz.func188, Tryz.ntmps188
 try go_wp2_with (first | ((with_reducible refine gate_dst (N := 2) rfl ?_); refine bE 2 #[.string a0_0, .int .i64 a0_1, .int .i64 a0_2, .string a0_3] 93 ?_; intro gb365 hg w6 hbox hb; have BK365 := Aside0.mk (hbox); have GE365 := bG hg; replace HB := BS hb; clear hb hbox hg) | ((with_reducible refine gate_dst (N := 3) rfl ?_); refine bE 3 #[.string a1_0, .int .i64 a1_1, .int .i64 a1_2, .string a1_3] 93 ?_; intro gb366 hg w7 hbox hb; have BK366 := Aside0.mk (hbox); have GE366 := bG hg; replace HB := BS hb; have NB365_366 := bN BK365 hg; have NB366_365 := bM BK365 hg; replace BK365 := KB BK365 hb; clear hb hbox hg))
 replace BK365 := Aside0.mk (blk_drew BK365.out)
 replace BK366 := Aside0.mk (blk_drew BK366.out)
 replace HB := Aside0.mk (below_drew1 HB.out)
 refine start_ (n := 13) (S := fun w' => w'.cell? ⟨gb365, 0, none⟩ = some (.string a0_0) ∧ w'.cell? ⟨gb365, 1, none⟩ = some (.int .i64 a0_1) ∧ w'.cell? ⟨gb365, 2, none⟩ = some (.int .i64 a0_2) ∧ w'.cell? ⟨gb365, 3, none⟩ = some (.string a0_3) ∧ w'.cell? ⟨gb366, 0, none⟩ = some (.string a1_0) ∧ w'.cell? ⟨gb366, 1, none⟩ = some (.int .i64 a1_1) ∧ w'.cell? ⟨gb366, 2, none⟩ = some (.int .i64 a1_2) ∧ w'.cell? ⟨gb366, 3, none⟩ = some (.string a1_3)) (ds := []) #[false, false, false, false, false, false, false, false, false, false, false, false, false] KR rfl rfl ⟨bc 0 BK365, bc 1 BK365, bc 2 BK365, bc 3 BK365, bc 0 BK366, bc 1 BK366, bc 2 BK366, bc 3 BK366⟩ (fun hHeld => ?_); refine with_tabW impl_compareKeys.tab1 impl_compareKeys.bits1 (fun HT_ HW_ => ?_)
 generalize w7.drew = w8 at BK365 BK366 HB hHeld ⊢
 refine pA 0 5 (mL 13 1) HT_ rfl rfl ?_
 refine pA 2 7 (mL 13 5) HT_ rfl rfl ?_
 refine pA 5 10 (mL 13 37) HT_ rfl rfl ?_
 refine pA 7 12 (mL 13 165) HT_ rfl rfl ?_
 refine tA 1 6 (mL 13 167) HT_ HW_ hHeld rfl rfl (by rintro w' ⟨s0, s1, s2, s3, s4, s5, s6, s7⟩; go_simp; with_reducible rfl) ?_
 refine tA 3 8 (mL 13 175) HT_ HW_ hHeld rfl rfl (by rintro w' ⟨s0, s1, s2, s3, s4, s5, s6, s7⟩; go_simp; with_reducible rfl) ?_
 refine tA 6 11 (mL 13 239) HT_ HW_ hHeld rfl rfl (by rintro w' ⟨s0, s1, s2, s3, s4, s5, s6, s7⟩; go_simp; with_reducible rfl) ?_
 refine tA 8 13 (mL 13 495) HT_ HW_ hHeld rfl rfl (by rintro w' ⟨s0, s1, s2, s3, s4, s5, s6, s7⟩; go_simp; with_reducible rfl) ?_
 refine one_ (i := 4) (N := some 9) (mL 13 511) rfl rfl (one_of HT_.out KR) (by decide) (fun K hK => ?_)
 refine goes_ Tryz.func139 KR rfl #[.string a0_0, .string a1_0] (by rfl) rfl rfl TA ?_
 with_reducible refine (impl_compareNames.calls k a0_0 a1_0 t367 _ A3.out).mono ?_
 rintro e w9 ⟨rfl, hb⟩
 refine ⟨_, rfl, ?_⟩
 replace BK365 := KB BK365 hb
 replace BK366 := KB BK366 hb
 replace HB := BS hb
 (try clear hb)
 (try clear hb2)
 (try clear hk)
 (try clear hi)
 refine hK.out _ _ ⟨bc 0 BK365, bc 1 BK365, bc 2 BK365, bc 3 BK365, bc 0 BK366, bc 1 BK366, bc 2 BK366, bc 3 BK366⟩ (fun hHeld => ?_)
 clear hK K
 refine nA ?_
 refine one_ (i := 9) (N := some 14) (mL 13 1023) rfl rfl (one_of HT_.out KR) (by decide) (fun K hK => ?_)
 refine goes_ Tryz.func92 KR rfl #[.int .i64 a0_1, .int .i64 a1_1] (by rfl) rfl rfl TA ?_
 with_reducible refine (cmp_Compare_int.calls a0_1 a1_1 t368 _ A4.out).mono ?_
 rintro e w' ⟨rfl, ⟨nd, rfl⟩⟩
 refine ⟨_, rfl, ?_⟩
 refine hK.out _ _ ⟨bc 0 BK365, bc 1 BK365, bc 2 BK365, bc 3 BK365, bc 0 BK366, bc 1 BK366, bc 2 BK366, bc 3 BK366⟩ (fun hHeld => ?_)
 clear hK K
 refine nA ?_
 refine one_ (i := 10) (N := some 15) (mL 13 2047) rfl rfl (one_of HT_.out KR) (by decide) (fun K hK => ?_)
 refine Kd.R_lit_step (Kd.int .i64) _ 3 ?hg (N := 15) ?hd (xs := ([t367, t368] : List Int)) (inner := [.int .i64 t367, .int .i64 t368]) (ok := fun _ => True) (okp := fun _ => True) ?hr ?hp (fun _ hk => hk) trivial (Below.refl _ _) (Nat.le_refl _) (by simp) ?_; (case hd => rfl); (case hg => rfl); (case hr => first | (go_simp; done) | (go_simp; rfl)); (case hp => exact (Reps.one (show Kd.M (Kd.int .i64) _ _ _ t367 [.int .i64 t367] from rfl) (Reps.one (show Kd.M (Kd.int .i64) _ _ _ t368 [.int .i64 t368] from rfl) (Reps.none _ _))))
 intro v370 w10 ho11 hb hg_ hnew_
 clear hg_ hnew_
 (first | rw [← Ny369.out] at ho11 | (simp only [Int.reduceToNat] at ho11; rw [← Ny369.out] at ho11))
 have HO371 := RL ho11
 replace BK365 := KB BK365 hb
 replace BK366 := KB BK366 hb
 replace HB := BS hb
 clear hb ho11
 obtain ⟨Ao12, co12, eo12⟩ := Kd.R_slice HO371.out
 (first | subst eo12 | (injection eo12 with f1_ f2_ f3_; have f4_ := f1_.symm; have f5_ := f3_.symm; clear f1_ f2_ f3_; subst f4_; subst f5_))
 refine hK.out _ _ ⟨bc 0 BK365, bc 1 BK365, bc 2 BK365, bc 3 BK365, bc 0 BK366, bc 1 BK366, bc 2 BK366, bc 3 BK366⟩ (fun hHeld => ?_)
 clear hK K
 refine nA ?_
 refine one_ (i := 11) (N := some 16) (mL 13 4095) rfl rfl (one_of HT_.out KR) (by decide) (fun K hK => ?_)
 refine goes_ Tryz.func138 KR rfl #[.slice Ao12 y369.length co12] (by rfl) rfl rfl TA ?_
 with_reducible refine (cmp_Or_int.calls k _ _ y369 t372 _ ?side1 ?side2 A5.out).mono ?_
 (case side1 => exact CW ((Kd.R_reads' HO371.out).2.2))
 (case side2 => exact (Kd.R_reads' HO371.out).2.1)
 rintro e w' ⟨rfl, ⟨nd, rfl⟩⟩
 refine ⟨_, rfl, ?_⟩
 refine hK.out _ _ ⟨bc 0 BK365, bc 1 BK365, bc 2 BK365, bc 3 BK365, bc 0 BK366, bc 1 BK366, bc 2 BK366, bc 3 BK366⟩ (fun hHeld => ?_)
 clear hK K
 refine nA ?_
 refine pA 12 4 (mL 13 8191) HT_ rfl rfl ?_
 refine done_ (done_of HT_.out KR) ?_
 try go_wp2
 go_ret
 exact ⟨TE, TB⟩
end
section
/-! ### impl_dataBytes: function 190 -/
def impl_dataBytes.f (k : Nat) (a0 : Int) (a1 : ByteArray) : Option (ByteArray) := (impl_DataBytes.f k a0 a1).bind fun bt373 => (if bt373.2 = true then (some bt373.1) else (some (⟨#[]⟩ : ByteArray)))
theorem impl_dataBytes.calls (k : Nat) (a0 : Int) (a1 : ByteArray) (r : ByteArray) (w : World) (hG_ : Glob w) (h : impl_dataBytes.f k a0 a1 = some r) :
  Calls Tryz.prog 190 #[.int .i64 a0, .string a1] w fun e w' => e = .returned (.string r) ∧ Below w.heap.size w w' := by
 have HGL := Aside0.mk hG_
 clear hG_
 have HB := Aside0.mk (Below.refl w.heap.size w)
 have H : ((impl_DataBytes.f k a0 a1).bind fun bt373 => (if bt373.2 = true then (some bt373.1) else (some (⟨#[]⟩ : ByteArray)))) = some r := h
 clear h
 obtain ⟨⟨t373, t374⟩, A3, H⟩ := bnd H
 try dsimp only at H
 by_cases c4 : t374 = true
 ·subst c4
  replace H := ift H
  obtain rfl := Option.some.inj H
  go_enter Tryz.func190, Tryz.ntmps190
  go_wp2_with (first | ((with_reducible refine gate_callee (f := 187) rfl ?_); refine goesL_ (some 10) rfl rfl Tryz.func187 KR rfl #[.int .i64 a0, .string a1] rfl TA ?_; (with_reducible refine (impl_DataBytes.calls k a0 a1 t373 true _ ?side1 A3.out).mono ?_); (case side1 => exact GW HGL); rintro e w5 ⟨rfl, hb⟩; refine ⟨_, rfl, ?_⟩; replace HB := BS hb; (try clear hb); (try clear hb2); (try clear hk); (try clear hi)))
  go_ret
  exact ⟨TE, TB⟩
 ·replace c4 := Bool.eq_false_iff.mpr c4
  subst c4
  replace H := iff' H
  obtain rfl := Option.some.inj H
  go_enter Tryz.func190, Tryz.ntmps190
  go_wp2_with (first | ((with_reducible refine gate_callee (f := 187) rfl ?_); refine goesL_ (some 10) rfl rfl Tryz.func187 KR rfl #[.int .i64 a0, .string a1] rfl TA ?_; (with_reducible refine (impl_DataBytes.calls k a0 a1 t373 false _ ?side1 A3.out).mono ?_); (case side1 => exact GW HGL); rintro e w6 ⟨rfl, hb⟩; refine ⟨_, rfl, ?_⟩; replace HB := BS hb; (try clear hb); (try clear hb2); (try clear hk); (try clear hi)))
  go_ret
  exact ⟨TE, TB⟩
end
section
/-! ### strings_Compare: function 189 -/
def strings_Compare.f (a0 : ByteArray) (a1 : ByteArray) : Option (Int) := some (Go.Lib.compareBytes a0.data.toList a1.data.toList)
theorem strings_Compare.calls (a0 : ByteArray) (a1 : ByteArray) (r : Int) (w : World) (h : strings_Compare.f a0 a1 = some r) :
  Calls Tryz.prog 189 #[.string a0, .string a1] w fun e w' => e = .returned (.int .i64 r) ∧ Drawn0 w w' := by
 unfold strings_Compare.f at h
 obtain rfl := Option.some.inj h
 exact (Go.Proofs.Any.strings_Compare Go.Proofs.Tryz.lays106 a0 a1 w).mono fun e w' hh => ⟨hh.1, hh.2 ▸ Drawn0.refl _⟩
end
section
/-! ### impl_compareRecords: function 163 -/
def impl_compareRecords.f (k : Nat) (a0_0 : ByteArray) (a0_1 : Int) (a0_2 : Int) (a0_3 : ByteArray) (a1_0 : ByteArray) (a1_1 : Int) (a1_2 : Int) (a1_3 : ByteArray) : Option (Int) := (impl_compareKeys.f k a0_0 a0_1 a0_2 a0_3 a1_0 a1_1 a1_2 a1_3).bind fun t377 => ((impl_dataBytes.f k a0_1 a0_3).bind fun t378 => ((impl_dataBytes.f k a1_1 a1_3).bind fun t379 => ((strings_Compare.f t378 t379).bind fun t380 => ((cmp_Compare_int.f a0_2 a1_2).bind fun t381 => ((cmp_Or_int.f k (([t377, t380, t381] : List Int))).bind fun t385 => (some t385))))))
def impl_compareRecords.T1 : Bool × List (List Nat × List Nat) := (true, [([], []), ([], []), ([0, 1], [0, 1]), ([], []), ([3], [3]), ([], []), ([5], [5]), ([4, 6, 2], [4, 6]), ([], []), ([8], [8]), ([], []), ([10], [10]), ([9, 11, 7], [9, 11]), ([7, 12, 12], [7, 12]), ([], []), ([14], [14]), ([], []), ([16], [16]), ([15, 17, 13], [15, 17]), ([2, 13, 18], [2, 13, 18]), ([19, 18], [19]), ([20, 20, 0, 1, 2, 3, 4, 5, 6, 7, 8, 9, 10, 11, 12, 13, 14, 15, 16, 17, 18, 19, 20], [20])])
def impl_compareRecords.B1 : List Nat := [0, 0, 3, 0, 8, 0, 32, 127, 0, 256, 0, 1024, 4095, 8191, 0, 16384, 0, 65536, 262143, 524287, 1048575, 2097151]
theorem impl_compareRecords.tab1 : rtab .any (opsOf Tryz.f163 1) = impl_compareRecords.T1 := by kernel_rfl
theorem impl_compareRecords.bits1 : waitsOk impl_compareRecords.T1.2 impl_compareRecords.B1 = true := by kernel_rfl
theorem impl_compareRecords.calls (k : Nat) (a0_0 : ByteArray) (a0_1 : Int) (a0_2 : Int) (a0_3 : ByteArray) (a1_0 : ByteArray) (a1_1 : Int) (a1_2 : Int) (a1_3 : ByteArray) (r : Int) (w : World) (hG_ : Glob w) (h : impl_compareRecords.f k a0_0 a0_1 a0_2 a0_3 a1_0 a1_1 a1_2 a1_3 = some r) :
  Calls Tryz.prog 163 #[.agg #[.string a0_0, .int .i64 a0_1, .int .i64 a0_2, .string a0_3], .agg #[.string a1_0, .int .i64 a1_1, .int .i64 a1_2, .string a1_3]] w fun e w' => e = .returned (.int .i64 r) ∧ Below w.heap.size w w' := by
 have hu93 := Tryz.underlying93
 have HGL := Aside0.mk hG_
 clear hG_
 have HB := Aside0.mk (Below.refl w.heap.size w)
 have H : ((impl_compareKeys.f k a0_0 a0_1 a0_2 a0_3 a1_0 a1_1 a1_2 a1_3).bind fun t377 => ((impl_dataBytes.f k a0_1 a0_3).bind fun t378 => ((impl_dataBytes.f k a1_1 a1_3).bind fun t379 => ((strings_Compare.f t378 t379).bind fun t380 => ((cmp_Compare_int.f a0_2 a1_2).bind fun t381 => ((cmp_Or_int.f k (([t377, t380, t381] : List Int))).bind fun t385 => (some t385))))))) = some r := h
 clear h
 obtain ⟨t377, A3, H⟩ := bnd H
 obtain ⟨t378, A4, H⟩ := bnd H
 obtain ⟨t379, A5, H⟩ := bnd H
 obtain ⟨t380, A6, H⟩ := bnd H
 obtain ⟨t381, A7, H⟩ := bnd H
 obtain ⟨y382, hy382⟩ : ∃ y_ : List Int, y_ = (([t377, t380, t381] : List Int)) := ⟨_, rfl⟩
 replace H : ((cmp_Or_int.f k y382).bind fun t385 => (some t385)) = some r := by first | (rw [hy382]; with_reducible exact H) | (have H2_ := (Option.bind_some _ _).symm.trans H; rw [hy382]; with_reducible exact H2_) | (have H2_ := (Option.bind_some _ _).symm.trans H; with_reducible exact H2_) | with_reducible exact H | (rw [hy382]; exact H) | exact H
 have Ny382 := Aside0.mk hy382
 clear hy382
 obtain ⟨t385, A8, H⟩ := bnd H
 obtain rfl := Option.some.inj H
 go_enter Tryz.func163, Tryz.ntmps163
 try go_wp2_with (first | ((with_reducible refine gate_dst (N := 2) rfl ?_); refine bE 2 #[.string a0_0, .int .i64 a0_1, .int .i64 a0_2, .string a0_3] 93 ?_; intro gb375 hg w9 hbox hb; have BK375 := Aside0.mk (hbox); have GE375 := bG hg; replace HB := BS hb; clear hb hbox hg) | ((with_reducible refine gate_dst (N := 3) rfl ?_); refine bE 3 #[.string a1_0, .int .i64 a1_1, .int .i64 a1_2, .string a1_3] 93 ?_; intro gb376 hg w10 hbox hb; have BK376 := Aside0.mk (hbox); have GE376 := bG hg; replace HB := BS hb; have NB375_376 := bN BK375 hg; have NB376_375 := bM BK375 hg; replace BK375 := KB BK375 hb; clear hb hbox hg))
 replace BK375 := Aside0.mk (blk_drew BK375.out)
 replace BK376 := Aside0.mk (blk_drew BK376.out)
 replace HB := Aside0.mk (below_drew1 HB.out)
 refine start_ (n := 22) (S := fun w' => w'.cell? ⟨gb375, 0, none⟩ = some (.string a0_0) ∧ w'.cell? ⟨gb375, 1, none⟩ = some (.int .i64 a0_1) ∧ w'.cell? ⟨gb375, 2, none⟩ = some (.int .i64 a0_2) ∧ w'.cell? ⟨gb375, 3, none⟩ = some (.string a0_3) ∧ w'.cell? ⟨gb376, 0, none⟩ = some (.string a1_0) ∧ w'.cell? ⟨gb376, 1, none⟩ = some (.int .i64 a1_1) ∧ w'.cell? ⟨gb376, 2, none⟩ = some (.int .i64 a1_2) ∧ w'.cell? ⟨gb376, 3, none⟩ = some (.string a1_3)) (ds := []) #[false, false, false, false, false, false, false, false, false, false, false, false, false, false, false, false, false, false, false, false, false, false] KR rfl rfl ⟨bc 0 BK375, bc 1 BK375, bc 2 BK375, bc 3 BK375, bc 0 BK376, bc 1 BK376, bc 2 BK376, bc 3 BK376⟩ (fun hHeld => ?_); refine with_tabW impl_compareRecords.tab1 impl_compareRecords.bits1 (fun HT_ HW_ => ?_)
 generalize w10.drew = w11 at BK375 BK376 HB hHeld ⊢
 refine pA 3 8 (mL 22 8) HT_ rfl rfl ?_
 refine pA 5 10 (mL 22 40) HT_ rfl rfl ?_
 refine pA 8 13 (mL 22 296) HT_ rfl rfl ?_
 refine pA 10 15 (mL 22 1320) HT_ rfl rfl ?_
 refine pA 14 19 (mL 22 17704) HT_ rfl rfl ?_
 refine pA 16 21 (mL 22 83240) HT_ rfl rfl ?_
 refine tA 0 5 (mL 22 83241) HT_ HW_ hHeld rfl rfl (by rintro w' ⟨s0, s1, s2, s3, s4, s5, s6, s7⟩; go_simp; with_reducible rfl) ?_
 refine tA 1 6 (mL 22 83243) HT_ HW_ hHeld rfl rfl (by rintro w' ⟨s0, s1, s2, s3, s4, s5, s6, s7⟩; go_simp; with_reducible rfl) ?_
 refine tA 4 9 (mL 22 83259) HT_ HW_ hHeld rfl rfl (by rintro w' ⟨s0, s1, s2, s3, s4, s5, s6, s7⟩; go_simp; with_reducible rfl) ?_
 refine tA 6 11 (mL 22 83323) HT_ HW_ hHeld rfl rfl (by rintro w' ⟨s0, s1, s2, s3, s4, s5, s6, s7⟩; go_simp; with_reducible rfl) ?_
 refine tA 9 14 (mL 22 83835) HT_ HW_ hHeld rfl rfl (by rintro w' ⟨s0, s1, s2, s3, s4, s5, s6, s7⟩; go_simp; with_reducible rfl) ?_
 refine tA 11 16 (mL 22 85883) HT_ HW_ hHeld rfl rfl (by rintro w' ⟨s0, s1, s2, s3, s4, s5, s6, s7⟩; go_simp; with_reducible rfl) ?_
 refine tA 15 20 (mL 22 118651) HT_ HW_ hHeld rfl rfl (by rintro w' ⟨s0, s1, s2, s3, s4, s5, s6, s7⟩; go_simp; with_reducible rfl) ?_
 refine tA 17 22 (mL 22 249723) HT_ HW_ hHeld rfl rfl (by rintro w' ⟨s0, s1, s2, s3, s4, s5, s6, s7⟩; go_simp; with_reducible rfl) ?_
 refine one_ (i := 2) (N := some 7) (mL 22 249727) rfl rfl (one_of HT_.out KR) (by decide) (fun K hK => ?_)
 refine goes_ Tryz.func188 KR rfl #[.agg #[.string a0_0, .int .i64 a0_1, .int .i64 a0_2, .string a0_3], .agg #[.string a1_0, .int .i64 a1_1, .int .i64 a1_2, .string a1_3]] (by rfl) rfl rfl TA ?_
 with_reducible refine (impl_compareKeys.calls k a0_0 a0_1 a0_2 a0_3 a1_0 a1_1 a1_2 a1_3 t377 _ A3.out).mono ?_
 rintro e w12 ⟨rfl, hb⟩
 refine ⟨_, rfl, ?_⟩
 replace BK375 := KB BK375 hb
 replace BK376 := KB BK376 hb
 replace HB := BS hb
 (try clear hb)
 (try clear hb2)
 (try clear hk)
 (try clear hi)
 refine hK.out _ _ ⟨bc 0 BK375, bc 1 BK375, bc 2 BK375, bc 3 BK375, bc 0 BK376, bc 1 BK376, bc 2 BK376, bc 3 BK376⟩ (fun hHeld => ?_)
 clear hK K
 refine nA ?_
 refine one_ (i := 7) (N := some 12) (mL 22 249855) rfl rfl (one_of HT_.out KR) (by decide) (fun K hK => ?_)
 refine goes_ Tryz.func190 KR rfl #[.int .i64 a0_1, .string a0_3] (by rfl) rfl rfl TA ?_
 with_reducible refine (impl_dataBytes.calls k a0_1 a0_3 t378 _ ?side1 A4.out).mono ?_
 (case side1 => exact GW HGL)
 rintro e w13 ⟨rfl, hb⟩
 refine ⟨_, rfl, ?_⟩
 replace BK375 := KB BK375 hb
 replace BK376 := KB BK376 hb
 replace HB := BS hb
 (try clear hb)
 (try clear hb2)
 (try clear hk)
 (try clear hi)
 refine hK.out _ _ ⟨bc 0 BK375, bc 1 BK375, bc 2 BK375, bc 3 BK375, bc 0 BK376, bc 1 BK376, bc 2 BK376, bc 3 BK376⟩ (fun hHeld => ?_)
 clear hK K
 refine nA ?_
 refine one_ (i := 12) (N := some 17) (mL 22 253951) rfl rfl (one_of HT_.out KR) (by decide) (fun K hK => ?_)
 refine goes_ Tryz.func190 KR rfl #[.int .i64 a1_1, .string a1_3] (by rfl) rfl rfl TA ?_
 with_reducible refine (impl_dataBytes.calls k a1_1 a1_3 t379 _ ?side1 A5.out).mono ?_
 (case side1 => exact GW HGL)
 rintro e w14 ⟨rfl, hb⟩
 refine ⟨_, rfl, ?_⟩
 replace BK375 := KB BK375 hb
 replace BK376 := KB BK376 hb
 replace HB := BS hb
 (try clear hb)
 (try clear hb2)
 (try clear hk)
 (try clear hi)
 refine hK.out _ _ ⟨bc 0 BK375, bc 1 BK375, bc 2 BK375, bc 3 BK375, bc 0 BK376, bc 1 BK376, bc 2 BK376, bc 3 BK376⟩ (fun hHeld => ?_)
 clear hK K
 refine nA ?_
 refine one_ (i := 13) (N := some 18) (mL 22 262143) rfl rfl (one_of HT_.out KR) (by decide) (fun K hK => ?_)
 refine goes_ Tryz.func189 KR rfl #[.string t378, .string t379] (by rfl) rfl rfl TA ?_
 with_reducible refine (strings_Compare.calls t378 t379 t380 _ A6.out).mono ?_
 rintro e w' ⟨rfl, ⟨nd, rfl⟩⟩
 refine ⟨_, rfl, ?_⟩
 refine hK.out _ _ ⟨bc 0 BK375, bc 1 BK375, bc 2 BK375, bc 3 BK375, bc 0 BK376, bc 1 BK376, bc 2 BK376, bc 3 BK376⟩ (fun hHeld => ?_)
 clear hK K
 refine nA ?_
 refine one_ (i := 18) (N := some 23) (mL 22 524287) rfl rfl (one_of HT_.out KR) (by decide) (fun K hK => ?_)
 refine goes_ Tryz.func92 KR rfl #[.int .i64 a0_2, .int .i64 a1_2] (by rfl) rfl rfl TA ?_
 with_reducible refine (cmp_Compare_int.calls a0_2 a1_2 t381 _ A7.out).mono ?_
 rintro e w' ⟨rfl, ⟨nd, rfl⟩⟩
 refine ⟨_, rfl, ?_⟩
 refine hK.out _ _ ⟨bc 0 BK375, bc 1 BK375, bc 2 BK375, bc 3 BK375, bc 0 BK376, bc 1 BK376, bc 2 BK376, bc 3 BK376⟩ (fun hHeld => ?_)
 clear hK K
 refine nA ?_
 refine one_ (i := 19) (N := some 24) (mL 22 1048575) rfl rfl (one_of HT_.out KR) (by decide) (fun K hK => ?_)
 refine Kd.R_lit_step (Kd.int .i64) _ 3 ?hg (N := 24) ?hd (xs := ([t377, t380, t381] : List Int)) (inner := [.int .i64 t377, .int .i64 t380, .int .i64 t381]) (ok := fun _ => True) (okp := fun _ => True) ?hr ?hp (fun _ hk => hk) trivial (Below.refl _ _) (Nat.le_refl _) (by simp) ?_; (case hd => rfl); (case hg => rfl); (case hr => first | (go_simp; done) | (go_simp; rfl)); (case hp => exact (Reps.one (show Kd.M (Kd.int .i64) _ _ _ t377 [.int .i64 t377] from rfl) (Reps.one (show Kd.M (Kd.int .i64) _ _ _ t380 [.int .i64 t380] from rfl) (Reps.one (show Kd.M (Kd.int .i64) _ _ _ t381 [.int .i64 t381] from rfl) (Reps.none _ _)))))
 intro v383 w15 ho16 hb hg_ hnew_
 clear hg_ hnew_
 (first | rw [← Ny382.out] at ho16 | (simp only [Int.reduceToNat] at ho16; rw [← Ny382.out] at ho16))
 have HO384 := RL ho16
 replace BK375 := KB BK375 hb
 replace BK376 := KB BK376 hb
 replace HB := BS hb
 clear hb ho16
 obtain ⟨Ao17, co17, eo17⟩ := Kd.R_slice HO384.out
 (first | subst eo17 | (injection eo17 with f1_ f2_ f3_; have f4_ := f1_.symm; have f5_ := f3_.symm; clear f1_ f2_ f3_; subst f4_; subst f5_))
 refine hK.out _ _ ⟨bc 0 BK375, bc 1 BK375, bc 2 BK375, bc 3 BK375, bc 0 BK376, bc 1 BK376, bc 2 BK376, bc 3 BK376⟩ (fun hHeld => ?_)
 clear hK K
 refine nA ?_
 refine one_ (i := 20) (N := some 25) (mL 22 2097151) rfl rfl (one_of HT_.out KR) (by decide) (fun K hK => ?_)
 refine goes_ Tryz.func138 KR rfl #[.slice Ao17 y382.length co17] (by rfl) rfl rfl TA ?_
 with_reducible refine (cmp_Or_int.calls k _ _ y382 t385 _ ?side1 ?side2 A8.out).mono ?_
 (case side1 => exact CW ((Kd.R_reads' HO384.out).2.2))
 (case side2 => exact (Kd.R_reads' HO384.out).2.1)
 rintro e w' ⟨rfl, ⟨nd, rfl⟩⟩
 refine ⟨_, rfl, ?_⟩
 refine hK.out _ _ ⟨bc 0 BK375, bc 1 BK375, bc 2 BK375, bc 3 BK375, bc 0 BK376, bc 1 BK376, bc 2 BK376, bc 3 BK376⟩ (fun hHeld => ?_)
 clear hK K
 refine nA ?_
 refine pA 21 4 (mL 22 4194303) HT_ rfl rfl ?_
 refine done_ (done_of HT_.out KR) ?_
 try go_wp2
 go_ret
 exact ⟨TE, TB⟩
end
section
/-! ### impl_areRising: function 121 -/
def impl_areRising.l0 : Nat → List (S_Record) → List (S_Record) → Int → Int → Option (Bool)
 | 0, _, _, _, _ => none
 | k + 1, x0, x5, x6, x7 => if x7 < x6 then (if 0 ≤ x7 then (if x7 < (x5.length : Int) then ((impl_GoodRecord.f k ((rd_TRecord x5 x7).f0) ((rd_TRecord x5 x7).f1) ((rd_TRecord x5 x7).f2) ((rd_TRecord x5 x7).f3)).bind fun t388 => (if t388 = true then (if x7 > 0 then (if 0 ≤ (wrap64 (x7 - 1)) then (if (wrap64 (x7 - 1)) < (x0.length : Int) then ((impl_compareRecords.f k ((rd_TRecord x0 (wrap64 (x7 - 1))).f0) ((rd_TRecord x0 (wrap64 (x7 - 1))).f1) ((rd_TRecord x0 (wrap64 (x7 - 1))).f2) ((rd_TRecord x0 (wrap64 (x7 - 1))).f3) ((rd_TRecord x5 x7).f0) ((rd_TRecord x5 x7).f1) ((rd_TRecord x5 x7).f2) ((rd_TRecord x5 x7).f3)).bind fun t390 => (if t390 ≥ 0 then (some false) else (impl_areRising.l0 k x0 x5 x6 (wrap64 (x7 + 1))))) else (none)) else (none)) else (impl_areRising.l0 k x0 x5 x6 (wrap64 (x7 + 1)))) else (some false))) else (none)) else (none)) else (some true)
def impl_areRising.f (k : Nat) (l0 : List (S_Record)) : Option (Bool) := impl_areRising.l0 k l0 l0 (l0.length : Int) 0
def impl_areRising.T4 : Bool × List (List Nat × List Nat) := (true, [([], []), ([0], [0]), ([1], [1]), ([2, 1], [2]), ([3], [3]), ([4, 3], [3, 4]), ([5, 3, 3], [3, 5]), ([6], [6]), ([6], [6]), ([8, 6], [6, 8]), ([7, 9, 6], [6, 7, 9]), ([10, 6], [6, 10]), ([6], [6]), ([11, 12, 6, 6], [6, 11, 12]), ([13, 6], [6, 13]), ([6, 14, 3], [3, 6, 14]), ([3, 15], [3, 15])])
def impl_areRising.B4 : List Nat := [0, 1, 3, 7, 15, 31, 63, 127, 127, 383, 1023, 2047, 127, 8191, 16383, 32767, 65535]
theorem impl_areRising.tab4 : rtab .any (opsOf Tryz.f121 4) = impl_areRising.T4 := by kernel_rfl
theorem impl_areRising.bits4 : waitsOk impl_areRising.T4.2 impl_areRising.B4 = true := by kernel_rfl
theorem impl_areRising.calls (k : Nat) (A0 : Option Addr) (c0 : Nat) (l0 : List (S_Record)) (r : Bool) (w : World) (hr0 : Kd.C k_Record w A0 l0.length l0) (hc0 : l0.length ≤ c0) (hG_ : Glob w) (h : impl_areRising.f k l0 = some r) :
  Calls Tryz.prog 121 #[.slice A0 l0.length c0] w fun e w' => e = .returned (.bool r) ∧ Below w.heap.size w w' := by
 have hu93 := Tryz.underlying93
 have HR0 := Aside0.mk hr0
 have HC0 := Aside0.mk hc0
 clear hr0 hc0
 have HGL := Aside0.mk hG_
 clear hG_
 have HB := Aside0.mk (Below.refl w.heap.size w)
 have H : (impl_areRising.l0 k l0 l0 (l0.length : Int) 0) = some r := h
 clear h
 have H' := Aside0.mk H
 clear H
 go_enter Tryz.func121, Tryz.ntmps121
 go_wp2
 go_loopg [7] k (fun kq v7 w' => ∃ (x7_1 : Int), v7 = .int .i64 x7_1 ∧ Aside0 (impl_areRising.l0 kq l0 l0 (l0.length : Int) x7_1 = some r) ∧ Aside0 (kq ≤ k) ∧ Aside0 (Below w.heap.size w w'))
 case atStart => exact ⟨(0), TF, H', ⟨Nat.le_refl _⟩, ⟨TB⟩⟩
 case round =>
  clear H'
  try clear c1
  obtain ⟨x7_1, rfl, HA, HK1, HB⟩ := hrel
  cases gk with
  | zero => exact absurd HA.out (by simp [impl_areRising.l0])
  | succ k1 =>
   have H := HA.out
   clear HA
   simp only [impl_areRising.l0] at H
   by_cases c2 : x7_1 < (l0.length : Int)
   ·rw [if_pos c2] at H
    have c2b0 : decide (x7_1 < (l0.length : Int)) = true := decide_eq_true c2
    clear c2
    obtain ⟨c3, H⟩ := ifn H
    have c3b0 : decide (0 ≤ x7_1) = true := decide_eq_true c3
    clear c3
    obtain ⟨c4, H⟩ := ifn H
    have c4b0 : decide (x7_1 < (l0.length : Int)) = true := decide_eq_true c4
    clear c4
    obtain ⟨t388, A5, H⟩ := bnd H
    by_cases c6 : t388 = true
    ·subst c6
     replace H := ift H
     by_cases c7 : x7_1 > 0
     ·rw [if_pos c7] at H
      have c7b0 : decide (0 < x7_1) = true := decide_eq_true c7
      clear c7
      obtain ⟨ji8, hji8⟩ : ∃ j_ : Int, (wrap64 (x7_1 - 1)) = j_ := ⟨_, rfl⟩
      replace H : (if 0 ≤ (ji8) then (if (ji8) < (l0.length : Int) then ((impl_compareRecords.f k1 ((rd_TRecord l0 (ji8)).f0) ((rd_TRecord l0 (ji8)).f1) ((rd_TRecord l0 (ji8)).f2) ((rd_TRecord l0 (ji8)).f3) ((rd_TRecord l0 x7_1).f0) ((rd_TRecord l0 x7_1).f1) ((rd_TRecord l0 x7_1).f2) ((rd_TRecord l0 x7_1).f3)).bind fun t390 => (if t390 ≥ 0 then (some false) else (impl_areRising.l0 k1 l0 l0 (l0.length : Int) (wrap64 (x7_1 + 1))))) else (none)) else (none)) = some r := by first | (rw [hji8] at H; exact H) | (simp only [hji8] at H ⊢; exact H)
      (try rw [hji8] at A5)
      have hji8w : (IntKind.i64.wrap (x7_1 - 1)) = ji8 := (i64_w _).trans hji8
      obtain ⟨c9, H⟩ := ifn H
      have c9b0 : decide (0 ≤ (ji8)) = true := decide_eq_true c9
      clear c9
      obtain ⟨c10, H⟩ := ifn H
      have c10b0 : decide ((ji8) < (l0.length : Int)) = true := decide_eq_true c10
      clear c10
      obtain ⟨t390, A11, H⟩ := bnd H
      by_cases c12 : t390 ≥ 0
      ·rw [if_pos c12] at H
       have c12b0 : decide (0 ≤ t390) = true := decide_eq_true c12
       clear c12
       obtain rfl := Option.some.inj H
       have p386 : 0 ≤ (x7_1 : Int) := TD
       have q386 : x7_1 < (l0.length : Int) := TD
       obtain ⟨ad386, e386, hx386_0, hx386_1, hx386_2, hx386_3⟩ := at_TRecord (Kd.C_below HR0.out HB.out) x7_1 p386 q386
       cases e386
       replace p386 := eq_true p386
       replace q386 := eq_true q386
       try go_wp2_with (first | ((with_reducible refine gate_dst (N := 4) rfl ?_); refine bE 4 #[.string (⟨#[]⟩ : ByteArray), .int .i64 0, .int .i64 0, .string (⟨#[]⟩ : ByteArray)] 93 ?_; intro gb387 hg w13 hbox hb; have BK387 := Aside0.mk (hbox); have GE387 := bG hg; replace HB := BS hb; clear hb hbox hg; have hcz14 := cz4 BK387))
       have n0_ : Aside0 (((((w13.setCell ⟨gb387, 0, none⟩ (.string ((rd_TRecord l0 x7_1).f0))).setCell ⟨gb387, 1, none⟩ (.int .i64 ((rd_TRecord l0 x7_1).f1))).setCell ⟨gb387, 2, none⟩ (.int .i64 ((rd_TRecord l0 x7_1).f2))).setCell ⟨gb387, 3, none⟩ (.string ((rd_TRecord l0 x7_1).f3))).heap[gb387]? = some (.cells #[.string ((rd_TRecord l0 x7_1).f0), .int .i64 ((rd_TRecord l0 x7_1).f1), .int .i64 ((rd_TRecord l0 x7_1).f2), .string ((rd_TRecord l0 x7_1).f3)] 93 (0, 0))) := ⟨TS⟩
       have n1_ : Aside0 (Below w.heap.size w ((((w13.setCell ⟨gb387, 0, none⟩ (.string ((rd_TRecord l0 x7_1).f0))).setCell ⟨gb387, 1, none⟩ (.int .i64 ((rd_TRecord l0 x7_1).f1))).setCell ⟨gb387, 2, none⟩ (.int .i64 ((rd_TRecord l0 x7_1).f2))).setCell ⟨gb387, 3, none⟩ (.string ((rd_TRecord l0 x7_1).f3)))) := ⟨TB⟩
       (try clear BK387)
       (try clear HB)
       generalize ((((w13.setCell ⟨gb387, 0, none⟩ (.string ((rd_TRecord l0 x7_1).f0))).setCell ⟨gb387, 1, none⟩ (.int .i64 ((rd_TRecord l0 x7_1).f1))).setCell ⟨gb387, 2, none⟩ (.int .i64 ((rd_TRecord l0 x7_1).f2))).setCell ⟨gb387, 3, none⟩ (.string ((rd_TRecord l0 x7_1).f3))) = w15 at n0_ n1_ ⊢
       have BK387 := n0_
       have HB := n1_
       clear n0_ n1_
       replace BK387 := Aside0.mk (blk_drew BK387.out)
       replace HB := Aside0.mk (below_drew1 HB.out)
       have p389 : 0 ≤ ((ji8) : Int) := TD
       have q389 : (ji8) < (l0.length : Int) := TD
       obtain ⟨ad389, e389, hx389_0, hx389_1, hx389_2, hx389_3⟩ := at_TRecord HR0.out (ji8) p389 q389
       have hw389_3 := hx389_3
       have hw389_2 := hx389_2
       have hw389_1 := hx389_1
       have hw389_0 := hx389_0
       obtain rfl : ad386 = ad389 := (by injection e389)
       replace hx389_0 := hBc HB hx389_0
       replace hx389_1 := hBc HB hx389_1
       replace hx389_2 := hBc HB hx389_2
       replace hx389_3 := hBc HB hx389_3
       replace p389 := eq_true p389
       replace q389 := eq_true q389
       refine start_ (n := 17) (S := fun w' => w'.cell? ⟨gb387, 0, none⟩ = some (.string ((rd_TRecord l0 x7_1).f0)) ∧ w'.cell? ⟨gb387, 1, none⟩ = some (.int .i64 ((rd_TRecord l0 x7_1).f1)) ∧ w'.cell? ⟨gb387, 2, none⟩ = some (.int .i64 ((rd_TRecord l0 x7_1).f2)) ∧ w'.cell? ⟨gb387, 3, none⟩ = some (.string ((rd_TRecord l0 x7_1).f3)) ∧ w'.cell? (ad386.add (((ji8)).toNat * 4)) = some (.string ((rd_TRecord l0 (ji8)).f0)) ∧ w'.cell? ⟨(ad386.add (((ji8)).toNat * 4)).block, (ad386.add (((ji8)).toNat * 4)).off + 1, none⟩ = some (.int .i64 ((rd_TRecord l0 (ji8)).f1)) ∧ w'.cell? ⟨(ad386.add (((ji8)).toNat * 4)).block, (ad386.add (((ji8)).toNat * 4)).off + 2, none⟩ = some (.int .i64 ((rd_TRecord l0 (ji8)).f2)) ∧ w'.cell? ⟨(ad386.add (((ji8)).toNat * 4)).block, (ad386.add (((ji8)).toNat * 4)).off + 3, none⟩ = some (.string ((rd_TRecord l0 (ji8)).f3))) (ds := []) #[false, false, false, false, false, false, false, false, false, false, false, false, false, false, false, false, false] KR rfl rfl ⟨bc 0 BK387, bc 1 BK387, bc 2 BK387, bc 3 BK387, ((HB.out.cell (World.block_lt_of_cell? w _ hw389_0)).trans hw389_0), ((HB.out.cell (World.block_lt_of_cell? w _ hw389_1)).trans hw389_1), ((HB.out.cell (World.block_lt_of_cell? w _ hw389_2)).trans hw389_2), ((HB.out.cell (World.block_lt_of_cell? w _ hw389_3)).trans hw389_3)⟩ (fun hHeld => ?_); refine with_tabW impl_areRising.tab4 impl_areRising.bits4 (fun HT_ HW_ => ?_)
       generalize w15.drew = w16 at BK387 HB hx389_0 hx389_1 hx389_2 hx389_3 hHeld ⊢
       refine tA 0 12 (mL 17 1) HT_ HW_ hHeld rfl rfl (by rintro w' ⟨s0, s1, s2, s3, s4, s5, s6, s7⟩; go_simp; with_reducible rfl) ?_
       refine one_ (i := 1) (N := some 13) (mL 17 3) rfl rfl (one_of HT_.out KR) (by decide) (fun K hK => ?_)
       refine goes_ Tryz.func162 KR rfl #[.agg #[.string ((rd_TRecord l0 x7_1).f0), .int .i64 ((rd_TRecord l0 x7_1).f1), .int .i64 ((rd_TRecord l0 x7_1).f2), .string ((rd_TRecord l0 x7_1).f3)]] (by rfl) rfl rfl TA ?_
       with_reducible refine (impl_GoodRecord.calls k1 ((rd_TRecord l0 x7_1).f0) ((rd_TRecord l0 x7_1).f1) ((rd_TRecord l0 x7_1).f2) ((rd_TRecord l0 x7_1).f3) true _ ?side1 A5.out).mono ?_
       (case side1 => exact GW HGL)
       rintro e w17 ⟨rfl, hb⟩
       refine ⟨_, rfl, ?_⟩
       replace BK387 := KB BK387 hb
       replace HB := BS hb
       (try clear hb)
       (try clear hb2)
       (try clear hk)
       (try clear hi)
       refine hK.out _ _ ⟨bc 0 BK387, bc 1 BK387, bc 2 BK387, bc 3 BK387, ((HB.out.cell (World.block_lt_of_cell? w _ hw389_0)).trans hw389_0), ((HB.out.cell (World.block_lt_of_cell? w _ hw389_1)).trans hw389_1), ((HB.out.cell (World.block_lt_of_cell? w _ hw389_2)).trans hw389_2), ((HB.out.cell (World.block_lt_of_cell? w _ hw389_3)).trans hw389_3)⟩ (fun hHeld => ?_)
       clear hK K
       refine nA ?_
       refine pA 2 14 (mL 17 7) HT_ rfl rfl ?_
       refine pA 3 15 (mL 17 15) HT_ rfl rfl ?_
       refine pA 4 16 (mL 17 31) HT_ rfl rfl ?_
       refine pA 5 17 (mL 17 63) HT_ rfl rfl ?_
       refine pA 6 18 (mL 17 127) HT_ rfl rfl ?_
       refine pA 7 19 (mL 17 255) HT_ rfl rfl ?_
       refine pA 8 20 (mL 17 511) HT_ rfl rfl ?_
       refine pA 9 21 (mL 17 1023) HT_ rfl rfl ?_
       refine pA 10 22 (mL 17 2047) HT_ rfl rfl ?_
       refine tA 11 23 (mL 17 4095) HT_ HW_ hHeld rfl rfl (by rintro w' ⟨s0, s1, s2, s3, s4, s5, s6, s7⟩; go_simp; with_reducible rfl) ?_
       refine tA 12 24 (mL 17 8191) HT_ HW_ hHeld rfl rfl (by rintro w' ⟨s0, s1, s2, s3, s4, s5, s6, s7⟩; go_simp; with_reducible rfl) ?_
       refine one_ (i := 13) (N := some 25) (mL 17 16383) rfl rfl (one_of HT_.out KR) (by decide) (fun K hK => ?_)
       refine goes_ Tryz.func163 KR rfl #[.agg #[.string ((rd_TRecord l0 (ji8)).f0), .int .i64 ((rd_TRecord l0 (ji8)).f1), .int .i64 ((rd_TRecord l0 (ji8)).f2), .string ((rd_TRecord l0 (ji8)).f3)], .agg #[.string ((rd_TRecord l0 x7_1).f0), .int .i64 ((rd_TRecord l0 x7_1).f1), .int .i64 ((rd_TRecord l0 x7_1).f2), .string ((rd_TRecord l0 x7_1).f3)]] (by rfl) rfl rfl (by (try simp only [List.map_toArray, List.map_cons, List.map_nil]); first | done | (simp only [hji8]; rfl) | rfl | (simp only [List.length_drop, List.length_take]; rfl)) ?_
       with_reducible refine (impl_compareRecords.calls k1 ((rd_TRecord l0 (ji8)).f0) ((rd_TRecord l0 (ji8)).f1) ((rd_TRecord l0 (ji8)).f2) ((rd_TRecord l0 (ji8)).f3) ((rd_TRecord l0 x7_1).f0) ((rd_TRecord l0 x7_1).f1) ((rd_TRecord l0 x7_1).f2) ((rd_TRecord l0 x7_1).f3) t390 _ ?side1 A11.out).mono ?_
       (case side1 => exact GW HGL)
       rintro e w18 ⟨rfl, hb⟩
       refine ⟨_, rfl, ?_⟩
       replace BK387 := KB BK387 hb
       replace HB := BS hb
       (try clear hb)
       (try clear hb2)
       (try clear hk)
       (try clear hi)
       refine hK.out _ _ ⟨bc 0 BK387, bc 1 BK387, bc 2 BK387, bc 3 BK387, ((HB.out.cell (World.block_lt_of_cell? w _ hw389_0)).trans hw389_0), ((HB.out.cell (World.block_lt_of_cell? w _ hw389_1)).trans hw389_1), ((HB.out.cell (World.block_lt_of_cell? w _ hw389_2)).trans hw389_2), ((HB.out.cell (World.block_lt_of_cell? w _ hw389_3)).trans hw389_3)⟩ (fun hHeld => ?_)
       clear hK K
       refine nA ?_
       refine pA 14 26 (mL 17 32767) HT_ rfl rfl ?_
       refine pA 15 27 (mL 17 65535) HT_ rfl rfl ?_
       refine pA 16 28 (mL 17 131071) HT_ rfl rfl ?_
       refine done_ (done_of HT_.out KR) ?_
       try go_wp2
       go_ret
       exact ⟨by first | rfl | (simp [errW_none, errW_some] <;> rfl) | (simp only [← hji8]; first | rfl | (simp [errW_none, errW_some] <;> rfl)) | (simp [*, errW_none, errW_some] <;> rfl), TB⟩
      ·rw [if_neg c12] at H
       have c12b0 : decide (0 ≤ t390) = false := decide_eq_false c12
       clear c12
       have H' := Aside0.mk H
       clear H
       have p386 : 0 ≤ (x7_1 : Int) := TD
       have q386 : x7_1 < (l0.length : Int) := TD
       obtain ⟨ad386, e386, hx386_0, hx386_1, hx386_2, hx386_3⟩ := at_TRecord (Kd.C_below HR0.out HB.out) x7_1 p386 q386
       cases e386
       replace p386 := eq_true p386
       replace q386 := eq_true q386
       try go_wp2_with (first | ((with_reducible refine gate_dst (N := 4) rfl ?_); refine bE 4 #[.string (⟨#[]⟩ : ByteArray), .int .i64 0, .int .i64 0, .string (⟨#[]⟩ : ByteArray)] 93 ?_; intro gb387 hg w19 hbox hb; have BK387 := Aside0.mk (hbox); have GE387 := bG hg; replace HB := BS hb; clear hb hbox hg; have hcz20 := cz4 BK387))
       have n0_ : Aside0 (((((w19.setCell ⟨gb387, 0, none⟩ (.string ((rd_TRecord l0 x7_1).f0))).setCell ⟨gb387, 1, none⟩ (.int .i64 ((rd_TRecord l0 x7_1).f1))).setCell ⟨gb387, 2, none⟩ (.int .i64 ((rd_TRecord l0 x7_1).f2))).setCell ⟨gb387, 3, none⟩ (.string ((rd_TRecord l0 x7_1).f3))).heap[gb387]? = some (.cells #[.string ((rd_TRecord l0 x7_1).f0), .int .i64 ((rd_TRecord l0 x7_1).f1), .int .i64 ((rd_TRecord l0 x7_1).f2), .string ((rd_TRecord l0 x7_1).f3)] 93 (0, 0))) := ⟨TS⟩
       have n1_ : Aside0 (Below w.heap.size w ((((w19.setCell ⟨gb387, 0, none⟩ (.string ((rd_TRecord l0 x7_1).f0))).setCell ⟨gb387, 1, none⟩ (.int .i64 ((rd_TRecord l0 x7_1).f1))).setCell ⟨gb387, 2, none⟩ (.int .i64 ((rd_TRecord l0 x7_1).f2))).setCell ⟨gb387, 3, none⟩ (.string ((rd_TRecord l0 x7_1).f3)))) := ⟨TB⟩
       (try clear BK387)
       (try clear HB)
       generalize ((((w19.setCell ⟨gb387, 0, none⟩ (.string ((rd_TRecord l0 x7_1).f0))).setCell ⟨gb387, 1, none⟩ (.int .i64 ((rd_TRecord l0 x7_1).f1))).setCell ⟨gb387, 2, none⟩ (.int .i64 ((rd_TRecord l0 x7_1).f2))).setCell ⟨gb387, 3, none⟩ (.string ((rd_TRecord l0 x7_1).f3))) = w21 at n0_ n1_ ⊢
       have BK387 := n0_
       have HB := n1_
       clear n0_ n1_
       replace BK387 := Aside0.mk (blk_drew BK387.out)
       replace HB := Aside0.mk (below_drew1 HB.out)
       have p389 : 0 ≤ ((ji8) : Int) := TD
       have q389 : (ji8) < (l0.length : Int) := TD
       obtain ⟨ad389, e389, hx389_0, hx389_1, hx389_2, hx389_3⟩ := at_TRecord HR0.out (ji8) p389 q389
       have hw389_3 := hx389_3
       have hw389_2 := hx389_2
       have hw389_1 := hx389_1
       have hw389_0 := hx389_0
       obtain rfl : ad386 = ad389 := (by injection e389)
       replace hx389_0 := hBc HB hx389_0
       replace hx389_1 := hBc HB hx389_1
       replace hx389_2 := hBc HB hx389_2
       replace hx389_3 := hBc HB hx389_3
       replace p389 := eq_true p389
       replace q389 := eq_true q389
       refine start_ (n := 17) (S := fun w' => w'.cell? ⟨gb387, 0, none⟩ = some (.string ((rd_TRecord l0 x7_1).f0)) ∧ w'.cell? ⟨gb387, 1, none⟩ = some (.int .i64 ((rd_TRecord l0 x7_1).f1)) ∧ w'.cell? ⟨gb387, 2, none⟩ = some (.int .i64 ((rd_TRecord l0 x7_1).f2)) ∧ w'.cell? ⟨gb387, 3, none⟩ = some (.string ((rd_TRecord l0 x7_1).f3)) ∧ w'.cell? (ad386.add (((ji8)).toNat * 4)) = some (.string ((rd_TRecord l0 (ji8)).f0)) ∧ w'.cell? ⟨(ad386.add (((ji8)).toNat * 4)).block, (ad386.add (((ji8)).toNat * 4)).off + 1, none⟩ = some (.int .i64 ((rd_TRecord l0 (ji8)).f1)) ∧ w'.cell? ⟨(ad386.add (((ji8)).toNat * 4)).block, (ad386.add (((ji8)).toNat * 4)).off + 2, none⟩ = some (.int .i64 ((rd_TRecord l0 (ji8)).f2)) ∧ w'.cell? ⟨(ad386.add (((ji8)).toNat * 4)).block, (ad386.add (((ji8)).toNat * 4)).off + 3, none⟩ = some (.string ((rd_TRecord l0 (ji8)).f3))) (ds := []) #[false, false, false, false, false, false, false, false, false, false, false, false, false, false, false, false, false] KR rfl rfl ⟨bc 0 BK387, bc 1 BK387, bc 2 BK387, bc 3 BK387, ((HB.out.cell (World.block_lt_of_cell? w _ hw389_0)).trans hw389_0), ((HB.out.cell (World.block_lt_of_cell? w _ hw389_1)).trans hw389_1), ((HB.out.cell (World.block_lt_of_cell? w _ hw389_2)).trans hw389_2), ((HB.out.cell (World.block_lt_of_cell? w _ hw389_3)).trans hw389_3)⟩ (fun hHeld => ?_); refine with_tabW impl_areRising.tab4 impl_areRising.bits4 (fun HT_ HW_ => ?_)
       generalize w21.drew = w22 at BK387 HB hx389_0 hx389_1 hx389_2 hx389_3 hHeld ⊢
       refine tA 0 12 (mL 17 1) HT_ HW_ hHeld rfl rfl (by rintro w' ⟨s0, s1, s2, s3, s4, s5, s6, s7⟩; go_simp; with_reducible rfl) ?_
       refine one_ (i := 1) (N := some 13) (mL 17 3) rfl rfl (one_of HT_.out KR) (by decide) (fun K hK => ?_)
       refine goes_ Tryz.func162 KR rfl #[.agg #[.string ((rd_TRecord l0 x7_1).f0), .int .i64 ((rd_TRecord l0 x7_1).f1), .int .i64 ((rd_TRecord l0 x7_1).f2), .string ((rd_TRecord l0 x7_1).f3)]] (by rfl) rfl rfl TA ?_
       with_reducible refine (impl_GoodRecord.calls k1 ((rd_TRecord l0 x7_1).f0) ((rd_TRecord l0 x7_1).f1) ((rd_TRecord l0 x7_1).f2) ((rd_TRecord l0 x7_1).f3) true _ ?side1 A5.out).mono ?_
       (case side1 => exact GW HGL)
       rintro e w23 ⟨rfl, hb⟩
       refine ⟨_, rfl, ?_⟩
       replace BK387 := KB BK387 hb
       replace HB := BS hb
       (try clear hb)
       (try clear hb2)
       (try clear hk)
       (try clear hi)
       refine hK.out _ _ ⟨bc 0 BK387, bc 1 BK387, bc 2 BK387, bc 3 BK387, ((HB.out.cell (World.block_lt_of_cell? w _ hw389_0)).trans hw389_0), ((HB.out.cell (World.block_lt_of_cell? w _ hw389_1)).trans hw389_1), ((HB.out.cell (World.block_lt_of_cell? w _ hw389_2)).trans hw389_2), ((HB.out.cell (World.block_lt_of_cell? w _ hw389_3)).trans hw389_3)⟩ (fun hHeld => ?_)
       clear hK K
       refine nA ?_
       refine pA 2 14 (mL 17 7) HT_ rfl rfl ?_
       refine pA 3 15 (mL 17 15) HT_ rfl rfl ?_
       refine pA 4 16 (mL 17 31) HT_ rfl rfl ?_
       refine pA 5 17 (mL 17 63) HT_ rfl rfl ?_
       refine pA 6 18 (mL 17 127) HT_ rfl rfl ?_
       refine pA 7 19 (mL 17 255) HT_ rfl rfl ?_
       refine pA 8 20 (mL 17 511) HT_ rfl rfl ?_
       refine pA 9 21 (mL 17 1023) HT_ rfl rfl ?_
       refine pA 10 22 (mL 17 2047) HT_ rfl rfl ?_
       refine tA 11 23 (mL 17 4095) HT_ HW_ hHeld rfl rfl (by rintro w' ⟨s0, s1, s2, s3, s4, s5, s6, s7⟩; go_simp; with_reducible rfl) ?_
       refine tA 12 24 (mL 17 8191) HT_ HW_ hHeld rfl rfl (by rintro w' ⟨s0, s1, s2, s3, s4, s5, s6, s7⟩; go_simp; with_reducible rfl) ?_
       refine one_ (i := 13) (N := some 25) (mL 17 16383) rfl rfl (one_of HT_.out KR) (by decide) (fun K hK => ?_)
       refine goes_ Tryz.func163 KR rfl #[.agg #[.string ((rd_TRecord l0 (ji8)).f0), .int .i64 ((rd_TRecord l0 (ji8)).f1), .int .i64 ((rd_TRecord l0 (ji8)).f2), .string ((rd_TRecord l0 (ji8)).f3)], .agg #[.string ((rd_TRecord l0 x7_1).f0), .int .i64 ((rd_TRecord l0 x7_1).f1), .int .i64 ((rd_TRecord l0 x7_1).f2), .string ((rd_TRecord l0 x7_1).f3)]] (by rfl) rfl rfl (by (try simp only [List.map_toArray, List.map_cons, List.map_nil]); first | done | (simp only [hji8]; rfl) | rfl | (simp only [List.length_drop, List.length_take]; rfl)) ?_
       with_reducible refine (impl_compareRecords.calls k1 ((rd_TRecord l0 (ji8)).f0) ((rd_TRecord l0 (ji8)).f1) ((rd_TRecord l0 (ji8)).f2) ((rd_TRecord l0 (ji8)).f3) ((rd_TRecord l0 x7_1).f0) ((rd_TRecord l0 x7_1).f1) ((rd_TRecord l0 x7_1).f2) ((rd_TRecord l0 x7_1).f3) t390 _ ?side1 A11.out).mono ?_
       (case side1 => exact GW HGL)
       rintro e w24 ⟨rfl, hb⟩
       refine ⟨_, rfl, ?_⟩
       replace BK387 := KB BK387 hb
       replace HB := BS hb
       (try clear hb)
       (try clear hb2)
       (try clear hk)
       (try clear hi)
       refine hK.out _ _ ⟨bc 0 BK387, bc 1 BK387, bc 2 BK387, bc 3 BK387, ((HB.out.cell (World.block_lt_of_cell? w _ hw389_0)).trans hw389_0), ((HB.out.cell (World.block_lt_of_cell? w _ hw389_1)).trans hw389_1), ((HB.out.cell (World.block_lt_of_cell? w _ hw389_2)).trans hw389_2), ((HB.out.cell (World.block_lt_of_cell? w _ hw389_3)).trans hw389_3)⟩ (fun hHeld => ?_)
       clear hK K
       refine nA ?_
       refine pA 14 26 (mL 17 32767) HT_ rfl rfl ?_
       refine pA 15 27 (mL 17 65535) HT_ rfl rfl ?_
       refine pA 16 28 (mL 17 131071) HT_ rfl rfl ?_
       refine done_ (done_of HT_.out KR) ?_
       try go_wp2
       go_roundg k1
       case measure => have := HK1.out; omega
       case rel => exact ⟨(wrap64 (x7_1 + 1)), TF, H', ⟨TM⟩, ⟨TB⟩⟩
     ·rw [if_neg c7] at H
      have c7b0 : decide (0 < x7_1) = false := decide_eq_false c7
      clear c7
      have H' := Aside0.mk H
      clear H
      have p386 : 0 ≤ (x7_1 : Int) := TD
      have q386 : x7_1 < (l0.length : Int) := TD
      obtain ⟨ad386, e386, hx386_0, hx386_1, hx386_2, hx386_3⟩ := at_TRecord (Kd.C_below HR0.out HB.out) x7_1 p386 q386
      cases e386
      replace p386 := eq_true p386
      replace q386 := eq_true q386
      try go_wp2_with (first | ((with_reducible refine gate_dst (N := 4) rfl ?_); refine bE 4 #[.string (⟨#[]⟩ : ByteArray), .int .i64 0, .int .i64 0, .string (⟨#[]⟩ : ByteArray)] 93 ?_; intro gb387 hg w25 hbox hb; have BK387 := Aside0.mk (hbox); have GE387 := bG hg; replace HB := BS hb; clear hb hbox hg; have hcz26 := cz4 BK387))
      have n0_ : Aside0 (((((w25.setCell ⟨gb387, 0, none⟩ (.string ((rd_TRecord l0 x7_1).f0))).setCell ⟨gb387, 1, none⟩ (.int .i64 ((rd_TRecord l0 x7_1).f1))).setCell ⟨gb387, 2, none⟩ (.int .i64 ((rd_TRecord l0 x7_1).f2))).setCell ⟨gb387, 3, none⟩ (.string ((rd_TRecord l0 x7_1).f3))).heap[gb387]? = some (.cells #[.string ((rd_TRecord l0 x7_1).f0), .int .i64 ((rd_TRecord l0 x7_1).f1), .int .i64 ((rd_TRecord l0 x7_1).f2), .string ((rd_TRecord l0 x7_1).f3)] 93 (0, 0))) := ⟨TS⟩
      have n1_ : Aside0 (Below w.heap.size w ((((w25.setCell ⟨gb387, 0, none⟩ (.string ((rd_TRecord l0 x7_1).f0))).setCell ⟨gb387, 1, none⟩ (.int .i64 ((rd_TRecord l0 x7_1).f1))).setCell ⟨gb387, 2, none⟩ (.int .i64 ((rd_TRecord l0 x7_1).f2))).setCell ⟨gb387, 3, none⟩ (.string ((rd_TRecord l0 x7_1).f3)))) := ⟨TB⟩
      (try clear BK387)
      (try clear HB)
      generalize ((((w25.setCell ⟨gb387, 0, none⟩ (.string ((rd_TRecord l0 x7_1).f0))).setCell ⟨gb387, 1, none⟩ (.int .i64 ((rd_TRecord l0 x7_1).f1))).setCell ⟨gb387, 2, none⟩ (.int .i64 ((rd_TRecord l0 x7_1).f2))).setCell ⟨gb387, 3, none⟩ (.string ((rd_TRecord l0 x7_1).f3))) = w27 at n0_ n1_ ⊢
      have BK387 := n0_
      have HB := n1_
      clear n0_ n1_
      replace BK387 := Aside0.mk (blk_drew BK387.out)
      replace HB := Aside0.mk (below_drew1 HB.out)
      refine start_ (n := 17) (S := fun w' => w'.cell? ⟨gb387, 0, none⟩ = some (.string ((rd_TRecord l0 x7_1).f0)) ∧ w'.cell? ⟨gb387, 1, none⟩ = some (.int .i64 ((rd_TRecord l0 x7_1).f1)) ∧ w'.cell? ⟨gb387, 2, none⟩ = some (.int .i64 ((rd_TRecord l0 x7_1).f2)) ∧ w'.cell? ⟨gb387, 3, none⟩ = some (.string ((rd_TRecord l0 x7_1).f3))) (ds := []) #[false, false, false, false, false, false, false, false, false, false, false, false, false, false, false, false, false] KR rfl rfl ⟨bc 0 BK387, bc 1 BK387, bc 2 BK387, bc 3 BK387⟩ (fun hHeld => ?_); refine with_tabW impl_areRising.tab4 impl_areRising.bits4 (fun HT_ HW_ => ?_)
      generalize w27.drew = w28 at BK387 HB hHeld ⊢
      refine tA 0 12 (mL 17 1) HT_ HW_ hHeld rfl rfl (by rintro w' ⟨s0, s1, s2, s3⟩; go_simp; with_reducible rfl) ?_
      refine one_ (i := 1) (N := some 13) (mL 17 3) rfl rfl (one_of HT_.out KR) (by decide) (fun K hK => ?_)
      refine goes_ Tryz.func162 KR rfl #[.agg #[.string ((rd_TRecord l0 x7_1).f0), .int .i64 ((rd_TRecord l0 x7_1).f1), .int .i64 ((rd_TRecord l0 x7_1).f2), .string ((rd_TRecord l0 x7_1).f3)]] (by rfl) rfl rfl TA ?_
      with_reducible refine (impl_GoodRecord.calls k1 ((rd_TRecord l0 x7_1).f0) ((rd_TRecord l0 x7_1).f1) ((rd_TRecord l0 x7_1).f2) ((rd_TRecord l0 x7_1).f3) true _ ?side1 A5.out).mono ?_
      (case side1 => exact GW HGL)
      rintro e w29 ⟨rfl, hb⟩
      refine ⟨_, rfl, ?_⟩
      replace BK387 := KB BK387 hb
      replace HB := BS hb
      (try clear hb)
      (try clear hb2)
      (try clear hk)
      (try clear hi)
      refine hK.out _ _ ⟨bc 0 BK387, bc 1 BK387, bc 2 BK387, bc 3 BK387⟩ (fun hHeld => ?_)
      clear hK K
      refine nA ?_
      refine pA 2 14 (mL 17 7) HT_ rfl rfl ?_
      refine pA 3 15 (mL 17 15) HT_ rfl rfl ?_
      refine pA 4 16 (mL 17 31) HT_ rfl rfl ?_
      refine pA 5 17 (mL 17 63) HT_ rfl rfl ?_
      refine pA 6 18 (mL 17 127) HT_ rfl rfl ?_
      refine pU 7 19 (mL 17 255) HT_ rfl rfl ?_
      refine pU 8 20 (mL 17 511) HT_ rfl rfl ?_
      refine pU 9 21 (mL 17 1023) HT_ rfl rfl ?_
      refine pU 10 22 (mL 17 2047) HT_ rfl rfl ?_
      refine pU 11 23 (mL 17 4095) HT_ rfl rfl ?_
      refine pU 12 24 (mL 17 8191) HT_ rfl rfl ?_
      refine pU 13 25 (mL 17 16383) HT_ rfl rfl ?_
      refine pU 14 26 (mL 17 32767) HT_ rfl rfl ?_
      refine pA 15 27 (mL 17 65535) HT_ rfl rfl ?_
      refine pA 16 28 (mL 17 131071) HT_ rfl rfl ?_
      refine done_ (done_of HT_.out KR) ?_
      try go_wp2
      go_roundg k1
      case measure => have := HK1.out; omega
      case rel => exact ⟨(wrap64 (x7_1 + 1)), TF, H', ⟨TM⟩, ⟨TB⟩⟩
    ·replace c6 := Bool.eq_false_iff.mpr c6
     subst c6
     replace H := iff' H
     obtain rfl := Option.some.inj H
     have p386 : 0 ≤ (x7_1 : Int) := TD
     have q386 : x7_1 < (l0.length : Int) := TD
     obtain ⟨ad386, e386, hx386_0, hx386_1, hx386_2, hx386_3⟩ := at_TRecord (Kd.C_below HR0.out HB.out) x7_1 p386 q386
     cases e386
     replace p386 := eq_true p386
     replace q386 := eq_true q386
     try go_wp2_with (first | ((with_reducible refine gate_dst (N := 4) rfl ?_); refine bE 4 #[.string (⟨#[]⟩ : ByteArray), .int .i64 0, .int .i64 0, .string (⟨#[]⟩ : ByteArray)] 93 ?_; intro gb387 hg w30 hbox hb; have BK387 := Aside0.mk (hbox); have GE387 := bG hg; replace HB := BS hb; clear hb hbox hg; have hcz31 := cz4 BK387))
     have n0_ : Aside0 (((((w30.setCell ⟨gb387, 0, none⟩ (.string ((rd_TRecord l0 x7_1).f0))).setCell ⟨gb387, 1, none⟩ (.int .i64 ((rd_TRecord l0 x7_1).f1))).setCell ⟨gb387, 2, none⟩ (.int .i64 ((rd_TRecord l0 x7_1).f2))).setCell ⟨gb387, 3, none⟩ (.string ((rd_TRecord l0 x7_1).f3))).heap[gb387]? = some (.cells #[.string ((rd_TRecord l0 x7_1).f0), .int .i64 ((rd_TRecord l0 x7_1).f1), .int .i64 ((rd_TRecord l0 x7_1).f2), .string ((rd_TRecord l0 x7_1).f3)] 93 (0, 0))) := ⟨TS⟩
     have n1_ : Aside0 (Below w.heap.size w ((((w30.setCell ⟨gb387, 0, none⟩ (.string ((rd_TRecord l0 x7_1).f0))).setCell ⟨gb387, 1, none⟩ (.int .i64 ((rd_TRecord l0 x7_1).f1))).setCell ⟨gb387, 2, none⟩ (.int .i64 ((rd_TRecord l0 x7_1).f2))).setCell ⟨gb387, 3, none⟩ (.string ((rd_TRecord l0 x7_1).f3)))) := ⟨TB⟩
     (try clear BK387)
     (try clear HB)
     generalize ((((w30.setCell ⟨gb387, 0, none⟩ (.string ((rd_TRecord l0 x7_1).f0))).setCell ⟨gb387, 1, none⟩ (.int .i64 ((rd_TRecord l0 x7_1).f1))).setCell ⟨gb387, 2, none⟩ (.int .i64 ((rd_TRecord l0 x7_1).f2))).setCell ⟨gb387, 3, none⟩ (.string ((rd_TRecord l0 x7_1).f3))) = w32 at n0_ n1_ ⊢
     have BK387 := n0_
     have HB := n1_
     clear n0_ n1_
     replace BK387 := Aside0.mk (blk_drew BK387.out)
     replace HB := Aside0.mk (below_drew1 HB.out)
     refine start_ (n := 17) (S := fun w' => w'.cell? ⟨gb387, 0, none⟩ = some (.string ((rd_TRecord l0 x7_1).f0)) ∧ w'.cell? ⟨gb387, 1, none⟩ = some (.int .i64 ((rd_TRecord l0 x7_1).f1)) ∧ w'.cell? ⟨gb387, 2, none⟩ = some (.int .i64 ((rd_TRecord l0 x7_1).f2)) ∧ w'.cell? ⟨gb387, 3, none⟩ = some (.string ((rd_TRecord l0 x7_1).f3))) (ds := []) #[false, false, false, false, false, false, false, false, false, false, false, false, false, false, false, false, false] KR rfl rfl ⟨bc 0 BK387, bc 1 BK387, bc 2 BK387, bc 3 BK387⟩ (fun hHeld => ?_); refine with_tabW impl_areRising.tab4 impl_areRising.bits4 (fun HT_ HW_ => ?_)
     generalize w32.drew = w33 at BK387 HB hHeld ⊢
     refine tA 0 12 (mL 17 1) HT_ HW_ hHeld rfl rfl (by rintro w' ⟨s0, s1, s2, s3⟩; go_simp; with_reducible rfl) ?_
     refine one_ (i := 1) (N := some 13) (mL 17 3) rfl rfl (one_of HT_.out KR) (by decide) (fun K hK => ?_)
     refine goes_ Tryz.func162 KR rfl #[.agg #[.string ((rd_TRecord l0 x7_1).f0), .int .i64 ((rd_TRecord l0 x7_1).f1), .int .i64 ((rd_TRecord l0 x7_1).f2), .string ((rd_TRecord l0 x7_1).f3)]] (by rfl) rfl rfl TA ?_
     with_reducible refine (impl_GoodRecord.calls k1 ((rd_TRecord l0 x7_1).f0) ((rd_TRecord l0 x7_1).f1) ((rd_TRecord l0 x7_1).f2) ((rd_TRecord l0 x7_1).f3) false _ ?side1 A5.out).mono ?_
     (case side1 => exact GW HGL)
     rintro e w34 ⟨rfl, hb⟩
     refine ⟨_, rfl, ?_⟩
     replace BK387 := KB BK387 hb
     replace HB := BS hb
     (try clear hb)
     (try clear hb2)
     (try clear hk)
     (try clear hi)
     refine hK.out _ _ ⟨bc 0 BK387, bc 1 BK387, bc 2 BK387, bc 3 BK387⟩ (fun hHeld => ?_)
     clear hK K
     refine nA ?_
     refine pA 2 14 (mL 17 7) HT_ rfl rfl ?_
     refine pA 3 15 (mL 17 15) HT_ rfl rfl ?_
     refine pU 4 16 (mL 17 31) HT_ rfl rfl ?_
     refine pU 5 17 (mL 17 63) HT_ rfl rfl ?_
     refine pU 6 18 (mL 17 127) HT_ rfl rfl ?_
     refine pU 7 19 (mL 17 255) HT_ rfl rfl ?_
     refine pU 8 20 (mL 17 511) HT_ rfl rfl ?_
     refine pU 9 21 (mL 17 1023) HT_ rfl rfl ?_
     refine pU 10 22 (mL 17 2047) HT_ rfl rfl ?_
     refine pU 11 23 (mL 17 4095) HT_ rfl rfl ?_
     refine pU 12 24 (mL 17 8191) HT_ rfl rfl ?_
     refine pU 13 25 (mL 17 16383) HT_ rfl rfl ?_
     refine pU 14 26 (mL 17 32767) HT_ rfl rfl ?_
     refine pU 15 27 (mL 17 65535) HT_ rfl rfl ?_
     refine pA 16 28 (mL 17 131071) HT_ rfl rfl ?_
     refine done_ (done_of HT_.out KR) ?_
     try go_wp2
     go_ret
     exact ⟨TE, TB⟩
   ·rw [if_neg c2] at H
    have c2b0 : decide (x7_1 < (l0.length : Int)) = false := decide_eq_false c2
    clear c2
    obtain rfl := Option.some.inj H
    go_wp2
    go_ret
    exact ⟨TE, TB⟩
end
section
/-! ### impl_isApex: function 203 -/
def impl_isApex.f (k : Nat) (a0 : ByteArray) : Option (Bool) := (impl_GoodName.f k a0).bind fun t607 => (if t607 = true then ((strings_Contains.f a0 (⟨#[42]⟩ : ByteArray)).bind fun t608 => (some (!t608))) else (some false))
theorem impl_isApex.calls (k : Nat) (a0 : ByteArray) (r : Bool) (w : World) (h : impl_isApex.f k a0 = some r) :
  Calls Tryz.prog 203 #[.string a0] w fun e w' => e = .returned (.bool r) ∧ Below w.heap.size w w' := by
 have HB := Aside0.mk (Below.refl w.heap.size w)
 have H : ((impl_GoodName.f k a0).bind fun t607 => (if t607 = true then ((strings_Contains.f a0 (⟨#[42]⟩ : ByteArray)).bind fun t608 => (some (!t608))) else (some false))) = some r := h
 clear h
 obtain ⟨t607, A2, H⟩ := bnd H
 by_cases c3 : t607 = true
 ·subst c3
  replace H := ift H
  obtain ⟨t608, A4, H⟩ := bnd H
  obtain rfl := Option.some.inj H
  go_enter Tryz.func203, Tryz.ntmps203
  go_wp2_with (first | ((with_reducible refine gate_callee (f := 77) rfl ?_); refine goesL_ (some 4) rfl rfl Tryz.func77 KR rfl #[.string a0] rfl TA ?_; (with_reducible refine (impl_GoodName.calls k a0 true _ A2.out).mono ?_); rintro e w5 ⟨rfl, hb⟩; refine ⟨_, rfl, ?_⟩; replace HB := BS hb; (try clear hb); (try clear hb2); (try clear hk); (try clear hi)) | (go_at_call 224; (with_reducible refine (strings_Contains.calls a0 (⟨#[42]⟩ : ByteArray) t608 _ A4.out).mono ?_); rintro e w' ⟨rfl, ⟨nd, rfl⟩⟩))
  go_ret
  exact ⟨TE, TB⟩
 ·replace c3 := Bool.eq_false_iff.mpr c3
  subst c3
  replace H := iff' H
  obtain rfl := Option.some.inj H
  go_enter Tryz.func203, Tryz.ntmps203
  go_wp2_with (first | ((with_reducible refine gate_callee (f := 77) rfl ?_); refine goesL_ (some 4) rfl rfl Tryz.func77 KR rfl #[.string a0] rfl TA ?_; (with_reducible refine (impl_GoodName.calls k a0 false _ A2.out).mono ?_); rintro e w6 ⟨rfl, hb⟩; refine ⟨_, rfl, ?_⟩; replace HB := BS hb; (try clear hb); (try clear hb2); (try clear hk); (try clear hi)))
  go_ret
  exact ⟨TE, TB⟩
end
section
/-! ### impl_isWhole: function 178 -/
def impl_isWhole.f (k : Nat) (a0 : ByteArray) (l1 : List (S_Record)) : Option (Bool) := (impl_isApex.f k a0).bind fun t609 => (if t609 = true then (if (l1.length : Int) ≤ 40 then ((impl_areRising.f k l1).bind fun t610 => (some t610)) else (some false)) else (some false))
theorem impl_isWhole.calls (k : Nat) (a0 : ByteArray) (A1 : Option Addr) (c1 : Nat) (l1 : List (S_Record)) (r : Bool) (w : World) (hr1 : Kd.C k_Record w A1 l1.length l1) (hc1 : l1.length ≤ c1) (hG_ : Glob w) (h : impl_isWhole.f k a0 l1 = some r) :
  Calls Tryz.prog 178 #[.string a0, .slice A1 l1.length c1] w fun e w' => e = .returned (.bool r) ∧ Below w.heap.size w w' := by
 have HR1 := Aside0.mk hr1
 have HC1 := Aside0.mk hc1
 clear hr1 hc1
 have HGL := Aside0.mk hG_
 clear hG_
 have HB := Aside0.mk (Below.refl w.heap.size w)
 have H : ((impl_isApex.f k a0).bind fun t609 => (if t609 = true then (if (l1.length : Int) ≤ 40 then ((impl_areRising.f k l1).bind fun t610 => (some t610)) else (some false)) else (some false))) = some r := h
 clear h
 obtain ⟨t609, A3, H⟩ := bnd H
 by_cases c4 : t609 = true
 ·subst c4
  replace H := ift H
  by_cases c5 : (l1.length : Int) ≤ 40
  ·rw [if_pos c5] at H
   have c5b0 : decide ((l1.length : Int) ≤ 40) = true := decide_eq_true c5
   have c5b1 : decide (l1.length ≤ 40) = true := decide_eq_true (by omega)
   clear c5
   obtain ⟨t610, A6, H⟩ := bnd H
   obtain rfl := Option.some.inj H
   go_enter Tryz.func178, Tryz.ntmps178
   go_wp2_with (first | ((with_reducible refine gate_callee (f := 203) rfl ?_); refine goesL_ (some 6) rfl rfl Tryz.func203 KR rfl #[.string a0] rfl TA ?_; (with_reducible refine (impl_isApex.calls k a0 true _ A3.out).mono ?_); rintro e w7 ⟨rfl, hb⟩; refine ⟨_, rfl, ?_⟩; replace HB := BS hb; (try clear hb); (try clear hb2); (try clear hk); (try clear hi)) | (go_at_call 121; (with_reducible refine (impl_areRising.calls k _ _ l1 t610 _ ?side1 ?side2 ?side3 A6.out).mono ?_); (case side1 => exact CW ((Kd.C_below HR1.out HB.out))); (case side2 => exact HC1.out); (case side3 => exact GW HGL); rintro e w8 ⟨rfl, hb⟩; replace HB := BS hb; (try clear hb); (try clear hb2); (try clear hk); (try clear hi)))
   go_ret
   exact ⟨TE, TB⟩
  ·rw [if_neg c5] at H
   have c5b0 : decide ((l1.length : Int) ≤ 40) = false := decide_eq_false c5
   have c5b1 : decide (l1.length ≤ 40) = false := decide_eq_false (by omega)
   clear c5
   obtain rfl := Option.some.inj H
   go_enter Tryz.func178, Tryz.ntmps178
   go_wp2_with (first | ((with_reducible refine gate_callee (f := 203) rfl ?_); refine goesL_ (some 6) rfl rfl Tryz.func203 KR rfl #[.string a0] rfl TA ?_; (with_reducible refine (impl_isApex.calls k a0 true _ A3.out).mono ?_); rintro e w9 ⟨rfl, hb⟩; refine ⟨_, rfl, ?_⟩; replace HB := BS hb; (try clear hb); (try clear hb2); (try clear hk); (try clear hi)))
   go_ret
   exact ⟨TE, TB⟩
 ·replace c4 := Bool.eq_false_iff.mpr c4
  subst c4
  replace H := iff' H
  obtain rfl := Option.some.inj H
  go_enter Tryz.func178, Tryz.ntmps178
  go_wp2_with (first | ((with_reducible refine gate_callee (f := 203) rfl ?_); refine goesL_ (some 6) rfl rfl Tryz.func203 KR rfl #[.string a0] rfl TA ?_; (with_reducible refine (impl_isApex.calls k a0 false _ A3.out).mono ?_); rintro e w10 ⟨rfl, hb⟩; refine ⟨_, rfl, ?_⟩; replace HB := BS hb; (try clear hb); (try clear hb2); (try clear hk); (try clear hi)))
  go_ret
  exact ⟨TE, TB⟩
end
section
theorem eqARecord (d : Nat) (w : World) (x0 y0 : ByteArray) (x1 y1 : Int) (x2 y2 : Int) (x3 y3 : ByteArray) :
  (Op.equalIn (d + 2) 93 (.agg #[.string x0, .int .i64 x1, .int .i64 x2, .string x3]) (.agg #[.string y0, .int .i64 y1, .int .i64 y2, .string y3])).run Tryz.prog w = .ok (x0.toList == y0.toList && (x1 == y1 && (x2 == y2 && (x3.toList == y3.toList)))) w := by
 refine eqA_of Tryz.underlying93 KR ?_
 refine eqf_cons (by rfl) (by go_simp; rfl) (by go_simp; rfl) (by go_simp) ?_
 refine eqf_cons (by rfl) (by go_simp; rfl) (by go_simp; rfl) (by go_simp) ?_
 refine eqf_cons (by rfl) (by go_simp; rfl) (by go_simp; rfl) (by go_simp) ?_
 exact eqf_last (by rfl) (by go_simp; rfl) (by go_simp; rfl) (by go_simp)
end
section
attribute [local go_sem high] eqARecord
/-! ### impl_breaks_1: function 204 -/
def impl_breaks_1.f (a0_0 : ByteArray) (a0_1 : Int) (a0_2 : Int) (a0_3 : ByteArray) (a1_0 : ByteArray) (a1_1 : Int) (a1_2 : Int) (a1_3 : ByteArray) : Option (Bool) := if a0_2 = a1_2 then (if a0_3.toList = a1_3.toList then (some (!(a0_0.toList == a1_0.toList) || (!(a0_1 == a1_1) || (!(a0_2 == a1_2) || (!(a0_3.toList == a1_3.toList)))))) else (some false)) else (some true)
theorem impl_breaks_1.calls (a0_0 : ByteArray) (a0_1 : Int) (a0_2 : Int) (a0_3 : ByteArray) (g1_ : Nat) (a1_0 : ByteArray) (a1_1 : Int) (a1_2 : Int) (a1_3 : ByteArray) (r : Bool) (w : World) (hkg1_ : w.heap[g1_]? = some (.cells #[.string a1_0, .int .i64 a1_1, .int .i64 a1_2, .string a1_3] 93 (0, 0))) (h : impl_breaks_1.f a0_0 a0_1 a0_2 a0_3 a1_0 a1_1 a1_2 a1_3 = some r) :
  Calls Tryz.prog 204 #[.agg #[.string a0_0, .int .i64 a0_1, .int .i64 a0_2, .string a0_3], .pointer (some ⟨g1_, 0, none⟩)] w fun e w' => e = .returned (.bool r) ∧ Below w.heap.size w w' := by
 have hu93 := Tryz.underlying93
 have BKrg1_ := Aside0.mk hkg1_
 clear hkg1_
 have HB := Aside0.mk (Below.refl w.heap.size w)
 have H : (if a0_2 = a1_2 then (if a0_3.toList = a1_3.toList then (some (!(a0_0.toList == a1_0.toList) || (!(a0_1 == a1_1) || (!(a0_2 == a1_2) || (!(a0_3.toList == a1_3.toList)))))) else (some false)) else (some true)) = some r := h
 clear h
 by_cases c3 : a0_2 = a1_2
 ·rw [if_pos c3] at H
  have c3b0 : (a0_2 == a1_2) = true := beq_iff_eq.mpr c3
  have c3b1 : (a0_2 != a1_2) = false := bne_eq_false_iff_eq.mpr c3
  clear c3
  by_cases c4 : a0_3.toList = a1_3.toList
  ·rw [if_pos c4] at H
   have c4b0 : (a0_3.toList == a1_3.toList) = true := beq_iff_eq.mpr c4
   have c4b1 : (a0_3.toList != a1_3.toList) = false := bne_eq_false_iff_eq.mpr c4
   clear c4
   obtain rfl := Option.some.inj H
   go_enter Tryz.func204, Tryz.ntmps204
   go_wp2_with (first | ((with_reducible refine gate_dst (N := 2) rfl ?_); refine bE 2 #[.string a0_0, .int .i64 a0_1, .int .i64 a0_2, .string a0_3] 93 ?_; intro gb624 hg w5 hbox hb; have BK624 := Aside0.mk (hbox); have GE624 := bG hg; replace HB := BS hb; have NB1_624 := bN BKrg1_ hg; have NB624_1 := bM BKrg1_ hg; replace BKrg1_ := KB BKrg1_ hb; clear hb hbox hg; have hnb6 := NB624_1.out; have hnc6 := NB1_624.out; have hcz7 := cz4 BK624; have hcz8 := cz4 BKrg1_))
   go_ret
   exact ⟨TE, TB⟩
  ·rw [if_neg c4] at H
   have c4b0 : (a0_3.toList == a1_3.toList) = false := beq_eq_false_iff_ne.mpr c4
   have c4b1 : (a0_3.toList != a1_3.toList) = true := bne_iff_ne.mpr c4
   obtain rfl := Option.some.inj H
   go_enter Tryz.func204, Tryz.ntmps204
   go_wp2_with (first | ((with_reducible refine gate_dst (N := 2) rfl ?_); refine bE 2 #[.string a0_0, .int .i64 a0_1, .int .i64 a0_2, .string a0_3] 93 ?_; intro gb624 hg w9 hbox hb; have BK624 := Aside0.mk (hbox); have GE624 := bG hg; replace HB := BS hb; have NB1_624 := bN BKrg1_ hg; have NB624_1 := bM BKrg1_ hg; replace BKrg1_ := KB BKrg1_ hb; clear hb hbox hg; have hnb10 := NB624_1.out; have hnc10 := NB1_624.out; have hcz11 := cz4 BK624; have hcz12 := cz4 BKrg1_))
   go_ret
   exact ⟨TE, TB⟩
 ·rw [if_neg c3] at H
  have c3b0 : (a0_2 == a1_2) = false := beq_eq_false_iff_ne.mpr c3
  have c3b1 : (a0_2 != a1_2) = true := bne_iff_ne.mpr c3
  obtain rfl := Option.some.inj H
  go_enter Tryz.func204, Tryz.ntmps204
  go_wp2_with (first | ((with_reducible refine gate_dst (N := 2) rfl ?_); refine bE 2 #[.string a0_0, .int .i64 a0_1, .int .i64 a0_2, .string a0_3] 93 ?_; intro gb624 hg w13 hbox hb; have BK624 := Aside0.mk (hbox); have GE624 := bG hg; replace HB := BS hb; have NB1_624 := bN BKrg1_ hg; have NB624_1 := bM BKrg1_ hg; replace BKrg1_ := KB BKrg1_ hb; clear hb hbox hg; have hnb14 := NB624_1.out; have hnc14 := NB1_624.out; have hcz15 := cz4 BK624; have hcz16 := cz4 BKrg1_))
  go_ret
  exact ⟨TE, TB⟩
end
section
/-! ### slices_IndexFunc_impl_Record_impl_Record_breaks_1: function 122 -/
def slices_IndexFunc_impl_Record_impl_Record_breaks_1.l0 : Nat → List (S_Record) → Int → Int → ByteArray → Int → Int → ByteArray → Option (Int)
 | 0, _, _, _, _, _, _, _ => none
 | k + 1, x0, x7, x8, x59000, x59001, x59002, x59003 => if x8 < x7 then (if 0 ≤ x8 then (if x8 < (x0.length : Int) then ((impl_breaks_1.f ((rd_TRecord x0 x8).f0) ((rd_TRecord x0 x8).f1) ((rd_TRecord x0 x8).f2) ((rd_TRecord x0 x8).f3) x59000 x59001 x59002 x59003).bind fun t626 => (if t626 = true then (some x8) else (slices_IndexFunc_impl_Record_impl_Record_breaks_1.l0 k x0 x7 (wrap64 (x8 + 1)) x59000 x59001 x59002 x59003))) else (none)) else (none)) else (some (-1))
def slices_IndexFunc_impl_Record_impl_Record_breaks_1.f (k : Nat) (l0 : List (S_Record)) (a1_0 : ByteArray) (a1_1 : Int) (a1_2 : Int) (a1_3 : ByteArray) : Option (Int) := slices_IndexFunc_impl_Record_impl_Record_breaks_1.l0 k l0 (l0.length : Int) 0 a1_0 a1_1 a1_2 a1_3
theorem slices_IndexFunc_impl_Record_impl_Record_breaks_1.calls (k : Nat) (A0 : Option Addr) (c0 : Nat) (l0 : List (S_Record)) (g1_0_ : Nat) (a1_0 : ByteArray) (a1_1 : Int) (a1_2 : Int) (a1_3 : ByteArray) (r : Int) (w : World) (hr0 : Kd.C k_Record w A0 l0.length l0) (hc0 : l0.length ≤ c0) (hkg1_0_ : w.heap[g1_0_]? = some (.cells #[.string a1_0, .int .i64 a1_1, .int .i64 a1_2, .string a1_3] 93 (0, 0))) (h : slices_IndexFunc_impl_Record_impl_Record_breaks_1.f k l0 a1_0 a1_1 a1_2 a1_3 = some r) :
  Calls Tryz.prog 122 #[.slice A0 l0.length c0, .func (.func 204) #[] #[.pointer (some ⟨g1_0_, 0, none⟩)]] w fun e w' => e = .returned (.int .i64 r) ∧ Below w.heap.size w w' := by
 have hu93 := Tryz.underlying93
 have HR0 := Aside0.mk hr0
 have HC0 := Aside0.mk hc0
 clear hr0 hc0
 have BKrg1_0_ := Aside0.mk hkg1_0_
 clear hkg1_0_
 have HB := Aside0.mk (Below.refl w.heap.size w)
 have H : (slices_IndexFunc_impl_Record_impl_Record_breaks_1.l0 k l0 (l0.length : Int) 0 a1_0 a1_1 a1_2 a1_3) = some r := h
 clear h
 have H' := Aside0.mk H
 clear H
 go_enter Tryz.func122, Tryz.ntmps122
 go_wp2
 go_loopg [8] k (fun kq v8 w' => ∃ (x8_1 : Int), v8 = .int .i64 x8_1 ∧ Aside0 (slices_IndexFunc_impl_Record_impl_Record_breaks_1.l0 kq l0 (l0.length : Int) x8_1 a1_0 a1_1 a1_2 a1_3 = some r) ∧ Aside0 (kq ≤ k) ∧ Aside0 (w'.heap[g1_0_]? = some (.cells #[.string a1_0, .int .i64 a1_1, .int .i64 a1_2, .string a1_3] 93 (0, 0))) ∧ Aside0 (Below w.heap.size w w'))
 case atStart => exact ⟨(0), TF, H', ⟨Nat.le_refl _⟩, KW BKrg1_0_, ⟨TB⟩⟩
 case round =>
  clear H'
  try clear c1
  try clear p2
  obtain ⟨x8_1, rfl, HA, HK1, BKrg1_0_, HB⟩ := hrel
  cases gk with
  | zero => exact absurd HA.out (by simp [slices_IndexFunc_impl_Record_impl_Record_breaks_1.l0])
  | succ k1 =>
   have H := HA.out
   clear HA
   simp only [slices_IndexFunc_impl_Record_impl_Record_breaks_1.l0] at H
   by_cases c3 : x8_1 < (l0.length : Int)
   ·rw [if_pos c3] at H
    have c3b0 : decide (x8_1 < (l0.length : Int)) = true := decide_eq_true c3
    clear c3
    obtain ⟨c4, H⟩ := ifn H
    have c4b0 : decide (0 ≤ x8_1) = true := decide_eq_true c4
    clear c4
    obtain ⟨c5, H⟩ := ifn H
    have c5b0 : decide (x8_1 < (l0.length : Int)) = true := decide_eq_true c5
    clear c5
    obtain ⟨t626, A6, H⟩ := bnd H
    by_cases c7 : t626 = true
    ·subst c7
     replace H := ift H
     obtain rfl := Option.some.inj H
     have p625 : 0 ≤ (x8_1 : Int) := TD
     have q625 : x8_1 < (l0.length : Int) := TD
     obtain ⟨ad625, e625, hx625_0, hx625_1, hx625_2, hx625_3⟩ := at_TRecord (Kd.C_below HR0.out HB.out) x8_1 p625 q625
     cases e625
     replace p625 := eq_true p625
     replace q625 := eq_true q625
     go_wp2_with (first | (go_at_call 204; (with_reducible refine (impl_breaks_1.calls ((rd_TRecord l0 x8_1).f0) ((rd_TRecord l0 x8_1).f1) ((rd_TRecord l0 x8_1).f2) ((rd_TRecord l0 x8_1).f3) g1_0_ a1_0 a1_1 a1_2 a1_3 true _ ?side1 A6.out).mono ?_); (case side1 => exact (KW BKrg1_0_).out); rintro e w8 ⟨rfl, hb⟩; replace BKrg1_0_ := KB BKrg1_0_ hb; replace HB := BS hb; (try clear hb); (try clear hb2); (try clear hk); (try clear hi)))
     go_ret
     exact ⟨TE, TB⟩
    ·replace c7 := Bool.eq_false_iff.mpr c7
     subst c7
     replace H := iff' H
     have H' := Aside0.mk H
     clear H
     have p625 : 0 ≤ (x8_1 : Int) := TD
     have q625 : x8_1 < (l0.length : Int) := TD
     obtain ⟨ad625, e625, hx625_0, hx625_1, hx625_2, hx625_3⟩ := at_TRecord (Kd.C_below HR0.out HB.out) x8_1 p625 q625
     cases e625
     replace p625 := eq_true p625
     replace q625 := eq_true q625
     go_wp2_with (first | (go_at_call 204; (with_reducible refine (impl_breaks_1.calls ((rd_TRecord l0 x8_1).f0) ((rd_TRecord l0 x8_1).f1) ((rd_TRecord l0 x8_1).f2) ((rd_TRecord l0 x8_1).f3) g1_0_ a1_0 a1_1 a1_2 a1_3 false _ ?side1 A6.out).mono ?_); (case side1 => exact (KW BKrg1_0_).out); rintro e w9 ⟨rfl, hb⟩; replace BKrg1_0_ := KB BKrg1_0_ hb; replace HB := BS hb; (try clear hb); (try clear hb2); (try clear hk); (try clear hi)))
     go_roundg k1
     case measure => have := HK1.out; omega
     case rel => exact ⟨(wrap64 (x8_1 + 1)), TF, H', ⟨TM⟩, KW BKrg1_0_, ⟨TB⟩⟩
   ·rw [if_neg c3] at H
    have c3b0 : decide (x8_1 < (l0.length : Int)) = false := decide_eq_false c3
    clear c3
    obtain rfl := Option.some.inj H
    go_wp2
    go_ret
    exact ⟨TE, TB⟩
end
section
/-! ### slices_ContainsFunc_impl_Record_impl_Record_breaks_1: function 66 -/
def slices_ContainsFunc_impl_Record_impl_Record_breaks_1.f (k : Nat) (l0 : List (S_Record)) (a1_0 : ByteArray) (a1_1 : Int) (a1_2 : Int) (a1_3 : ByteArray) : Option (Bool) := (slices_IndexFunc_impl_Record_impl_Record_breaks_1.f k l0 a1_0 a1_1 a1_2 a1_3).bind fun t627 => (some (decide (t627 ≥ 0)))
theorem slices_ContainsFunc_impl_Record_impl_Record_breaks_1.calls (k : Nat) (A0 : Option Addr) (c0 : Nat) (l0 : List (S_Record)) (g1_0_ : Nat) (a1_0 : ByteArray) (a1_1 : Int) (a1_2 : Int) (a1_3 : ByteArray) (r : Bool) (w : World) (hr0 : Kd.C k_Record w A0 l0.length l0) (hc0 : l0.length ≤ c0) (hkg1_0_ : w.heap[g1_0_]? = some (.cells #[.string a1_0, .int .i64 a1_1, .int .i64 a1_2, .string a1_3] 93 (0, 0))) (h : slices_ContainsFunc_impl_Record_impl_Record_breaks_1.f k l0 a1_0 a1_1 a1_2 a1_3 = some r) :
  Calls Tryz.prog 66 #[.slice A0 l0.length c0, .func (.func 204) #[] #[.pointer (some ⟨g1_0_, 0, none⟩)]] w fun e w' => e = .returned (.bool r) ∧ Below w.heap.size w w' := by
 have HR0 := Aside0.mk hr0
 have HC0 := Aside0.mk hc0
 clear hr0 hc0
 have BKrg1_0_ := Aside0.mk hkg1_0_
 clear hkg1_0_
 have HB := Aside0.mk (Below.refl w.heap.size w)
 have H : ((slices_IndexFunc_impl_Record_impl_Record_breaks_1.f k l0 a1_0 a1_1 a1_2 a1_3).bind fun t627 => (some (decide (t627 ≥ 0)))) = some r := h
 clear h
 obtain ⟨t627, A3, H⟩ := bnd H
 obtain rfl := Option.some.inj H
 go_enter Tryz.func66, Tryz.ntmps66
 go_wp2_with (first | ((with_reducible refine gate_callee (f := 122) rfl ?_); refine goesL_ (some 7) rfl rfl Tryz.func122 KR rfl #[.slice A0 l0.length c0, .func (.func 204) #[] #[.pointer (some ⟨g1_0_, 0, none⟩)]] rfl TA ?_; (with_reducible refine (slices_IndexFunc_impl_Record_impl_Record_breaks_1.calls k _ _ l0 g1_0_ a1_0 a1_1 a1_2 a1_3 t627 _ ?side1 ?side2 ?side3 A3.out).mono ?_); (case side1 => exact CW (HR0.out)); (case side2 => exact HC0.out); (case side3 => exact (KW BKrg1_0_).out); rintro e w4 ⟨rfl, hb⟩; refine ⟨_, rfl, ?_⟩; replace BKrg1_0_ := KB BKrg1_0_ hb; replace HB := BS hb; (try clear hb); (try clear hb2); (try clear hk); (try clear hi)))
 go_ret
 exact ⟨TE, TB⟩
end
section
/-! ### impl_breaks_2: function 205 -/
def impl_breaks_2.f (a0_0 : ByteArray) (a0_1 : Int) (a0_2 : Int) (a0_3 : ByteArray) (a1_0 : ByteArray) (a2_0 : ByteArray) (a2_1 : Int) (a2_2 : Int) (a2_3 : ByteArray) : Option (Bool) := if a0_1 = 2 then (if a0_0.toList = a1_0.toList then (some false) else ((impl_isBelow.f a2_0 a0_0).bind fun t629 => (if t629 = true then (if a2_1 = 1 then (some false) else (if a2_1 = 2 then (some (!(a2_0.toList == a0_0.toList))) else (some (!false)))) else (some false)))) else (some false)
theorem impl_breaks_2.calls (a0_0 : ByteArray) (a0_1 : Int) (a0_2 : Int) (a0_3 : ByteArray) (g1_ : Nat) (a1_0 : ByteArray) (g2_ : Nat) (a2_0 : ByteArray) (a2_1 : Int) (a2_2 : Int) (a2_3 : ByteArray) (r : Bool) (w : World) (hkg1_ : w.heap[g1_]? = some (.cells #[.string a1_0] 9 (0, 0))) (hkg2_ : w.heap[g2_]? = some (.cells #[.string a2_0, .int .i64 a2_1, .int .i64 a2_2, .string a2_3] 93 (0, 0))) (h : impl_breaks_2.f a0_0 a0_1 a0_2 a0_3 a1_0 a2_0 a2_1 a2_2 a2_3 = some r) :
  Calls Tryz.prog 205 #[.agg #[.string a0_0, .int .i64 a0_1, .int .i64 a0_2, .string a0_3], .pointer (some ⟨g1_, 0, none⟩), .pointer (some ⟨g2_, 0, none⟩)] w fun e w' => e = .returned (.bool r) ∧ Below w.heap.size w w' := by
 have hu93 := Tryz.underlying93
 have BKrg1_ := Aside0.mk hkg1_
 clear hkg1_
 have BKrg2_ := Aside0.mk hkg2_
 clear hkg2_
 have HB := Aside0.mk (Below.refl w.heap.size w)
 have H : (if a0_1 = 2 then (if a0_0.toList = a1_0.toList then (some false) else ((impl_isBelow.f a2_0 a0_0).bind fun t629 => (if t629 = true then (if a2_1 = 1 then (some false) else (if a2_1 = 2 then (some (!(a2_0.toList == a0_0.toList))) else (some (!false)))) else (some false)))) else (some false)) = some r := h
 clear h
 by_cases c4 : a0_1 = 2
 ·rw [if_pos c4] at H
  have c4b0 : (a0_1 == 2) = true := beq_iff_eq.mpr c4
  have c4b1 : (a0_1 != 2) = false := bne_eq_false_iff_eq.mpr c4
  clear c4
  by_cases c5 : a0_0.toList = a1_0.toList
  ·rw [if_pos c5] at H
   have c5b0 : (a0_0.toList == a1_0.toList) = true := beq_iff_eq.mpr c5
   have c5b1 : (a0_0.toList != a1_0.toList) = false := bne_eq_false_iff_eq.mpr c5
   clear c5
   obtain rfl := Option.some.inj H
   go_enter Tryz.func205, Tryz.ntmps205
   go_wp2_with (first | ((with_reducible refine gate_dst (N := 3) rfl ?_); refine bE 3 #[.string a0_0, .int .i64 a0_1, .int .i64 a0_2, .string a0_3] 93 ?_; intro gb628 hg w6 hbox hb; have BK628 := Aside0.mk (hbox); have GE628 := bG hg; replace HB := BS hb; have NB1_628 := bN BKrg1_ hg; have NB628_1 := bM BKrg1_ hg; replace BKrg1_ := KB BKrg1_ hb; have NB2_628 := bN BKrg2_ hg; have NB628_2 := bM BKrg2_ hg; replace BKrg2_ := KB BKrg2_ hb; clear hb hbox hg; have hnb7 := NB628_1.out; have hnc7 := NB1_628.out; have hnb8 := NB628_2.out; have hnc8 := NB2_628.out; have hcz9 := cz4 BK628; have hcz10 := cz1 BKrg1_))
   go_ret
   exact ⟨TE, TB⟩
  ·rw [if_neg c5] at H
   have c5b0 : (a0_0.toList == a1_0.toList) = false := beq_eq_false_iff_ne.mpr c5
   have c5b1 : (a0_0.toList != a1_0.toList) = true := bne_iff_ne.mpr c5
   obtain ⟨t629, A11, H⟩ := bnd H
   by_cases c12 : t629 = true
   ·subst c12
    replace H := ift H
    by_cases c13 : a2_1 = 1
    ·rw [if_pos c13] at H
     have c13b0 : (a2_1 == 1) = true := beq_iff_eq.mpr c13
     have c13b1 : (a2_1 != 1) = false := bne_eq_false_iff_eq.mpr c13
     clear c13
     obtain rfl := Option.some.inj H
     go_enter Tryz.func205, Tryz.ntmps205
     go_wp2_with (first | ((with_reducible refine gate_dst (N := 3) rfl ?_); refine bE 3 #[.string a0_0, .int .i64 a0_1, .int .i64 a0_2, .string a0_3] 93 ?_; intro gb628 hg w14 hbox hb; have BK628 := Aside0.mk (hbox); have GE628 := bG hg; replace HB := BS hb; have NB1_628 := bN BKrg1_ hg; have NB628_1 := bM BKrg1_ hg; replace BKrg1_ := KB BKrg1_ hb; have NB2_628 := bN BKrg2_ hg; have NB628_2 := bM BKrg2_ hg; replace BKrg2_ := KB BKrg2_ hb; clear hb hbox hg; have hnb15 := NB628_1.out; have hnc15 := NB1_628.out; have hnb16 := NB628_2.out; have hnc16 := NB2_628.out; have hcz17 := cz4 BK628; have hcz18 := cz1 BKrg1_; have hcz19 := cz4 BKrg2_) | (go_at_call 110; (with_reducible refine (impl_isBelow.calls a2_0 a0_0 true _ A11.out).mono ?_); rintro e w' ⟨rfl, ⟨nd, rfl⟩⟩))
     go_ret
     exact ⟨TE, TB⟩
    ·rw [if_neg c13] at H
     have c13b0 : (a2_1 == 1) = false := beq_eq_false_iff_ne.mpr c13
     have c13b1 : (a2_1 != 1) = true := bne_iff_ne.mpr c13
     by_cases c20 : a2_1 = 2
     ·rw [if_pos c20] at H
      have c20b0 : (a2_1 == 2) = true := beq_iff_eq.mpr c20
      have c20b1 : (a2_1 != 2) = false := bne_eq_false_iff_eq.mpr c20
      clear c20
      obtain rfl := Option.some.inj H
      go_enter Tryz.func205, Tryz.ntmps205
      go_wp2_with (first | ((with_reducible refine gate_dst (N := 3) rfl ?_); refine bE 3 #[.string a0_0, .int .i64 a0_1, .int .i64 a0_2, .string a0_3] 93 ?_; intro gb628 hg w21 hbox hb; have BK628 := Aside0.mk (hbox); have GE628 := bG hg; replace HB := BS hb; have NB1_628 := bN BKrg1_ hg; have NB628_1 := bM BKrg1_ hg; replace BKrg1_ := KB BKrg1_ hb; have NB2_628 := bN BKrg2_ hg; have NB628_2 := bM BKrg2_ hg; replace BKrg2_ := KB BKrg2_ hb; clear hb hbox hg; have hnb22 := NB628_1.out; have hnc22 := NB1_628.out; have hnb23 := NB628_2.out; have hnc23 := NB2_628.out; have hcz24 := cz4 BK628; have hcz25 := cz1 BKrg1_; have hcz26 := cz4 BKrg2_) | (go_at_call 110; (with_reducible refine (impl_isBelow.calls a2_0 a0_0 true _ A11.out).mono ?_); rintro e w' ⟨rfl, ⟨nd, rfl⟩⟩))
      go_ret
      exact ⟨TE, TB⟩
     ·rw [if_neg c20] at H
      have c20b0 : (a2_1 == 2) = false := beq_eq_false_iff_ne.mpr c20
      have c20b1 : (a2_1 != 2) = true := bne_iff_ne.mpr c20
      obtain rfl := Option.some.inj H
      go_enter Tryz.func205, Tryz.ntmps205
      go_wp2_with (first | ((with_reducible refine gate_dst (N := 3) rfl ?_); refine bE 3 #[.string a0_0, .int .i64 a0_1, .int .i64 a0_2, .string a0_3] 93 ?_; intro gb628 hg w27 hbox hb; have BK628 := Aside0.mk (hbox); have GE628 := bG hg; replace HB := BS hb; have NB1_628 := bN BKrg1_ hg; have NB628_1 := bM BKrg1_ hg; replace BKrg1_ := KB BKrg1_ hb; have NB2_628 := bN BKrg2_ hg; have NB628_2 := bM BKrg2_ hg; replace BKrg2_ := KB BKrg2_ hb; clear hb hbox hg; have hnb28 := NB628_1.out; have hnc28 := NB1_628.out; have hnb29 := NB628_2.out; have hnc29 := NB2_628.out; have hcz30 := cz4 BK628; have hcz31 := cz1 BKrg1_; have hcz32 := cz4 BKrg2_) | (go_at_call 110; (with_reducible refine (impl_isBelow.calls a2_0 a0_0 true _ A11.out).mono ?_); rintro e w' ⟨rfl, ⟨nd, rfl⟩⟩))
      go_ret
      exact ⟨TE, TB⟩
   ·replace c12 := Bool.eq_false_iff.mpr c12
    subst c12
    replace H := iff' H
    obtain rfl := Option.some.inj H
    go_enter Tryz.func205, Tryz.ntmps205
    go_wp2_with (first | ((with_reducible refine gate_dst (N := 3) rfl ?_); refine bE 3 #[.string a0_0, .int .i64 a0_1, .int .i64 a0_2, .string a0_3] 93 ?_; intro gb628 hg w33 hbox hb; have BK628 := Aside0.mk (hbox); have GE628 := bG hg; replace HB := BS hb; have NB1_628 := bN BKrg1_ hg; have NB628_1 := bM BKrg1_ hg; replace BKrg1_ := KB BKrg1_ hb; have NB2_628 := bN BKrg2_ hg; have NB628_2 := bM BKrg2_ hg; replace BKrg2_ := KB BKrg2_ hb; clear hb hbox hg; have hnb34 := NB628_1.out; have hnc34 := NB1_628.out; have hnb35 := NB628_2.out; have hnc35 := NB2_628.out; have hcz36 := cz4 BK628; have hcz37 := cz1 BKrg1_; have hcz38 := cz4 BKrg2_) | (go_at_call 110; (with_reducible refine (impl_isBelow.calls a2_0 a0_0 false _ A11.out).mono ?_); rintro e w' ⟨rfl, ⟨nd, rfl⟩⟩))
    go_ret
    exact ⟨TE, TB⟩
 ·rw [if_neg c4] at H
  have c4b0 : (a0_1 == 2) = false := beq_eq_false_iff_ne.mpr c4
  have c4b1 : (a0_1 != 2) = true := bne_iff_ne.mpr c4
  obtain rfl := Option.some.inj H
  go_enter Tryz.func205, Tryz.ntmps205
  go_wp2_with (first | ((with_reducible refine gate_dst (N := 3) rfl ?_); refine bE 3 #[.string a0_0, .int .i64 a0_1, .int .i64 a0_2, .string a0_3] 93 ?_; intro gb628 hg w39 hbox hb; have BK628 := Aside0.mk (hbox); have GE628 := bG hg; replace HB := BS hb; have NB1_628 := bN BKrg1_ hg; have NB628_1 := bM BKrg1_ hg; replace BKrg1_ := KB BKrg1_ hb; have NB2_628 := bN BKrg2_ hg; have NB628_2 := bM BKrg2_ hg; replace BKrg2_ := KB BKrg2_ hb; clear hb hbox hg; have hnb40 := NB628_1.out; have hnc40 := NB1_628.out; have hnb41 := NB628_2.out; have hnc41 := NB2_628.out; have hcz42 := cz4 BK628))
  go_ret
  exact ⟨TE, TB⟩
end
section
/-! ### slices_IndexFunc_impl_Record_impl_Record_breaks_2: function 122 -/
def slices_IndexFunc_impl_Record_impl_Record_breaks_2.l0 : Nat → List (S_Record) → Int → Int → ByteArray → ByteArray → Int → Int → ByteArray → Option (Int)
 | 0, _, _, _, _, _, _, _, _ => none
 | k + 1, x0, x7, x8, x59000, x60000, x60001, x60002, x60003 => if x8 < x7 then (if 0 ≤ x8 then (if x8 < (x0.length : Int) then ((impl_breaks_2.f ((rd_TRecord x0 x8).f0) ((rd_TRecord x0 x8).f1) ((rd_TRecord x0 x8).f2) ((rd_TRecord x0 x8).f3) x59000 x60000 x60001 x60002 x60003).bind fun t631 => (if t631 = true then (some x8) else (slices_IndexFunc_impl_Record_impl_Record_breaks_2.l0 k x0 x7 (wrap64 (x8 + 1)) x59000 x60000 x60001 x60002 x60003))) else (none)) else (none)) else (some (-1))
def slices_IndexFunc_impl_Record_impl_Record_breaks_2.f (k : Nat) (l0 : List (S_Record)) (a1_0 : ByteArray) (a1_1 : ByteArray) (a1_2 : Int) (a1_3 : Int) (a1_4 : ByteArray) : Option (Int) := slices_IndexFunc_impl_Record_impl_Record_breaks_2.l0 k l0 (l0.length : Int) 0 a1_0 a1_1 a1_2 a1_3 a1_4
theorem slices_IndexFunc_impl_Record_impl_Record_breaks_2.calls (k : Nat) (A0 : Option Addr) (c0 : Nat) (l0 : List (S_Record)) (g1_0_ g1_1_ : Nat) (a1_0 : ByteArray) (a1_1 : ByteArray) (a1_2 : Int) (a1_3 : Int) (a1_4 : ByteArray) (r : Int) (w : World) (hr0 : Kd.C k_Record w A0 l0.length l0) (hc0 : l0.length ≤ c0) (hkg1_0_ : w.heap[g1_0_]? = some (.cells #[.string a1_0] 9 (0, 0))) (hkg1_1_ : w.heap[g1_1_]? = some (.cells #[.string a1_1, .int .i64 a1_2, .int .i64 a1_3, .string a1_4] 93 (0, 0))) (h : slices_IndexFunc_impl_Record_impl_Record_breaks_2.f k l0 a1_0 a1_1 a1_2 a1_3 a1_4 = some r) :
  Calls Tryz.prog 122 #[.slice A0 l0.length c0, .func (.func 205) #[] #[.pointer (some ⟨g1_0_, 0, none⟩), .pointer (some ⟨g1_1_, 0, none⟩)]] w fun e w' => e = .returned (.int .i64 r) ∧ Below w.heap.size w w' := by
 have hu93 := Tryz.underlying93
 have HR0 := Aside0.mk hr0
 have HC0 := Aside0.mk hc0
 clear hr0 hc0
 have BKrg1_0_ := Aside0.mk hkg1_0_
 clear hkg1_0_
 have BKrg1_1_ := Aside0.mk hkg1_1_
 clear hkg1_1_
 have HB := Aside0.mk (Below.refl w.heap.size w)
 have H : (slices_IndexFunc_impl_Record_impl_Record_breaks_2.l0 k l0 (l0.length : Int) 0 a1_0 a1_1 a1_2 a1_3 a1_4) = some r := h
 clear h
 have H' := Aside0.mk H
 clear H
 go_enter Tryz.func122, Tryz.ntmps122
 go_wp2
 go_loopg [8] k (fun kq v8 w' => ∃ (x8_1 : Int), v8 = .int .i64 x8_1 ∧ Aside0 (slices_IndexFunc_impl_Record_impl_Record_breaks_2.l0 kq l0 (l0.length : Int) x8_1 a1_0 a1_1 a1_2 a1_3 a1_4 = some r) ∧ Aside0 (kq ≤ k) ∧ Aside0 (w'.heap[g1_0_]? = some (.cells #[.string a1_0] 9 (0, 0))) ∧ Aside0 (w'.heap[g1_1_]? = some (.cells #[.string a1_1, .int .i64 a1_2, .int .i64 a1_3, .string a1_4] 93 (0, 0))) ∧ Aside0 (Below w.heap.size w w'))
 case atStart => exact ⟨(0), TF, H', ⟨Nat.le_refl _⟩, KW BKrg1_0_, KW BKrg1_1_, ⟨TB⟩⟩
 case round =>
  clear H'
  try clear c1
  try clear p2
  obtain ⟨x8_1, rfl, HA, HK1, BKrg1_0_, BKrg1_1_, HB⟩ := hrel
  cases gk with
  | zero => exact absurd HA.out (by simp [slices_IndexFunc_impl_Record_impl_Record_breaks_2.l0])
  | succ k1 =>
   have H := HA.out
   clear HA
   simp only [slices_IndexFunc_impl_Record_impl_Record_breaks_2.l0] at H
   by_cases c3 : x8_1 < (l0.length : Int)
   ·rw [if_pos c3] at H
    have c3b0 : decide (x8_1 < (l0.length : Int)) = true := decide_eq_true c3
    clear c3
    obtain ⟨c4, H⟩ := ifn H
    have c4b0 : decide (0 ≤ x8_1) = true := decide_eq_true c4
    clear c4
    obtain ⟨c5, H⟩ := ifn H
    have c5b0 : decide (x8_1 < (l0.length : Int)) = true := decide_eq_true c5
    clear c5
    obtain ⟨t631, A6, H⟩ := bnd H
    by_cases c7 : t631 = true
    ·subst c7
     replace H := ift H
     obtain rfl := Option.some.inj H
     have p630 : 0 ≤ (x8_1 : Int) := TD
     have q630 : x8_1 < (l0.length : Int) := TD
     obtain ⟨ad630, e630, hx630_0, hx630_1, hx630_2, hx630_3⟩ := at_TRecord (Kd.C_below HR0.out HB.out) x8_1 p630 q630
     cases e630
     replace p630 := eq_true p630
     replace q630 := eq_true q630
     go_wp2_with (first | (go_at_call 205; (with_reducible refine (impl_breaks_2.calls ((rd_TRecord l0 x8_1).f0) ((rd_TRecord l0 x8_1).f1) ((rd_TRecord l0 x8_1).f2) ((rd_TRecord l0 x8_1).f3) g1_0_ a1_0 g1_1_ a1_1 a1_2 a1_3 a1_4 true _ ?side1 ?side2 A6.out).mono ?_); (case side1 => exact (KW BKrg1_0_).out); (case side2 => exact (KW BKrg1_1_).out); rintro e w8 ⟨rfl, hb⟩; replace BKrg1_0_ := KB BKrg1_0_ hb; replace BKrg1_1_ := KB BKrg1_1_ hb; replace HB := BS hb; (try clear hb); (try clear hb2); (try clear hk); (try clear hi)))
     go_ret
     exact ⟨TE, TB⟩
    ·replace c7 := Bool.eq_false_iff.mpr c7
     subst c7
     replace H := iff' H
     have H' := Aside0.mk H
     clear H
     have p630 : 0 ≤ (x8_1 : Int) := TD
     have q630 : x8_1 < (l0.length : Int) := TD
     obtain ⟨ad630, e630, hx630_0, hx630_1, hx630_2, hx630_3⟩ := at_TRecord (Kd.C_below HR0.out HB.out) x8_1 p630 q630
     cases e630
     replace p630 := eq_true p630
     replace q630 := eq_true q630
     go_wp2_with (first | (go_at_call 205; (with_reducible refine (impl_breaks_2.calls ((rd_TRecord l0 x8_1).f0) ((rd_TRecord l0 x8_1).f1) ((rd_TRecord l0 x8_1).f2) ((rd_TRecord l0 x8_1).f3) g1_0_ a1_0 g1_1_ a1_1 a1_2 a1_3 a1_4 false _ ?side1 ?side2 A6.out).mono ?_); (case side1 => exact (KW BKrg1_0_).out); (case side2 => exact (KW BKrg1_1_).out); rintro e w9 ⟨rfl, hb⟩; replace BKrg1_0_ := KB BKrg1_0_ hb; replace BKrg1_1_ := KB BKrg1_1_ hb; replace HB := BS hb; (try clear hb); (try clear hb2); (try clear hk); (try clear hi)))
     go_roundg k1
     case measure => have := HK1.out; omega
     case rel => exact ⟨(wrap64 (x8_1 + 1)), TF, H', ⟨TM⟩, KW BKrg1_0_, KW BKrg1_1_, ⟨TB⟩⟩
   ·rw [if_neg c3] at H
    have c3b0 : decide (x8_1 < (l0.length : Int)) = false := decide_eq_false c3
    clear c3
    obtain rfl := Option.some.inj H
    go_wp2
    go_ret
    exact ⟨TE, TB⟩
end
section
/-! ### slices_ContainsFunc_impl_Record_impl_Record_breaks_2: function 66 -/
def slices_ContainsFunc_impl_Record_impl_Record_breaks_2.f (k : Nat) (l0 : List (S_Record)) (a1_0 : ByteArray) (a1_1 : ByteArray) (a1_2 : Int) (a1_3 : Int) (a1_4 : ByteArray) : Option (Bool) := (slices_IndexFunc_impl_Record_impl_Record_breaks_2.f k l0 a1_0 a1_1 a1_2 a1_3 a1_4).bind fun t632 => (some (decide (t632 ≥ 0)))
theorem slices_ContainsFunc_impl_Record_impl_Record_breaks_2.calls (k : Nat) (A0 : Option Addr) (c0 : Nat) (l0 : List (S_Record)) (g1_0_ g1_1_ : Nat) (a1_0 : ByteArray) (a1_1 : ByteArray) (a1_2 : Int) (a1_3 : Int) (a1_4 : ByteArray) (r : Bool) (w : World) (hr0 : Kd.C k_Record w A0 l0.length l0) (hc0 : l0.length ≤ c0) (hkg1_0_ : w.heap[g1_0_]? = some (.cells #[.string a1_0] 9 (0, 0))) (hkg1_1_ : w.heap[g1_1_]? = some (.cells #[.string a1_1, .int .i64 a1_2, .int .i64 a1_3, .string a1_4] 93 (0, 0))) (h : slices_ContainsFunc_impl_Record_impl_Record_breaks_2.f k l0 a1_0 a1_1 a1_2 a1_3 a1_4 = some r) :
  Calls Tryz.prog 66 #[.slice A0 l0.length c0, .func (.func 205) #[] #[.pointer (some ⟨g1_0_, 0, none⟩), .pointer (some ⟨g1_1_, 0, none⟩)]] w fun e w' => e = .returned (.bool r) ∧ Below w.heap.size w w' := by
 have HR0 := Aside0.mk hr0
 have HC0 := Aside0.mk hc0
 clear hr0 hc0
 have BKrg1_0_ := Aside0.mk hkg1_0_
 clear hkg1_0_
 have BKrg1_1_ := Aside0.mk hkg1_1_
 clear hkg1_1_
 have HB := Aside0.mk (Below.refl w.heap.size w)
 have H : ((slices_IndexFunc_impl_Record_impl_Record_breaks_2.f k l0 a1_0 a1_1 a1_2 a1_3 a1_4).bind fun t632 => (some (decide (t632 ≥ 0)))) = some r := h
 clear h
 obtain ⟨t632, A3, H⟩ := bnd H
 obtain rfl := Option.some.inj H
 go_enter Tryz.func66, Tryz.ntmps66
 go_wp2_with (first | ((with_reducible refine gate_callee (f := 122) rfl ?_); refine goesL_ (some 7) rfl rfl Tryz.func122 KR rfl #[.slice A0 l0.length c0, .func (.func 205) #[] #[.pointer (some ⟨g1_0_, 0, none⟩), .pointer (some ⟨g1_1_, 0, none⟩)]] rfl TA ?_; (with_reducible refine (slices_IndexFunc_impl_Record_impl_Record_breaks_2.calls k _ _ l0 g1_0_ g1_1_ a1_0 a1_1 a1_2 a1_3 a1_4 t632 _ ?side1 ?side2 ?side3 ?side4 A3.out).mono ?_); (case side1 => exact CW (HR0.out)); (case side2 => exact HC0.out); (case side3 => exact (KW BKrg1_0_).out); (case side4 => exact (KW BKrg1_1_).out); rintro e w4 ⟨rfl, hb⟩; refine ⟨_, rfl, ?_⟩; replace BKrg1_0_ := KB BKrg1_0_ hb; replace BKrg1_1_ := KB BKrg1_1_ hb; replace HB := BS hb; (try clear hb); (try clear hb2); (try clear hk); (try clear hi)))
 go_ret
 exact ⟨TE, TB⟩
end
section
/-! ### impl_breaks: function 180 -/
def impl_breaks.f (k : Nat) (a0 : ByteArray) (l1 : List (S_Record)) (a2_0 : ByteArray) (a2_1 : Int) (a2_2 : Int) (a2_3 : ByteArray) (a3 : Int) : Option (Bool) := if a3 = 1 then ((impl_isBelow.f a2_0 a0).bind fun t635 => (some (!t635))) else (if a3 = 2 then (if a2_1 = 6 then (some (a2_0.toList != a0.toList)) else (some false)) else (if a3 = 3 then ((impl_at.f k l1 a2_0 a2_1).bind fun t636 => ((slices_ContainsFunc_impl_Record_impl_Record_breaks_1.f k t636 a2_0 a2_1 a2_2 a2_3).bind fun t639 => (some t639))) else (if a3 = 4 then (if a2_1 = 5 then ((impl_at.f k l1 a2_0 0).bind fun t640 => (some (decide ((t640.length : Int) > 1)))) else (some false)) else (if a3 = 5 then (if a2_1 = 5 then (some (a2_0.toList == a0.toList)) else (some false)) else ((slices_ContainsFunc_impl_Record_impl_Record_breaks_2.f k l1 a0 a2_0 a2_1 a2_2 a2_3).bind fun t643 => (some t643))))))
theorem impl_breaks.calls (k : Nat) (a0 : ByteArray) (A1 : Option Addr) (c1 : Nat) (l1 : List (S_Record)) (a2_0 : ByteArray) (a2_1 : Int) (a2_2 : Int) (a2_3 : ByteArray) (a3 : Int) (r : Bool) (w : World) (hr1 : Kd.C k_Record w A1 l1.length l1) (hc1 : l1.length ≤ c1) (h : impl_breaks.f k a0 l1 a2_0 a2_1 a2_2 a2_3 a3 = some r) :
  Calls Tryz.prog 180 #[.string a0, .slice A1 l1.length c1, .agg #[.string a2_0, .int .i64 a2_1, .int .i64 a2_2, .string a2_3], .int .i64 a3] w fun e w' => e = .returned (.bool r) ∧ Below w.heap.size w w' := by
 have hu93 := Tryz.underlying93
 have HR1 := Aside0.mk hr1
 have HC1 := Aside0.mk hc1
 clear hr1 hc1
 have HB := Aside0.mk (Below.refl w.heap.size w)
 have H : (if a3 = 1 then ((impl_isBelow.f a2_0 a0).bind fun t635 => (some (!t635))) else (if a3 = 2 then (if a2_1 = 6 then (some (a2_0.toList != a0.toList)) else (some false)) else (if a3 = 3 then ((impl_at.f k l1 a2_0 a2_1).bind fun t636 => ((slices_ContainsFunc_impl_Record_impl_Record_breaks_1.f k t636 a2_0 a2_1 a2_2 a2_3).bind fun t639 => (some t639))) else (if a3 = 4 then (if a2_1 = 5 then ((impl_at.f k l1 a2_0 0).bind fun t640 => (some (decide ((t640.length : Int) > 1)))) else (some false)) else (if a3 = 5 then (if a2_1 = 5 then (some (a2_0.toList == a0.toList)) else (some false)) else ((slices_ContainsFunc_impl_Record_impl_Record_breaks_2.f k l1 a0 a2_0 a2_1 a2_2 a2_3).bind fun t643 => (some t643))))))) = some r := h
 clear h
 by_cases c5 : a3 = 1
 ·rw [if_pos c5] at H
  have c5b0 : (a3 == 1) = true := beq_iff_eq.mpr c5
  have c5b1 : (a3 != 1) = false := bne_eq_false_iff_eq.mpr c5
  clear c5
  obtain ⟨t635, A6, H⟩ := bnd H
  obtain rfl := Option.some.inj H
  go_enter Tryz.func180, Tryz.ntmps180
  go_wp2_with (first | ((with_reducible refine gate_dst (N := 4) rfl ?_); (try (refine gate_guard (by rfl) ?_; dsimp only)); refine bE 4 #[.string a0] 9 ?_; intro gb633 hg w7 hbox hb; have BK633 := Aside0.mk (hbox); have GE633 := bG hg; replace HB := BS hb; clear hb hbox hg) | ((with_reducible refine gate_dst (N := 6) rfl ?_); (try (refine gate_guard (by rfl) ?_; dsimp only)); refine bE 6 #[.string a2_0, .int .i64 a2_1, .int .i64 a2_2, .string a2_3] 93 ?_; intro gb634 hg w8 hbox hb; have BK634 := Aside0.mk (hbox); have GE634 := bG hg; replace HB := BS hb; have NB633_634 := bN BK633 hg; have NB634_633 := bM BK633 hg; replace BK633 := KB BK633 hb; clear hb hbox hg; have hnb9 := NB634_633.out; have hnc9 := NB633_634.out; have hcz10 := cz4 BK634; have hcz11 := cz1 BK633) | ((with_reducible refine gate_callee (f := 110) rfl ?_); refine goesL_ (some 15) rfl rfl Tryz.func110 KR rfl #[.string a2_0, .string a0] rfl TA ?_; (with_reducible refine (impl_isBelow.calls a2_0 a0 t635 _ A6.out).mono ?_); rintro e w' ⟨rfl, ⟨nd, rfl⟩⟩; refine ⟨_, rfl, ?_⟩))
  go_ret
  exact ⟨TE, TB⟩
 ·rw [if_neg c5] at H
  have c5b0 : (a3 == 1) = false := beq_eq_false_iff_ne.mpr c5
  have c5b1 : (a3 != 1) = true := bne_iff_ne.mpr c5
  by_cases c12 : a3 = 2
  ·rw [if_pos c12] at H
   have c12b0 : (a3 == 2) = true := beq_iff_eq.mpr c12
   have c12b1 : (a3 != 2) = false := bne_eq_false_iff_eq.mpr c12
   clear c12
   by_cases c13 : a2_1 = 6
   ·rw [if_pos c13] at H
    have c13b0 : (a2_1 == 6) = true := beq_iff_eq.mpr c13
    have c13b1 : (a2_1 != 6) = false := bne_eq_false_iff_eq.mpr c13
    clear c13
    obtain rfl := Option.some.inj H
    go_enter Tryz.func180, Tryz.ntmps180
    go_wp2_with (first | ((with_reducible refine gate_dst (N := 4) rfl ?_); (try (refine gate_guard (by rfl) ?_; dsimp only)); refine bE 4 #[.string a0] 9 ?_; intro gb633 hg w14 hbox hb; have BK633 := Aside0.mk (hbox); have GE633 := bG hg; replace HB := BS hb; clear hb hbox hg) | ((with_reducible refine gate_dst (N := 6) rfl ?_); (try (refine gate_guard (by rfl) ?_; dsimp only)); refine bE 6 #[.string a2_0, .int .i64 a2_1, .int .i64 a2_2, .string a2_3] 93 ?_; intro gb634 hg w15 hbox hb; have BK634 := Aside0.mk (hbox); have GE634 := bG hg; replace HB := BS hb; have NB633_634 := bN BK633 hg; have NB634_633 := bM BK633 hg; replace BK633 := KB BK633 hb; clear hb hbox hg; have hnb16 := NB634_633.out; have hnc16 := NB633_634.out; have hcz17 := cz4 BK634; have hcz18 := cz1 BK633))
    go_ret
    exact ⟨TE, TB⟩
   ·rw [if_neg c13] at H
    have c13b0 : (a2_1 == 6) = false := beq_eq_false_iff_ne.mpr c13
    have c13b1 : (a2_1 != 6) = true := bne_iff_ne.mpr c13
    obtain rfl := Option.some.inj H
    go_enter Tryz.func180, Tryz.ntmps180
    go_wp2_with (first | ((with_reducible refine gate_dst (N := 4) rfl ?_); (try (refine gate_guard (by rfl) ?_; dsimp only)); refine bE 4 #[.string a0] 9 ?_; intro gb633 hg w19 hbox hb; have BK633 := Aside0.mk (hbox); have GE633 := bG hg; replace HB := BS hb; clear hb hbox hg) | ((with_reducible refine gate_dst (N := 6) rfl ?_); (try (refine gate_guard (by rfl) ?_; dsimp only)); refine bE 6 #[.string a2_0, .int .i64 a2_1, .int .i64 a2_2, .string a2_3] 93 ?_; intro gb634 hg w20 hbox hb; have BK634 := Aside0.mk (hbox); have GE634 := bG hg; replace HB := BS hb; have NB633_634 := bN BK633 hg; have NB634_633 := bM BK633 hg; replace BK633 := KB BK633 hb; clear hb hbox hg; have hnb21 := NB634_633.out; have hnc21 := NB633_634.out; have hcz22 := cz4 BK634))
    go_ret
    exact ⟨TE, TB⟩
  ·rw [if_neg c12] at H
   have c12b0 : (a3 == 2) = false := beq_eq_false_iff_ne.mpr c12
   have c12b1 : (a3 != 2) = true := bne_iff_ne.mpr c12
   by_cases c23 : a3 = 3
   ·rw [if_pos c23] at H
    have c23b0 : (a3 == 3) = true := beq_iff_eq.mpr c23
    have c23b1 : (a3 != 3) = false := bne_eq_false_iff_eq.mpr c23
    clear c23
    obtain ⟨t636, A24, H⟩ := bnd H
    obtain ⟨t639, A25, H⟩ := bnd H
    obtain rfl := Option.some.inj H
    go_enter Tryz.func180, Tryz.ntmps180
    go_wp2_with (first | ((with_reducible refine gate_dst (N := 4) rfl ?_); (try (refine gate_guard (by rfl) ?_; dsimp only)); refine bE 4 #[.string a0] 9 ?_; intro gb633 hg w26 hbox hb; have BK633 := Aside0.mk (hbox); have GE633 := bG hg; replace HB := BS hb; clear hb hbox hg) | ((with_reducible refine gate_dst (N := 6) rfl ?_); (try (refine gate_guard (by rfl) ?_; dsimp only)); refine bE 6 #[.string a2_0, .int .i64 a2_1, .int .i64 a2_2, .string a2_3] 93 ?_; intro gb634 hg w27 hbox hb; have BK634 := Aside0.mk (hbox); have GE634 := bG hg; replace HB := BS hb; have NB633_634 := bN BK633 hg; have NB634_633 := bM BK633 hg; replace BK633 := KB BK633 hb; clear hb hbox hg; have hnb28 := NB634_633.out; have hnc28 := NB633_634.out; have hcz29 := cz4 BK634) | ((with_reducible refine gate_callee (f := 154) rfl ?_); refine goesL_ (some 35) rfl rfl Tryz.func154 KR rfl #[.slice A1 l1.length c1, .string a2_0, .int .i64 a2_1] rfl TA ?_; (with_reducible refine (impl_at.calls k _ _ l1 a2_0 a2_1 t636 _ ?side1 ?side2 A24.out).mono ?_); (case side1 => exact CW ((Kd.C_below HR1.out HB.out))); (case side2 => exact HC1.out); rintro e w30 ⟨v637, rfl, ho0, hb⟩; refine ⟨_, rfl, ?_⟩; have HO638 := Aside0.mk (Kd.R_lower (Kd.R_newB ho0 (g := gb634) (o := .cells #[.string a2_0, .int .i64 a2_1, .int .i64 a2_2, .string a2_3] 93 (0, 0)) (KW BK634).out) (below_size TB)); replace BK633 := KB BK633 hb; replace BK634 := KB BK634 hb; replace HB := BS hb; (try clear hb); (try clear hb2); (try clear hk); (try clear hi); (try clear ho0); obtain ⟨Ao31, co31, eo31⟩ := Kd.R_slice HO638.out; subst eo31) | ((with_reducible refine gate_callee (f := 66) rfl ?_); refine goesL_ (some 37) rfl rfl Tryz.func66 KR rfl #[.slice Ao31 t636.length co31, .func (.func 204) #[] #[.pointer (some ⟨gb634, 0, none⟩)]] rfl TA ?_; (with_reducible refine (slices_ContainsFunc_impl_Record_impl_Record_breaks_1.calls k _ _ t636 gb634 a2_0 a2_1 a2_2 a2_3 t639 _ ?side1 ?side2 ?side3 A25.out).mono ?_); (case side1 => exact CW ((Kd.R_reads' HO638.out).2.2)); (case side2 => exact (Kd.R_reads' HO638.out).2.1); (case side3 => exact (KW BK634).out); rintro e w32 ⟨rfl, hb⟩; refine ⟨_, rfl, ?_⟩; replace HO638 := RB HO638 hb; replace BK633 := KB BK633 hb; replace BK634 := KB BK634 hb; replace HB := BS hb; (try clear hb); (try clear hb2); (try clear hk); (try clear hi)))
    go_ret
    exact ⟨TE, TB⟩
   ·rw [if_neg c23] at H
    have c23b0 : (a3 == 3) = false := beq_eq_false_iff_ne.mpr c23
    have c23b1 : (a3 != 3) = true := bne_iff_ne.mpr c23
    by_cases c33 : a3 = 4
    ·rw [if_pos c33] at H
     have c33b0 : (a3 == 4) = true := beq_iff_eq.mpr c33
     have c33b1 : (a3 != 4) = false := bne_eq_false_iff_eq.mpr c33
     clear c33
     by_cases c34 : a2_1 = 5
     ·rw [if_pos c34] at H
      have c34b0 : (a2_1 == 5) = true := beq_iff_eq.mpr c34
      have c34b1 : (a2_1 != 5) = false := bne_eq_false_iff_eq.mpr c34
      clear c34
      obtain ⟨t640, A35, H⟩ := bnd H
      obtain rfl := Option.some.inj H
      go_enter Tryz.func180, Tryz.ntmps180
      go_wp2_with (first | ((with_reducible refine gate_dst (N := 4) rfl ?_); (try (refine gate_guard (by rfl) ?_; dsimp only)); refine bE 4 #[.string a0] 9 ?_; intro gb633 hg w36 hbox hb; have BK633 := Aside0.mk (hbox); have GE633 := bG hg; replace HB := BS hb; clear hb hbox hg) | ((with_reducible refine gate_dst (N := 6) rfl ?_); (try (refine gate_guard (by rfl) ?_; dsimp only)); refine bE 6 #[.string a2_0, .int .i64 a2_1, .int .i64 a2_2, .string a2_3] 93 ?_; intro gb634 hg w37 hbox hb; have BK634 := Aside0.mk (hbox); have GE634 := bG hg; replace HB := BS hb; have NB633_634 := bN BK633 hg; have NB634_633 := bM BK633 hg; replace BK633 := KB BK633 hb; clear hb hbox hg; have hnb38 := NB634_633.out; have hnc38 := NB633_634.out; have hcz39 := cz4 BK634) | (go_at_call 154; (with_reducible refine (impl_at.calls k _ _ l1 a2_0 0 t640 _ ?side1 ?side2 A35.out).mono ?_); (case side1 => exact CW ((Kd.C_below HR1.out HB.out))); (case side2 => exact HC1.out); rintro e w40 ⟨v641, rfl, ho0, hb⟩; have HO642 := Aside0.mk (Kd.R_lower (Kd.R_newB ho0 (g := gb634) (o := .cells #[.string a2_0, .int .i64 a2_1, .int .i64 a2_2, .string a2_3] 93 (0, 0)) (KW BK634).out) (below_size TB)); replace BK633 := KB BK633 hb; replace BK634 := KB BK634 hb; replace HB := BS hb; (try clear hb); (try clear hb2); (try clear hk); (try clear hi); (try clear ho0); obtain ⟨Ao41, co41, eo41⟩ := Kd.R_slice HO642.out; subst eo41))
      go_ret
      exact ⟨TE, TB⟩
     ·rw [if_neg c34] at H
      have c34b0 : (a2_1 == 5) = false := beq_eq_false_iff_ne.mpr c34
      have c34b1 : (a2_1 != 5) = true := bne_iff_ne.mpr c34
      obtain rfl := Option.some.inj H
      go_enter Tryz.func180, Tryz.ntmps180
      go_wp2_with (first | ((with_reducible refine gate_dst (N := 4) rfl ?_); (try (refine gate_guard (by rfl) ?_; dsimp only)); refine bE 4 #[.string a0] 9 ?_; intro gb633 hg w42 hbox hb; have BK633 := Aside0.mk (hbox); have GE633 := bG hg; replace HB := BS hb; clear hb hbox hg) | ((with_reducible refine gate_dst (N := 6) rfl ?_); (try (refine gate_guard (by rfl) ?_; dsimp only)); refine bE 6 #[.string a2_0, .int .i64 a2_1, .int .i64 a2_2, .string a2_3] 93 ?_; intro gb634 hg w43 hbox hb; have BK634 := Aside0.mk (hbox); have GE634 := bG hg; replace HB := BS hb; have NB633_634 := bN BK633 hg; have NB634_633 := bM BK633 hg; replace BK633 := KB BK633 hb; clear hb hbox hg; have hnb44 := NB634_633.out; have hnc44 := NB633_634.out; have hcz45 := cz4 BK634))
      go_ret
      exact ⟨TE, TB⟩
    ·rw [if_neg c33] at H
     have c33b0 : (a3 == 4) = false := beq_eq_false_iff_ne.mpr c33
     have c33b1 : (a3 != 4) = true := bne_iff_ne.mpr c33
     by_cases c46 : a3 = 5
     ·rw [if_pos c46] at H
      have c46b0 : (a3 == 5) = true := beq_iff_eq.mpr c46
      have c46b1 : (a3 != 5) = false := bne_eq_false_iff_eq.mpr c46
      clear c46
      by_cases c47 : a2_1 = 5
      ·rw [if_pos c47] at H
       have c47b0 : (a2_1 == 5) = true := beq_iff_eq.mpr c47
       have c47b1 : (a2_1 != 5) = false := bne_eq_false_iff_eq.mpr c47
       clear c47
       obtain rfl := Option.some.inj H
       go_enter Tryz.func180, Tryz.ntmps180
       go_wp2_with (first | ((with_reducible refine gate_dst (N := 4) rfl ?_); (try (refine gate_guard (by rfl) ?_; dsimp only)); refine bE 4 #[.string a0] 9 ?_; intro gb633 hg w48 hbox hb; have BK633 := Aside0.mk (hbox); have GE633 := bG hg; replace HB := BS hb; clear hb hbox hg) | ((with_reducible refine gate_dst (N := 6) rfl ?_); (try (refine gate_guard (by rfl) ?_; dsimp only)); refine bE 6 #[.string a2_0, .int .i64 a2_1, .int .i64 a2_2, .string a2_3] 93 ?_; intro gb634 hg w49 hbox hb; have BK634 := Aside0.mk (hbox); have GE634 := bG hg; replace HB := BS hb; have NB633_634 := bN BK633 hg; have NB634_633 := bM BK633 hg; replace BK633 := KB BK633 hb; clear hb hbox hg; have hnb50 := NB634_633.out; have hnc50 := NB633_634.out; have hcz51 := cz4 BK634; have hcz52 := cz1 BK633))
       go_ret
       exact ⟨TE, TB⟩
      ·rw [if_neg c47] at H
       have c47b0 : (a2_1 == 5) = false := beq_eq_false_iff_ne.mpr c47
       have c47b1 : (a2_1 != 5) = true := bne_iff_ne.mpr c47
       obtain rfl := Option.some.inj H
       go_enter Tryz.func180, Tryz.ntmps180
       go_wp2_with (first | ((with_reducible refine gate_dst (N := 4) rfl ?_); (try (refine gate_guard (by rfl) ?_; dsimp only)); refine bE 4 #[.string a0] 9 ?_; intro gb633 hg w53 hbox hb; have BK633 := Aside0.mk (hbox); have GE633 := bG hg; replace HB := BS hb; clear hb hbox hg) | ((with_reducible refine gate_dst (N := 6) rfl ?_); (try (refine gate_guard (by rfl) ?_; dsimp only)); refine bE 6 #[.string a2_0, .int .i64 a2_1, .int .i64 a2_2, .string a2_3] 93 ?_; intro gb634 hg w54 hbox hb; have BK634 := Aside0.mk (hbox); have GE634 := bG hg; replace HB := BS hb; have NB633_634 := bN BK633 hg; have NB634_633 := bM BK633 hg; replace BK633 := KB BK633 hb; clear hb hbox hg; have hnb55 := NB634_633.out; have hnc55 := NB633_634.out; have hcz56 := cz4 BK634))
       go_ret
       exact ⟨TE, TB⟩
     ·rw [if_neg c46] at H
      have c46b0 : (a3 == 5) = false := beq_eq_false_iff_ne.mpr c46
      have c46b1 : (a3 != 5) = true := bne_iff_ne.mpr c46
      obtain ⟨t643, A57, H⟩ := bnd H
      obtain rfl := Option.some.inj H
      go_enter Tryz.func180, Tryz.ntmps180
      go_wp2_with (first | ((with_reducible refine gate_dst (N := 4) rfl ?_); (try (refine gate_guard (by rfl) ?_; dsimp only)); refine bE 4 #[.string a0] 9 ?_; intro gb633 hg w58 hbox hb; have BK633 := Aside0.mk (hbox); have GE633 := bG hg; replace HB := BS hb; clear hb hbox hg) | ((with_reducible refine gate_dst (N := 6) rfl ?_); (try (refine gate_guard (by rfl) ?_; dsimp only)); refine bE 6 #[.string a2_0, .int .i64 a2_1, .int .i64 a2_2, .string a2_3] 93 ?_; intro gb634 hg w59 hbox hb; have BK634 := Aside0.mk (hbox); have GE634 := bG hg; replace HB := BS hb; have NB633_634 := bN BK633 hg; have NB634_633 := bM BK633 hg; replace BK633 := KB BK633 hb; clear hb hbox hg) | ((with_reducible refine gate_callee (f := 66) rfl ?_); refine goesL_ (some 64) rfl rfl Tryz.func66 KR rfl #[.slice A1 l1.length c1, .func (.func 205) #[] #[.pointer (some ⟨gb633, 0, none⟩), .pointer (some ⟨gb634, 0, none⟩)]] rfl TA ?_; (with_reducible refine (slices_ContainsFunc_impl_Record_impl_Record_breaks_2.calls k _ _ l1 gb633 gb634 a0 a2_0 a2_1 a2_2 a2_3 t643 _ ?side1 ?side2 ?side3 ?side4 A57.out).mono ?_); (case side1 => exact CW ((Kd.C_below HR1.out HB.out))); (case side2 => exact HC1.out); (case side3 => exact (KW BK633).out); (case side4 => exact (KW BK634).out); rintro e w60 ⟨rfl, hb⟩; refine ⟨_, rfl, ?_⟩; replace BK633 := KB BK633 hb; replace BK634 := KB BK634 hb; replace HB := BS hb; (try clear hb); (try clear hb2); (try clear hk); (try clear hi)))
      go_ret
      exact ⟨TE, TB⟩
end
section
/-! ### impl_RuleOf_1: function 179 -/
def impl_RuleOf_1.f (k : Nat) (a0_0 : ByteArray) (a0_1 : Int) (a0_2 : Int) (a0_3 : ByteArray) (a1_0 : ByteArray) (l2_0 : List (S_Record)) (a3_0 : Int) : Option (Bool) := (impl_breaks.f k a1_0 l2_0 a0_0 a0_1 a0_2 a0_3 a3_0).bind fun t645 => (some t645)
theorem impl_RuleOf_1.calls (k : Nat) (a0_0 : ByteArray) (a0_1 : Int) (a0_2 : Int) (a0_3 : ByteArray) (g1_ : Nat) (a1_0 : ByteArray) (g2_ : Nat) (A2_0 : Option Addr) (c2_0 : Nat) (l2_0 : List (S_Record)) (g3_ : Nat) (a3_0 : Int) (r : Bool) (w : World) (hr2_0 : Kd.C k_Record w A2_0 l2_0.length l2_0) (hc2_0 : l2_0.length ≤ c2_0) (hkg1_ : w.heap[g1_]? = some (.cells #[.string a1_0] 9 (0, 0))) (hkg2_ : w.heap[g2_]? = some (.cells #[.slice A2_0 l2_0.length c2_0] 27 (0, 0))) (hkg3_ : w.heap[g3_]? = some (.cells #[.int .i64 a3_0] 3 (0, 0))) (h : impl_RuleOf_1.f k a0_0 a0_1 a0_2 a0_3 a1_0 l2_0 a3_0 = some r) :
  Calls Tryz.prog 179 #[.agg #[.string a0_0, .int .i64 a0_1, .int .i64 a0_2, .string a0_3], .pointer (some ⟨g1_, 0, none⟩), .pointer (some ⟨g2_, 0, none⟩), .pointer (some ⟨g3_, 0, none⟩)] w fun e w' => e = .returned (.bool r) ∧ Below w.heap.size w w' := by
 have hu93 := Tryz.underlying93
 have HR2_0 := Aside0.mk hr2_0
 have HC2_0 := Aside0.mk hc2_0
 clear hr2_0 hc2_0
 have BKrg1_ := Aside0.mk hkg1_
 clear hkg1_
 have BKrg2_ := Aside0.mk hkg2_
 clear hkg2_
 have BKrg3_ := Aside0.mk hkg3_
 clear hkg3_
 have HB := Aside0.mk (Below.refl w.heap.size w)
 have H : ((impl_breaks.f k a1_0 l2_0 a0_0 a0_1 a0_2 a0_3 a3_0).bind fun t645 => (some t645)) = some r := h
 clear h
 obtain ⟨t645, A5, H⟩ := bnd H
 obtain rfl := Option.some.inj H
 go_enter Tryz.func179, Tryz.ntmps179
 go_wp2_with (first | ((with_reducible refine gate_dst (N := 4) rfl ?_); refine bE 4 #[.string a0_0, .int .i64 a0_1, .int .i64 a0_2, .string a0_3] 93 ?_; intro gb644 hg w6 hbox hb; have BK644 := Aside0.mk (hbox); have GE644 := bG hg; replace HB := BS hb; have NB1_644 := bN BKrg1_ hg; have NB644_1 := bM BKrg1_ hg; replace BKrg1_ := KB BKrg1_ hb; have NB2_644 := bN BKrg2_ hg; have NB644_2 := bM BKrg2_ hg; replace BKrg2_ := KB BKrg2_ hb; have NB3_644 := bN BKrg3_ hg; have NB644_3 := bM BKrg3_ hg; replace BKrg3_ := KB BKrg3_ hb; clear hb hbox hg; have hnb7 := NB1_644.out; have hnc7 := NB644_1.out; have hcz8 := cz1 BKrg1_; have hnb9 := NB2_644.out; have hnc9 := NB644_2.out; have hcz10 := cz1 BKrg2_; have hnb11 := NB644_3.out; have hnc11 := NB3_644.out; have hcz12 := cz4 BK644; have hcz13 := cz1 BKrg3_) | ((with_reducible refine gate_callee (f := 180) rfl ?_); refine goesL_ (some 10) rfl rfl Tryz.func180 KR rfl #[.string a1_0, .slice A2_0 l2_0.length c2_0, .agg #[.string a0_0, .int .i64 a0_1, .int .i64 a0_2, .string a0_3], .int .i64 a3_0] rfl TA ?_; (with_reducible refine (impl_breaks.calls k a1_0 _ _ l2_0 a0_0 a0_1 a0_2 a0_3 a3_0 t645 _ ?side1 ?side2 A5.out).mono ?_); (case side1 => exact CW ((Kd.C_below HR2_0.out HB.out))); (case side2 => exact HC2_0.out); rintro e w14 ⟨rfl, hb⟩; refine ⟨_, rfl, ?_⟩; replace BKrg1_ := KB BKrg1_ hb; replace BKrg2_ := KB BKrg2_ hb; replace BKrg3_ := KB BKrg3_ hb; replace BK644 := KB BK644 hb; replace HB := BS hb; (try clear hb); (try clear hb2); (try clear hk); (try clear hi)))
 go_ret
 exact ⟨TE, TB⟩
end
section
/-! ### slices_IndexFunc_impl_Record_impl_Record_RuleOf_1: function 122 -/
def slices_IndexFunc_impl_Record_impl_Record_RuleOf_1.l0 : Nat → List (S_Record) → Int → Int → ByteArray → List (S_Record) → Int → Option (Int)
 | 0, _, _, _, _, _, _ => none
 | k + 1, x0, x7, x8, x59000, x60000, x61000 => if x8 < x7 then (if 0 ≤ x8 then (if x8 < (x0.length : Int) then ((impl_RuleOf_1.f k ((rd_TRecord x0 x8).f0) ((rd_TRecord x0 x8).f1) ((rd_TRecord x0 x8).f2) ((rd_TRecord x0 x8).f3) x59000 x60000 x61000).bind fun t647 => (if t647 = true then (some x8) else (slices_IndexFunc_impl_Record_impl_Record_RuleOf_1.l0 k x0 x7 (wrap64 (x8 + 1)) x59000 x60000 x61000))) else (none)) else (none)) else (some (-1))
def slices_IndexFunc_impl_Record_impl_Record_RuleOf_1.f (k : Nat) (l0 : List (S_Record)) (a1_0 : ByteArray) (l1_1 : List (S_Record)) (a1_2 : Int) : Option (Int) := slices_IndexFunc_impl_Record_impl_Record_RuleOf_1.l0 k l0 (l0.length : Int) 0 a1_0 l1_1 a1_2
theorem slices_IndexFunc_impl_Record_impl_Record_RuleOf_1.calls (k : Nat) (A0 : Option Addr) (c0 : Nat) (l0 : List (S_Record)) (g1_0_ g1_1_ g1_2_ : Nat) (a1_0 : ByteArray) (A1_1 : Option Addr) (c1_1 : Nat) (l1_1 : List (S_Record)) (a1_2 : Int) (r : Int) (w : World) (hr0 : Kd.C k_Record w A0 l0.length l0) (hc0 : l0.length ≤ c0) (hr1_1 : Kd.C k_Record w A1_1 l1_1.length l1_1) (hc1_1 : l1_1.length ≤ c1_1) (hkg1_0_ : w.heap[g1_0_]? = some (.cells #[.string a1_0] 9 (0, 0))) (hkg1_1_ : w.heap[g1_1_]? = some (.cells #[.slice A1_1 l1_1.length c1_1] 27 (0, 0))) (hkg1_2_ : w.heap[g1_2_]? = some (.cells #[.int .i64 a1_2] 3 (0, 0))) (h : slices_IndexFunc_impl_Record_impl_Record_RuleOf_1.f k l0 a1_0 l1_1 a1_2 = some r) :
  Calls Tryz.prog 122 #[.slice A0 l0.length c0, .func (.func 179) #[] #[.pointer (some ⟨g1_0_, 0, none⟩), .pointer (some ⟨g1_1_, 0, none⟩), .pointer (some ⟨g1_2_, 0, none⟩)]] w fun e w' => e = .returned (.int .i64 r) ∧ Below w.heap.size w w' := by
 have hu93 := Tryz.underlying93
 have HR0 := Aside0.mk hr0
 have HC0 := Aside0.mk hc0
 clear hr0 hc0
 have HR1_1 := Aside0.mk hr1_1
 have HC1_1 := Aside0.mk hc1_1
 clear hr1_1 hc1_1
 have BKrg1_0_ := Aside0.mk hkg1_0_
 clear hkg1_0_
 have BKrg1_1_ := Aside0.mk hkg1_1_
 clear hkg1_1_
 have BKrg1_2_ := Aside0.mk hkg1_2_
 clear hkg1_2_
 have HB := Aside0.mk (Below.refl w.heap.size w)
 have H : (slices_IndexFunc_impl_Record_impl_Record_RuleOf_1.l0 k l0 (l0.length : Int) 0 a1_0 l1_1 a1_2) = some r := h
 clear h
 have H' := Aside0.mk H
 clear H
 go_enter Tryz.func122, Tryz.ntmps122
 go_wp2
 go_loopg [8] k (fun kq v8 w' => ∃ (x8_1 : Int), v8 = .int .i64 x8_1 ∧ Aside0 (slices_IndexFunc_impl_Record_impl_Record_RuleOf_1.l0 kq l0 (l0.length : Int) x8_1 a1_0 l1_1 a1_2 = some r) ∧ Aside0 (kq ≤ k) ∧ Aside0 (w'.heap[g1_0_]? = some (.cells #[.string a1_0] 9 (0, 0))) ∧ Aside0 (w'.heap[g1_1_]? = some (.cells #[(.slice A1_1 l1_1.length c1_1)] 27 (0, 0))) ∧ Aside0 (w'.heap[g1_2_]? = some (.cells #[.int .i64 a1_2] 3 (0, 0))) ∧ Aside0 (Below w.heap.size w w'))
 case atStart => exact ⟨(0), TF, H', ⟨Nat.le_refl _⟩, KW BKrg1_0_, KW BKrg1_1_, KW BKrg1_2_, ⟨TB⟩⟩
 case round =>
  clear H'
  try clear c1
  try clear p2
  obtain ⟨x8_1, rfl, HA, HK1, BKrg1_0_, BKrg1_1_, BKrg1_2_, HB⟩ := hrel
  cases gk with
  | zero => exact absurd HA.out (by simp [slices_IndexFunc_impl_Record_impl_Record_RuleOf_1.l0])
  | succ k1 =>
   have H := HA.out
   clear HA
   simp only [slices_IndexFunc_impl_Record_impl_Record_RuleOf_1.l0] at H
   by_cases c3 : x8_1 < (l0.length : Int)
   ·rw [if_pos c3] at H
    have c3b0 : decide (x8_1 < (l0.length : Int)) = true := decide_eq_true c3
    clear c3
    obtain ⟨c4, H⟩ := ifn H
    have c4b0 : decide (0 ≤ x8_1) = true := decide_eq_true c4
    clear c4
    obtain ⟨c5, H⟩ := ifn H
    have c5b0 : decide (x8_1 < (l0.length : Int)) = true := decide_eq_true c5
    clear c5
    obtain ⟨t647, A6, H⟩ := bnd H
    by_cases c7 : t647 = true
    ·subst c7
     replace H := ift H
     obtain rfl := Option.some.inj H
     have p646 : 0 ≤ (x8_1 : Int) := TD
     have q646 : x8_1 < (l0.length : Int) := TD
     obtain ⟨ad646, e646, hx646_0, hx646_1, hx646_2, hx646_3⟩ := at_TRecord (Kd.C_below HR0.out HB.out) x8_1 p646 q646
     cases e646
     replace p646 := eq_true p646
     replace q646 := eq_true q646
     go_wp2_with (first | (go_at_call 179; (with_reducible refine (impl_RuleOf_1.calls k1 ((rd_TRecord l0 x8_1).f0) ((rd_TRecord l0 x8_1).f1) ((rd_TRecord l0 x8_1).f2) ((rd_TRecord l0 x8_1).f3) g1_0_ a1_0 g1_1_ A1_1 c1_1 l1_1 g1_2_ a1_2 true _ ?side1 ?side2 ?side3 ?side4 ?side5 A6.out).mono ?_); (case side1 => exact CW ((Kd.C_below HR1_1.out HB.out))); (case side2 => exact HC1_1.out); (case side3 => exact (KW BKrg1_0_).out); (case side4 => exact (KW BKrg1_1_).out); (case side5 => exact (KW BKrg1_2_).out); rintro e w8 ⟨rfl, hb⟩; replace BKrg1_0_ := KB BKrg1_0_ hb; replace BKrg1_1_ := KB BKrg1_1_ hb; replace BKrg1_2_ := KB BKrg1_2_ hb; replace HB := BS hb; (try clear hb); (try clear hb2); (try clear hk); (try clear hi)))
     go_ret
     exact ⟨TE, TB⟩
    ·replace c7 := Bool.eq_false_iff.mpr c7
     subst c7
     replace H := iff' H
     have H' := Aside0.mk H
     clear H
     have p646 : 0 ≤ (x8_1 : Int) := TD
     have q646 : x8_1 < (l0.length : Int) := TD
     obtain ⟨ad646, e646, hx646_0, hx646_1, hx646_2, hx646_3⟩ := at_TRecord (Kd.C_below HR0.out HB.out) x8_1 p646 q646
     cases e646
     replace p646 := eq_true p646
     replace q646 := eq_true q646
     go_wp2_with (first | (go_at_call 179; (with_reducible refine (impl_RuleOf_1.calls k1 ((rd_TRecord l0 x8_1).f0) ((rd_TRecord l0 x8_1).f1) ((rd_TRecord l0 x8_1).f2) ((rd_TRecord l0 x8_1).f3) g1_0_ a1_0 g1_1_ A1_1 c1_1 l1_1 g1_2_ a1_2 false _ ?side1 ?side2 ?side3 ?side4 ?side5 A6.out).mono ?_); (case side1 => exact CW ((Kd.C_below HR1_1.out HB.out))); (case side2 => exact HC1_1.out); (case side3 => exact (KW BKrg1_0_).out); (case side4 => exact (KW BKrg1_1_).out); (case side5 => exact (KW BKrg1_2_).out); rintro e w9 ⟨rfl, hb⟩; replace BKrg1_0_ := KB BKrg1_0_ hb; replace BKrg1_1_ := KB BKrg1_1_ hb; replace BKrg1_2_ := KB BKrg1_2_ hb; replace HB := BS hb; (try clear hb); (try clear hb2); (try clear hk); (try clear hi)))
     go_roundg k1
     case measure => have := HK1.out; omega
     case rel => exact ⟨(wrap64 (x8_1 + 1)), TF, H', ⟨TM⟩, KW BKrg1_0_, KW BKrg1_1_, KW BKrg1_2_, ⟨TB⟩⟩
   ·rw [if_neg c3] at H
    have c3b0 : decide (x8_1 < (l0.length : Int)) = false := decide_eq_false c3
    clear c3
    obtain rfl := Option.some.inj H
    go_wp2
    go_ret
    exact ⟨TE, TB⟩
end
section
/-! ### slices_ContainsFunc_impl_Record_impl_Record_RuleOf_1: function 66 -/
def slices_ContainsFunc_impl_Record_impl_Record_RuleOf_1.f (k : Nat) (l0 : List (S_Record)) (a1_0 : ByteArray) (l1_1 : List (S_Record)) (a1_2 : Int) : Option (Bool) := (slices_IndexFunc_impl_Record_impl_Record_RuleOf_1.f k l0 a1_0 l1_1 a1_2).bind fun t648 => (some (decide (t648 ≥ 0)))
theorem slices_ContainsFunc_impl_Record_impl_Record_RuleOf_1.calls (k : Nat) (A0 : Option Addr) (c0 : Nat) (l0 : List (S_Record)) (g1_0_ g1_1_ g1_2_ : Nat) (a1_0 : ByteArray) (A1_1 : Option Addr) (c1_1 : Nat) (l1_1 : List (S_Record)) (a1_2 : Int) (r : Bool) (w : World) (hr0 : Kd.C k_Record w A0 l0.length l0) (hc0 : l0.length ≤ c0) (hr1_1 : Kd.C k_Record w A1_1 l1_1.length l1_1) (hc1_1 : l1_1.length ≤ c1_1) (hkg1_0_ : w.heap[g1_0_]? = some (.cells #[.string a1_0] 9 (0, 0))) (hkg1_1_ : w.heap[g1_1_]? = some (.cells #[.slice A1_1 l1_1.length c1_1] 27 (0, 0))) (hkg1_2_ : w.heap[g1_2_]? = some (.cells #[.int .i64 a1_2] 3 (0, 0))) (h : slices_ContainsFunc_impl_Record_impl_Record_RuleOf_1.f k l0 a1_0 l1_1 a1_2 = some r) :
  Calls Tryz.prog 66 #[.slice A0 l0.length c0, .func (.func 179) #[] #[.pointer (some ⟨g1_0_, 0, none⟩), .pointer (some ⟨g1_1_, 0, none⟩), .pointer (some ⟨g1_2_, 0, none⟩)]] w fun e w' => e = .returned (.bool r) ∧ Below w.heap.size w w' := by
 have HR0 := Aside0.mk hr0
 have HC0 := Aside0.mk hc0
 clear hr0 hc0
 have HR1_1 := Aside0.mk hr1_1
 have HC1_1 := Aside0.mk hc1_1
 clear hr1_1 hc1_1
 have BKrg1_0_ := Aside0.mk hkg1_0_
 clear hkg1_0_
 have BKrg1_1_ := Aside0.mk hkg1_1_
 clear hkg1_1_
 have BKrg1_2_ := Aside0.mk hkg1_2_
 clear hkg1_2_
 have HB := Aside0.mk (Below.refl w.heap.size w)
 have H : ((slices_IndexFunc_impl_Record_impl_Record_RuleOf_1.f k l0 a1_0 l1_1 a1_2).bind fun t648 => (some (decide (t648 ≥ 0)))) = some r := h
 clear h
 obtain ⟨t648, A3, H⟩ := bnd H
 obtain rfl := Option.some.inj H
 go_enter Tryz.func66, Tryz.ntmps66
 go_wp2_with (first | ((with_reducible refine gate_callee (f := 122) rfl ?_); refine goesL_ (some 7) rfl rfl Tryz.func122 KR rfl #[.slice A0 l0.length c0, .func (.func 179) #[] #[.pointer (some ⟨g1_0_, 0, none⟩), .pointer (some ⟨g1_1_, 0, none⟩), .pointer (some ⟨g1_2_, 0, none⟩)]] rfl TA ?_; (with_reducible refine (slices_IndexFunc_impl_Record_impl_Record_RuleOf_1.calls k _ _ l0 g1_0_ g1_1_ g1_2_ a1_0 A1_1 c1_1 l1_1 a1_2 t648 _ ?side1 ?side2 ?side3 ?side4 ?side5 ?side6 ?side7 A3.out).mono ?_); (case side1 => exact CW (HR0.out)); (case side2 => exact HC0.out); (case side3 => exact CW (HR1_1.out)); (case side4 => exact HC1_1.out); (case side5 => exact (KW BKrg1_0_).out); (case side6 => exact (KW BKrg1_1_).out); (case side7 => exact (KW BKrg1_2_).out); rintro e w4 ⟨rfl, hb⟩; refine ⟨_, rfl, ?_⟩; replace BKrg1_0_ := KB BKrg1_0_ hb; replace BKrg1_1_ := KB BKrg1_1_ hb; replace BKrg1_2_ := KB BKrg1_2_ hb; replace HB := BS hb; (try clear hb); (try clear hb2); (try clear hk); (try clear hi)))
 go_ret
 exact ⟨TE, TB⟩
end
section
/-! ### impl_RuleOf: function 153 -/
def impl_RuleOf.l0 : Nat → ByteArray → List (S_Record) → Int → Option (Int)
 | 0, _, _, _ => none
 | k + 1, x650000, x651000, x653000 => if x653000 ≤ 6 then ((slices_ContainsFunc_impl_Record_impl_Record_RuleOf_1.f k x651000 x650000 x651000 x653000).bind fun t653 => (if t653 = true then (some x653000) else (if x653000 = 2 then ((impl_at.f k x651000 x650000 6).bind fun t654 => (if (t654.length : Int) = 1 then (impl_RuleOf.l0 k x650000 x651000 (wrap64 (x653000 + 1))) else (some x653000))) else (impl_RuleOf.l0 k x650000 x651000 (wrap64 (x653000 + 1)))))) else (some 0)
def impl_RuleOf.f (k : Nat) (a0 : ByteArray) (l1 : List (S_Record)) : Option (Int) := (impl_isWhole.f k a0 l1).bind fun t651 => (if t651 = true then (impl_RuleOf.l0 k a0 l1 1) else (some 9))
theorem impl_RuleOf.calls (k : Nat) (a0 : ByteArray) (A1 : Option Addr) (c1 : Nat) (l1 : List (S_Record)) (r : Int) (w : World) (hr1 : Kd.C k_Record w A1 l1.length l1) (hc1 : l1.length ≤ c1) (hG_ : Glob w) (h : impl_RuleOf.f k a0 l1 = some r) :
  Calls Tryz.prog 153 #[.string a0, .slice A1 l1.length c1] w fun e w' => e = .returned (.int .i64 r) ∧ Below w.heap.size w w' := by
 have HR1 := Aside0.mk hr1
 have HC1 := Aside0.mk hc1
 clear hr1 hc1
 have HGL := Aside0.mk hG_
 clear hG_
 have HB := Aside0.mk (Below.refl w.heap.size w)
 have H : ((impl_isWhole.f k a0 l1).bind fun t651 => (if t651 = true then (impl_RuleOf.l0 k a0 l1 1) else (some 9))) = some r := h
 clear h
 obtain ⟨t651, A3, H⟩ := bnd H
 by_cases c4 : t651 = true
 ·subst c4
  replace H := ift H
  have H' := Aside0.mk H
  clear H
  go_enter Tryz.func153, Tryz.ntmps153
  go_wp2_with (first | ((with_reducible refine gate_dst (N := 2) rfl ?_); (try (refine gate_guard (by rfl) ?_; dsimp only)); refine bE 2 #[.string a0] 9 ?_; intro gb649 hg w5 hbox hb; have BK649 := Aside0.mk (hbox); have GE649 := bG hg; replace HB := BS hb; clear hb hbox hg) | ((with_reducible refine gate_dst (N := 3) rfl ?_); (try (refine gate_guard (by rfl) ?_; dsimp only)); refine bE 3 #[.slice A1 l1.length c1] 27 ?_; intro gb650 hg w6 hbox hb; have BK650 := Aside0.mk (hbox); have GE650 := bG hg; replace HB := BS hb; have NB649_650 := bN BK649 hg; have NB650_649 := bM BK649 hg; replace BK649 := KB BK649 hb; clear hb hbox hg; have hnb7 := NB649_650.out; have hnc7 := NB650_649.out; have hcz8 := cz1 BK649; have hcz9 := cz1 BK650) | ((with_reducible refine gate_callee (f := 178) rfl ?_); refine goesL_ (some 8) rfl rfl Tryz.func178 KR rfl #[.string a0, .slice A1 l1.length c1] rfl TA ?_; (with_reducible refine (impl_isWhole.calls k a0 _ _ l1 true _ ?side1 ?side2 ?side3 A3.out).mono ?_); (case side1 => exact CW ((Kd.C_below HR1.out HB.out))); (case side2 => exact HC1.out); (case side3 => exact GW HGL); rintro e w10 ⟨rfl, hb⟩; refine ⟨_, rfl, ?_⟩; replace BK649 := KB BK649 hb; replace BK650 := KB BK650 hb; replace HB := BS hb; (try clear hb); (try clear hb2); (try clear hk); (try clear hi)) | ((with_reducible refine gate_dst (N := 5) rfl ?_); (try (refine gate_guard (by rfl) ?_; dsimp only)); refine bE 5 #[.int .i64 0] 3 ?_; intro gb652 hg w11 hbox hb; have BK652 := Aside0.mk (hbox); have GE652 := bG hg; replace HB := BS hb; have NB649_652 := bN BK649 hg; have NB652_649 := bM BK649 hg; replace BK649 := KB BK649 hb; have NB650_652 := bN BK650 hg; have NB652_650 := bM BK650 hg; replace BK650 := KB BK650 hb; clear hb hbox hg; have hnb12 := NB652_649.out; have hnc12 := NB649_652.out; have hnb13 := NB652_650.out; have hnc13 := NB650_652.out; have hcz14 := cz1 BK652))
  go_loopg [5] k (fun kq v5 w' => ∃ (gb652 : Nat) (xb : Int), v5 = .pointer (some ⟨gb652, 0, none⟩) ∧ Aside0 (impl_RuleOf.l0 kq a0 l1 xb = some r) ∧ Aside0 (kq ≤ k) ∧ Aside0 (w'.heap[gb649]? = some (.cells #[.string a0] 9 (0, 0))) ∧ Aside0 (w'.heap[gb650]? = some (.cells #[(.slice A1 l1.length c1)] 27 (0, 0))) ∧ Aside0 (w'.heap[gb652]? = some (.cells #[.int .i64 xb] 3 (0, 0))) ∧ Aside0 (gb649 ≠ gb652) ∧ Aside0 (gb650 ≠ gb652) ∧ Aside0 (Below w.heap.size w w'))
  case atStart => exact ⟨_, _, rfl, H', ⟨Nat.le_refl _⟩, ⟨TS⟩, ⟨TS⟩, ⟨TS⟩, NB649_652, NB650_652, ⟨TB⟩⟩
  case round =>
   clear H'
   try clear c1
   try clear p2
   try clear c4
   try clear c7
   try clear c12
   try clear c13
   try clear hcz14
   try clear hcz8
   try clear hcz9
   try clear hfz14_0
   try clear hfz8_0
   try clear hfz9_0
   obtain ⟨gb652, xb, hv_, HA, HK1, BK649, BK650, BK652, NB649_652, NB650_652, HB⟩ := hrel
   subst hv_
   have NB652_649 : Aside0 (gb652 ≠ gb649) := ⟨NB649_652.out.symm⟩
   have NB652_650 : Aside0 (gb652 ≠ gb650) := ⟨NB650_652.out.symm⟩
   cases gk with
   | zero => exact absurd HA.out (by simp [impl_RuleOf.l0])
   | succ k1 =>
    have H := HA.out
    clear HA
    simp only [impl_RuleOf.l0] at H
    by_cases c15 : xb ≤ 6
    ·rw [if_pos c15] at H
     have c15b0 : decide (xb ≤ 6) = true := decide_eq_true c15
     clear c15
     obtain ⟨t653, A16, H⟩ := bnd H
     by_cases c17 : t653 = true
     ·subst c17
      replace H := ift H
      obtain rfl := Option.some.inj H
      have hnb18 := NB652_649.out
      have hnc18 := NB649_652.out
      have hnb19 := NB652_650.out
      have hnc19 := NB650_652.out
      have hcz20 := cz1 BK652
      have hnb21 := NB650_649.out
      have hnc21 := NB649_650.out
      have hcz22 := cz1 BK650
      go_wp2_with (first | ((with_reducible refine gate_callee (f := 66) rfl ?_); refine goesL_ (some 16) rfl rfl Tryz.func66 KR rfl #[.slice A1 l1.length c1, .func (.func 179) #[] #[.pointer (some ⟨gb649, 0, none⟩), .pointer (some ⟨gb650, 0, none⟩), .pointer (some ⟨gb652, 0, none⟩)]] rfl TA ?_; (with_reducible refine (slices_ContainsFunc_impl_Record_impl_Record_RuleOf_1.calls k1 _ _ l1 gb649 gb650 gb652 a0 A1 c1 l1 xb true _ ?side1 ?side2 ?side3 ?side4 ?side5 ?side6 ?side7 A16.out).mono ?_); (case side1 => exact CW ((Kd.C_below HR1.out HB.out))); (case side2 => exact HC1.out); (case side3 => exact CW ((Kd.C_below HR1.out HB.out))); (case side4 => exact HC1.out); (case side5 => exact (KW BK649).out); (case side6 => exact (KW BK650).out); (case side7 => exact (KW BK652).out); rintro e w23 ⟨rfl, hb⟩; refine ⟨_, rfl, ?_⟩; replace BK649 := KB BK649 hb; replace BK650 := KB BK650 hb; replace BK652 := KB BK652 hb; replace HB := BS hb; (try clear hb); (try clear hb2); (try clear hk); (try clear hi); have hcz24 := cz1 BK652))
      go_ret
      exact ⟨TE, TB⟩
     ·replace c17 := Bool.eq_false_iff.mpr c17
      subst c17
      replace H := iff' H
      by_cases c25 : xb = 2
      ·rw [if_pos c25] at H
       have c25b0 : (xb == 2) = true := beq_iff_eq.mpr c25
       have c25b1 : (xb != 2) = false := bne_eq_false_iff_eq.mpr c25
       clear c25
       obtain ⟨t654, A26, H⟩ := bnd H
       by_cases c27 : (t654.length : Int) = 1
       ·rw [if_pos c27] at H
        have c27b0 : ((t654.length : Int) == 1) = true := beq_iff_eq.mpr c27
        have c27b1 : ((t654.length : Int) != 1) = false := bne_eq_false_iff_eq.mpr c27
        clear c27
        have H' := Aside0.mk H
        clear H
        have hnb28 := NB652_649.out
        have hnc28 := NB649_652.out
        have hnb29 := NB652_650.out
        have hnc29 := NB650_652.out
        have hcz30 := cz1 BK652
        have hnb31 := NB650_649.out
        have hnc31 := NB649_650.out
        have hcz32 := cz1 BK650
        go_wp2_with (first | ((with_reducible refine gate_callee (f := 66) rfl ?_); refine goesL_ (some 16) rfl rfl Tryz.func66 KR rfl #[.slice A1 l1.length c1, .func (.func 179) #[] #[.pointer (some ⟨gb649, 0, none⟩), .pointer (some ⟨gb650, 0, none⟩), .pointer (some ⟨gb652, 0, none⟩)]] rfl TA ?_; (with_reducible refine (slices_ContainsFunc_impl_Record_impl_Record_RuleOf_1.calls k1 _ _ l1 gb649 gb650 gb652 a0 A1 c1 l1 xb false _ ?side1 ?side2 ?side3 ?side4 ?side5 ?side6 ?side7 A16.out).mono ?_); (case side1 => exact CW ((Kd.C_below HR1.out HB.out))); (case side2 => exact HC1.out); (case side3 => exact CW ((Kd.C_below HR1.out HB.out))); (case side4 => exact HC1.out); (case side5 => exact (KW BK649).out); (case side6 => exact (KW BK650).out); (case side7 => exact (KW BK652).out); rintro e w33 ⟨rfl, hb⟩; refine ⟨_, rfl, ?_⟩; replace BK649 := KB BK649 hb; replace BK650 := KB BK650 hb; replace BK652 := KB BK652 hb; replace HB := BS hb; (try clear hb); (try clear hb2); (try clear hk); (try clear hi); have hcz34 := cz1 BK652; have hcz35 := cz1 BK650; have hcz36 := cz1 BK649) | (go_at_call 154; (with_reducible refine (impl_at.calls k1 _ _ l1 a0 6 t654 _ ?side1 ?side2 A26.out).mono ?_); (case side1 => exact CW ((Kd.C_below HR1.out HB.out))); (case side2 => exact HC1.out); rintro e w37 ⟨v655, rfl, ho0, hb⟩; have HO656 := RL ho0; replace BK649 := KB BK649 hb; replace BK650 := KB BK650 hb; replace BK652 := KB BK652 hb; replace HB := BS hb; (try clear hb); (try clear hb2); (try clear hk); (try clear hi); (try clear ho0); obtain ⟨Ao38, co38, eo38⟩ := Kd.R_slice HO656.out; subst eo38; have hcz39 := cz1 BK652) | ((with_reducible refine gate_dst (N := 5) rfl ?_); (try (refine gate_guard (by rfl) ?_; dsimp only)); refine bE 5 #[.int .i64 0] 3 ?_; intro gb657 hg w40 hbox hb; replace HO656 := RB HO656 hb; have BK657 := Aside0.mk (hbox); have GE657 := bG hg; replace HB := BS hb; have NB649_657 := bN BK649 hg; have NB657_649 := bM BK649 hg; replace BK649 := KB BK649 hb; have NB650_657 := bN BK650 hg; have NB657_650 := bM BK650 hg; replace BK650 := KB BK650 hb; have NB652_657 := bN BK652 hg; have NB657_652 := bM BK652 hg; replace BK652 := KB BK652 hb; clear hb hbox hg; have hnb41 := NB657_649.out; have hnc41 := NB649_657.out; have hnb42 := NB657_650.out; have hnc42 := NB650_657.out; have hnb43 := NB657_652.out; have hnc43 := NB652_657.out; have hcz44 := cz1 BK657))
        go_roundg k1
        case measure => have := HK1.out; omega
        case rel => exact ⟨_, _, rfl, H', ⟨TM⟩, ⟨TS⟩, ⟨TS⟩, ⟨TS⟩, NB649_657, NB650_657, ⟨TB⟩⟩
       ·rw [if_neg c27] at H
        have c27b0 : ((t654.length : Int) == 1) = false := beq_eq_false_iff_ne.mpr c27
        have c27b1 : ((t654.length : Int) != 1) = true := bne_iff_ne.mpr c27
        obtain rfl := Option.some.inj H
        have hnb45 := NB652_649.out
        have hnc45 := NB649_652.out
        have hnb46 := NB652_650.out
        have hnc46 := NB650_652.out
        have hcz47 := cz1 BK652
        have hnb48 := NB650_649.out
        have hnc48 := NB649_650.out
        have hcz49 := cz1 BK650
        go_wp2_with (first | ((with_reducible refine gate_callee (f := 66) rfl ?_); refine goesL_ (some 16) rfl rfl Tryz.func66 KR rfl #[.slice A1 l1.length c1, .func (.func 179) #[] #[.pointer (some ⟨gb649, 0, none⟩), .pointer (some ⟨gb650, 0, none⟩), .pointer (some ⟨gb652, 0, none⟩)]] rfl TA ?_; (with_reducible refine (slices_ContainsFunc_impl_Record_impl_Record_RuleOf_1.calls k1 _ _ l1 gb649 gb650 gb652 a0 A1 c1 l1 xb false _ ?side1 ?side2 ?side3 ?side4 ?side5 ?side6 ?side7 A16.out).mono ?_); (case side1 => exact CW ((Kd.C_below HR1.out HB.out))); (case side2 => exact HC1.out); (case side3 => exact CW ((Kd.C_below HR1.out HB.out))); (case side4 => exact HC1.out); (case side5 => exact (KW BK649).out); (case side6 => exact (KW BK650).out); (case side7 => exact (KW BK652).out); rintro e w50 ⟨rfl, hb⟩; refine ⟨_, rfl, ?_⟩; replace BK649 := KB BK649 hb; replace BK650 := KB BK650 hb; replace BK652 := KB BK652 hb; replace HB := BS hb; (try clear hb); (try clear hb2); (try clear hk); (try clear hi); have hcz51 := cz1 BK652; have hcz52 := cz1 BK650; have hcz53 := cz1 BK649) | (go_at_call 154; (with_reducible refine (impl_at.calls k1 _ _ l1 a0 6 t654 _ ?side1 ?side2 A26.out).mono ?_); (case side1 => exact CW ((Kd.C_below HR1.out HB.out))); (case side2 => exact HC1.out); rintro e w54 ⟨v655, rfl, ho0, hb⟩; have HO656 := RL ho0; replace BK649 := KB BK649 hb; replace BK650 := KB BK650 hb; replace BK652 := KB BK652 hb; replace HB := BS hb; (try clear hb); (try clear hb2); (try clear hk); (try clear hi); (try clear ho0); obtain ⟨Ao55, co55, eo55⟩ := Kd.R_slice HO656.out; subst eo55; have hcz56 := cz1 BK652))
        go_ret
        exact ⟨TE, TB⟩
      ·rw [if_neg c25] at H
       have c25b0 : (xb == 2) = false := beq_eq_false_iff_ne.mpr c25
       have c25b1 : (xb != 2) = true := bne_iff_ne.mpr c25
       have H' := Aside0.mk H
       clear H
       have hnb57 := NB652_649.out
       have hnc57 := NB649_652.out
       have hnb58 := NB652_650.out
       have hnc58 := NB650_652.out
       have hcz59 := cz1 BK652
       have hnb60 := NB650_649.out
       have hnc60 := NB649_650.out
       have hcz61 := cz1 BK650
       go_wp2_with (first | ((with_reducible refine gate_callee (f := 66) rfl ?_); refine goesL_ (some 16) rfl rfl Tryz.func66 KR rfl #[.slice A1 l1.length c1, .func (.func 179) #[] #[.pointer (some ⟨gb649, 0, none⟩), .pointer (some ⟨gb650, 0, none⟩), .pointer (some ⟨gb652, 0, none⟩)]] rfl TA ?_; (with_reducible refine (slices_ContainsFunc_impl_Record_impl_Record_RuleOf_1.calls k1 _ _ l1 gb649 gb650 gb652 a0 A1 c1 l1 xb false _ ?side1 ?side2 ?side3 ?side4 ?side5 ?side6 ?side7 A16.out).mono ?_); (case side1 => exact CW ((Kd.C_below HR1.out HB.out))); (case side2 => exact HC1.out); (case side3 => exact CW ((Kd.C_below HR1.out HB.out))); (case side4 => exact HC1.out); (case side5 => exact (KW BK649).out); (case side6 => exact (KW BK650).out); (case side7 => exact (KW BK652).out); rintro e w62 ⟨rfl, hb⟩; refine ⟨_, rfl, ?_⟩; replace BK649 := KB BK649 hb; replace BK650 := KB BK650 hb; replace BK652 := KB BK652 hb; replace HB := BS hb; (try clear hb); (try clear hb2); (try clear hk); (try clear hi); have hcz63 := cz1 BK652) | ((with_reducible refine gate_dst (N := 5) rfl ?_); (try (refine gate_guard (by rfl) ?_; dsimp only)); refine bE 5 #[.int .i64 0] 3 ?_; intro gb658 hg w64 hbox hb; have BK658 := Aside0.mk (hbox); have GE658 := bG hg; replace HB := BS hb; have NB649_658 := bN BK649 hg; have NB658_649 := bM BK649 hg; replace BK649 := KB BK649 hb; have NB650_658 := bN BK650 hg; have NB658_650 := bM BK650 hg; replace BK650 := KB BK650 hb; have NB652_658 := bN BK652 hg; have NB658_652 := bM BK652 hg; replace BK652 := KB BK652 hb; clear hb hbox hg; have hnb65 := NB658_649.out; have hnc65 := NB649_658.out; have hnb66 := NB658_650.out; have hnc66 := NB650_658.out; have hnb67 := NB658_652.out; have hnc67 := NB652_658.out; have hcz68 := cz1 BK658))
       go_roundg k1
       case measure => have := HK1.out; omega
       case rel => exact ⟨_, _, rfl, H', ⟨TM⟩, ⟨TS⟩, ⟨TS⟩, ⟨TS⟩, NB649_658, NB650_658, ⟨TB⟩⟩
    ·rw [if_neg c15] at H
     have c15b0 : decide (xb ≤ 6) = false := decide_eq_false c15
     clear c15
     obtain rfl := Option.some.inj H
     have hnb69 := NB652_649.out
     have hnc69 := NB649_652.out
     have hnb70 := NB652_650.out
     have hnc70 := NB650_652.out
     have hcz71 := cz1 BK652
     go_wp2
     go_ret
     exact ⟨TE, TB⟩
 ·replace c4 := Bool.eq_false_iff.mpr c4
  subst c4
  replace H := iff' H
  obtain rfl := Option.some.inj H
  go_enter Tryz.func153, Tryz.ntmps153
  go_wp2_with (first | ((with_reducible refine gate_dst (N := 2) rfl ?_); (try (refine gate_guard (by rfl) ?_; dsimp only)); refine bE 2 #[.string a0] 9 ?_; intro gb649 hg w72 hbox hb; have BK649 := Aside0.mk (hbox); have GE649 := bG hg; replace HB := BS hb; clear hb hbox hg) | ((with_reducible refine gate_dst (N := 3) rfl ?_); (try (refine gate_guard (by rfl) ?_; dsimp only)); refine bE 3 #[.slice A1 l1.length c1] 27 ?_; intro gb650 hg w73 hbox hb; have BK650 := Aside0.mk (hbox); have GE650 := bG hg; replace HB := BS hb; have NB649_650 := bN BK649 hg; have NB650_649 := bM BK649 hg; replace BK649 := KB BK649 hb; clear hb hbox hg; have hnb74 := NB649_650.out; have hnc74 := NB650_649.out; have hcz75 := cz1 BK649; have hcz76 := cz1 BK650) | ((with_reducible refine gate_callee (f := 178) rfl ?_); refine goesL_ (some 8) rfl rfl Tryz.func178 KR rfl #[.string a0, .slice A1 l1.length c1] rfl TA ?_; (with_reducible refine (impl_isWhole.calls k a0 _ _ l1 false _ ?side1 ?side2 ?side3 A3.out).mono ?_); (case side1 => exact CW ((Kd.C_below HR1.out HB.out))); (case side2 => exact HC1.out); (case side3 => exact GW HGL); rintro e w77 ⟨rfl, hb⟩; refine ⟨_, rfl, ?_⟩; replace BK649 := KB BK649 hb; replace BK650 := KB BK650 hb; replace HB := BS hb; (try clear hb); (try clear hb2); (try clear hk); (try clear hi)))
  go_ret
  exact ⟨TE, TB⟩
end
section
/-! ### strconv_Itoa: function 181 -/
def strconv_Itoa.f (a0 : Int) : Option (ByteArray) := if -9223372036854775808 ≤ a0 ∧ a0 ≤ 9223372036854775807 then some ⟨(Go.Lib.itoa a0).toArray⟩ else none
theorem strconv_Itoa.calls (a0 : Int) (r : ByteArray) (w : World) (hG_ : Glob w) (h : strconv_Itoa.f a0 = some r) :
  Calls Tryz.prog 181 #[.int .i64 a0] w fun e w' => e = .returned (.string r) ∧ Below w.heap.size w w' := by
 unfold strconv_Itoa.f at h
 split at h
 ·rename_i h1
  obtain rfl := Option.some.inj h
  exact num_itoa a0 h1.1 h1.2 w hG_
 ·cases h
end
section
/-! ### impl_serialText: function 155 -/
def impl_serialText.f (a0 : Int) : Option (ByteArray) := (strconv_Itoa.f (Int.tmod a0 4294967296)).bind fun t659 => (some t659)
theorem impl_serialText.calls (a0 : Int) (r : ByteArray) (w : World) (hG_ : Glob w) (h : impl_serialText.f a0 = some r) :
  Calls Tryz.prog 155 #[.int .i64 a0] w fun e w' => e = .returned (.string r) ∧ Below w.heap.size w w' := by
 have HGL := Aside0.mk hG_
 clear hG_
 have HB := Aside0.mk (Below.refl w.heap.size w)
 have H : ((strconv_Itoa.f (Int.tmod a0 4294967296)).bind fun t659 => (some t659)) = some r := h
 clear h
 obtain ⟨t659, A2, H⟩ := bnd H
 obtain rfl := Option.some.inj H
 go_enter Tryz.func155, Tryz.ntmps155
 go_wp2_with (first | ((with_reducible refine gate_callee (f := 181) rfl ?_); refine goesL_ (some 5) rfl rfl Tryz.func181 KR rfl #[.int .i64 (Int.tmod a0 4294967296)] rfl TA ?_; (with_reducible refine (strconv_Itoa.calls (Int.tmod a0 4294967296) t659 _ ?side1 A2.out).mono ?_); (case side1 => exact GW HGL); rintro e w3 ⟨rfl, hb⟩; refine ⟨_, rfl, ?_⟩; replace HB := BS hb; (try clear hb); (try clear hb2); (try clear hk); (try clear hi)))
 go_ret
 exact ⟨TE, TB⟩
end
end Go.Proofs.YthohohfmdieohaaGreatDoor.Pp
