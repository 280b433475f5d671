/- The functions that the law reaches, one Lean function and its proof for each; written by wip/pp of this workplace, joined by claimit.py. -/
import Derived.Test.YthohohfmdieohaaGreatDoorProg
import Derived.Below
import Derived.Deep.Draws
import Derived.Deep.AppendLies
import Derived.Maps.AppendAt
import Derived.OwnWalk
import Derived.Laws.BytesArg
import Derived.Laws.MakeOwn
import Derived.Laws.OwnMore
import Derived.Deep.OwnRows
import Derived.Tactics
import Derived.Lib.ConvBytes
import Derived.Laws.Slices
import Derived.WalkKit
import Derived.KernelRfl
import Derived.RowKit3
import Derived.Deep.LoopGhost
import Derived.Deep.QuietTactic
import Derived.BigQuiet
import Derived.WideLaws
import Derived.Deep.DeepCutAuto
import Derived.Deep.CutBlock
import Derived.Deep.RegionHeld3
import Derived.Laws.Rows
import Derived.Lib.AppendStr
import Derived.ArgAppend
import Derived.Laws.IdiomCopy
import Derived.OrdersHeld
import Derived.Laws.BitsLemmas
import Derived.RowKit
import Derived.Test.YthohohfmdieohaaGreatDoorKFnExactGoodCacheW
import Derived.Test.YthohohfmdieohaaGreatDoorJFnExactGoodCache0
namespace Go.Proofs.YthohohfmdieohaaGreatDoor.Pp
open Go.RowKit Go.Proofs.YthohohfmdieohaaGreatDoorW.PrintWords Go.Proofs.YthohohfmdieohaaGreatDoorW.PrintLast Go.Proofs.YthohohfmdieohaaGreatDoorW.PrintMore
attribute [local go_sem] max2_int min2_int max_two min_two max_three min_three max_four min_four   -- for this text's walks alone
set_option linter.unusedVariables false
set_option linter.unusedSimpArgs false
set_option maxHeartbeats 8000000
set_option maxRecDepth 100000

section
/-! ### spec_l10Same: function 84 -/
def spec_l10Same.l0 : Nat → List (S_Record) → List (S_Record) → Int → Int → Option (Bool)
 | 0, _, _, _, _ => none
 | k + 1, x0, x5, x6, x7 => if x7 < x6 then (if 0 ≤ x7 then (if x7 < (x5.length : Int) then ((spec_GoodRecord.f k ((rd_TRecord x5 x7).f0) ((rd_TRecord x5 x7).f1) ((rd_TRecord x5 x7).f2) ((rd_TRecord x5 x7).f3)).bind fun t892 => (if t892 = true then (if 0 < (x0.length : Int) then (if ((rd_TRecord x5 x7).f0).toList = ((rd_TRecord x0 0).f0).toList then (if ((rd_TRecord x5 x7).f1) = ((rd_TRecord x0 0).f1) then (if ((rd_TRecord x5 x7).f2) = ((rd_TRecord x0 0).f2) then (if x7 > 0 then (if 0 ≤ (wrap64 (x7 - 1)) then (if (wrap64 (x7 - 1)) < (x0.length : Int) then ((spec_l3Compare.f k ((rd_TRecord x0 (wrap64 (x7 - 1))).f0) ((rd_TRecord x0 (wrap64 (x7 - 1))).f1) ((rd_TRecord x0 (wrap64 (x7 - 1))).f2) ((rd_TRecord x0 (wrap64 (x7 - 1))).f3) ((rd_TRecord x5 x7).f0) ((rd_TRecord x5 x7).f1) ((rd_TRecord x5 x7).f2) ((rd_TRecord x5 x7).f3)).bind fun t897 => (if t897 ≥ 0 then (some false) else (spec_l10Same.l0 k x0 x5 x6 (wrap64 (x7 + 1))))) else (none)) else (none)) else (spec_l10Same.l0 k x0 x5 x6 (wrap64 (x7 + 1)))) else (some false)) else (some false)) else (some false)) else (none)) else (some false))) else (none)) else (none)) else ((spec_l1In.f (x0.length : Int) 1 12).bind fun t889 => (some t889))
def spec_l10Same.f (k : Nat) (l0 : List (S_Record)) : Option (Bool) := spec_l10Same.l0 k l0 l0 (l0.length : Int) 0
def spec_l10Same.T4 : Bool × List (List Nat × List Nat) := (true, [([], []), ([0], [0]), ([1], [1]), ([2, 1], [2]), ([3], [3]), ([4, 3], [3, 4]), ([3], [3]), ([6, 3], [3, 6]), ([7, 3], [3, 7]), ([8, 3], [3, 8]), ([5, 9, 3], [3, 5, 9]), ([3, 10], [3, 10]), ([11, 3], [11]), ([12], [12]), ([13, 12], [12, 13]), ([12], [12]), ([15, 12], [12, 15]), ([16, 12], [12, 16]), ([17, 12], [12, 17]), ([14, 18, 12], [12, 14, 18]), ([12, 19], [12, 19]), ([20, 12], [20]), ([21], [21]), ([22, 21], [21, 22]), ([21], [21]), ([24, 21], [21, 24]), ([25, 21], [21, 25]), ([26, 21], [21, 26]), ([23, 27, 21], [21, 23, 27]), ([21, 28], [21, 28]), ([29, 21], [29]), ([30], [30]), ([31, 30], [30, 31]), ([32, 30, 30], [30, 32]), ([33], [33]), ([33], [33]), ([35, 33], [33, 35]), ([34, 36, 33], [33, 34, 36]), ([37, 33], [33, 37]), ([33], [33]), ([38, 39, 33, 33], [33, 38, 39]), ([40, 33], [33, 40]), ([33, 41, 30], [30, 33, 41]), ([30, 42], [30, 42])])
def spec_l10Same.B4 : List Nat := [0, 1, 3, 7, 15, 31, 15, 79, 207, 463, 1023, 2047, 4095, 8191, 16383, 8191, 40959, 106495, 237567, 524287, 1048575, 2097151, 4194303, 8388607, 4194303, 20971519, 54525951, 121634815, 268435455, 536870911, 1073741823, 2147483647, 4294967295, 8589934591, 17179869183, 17179869183, 51539607551, 137438953471, 274877906943, 17179869183, 1099511627775, 2199023255551, 4398046511103, 8796093022207]
theorem spec_l10Same.tab4 : rtab .any (opsOf Tryz.f84 4) = spec_l10Same.T4 := by kernel_rfl
theorem spec_l10Same.bits4 : waitsOk spec_l10Same.T4.2 spec_l10Same.B4 = true := by kernel_rfl
theorem spec_l10Same.calls (k : Nat) (A0 : Option Addr) (c0 : Nat) (l0 : List (S_Record)) (r : Bool) (w : World) (hr0 : Kd.C k_Record w A0 l0.length l0) (hc0 : l0.length ≤ c0) (h : spec_l10Same.f k l0 = some r) :
  Calls Tryz.prog 84 #[.slice A0 l0.length c0] w fun e w' => e = .returned (.bool r) ∧ Below w.heap.size w w' := by
 have hu93 := Tryz.underlying93
 have HR0 := Aside0.mk hr0
 have HC0 := Aside0.mk hc0
 clear hr0 hc0
 have HB := Aside0.mk (Below.refl w.heap.size w)
 have H : (spec_l10Same.l0 k l0 l0 (l0.length : Int) 0) = some r := h
 clear h
 have H' := Aside0.mk H
 clear H
 go_enter Tryz.func84, Tryz.ntmps84
 go_wp2
 go_loopg [7] k (fun kq v7 w' => ∃ (x7_1 : Int), v7 = .int .i64 x7_1 ∧ Aside0 (spec_l10Same.l0 kq l0 l0 (l0.length : Int) x7_1 = some r) ∧ Aside0 (kq ≤ k) ∧ Aside0 (Below w.heap.size w w'))
 case atStart => exact ⟨(0), TF, H', ⟨Nat.le_refl _⟩, ⟨TB⟩⟩
 case round =>
  clear H'
  obtain ⟨x7_1, rfl, HA, HK1, HB⟩ := hrel
  cases gk with
  | zero => exact absurd HA.out (by simp [spec_l10Same.l0])
  | succ k1 =>
   have H := HA.out
   clear HA
   simp only [spec_l10Same.l0] at H
   by_cases c2 : x7_1 < (l0.length : Int)
   ·rw [if_pos c2] at H
    have c2b0 : decide (x7_1 < (l0.length : Int)) = true := decide_eq_true c2
    clear c2
    obtain ⟨c3, H⟩ := ifn H
    have c3b0 : decide (0 ≤ x7_1) = true := decide_eq_true c3
    clear c3
    obtain ⟨c4, H⟩ := ifn H
    have c4b0 : decide (x7_1 < (l0.length : Int)) = true := decide_eq_true c4
    clear c4
    obtain ⟨t892, A5, H⟩ := bnd H
    by_cases c6 : t892 = true
    ·subst c6
     replace H := ift H
     obtain ⟨c7, H⟩ := ifn H
     have c7b0 : decide (0 < (l0.length : Int)) = true := decide_eq_true c7
     have c7b1 : decide (0 < l0.length) = true := decide_eq_true (by omega)
     clear c7
     by_cases c8 : ((rd_TRecord l0 x7_1).f0).toList = ((rd_TRecord l0 0).f0).toList
     ·rw [if_pos c8] at H
      have c8b0 : (((rd_TRecord l0 x7_1).f0).toList == ((rd_TRecord l0 0).f0).toList) = true := beq_iff_eq.mpr c8
      have c8b1 : (((rd_TRecord l0 x7_1).f0).toList != ((rd_TRecord l0 0).f0).toList) = false := bne_eq_false_iff_eq.mpr c8
      clear c8
      by_cases c9 : ((rd_TRecord l0 x7_1).f1) = ((rd_TRecord l0 0).f1)
      ·rw [if_pos c9] at H
       have c9b0 : (((rd_TRecord l0 x7_1).f1) == ((rd_TRecord l0 0).f1)) = true := beq_iff_eq.mpr c9
       have c9b1 : (((rd_TRecord l0 x7_1).f1) != ((rd_TRecord l0 0).f1)) = false := bne_eq_false_iff_eq.mpr c9
       clear c9
       by_cases c10 : ((rd_TRecord l0 x7_1).f2) = ((rd_TRecord l0 0).f2)
       ·rw [if_pos c10] at H
        have c10b0 : (((rd_TRecord l0 x7_1).f2) == ((rd_TRecord l0 0).f2)) = true := beq_iff_eq.mpr c10
        have c10b1 : (((rd_TRecord l0 x7_1).f2) != ((rd_TRecord l0 0).f2)) = false := bne_eq_false_iff_eq.mpr c10
        clear c10
        by_cases c11 : x7_1 > 0
        ·rw [if_pos c11] at H
         have c11b0 : decide (0 < x7_1) = true := decide_eq_true c11
         clear c11
         obtain ⟨ji12, hji12⟩ : ∃ j_ : Int, (wrap64 (x7_1 - 1)) = j_ := ⟨_, rfl⟩
         replace H : (if 0 ≤ (ji12) then (if (ji12) < (l0.length : Int) then ((spec_l3Compare.f k1 ((rd_TRecord l0 (ji12)).f0) ((rd_TRecord l0 (ji12)).f1) ((rd_TRecord l0 (ji12)).f2) ((rd_TRecord l0 (ji12)).f3) ((rd_TRecord l0 x7_1).f0) ((rd_TRecord l0 x7_1).f1) ((rd_TRecord l0 x7_1).f2) ((rd_TRecord l0 x7_1).f3)).bind fun t897 => (if t897 ≥ 0 then (some false) else (spec_l10Same.l0 k1 l0 l0 (l0.length : Int) (wrap64 (x7_1 + 1))))) else (none)) else (none)) = some r := by first | (rw [hji12] at H; exact H) | (simp only [hji12] at H ⊢; exact H)
         (try rw [hji12] at A5)
         have hji12w : (IntKind.i64.wrap (x7_1 - 1)) = ji12 := (i64_w _).trans hji12
         obtain ⟨c13, H⟩ := ifn H
         have c13b0 : decide (0 ≤ (ji12)) = true := decide_eq_true c13
         clear c13
         obtain ⟨c14, H⟩ := ifn H
         have c14b0 : decide ((ji12) < (l0.length : Int)) = true := decide_eq_true c14
         clear c14
         obtain ⟨t897, A15, H⟩ := bnd H
         by_cases c16 : t897 ≥ 0
         ·rw [if_pos c16] at H
          have c16b0 : decide (0 ≤ t897) = true := decide_eq_true c16
          clear c16
          obtain rfl := Option.some.inj H
          have p890 : 0 ≤ (x7_1 : Int) := TD
          have q890 : x7_1 < (l0.length : Int) := TD
          obtain ⟨ad890, e890, hx890_0, hx890_1, hx890_2, hx890_3⟩ := at_TRecord (Kd.C_below HR0.out HB.out) x7_1 p890 q890
          cases e890
          replace p890 := eq_true p890
          replace q890 := eq_true q890
          try go_wp2_with (first | ((with_reducible refine gate_dst (N := 4) rfl ?_); refine bE 4 #[.string (⟨#[]⟩ : ByteArray), .int .i64 0, .int .i64 0, .string (⟨#[]⟩ : ByteArray)] 93 ?_; intro gb891 hg w17 hbox hb; have BK891 := Aside0.mk (hbox); have GE891 := bG hg; replace HB := BS hb; clear hb hbox hg; have hcz18 := cz4 BK891))
          have n0_ : Aside0 (((((w17.setCell ⟨gb891, 0, none⟩ (.string ((rd_TRecord l0 x7_1).f0))).setCell ⟨gb891, 1, none⟩ (.int .i64 ((rd_TRecord l0 x7_1).f1))).setCell ⟨gb891, 2, none⟩ (.int .i64 ((rd_TRecord l0 x7_1).f2))).setCell ⟨gb891, 3, none⟩ (.string ((rd_TRecord l0 x7_1).f3))).heap[gb891]? = some (.cells #[.string ((rd_TRecord l0 x7_1).f0), .int .i64 ((rd_TRecord l0 x7_1).f1), .int .i64 ((rd_TRecord l0 x7_1).f2), .string ((rd_TRecord l0 x7_1).f3)] 93 (0, 0))) := ⟨TS⟩
          have n1_ : Aside0 (Below w.heap.size w ((((w17.setCell ⟨gb891, 0, none⟩ (.string ((rd_TRecord l0 x7_1).f0))).setCell ⟨gb891, 1, none⟩ (.int .i64 ((rd_TRecord l0 x7_1).f1))).setCell ⟨gb891, 2, none⟩ (.int .i64 ((rd_TRecord l0 x7_1).f2))).setCell ⟨gb891, 3, none⟩ (.string ((rd_TRecord l0 x7_1).f3)))) := ⟨TB⟩
          (try clear BK891)
          (try clear HB)
          generalize ((((w17.setCell ⟨gb891, 0, none⟩ (.string ((rd_TRecord l0 x7_1).f0))).setCell ⟨gb891, 1, none⟩ (.int .i64 ((rd_TRecord l0 x7_1).f1))).setCell ⟨gb891, 2, none⟩ (.int .i64 ((rd_TRecord l0 x7_1).f2))).setCell ⟨gb891, 3, none⟩ (.string ((rd_TRecord l0 x7_1).f3))) = w19 at n0_ n1_ ⊢
          have BK891 := n0_
          have HB := n1_
          clear n0_ n1_
          replace BK891 := Aside0.mk (blk_drew BK891.out)
          replace HB := Aside0.mk (below_drew1 HB.out)
          have p893 : 0 ≤ (0 : Int) := (by omega)
          have q893 : 0 < (l0.length : Int) := TD
          obtain ⟨ad893, e893, hx893_0, hx893_1, hx893_2, hx893_3⟩ := at_TRecord HR0.out 0 p893 q893
          have hw893_3 := hx893_3
          (try rw [show ((0 : Int)).toNat = 0 from rfl] at hw893_3)
          (try rw [show 0 * 4 = 0 from rfl] at hw893_3)
          (try rw [Addr.add_zero'] at hw893_3)
          have hw893_2 := hx893_2
          (try rw [show ((0 : Int)).toNat = 0 from rfl] at hw893_2)
          (try rw [show 0 * 4 = 0 from rfl] at hw893_2)
          (try rw [Addr.add_zero'] at hw893_2)
          have hw893_1 := hx893_1
          (try rw [show ((0 : Int)).toNat = 0 from rfl] at hw893_1)
          (try rw [show 0 * 4 = 0 from rfl] at hw893_1)
          (try rw [Addr.add_zero'] at hw893_1)
          have hw893_0 := hx893_0
          (try rw [show ((0 : Int)).toNat = 0 from rfl] at hw893_0)
          (try rw [show 0 * 4 = 0 from rfl] at hw893_0)
          (try rw [Addr.add_zero'] at hw893_0)
          obtain rfl : ad890 = ad893 := (by injection e893)
          have qi893 : (0 < l0.length) = True := eq_true (by omega)
          (try rw [show ((0 : Int)).toNat = 0 from rfl] at hx893_0)
          (try rw [show 0 * 4 = 0 from rfl] at hx893_0)
          (try rw [Addr.add_zero'] at hx893_0)
          (try rw [show ((0 : Int)).toNat = 0 from rfl] at hx893_1)
          (try rw [show 0 * 4 = 0 from rfl] at hx893_1)
          (try rw [Addr.add_zero'] at hx893_1)
          (try rw [show ((0 : Int)).toNat = 0 from rfl] at hx893_2)
          (try rw [show 0 * 4 = 0 from rfl] at hx893_2)
          (try rw [Addr.add_zero'] at hx893_2)
          (try rw [show ((0 : Int)).toNat = 0 from rfl] at hx893_3)
          (try rw [show 0 * 4 = 0 from rfl] at hx893_3)
          (try rw [Addr.add_zero'] at hx893_3)
          replace hx893_0 := hBc HB hx893_0
          replace hx893_1 := hBc HB hx893_1
          replace hx893_2 := hBc HB hx893_2
          replace hx893_3 := hBc HB hx893_3
          replace p893 := eq_true p893
          replace q893 := eq_true q893
          have p894 : 0 ≤ (0 : Int) := (by omega)
          have q894 : 0 < (l0.length : Int) := TD
          obtain ⟨ad894, e894, hx894_0, hx894_1, hx894_2, hx894_3⟩ := at_TRecord HR0.out 0 p894 q894
          have hw894_3 := hx894_3
          (try rw [show ((0 : Int)).toNat = 0 from rfl] at hw894_3)
          (try rw [show 0 * 4 = 0 from rfl] at hw894_3)
          (try rw [Addr.add_zero'] at hw894_3)
          have hw894_2 := hx894_2
          (try rw [show ((0 : Int)).toNat = 0 from rfl] at hw894_2)
          (try rw [show 0 * 4 = 0 from rfl] at hw894_2)
          (try rw [Addr.add_zero'] at hw894_2)
          have hw894_1 := hx894_1
          (try rw [show ((0 : Int)).toNat = 0 from rfl] at hw894_1)
          (try rw [show 0 * 4 = 0 from rfl] at hw894_1)
          (try rw [Addr.add_zero'] at hw894_1)
          have hw894_0 := hx894_0
          (try rw [show ((0 : Int)).toNat = 0 from rfl] at hw894_0)
          (try rw [show 0 * 4 = 0 from rfl] at hw894_0)
          (try rw [Addr.add_zero'] at hw894_0)
          obtain rfl : ad890 = ad894 := (by injection e894)
          have qi894 : (0 < l0.length) = True := eq_true (by omega)
          (try rw [show ((0 : Int)).toNat = 0 from rfl] at hx894_0)
          (try rw [show 0 * 4 = 0 from rfl] at hx894_0)
          (try rw [Addr.add_zero'] at hx894_0)
          (try rw [show ((0 : Int)).toNat = 0 from rfl] at hx894_1)
          (try rw [show 0 * 4 = 0 from rfl] at hx894_1)
          (try rw [Addr.add_zero'] at hx894_1)
          (try rw [show ((0 : Int)).toNat = 0 from rfl] at hx894_2)
          (try rw [show 0 * 4 = 0 from rfl] at hx894_2)
          (try rw [Addr.add_zero'] at hx894_2)
          (try rw [show ((0 : Int)).toNat = 0 from rfl] at hx894_3)
          (try rw [show 0 * 4 = 0 from rfl] at hx894_3)
          (try rw [Addr.add_zero'] at hx894_3)
          replace hx894_0 := hBc HB hx894_0
          replace hx894_1 := hBc HB hx894_1
          replace hx894_2 := hBc HB hx894_2
          replace hx894_3 := hBc HB hx894_3
          replace p894 := eq_true p894
          replace q894 := eq_true q894
          have p895 : 0 ≤ (0 : Int) := (by omega)
          have q895 : 0 < (l0.length : Int) := TD
          obtain ⟨ad895, e895, hx895_0, hx895_1, hx895_2, hx895_3⟩ := at_TRecord HR0.out 0 p895 q895
          have hw895_3 := hx895_3
          (try rw [show ((0 : Int)).toNat = 0 from rfl] at hw895_3)
          (try rw [show 0 * 4 = 0 from rfl] at hw895_3)
          (try rw [Addr.add_zero'] at hw895_3)
          have hw895_2 := hx895_2
          (try rw [show ((0 : Int)).toNat = 0 from rfl] at hw895_2)
          (try rw [show 0 * 4 = 0 from rfl] at hw895_2)
          (try rw [Addr.add_zero'] at hw895_2)
          have hw895_1 := hx895_1
          (try rw [show ((0 : Int)).toNat = 0 from rfl] at hw895_1)
          (try rw [show 0 * 4 = 0 from rfl] at hw895_1)
          (try rw [Addr.add_zero'] at hw895_1)
          have hw895_0 := hx895_0
          (try rw [show ((0 : Int)).toNat = 0 from rfl] at hw895_0)
          (try rw [show 0 * 4 = 0 from rfl] at hw895_0)
          (try rw [Addr.add_zero'] at hw895_0)
          obtain rfl : ad890 = ad895 := (by injection e895)
          have qi895 : (0 < l0.length) = True := eq_true (by omega)
          (try rw [show ((0 : Int)).toNat = 0 from rfl] at hx895_0)
          (try rw [show 0 * 4 = 0 from rfl] at hx895_0)
          (try rw [Addr.add_zero'] at hx895_0)
          (try rw [show ((0 : Int)).toNat = 0 from rfl] at hx895_1)
          (try rw [show 0 * 4 = 0 from rfl] at hx895_1)
          (try rw [Addr.add_zero'] at hx895_1)
          (try rw [show ((0 : Int)).toNat = 0 from rfl] at hx895_2)
          (try rw [show 0 * 4 = 0 from rfl] at hx895_2)
          (try rw [Addr.add_zero'] at hx895_2)
          (try rw [show ((0 : Int)).toNat = 0 from rfl] at hx895_3)
          (try rw [show 0 * 4 = 0 from rfl] at hx895_3)
          (try rw [Addr.add_zero'] at hx895_3)
          replace hx895_0 := hBc HB hx895_0
          replace hx895_1 := hBc HB hx895_1
          replace hx895_2 := hBc HB hx895_2
          replace hx895_3 := hBc HB hx895_3
          replace p895 := eq_true p895
          replace q895 := eq_true q895
          have p896 : 0 ≤ ((ji12) : Int) := TD
          have q896 : (ji12) < (l0.length : Int) := TD
          obtain ⟨ad896, e896, hx896_0, hx896_1, hx896_2, hx896_3⟩ := at_TRecord HR0.out (ji12) p896 q896
          have hw896_3 := hx896_3
          have hw896_2 := hx896_2
          have hw896_1 := hx896_1
          have hw896_0 := hx896_0
          obtain rfl : ad890 = ad896 := (by injection e896)
          replace hx896_0 := hBc HB hx896_0
          replace hx896_1 := hBc HB hx896_1
          replace hx896_2 := hBc HB hx896_2
          replace hx896_3 := hBc HB hx896_3
          replace p896 := eq_true p896
          replace q896 := eq_true q896
          refine start_ (n := 44) (S := fun w' => w'.cell? ⟨gb891, 0, none⟩ = some (.string ((rd_TRecord l0 x7_1).f0)) ∧ w'.cell? ⟨gb891, 1, none⟩ = some (.int .i64 ((rd_TRecord l0 x7_1).f1)) ∧ w'.cell? ⟨gb891, 2, none⟩ = some (.int .i64 ((rd_TRecord l0 x7_1).f2)) ∧ w'.cell? ⟨gb891, 3, none⟩ = some (.string ((rd_TRecord l0 x7_1).f3)) ∧ w'.cell? ad890 = some (.string ((rd_TRecord l0 0).f0)) ∧ w'.cell? ⟨ad890.block, ad890.off + 1, none⟩ = some (.int .i64 ((rd_TRecord l0 0).f1)) ∧ w'.cell? ⟨ad890.block, ad890.off + 2, none⟩ = some (.int .i64 ((rd_TRecord l0 0).f2)) ∧ w'.cell? ⟨ad890.block, ad890.off + 3, none⟩ = some (.string ((rd_TRecord l0 0).f3)) ∧ w'.cell? ad890 = some (.string ((rd_TRecord l0 0).f0)) ∧ w'.cell? ⟨ad890.block, ad890.off + 1, none⟩ = some (.int .i64 ((rd_TRecord l0 0).f1)) ∧ w'.cell? ⟨ad890.block, ad890.off + 2, none⟩ = some (.int .i64 ((rd_TRecord l0 0).f2)) ∧ w'.cell? ⟨ad890.block, ad890.off + 3, none⟩ = some (.string ((rd_TRecord l0 0).f3)) ∧ w'.cell? ad890 = some (.string ((rd_TRecord l0 0).f0)) ∧ w'.cell? ⟨ad890.block, ad890.off + 1, none⟩ = some (.int .i64 ((rd_TRecord l0 0).f1)) ∧ w'.cell? ⟨ad890.block, ad890.off + 2, none⟩ = some (.int .i64 ((rd_TRecord l0 0).f2)) ∧ w'.cell? ⟨ad890.block, ad890.off + 3, none⟩ = some (.string ((rd_TRecord l0 0).f3)) ∧ w'.cell? (ad890.add (((ji12)).toNat * 4)) = some (.string ((rd_TRecord l0 (ji12)).f0)) ∧ w'.cell? ⟨(ad890.add (((ji12)).toNat * 4)).block, (ad890.add (((ji12)).toNat * 4)).off + 1, none⟩ = some (.int .i64 ((rd_TRecord l0 (ji12)).f1)) ∧ w'.cell? ⟨(ad890.add (((ji12)).toNat * 4)).block, (ad890.add (((ji12)).toNat * 4)).off + 2, none⟩ = some (.int .i64 ((rd_TRecord l0 (ji12)).f2)) ∧ w'.cell? ⟨(ad890.add (((ji12)).toNat * 4)).block, (ad890.add (((ji12)).toNat * 4)).off + 3, none⟩ = some (.string ((rd_TRecord l0 (ji12)).f3))) (ds := []) #[false, false, false, false, false, false, false, false, false, false, false, false, false, false, false, false, false, false, false, false, false, false, false, false, false, false, false, false, false, false, false, false, false, false, false, false, false, false, false, false, false, false, false, false] KR rfl rfl ⟨bc 0 BK891, bc 1 BK891, bc 2 BK891, bc 3 BK891, ((HB.out.cell (World.block_lt_of_cell? w _ hw893_0)).trans hw893_0), ((HB.out.cell (World.block_lt_of_cell? w _ hw893_1)).trans hw893_1), ((HB.out.cell (World.block_lt_of_cell? w _ hw893_2)).trans hw893_2), ((HB.out.cell (World.block_lt_of_cell? w _ hw893_3)).trans hw893_3), ((HB.out.cell (World.block_lt_of_cell? w _ hw894_0)).trans hw894_0), ((HB.out.cell (World.block_lt_of_cell? w _ hw894_1)).trans hw894_1), ((HB.out.cell (World.block_lt_of_cell? w _ hw894_2)).trans hw894_2), ((HB.out.cell (World.block_lt_of_cell? w _ hw894_3)).trans hw894_3), ((HB.out.cell (World.block_lt_of_cell? w _ hw895_0)).trans hw895_0), ((HB.out.cell (World.block_lt_of_cell? w _ hw895_1)).trans hw895_1), ((HB.out.cell (World.block_lt_of_cell? w _ hw895_2)).trans hw895_2), ((HB.out.cell (World.block_lt_of_cell? w _ hw895_3)).trans hw895_3), ((HB.out.cell (World.block_lt_of_cell? w _ hw896_0)).trans hw896_0), ((HB.out.cell (World.block_lt_of_cell? w _ hw896_1)).trans hw896_1), ((HB.out.cell (World.block_lt_of_cell? w _ hw896_2)).trans hw896_2), ((HB.out.cell (World.block_lt_of_cell? w _ hw896_3)).trans hw896_3)⟩ (fun hHeld => ?_); refine with_tabW spec_l10Same.tab4 spec_l10Same.bits4 (fun HT_ HW_ => ?_)
          generalize w19.drew = w20 at BK891 HB hx893_0 hx893_1 hx893_2 hx893_3 hx894_0 hx894_1 hx894_2 hx894_3 hx895_0 hx895_1 hx895_2 hx895_3 hx896_0 hx896_1 hx896_2 hx896_3 hHeld ⊢
          refine tA 0 12 (mL 44 1) HT_ HW_ hHeld rfl rfl (by rintro w' ⟨s0, s1, s2, s3, s4, s5, s6, s7, s8, s9, s10, s11, s12, s13, s14, s15, s16, s17, s18, s19⟩; go_simp; with_reducible rfl) ?_
          refine one_ (i := 1) (N := some 13) (mL 44 3) rfl rfl (one_of HT_.out KR) (by decide) (fun K hK => ?_)
          refine goes_ Tryz.func118 KR rfl #[.agg #[.string ((rd_TRecord l0 x7_1).f0), .int .i64 ((rd_TRecord l0 x7_1).f1), .int .i64 ((rd_TRecord l0 x7_1).f2), .string ((rd_TRecord l0 x7_1).f3)]] (by rfl) rfl rfl TA ?_
          with_reducible refine (spec_GoodRecord.calls k1 ((rd_TRecord l0 x7_1).f0) ((rd_TRecord l0 x7_1).f1) ((rd_TRecord l0 x7_1).f2) ((rd_TRecord l0 x7_1).f3) true _ A5.out).mono ?_
          rintro e w21 ⟨rfl, hb⟩
          refine ⟨_, rfl, ?_⟩
          replace BK891 := KB BK891 hb
          replace HB := BS hb
          (try clear hb)
          (try clear hb2)
          (try clear hk)
          (try clear hi)
          refine hK.out _ _ ⟨bc 0 BK891, bc 1 BK891, bc 2 BK891, bc 3 BK891, ((HB.out.cell (World.block_lt_of_cell? w _ hw893_0)).trans hw893_0), ((HB.out.cell (World.block_lt_of_cell? w _ hw893_1)).trans hw893_1), ((HB.out.cell (World.block_lt_of_cell? w _ hw893_2)).trans hw893_2), ((HB.out.cell (World.block_lt_of_cell? w _ hw893_3)).trans hw893_3), ((HB.out.cell (World.block_lt_of_cell? w _ hw894_0)).trans hw894_0), ((HB.out.cell (World.block_lt_of_cell? w _ hw894_1)).trans hw894_1), ((HB.out.cell (World.block_lt_of_cell? w _ hw894_2)).trans hw894_2), ((HB.out.cell (World.block_lt_of_cell? w _ hw894_3)).trans hw894_3), ((HB.out.cell (World.block_lt_of_cell? w _ hw895_0)).trans hw895_0), ((HB.out.cell (World.block_lt_of_cell? w _ hw895_1)).trans hw895_1), ((HB.out.cell (World.block_lt_of_cell? w _ hw895_2)).trans hw895_2), ((HB.out.cell (World.block_lt_of_cell? w _ hw895_3)).trans hw895_3), ((HB.out.cell (World.block_lt_of_cell? w _ hw896_0)).trans hw896_0), ((HB.out.cell (World.block_lt_of_cell? w _ hw896_1)).trans hw896_1), ((HB.out.cell (World.block_lt_of_cell? w _ hw896_2)).trans hw896_2), ((HB.out.cell (World.block_lt_of_cell? w _ hw896_3)).trans hw896_3)⟩ (fun hHeld => ?_)
          clear hK K
          refine nA ?_
          refine pA 2 14 (mL 44 7) HT_ rfl rfl ?_
          refine pA 3 15 (mL 44 15) HT_ rfl rfl ?_
          refine pA 4 16 (mL 44 31) HT_ rfl rfl ?_
          refine pA 6 18 (mL 44 95) HT_ rfl rfl ?_
          refine pA 7 19 (mL 44 223) HT_ rfl rfl ?_
          refine pA 8 20 (mL 44 479) HT_ rfl rfl ?_
          refine tA 5 17 (mL 44 511) HT_ HW_ hHeld rfl rfl (by rintro w' ⟨s0, s1, s2, s3, s4, s5, s6, s7, s8, s9, s10, s11, s12, s13, s14, s15, s16, s17, s18, s19⟩; go_simp; with_reducible rfl) ?_
          refine tA 9 21 (mL 44 1023) HT_ HW_ hHeld rfl rfl (by rintro w' ⟨s0, s1, s2, s3, s4, s5, s6, s7, s8, s9, s10, s11, s12, s13, s14, s15, s16, s17, s18, s19⟩; go_simp; with_reducible rfl) ?_
          refine pA 10 22 (mL 44 2047) HT_ rfl rfl ?_
          refine pA 11 23 (mL 44 4095) HT_ rfl rfl ?_
          refine pA 12 24 (mL 44 8191) HT_ rfl rfl ?_
          refine pA 13 25 (mL 44 16383) HT_ rfl rfl ?_
          refine pA 15 27 (mL 44 49151) HT_ rfl rfl ?_
          refine pA 16 28 (mL 44 114687) HT_ rfl rfl ?_
          refine pA 17 29 (mL 44 245759) HT_ rfl rfl ?_
          refine tA 14 26 (mL 44 262143) HT_ HW_ hHeld rfl rfl (by rintro w' ⟨s0, s1, s2, s3, s4, s5, s6, s7, s8, s9, s10, s11, s12, s13, s14, s15, s16, s17, s18, s19⟩; go_simp; with_reducible rfl) ?_
          refine tA 18 30 (mL 44 524287) HT_ HW_ hHeld rfl rfl (by rintro w' ⟨s0, s1, s2, s3, s4, s5, s6, s7, s8, s9, s10, s11, s12, s13, s14, s15, s16, s17, s18, s19⟩; go_simp; with_reducible rfl) ?_
          refine pA 19 31 (mL 44 1048575) HT_ rfl rfl ?_
          refine pA 20 32 (mL 44 2097151) HT_ rfl rfl ?_
          refine pA 21 33 (mL 44 4194303) HT_ rfl rfl ?_
          refine pA 22 34 (mL 44 8388607) HT_ rfl rfl ?_
          refine pA 24 36 (mL 44 25165823) HT_ rfl rfl ?_
          refine pA 25 37 (mL 44 58720255) HT_ rfl rfl ?_
          refine pA 26 38 (mL 44 125829119) HT_ rfl rfl ?_
          refine tA 23 35 (mL 44 134217727) HT_ HW_ hHeld rfl rfl (by rintro w' ⟨s0, s1, s2, s3, s4, s5, s6, s7, s8, s9, s10, s11, s12, s13, s14, s15, s16, s17, s18, s19⟩; go_simp; with_reducible rfl) ?_
          refine tA 27 39 (mL 44 268435455) HT_ HW_ hHeld rfl rfl (by rintro w' ⟨s0, s1, s2, s3, s4, s5, s6, s7, s8, s9, s10, s11, s12, s13, s14, s15, s16, s17, s18, s19⟩; go_simp; with_reducible rfl) ?_
          refine pA 28 40 (mL 44 536870911) HT_ rfl rfl ?_
          refine pA 29 41 (mL 44 1073741823) HT_ rfl rfl ?_
          refine pA 30 42 (mL 44 2147483647) HT_ rfl rfl ?_
          refine pA 31 43 (mL 44 4294967295) HT_ rfl rfl ?_
          refine pA 32 44 (mL 44 8589934591) HT_ rfl rfl ?_
          refine pA 33 45 (mL 44 17179869183) HT_ rfl rfl ?_
          refine pA 34 46 (mL 44 34359738367) HT_ rfl rfl ?_
          refine pA 35 47 (mL 44 68719476735) HT_ rfl rfl ?_
          refine pA 36 48 (mL 44 137438953471) HT_ rfl rfl ?_
          refine pA 37 49 (mL 44 274877906943) HT_ rfl rfl ?_
          refine tA 38 50 (mL 44 549755813887) HT_ HW_ hHeld rfl rfl (by rintro w' ⟨s0, s1, s2, s3, s4, s5, s6, s7, s8, s9, s10, s11, s12, s13, s14, s15, s16, s17, s18, s19⟩; go_simp; with_reducible rfl) ?_
          refine tA 39 51 (mL 44 1099511627775) HT_ HW_ hHeld rfl rfl (by rintro w' ⟨s0, s1, s2, s3, s4, s5, s6, s7, s8, s9, s10, s11, s12, s13, s14, s15, s16, s17, s18, s19⟩; go_simp; with_reducible rfl) ?_
          refine one_ (i := 40) (N := some 52) (mL 44 2199023255551) rfl rfl (one_of HT_.out KR) (by decide) (fun K hK => ?_)
          refine goes_ Tryz.func119 KR rfl #[.agg #[.string ((rd_TRecord l0 (ji12)).f0), .int .i64 ((rd_TRecord l0 (ji12)).f1), .int .i64 ((rd_TRecord l0 (ji12)).f2), .string ((rd_TRecord l0 (ji12)).f3)], .agg #[.string ((rd_TRecord l0 x7_1).f0), .int .i64 ((rd_TRecord l0 x7_1).f1), .int .i64 ((rd_TRecord l0 x7_1).f2), .string ((rd_TRecord l0 x7_1).f3)]] (by rfl) rfl rfl (by (try simp only [List.map_toArray, List.map_cons, List.map_nil]); first | done | (simp only [hji12]; rfl) | rfl | (simp only [List.length_drop, List.length_take]; rfl)) ?_
          with_reducible refine (spec_l3Compare.calls k1 ((rd_TRecord l0 (ji12)).f0) ((rd_TRecord l0 (ji12)).f1) ((rd_TRecord l0 (ji12)).f2) ((rd_TRecord l0 (ji12)).f3) ((rd_TRecord l0 x7_1).f0) ((rd_TRecord l0 x7_1).f1) ((rd_TRecord l0 x7_1).f2) ((rd_TRecord l0 x7_1).f3) t897 _ A15.out).mono ?_
          rintro e w22 ⟨rfl, hb⟩
          refine ⟨_, rfl, ?_⟩
          replace BK891 := KB BK891 hb
          replace HB := BS hb
          (try clear hb)
          (try clear hb2)
          (try clear hk)
          (try clear hi)
          refine hK.out _ _ ⟨bc 0 BK891, bc 1 BK891, bc 2 BK891, bc 3 BK891, ((HB.out.cell (World.block_lt_of_cell? w _ hw893_0)).trans hw893_0), ((HB.out.cell (World.block_lt_of_cell? w _ hw893_1)).trans hw893_1), ((HB.out.cell (World.block_lt_of_cell? w _ hw893_2)).trans hw893_2), ((HB.out.cell (World.block_lt_of_cell? w _ hw893_3)).trans hw893_3), ((HB.out.cell (World.block_lt_of_cell? w _ hw894_0)).trans hw894_0), ((HB.out.cell (World.block_lt_of_cell? w _ hw894_1)).trans hw894_1), ((HB.out.cell (World.block_lt_of_cell? w _ hw894_2)).trans hw894_2), ((HB.out.cell (World.block_lt_of_cell? w _ hw894_3)).trans hw894_3), ((HB.out.cell (World.block_lt_of_cell? w _ hw895_0)).trans hw895_0), ((HB.out.cell (World.block_lt_of_cell? w _ hw895_1)).trans hw895_1), ((HB.out.cell (World.block_lt_of_cell? w _ hw895_2)).trans hw895_2), ((HB.out.cell (World.block_lt_of_cell? w _ hw895_3)).trans hw895_3), ((HB.out.cell (World.block_lt_of_cell? w _ hw896_0)).trans hw896_0), ((HB.out.cell (World.block_lt_of_cell? w _ hw896_1)).trans hw896_1), ((HB.out.cell (World.block_lt_of_cell? w _ hw896_2)).trans hw896_2), ((HB.out.cell (World.block_lt_of_cell? w _ hw896_3)).trans hw896_3)⟩ (fun hHeld => ?_)
          clear hK K
          refine nA ?_
          refine pA 41 53 (mL 44 4398046511103) HT_ rfl rfl ?_
          refine pA 42 54 (mL 44 8796093022207) HT_ rfl rfl ?_
          refine pA 43 55 (mL 44 17592186044415) HT_ rfl rfl ?_
          refine done_ (done_of HT_.out KR) ?_
          try go_wp2
          go_ret
          exact ⟨by first | rfl | (simp [errW_none, errW_some] <;> rfl) | (simp only [← hji12]; first | rfl | (simp [errW_none, errW_some] <;> rfl)) | (simp [*, errW_none, errW_some] <;> rfl), TB⟩
         ·rw [if_neg c16] at H
          have c16b0 : decide (0 ≤ t897) = false := decide_eq_false c16
          clear c16
          have H' := Aside0.mk H
          clear H
          have p890 : 0 ≤ (x7_1 : Int) := TD
          have q890 : x7_1 < (l0.length : Int) := TD
          obtain ⟨ad890, e890, hx890_0, hx890_1, hx890_2, hx890_3⟩ := at_TRecord (Kd.C_below HR0.out HB.out) x7_1 p890 q890
          cases e890
          replace p890 := eq_true p890
          replace q890 := eq_true q890
          try go_wp2_with (first | ((with_reducible refine gate_dst (N := 4) rfl ?_); refine bE 4 #[.string (⟨#[]⟩ : ByteArray), .int .i64 0, .int .i64 0, .string (⟨#[]⟩ : ByteArray)] 93 ?_; intro gb891 hg w23 hbox hb; have BK891 := Aside0.mk (hbox); have GE891 := bG hg; replace HB := BS hb; clear hb hbox hg; have hcz24 := cz4 BK891))
          have n0_ : Aside0 (((((w23.setCell ⟨gb891, 0, none⟩ (.string ((rd_TRecord l0 x7_1).f0))).setCell ⟨gb891, 1, none⟩ (.int .i64 ((rd_TRecord l0 x7_1).f1))).setCell ⟨gb891, 2, none⟩ (.int .i64 ((rd_TRecord l0 x7_1).f2))).setCell ⟨gb891, 3, none⟩ (.string ((rd_TRecord l0 x7_1).f3))).heap[gb891]? = some (.cells #[.string ((rd_TRecord l0 x7_1).f0), .int .i64 ((rd_TRecord l0 x7_1).f1), .int .i64 ((rd_TRecord l0 x7_1).f2), .string ((rd_TRecord l0 x7_1).f3)] 93 (0, 0))) := ⟨TS⟩
          have n1_ : Aside0 (Below w.heap.size w ((((w23.setCell ⟨gb891, 0, none⟩ (.string ((rd_TRecord l0 x7_1).f0))).setCell ⟨gb891, 1, none⟩ (.int .i64 ((rd_TRecord l0 x7_1).f1))).setCell ⟨gb891, 2, none⟩ (.int .i64 ((rd_TRecord l0 x7_1).f2))).setCell ⟨gb891, 3, none⟩ (.string ((rd_TRecord l0 x7_1).f3)))) := ⟨TB⟩
          (try clear BK891)
          (try clear HB)
          generalize ((((w23.setCell ⟨gb891, 0, none⟩ (.string ((rd_TRecord l0 x7_1).f0))).setCell ⟨gb891, 1, none⟩ (.int .i64 ((rd_TRecord l0 x7_1).f1))).setCell ⟨gb891, 2, none⟩ (.int .i64 ((rd_TRecord l0 x7_1).f2))).setCell ⟨gb891, 3, none⟩ (.string ((rd_TRecord l0 x7_1).f3))) = w25 at n0_ n1_ ⊢
          have BK891 := n0_
          have HB := n1_
          clear n0_ n1_
          replace BK891 := Aside0.mk (blk_drew BK891.out)
          replace HB := Aside0.mk (below_drew1 HB.out)
          have p893 : 0 ≤ (0 : Int) := (by omega)
          have q893 : 0 < (l0.length : Int) := TD
          obtain ⟨ad893, e893, hx893_0, hx893_1, hx893_2, hx893_3⟩ := at_TRecord HR0.out 0 p893 q893
          have hw893_3 := hx893_3
          (try rw [show ((0 : Int)).toNat = 0 from rfl] at hw893_3)
          (try rw [show 0 * 4 = 0 from rfl] at hw893_3)
          (try rw [Addr.add_zero'] at hw893_3)
          have hw893_2 := hx893_2
          (try rw [show ((0 : Int)).toNat = 0 from rfl] at hw893_2)
          (try rw [show 0 * 4 = 0 from rfl] at hw893_2)
          (try rw [Addr.add_zero'] at hw893_2)
          have hw893_1 := hx893_1
          (try rw [show ((0 : Int)).toNat = 0 from rfl] at hw893_1)
          (try rw [show 0 * 4 = 0 from rfl] at hw893_1)
          (try rw [Addr.add_zero'] at hw893_1)
          have hw893_0 := hx893_0
          (try rw [show ((0 : Int)).toNat = 0 from rfl] at hw893_0)
          (try rw [show 0 * 4 = 0 from rfl] at hw893_0)
          (try rw [Addr.add_zero'] at hw893_0)
          obtain rfl : ad890 = ad893 := (by injection e893)
          have qi893 : (0 < l0.length) = True := eq_true (by omega)
          (try rw [show ((0 : Int)).toNat = 0 from rfl] at hx893_0)
          (try rw [show 0 * 4 = 0 from rfl] at hx893_0)
          (try rw [Addr.add_zero'] at hx893_0)
          (try rw [show ((0 : Int)).toNat = 0 from rfl] at hx893_1)
          (try rw [show 0 * 4 = 0 from rfl] at hx893_1)
          (try rw [Addr.add_zero'] at hx893_1)
          (try rw [show ((0 : Int)).toNat = 0 from rfl] at hx893_2)
          (try rw [show 0 * 4 = 0 from rfl] at hx893_2)
          (try rw [Addr.add_zero'] at hx893_2)
          (try rw [show ((0 : Int)).toNat = 0 from rfl] at hx893_3)
          (try rw [show 0 * 4 = 0 from rfl] at hx893_3)
          (try rw [Addr.add_zero'] at hx893_3)
          replace hx893_0 := hBc HB hx893_0
          replace hx893_1 := hBc HB hx893_1
          replace hx893_2 := hBc HB hx893_2
          replace hx893_3 := hBc HB hx893_3
          replace p893 := eq_true p893
          replace q893 := eq_true q893
          have p894 : 0 ≤ (0 : Int) := (by omega)
          have q894 : 0 < (l0.length : Int) := TD
          obtain ⟨ad894, e894, hx894_0, hx894_1, hx894_2, hx894_3⟩ := at_TRecord HR0.out 0 p894 q894
          have hw894_3 := hx894_3
          (try rw [show ((0 : Int)).toNat = 0 from rfl] at hw894_3)
          (try rw [show 0 * 4 = 0 from rfl] at hw894_3)
          (try rw [Addr.add_zero'] at hw894_3)
          have hw894_2 := hx894_2
          (try rw [show ((0 : Int)).toNat = 0 from rfl] at hw894_2)
          (try rw [show 0 * 4 = 0 from rfl] at hw894_2)
          (try rw [Addr.add_zero'] at hw894_2)
          have hw894_1 := hx894_1
          (try rw [show ((0 : Int)).toNat = 0 from rfl] at hw894_1)
          (try rw [show 0 * 4 = 0 from rfl] at hw894_1)
          (try rw [Addr.add_zero'] at hw894_1)
          have hw894_0 := hx894_0
          (try rw [show ((0 : Int)).toNat = 0 from rfl] at hw894_0)
          (try rw [show 0 * 4 = 0 from rfl] at hw894_0)
          (try rw [Addr.add_zero'] at hw894_0)
          obtain rfl : ad890 = ad894 := (by injection e894)
          have qi894 : (0 < l0.length) = True := eq_true (by omega)
          (try rw [show ((0 : Int)).toNat = 0 from rfl] at hx894_0)
          (try rw [show 0 * 4 = 0 from rfl] at hx894_0)
          (try rw [Addr.add_zero'] at hx894_0)
          (try rw [show ((0 : Int)).toNat = 0 from rfl] at hx894_1)
          (try rw [show 0 * 4 = 0 from rfl] at hx894_1)
          (try rw [Addr.add_zero'] at hx894_1)
          (try rw [show ((0 : Int)).toNat = 0 from rfl] at hx894_2)
          (try rw [show 0 * 4 = 0 from rfl] at hx894_2)
          (try rw [Addr.add_zero'] at hx894_2)
          (try rw [show ((0 : Int)).toNat = 0 from rfl] at hx894_3)
          (try rw [show 0 * 4 = 0 from rfl] at hx894_3)
          (try rw [Addr.add_zero'] at hx894_3)
          replace hx894_0 := hBc HB hx894_0
          replace hx894_1 := hBc HB hx894_1
          replace hx894_2 := hBc HB hx894_2
          replace hx894_3 := hBc HB hx894_3
          replace p894 := eq_true p894
          replace q894 := eq_true q894
          have p895 : 0 ≤ (0 : Int) := (by omega)
          have q895 : 0 < (l0.length : Int) := TD
          obtain ⟨ad895, e895, hx895_0, hx895_1, hx895_2, hx895_3⟩ := at_TRecord HR0.out 0 p895 q895
          have hw895_3 := hx895_3
          (try rw [show ((0 : Int)).toNat = 0 from rfl] at hw895_3)
          (try rw [show 0 * 4 = 0 from rfl] at hw895_3)
          (try rw [Addr.add_zero'] at hw895_3)
          have hw895_2 := hx895_2
          (try rw [show ((0 : Int)).toNat = 0 from rfl] at hw895_2)
          (try rw [show 0 * 4 = 0 from rfl] at hw895_2)
          (try rw [Addr.add_zero'] at hw895_2)
          have hw895_1 := hx895_1
          (try rw [show ((0 : Int)).toNat = 0 from rfl] at hw895_1)
          (try rw [show 0 * 4 = 0 from rfl] at hw895_1)
          (try rw [Addr.add_zero'] at hw895_1)
          have hw895_0 := hx895_0
          (try rw [show ((0 : Int)).toNat = 0 from rfl] at hw895_0)
          (try rw [show 0 * 4 = 0 from rfl] at hw895_0)
          (try rw [Addr.add_zero'] at hw895_0)
          obtain rfl : ad890 = ad895 := (by injection e895)
          have qi895 : (0 < l0.length) = True := eq_true (by omega)
          (try rw [show ((0 : Int)).toNat = 0 from rfl] at hx895_0)
          (try rw [show 0 * 4 = 0 from rfl] at hx895_0)
          (try rw [Addr.add_zero'] at hx895_0)
          (try rw [show ((0 : Int)).toNat = 0 from rfl] at hx895_1)
          (try rw [show 0 * 4 = 0 from rfl] at hx895_1)
          (try rw [Addr.add_zero'] at hx895_1)
          (try rw [show ((0 : Int)).toNat = 0 from rfl] at hx895_2)
          (try rw [show 0 * 4 = 0 from rfl] at hx895_2)
          (try rw [Addr.add_zero'] at hx895_2)
          (try rw [show ((0 : Int)).toNat = 0 from rfl] at hx895_3)
          (try rw [show 0 * 4 = 0 from rfl] at hx895_3)
          (try rw [Addr.add_zero'] at hx895_3)
          replace hx895_0 := hBc HB hx895_0
          replace hx895_1 := hBc HB hx895_1
          replace hx895_2 := hBc HB hx895_2
          replace hx895_3 := hBc HB hx895_3
          replace p895 := eq_true p895
          replace q895 := eq_true q895
          have p896 : 0 ≤ ((ji12) : Int) := TD
          have q896 : (ji12) < (l0.length : Int) := TD
          obtain ⟨ad896, e896, hx896_0, hx896_1, hx896_2, hx896_3⟩ := at_TRecord HR0.out (ji12) p896 q896
          have hw896_3 := hx896_3
          have hw896_2 := hx896_2
          have hw896_1 := hx896_1
          have hw896_0 := hx896_0
          obtain rfl : ad890 = ad896 := (by injection e896)
          replace hx896_0 := hBc HB hx896_0
          replace hx896_1 := hBc HB hx896_1
          replace hx896_2 := hBc HB hx896_2
          replace hx896_3 := hBc HB hx896_3
          replace p896 := eq_true p896
          replace q896 := eq_true q896
          refine start_ (n := 44) (S := fun w' => w'.cell? ⟨gb891, 0, none⟩ = some (.string ((rd_TRecord l0 x7_1).f0)) ∧ w'.cell? ⟨gb891, 1, none⟩ = some (.int .i64 ((rd_TRecord l0 x7_1).f1)) ∧ w'.cell? ⟨gb891, 2, none⟩ = some (.int .i64 ((rd_TRecord l0 x7_1).f2)) ∧ w'.cell? ⟨gb891, 3, none⟩ = some (.string ((rd_TRecord l0 x7_1).f3)) ∧ w'.cell? ad890 = some (.string ((rd_TRecord l0 0).f0)) ∧ w'.cell? ⟨ad890.block, ad890.off + 1, none⟩ = some (.int .i64 ((rd_TRecord l0 0).f1)) ∧ w'.cell? ⟨ad890.block, ad890.off + 2, none⟩ = some (.int .i64 ((rd_TRecord l0 0).f2)) ∧ w'.cell? ⟨ad890.block, ad890.off + 3, none⟩ = some (.string ((rd_TRecord l0 0).f3)) ∧ w'.cell? ad890 = some (.string ((rd_TRecord l0 0).f0)) ∧ w'.cell? ⟨ad890.block, ad890.off + 1, none⟩ = some (.int .i64 ((rd_TRecord l0 0).f1)) ∧ w'.cell? ⟨ad890.block, ad890.off + 2, none⟩ = some (.int .i64 ((rd_TRecord l0 0).f2)) ∧ w'.cell? ⟨ad890.block, ad890.off + 3, none⟩ = some (.string ((rd_TRecord l0 0).f3)) ∧ w'.cell? ad890 = some (.string ((rd_TRecord l0 0).f0)) ∧ w'.cell? ⟨ad890.block, ad890.off + 1, none⟩ = some (.int .i64 ((rd_TRecord l0 0).f1)) ∧ w'.cell? ⟨ad890.block, ad890.off + 2, none⟩ = some (.int .i64 ((rd_TRecord l0 0).f2)) ∧ w'.cell? ⟨ad890.block, ad890.off + 3, none⟩ = some (.string ((rd_TRecord l0 0).f3)) ∧ w'.cell? (ad890.add (((ji12)).toNat * 4)) = some (.string ((rd_TRecord l0 (ji12)).f0)) ∧ w'.cell? ⟨(ad890.add (((ji12)).toNat * 4)).block, (ad890.add (((ji12)).toNat * 4)).off + 1, none⟩ = some (.int .i64 ((rd_TRecord l0 (ji12)).f1)) ∧ w'.cell? ⟨(ad890.add (((ji12)).toNat * 4)).block, (ad890.add (((ji12)).toNat * 4)).off + 2, none⟩ = some (.int .i64 ((rd_TRecord l0 (ji12)).f2)) ∧ w'.cell? ⟨(ad890.add (((ji12)).toNat * 4)).block, (ad890.add (((ji12)).toNat * 4)).off + 3, none⟩ = some (.string ((rd_TRecord l0 (ji12)).f3))) (ds := []) #[false, false, false, false, false, false, false, false, false, false, false, false, false, false, false, false, false, false, false, false, false, false, false, false, false, false, false, false, false, false, false, false, false, false, false, false, false, false, false, false, false, false, false, false] KR rfl rfl ⟨bc 0 BK891, bc 1 BK891, bc 2 BK891, bc 3 BK891, ((HB.out.cell (World.block_lt_of_cell? w _ hw893_0)).trans hw893_0), ((HB.out.cell (World.block_lt_of_cell? w _ hw893_1)).trans hw893_1), ((HB.out.cell (World.block_lt_of_cell? w _ hw893_2)).trans hw893_2), ((HB.out.cell (World.block_lt_of_cell? w _ hw893_3)).trans hw893_3), ((HB.out.cell (World.block_lt_of_cell? w _ hw894_0)).trans hw894_0), ((HB.out.cell (World.block_lt_of_cell? w _ hw894_1)).trans hw894_1), ((HB.out.cell (World.block_lt_of_cell? w _ hw894_2)).trans hw894_2), ((HB.out.cell (World.block_lt_of_cell? w _ hw894_3)).trans hw894_3), ((HB.out.cell (World.block_lt_of_cell? w _ hw895_0)).trans hw895_0), ((HB.out.cell (World.block_lt_of_cell? w _ hw895_1)).trans hw895_1), ((HB.out.cell (World.block_lt_of_cell? w _ hw895_2)).trans hw895_2), ((HB.out.cell (World.block_lt_of_cell? w _ hw895_3)).trans hw895_3), ((HB.out.cell (World.block_lt_of_cell? w _ hw896_0)).trans hw896_0), ((HB.out.cell (World.block_lt_of_cell? w _ hw896_1)).trans hw896_1), ((HB.out.cell (World.block_lt_of_cell? w _ hw896_2)).trans hw896_2), ((HB.out.cell (World.block_lt_of_cell? w _ hw896_3)).trans hw896_3)⟩ (fun hHeld => ?_); refine with_tabW spec_l10Same.tab4 spec_l10Same.bits4 (fun HT_ HW_ => ?_)
          generalize w25.drew = w26 at BK891 HB hx893_0 hx893_1 hx893_2 hx893_3 hx894_0 hx894_1 hx894_2 hx894_3 hx895_0 hx895_1 hx895_2 hx895_3 hx896_0 hx896_1 hx896_2 hx896_3 hHeld ⊢
          refine tA 0 12 (mL 44 1) HT_ HW_ hHeld rfl rfl (by rintro w' ⟨s0, s1, s2, s3, s4, s5, s6, s7, s8, s9, s10, s11, s12, s13, s14, s15, s16, s17, s18, s19⟩; go_simp; with_reducible rfl) ?_
          refine one_ (i := 1) (N := some 13) (mL 44 3) rfl rfl (one_of HT_.out KR) (by decide) (fun K hK => ?_)
          refine goes_ Tryz.func118 KR rfl #[.agg #[.string ((rd_TRecord l0 x7_1).f0), .int .i64 ((rd_TRecord l0 x7_1).f1), .int .i64 ((rd_TRecord l0 x7_1).f2), .string ((rd_TRecord l0 x7_1).f3)]] (by rfl) rfl rfl TA ?_
          with_reducible refine (spec_GoodRecord.calls k1 ((rd_TRecord l0 x7_1).f0) ((rd_TRecord l0 x7_1).f1) ((rd_TRecord l0 x7_1).f2) ((rd_TRecord l0 x7_1).f3) true _ A5.out).mono ?_
          rintro e w27 ⟨rfl, hb⟩
          refine ⟨_, rfl, ?_⟩
          replace BK891 := KB BK891 hb
          replace HB := BS hb
          (try clear hb)
          (try clear hb2)
          (try clear hk)
          (try clear hi)
          refine hK.out _ _ ⟨bc 0 BK891, bc 1 BK891, bc 2 BK891, bc 3 BK891, ((HB.out.cell (World.block_lt_of_cell? w _ hw893_0)).trans hw893_0), ((HB.out.cell (World.block_lt_of_cell? w _ hw893_1)).trans hw893_1), ((HB.out.cell (World.block_lt_of_cell? w _ hw893_2)).trans hw893_2), ((HB.out.cell (World.block_lt_of_cell? w _ hw893_3)).trans hw893_3), ((HB.out.cell (World.block_lt_of_cell? w _ hw894_0)).trans hw894_0), ((HB.out.cell (World.block_lt_of_cell? w _ hw894_1)).trans hw894_1), ((HB.out.cell (World.block_lt_of_cell? w _ hw894_2)).trans hw894_2), ((HB.out.cell (World.block_lt_of_cell? w _ hw894_3)).trans hw894_3), ((HB.out.cell (World.block_lt_of_cell? w _ hw895_0)).trans hw895_0), ((HB.out.cell (World.block_lt_of_cell? w _ hw895_1)).trans hw895_1), ((HB.out.cell (World.block_lt_of_cell? w _ hw895_2)).trans hw895_2), ((HB.out.cell (World.block_lt_of_cell? w _ hw895_3)).trans hw895_3), ((HB.out.cell (World.block_lt_of_cell? w _ hw896_0)).trans hw896_0), ((HB.out.cell (World.block_lt_of_cell? w _ hw896_1)).trans hw896_1), ((HB.out.cell (World.block_lt_of_cell? w _ hw896_2)).trans hw896_2), ((HB.out.cell (World.block_lt_of_cell? w _ hw896_3)).trans hw896_3)⟩ (fun hHeld => ?_)
          clear hK K
          refine nA ?_
          refine pA 2 14 (mL 44 7) HT_ rfl rfl ?_
          refine pA 3 15 (mL 44 15) HT_ rfl rfl ?_
          refine pA 4 16 (mL 44 31) HT_ rfl rfl ?_
          refine pA 6 18 (mL 44 95) HT_ rfl rfl ?_
          refine pA 7 19 (mL 44 223) HT_ rfl rfl ?_
          refine pA 8 20 (mL 44 479) HT_ rfl rfl ?_
          refine tA 5 17 (mL 44 511) HT_ HW_ hHeld rfl rfl (by rintro w' ⟨s0, s1, s2, s3, s4, s5, s6, s7, s8, s9, s10, s11, s12, s13, s14, s15, s16, s17, s18, s19⟩; go_simp; with_reducible rfl) ?_
          refine tA 9 21 (mL 44 1023) HT_ HW_ hHeld rfl rfl (by rintro w' ⟨s0, s1, s2, s3, s4, s5, s6, s7, s8, s9, s10, s11, s12, s13, s14, s15, s16, s17, s18, s19⟩; go_simp; with_reducible rfl) ?_
          refine pA 10 22 (mL 44 2047) HT_ rfl rfl ?_
          refine pA 11 23 (mL 44 4095) HT_ rfl rfl ?_
          refine pA 12 24 (mL 44 8191) HT_ rfl rfl ?_
          refine pA 13 25 (mL 44 16383) HT_ rfl rfl ?_
          refine pA 15 27 (mL 44 49151) HT_ rfl rfl ?_
          refine pA 16 28 (mL 44 114687) HT_ rfl rfl ?_
          refine pA 17 29 (mL 44 245759) HT_ rfl rfl ?_
          refine tA 14 26 (mL 44 262143) HT_ HW_ hHeld rfl rfl (by rintro w' ⟨s0, s1, s2, s3, s4, s5, s6, s7, s8, s9, s10, s11, s12, s13, s14, s15, s16, s17, s18, s19⟩; go_simp; with_reducible rfl) ?_
          refine tA 18 30 (mL 44 524287) HT_ HW_ hHeld rfl rfl (by rintro w' ⟨s0, s1, s2, s3, s4, s5, s6, s7, s8, s9, s10, s11, s12, s13, s14, s15, s16, s17, s18, s19⟩; go_simp; with_reducible rfl) ?_
          refine pA 19 31 (mL 44 1048575) HT_ rfl rfl ?_
          refine pA 20 32 (mL 44 2097151) HT_ rfl rfl ?_
          refine pA 21 33 (mL 44 4194303) HT_ rfl rfl ?_
          refine pA 22 34 (mL 44 8388607) HT_ rfl rfl ?_
          refine pA 24 36 (mL 44 25165823) HT_ rfl rfl ?_
          refine pA 25 37 (mL 44 58720255) HT_ rfl rfl ?_
          refine pA 26 38 (mL 44 125829119) HT_ rfl rfl ?_
          refine tA 23 35 (mL 44 134217727) HT_ HW_ hHeld rfl rfl (by rintro w' ⟨s0, s1, s2, s3, s4, s5, s6, s7, s8, s9, s10, s11, s12, s13, s14, s15, s16, s17, s18, s19⟩; go_simp; with_reducible rfl) ?_
          refine tA 27 39 (mL 44 268435455) HT_ HW_ hHeld rfl rfl (by rintro w' ⟨s0, s1, s2, s3, s4, s5, s6, s7, s8, s9, s10, s11, s12, s13, s14, s15, s16, s17, s18, s19⟩; go_simp; with_reducible rfl) ?_
          refine pA 28 40 (mL 44 536870911) HT_ rfl rfl ?_
          refine pA 29 41 (mL 44 1073741823) HT_ rfl rfl ?_
          refine pA 30 42 (mL 44 2147483647) HT_ rfl rfl ?_
          refine pA 31 43 (mL 44 4294967295) HT_ rfl rfl ?_
          refine pA 32 44 (mL 44 8589934591) HT_ rfl rfl ?_
          refine pA 33 45 (mL 44 17179869183) HT_ rfl rfl ?_
          refine pA 34 46 (mL 44 34359738367) HT_ rfl rfl ?_
          refine pA 35 47 (mL 44 68719476735) HT_ rfl rfl ?_
          refine pA 36 48 (mL 44 137438953471) HT_ rfl rfl ?_
          refine pA 37 49 (mL 44 274877906943) HT_ rfl rfl ?_
          refine tA 38 50 (mL 44 549755813887) HT_ HW_ hHeld rfl rfl (by rintro w' ⟨s0, s1, s2, s3, s4, s5, s6, s7, s8, s9, s10, s11, s12, s13, s14, s15, s16, s17, s18, s19⟩; go_simp; with_reducible rfl) ?_
          refine tA 39 51 (mL 44 1099511627775) HT_ HW_ hHeld rfl rfl (by rintro w' ⟨s0, s1, s2, s3, s4, s5, s6, s7, s8, s9, s10, s11, s12, s13, s14, s15, s16, s17, s18, s19⟩; go_simp; with_reducible rfl) ?_
          refine one_ (i := 40) (N := some 52) (mL 44 2199023255551) rfl rfl (one_of HT_.out KR) (by decide) (fun K hK => ?_)
          refine goes_ Tryz.func119 KR rfl #[.agg #[.string ((rd_TRecord l0 (ji12)).f0), .int .i64 ((rd_TRecord l0 (ji12)).f1), .int .i64 ((rd_TRecord l0 (ji12)).f2), .string ((rd_TRecord l0 (ji12)).f3)], .agg #[.string ((rd_TRecord l0 x7_1).f0), .int .i64 ((rd_TRecord l0 x7_1).f1), .int .i64 ((rd_TRecord l0 x7_1).f2), .string ((rd_TRecord l0 x7_1).f3)]] (by rfl) rfl rfl (by (try simp only [List.map_toArray, List.map_cons, List.map_nil]); first | done | (simp only [hji12]; rfl) | rfl | (simp only [List.length_drop, List.length_take]; rfl)) ?_
          with_reducible refine (spec_l3Compare.calls k1 ((rd_TRecord l0 (ji12)).f0) ((rd_TRecord l0 (ji12)).f1) ((rd_TRecord l0 (ji12)).f2) ((rd_TRecord l0 (ji12)).f3) ((rd_TRecord l0 x7_1).f0) ((rd_TRecord l0 x7_1).f1) ((rd_TRecord l0 x7_1).f2) ((rd_TRecord l0 x7_1).f3) t897 _ A15.out).mono ?_
          rintro e w28 ⟨rfl, hb⟩
          refine ⟨_, rfl, ?_⟩
          replace BK891 := KB BK891 hb
          replace HB := BS hb
          (try clear hb)
          (try clear hb2)
          (try clear hk)
          (try clear hi)
          refine hK.out _ _ ⟨bc 0 BK891, bc 1 BK891, bc 2 BK891, bc 3 BK891, ((HB.out.cell (World.block_lt_of_cell? w _ hw893_0)).trans hw893_0), ((HB.out.cell (World.block_lt_of_cell? w _ hw893_1)).trans hw893_1), ((HB.out.cell (World.block_lt_of_cell? w _ hw893_2)).trans hw893_2), ((HB.out.cell (World.block_lt_of_cell? w _ hw893_3)).trans hw893_3), ((HB.out.cell (World.block_lt_of_cell? w _ hw894_0)).trans hw894_0), ((HB.out.cell (World.block_lt_of_cell? w _ hw894_1)).trans hw894_1), ((HB.out.cell (World.block_lt_of_cell? w _ hw894_2)).trans hw894_2), ((HB.out.cell (World.block_lt_of_cell? w _ hw894_3)).trans hw894_3), ((HB.out.cell (World.block_lt_of_cell? w _ hw895_0)).trans hw895_0), ((HB.out.cell (World.block_lt_of_cell? w _ hw895_1)).trans hw895_1), ((HB.out.cell (World.block_lt_of_cell? w _ hw895_2)).trans hw895_2), ((HB.out.cell (World.block_lt_of_cell? w _ hw895_3)).trans hw895_3), ((HB.out.cell (World.block_lt_of_cell? w _ hw896_0)).trans hw896_0), ((HB.out.cell (World.block_lt_of_cell? w _ hw896_1)).trans hw896_1), ((HB.out.cell (World.block_lt_of_cell? w _ hw896_2)).trans hw896_2), ((HB.out.cell (World.block_lt_of_cell? w _ hw896_3)).trans hw896_3)⟩ (fun hHeld => ?_)
          clear hK K
          refine nA ?_
          refine pA 41 53 (mL 44 4398046511103) HT_ rfl rfl ?_
          refine pA 42 54 (mL 44 8796093022207) HT_ rfl rfl ?_
          refine pA 43 55 (mL 44 17592186044415) HT_ rfl rfl ?_
          refine done_ (done_of HT_.out KR) ?_
          try go_wp2
          go_roundg k1
          case measure => have := HK1.out; omega
          case rel => exact ⟨(wrap64 (x7_1 + 1)), TF, H', ⟨TM⟩, ⟨TB⟩⟩
        ·rw [if_neg c11] at H
         have c11b0 : decide (0 < x7_1) = false := decide_eq_false c11
         clear c11
         have H' := Aside0.mk H
         clear H
         have p890 : 0 ≤ (x7_1 : Int) := TD
         have q890 : x7_1 < (l0.length : Int) := TD
         obtain ⟨ad890, e890, hx890_0, hx890_1, hx890_2, hx890_3⟩ := at_TRecord (Kd.C_below HR0.out HB.out) x7_1 p890 q890
         cases e890
         replace p890 := eq_true p890
         replace q890 := eq_true q890
         try go_wp2_with (first | ((with_reducible refine gate_dst (N := 4) rfl ?_); refine bE 4 #[.string (⟨#[]⟩ : ByteArray), .int .i64 0, .int .i64 0, .string (⟨#[]⟩ : ByteArray)] 93 ?_; intro gb891 hg w29 hbox hb; have BK891 := Aside0.mk (hbox); have GE891 := bG hg; replace HB := BS hb; clear hb hbox hg; have hcz30 := cz4 BK891))
         have n0_ : Aside0 (((((w29.setCell ⟨gb891, 0, none⟩ (.string ((rd_TRecord l0 x7_1).f0))).setCell ⟨gb891, 1, none⟩ (.int .i64 ((rd_TRecord l0 x7_1).f1))).setCell ⟨gb891, 2, none⟩ (.int .i64 ((rd_TRecord l0 x7_1).f2))).setCell ⟨gb891, 3, none⟩ (.string ((rd_TRecord l0 x7_1).f3))).heap[gb891]? = some (.cells #[.string ((rd_TRecord l0 x7_1).f0), .int .i64 ((rd_TRecord l0 x7_1).f1), .int .i64 ((rd_TRecord l0 x7_1).f2), .string ((rd_TRecord l0 x7_1).f3)] 93 (0, 0))) := ⟨TS⟩
         have n1_ : Aside0 (Below w.heap.size w ((((w29.setCell ⟨gb891, 0, none⟩ (.string ((rd_TRecord l0 x7_1).f0))).setCell ⟨gb891, 1, none⟩ (.int .i64 ((rd_TRecord l0 x7_1).f1))).setCell ⟨gb891, 2, none⟩ (.int .i64 ((rd_TRecord l0 x7_1).f2))).setCell ⟨gb891, 3, none⟩ (.string ((rd_TRecord l0 x7_1).f3)))) := ⟨TB⟩
         (try clear BK891)
         (try clear HB)
         generalize ((((w29.setCell ⟨gb891, 0, none⟩ (.string ((rd_TRecord l0 x7_1).f0))).setCell ⟨gb891, 1, none⟩ (.int .i64 ((rd_TRecord l0 x7_1).f1))).setCell ⟨gb891, 2, none⟩ (.int .i64 ((rd_TRecord l0 x7_1).f2))).setCell ⟨gb891, 3, none⟩ (.string ((rd_TRecord l0 x7_1).f3))) = w31 at n0_ n1_ ⊢
         have BK891 := n0_
         have HB := n1_
         clear n0_ n1_
         replace BK891 := Aside0.mk (blk_drew BK891.out)
         replace HB := Aside0.mk (below_drew1 HB.out)
         have p893 : 0 ≤ (0 : Int) := (by omega)
         have q893 : 0 < (l0.length : Int) := TD
         obtain ⟨ad893, e893, hx893_0, hx893_1, hx893_2, hx893_3⟩ := at_TRecord HR0.out 0 p893 q893
         have hw893_3 := hx893_3
         (try rw [show ((0 : Int)).toNat = 0 from rfl] at hw893_3)
         (try rw [show 0 * 4 = 0 from rfl] at hw893_3)
         (try rw [Addr.add_zero'] at hw893_3)
         have hw893_2 := hx893_2
         (try rw [show ((0 : Int)).toNat = 0 from rfl] at hw893_2)
         (try rw [show 0 * 4 = 0 from rfl] at hw893_2)
         (try rw [Addr.add_zero'] at hw893_2)
         have hw893_1 := hx893_1
         (try rw [show ((0 : Int)).toNat = 0 from rfl] at hw893_1)
         (try rw [show 0 * 4 = 0 from rfl] at hw893_1)
         (try rw [Addr.add_zero'] at hw893_1)
         have hw893_0 := hx893_0
         (try rw [show ((0 : Int)).toNat = 0 from rfl] at hw893_0)
         (try rw [show 0 * 4 = 0 from rfl] at hw893_0)
         (try rw [Addr.add_zero'] at hw893_0)
         obtain rfl : ad890 = ad893 := (by injection e893)
         have qi893 : (0 < l0.length) = True := eq_true (by omega)
         (try rw [show ((0 : Int)).toNat = 0 from rfl] at hx893_0)
         (try rw [show 0 * 4 = 0 from rfl] at hx893_0)
         (try rw [Addr.add_zero'] at hx893_0)
         (try rw [show ((0 : Int)).toNat = 0 from rfl] at hx893_1)
         (try rw [show 0 * 4 = 0 from rfl] at hx893_1)
         (try rw [Addr.add_zero'] at hx893_1)
         (try rw [show ((0 : Int)).toNat = 0 from rfl] at hx893_2)
         (try rw [show 0 * 4 = 0 from rfl] at hx893_2)
         (try rw [Addr.add_zero'] at hx893_2)
         (try rw [show ((0 : Int)).toNat = 0 from rfl] at hx893_3)
         (try rw [show 0 * 4 = 0 from rfl] at hx893_3)
         (try rw [Addr.add_zero'] at hx893_3)
         replace hx893_0 := hBc HB hx893_0
         replace hx893_1 := hBc HB hx893_1
         replace hx893_2 := hBc HB hx893_2
         replace hx893_3 := hBc HB hx893_3
         replace p893 := eq_true p893
         replace q893 := eq_true q893
         have p894 : 0 ≤ (0 : Int) := (by omega)
         have q894 : 0 < (l0.length : Int) := TD
         obtain ⟨ad894, e894, hx894_0, hx894_1, hx894_2, hx894_3⟩ := at_TRecord HR0.out 0 p894 q894
         have hw894_3 := hx894_3
         (try rw [show ((0 : Int)).toNat = 0 from rfl] at hw894_3)
         (try rw [show 0 * 4 = 0 from rfl] at hw894_3)
         (try rw [Addr.add_zero'] at hw894_3)
         have hw894_2 := hx894_2
         (try rw [show ((0 : Int)).toNat = 0 from rfl] at hw894_2)
         (try rw [show 0 * 4 = 0 from rfl] at hw894_2)
         (try rw [Addr.add_zero'] at hw894_2)
         have hw894_1 := hx894_1
         (try rw [show ((0 : Int)).toNat = 0 from rfl] at hw894_1)
         (try rw [show 0 * 4 = 0 from rfl] at hw894_1)
         (try rw [Addr.add_zero'] at hw894_1)
         have hw894_0 := hx894_0
         (try rw [show ((0 : Int)).toNat = 0 from rfl] at hw894_0)
         (try rw [show 0 * 4 = 0 from rfl] at hw894_0)
         (try rw [Addr.add_zero'] at hw894_0)
         obtain rfl : ad890 = ad894 := (by injection e894)
         have qi894 : (0 < l0.length) = True := eq_true (by omega)
         (try rw [show ((0 : Int)).toNat = 0 from rfl] at hx894_0)
         (try rw [show 0 * 4 = 0 from rfl] at hx894_0)
         (try rw [Addr.add_zero'] at hx894_0)
         (try rw [show ((0 : Int)).toNat = 0 from rfl] at hx894_1)
         (try rw [show 0 * 4 = 0 from rfl] at hx894_1)
         (try rw [Addr.add_zero'] at hx894_1)
         (try rw [show ((0 : Int)).toNat = 0 from rfl] at hx894_2)
         (try rw [show 0 * 4 = 0 from rfl] at hx894_2)
         (try rw [Addr.add_zero'] at hx894_2)
         (try rw [show ((0 : Int)).toNat = 0 from rfl] at hx894_3)
         (try rw [show 0 * 4 = 0 from rfl] at hx894_3)
         (try rw [Addr.add_zero'] at hx894_3)
         replace hx894_0 := hBc HB hx894_0
         replace hx894_1 := hBc HB hx894_1
         replace hx894_2 := hBc HB hx894_2
         replace hx894_3 := hBc HB hx894_3
         replace p894 := eq_true p894
         replace q894 := eq_true q894
         have p895 : 0 ≤ (0 : Int) := (by omega)
         have q895 : 0 < (l0.length : Int) := TD
         obtain ⟨ad895, e895, hx895_0, hx895_1, hx895_2, hx895_3⟩ := at_TRecord HR0.out 0 p895 q895
         have hw895_3 := hx895_3
         (try rw [show ((0 : Int)).toNat = 0 from rfl] at hw895_3)
         (try rw [show 0 * 4 = 0 from rfl] at hw895_3)
         (try rw [Addr.add_zero'] at hw895_3)
         have hw895_2 := hx895_2
         (try rw [show ((0 : Int)).toNat = 0 from rfl] at hw895_2)
         (try rw [show 0 * 4 = 0 from rfl] at hw895_2)
         (try rw [Addr.add_zero'] at hw895_2)
         have hw895_1 := hx895_1
         (try rw [show ((0 : Int)).toNat = 0 from rfl] at hw895_1)
         (try rw [show 0 * 4 = 0 from rfl] at hw895_1)
         (try rw [Addr.add_zero'] at hw895_1)
         have hw895_0 := hx895_0
         (try rw [show ((0 : Int)).toNat = 0 from rfl] at hw895_0)
         (try rw [show 0 * 4 = 0 from rfl] at hw895_0)
         (try rw [Addr.add_zero'] at hw895_0)
         obtain rfl : ad890 = ad895 := (by injection e895)
         have qi895 : (0 < l0.length) = True := eq_true (by omega)
         (try rw [show ((0 : Int)).toNat = 0 from rfl] at hx895_0)
         (try rw [show 0 * 4 = 0 from rfl] at hx895_0)
         (try rw [Addr.add_zero'] at hx895_0)
         (try rw [show ((0 : Int)).toNat = 0 from rfl] at hx895_1)
         (try rw [show 0 * 4 = 0 from rfl] at hx895_1)
         (try rw [Addr.add_zero'] at hx895_1)
         (try rw [show ((0 : Int)).toNat = 0 from rfl] at hx895_2)
         (try rw [show 0 * 4 = 0 from rfl] at hx895_2)
         (try rw [Addr.add_zero'] at hx895_2)
         (try rw [show ((0 : Int)).toNat = 0 from rfl] at hx895_3)
         (try rw [show 0 * 4 = 0 from rfl] at hx895_3)
         (try rw [Addr.add_zero'] at hx895_3)
         replace hx895_0 := hBc HB hx895_0
         replace hx895_1 := hBc HB hx895_1
         replace hx895_2 := hBc HB hx895_2
         replace hx895_3 := hBc HB hx895_3
         replace p895 := eq_true p895
         replace q895 := eq_true q895
         refine start_ (n := 44) (S := fun w' => w'.cell? ⟨gb891, 0, none⟩ = some (.string ((rd_TRecord l0 x7_1).f0)) ∧ w'.cell? ⟨gb891, 1, none⟩ = some (.int .i64 ((rd_TRecord l0 x7_1).f1)) ∧ w'.cell? ⟨gb891, 2, none⟩ = some (.int .i64 ((rd_TRecord l0 x7_1).f2)) ∧ w'.cell? ⟨gb891, 3, none⟩ = some (.string ((rd_TRecord l0 x7_1).f3)) ∧ w'.cell? ad890 = some (.string ((rd_TRecord l0 0).f0)) ∧ w'.cell? ⟨ad890.block, ad890.off + 1, none⟩ = some (.int .i64 ((rd_TRecord l0 0).f1)) ∧ w'.cell? ⟨ad890.block, ad890.off + 2, none⟩ = some (.int .i64 ((rd_TRecord l0 0).f2)) ∧ w'.cell? ⟨ad890.block, ad890.off + 3, none⟩ = some (.string ((rd_TRecord l0 0).f3)) ∧ w'.cell? ad890 = some (.string ((rd_TRecord l0 0).f0)) ∧ w'.cell? ⟨ad890.block, ad890.off + 1, none⟩ = some (.int .i64 ((rd_TRecord l0 0).f1)) ∧ w'.cell? ⟨ad890.block, ad890.off + 2, none⟩ = some (.int .i64 ((rd_TRecord l0 0).f2)) ∧ w'.cell? ⟨ad890.block, ad890.off + 3, none⟩ = some (.string ((rd_TRecord l0 0).f3)) ∧ w'.cell? ad890 = some (.string ((rd_TRecord l0 0).f0)) ∧ w'.cell? ⟨ad890.block, ad890.off + 1, none⟩ = some (.int .i64 ((rd_TRecord l0 0).f1)) ∧ w'.cell? ⟨ad890.block, ad890.off + 2, none⟩ = some (.int .i64 ((rd_TRecord l0 0).f2)) ∧ w'.cell? ⟨ad890.block, ad890.off + 3, none⟩ = some (.string ((rd_TRecord l0 0).f3))) (ds := []) #[false, false, false, false, false, false, false, false, false, false, false, false, false, false, false, false, false, false, false, false, false, false, false, false, false, false, false, false, false, false, false, false, false, false, false, false, false, false, false, false, false, false, false, false] KR rfl rfl ⟨bc 0 BK891, bc 1 BK891, bc 2 BK891, bc 3 BK891, ((HB.out.cell (World.block_lt_of_cell? w _ hw893_0)).trans hw893_0), ((HB.out.cell (World.block_lt_of_cell? w _ hw893_1)).trans hw893_1), ((HB.out.cell (World.block_lt_of_cell? w _ hw893_2)).trans hw893_2), ((HB.out.cell (World.block_lt_of_cell? w _ hw893_3)).trans hw893_3), ((HB.out.cell (World.block_lt_of_cell? w _ hw894_0)).trans hw894_0), ((HB.out.cell (World.block_lt_of_cell? w _ hw894_1)).trans hw894_1), ((HB.out.cell (World.block_lt_of_cell? w _ hw894_2)).trans hw894_2), ((HB.out.cell (World.block_lt_of_cell? w _ hw894_3)).trans hw894_3), ((HB.out.cell (World.block_lt_of_cell? w _ hw895_0)).trans hw895_0), ((HB.out.cell (World.block_lt_of_cell? w _ hw895_1)).trans hw895_1), ((HB.out.cell (World.block_lt_of_cell? w _ hw895_2)).trans hw895_2), ((HB.out.cell (World.block_lt_of_cell? w _ hw895_3)).trans hw895_3)⟩ (fun hHeld => ?_); refine with_tabW spec_l10Same.tab4 spec_l10Same.bits4 (fun HT_ HW_ => ?_)
         generalize w31.drew = w32 at BK891 HB hx893_0 hx893_1 hx893_2 hx893_3 hx894_0 hx894_1 hx894_2 hx894_3 hx895_0 hx895_1 hx895_2 hx895_3 hHeld ⊢
         refine tA 0 12 (mL 44 1) HT_ HW_ hHeld rfl rfl (by rintro w' ⟨s0, s1, s2, s3, s4, s5, s6, s7, s8, s9, s10, s11, s12, s13, s14, s15⟩; go_simp; with_reducible rfl) ?_
         refine one_ (i := 1) (N := some 13) (mL 44 3) rfl rfl (one_of HT_.out KR) (by decide) (fun K hK => ?_)
         refine goes_ Tryz.func118 KR rfl #[.agg #[.string ((rd_TRecord l0 x7_1).f0), .int .i64 ((rd_TRecord l0 x7_1).f1), .int .i64 ((rd_TRecord l0 x7_1).f2), .string ((rd_TRecord l0 x7_1).f3)]] (by rfl) rfl rfl TA ?_
         with_reducible refine (spec_GoodRecord.calls k1 ((rd_TRecord l0 x7_1).f0) ((rd_TRecord l0 x7_1).f1) ((rd_TRecord l0 x7_1).f2) ((rd_TRecord l0 x7_1).f3) true _ A5.out).mono ?_
         rintro e w33 ⟨rfl, hb⟩
         refine ⟨_, rfl, ?_⟩
         replace BK891 := KB BK891 hb
         replace HB := BS hb
         (try clear hb)
         (try clear hb2)
         (try clear hk)
         (try clear hi)
         refine hK.out _ _ ⟨bc 0 BK891, bc 1 BK891, bc 2 BK891, bc 3 BK891, ((HB.out.cell (World.block_lt_of_cell? w _ hw893_0)).trans hw893_0), ((HB.out.cell (World.block_lt_of_cell? w _ hw893_1)).trans hw893_1), ((HB.out.cell (World.block_lt_of_cell? w _ hw893_2)).trans hw893_2), ((HB.out.cell (World.block_lt_of_cell? w _ hw893_3)).trans hw893_3), ((HB.out.cell (World.block_lt_of_cell? w _ hw894_0)).trans hw894_0), ((HB.out.cell (World.block_lt_of_cell? w _ hw894_1)).trans hw894_1), ((HB.out.cell (World.block_lt_of_cell? w _ hw894_2)).trans hw894_2), ((HB.out.cell (World.block_lt_of_cell? w _ hw894_3)).trans hw894_3), ((HB.out.cell (World.block_lt_of_cell? w _ hw895_0)).trans hw895_0), ((HB.out.cell (World.block_lt_of_cell? w _ hw895_1)).trans hw895_1), ((HB.out.cell (World.block_lt_of_cell? w _ hw895_2)).trans hw895_2), ((HB.out.cell (World.block_lt_of_cell? w _ hw895_3)).trans hw895_3)⟩ (fun hHeld => ?_)
         clear hK K
         refine nA ?_
         refine pA 2 14 (mL 44 7) HT_ rfl rfl ?_
         refine pA 3 15 (mL 44 15) HT_ rfl rfl ?_
         refine pA 4 16 (mL 44 31) HT_ rfl rfl ?_
         refine pA 6 18 (mL 44 95) HT_ rfl rfl ?_
         refine pA 7 19 (mL 44 223) HT_ rfl rfl ?_
         refine pA 8 20 (mL 44 479) HT_ rfl rfl ?_
         refine tA 5 17 (mL 44 511) HT_ HW_ hHeld rfl rfl (by rintro w' ⟨s0, s1, s2, s3, s4, s5, s6, s7, s8, s9, s10, s11, s12, s13, s14, s15⟩; go_simp; with_reducible rfl) ?_
         refine tA 9 21 (mL 44 1023) HT_ HW_ hHeld rfl rfl (by rintro w' ⟨s0, s1, s2, s3, s4, s5, s6, s7, s8, s9, s10, s11, s12, s13, s14, s15⟩; go_simp; with_reducible rfl) ?_
         refine pA 10 22 (mL 44 2047) HT_ rfl rfl ?_
         refine pA 11 23 (mL 44 4095) HT_ rfl rfl ?_
         refine pA 12 24 (mL 44 8191) HT_ rfl rfl ?_
         refine pA 13 25 (mL 44 16383) HT_ rfl rfl ?_
         refine pA 15 27 (mL 44 49151) HT_ rfl rfl ?_
         refine pA 16 28 (mL 44 114687) HT_ rfl rfl ?_
         refine pA 17 29 (mL 44 245759) HT_ rfl rfl ?_
         refine tA 14 26 (mL 44 262143) HT_ HW_ hHeld rfl rfl (by rintro w' ⟨s0, s1, s2, s3, s4, s5, s6, s7, s8, s9, s10, s11, s12, s13, s14, s15⟩; go_simp; with_reducible rfl) ?_
         refine tA 18 30 (mL 44 524287) HT_ HW_ hHeld rfl rfl (by rintro w' ⟨s0, s1, s2, s3, s4, s5, s6, s7, s8, s9, s10, s11, s12, s13, s14, s15⟩; go_simp; with_reducible rfl) ?_
         refine pA 19 31 (mL 44 1048575) HT_ rfl rfl ?_
         refine pA 20 32 (mL 44 2097151) HT_ rfl rfl ?_
         refine pA 21 33 (mL 44 4194303) HT_ rfl rfl ?_
         refine pA 22 34 (mL 44 8388607) HT_ rfl rfl ?_
         refine pA 24 36 (mL 44 25165823) HT_ rfl rfl ?_
         refine pA 25 37 (mL 44 58720255) HT_ rfl rfl ?_
         refine pA 26 38 (mL 44 125829119) HT_ rfl rfl ?_
         refine tA 23 35 (mL 44 134217727) HT_ HW_ hHeld rfl rfl (by rintro w' ⟨s0, s1, s2, s3, s4, s5, s6, s7, s8, s9, s10, s11, s12, s13, s14, s15⟩; go_simp; with_reducible rfl) ?_
         refine tA 27 39 (mL 44 268435455) HT_ HW_ hHeld rfl rfl (by rintro w' ⟨s0, s1, s2, s3, s4, s5, s6, s7, s8, s9, s10, s11, s12, s13, s14, s15⟩; go_simp; with_reducible rfl) ?_
         refine pA 28 40 (mL 44 536870911) HT_ rfl rfl ?_
         refine pA 29 41 (mL 44 1073741823) HT_ rfl rfl ?_
         refine pA 30 42 (mL 44 2147483647) HT_ rfl rfl ?_
         refine pA 31 43 (mL 44 4294967295) HT_ rfl rfl ?_
         refine pA 32 44 (mL 44 8589934591) HT_ rfl rfl ?_
         refine pA 33 45 (mL 44 17179869183) HT_ rfl rfl ?_
         refine pU 34 46 (mL 44 34359738367) HT_ rfl rfl ?_
         refine pU 35 47 (mL 44 68719476735) HT_ rfl rfl ?_
         refine pU 36 48 (mL 44 137438953471) HT_ rfl rfl ?_
         refine pU 37 49 (mL 44 274877906943) HT_ rfl rfl ?_
         refine pU 38 50 (mL 44 549755813887) HT_ rfl rfl ?_
         refine pU 39 51 (mL 44 1099511627775) HT_ rfl rfl ?_
         refine pU 40 52 (mL 44 2199023255551) HT_ rfl rfl ?_
         refine pU 41 53 (mL 44 4398046511103) HT_ rfl rfl ?_
         refine pA 42 54 (mL 44 8796093022207) HT_ rfl rfl ?_
         refine pA 43 55 (mL 44 17592186044415) HT_ rfl rfl ?_
         refine done_ (done_of HT_.out KR) ?_
         try go_wp2
         go_roundg k1
         case measure => have := HK1.out; omega
         case rel => exact ⟨(wrap64 (x7_1 + 1)), TF, H', ⟨TM⟩, ⟨TB⟩⟩
       ·rw [if_neg c10] at H
        have c10b0 : (((rd_TRecord l0 x7_1).f2) == ((rd_TRecord l0 0).f2)) = false := beq_eq_false_iff_ne.mpr c10
        have c10b1 : (((rd_TRecord l0 x7_1).f2) != ((rd_TRecord l0 0).f2)) = true := bne_iff_ne.mpr c10
        obtain rfl := Option.some.inj H
        have p890 : 0 ≤ (x7_1 : Int) := TD
        have q890 : x7_1 < (l0.length : Int) := TD
        obtain ⟨ad890, e890, hx890_0, hx890_1, hx890_2, hx890_3⟩ := at_TRecord (Kd.C_below HR0.out HB.out) x7_1 p890 q890
        cases e890
        replace p890 := eq_true p890
        replace q890 := eq_true q890
        try go_wp2_with (first | ((with_reducible refine gate_dst (N := 4) rfl ?_); refine bE 4 #[.string (⟨#[]⟩ : ByteArray), .int .i64 0, .int .i64 0, .string (⟨#[]⟩ : ByteArray)] 93 ?_; intro gb891 hg w34 hbox hb; have BK891 := Aside0.mk (hbox); have GE891 := bG hg; replace HB := BS hb; clear hb hbox hg; have hcz35 := cz4 BK891))
        have n0_ : Aside0 (((((w34.setCell ⟨gb891, 0, none⟩ (.string ((rd_TRecord l0 x7_1).f0))).setCell ⟨gb891, 1, none⟩ (.int .i64 ((rd_TRecord l0 x7_1).f1))).setCell ⟨gb891, 2, none⟩ (.int .i64 ((rd_TRecord l0 x7_1).f2))).setCell ⟨gb891, 3, none⟩ (.string ((rd_TRecord l0 x7_1).f3))).heap[gb891]? = some (.cells #[.string ((rd_TRecord l0 x7_1).f0), .int .i64 ((rd_TRecord l0 x7_1).f1), .int .i64 ((rd_TRecord l0 x7_1).f2), .string ((rd_TRecord l0 x7_1).f3)] 93 (0, 0))) := ⟨TS⟩
        have n1_ : Aside0 (Below w.heap.size w ((((w34.setCell ⟨gb891, 0, none⟩ (.string ((rd_TRecord l0 x7_1).f0))).setCell ⟨gb891, 1, none⟩ (.int .i64 ((rd_TRecord l0 x7_1).f1))).setCell ⟨gb891, 2, none⟩ (.int .i64 ((rd_TRecord l0 x7_1).f2))).setCell ⟨gb891, 3, none⟩ (.string ((rd_TRecord l0 x7_1).f3)))) := ⟨TB⟩
        (try clear BK891)
        (try clear HB)
        generalize ((((w34.setCell ⟨gb891, 0, none⟩ (.string ((rd_TRecord l0 x7_1).f0))).setCell ⟨gb891, 1, none⟩ (.int .i64 ((rd_TRecord l0 x7_1).f1))).setCell ⟨gb891, 2, none⟩ (.int .i64 ((rd_TRecord l0 x7_1).f2))).setCell ⟨gb891, 3, none⟩ (.string ((rd_TRecord l0 x7_1).f3))) = w36 at n0_ n1_ ⊢
        have BK891 := n0_
        have HB := n1_
        clear n0_ n1_
        replace BK891 := Aside0.mk (blk_drew BK891.out)
        replace HB := Aside0.mk (below_drew1 HB.out)
        have p893 : 0 ≤ (0 : Int) := (by omega)
        have q893 : 0 < (l0.length : Int) := TD
        obtain ⟨ad893, e893, hx893_0, hx893_1, hx893_2, hx893_3⟩ := at_TRecord HR0.out 0 p893 q893
        have hw893_3 := hx893_3
        (try rw [show ((0 : Int)).toNat = 0 from rfl] at hw893_3)
        (try rw [show 0 * 4 = 0 from rfl] at hw893_3)
        (try rw [Addr.add_zero'] at hw893_3)
        have hw893_2 := hx893_2
        (try rw [show ((0 : Int)).toNat = 0 from rfl] at hw893_2)
        (try rw [show 0 * 4 = 0 from rfl] at hw893_2)
        (try rw [Addr.add_zero'] at hw893_2)
        have hw893_1 := hx893_1
        (try rw [show ((0 : Int)).toNat = 0 from rfl] at hw893_1)
        (try rw [show 0 * 4 = 0 from rfl] at hw893_1)
        (try rw [Addr.add_zero'] at hw893_1)
        have hw893_0 := hx893_0
        (try rw [show ((0 : Int)).toNat = 0 from rfl] at hw893_0)
        (try rw [show 0 * 4 = 0 from rfl] at hw893_0)
        (try rw [Addr.add_zero'] at hw893_0)
        obtain rfl : ad890 = ad893 := (by injection e893)
        have qi893 : (0 < l0.length) = True := eq_true (by omega)
        (try rw [show ((0 : Int)).toNat = 0 from rfl] at hx893_0)
        (try rw [show 0 * 4 = 0 from rfl] at hx893_0)
        (try rw [Addr.add_zero'] at hx893_0)
        (try rw [show ((0 : Int)).toNat = 0 from rfl] at hx893_1)
        (try rw [show 0 * 4 = 0 from rfl] at hx893_1)
        (try rw [Addr.add_zero'] at hx893_1)
        (try rw [show ((0 : Int)).toNat = 0 from rfl] at hx893_2)
        (try rw [show 0 * 4 = 0 from rfl] at hx893_2)
        (try rw [Addr.add_zero'] at hx893_2)
        (try rw [show ((0 : Int)).toNat = 0 from rfl] at hx893_3)
        (try rw [show 0 * 4 = 0 from rfl] at hx893_3)
        (try rw [Addr.add_zero'] at hx893_3)
        replace hx893_0 := hBc HB hx893_0
        replace hx893_1 := hBc HB hx893_1
        replace hx893_2 := hBc HB hx893_2
        replace hx893_3 := hBc HB hx893_3
        replace p893 := eq_true p893
        replace q893 := eq_true q893
        have p894 : 0 ≤ (0 : Int) := (by omega)
        have q894 : 0 < (l0.length : Int) := TD
        obtain ⟨ad894, e894, hx894_0, hx894_1, hx894_2, hx894_3⟩ := at_TRecord HR0.out 0 p894 q894
        have hw894_3 := hx894_3
        (try rw [show ((0 : Int)).toNat = 0 from rfl] at hw894_3)
        (try rw [show 0 * 4 = 0 from rfl] at hw894_3)
        (try rw [Addr.add_zero'] at hw894_3)
        have hw894_2 := hx894_2
        (try rw [show ((0 : Int)).toNat = 0 from rfl] at hw894_2)
        (try rw [show 0 * 4 = 0 from rfl] at hw894_2)
        (try rw [Addr.add_zero'] at hw894_2)
        have hw894_1 := hx894_1
        (try rw [show ((0 : Int)).toNat = 0 from rfl] at hw894_1)
        (try rw [show 0 * 4 = 0 from rfl] at hw894_1)
        (try rw [Addr.add_zero'] at hw894_1)
        have hw894_0 := hx894_0
        (try rw [show ((0 : Int)).toNat = 0 from rfl] at hw894_0)
        (try rw [show 0 * 4 = 0 from rfl] at hw894_0)
        (try rw [Addr.add_zero'] at hw894_0)
        obtain rfl : ad890 = ad894 := (by injection e894)
        have qi894 : (0 < l0.length) = True := eq_true (by omega)
        (try rw [show ((0 : Int)).toNat = 0 from rfl] at hx894_0)
        (try rw [show 0 * 4 = 0 from rfl] at hx894_0)
        (try rw [Addr.add_zero'] at hx894_0)
        (try rw [show ((0 : Int)).toNat = 0 from rfl] at hx894_1)
        (try rw [show 0 * 4 = 0 from rfl] at hx894_1)
        (try rw [Addr.add_zero'] at hx894_1)
        (try rw [show ((0 : Int)).toNat = 0 from rfl] at hx894_2)
        (try rw [show 0 * 4 = 0 from rfl] at hx894_2)
        (try rw [Addr.add_zero'] at hx894_2)
        (try rw [show ((0 : Int)).toNat = 0 from rfl] at hx894_3)
        (try rw [show 0 * 4 = 0 from rfl] at hx894_3)
        (try rw [Addr.add_zero'] at hx894_3)
        replace hx894_0 := hBc HB hx894_0
        replace hx894_1 := hBc HB hx894_1
        replace hx894_2 := hBc HB hx894_2
        replace hx894_3 := hBc HB hx894_3
        replace p894 := eq_true p894
        replace q894 := eq_true q894
        have p895 : 0 ≤ (0 : Int) := (by omega)
        have q895 : 0 < (l0.length : Int) := TD
        obtain ⟨ad895, e895, hx895_0, hx895_1, hx895_2, hx895_3⟩ := at_TRecord HR0.out 0 p895 q895
        have hw895_3 := hx895_3
        (try rw [show ((0 : Int)).toNat = 0 from rfl] at hw895_3)
        (try rw [show 0 * 4 = 0 from rfl] at hw895_3)
        (try rw [Addr.add_zero'] at hw895_3)
        have hw895_2 := hx895_2
        (try rw [show ((0 : Int)).toNat = 0 from rfl] at hw895_2)
        (try rw [show 0 * 4 = 0 from rfl] at hw895_2)
        (try rw [Addr.add_zero'] at hw895_2)
        have hw895_1 := hx895_1
        (try rw [show ((0 : Int)).toNat = 0 from rfl] at hw895_1)
        (try rw [show 0 * 4 = 0 from rfl] at hw895_1)
        (try rw [Addr.add_zero'] at hw895_1)
        have hw895_0 := hx895_0
        (try rw [show ((0 : Int)).toNat = 0 from rfl] at hw895_0)
        (try rw [show 0 * 4 = 0 from rfl] at hw895_0)
        (try rw [Addr.add_zero'] at hw895_0)
        obtain rfl : ad890 = ad895 := (by injection e895)
        have qi895 : (0 < l0.length) = True := eq_true (by omega)
        (try rw [show ((0 : Int)).toNat = 0 from rfl] at hx895_0)
        (try rw [show 0 * 4 = 0 from rfl] at hx895_0)
        (try rw [Addr.add_zero'] at hx895_0)
        (try rw [show ((0 : Int)).toNat = 0 from rfl] at hx895_1)
        (try rw [show 0 * 4 = 0 from rfl] at hx895_1)
        (try rw [Addr.add_zero'] at hx895_1)
        (try rw [show ((0 : Int)).toNat = 0 from rfl] at hx895_2)
        (try rw [show 0 * 4 = 0 from rfl] at hx895_2)
        (try rw [Addr.add_zero'] at hx895_2)
        (try rw [show ((0 : Int)).toNat = 0 from rfl] at hx895_3)
        (try rw [show 0 * 4 = 0 from rfl] at hx895_3)
        (try rw [Addr.add_zero'] at hx895_3)
        replace hx895_0 := hBc HB hx895_0
        replace hx895_1 := hBc HB hx895_1
        replace hx895_2 := hBc HB hx895_2
        replace hx895_3 := hBc HB hx895_3
        replace p895 := eq_true p895
        replace q895 := eq_true q895
        refine start_ (n := 44) (S := fun w' => w'.cell? ⟨gb891, 0, none⟩ = some (.string ((rd_TRecord l0 x7_1).f0)) ∧ w'.cell? ⟨gb891, 1, none⟩ = some (.int .i64 ((rd_TRecord l0 x7_1).f1)) ∧ w'.cell? ⟨gb891, 2, none⟩ = some (.int .i64 ((rd_TRecord l0 x7_1).f2)) ∧ w'.cell? ⟨gb891, 3, none⟩ = some (.string ((rd_TRecord l0 x7_1).f3)) ∧ w'.cell? ad890 = some (.string ((rd_TRecord l0 0).f0)) ∧ w'.cell? ⟨ad890.block, ad890.off + 1, none⟩ = some (.int .i64 ((rd_TRecord l0 0).f1)) ∧ w'.cell? ⟨ad890.block, ad890.off + 2, none⟩ = some (.int .i64 ((rd_TRecord l0 0).f2)) ∧ w'.cell? ⟨ad890.block, ad890.off + 3, none⟩ = some (.string ((rd_TRecord l0 0).f3)) ∧ w'.cell? ad890 = some (.string ((rd_TRecord l0 0).f0)) ∧ w'.cell? ⟨ad890.block, ad890.off + 1, none⟩ = some (.int .i64 ((rd_TRecord l0 0).f1)) ∧ w'.cell? ⟨ad890.block, ad890.off + 2, none⟩ = some (.int .i64 ((rd_TRecord l0 0).f2)) ∧ w'.cell? ⟨ad890.block, ad890.off + 3, none⟩ = some (.string ((rd_TRecord l0 0).f3)) ∧ w'.cell? ad890 = some (.string ((rd_TRecord l0 0).f0)) ∧ w'.cell? ⟨ad890.block, ad890.off + 1, none⟩ = some (.int .i64 ((rd_TRecord l0 0).f1)) ∧ w'.cell? ⟨ad890.block, ad890.off + 2, none⟩ = some (.int .i64 ((rd_TRecord l0 0).f2)) ∧ w'.cell? ⟨ad890.block, ad890.off + 3, none⟩ = some (.string ((rd_TRecord l0 0).f3))) (ds := []) #[false, false, false, false, false, false, false, false, false, false, false, false, false, false, false, false, false, false, false, false, false, false, false, false, false, false, false, false, false, false, false, false, false, false, false, false, false, false, false, false, false, false, false, false] KR rfl rfl ⟨bc 0 BK891, bc 1 BK891, bc 2 BK891, bc 3 BK891, ((HB.out.cell (World.block_lt_of_cell? w _ hw893_0)).trans hw893_0), ((HB.out.cell (World.block_lt_of_cell? w _ hw893_1)).trans hw893_1), ((HB.out.cell (World.block_lt_of_cell? w _ hw893_2)).trans hw893_2), ((HB.out.cell (World.block_lt_of_cell? w _ hw893_3)).trans hw893_3), ((HB.out.cell (World.block_lt_of_cell? w _ hw894_0)).trans hw894_0), ((HB.out.cell (World.block_lt_of_cell? w _ hw894_1)).trans hw894_1), ((HB.out.cell (World.block_lt_of_cell? w _ hw894_2)).trans hw894_2), ((HB.out.cell (World.block_lt_of_cell? w _ hw894_3)).trans hw894_3), ((HB.out.cell (World.block_lt_of_cell? w _ hw895_0)).trans hw895_0), ((HB.out.cell (World.block_lt_of_cell? w _ hw895_1)).trans hw895_1), ((HB.out.cell (World.block_lt_of_cell? w _ hw895_2)).trans hw895_2), ((HB.out.cell (World.block_lt_of_cell? w _ hw895_3)).trans hw895_3)⟩ (fun hHeld => ?_); refine with_tabW spec_l10Same.tab4 spec_l10Same.bits4 (fun HT_ HW_ => ?_)
        generalize w36.drew = w37 at BK891 HB hx893_0 hx893_1 hx893_2 hx893_3 hx894_0 hx894_1 hx894_2 hx894_3 hx895_0 hx895_1 hx895_2 hx895_3 hHeld ⊢
        refine tA 0 12 (mL 44 1) HT_ HW_ hHeld rfl rfl (by rintro w' ⟨s0, s1, s2, s3, s4, s5, s6, s7, s8, s9, s10, s11, s12, s13, s14, s15⟩; go_simp; with_reducible rfl) ?_
        refine one_ (i := 1) (N := some 13) (mL 44 3) rfl rfl (one_of HT_.out KR) (by decide) (fun K hK => ?_)
        refine goes_ Tryz.func118 KR rfl #[.agg #[.string ((rd_TRecord l0 x7_1).f0), .int .i64 ((rd_TRecord l0 x7_1).f1), .int .i64 ((rd_TRecord l0 x7_1).f2), .string ((rd_TRecord l0 x7_1).f3)]] (by rfl) rfl rfl TA ?_
        with_reducible refine (spec_GoodRecord.calls k1 ((rd_TRecord l0 x7_1).f0) ((rd_TRecord l0 x7_1).f1) ((rd_TRecord l0 x7_1).f2) ((rd_TRecord l0 x7_1).f3) true _ A5.out).mono ?_
        rintro e w38 ⟨rfl, hb⟩
        refine ⟨_, rfl, ?_⟩
        replace BK891 := KB BK891 hb
        replace HB := BS hb
        (try clear hb)
        (try clear hb2)
        (try clear hk)
        (try clear hi)
        refine hK.out _ _ ⟨bc 0 BK891, bc 1 BK891, bc 2 BK891, bc 3 BK891, ((HB.out.cell (World.block_lt_of_cell? w _ hw893_0)).trans hw893_0), ((HB.out.cell (World.block_lt_of_cell? w _ hw893_1)).trans hw893_1), ((HB.out.cell (World.block_lt_of_cell? w _ hw893_2)).trans hw893_2), ((HB.out.cell (World.block_lt_of_cell? w _ hw893_3)).trans hw893_3), ((HB.out.cell (World.block_lt_of_cell? w _ hw894_0)).trans hw894_0), ((HB.out.cell (World.block_lt_of_cell? w _ hw894_1)).trans hw894_1), ((HB.out.cell (World.block_lt_of_cell? w _ hw894_2)).trans hw894_2), ((HB.out.cell (World.block_lt_of_cell? w _ hw894_3)).trans hw894_3), ((HB.out.cell (World.block_lt_of_cell? w _ hw895_0)).trans hw895_0), ((HB.out.cell (World.block_lt_of_cell? w _ hw895_1)).trans hw895_1), ((HB.out.cell (World.block_lt_of_cell? w _ hw895_2)).trans hw895_2), ((HB.out.cell (World.block_lt_of_cell? w _ hw895_3)).trans hw895_3)⟩ (fun hHeld => ?_)
        clear hK K
        refine nA ?_
        refine pA 2 14 (mL 44 7) HT_ rfl rfl ?_
        refine pA 3 15 (mL 44 15) HT_ rfl rfl ?_
        refine pA 4 16 (mL 44 31) HT_ rfl rfl ?_
        refine pA 6 18 (mL 44 95) HT_ rfl rfl ?_
        refine pA 7 19 (mL 44 223) HT_ rfl rfl ?_
        refine pA 8 20 (mL 44 479) HT_ rfl rfl ?_
        refine tA 5 17 (mL 44 511) HT_ HW_ hHeld rfl rfl (by rintro w' ⟨s0, s1, s2, s3, s4, s5, s6, s7, s8, s9, s10, s11, s12, s13, s14, s15⟩; go_simp; with_reducible rfl) ?_
        refine tA 9 21 (mL 44 1023) HT_ HW_ hHeld rfl rfl (by rintro w' ⟨s0, s1, s2, s3, s4, s5, s6, s7, s8, s9, s10, s11, s12, s13, s14, s15⟩; go_simp; with_reducible rfl) ?_
        refine pA 10 22 (mL 44 2047) HT_ rfl rfl ?_
        refine pA 11 23 (mL 44 4095) HT_ rfl rfl ?_
        refine pA 12 24 (mL 44 8191) HT_ rfl rfl ?_
        refine pA 13 25 (mL 44 16383) HT_ rfl rfl ?_
        refine pA 15 27 (mL 44 49151) HT_ rfl rfl ?_
        refine pA 16 28 (mL 44 114687) HT_ rfl rfl ?_
        refine pA 17 29 (mL 44 245759) HT_ rfl rfl ?_
        refine tA 14 26 (mL 44 262143) HT_ HW_ hHeld rfl rfl (by rintro w' ⟨s0, s1, s2, s3, s4, s5, s6, s7, s8, s9, s10, s11, s12, s13, s14, s15⟩; go_simp; with_reducible rfl) ?_
        refine tA 18 30 (mL 44 524287) HT_ HW_ hHeld rfl rfl (by rintro w' ⟨s0, s1, s2, s3, s4, s5, s6, s7, s8, s9, s10, s11, s12, s13, s14, s15⟩; go_simp; with_reducible rfl) ?_
        refine pA 19 31 (mL 44 1048575) HT_ rfl rfl ?_
        refine pA 20 32 (mL 44 2097151) HT_ rfl rfl ?_
        refine pA 21 33 (mL 44 4194303) HT_ rfl rfl ?_
        refine pA 22 34 (mL 44 8388607) HT_ rfl rfl ?_
        refine pA 24 36 (mL 44 25165823) HT_ rfl rfl ?_
        refine pA 25 37 (mL 44 58720255) HT_ rfl rfl ?_
        refine pA 26 38 (mL 44 125829119) HT_ rfl rfl ?_
        refine tA 23 35 (mL 44 134217727) HT_ HW_ hHeld rfl rfl (by rintro w' ⟨s0, s1, s2, s3, s4, s5, s6, s7, s8, s9, s10, s11, s12, s13, s14, s15⟩; go_simp; with_reducible rfl) ?_
        refine tA 27 39 (mL 44 268435455) HT_ HW_ hHeld rfl rfl (by rintro w' ⟨s0, s1, s2, s3, s4, s5, s6, s7, s8, s9, s10, s11, s12, s13, s14, s15⟩; go_simp; with_reducible rfl) ?_
        refine pA 28 40 (mL 44 536870911) HT_ rfl rfl ?_
        refine pA 29 41 (mL 44 1073741823) HT_ rfl rfl ?_
        refine pA 30 42 (mL 44 2147483647) HT_ rfl rfl ?_
        refine pU 31 43 (mL 44 4294967295) HT_ rfl rfl ?_
        refine pU 32 44 (mL 44 8589934591) HT_ rfl rfl ?_
        refine pU 33 45 (mL 44 17179869183) HT_ rfl rfl ?_
        refine pU 34 46 (mL 44 34359738367) HT_ rfl rfl ?_
        refine pU 35 47 (mL 44 68719476735) HT_ rfl rfl ?_
        refine pU 36 48 (mL 44 137438953471) HT_ rfl rfl ?_
        refine pU 37 49 (mL 44 274877906943) HT_ rfl rfl ?_
        refine pU 38 50 (mL 44 549755813887) HT_ rfl rfl ?_
        refine pU 39 51 (mL 44 1099511627775) HT_ rfl rfl ?_
        refine pU 40 52 (mL 44 2199023255551) HT_ rfl rfl ?_
        refine pU 41 53 (mL 44 4398046511103) HT_ rfl rfl ?_
        refine pU 42 54 (mL 44 8796093022207) HT_ rfl rfl ?_
        refine pA 43 55 (mL 44 17592186044415) HT_ rfl rfl ?_
        refine done_ (done_of HT_.out KR) ?_
        try go_wp2
        go_ret
        exact ⟨TE, TB⟩
      ·rw [if_neg c9] at H
       have c9b0 : (((rd_TRecord l0 x7_1).f1) == ((rd_TRecord l0 0).f1)) = false := beq_eq_false_iff_ne.mpr c9
       have c9b1 : (((rd_TRecord l0 x7_1).f1) != ((rd_TRecord l0 0).f1)) = true := bne_iff_ne.mpr c9
       obtain rfl := Option.some.inj H
       have p890 : 0 ≤ (x7_1 : Int) := TD
       have q890 : x7_1 < (l0.length : Int) := TD
       obtain ⟨ad890, e890, hx890_0, hx890_1, hx890_2, hx890_3⟩ := at_TRecord (Kd.C_below HR0.out HB.out) x7_1 p890 q890
       cases e890
       replace p890 := eq_true p890
       replace q890 := eq_true q890
       try go_wp2_with (first | ((with_reducible refine gate_dst (N := 4) rfl ?_); refine bE 4 #[.string (⟨#[]⟩ : ByteArray), .int .i64 0, .int .i64 0, .string (⟨#[]⟩ : ByteArray)] 93 ?_; intro gb891 hg w39 hbox hb; have BK891 := Aside0.mk (hbox); have GE891 := bG hg; replace HB := BS hb; clear hb hbox hg; have hcz40 := cz4 BK891))
       have n0_ : Aside0 (((((w39.setCell ⟨gb891, 0, none⟩ (.string ((rd_TRecord l0 x7_1).f0))).setCell ⟨gb891, 1, none⟩ (.int .i64 ((rd_TRecord l0 x7_1).f1))).setCell ⟨gb891, 2, none⟩ (.int .i64 ((rd_TRecord l0 x7_1).f2))).setCell ⟨gb891, 3, none⟩ (.string ((rd_TRecord l0 x7_1).f3))).heap[gb891]? = some (.cells #[.string ((rd_TRecord l0 x7_1).f0), .int .i64 ((rd_TRecord l0 x7_1).f1), .int .i64 ((rd_TRecord l0 x7_1).f2), .string ((rd_TRecord l0 x7_1).f3)] 93 (0, 0))) := ⟨TS⟩
       have n1_ : Aside0 (Below w.heap.size w ((((w39.setCell ⟨gb891, 0, none⟩ (.string ((rd_TRecord l0 x7_1).f0))).setCell ⟨gb891, 1, none⟩ (.int .i64 ((rd_TRecord l0 x7_1).f1))).setCell ⟨gb891, 2, none⟩ (.int .i64 ((rd_TRecord l0 x7_1).f2))).setCell ⟨gb891, 3, none⟩ (.string ((rd_TRecord l0 x7_1).f3)))) := ⟨TB⟩
       (try clear BK891)
       (try clear HB)
       generalize ((((w39.setCell ⟨gb891, 0, none⟩ (.string ((rd_TRecord l0 x7_1).f0))).setCell ⟨gb891, 1, none⟩ (.int .i64 ((rd_TRecord l0 x7_1).f1))).setCell ⟨gb891, 2, none⟩ (.int .i64 ((rd_TRecord l0 x7_1).f2))).setCell ⟨gb891, 3, none⟩ (.string ((rd_TRecord l0 x7_1).f3))) = w41 at n0_ n1_ ⊢
       have BK891 := n0_
       have HB := n1_
       clear n0_ n1_
       replace BK891 := Aside0.mk (blk_drew BK891.out)
       replace HB := Aside0.mk (below_drew1 HB.out)
       have p893 : 0 ≤ (0 : Int) := (by omega)
       have q893 : 0 < (l0.length : Int) := TD
       obtain ⟨ad893, e893, hx893_0, hx893_1, hx893_2, hx893_3⟩ := at_TRecord HR0.out 0 p893 q893
       have hw893_3 := hx893_3
       (try rw [show ((0 : Int)).toNat = 0 from rfl] at hw893_3)
       (try rw [show 0 * 4 = 0 from rfl] at hw893_3)
       (try rw [Addr.add_zero'] at hw893_3)
       have hw893_2 := hx893_2
       (try rw [show ((0 : Int)).toNat = 0 from rfl] at hw893_2)
       (try rw [show 0 * 4 = 0 from rfl] at hw893_2)
       (try rw [Addr.add_zero'] at hw893_2)
       have hw893_1 := hx893_1
       (try rw [show ((0 : Int)).toNat = 0 from rfl] at hw893_1)
       (try rw [show 0 * 4 = 0 from rfl] at hw893_1)
       (try rw [Addr.add_zero'] at hw893_1)
       have hw893_0 := hx893_0
       (try rw [show ((0 : Int)).toNat = 0 from rfl] at hw893_0)
       (try rw [show 0 * 4 = 0 from rfl] at hw893_0)
       (try rw [Addr.add_zero'] at hw893_0)
       obtain rfl : ad890 = ad893 := (by injection e893)
       have qi893 : (0 < l0.length) = True := eq_true (by omega)
       (try rw [show ((0 : Int)).toNat = 0 from rfl] at hx893_0)
       (try rw [show 0 * 4 = 0 from rfl] at hx893_0)
       (try rw [Addr.add_zero'] at hx893_0)
       (try rw [show ((0 : Int)).toNat = 0 from rfl] at hx893_1)
       (try rw [show 0 * 4 = 0 from rfl] at hx893_1)
       (try rw [Addr.add_zero'] at hx893_1)
       (try rw [show ((0 : Int)).toNat = 0 from rfl] at hx893_2)
       (try rw [show 0 * 4 = 0 from rfl] at hx893_2)
       (try rw [Addr.add_zero'] at hx893_2)
       (try rw [show ((0 : Int)).toNat = 0 from rfl] at hx893_3)
       (try rw [show 0 * 4 = 0 from rfl] at hx893_3)
       (try rw [Addr.add_zero'] at hx893_3)
       replace hx893_0 := hBc HB hx893_0
       replace hx893_1 := hBc HB hx893_1
       replace hx893_2 := hBc HB hx893_2
       replace hx893_3 := hBc HB hx893_3
       replace p893 := eq_true p893
       replace q893 := eq_true q893
       have p894 : 0 ≤ (0 : Int) := (by omega)
       have q894 : 0 < (l0.length : Int) := TD
       obtain ⟨ad894, e894, hx894_0, hx894_1, hx894_2, hx894_3⟩ := at_TRecord HR0.out 0 p894 q894
       have hw894_3 := hx894_3
       (try rw [show ((0 : Int)).toNat = 0 from rfl] at hw894_3)
       (try rw [show 0 * 4 = 0 from rfl] at hw894_3)
       (try rw [Addr.add_zero'] at hw894_3)
       have hw894_2 := hx894_2
       (try rw [show ((0 : Int)).toNat = 0 from rfl] at hw894_2)
       (try rw [show 0 * 4 = 0 from rfl] at hw894_2)
       (try rw [Addr.add_zero'] at hw894_2)
       have hw894_1 := hx894_1
       (try rw [show ((0 : Int)).toNat = 0 from rfl] at hw894_1)
       (try rw [show 0 * 4 = 0 from rfl] at hw894_1)
       (try rw [Addr.add_zero'] at hw894_1)
       have hw894_0 := hx894_0
       (try rw [show ((0 : Int)).toNat = 0 from rfl] at hw894_0)
       (try rw [show 0 * 4 = 0 from rfl] at hw894_0)
       (try rw [Addr.add_zero'] at hw894_0)
       obtain rfl : ad890 = ad894 := (by injection e894)
       have qi894 : (0 < l0.length) = True := eq_true (by omega)
       (try rw [show ((0 : Int)).toNat = 0 from rfl] at hx894_0)
       (try rw [show 0 * 4 = 0 from rfl] at hx894_0)
       (try rw [Addr.add_zero'] at hx894_0)
       (try rw [show ((0 : Int)).toNat = 0 from rfl] at hx894_1)
       (try rw [show 0 * 4 = 0 from rfl] at hx894_1)
       (try rw [Addr.add_zero'] at hx894_1)
       (try rw [show ((0 : Int)).toNat = 0 from rfl] at hx894_2)
       (try rw [show 0 * 4 = 0 from rfl] at hx894_2)
       (try rw [Addr.add_zero'] at hx894_2)
       (try rw [show ((0 : Int)).toNat = 0 from rfl] at hx894_3)
       (try rw [show 0 * 4 = 0 from rfl] at hx894_3)
       (try rw [Addr.add_zero'] at hx894_3)
       replace hx894_0 := hBc HB hx894_0
       replace hx894_1 := hBc HB hx894_1
       replace hx894_2 := hBc HB hx894_2
       replace hx894_3 := hBc HB hx894_3
       replace p894 := eq_true p894
       replace q894 := eq_true q894
       refine start_ (n := 44) (S := fun w' => w'.cell? ⟨gb891, 0, none⟩ = some (.string ((rd_TRecord l0 x7_1).f0)) ∧ w'.cell? ⟨gb891, 1, none⟩ = some (.int .i64 ((rd_TRecord l0 x7_1).f1)) ∧ w'.cell? ⟨gb891, 2, none⟩ = some (.int .i64 ((rd_TRecord l0 x7_1).f2)) ∧ w'.cell? ⟨gb891, 3, none⟩ = some (.string ((rd_TRecord l0 x7_1).f3)) ∧ w'.cell? ad890 = some (.string ((rd_TRecord l0 0).f0)) ∧ w'.cell? ⟨ad890.block, ad890.off + 1, none⟩ = some (.int .i64 ((rd_TRecord l0 0).f1)) ∧ w'.cell? ⟨ad890.block, ad890.off + 2, none⟩ = some (.int .i64 ((rd_TRecord l0 0).f2)) ∧ w'.cell? ⟨ad890.block, ad890.off + 3, none⟩ = some (.string ((rd_TRecord l0 0).f3)) ∧ w'.cell? ad890 = some (.string ((rd_TRecord l0 0).f0)) ∧ w'.cell? ⟨ad890.block, ad890.off + 1, none⟩ = some (.int .i64 ((rd_TRecord l0 0).f1)) ∧ w'.cell? ⟨ad890.block, ad890.off + 2, none⟩ = some (.int .i64 ((rd_TRecord l0 0).f2)) ∧ w'.cell? ⟨ad890.block, ad890.off + 3, none⟩ = some (.string ((rd_TRecord l0 0).f3))) (ds := []) #[false, false, false, false, false, false, false, false, false, false, false, false, false, false, false, false, false, false, false, false, false, false, false, false, false, false, false, false, false, false, false, false, false, false, false, false, false, false, false, false, false, false, false, false] KR rfl rfl ⟨bc 0 BK891, bc 1 BK891, bc 2 BK891, bc 3 BK891, ((HB.out.cell (World.block_lt_of_cell? w _ hw893_0)).trans hw893_0), ((HB.out.cell (World.block_lt_of_cell? w _ hw893_1)).trans hw893_1), ((HB.out.cell (World.block_lt_of_cell? w _ hw893_2)).trans hw893_2), ((HB.out.cell (World.block_lt_of_cell? w _ hw893_3)).trans hw893_3), ((HB.out.cell (World.block_lt_of_cell? w _ hw894_0)).trans hw894_0), ((HB.out.cell (World.block_lt_of_cell? w _ hw894_1)).trans hw894_1), ((HB.out.cell (World.block_lt_of_cell? w _ hw894_2)).trans hw894_2), ((HB.out.cell (World.block_lt_of_cell? w _ hw894_3)).trans hw894_3)⟩ (fun hHeld => ?_); refine with_tabW spec_l10Same.tab4 spec_l10Same.bits4 (fun HT_ HW_ => ?_)
       generalize w41.drew = w42 at BK891 HB hx893_0 hx893_1 hx893_2 hx893_3 hx894_0 hx894_1 hx894_2 hx894_3 hHeld ⊢
       refine tA 0 12 (mL 44 1) HT_ HW_ hHeld rfl rfl (by rintro w' ⟨s0, s1, s2, s3, s4, s5, s6, s7, s8, s9, s10, s11⟩; go_simp; with_reducible rfl) ?_
       refine one_ (i := 1) (N := some 13) (mL 44 3) rfl rfl (one_of HT_.out KR) (by decide) (fun K hK => ?_)
       refine goes_ Tryz.func118 KR rfl #[.agg #[.string ((rd_TRecord l0 x7_1).f0), .int .i64 ((rd_TRecord l0 x7_1).f1), .int .i64 ((rd_TRecord l0 x7_1).f2), .string ((rd_TRecord l0 x7_1).f3)]] (by rfl) rfl rfl TA ?_
       with_reducible refine (spec_GoodRecord.calls k1 ((rd_TRecord l0 x7_1).f0) ((rd_TRecord l0 x7_1).f1) ((rd_TRecord l0 x7_1).f2) ((rd_TRecord l0 x7_1).f3) true _ A5.out).mono ?_
       rintro e w43 ⟨rfl, hb⟩
       refine ⟨_, rfl, ?_⟩
       replace BK891 := KB BK891 hb
       replace HB := BS hb
       (try clear hb)
       (try clear hb2)
       (try clear hk)
       (try clear hi)
       refine hK.out _ _ ⟨bc 0 BK891, bc 1 BK891, bc 2 BK891, bc 3 BK891, ((HB.out.cell (World.block_lt_of_cell? w _ hw893_0)).trans hw893_0), ((HB.out.cell (World.block_lt_of_cell? w _ hw893_1)).trans hw893_1), ((HB.out.cell (World.block_lt_of_cell? w _ hw893_2)).trans hw893_2), ((HB.out.cell (World.block_lt_of_cell? w _ hw893_3)).trans hw893_3), ((HB.out.cell (World.block_lt_of_cell? w _ hw894_0)).trans hw894_0), ((HB.out.cell (World.block_lt_of_cell? w _ hw894_1)).trans hw894_1), ((HB.out.cell (World.block_lt_of_cell? w _ hw894_2)).trans hw894_2), ((HB.out.cell (World.block_lt_of_cell? w _ hw894_3)).trans hw894_3)⟩ (fun hHeld => ?_)
       clear hK K
       refine nA ?_
       refine pA 2 14 (mL 44 7) HT_ rfl rfl ?_
       refine pA 3 15 (mL 44 15) HT_ rfl rfl ?_
       refine pA 4 16 (mL 44 31) HT_ rfl rfl ?_
       refine pA 6 18 (mL 44 95) HT_ rfl rfl ?_
       refine pA 7 19 (mL 44 223) HT_ rfl rfl ?_
       refine pA 8 20 (mL 44 479) HT_ rfl rfl ?_
       refine tA 5 17 (mL 44 511) HT_ HW_ hHeld rfl rfl (by rintro w' ⟨s0, s1, s2, s3, s4, s5, s6, s7, s8, s9, s10, s11⟩; go_simp; with_reducible rfl) ?_
       refine tA 9 21 (mL 44 1023) HT_ HW_ hHeld rfl rfl (by rintro w' ⟨s0, s1, s2, s3, s4, s5, s6, s7, s8, s9, s10, s11⟩; go_simp; with_reducible rfl) ?_
       refine pA 10 22 (mL 44 2047) HT_ rfl rfl ?_
       refine pA 11 23 (mL 44 4095) HT_ rfl rfl ?_
       refine pA 12 24 (mL 44 8191) HT_ rfl rfl ?_
       refine pA 13 25 (mL 44 16383) HT_ rfl rfl ?_
       refine pA 15 27 (mL 44 49151) HT_ rfl rfl ?_
       refine pA 16 28 (mL 44 114687) HT_ rfl rfl ?_
       refine pA 17 29 (mL 44 245759) HT_ rfl rfl ?_
       refine tA 14 26 (mL 44 262143) HT_ HW_ hHeld rfl rfl (by rintro w' ⟨s0, s1, s2, s3, s4, s5, s6, s7, s8, s9, s10, s11⟩; go_simp; with_reducible rfl) ?_
       refine tA 18 30 (mL 44 524287) HT_ HW_ hHeld rfl rfl (by rintro w' ⟨s0, s1, s2, s3, s4, s5, s6, s7, s8, s9, s10, s11⟩; go_simp; with_reducible rfl) ?_
       refine pA 19 31 (mL 44 1048575) HT_ rfl rfl ?_
       refine pA 20 32 (mL 44 2097151) HT_ rfl rfl ?_
       refine pA 21 33 (mL 44 4194303) HT_ rfl rfl ?_
       refine pU 22 34 (mL 44 8388607) HT_ rfl rfl ?_
       refine pU 23 35 (mL 44 16777215) HT_ rfl rfl ?_
       refine pU 24 36 (mL 44 33554431) HT_ rfl rfl ?_
       refine pU 25 37 (mL 44 67108863) HT_ rfl rfl ?_
       refine pU 26 38 (mL 44 134217727) HT_ rfl rfl ?_
       refine pU 27 39 (mL 44 268435455) HT_ rfl rfl ?_
       refine pU 28 40 (mL 44 536870911) HT_ rfl rfl ?_
       refine pA 29 41 (mL 44 1073741823) HT_ rfl rfl ?_
       refine pA 30 42 (mL 44 2147483647) HT_ rfl rfl ?_
       refine pU 31 43 (mL 44 4294967295) HT_ rfl rfl ?_
       refine pU 32 44 (mL 44 8589934591) HT_ rfl rfl ?_
       refine pU 33 45 (mL 44 17179869183) HT_ rfl rfl ?_
       refine pU 34 46 (mL 44 34359738367) HT_ rfl rfl ?_
       refine pU 35 47 (mL 44 68719476735) HT_ rfl rfl ?_
       refine pU 36 48 (mL 44 137438953471) HT_ rfl rfl ?_
       refine pU 37 49 (mL 44 274877906943) HT_ rfl rfl ?_
       refine pU 38 50 (mL 44 549755813887) HT_ rfl rfl ?_
       refine pU 39 51 (mL 44 1099511627775) HT_ rfl rfl ?_
       refine pU 40 52 (mL 44 2199023255551) HT_ rfl rfl ?_
       refine pU 41 53 (mL 44 4398046511103) HT_ rfl rfl ?_
       refine pU 42 54 (mL 44 8796093022207) HT_ rfl rfl ?_
       refine pA 43 55 (mL 44 17592186044415) HT_ rfl rfl ?_
       refine done_ (done_of HT_.out KR) ?_
       try go_wp2
       go_ret
       exact ⟨TE, TB⟩
     ·rw [if_neg c8] at H
      have c8b0 : (((rd_TRecord l0 x7_1).f0).toList == ((rd_TRecord l0 0).f0).toList) = false := beq_eq_false_iff_ne.mpr c8
      have c8b1 : (((rd_TRecord l0 x7_1).f0).toList != ((rd_TRecord l0 0).f0).toList) = true := bne_iff_ne.mpr c8
      obtain rfl := Option.some.inj H
      have p890 : 0 ≤ (x7_1 : Int) := TD
      have q890 : x7_1 < (l0.length : Int) := TD
      obtain ⟨ad890, e890, hx890_0, hx890_1, hx890_2, hx890_3⟩ := at_TRecord (Kd.C_below HR0.out HB.out) x7_1 p890 q890
      cases e890
      replace p890 := eq_true p890
      replace q890 := eq_true q890
      try go_wp2_with (first | ((with_reducible refine gate_dst (N := 4) rfl ?_); refine bE 4 #[.string (⟨#[]⟩ : ByteArray), .int .i64 0, .int .i64 0, .string (⟨#[]⟩ : ByteArray)] 93 ?_; intro gb891 hg w44 hbox hb; have BK891 := Aside0.mk (hbox); have GE891 := bG hg; replace HB := BS hb; clear hb hbox hg; have hcz45 := cz4 BK891))
      have n0_ : Aside0 (((((w44.setCell ⟨gb891, 0, none⟩ (.string ((rd_TRecord l0 x7_1).f0))).setCell ⟨gb891, 1, none⟩ (.int .i64 ((rd_TRecord l0 x7_1).f1))).setCell ⟨gb891, 2, none⟩ (.int .i64 ((rd_TRecord l0 x7_1).f2))).setCell ⟨gb891, 3, none⟩ (.string ((rd_TRecord l0 x7_1).f3))).heap[gb891]? = some (.cells #[.string ((rd_TRecord l0 x7_1).f0), .int .i64 ((rd_TRecord l0 x7_1).f1), .int .i64 ((rd_TRecord l0 x7_1).f2), .string ((rd_TRecord l0 x7_1).f3)] 93 (0, 0))) := ⟨TS⟩
      have n1_ : Aside0 (Below w.heap.size w ((((w44.setCell ⟨gb891, 0, none⟩ (.string ((rd_TRecord l0 x7_1).f0))).setCell ⟨gb891, 1, none⟩ (.int .i64 ((rd_TRecord l0 x7_1).f1))).setCell ⟨gb891, 2, none⟩ (.int .i64 ((rd_TRecord l0 x7_1).f2))).setCell ⟨gb891, 3, none⟩ (.string ((rd_TRecord l0 x7_1).f3)))) := ⟨TB⟩
      (try clear BK891)
      (try clear HB)
      generalize ((((w44.setCell ⟨gb891, 0, none⟩ (.string ((rd_TRecord l0 x7_1).f0))).setCell ⟨gb891, 1, none⟩ (.int .i64 ((rd_TRecord l0 x7_1).f1))).setCell ⟨gb891, 2, none⟩ (.int .i64 ((rd_TRecord l0 x7_1).f2))).setCell ⟨gb891, 3, none⟩ (.string ((rd_TRecord l0 x7_1).f3))) = w46 at n0_ n1_ ⊢
      have BK891 := n0_
      have HB := n1_
      clear n0_ n1_
      replace BK891 := Aside0.mk (blk_drew BK891.out)
      replace HB := Aside0.mk (below_drew1 HB.out)
      have p893 : 0 ≤ (0 : Int) := (by omega)
      have q893 : 0 < (l0.length : Int) := TD
      obtain ⟨ad893, e893, hx893_0, hx893_1, hx893_2, hx893_3⟩ := at_TRecord HR0.out 0 p893 q893
      have hw893_3 := hx893_3
      (try rw [show ((0 : Int)).toNat = 0 from rfl] at hw893_3)
      (try rw [show 0 * 4 = 0 from rfl] at hw893_3)
      (try rw [Addr.add_zero'] at hw893_3)
      have hw893_2 := hx893_2
      (try rw [show ((0 : Int)).toNat = 0 from rfl] at hw893_2)
      (try rw [show 0 * 4 = 0 from rfl] at hw893_2)
      (try rw [Addr.add_zero'] at hw893_2)
      have hw893_1 := hx893_1
      (try rw [show ((0 : Int)).toNat = 0 from rfl] at hw893_1)
      (try rw [show 0 * 4 = 0 from rfl] at hw893_1)
      (try rw [Addr.add_zero'] at hw893_1)
      have hw893_0 := hx893_0
      (try rw [show ((0 : Int)).toNat = 0 from rfl] at hw893_0)
      (try rw [show 0 * 4 = 0 from rfl] at hw893_0)
      (try rw [Addr.add_zero'] at hw893_0)
      obtain rfl : ad890 = ad893 := (by injection e893)
      have qi893 : (0 < l0.length) = True := eq_true (by omega)
      (try rw [show ((0 : Int)).toNat = 0 from rfl] at hx893_0)
      (try rw [show 0 * 4 = 0 from rfl] at hx893_0)
      (try rw [Addr.add_zero'] at hx893_0)
      (try rw [show ((0 : Int)).toNat = 0 from rfl] at hx893_1)
      (try rw [show 0 * 4 = 0 from rfl] at hx893_1)
      (try rw [Addr.add_zero'] at hx893_1)
      (try rw [show ((0 : Int)).toNat = 0 from rfl] at hx893_2)
      (try rw [show 0 * 4 = 0 from rfl] at hx893_2)
      (try rw [Addr.add_zero'] at hx893_2)
      (try rw [show ((0 : Int)).toNat = 0 from rfl] at hx893_3)
      (try rw [show 0 * 4 = 0 from rfl] at hx893_3)
      (try rw [Addr.add_zero'] at hx893_3)
      replace hx893_0 := hBc HB hx893_0
      replace hx893_1 := hBc HB hx893_1
      replace hx893_2 := hBc HB hx893_2
      replace hx893_3 := hBc HB hx893_3
      replace p893 := eq_true p893
      replace q893 := eq_true q893
      refine start_ (n := 44) (S := fun w' => w'.cell? ⟨gb891, 0, none⟩ = some (.string ((rd_TRecord l0 x7_1).f0)) ∧ w'.cell? ⟨gb891, 1, none⟩ = some (.int .i64 ((rd_TRecord l0 x7_1).f1)) ∧ w'.cell? ⟨gb891, 2, none⟩ = some (.int .i64 ((rd_TRecord l0 x7_1).f2)) ∧ w'.cell? ⟨gb891, 3, none⟩ = some (.string ((rd_TRecord l0 x7_1).f3)) ∧ w'.cell? ad890 = some (.string ((rd_TRecord l0 0).f0)) ∧ w'.cell? ⟨ad890.block, ad890.off + 1, none⟩ = some (.int .i64 ((rd_TRecord l0 0).f1)) ∧ w'.cell? ⟨ad890.block, ad890.off + 2, none⟩ = some (.int .i64 ((rd_TRecord l0 0).f2)) ∧ w'.cell? ⟨ad890.block, ad890.off + 3, none⟩ = some (.string ((rd_TRecord l0 0).f3))) (ds := []) #[false, false, false, false, false, false, false, false, false, false, false, false, false, false, false, false, false, false, false, false, false, false, false, false, false, false, false, false, false, false, false, false, false, false, false, false, false, false, false, false, false, false, false, false] KR rfl rfl ⟨bc 0 BK891, bc 1 BK891, bc 2 BK891, bc 3 BK891, ((HB.out.cell (World.block_lt_of_cell? w _ hw893_0)).trans hw893_0), ((HB.out.cell (World.block_lt_of_cell? w _ hw893_1)).trans hw893_1), ((HB.out.cell (World.block_lt_of_cell? w _ hw893_2)).trans hw893_2), ((HB.out.cell (World.block_lt_of_cell? w _ hw893_3)).trans hw893_3)⟩ (fun hHeld => ?_); refine with_tabW spec_l10Same.tab4 spec_l10Same.bits4 (fun HT_ HW_ => ?_)
      generalize w46.drew = w47 at BK891 HB hx893_0 hx893_1 hx893_2 hx893_3 hHeld ⊢
      refine tA 0 12 (mL 44 1) HT_ HW_ hHeld rfl rfl (by rintro w' ⟨s0, s1, s2, s3, s4, s5, s6, s7⟩; go_simp; with_reducible rfl) ?_
      refine one_ (i := 1) (N := some 13) (mL 44 3) rfl rfl (one_of HT_.out KR) (by decide) (fun K hK => ?_)
      refine goes_ Tryz.func118 KR rfl #[.agg #[.string ((rd_TRecord l0 x7_1).f0), .int .i64 ((rd_TRecord l0 x7_1).f1), .int .i64 ((rd_TRecord l0 x7_1).f2), .string ((rd_TRecord l0 x7_1).f3)]] (by rfl) rfl rfl TA ?_
      with_reducible refine (spec_GoodRecord.calls k1 ((rd_TRecord l0 x7_1).f0) ((rd_TRecord l0 x7_1).f1) ((rd_TRecord l0 x7_1).f2) ((rd_TRecord l0 x7_1).f3) true _ A5.out).mono ?_
      rintro e w48 ⟨rfl, hb⟩
      refine ⟨_, rfl, ?_⟩
      replace BK891 := KB BK891 hb
      replace HB := BS hb
      (try clear hb)
      (try clear hb2)
      (try clear hk)
      (try clear hi)
      refine hK.out _ _ ⟨bc 0 BK891, bc 1 BK891, bc 2 BK891, bc 3 BK891, ((HB.out.cell (World.block_lt_of_cell? w _ hw893_0)).trans hw893_0), ((HB.out.cell (World.block_lt_of_cell? w _ hw893_1)).trans hw893_1), ((HB.out.cell (World.block_lt_of_cell? w _ hw893_2)).trans hw893_2), ((HB.out.cell (World.block_lt_of_cell? w _ hw893_3)).trans hw893_3)⟩ (fun hHeld => ?_)
      clear hK K
      refine nA ?_
      refine pA 2 14 (mL 44 7) HT_ rfl rfl ?_
      refine pA 3 15 (mL 44 15) HT_ rfl rfl ?_
      refine pA 4 16 (mL 44 31) HT_ rfl rfl ?_
      refine pA 6 18 (mL 44 95) HT_ rfl rfl ?_
      refine pA 7 19 (mL 44 223) HT_ rfl rfl ?_
      refine pA 8 20 (mL 44 479) HT_ rfl rfl ?_
      refine tA 5 17 (mL 44 511) HT_ HW_ hHeld rfl rfl (by rintro w' ⟨s0, s1, s2, s3, s4, s5, s6, s7⟩; go_simp; with_reducible rfl) ?_
      refine tA 9 21 (mL 44 1023) HT_ HW_ hHeld rfl rfl (by rintro w' ⟨s0, s1, s2, s3, s4, s5, s6, s7⟩; go_simp; with_reducible rfl) ?_
      refine pA 10 22 (mL 44 2047) HT_ rfl rfl ?_
      refine pA 11 23 (mL 44 4095) HT_ rfl rfl ?_
      refine pA 12 24 (mL 44 8191) HT_ rfl rfl ?_
      refine pU 13 25 (mL 44 16383) HT_ rfl rfl ?_
      refine pU 14 26 (mL 44 32767) HT_ rfl rfl ?_
      refine pU 15 27 (mL 44 65535) HT_ rfl rfl ?_
      refine pU 16 28 (mL 44 131071) HT_ rfl rfl ?_
      refine pU 17 29 (mL 44 262143) HT_ rfl rfl ?_
      refine pU 18 30 (mL 44 524287) HT_ rfl rfl ?_
      refine pU 19 31 (mL 44 1048575) HT_ rfl rfl ?_
      refine pA 20 32 (mL 44 2097151) HT_ rfl rfl ?_
      refine pA 21 33 (mL 44 4194303) HT_ rfl rfl ?_
      refine pU 22 34 (mL 44 8388607) HT_ rfl rfl ?_
      refine pU 23 35 (mL 44 16777215) HT_ rfl rfl ?_
      refine pU 24 36 (mL 44 33554431) HT_ rfl rfl ?_
      refine pU 25 37 (mL 44 67108863) HT_ rfl rfl ?_
      refine pU 26 38 (mL 44 134217727) HT_ rfl rfl ?_
      refine pU 27 39 (mL 44 268435455) HT_ rfl rfl ?_
      refine pU 28 40 (mL 44 536870911) HT_ rfl rfl ?_
      refine pA 29 41 (mL 44 1073741823) HT_ rfl rfl ?_
      refine pA 30 42 (mL 44 2147483647) HT_ rfl rfl ?_
      refine pU 31 43 (mL 44 4294967295) HT_ rfl rfl ?_
      refine pU 32 44 (mL 44 8589934591) HT_ rfl rfl ?_
      refine pU 33 45 (mL 44 17179869183) HT_ rfl rfl ?_
      refine pU 34 46 (mL 44 34359738367) HT_ rfl rfl ?_
      refine pU 35 47 (mL 44 68719476735) HT_ rfl rfl ?_
      refine pU 36 48 (mL 44 137438953471) HT_ rfl rfl ?_
      refine pU 37 49 (mL 44 274877906943) HT_ rfl rfl ?_
      refine pU 38 50 (mL 44 549755813887) HT_ rfl rfl ?_
      refine pU 39 51 (mL 44 1099511627775) HT_ rfl rfl ?_
      refine pU 40 52 (mL 44 2199023255551) HT_ rfl rfl ?_
      refine pU 41 53 (mL 44 4398046511103) HT_ rfl rfl ?_
      refine pU 42 54 (mL 44 8796093022207) HT_ rfl rfl ?_
      refine pA 43 55 (mL 44 17592186044415) HT_ rfl rfl ?_
      refine done_ (done_of HT_.out KR) ?_
      try go_wp2
      go_ret
      exact ⟨TE, TB⟩
    ·replace c6 := Bool.eq_false_iff.mpr c6
     subst c6
     replace H := iff' H
     obtain rfl := Option.some.inj H
     have p890 : 0 ≤ (x7_1 : Int) := TD
     have q890 : x7_1 < (l0.length : Int) := TD
     obtain ⟨ad890, e890, hx890_0, hx890_1, hx890_2, hx890_3⟩ := at_TRecord (Kd.C_below HR0.out HB.out) x7_1 p890 q890
     cases e890
     replace p890 := eq_true p890
     replace q890 := eq_true q890
     try go_wp2_with (first | ((with_reducible refine gate_dst (N := 4) rfl ?_); refine bE 4 #[.string (⟨#[]⟩ : ByteArray), .int .i64 0, .int .i64 0, .string (⟨#[]⟩ : ByteArray)] 93 ?_; intro gb891 hg w49 hbox hb; have BK891 := Aside0.mk (hbox); have GE891 := bG hg; replace HB := BS hb; clear hb hbox hg; have hcz50 := cz4 BK891))
     have n0_ : Aside0 (((((w49.setCell ⟨gb891, 0, none⟩ (.string ((rd_TRecord l0 x7_1).f0))).setCell ⟨gb891, 1, none⟩ (.int .i64 ((rd_TRecord l0 x7_1).f1))).setCell ⟨gb891, 2, none⟩ (.int .i64 ((rd_TRecord l0 x7_1).f2))).setCell ⟨gb891, 3, none⟩ (.string ((rd_TRecord l0 x7_1).f3))).heap[gb891]? = some (.cells #[.string ((rd_TRecord l0 x7_1).f0), .int .i64 ((rd_TRecord l0 x7_1).f1), .int .i64 ((rd_TRecord l0 x7_1).f2), .string ((rd_TRecord l0 x7_1).f3)] 93 (0, 0))) := ⟨TS⟩
     have n1_ : Aside0 (Below w.heap.size w ((((w49.setCell ⟨gb891, 0, none⟩ (.string ((rd_TRecord l0 x7_1).f0))).setCell ⟨gb891, 1, none⟩ (.int .i64 ((rd_TRecord l0 x7_1).f1))).setCell ⟨gb891, 2, none⟩ (.int .i64 ((rd_TRecord l0 x7_1).f2))).setCell ⟨gb891, 3, none⟩ (.string ((rd_TRecord l0 x7_1).f3)))) := ⟨TB⟩
     (try clear BK891)
     (try clear HB)
     generalize ((((w49.setCell ⟨gb891, 0, none⟩ (.string ((rd_TRecord l0 x7_1).f0))).setCell ⟨gb891, 1, none⟩ (.int .i64 ((rd_TRecord l0 x7_1).f1))).setCell ⟨gb891, 2, none⟩ (.int .i64 ((rd_TRecord l0 x7_1).f2))).setCell ⟨gb891, 3, none⟩ (.string ((rd_TRecord l0 x7_1).f3))) = w51 at n0_ n1_ ⊢
     have BK891 := n0_
     have HB := n1_
     clear n0_ n1_
     replace BK891 := Aside0.mk (blk_drew BK891.out)
     replace HB := Aside0.mk (below_drew1 HB.out)
     refine start_ (n := 44) (S := fun w' => w'.cell? ⟨gb891, 0, none⟩ = some (.string ((rd_TRecord l0 x7_1).f0)) ∧ w'.cell? ⟨gb891, 1, none⟩ = some (.int .i64 ((rd_TRecord l0 x7_1).f1)) ∧ w'.cell? ⟨gb891, 2, none⟩ = some (.int .i64 ((rd_TRecord l0 x7_1).f2)) ∧ w'.cell? ⟨gb891, 3, none⟩ = some (.string ((rd_TRecord l0 x7_1).f3))) (ds := []) #[false, false, false, false, false, false, false, false, false, false, false, false, false, false, false, false, false, false, false, false, false, false, false, false, false, false, false, false, false, false, false, false, false, false, false, false, false, false, false, false, false, false, false, false] KR rfl rfl ⟨bc 0 BK891, bc 1 BK891, bc 2 BK891, bc 3 BK891⟩ (fun hHeld => ?_); refine with_tabW spec_l10Same.tab4 spec_l10Same.bits4 (fun HT_ HW_ => ?_)
     generalize w51.drew = w52 at BK891 HB hHeld ⊢
     refine tA 0 12 (mL 44 1) HT_ HW_ hHeld rfl rfl (by rintro w' ⟨s0, s1, s2, s3⟩; go_simp; with_reducible rfl) ?_
     refine one_ (i := 1) (N := some 13) (mL 44 3) rfl rfl (one_of HT_.out KR) (by decide) (fun K hK => ?_)
     refine goes_ Tryz.func118 KR rfl #[.agg #[.string ((rd_TRecord l0 x7_1).f0), .int .i64 ((rd_TRecord l0 x7_1).f1), .int .i64 ((rd_TRecord l0 x7_1).f2), .string ((rd_TRecord l0 x7_1).f3)]] (by rfl) rfl rfl TA ?_
     with_reducible refine (spec_GoodRecord.calls k1 ((rd_TRecord l0 x7_1).f0) ((rd_TRecord l0 x7_1).f1) ((rd_TRecord l0 x7_1).f2) ((rd_TRecord l0 x7_1).f3) false _ A5.out).mono ?_
     rintro e w53 ⟨rfl, hb⟩
     refine ⟨_, rfl, ?_⟩
     replace BK891 := KB BK891 hb
     replace HB := BS hb
     (try clear hb)
     (try clear hb2)
     (try clear hk)
     (try clear hi)
     refine hK.out _ _ ⟨bc 0 BK891, bc 1 BK891, bc 2 BK891, bc 3 BK891⟩ (fun hHeld => ?_)
     clear hK K
     refine nA ?_
     refine pA 2 14 (mL 44 7) HT_ rfl rfl ?_
     refine pA 3 15 (mL 44 15) HT_ rfl rfl ?_
     refine pU 4 16 (mL 44 31) HT_ rfl rfl ?_
     refine pU 5 17 (mL 44 63) HT_ rfl rfl ?_
     refine pU 6 18 (mL 44 127) HT_ rfl rfl ?_
     refine pU 7 19 (mL 44 255) HT_ rfl rfl ?_
     refine pU 8 20 (mL 44 511) HT_ rfl rfl ?_
     refine pU 9 21 (mL 44 1023) HT_ rfl rfl ?_
     refine pU 10 22 (mL 44 2047) HT_ rfl rfl ?_
     refine pA 11 23 (mL 44 4095) HT_ rfl rfl ?_
     refine pA 12 24 (mL 44 8191) HT_ rfl rfl ?_
     refine pU 13 25 (mL 44 16383) HT_ rfl rfl ?_
     refine pU 14 26 (mL 44 32767) HT_ rfl rfl ?_
     refine pU 15 27 (mL 44 65535) HT_ rfl rfl ?_
     refine pU 16 28 (mL 44 131071) HT_ rfl rfl ?_
     refine pU 17 29 (mL 44 262143) HT_ rfl rfl ?_
     refine pU 18 30 (mL 44 524287) HT_ rfl rfl ?_
     refine pU 19 31 (mL 44 1048575) HT_ rfl rfl ?_
     refine pA 20 32 (mL 44 2097151) HT_ rfl rfl ?_
     refine pA 21 33 (mL 44 4194303) HT_ rfl rfl ?_
     refine pU 22 34 (mL 44 8388607) HT_ rfl rfl ?_
     refine pU 23 35 (mL 44 16777215) HT_ rfl rfl ?_
     refine pU 24 36 (mL 44 33554431) HT_ rfl rfl ?_
     refine pU 25 37 (mL 44 67108863) HT_ rfl rfl ?_
     refine pU 26 38 (mL 44 134217727) HT_ rfl rfl ?_
     refine pU 27 39 (mL 44 268435455) HT_ rfl rfl ?_
     refine pU 28 40 (mL 44 536870911) HT_ rfl rfl ?_
     refine pA 29 41 (mL 44 1073741823) HT_ rfl rfl ?_
     refine pA 30 42 (mL 44 2147483647) HT_ rfl rfl ?_
     refine pU 31 43 (mL 44 4294967295) HT_ rfl rfl ?_
     refine pU 32 44 (mL 44 8589934591) HT_ rfl rfl ?_
     refine pU 33 45 (mL 44 17179869183) HT_ rfl rfl ?_
     refine pU 34 46 (mL 44 34359738367) HT_ rfl rfl ?_
     refine pU 35 47 (mL 44 68719476735) HT_ rfl rfl ?_
     refine pU 36 48 (mL 44 137438953471) HT_ rfl rfl ?_
     refine pU 37 49 (mL 44 274877906943) HT_ rfl rfl ?_
     refine pU 38 50 (mL 44 549755813887) HT_ rfl rfl ?_
     refine pU 39 51 (mL 44 1099511627775) HT_ rfl rfl ?_
     refine pU 40 52 (mL 44 2199023255551) HT_ rfl rfl ?_
     refine pU 41 53 (mL 44 4398046511103) HT_ rfl rfl ?_
     refine pU 42 54 (mL 44 8796093022207) HT_ rfl rfl ?_
     refine pA 43 55 (mL 44 17592186044415) HT_ rfl rfl ?_
     refine done_ (done_of HT_.out KR) ?_
     try go_wp2
     go_ret
     exact ⟨TE, TB⟩
   ·rw [if_neg c2] at H
    have c2b0 : decide (x7_1 < (l0.length : Int)) = false := decide_eq_false c2
    clear c2
    obtain ⟨t889, A54, H⟩ := bnd H
    obtain rfl := Option.some.inj H
    go_wp2_with (first | ((with_reducible refine gate_callee (f := 80) rfl ?_); refine goesL_ (some 59) rfl rfl Tryz.func80 KR rfl #[.int .i64 (l0.length : Int), .int .i64 1, .int .i64 12] rfl TA ?_; (with_reducible refine (spec_l1In.calls (l0.length : Int) 1 12 t889 _ A54.out).mono ?_); rintro e w' ⟨rfl, ⟨nd, rfl⟩⟩; refine ⟨_, rfl, ?_⟩))
    go_ret
    exact ⟨TE, TB⟩
end
section
/-! ### spec_GoodCache: function 30 -/
mutual
def spec_GoodCache.j0 : Nat → Bool → Int → List (S_Entry) → Option (Bool)
 | 0, _, _, _ => none
 | k + 1, x14, x899000, x899001 => if x14 = true then (some false) else (spec_GoodCache.l0 k x899001 (x899001.length : Int) 0 x899000 x899001)
def spec_GoodCache.l0 : Nat → List (S_Entry) → Int → Int → Int → List (S_Entry) → Option (Bool)
 | 0, _, _, _, _, _ => none
 | k + 1, x16, x17, x18, x899000, x899001 => if x18 < x17 then (if 0 ≤ x18 then (if x18 < (x16.length : Int) then ((spec_GoodName.f k ((rd_TEntry x16 x18).f0)).bind fun t902 => (if t902 = true then ((spec_l3Type.f k ((rd_TEntry x16 x18).f1)).bind fun t903 => (if t903 = true then ((spec_l1In.f ((rd_TEntry x16 x18).f4) (wrap64 (x899000 + 1)) (wrap64 (x899000 + 100000))).bind fun t904 => (if t904 = true then ((spec_l1In.f ((rd_TEntry x16 x18).f5) 1 x899000).bind fun t905 => (if t905 = true then (if x18 > 0 then (if 0 ≤ (wrap64 (x18 - 1)) then (if (wrap64 (x18 - 1)) < (x899001.length : Int) then ((spec_l10Less.f k ((rd_TEntry x899001 (wrap64 (x18 - 1))).f0) ((rd_TEntry x899001 (wrap64 (x18 - 1))).f1) ((rd_TEntry x899001 (wrap64 (x18 - 1))).f2) ((rd_TEntry x899001 (wrap64 (x18 - 1))).f3) ((rd_TEntry x899001 (wrap64 (x18 - 1))).f4) ((rd_TEntry x899001 (wrap64 (x18 - 1))).f5) ((rd_TEntry x16 x18).f0) ((rd_TEntry x16 x18).f1) ((rd_TEntry x16 x18).f2) ((rd_TEntry x16 x18).f3) ((rd_TEntry x16 x18).f4) ((rd_TEntry x16 x18).f5)).bind fun t907 => (spec_GoodCache.j2 k x16 x17 x18 (!t907) x899000 x899001 ((rd_TEntry x16 x18).f0) ((rd_TEntry x16 x18).f1) ((rd_TEntry x16 x18).f2) ((rd_TEntry x16 x18).f3) ((rd_TEntry x16 x18).f4) ((rd_TEntry x16 x18).f5))) else (none)) else (none)) else (spec_GoodCache.j2 k x16 x17 x18 false x899000 x899001 ((rd_TEntry x16 x18).f0) ((rd_TEntry x16 x18).f1) ((rd_TEntry x16 x18).f2) ((rd_TEntry x16 x18).f3) ((rd_TEntry x16 x18).f4) ((rd_TEntry x16 x18).f5))) else (spec_GoodCache.j2 k x16 x17 x18 true x899000 x899001 ((rd_TEntry x16 x18).f0) ((rd_TEntry x16 x18).f1) ((rd_TEntry x16 x18).f2) ((rd_TEntry x16 x18).f3) ((rd_TEntry x16 x18).f4) ((rd_TEntry x16 x18).f5)))) else (spec_GoodCache.j2 k x16 x17 x18 true x899000 x899001 ((rd_TEntry x16 x18).f0) ((rd_TEntry x16 x18).f1) ((rd_TEntry x16 x18).f2) ((rd_TEntry x16 x18).f3) ((rd_TEntry x16 x18).f4) ((rd_TEntry x16 x18).f5)))) else (spec_GoodCache.j2 k x16 x17 x18 true x899000 x899001 ((rd_TEntry x16 x18).f0) ((rd_TEntry x16 x18).f1) ((rd_TEntry x16 x18).f2) ((rd_TEntry x16 x18).f3) ((rd_TEntry x16 x18).f4) ((rd_TEntry x16 x18).f5)))) else (spec_GoodCache.j2 k x16 x17 x18 true x899000 x899001 ((rd_TEntry x16 x18).f0) ((rd_TEntry x16 x18).f1) ((rd_TEntry x16 x18).f2) ((rd_TEntry x16 x18).f3) ((rd_TEntry x16 x18).f4) ((rd_TEntry x16 x18).f5)))) else (none)) else (none)) else (some true)
def spec_GoodCache.j2 : Nat → List (S_Entry) → Int → Int → Bool → Int → List (S_Entry) → ByteArray → Int → Bool → List (S_Record) → Int → Int → Option (Bool)
 | 0, _, _, _, _, _, _, _, _, _, _, _, _ => none
 | k + 1, x16, x17, x18, x67, x899000, x899001, x902000, x902001, x902002, x902003, x902004, x902005 => if x67 = true then (some false) else (if x902002 = true then (if (x902003.length : Int) > 0 then (some false) else (spec_GoodCache.l0 k x16 x17 (wrap64 (x18 + 1)) x899000 x899001)) else ((spec_l10Same.f k x902003).bind fun t908 => (if t908 = true then (if 0 < (x902003.length : Int) then (if ((rd_TRecord x902003 0).f0).toList = x902000.toList then (if ((rd_TRecord x902003 0).f1) = x902001 then (spec_GoodCache.l0 k x16 x17 (wrap64 (x18 + 1)) x899000 x899001) else (some false)) else (some false)) else (none)) else (some false))))
end
def spec_GoodCache.f (k : Nat) (a0_0 : Int) (l0_1 : List (S_Entry)) : Option (Bool) := (spec_l1In.f a0_0 1 1000000000).bind fun t899 => (if t899 = true then (spec_GoodCache.j0 k (decide ((l0_1.length : Int) > 20)) a0_0 l0_1) else (spec_GoodCache.j0 k true a0_0 l0_1))
def spec_GoodCache.T6 : Bool × List (List Nat × List Nat) := (true, [([], []), ([0], [0]), ([1], [1]), ([2], [2]), ([3, 2], [3]), ([4], [4]), ([5, 4], [4, 5]), ([6, 4, 4], [4, 6]), ([7, 4], [4, 7]), ([4, 8], [4, 8]), ([9, 7], [9]), ([10], [10]), ([11, 10], [10, 11]), ([10], [10]), ([13, 10], [10, 13]), ([14, 10], [10, 14]), ([10], [10]), ([16, 10], [10, 16]), ([17, 10], [10, 17]), ([12, 15, 18, 10, 10], [10, 12, 15, 18]), ([19, 10], [10, 19]), ([10, 20], [10, 20]), ([21, 19], [21]), ([22], [22]), ([23, 22], [22, 23]), ([22], [22]), ([25, 22], [22, 25]), ([24, 26, 22, 22], [22, 24, 26]), ([27, 22], [22, 27]), ([22, 28], [22, 28]), ([29, 27], [29]), ([30], [30]), ([31, 30], [30, 31]), ([32, 30, 30], [30, 32]), ([33], [33]), ([34, 33], [33, 34]), ([33], [33]), ([36, 33], [33, 36]), ([35, 37, 33], [33, 35, 37]), ([38, 33], [33, 38]), ([33], [33]), ([39, 40, 33, 33], [33, 39, 40]), ([41, 33], [33, 41]), ([33, 42, 30], [30, 33, 42]), ([30, 43], [30, 43])])
def spec_GoodCache.B6 : List Nat := [0, 1, 3, 7, 15, 31, 63, 127, 255, 511, 1023, 2047, 4095, 2047, 10239, 26623, 2047, 67583, 198655, 524287, 1048575, 2097151, 4194303, 8388607, 16777215, 8388607, 41943039, 134217727, 268435455, 536870911, 1073741823, 2147483647, 4294967295, 8589934591, 17179869183, 34359738367, 17179869183, 85899345919, 274877906943, 549755813887, 17179869183, 2199023255551, 4398046511103, 8796093022207, 17592186044415]
theorem spec_GoodCache.tab6 : rtab .any (opsOf Tryz.f30 6) = spec_GoodCache.T6 := by kernel_rfl
theorem spec_GoodCache.bits6 : waitsOk spec_GoodCache.T6.2 spec_GoodCache.B6 = true := by kernel_rfl
def spec_GoodCache.T11 : Bool × List (List Nat × List Nat) := (true, [([], []), ([0], [0]), ([1], [1]), ([2], [2]), ([3, 2], [3]), ([4], [4]), ([5, 4], [4, 5]), ([6, 4], [4, 6]), ([7, 4], [4, 7]), ([8, 4], [4, 8]), ([4], [4]), ([10, 4], [4, 10]), ([9, 11, 4], [4, 9, 11]), ([4, 12], [4, 12]), ([13, 4], [13]), ([14], [14]), ([15, 14], [14, 15]), ([16, 14], [14, 16]), ([17, 14], [14, 17]), ([18, 14], [14, 18]), ([14], [14]), ([20, 14], [14, 20]), ([19, 21, 14], [14, 19, 21]), ([14, 22], [14, 22])])
def spec_GoodCache.B11 : List Nat := [0, 1, 3, 7, 15, 31, 63, 127, 255, 511, 31, 1055, 4095, 8191, 16383, 32767, 65535, 131071, 262143, 524287, 32767, 1081343, 4194303, 8388607]
theorem spec_GoodCache.tab11 : rtab .any (opsOf Tryz.f30 11) = spec_GoodCache.T11 := by kernel_rfl
theorem spec_GoodCache.bits11 : waitsOk spec_GoodCache.T11.2 spec_GoodCache.B11 = true := by kernel_rfl
theorem spec_GoodCache.calls (k : Nat) (a0_0 : Int) (A0_1 : Option Addr) (c0_1 : Nat) (l0_1 : List (S_Entry)) (r : Bool) (w : World) (hr0_1 : Kd.C k_Entry w A0_1 l0_1.length l0_1) (hc0_1 : l0_1.length ≤ c0_1) (h : spec_GoodCache.f k a0_0 l0_1 = some r) :
  Calls Tryz.prog 30 #[.agg #[.int .i64 a0_0, .slice A0_1 l0_1.length c0_1]] w fun e w' => e = .returned (.bool r) ∧ Below w.heap.size w w' := by
 have hu54 := Tryz.underlying54
 have hu107 := Tryz.underlying107
 have HR0_1 := Aside0.mk hr0_1
 have HC0_1 := Aside0.mk hc0_1
 clear hr0_1 hc0_1
 have HB := Aside0.mk (Below.refl w.heap.size w)
 have H : ((spec_l1In.f a0_0 1 1000000000).bind fun t899 => (if t899 = true then (spec_GoodCache.j0 k (decide ((l0_1.length : Int) > 20)) a0_0 l0_1) else (spec_GoodCache.j0 k true a0_0 l0_1))) = some r := h
 clear h
 have HC2 := Aside0.mk H
 clear H
 go_enter Tryz.func30, Tryz.ntmps30
 go_upto_region 1 with (first | ((with_reducible refine gate_dst (N := 1) rfl ?_); (try (refine gate_guard (by rfl) ?_; dsimp only)); refine bE 1 #[.int .i64 a0_0, .slice A0_1 l0_1.length c0_1] 54 ?_; intro gb898 hg w3 hbox hb; have BK898 := Aside0.mk (hbox); have GE898 := bG hg; replace HB := BS hb; clear hb hbox hg))
 (try simp only [Act.put, List.setIfInBounds_toArray, List.set_cons_zero, List.set_cons_succ])
 go_cut [14] (fun v14 wc => ∃ (kq : Nat) (x14_1 : Bool), v14 = .bool x14_1 ∧ Aside0 (spec_GoodCache.j0 kq x14_1 a0_0 l0_1 = some r) ∧ Aside0 (kq ≤ k) ∧ Aside0 (wc.heap[gb898]? = some (.cells #[.int .i64 a0_0, (.slice A0_1 l0_1.length c0_1)] 54 (0, 0))) ∧ Aside0 (Below w.heap.size w wc))
 case first =>
  have H := HC2.out
  clear HC2
  obtain ⟨t899, A4, H⟩ := bnd H
  by_cases c5 : t899 = true
  ·subst c5
   replace H := ift H
   have H' := Aside0.mk H
   clear H
   have hcz6 := cz2 BK898
   go_wp2_with (first | ((with_reducible refine gate_callee (f := 80) rfl ?_); refine goesL_ (some 7) rfl rfl Tryz.func80 KR rfl #[.int .i64 a0_0, .int .i64 1, .int .i64 1000000000] rfl TA ?_; (with_reducible refine (spec_l1In.calls a0_0 1 1000000000 true _ A4.out).mono ?_); rintro e w' ⟨rfl, ⟨nd, rfl⟩⟩; refine ⟨_, rfl, ?_⟩))
   go_meet
   case rel => exact ⟨_, (decide ((l0_1.length : Int) > 20)), TF, H', ⟨by first | omega | exact Nat.le_refl _⟩, KW BK898, ⟨TB⟩⟩
  ·replace c5 := Bool.eq_false_iff.mpr c5
   subst c5
   replace H := iff' H
   have H' := Aside0.mk H
   clear H
   have hcz7 := cz2 BK898
   go_wp2_with (first | ((with_reducible refine gate_callee (f := 80) rfl ?_); refine goesL_ (some 7) rfl rfl Tryz.func80 KR rfl #[.int .i64 a0_0, .int .i64 1, .int .i64 1000000000] rfl TA ?_; (with_reducible refine (spec_l1In.calls a0_0 1 1000000000 false _ A4.out).mono ?_); rintro e w' ⟨rfl, ⟨nd, rfl⟩⟩; refine ⟨_, rfl, ?_⟩))
   go_meet
   case rel => exact ⟨_, (true), TF, H', ⟨by first | omega | exact Nat.le_refl _⟩, KW BK898, ⟨TB⟩⟩
 case rest =>
  clear HC2
  try clear p2
  try clear c3
  try clear c5
  try clear hcz6
  try clear hcz7
  try clear hfz6_0
  try clear hfz6_1
  try clear hfz7_0
  try clear hfz7_1
  obtain ⟨kq, x14_1, rfl, HA, HJ1, BK898, HB⟩ := hcut
  cases kq with
  | zero => exact absurd HA.out (by simp [spec_GoodCache.j0])
  | succ kj1 =>
   have H := HA.out
   clear HA
   simp only [spec_GoodCache.j0] at H
   by_cases c8 : x14_1 = true
   ·subst c8
    replace H := ift H
    obtain rfl := Option.some.inj H
    go_wp2
    go_ret
    exact ⟨TE, TB⟩
   ·replace c8 := Bool.eq_false_iff.mpr c8
    subst c8
    replace H := iff' H
    have H' := Aside0.mk H
    clear H
    have hcz9 := cz2 BK898
    go_wp2
    go_loopg [18] kj1 (fun kq v18 w' => ∃ (x18_2 : Int), v18 = .int .i64 x18_2 ∧ Aside0 (spec_GoodCache.l0 kq l0_1 (l0_1.length : Int) x18_2 a0_0 l0_1 = some r) ∧ Aside0 (kq ≤ kj1) ∧ Aside0 (w'.heap[gb898]? = some (.cells #[.int .i64 a0_0, (.slice A0_1 l0_1.length c0_1)] 54 (0, 0))) ∧ Aside0 (Below w.heap.size w w'))
    case atStart => exact ⟨(0), TF, H', ⟨Nat.le_refl _⟩, KW BK898, ⟨TB⟩⟩
    case round =>
     clear H'
     try clear p2
     try clear c3
     try clear c5
     try clear c8
     try clear hcz6
     try clear hcz7
     try clear hcz9
     try clear hfz6_0
     try clear hfz6_1
     try clear hfz7_0
     try clear hfz7_1
     try clear hfz9_0
     try clear hfz9_1
     try clear p2
     obtain ⟨x18_2, rfl, HA, HK2, BK898, HB⟩ := hrel
     cases gk with
     | zero => exact absurd HA.out (by simp [spec_GoodCache.l0])
     | succ k2 =>
      have H := HA.out
      clear HA
      simp only [spec_GoodCache.l0] at H
      by_cases c10 : x18_2 < (l0_1.length : Int)
      ·rw [if_pos c10] at H
       have c10b0 : decide (x18_2 < (l0_1.length : Int)) = true := decide_eq_true c10
       clear c10
       obtain ⟨c11, H⟩ := ifn H
       have c11b0 : decide (0 ≤ x18_2) = true := decide_eq_true c11
       clear c11
       obtain ⟨c12, H⟩ := ifn H
       have c12b0 : decide (x18_2 < (l0_1.length : Int)) = true := decide_eq_true c12
       clear c12
       have HC13 := Aside0.mk H
       clear H
       have p900 : 0 ≤ (x18_2 : Int) := TD
       have q900 : x18_2 < (l0_1.length : Int) := TD
       obtain ⟨ad900, A900_3, c900_3, e900, hx900_0, hx900_1, hx900_2, hx900_3, hx900_4, hx900_5, hl900_3, hi900_3⟩ := at_TEntry HR0_1.out x18_2 p900 q900
       have hw900_3 := hx900_3
       cases e900
       replace hx900_0 := hBc HB hx900_0
       replace hx900_1 := hBc HB hx900_1
       replace hx900_2 := hBc HB hx900_2
       replace hx900_3 := hBc HB hx900_3
       replace hx900_4 := hBc HB hx900_4
       replace hx900_5 := hBc HB hx900_5
       have HR900_3 := Aside0.mk hi900_3
       have HC900_3 := Aside0.mk hl900_3
       clear hi900_3 hl900_3
       replace p900 := eq_true p900
       replace q900 := eq_true q900
       go_upto_region 6 with (first | ((with_reducible refine gate_dst (N := 4) rfl ?_); (try (refine gate_guard (by rfl) ?_; dsimp only)); refine bE 4 #[.string (⟨#[]⟩ : ByteArray), .int .i64 0, .bool false, .slice none 0 0, .int .i64 0, .int .i64 0] 107 ?_; intro gb901 hg w14 hbox hb; have BK901 := Aside0.mk (hbox); have GE901 := bG hg; replace HB := BS hb; have NB898_901 := bN BK898 hg; have NB901_898 := bM BK898 hg; replace BK898 := KB BK898 hb; clear hb hbox hg; have hnb15 := NB901_898.out; have hnc15 := NB898_901.out; have hcz16 := cz6 BK901))
       (try simp only [Act.put, List.setIfInBounds_toArray, List.set_cons_zero, List.set_cons_succ])
       go_cut [67] (fun v67 wc => ∃ (kq : Nat) (x67_12 : Bool), v67 = .bool x67_12 ∧ Aside0 (spec_GoodCache.j2 kq l0_1 (l0_1.length : Int) x18_2 x67_12 a0_0 l0_1 ((rd_TEntry l0_1 x18_2).f0) ((rd_TEntry l0_1 x18_2).f1) ((rd_TEntry l0_1 x18_2).f2) ((rd_TEntry l0_1 x18_2).f3) ((rd_TEntry l0_1 x18_2).f4) ((rd_TEntry l0_1 x18_2).f5) = some r) ∧ Aside0 (kq ≤ k2) ∧ Aside0 (wc.heap[gb898]? = some (.cells #[.int .i64 a0_0, (.slice (some ad900) l0_1.length c0_1)] 54 (0, 0))) ∧ Aside0 (wc.heap[gb901]? = some (.cells #[.string ((rd_TEntry l0_1 x18_2).f0), .int .i64 ((rd_TEntry l0_1 x18_2).f1), .bool ((rd_TEntry l0_1 x18_2).f2), (.slice A900_3 ((rd_TEntry l0_1 x18_2).f3).length c900_3), .int .i64 ((rd_TEntry l0_1 x18_2).f4), .int .i64 ((rd_TEntry l0_1 x18_2).f5)] 107 (0, 0))) ∧ Aside0 (Below w.heap.size w wc))
       case first =>
        have H := HC13.out
        clear HC13
        obtain ⟨t902, A17, H⟩ := bnd H
        by_cases c18 : t902 = true
        ·subst c18
         replace H := ift H
         obtain ⟨t903, A19, H⟩ := bnd H
         by_cases c20 : t903 = true
         ·subst c20
          replace H := ift H
          obtain ⟨t904, A21, H⟩ := bnd H
          by_cases c22 : t904 = true
          ·subst c22
           replace H := ift H
           obtain ⟨t905, A23, H⟩ := bnd H
           by_cases c24 : t905 = true
           ·subst c24
            replace H := ift H
            by_cases c25 : x18_2 > 0
            ·rw [if_pos c25] at H
             have c25b0 : decide (0 < x18_2) = true := decide_eq_true c25
             clear c25
             (first | rw [c25b0] | (simp only [i64_w, i32_w]; rw [c25b0]) | skip)
             obtain ⟨ji26, hji26⟩ : ∃ j_ : Int, (wrap64 (x18_2 - 1)) = j_ := ⟨_, rfl⟩
             replace H : (if 0 ≤ (ji26) then (if (ji26) < (l0_1.length : Int) then ((spec_l10Less.f k2 ((rd_TEntry l0_1 (ji26)).f0) ((rd_TEntry l0_1 (ji26)).f1) ((rd_TEntry l0_1 (ji26)).f2) ((rd_TEntry l0_1 (ji26)).f3) ((rd_TEntry l0_1 (ji26)).f4) ((rd_TEntry l0_1 (ji26)).f5) ((rd_TEntry l0_1 x18_2).f0) ((rd_TEntry l0_1 x18_2).f1) ((rd_TEntry l0_1 x18_2).f2) ((rd_TEntry l0_1 x18_2).f3) ((rd_TEntry l0_1 x18_2).f4) ((rd_TEntry l0_1 x18_2).f5)).bind fun t907 => (spec_GoodCache.j2 k2 l0_1 (l0_1.length : Int) x18_2 (!t907) a0_0 l0_1 ((rd_TEntry l0_1 x18_2).f0) ((rd_TEntry l0_1 x18_2).f1) ((rd_TEntry l0_1 x18_2).f2) ((rd_TEntry l0_1 x18_2).f3) ((rd_TEntry l0_1 x18_2).f4) ((rd_TEntry l0_1 x18_2).f5))) else (none)) else (none)) = some r := by first | (rw [hji26] at H; exact H) | (simp only [hji26] at H ⊢; exact H)
             (try rw [hji26] at A17)
             (try rw [hji26] at A19)
             (try rw [hji26] at A21)
             (try rw [hji26] at A23)
             have hji26w : (IntKind.i64.wrap (x18_2 - 1)) = ji26 := (i64_w _).trans hji26
             obtain ⟨c27, H⟩ := ifn H
             have c27b0 : decide (0 ≤ (ji26)) = true := decide_eq_true c27
             clear c27
             obtain ⟨c28, H⟩ := ifn H
             have c28b0 : decide ((ji26) < (l0_1.length : Int)) = true := decide_eq_true c28
             clear c28
             obtain ⟨t907, A29, H⟩ := bnd H
             have H' := Aside0.mk H
             clear H
             try go_wp2
             have n0_ : Aside0 (((((((w14.setCell ⟨gb901, 0, none⟩ (.string ((rd_TEntry l0_1 x18_2).f0))).setCell ⟨gb901, 1, none⟩ (.int .i64 ((rd_TEntry l0_1 x18_2).f1))).setCell ⟨gb901, 2, none⟩ (.bool ((rd_TEntry l0_1 x18_2).f2))).setCell ⟨gb901, 3, none⟩ (.slice A900_3 ((rd_TEntry l0_1 x18_2).f3).length c900_3)).setCell ⟨gb901, 4, none⟩ (.int .i64 ((rd_TEntry l0_1 x18_2).f4))).setCell ⟨gb901, 5, none⟩ (.int .i64 ((rd_TEntry l0_1 x18_2).f5))).heap[gb898]? = some (.cells #[.int .i64 a0_0, .slice (some ad900) l0_1.length c0_1] 54 (0, 0))) := ⟨TS⟩
             have n1_ : Aside0 (((((((w14.setCell ⟨gb901, 0, none⟩ (.string ((rd_TEntry l0_1 x18_2).f0))).setCell ⟨gb901, 1, none⟩ (.int .i64 ((rd_TEntry l0_1 x18_2).f1))).setCell ⟨gb901, 2, none⟩ (.bool ((rd_TEntry l0_1 x18_2).f2))).setCell ⟨gb901, 3, none⟩ (.slice A900_3 ((rd_TEntry l0_1 x18_2).f3).length c900_3)).setCell ⟨gb901, 4, none⟩ (.int .i64 ((rd_TEntry l0_1 x18_2).f4))).setCell ⟨gb901, 5, none⟩ (.int .i64 ((rd_TEntry l0_1 x18_2).f5))).heap[gb901]? = some (.cells #[.string ((rd_TEntry l0_1 x18_2).f0), .int .i64 ((rd_TEntry l0_1 x18_2).f1), .bool ((rd_TEntry l0_1 x18_2).f2), .slice A900_3 ((rd_TEntry l0_1 x18_2).f3).length c900_3, .int .i64 ((rd_TEntry l0_1 x18_2).f4), .int .i64 ((rd_TEntry l0_1 x18_2).f5)] 107 (0, 0))) := ⟨TS⟩
             have n2_ : Aside0 (Below w.heap.size w ((((((w14.setCell ⟨gb901, 0, none⟩ (.string ((rd_TEntry l0_1 x18_2).f0))).setCell ⟨gb901, 1, none⟩ (.int .i64 ((rd_TEntry l0_1 x18_2).f1))).setCell ⟨gb901, 2, none⟩ (.bool ((rd_TEntry l0_1 x18_2).f2))).setCell ⟨gb901, 3, none⟩ (.slice A900_3 ((rd_TEntry l0_1 x18_2).f3).length c900_3)).setCell ⟨gb901, 4, none⟩ (.int .i64 ((rd_TEntry l0_1 x18_2).f4))).setCell ⟨gb901, 5, none⟩ (.int .i64 ((rd_TEntry l0_1 x18_2).f5)))) := ⟨TB⟩
             (try clear BK898)
             (try clear BK901)
             (try clear HB)
             generalize ((((((w14.setCell ⟨gb901, 0, none⟩ (.string ((rd_TEntry l0_1 x18_2).f0))).setCell ⟨gb901, 1, none⟩ (.int .i64 ((rd_TEntry l0_1 x18_2).f1))).setCell ⟨gb901, 2, none⟩ (.bool ((rd_TEntry l0_1 x18_2).f2))).setCell ⟨gb901, 3, none⟩ (.slice A900_3 ((rd_TEntry l0_1 x18_2).f3).length c900_3)).setCell ⟨gb901, 4, none⟩ (.int .i64 ((rd_TEntry l0_1 x18_2).f4))).setCell ⟨gb901, 5, none⟩ (.int .i64 ((rd_TEntry l0_1 x18_2).f5))) = w30 at n0_ n1_ n2_ ⊢
             have BK898 := n0_
             have BK901 := n1_
             have HB := n2_
             clear n0_ n1_ n2_
             replace BK898 := Aside0.mk (blk_drew BK898.out)
             replace BK901 := Aside0.mk (blk_drew BK901.out)
             replace HB := Aside0.mk (below_drew1 HB.out)
             have p906 : 0 ≤ ((ji26) : Int) := TD
             have q906 : (ji26) < (l0_1.length : Int) := TD
             obtain ⟨ad906, A906_3, c906_3, e906, hx906_0, hx906_1, hx906_2, hx906_3, hx906_4, hx906_5, hl906_3, hi906_3⟩ := at_TEntry HR0_1.out (ji26) p906 q906
             have hw906_5 := hx906_5
             have hw906_4 := hx906_4
             have hw906_3 := hx906_3
             have hw906_2 := hx906_2
             have hw906_1 := hx906_1
             have hw906_0 := hx906_0
             obtain rfl : ad900 = ad906 := (by injection e906)
             replace hx906_0 := hBc HB hx906_0
             replace hx906_1 := hBc HB hx906_1
             replace hx906_2 := hBc HB hx906_2
             replace hx906_3 := hBc HB hx906_3
             replace hx906_4 := hBc HB hx906_4
             replace hx906_5 := hBc HB hx906_5
             have HR906_3 := Aside0.mk hi906_3
             have HC906_3 := Aside0.mk hl906_3
             clear hi906_3 hl906_3
             replace p906 := eq_true p906
             replace q906 := eq_true q906
             refine start_ (n := 45) (S := fun w' => w'.cell? ⟨gb901, 0, none⟩ = some (.string ((rd_TEntry l0_1 x18_2).f0)) ∧ w'.cell? ⟨gb901, 1, none⟩ = some (.int .i64 ((rd_TEntry l0_1 x18_2).f1)) ∧ w'.cell? ⟨gb901, 2, none⟩ = some (.bool ((rd_TEntry l0_1 x18_2).f2)) ∧ w'.cell? ⟨gb901, 3, none⟩ = some (.slice A900_3 ((rd_TEntry l0_1 x18_2).f3).length c900_3) ∧ w'.cell? ⟨gb901, 4, none⟩ = some (.int .i64 ((rd_TEntry l0_1 x18_2).f4)) ∧ w'.cell? ⟨gb901, 5, none⟩ = some (.int .i64 ((rd_TEntry l0_1 x18_2).f5)) ∧ w'.cell? ⟨gb898, 0, none⟩ = some (.int .i64 a0_0) ∧ w'.cell? ⟨gb898, 1, none⟩ = some (.slice (some ad900) l0_1.length c0_1) ∧ w'.cell? (ad900.add (((ji26)).toNat * 6)) = some (.string ((rd_TEntry l0_1 (ji26)).f0)) ∧ w'.cell? ⟨(ad900.add (((ji26)).toNat * 6)).block, (ad900.add (((ji26)).toNat * 6)).off + 1, none⟩ = some (.int .i64 ((rd_TEntry l0_1 (ji26)).f1)) ∧ w'.cell? ⟨(ad900.add (((ji26)).toNat * 6)).block, (ad900.add (((ji26)).toNat * 6)).off + 2, none⟩ = some (.bool ((rd_TEntry l0_1 (ji26)).f2)) ∧ w'.cell? ⟨(ad900.add (((ji26)).toNat * 6)).block, (ad900.add (((ji26)).toNat * 6)).off + 3, none⟩ = some (.slice A906_3 ((rd_TEntry l0_1 (ji26)).f3).length c906_3) ∧ w'.cell? ⟨(ad900.add (((ji26)).toNat * 6)).block, (ad900.add (((ji26)).toNat * 6)).off + 4, none⟩ = some (.int .i64 ((rd_TEntry l0_1 (ji26)).f4)) ∧ w'.cell? ⟨(ad900.add (((ji26)).toNat * 6)).block, (ad900.add (((ji26)).toNat * 6)).off + 5, none⟩ = some (.int .i64 ((rd_TEntry l0_1 (ji26)).f5))) (ds := []) #[false, false, false, false, false, false, false, false, false, false, false, false, false, false, false, false, false, false, false, false, false, false, false, false, false, false, false, false, false, false, false, false, false, false, false, false, false, false, false, false, false, false, false, false, false] KR rfl rfl ⟨bc 0 BK901, bc 1 BK901, bc 2 BK901, bc 3 BK901, bc 4 BK901, bc 5 BK901, bc 0 BK898, bc 1 BK898, ((HB.out.cell (World.block_lt_of_cell? w _ hw906_0)).trans hw906_0), ((HB.out.cell (World.block_lt_of_cell? w _ hw906_1)).trans hw906_1), ((HB.out.cell (World.block_lt_of_cell? w _ hw906_2)).trans hw906_2), ((HB.out.cell (World.block_lt_of_cell? w _ hw906_3)).trans hw906_3), ((HB.out.cell (World.block_lt_of_cell? w _ hw906_4)).trans hw906_4), ((HB.out.cell (World.block_lt_of_cell? w _ hw906_5)).trans hw906_5)⟩ (fun hHeld => ?_); refine with_tabW spec_GoodCache.tab6 spec_GoodCache.bits6 (fun HT_ HW_ => ?_)
             generalize w30.drew = w31 at BK898 BK901 HB HR906_3 hx906_0 hx906_1 hx906_2 hx906_3 hx906_4 hx906_5 hHeld ⊢
             refine pA 0 23 (mL 45 1) HT_ rfl rfl ?_
             refine tA 1 24 (mL 45 3) HT_ HW_ hHeld rfl rfl (by rintro w' ⟨s0, s1, s2, s3, s4, s5, s6, s7, s8, s9, s10, s11, s12, s13⟩; go_simp; with_reducible rfl) ?_
             refine one_ (i := 2) (N := some 25) (mL 45 7) rfl rfl (one_of HT_.out KR) (by decide) (fun K hK => ?_)
             refine goes_ Tryz.func81 KR rfl #[.string ((rd_TEntry l0_1 x18_2).f0)] (by rfl) rfl rfl TA ?_
             with_reducible refine (spec_GoodName.calls k2 ((rd_TEntry l0_1 x18_2).f0) true _ A17.out).mono ?_
             rintro e w32 ⟨rfl, hb⟩
             refine ⟨_, rfl, ?_⟩
             replace BK898 := KB BK898 hb
             replace BK901 := KB BK901 hb
             replace HB := BS hb
             (try clear hb)
             (try clear hb2)
             (try clear hk)
             (try clear hi)
             refine hK.out _ _ ⟨bc 0 BK901, bc 1 BK901, bc 2 BK901, bc 3 BK901, bc 4 BK901, bc 5 BK901, bc 0 BK898, bc 1 BK898, ((HB.out.cell (World.block_lt_of_cell? w _ hw906_0)).trans hw906_0), ((HB.out.cell (World.block_lt_of_cell? w _ hw906_1)).trans hw906_1), ((HB.out.cell (World.block_lt_of_cell? w _ hw906_2)).trans hw906_2), ((HB.out.cell (World.block_lt_of_cell? w _ hw906_3)).trans hw906_3), ((HB.out.cell (World.block_lt_of_cell? w _ hw906_4)).trans hw906_4), ((HB.out.cell (World.block_lt_of_cell? w _ hw906_5)).trans hw906_5)⟩ (fun hHeld => ?_)
             clear hK K
             refine nA ?_
             refine pA 3 26 (mL 45 15) HT_ rfl rfl ?_
             refine pA 4 27 (mL 45 31) HT_ rfl rfl ?_
             refine pA 5 28 (mL 45 63) HT_ rfl rfl ?_
             refine tA 6 29 (mL 45 127) HT_ HW_ hHeld rfl rfl (by rintro w' ⟨s0, s1, s2, s3, s4, s5, s6, s7, s8, s9, s10, s11, s12, s13⟩; go_simp; with_reducible rfl) ?_
             refine one_ (i := 7) (N := some 30) (mL 45 255) rfl rfl (one_of HT_.out KR) (by decide) (fun K hK => ?_)
             refine goes_ Tryz.func82 KR rfl #[.int .i64 ((rd_TEntry l0_1 x18_2).f1)] (by rfl) rfl rfl TA ?_
             with_reducible refine (spec_l3Type.calls k2 ((rd_TEntry l0_1 x18_2).f1) true _ A19.out).mono ?_
             rintro e w33 ⟨rfl, hb⟩
             refine ⟨_, rfl, ?_⟩
             replace BK898 := KB BK898 hb
             replace BK901 := KB BK901 hb
             replace HB := BS hb
             (try clear hb)
             (try clear hb2)
             (try clear hk)
             (try clear hi)
             refine hK.out _ _ ⟨bc 0 BK901, bc 1 BK901, bc 2 BK901, bc 3 BK901, bc 4 BK901, bc 5 BK901, bc 0 BK898, bc 1 BK898, ((HB.out.cell (World.block_lt_of_cell? w _ hw906_0)).trans hw906_0), ((HB.out.cell (World.block_lt_of_cell? w _ hw906_1)).trans hw906_1), ((HB.out.cell (World.block_lt_of_cell? w _ hw906_2)).trans hw906_2), ((HB.out.cell (World.block_lt_of_cell? w _ hw906_3)).trans hw906_3), ((HB.out.cell (World.block_lt_of_cell? w _ hw906_4)).trans hw906_4), ((HB.out.cell (World.block_lt_of_cell? w _ hw906_5)).trans hw906_5)⟩ (fun hHeld => ?_)
             clear hK K
             refine nA ?_
             refine pA 8 31 (mL 45 511) HT_ rfl rfl ?_
             refine pA 9 32 (mL 45 1023) HT_ rfl rfl ?_
             refine pA 10 33 (mL 45 2047) HT_ rfl rfl ?_
             refine pA 11 34 (mL 45 4095) HT_ rfl rfl ?_
             refine pA 13 36 (mL 45 12287) HT_ rfl rfl ?_
             refine pA 16 39 (mL 45 77823) HT_ rfl rfl ?_
             refine tA 12 35 (mL 45 81919) HT_ HW_ hHeld rfl rfl (by rintro w' ⟨s0, s1, s2, s3, s4, s5, s6, s7, s8, s9, s10, s11, s12, s13⟩; go_simp; with_reducible rfl) ?_
             refine tA 14 37 (mL 45 98303) HT_ HW_ hHeld rfl rfl (by rintro w' ⟨s0, s1, s2, s3, s4, s5, s6, s7, s8, s9, s10, s11, s12, s13⟩; go_simp; with_reducible rfl) ?_
             refine pA 15 38 (mL 45 131071) HT_ rfl rfl ?_
             refine tA 17 40 (mL 45 262143) HT_ HW_ hHeld rfl rfl (by rintro w' ⟨s0, s1, s2, s3, s4, s5, s6, s7, s8, s9, s10, s11, s12, s13⟩; go_simp; with_reducible rfl) ?_
             refine pA 18 41 (mL 45 524287) HT_ rfl rfl ?_
             refine one_ (i := 19) (N := some 42) (mL 45 1048575) rfl rfl (one_of HT_.out KR) (by decide) (fun K hK => ?_)
             refine goes_ Tryz.func80 KR rfl #[.int .i64 ((rd_TEntry l0_1 x18_2).f4), .int .i64 (wrap64 (a0_0 + 1)), .int .i64 (wrap64 (a0_0 + 100000))] (by rfl) rfl rfl TA ?_
             with_reducible refine (spec_l1In.calls ((rd_TEntry l0_1 x18_2).f4) (wrap64 (a0_0 + 1)) (wrap64 (a0_0 + 100000)) true _ A21.out).mono ?_
             rintro e w' ⟨rfl, ⟨nd, rfl⟩⟩
             refine ⟨_, rfl, ?_⟩
             refine hK.out _ _ ⟨bc 0 BK901, bc 1 BK901, bc 2 BK901, bc 3 BK901, bc 4 BK901, bc 5 BK901, bc 0 BK898, bc 1 BK898, ((HB.out.cell (World.block_lt_of_cell? w _ hw906_0)).trans hw906_0), ((HB.out.cell (World.block_lt_of_cell? w _ hw906_1)).trans hw906_1), ((HB.out.cell (World.block_lt_of_cell? w _ hw906_2)).trans hw906_2), ((HB.out.cell (World.block_lt_of_cell? w _ hw906_3)).trans hw906_3), ((HB.out.cell (World.block_lt_of_cell? w _ hw906_4)).trans hw906_4), ((HB.out.cell (World.block_lt_of_cell? w _ hw906_5)).trans hw906_5)⟩ (fun hHeld => ?_)
             clear hK K
             refine nA ?_
             refine pA 20 43 (mL 45 2097151) HT_ rfl rfl ?_
             refine pA 21 44 (mL 45 4194303) HT_ rfl rfl ?_
             refine pA 22 45 (mL 45 8388607) HT_ rfl rfl ?_
             refine pA 23 46 (mL 45 16777215) HT_ rfl rfl ?_
             refine pA 25 48 (mL 45 50331647) HT_ rfl rfl ?_
             refine tA 24 47 (mL 45 67108863) HT_ HW_ hHeld rfl rfl (by rintro w' ⟨s0, s1, s2, s3, s4, s5, s6, s7, s8, s9, s10, s11, s12, s13⟩; go_simp; with_reducible rfl) ?_
             refine tA 26 49 (mL 45 134217727) HT_ HW_ hHeld rfl rfl (by rintro w' ⟨s0, s1, s2, s3, s4, s5, s6, s7, s8, s9, s10, s11, s12, s13⟩; go_simp; with_reducible rfl) ?_
             refine one_ (i := 27) (N := some 50) (mL 45 268435455) rfl rfl (one_of HT_.out KR) (by decide) (fun K hK => ?_)
             refine goes_ Tryz.func80 KR rfl #[.int .i64 ((rd_TEntry l0_1 x18_2).f5), .int .i64 1, .int .i64 a0_0] (by rfl) rfl rfl TA ?_
             with_reducible refine (spec_l1In.calls ((rd_TEntry l0_1 x18_2).f5) 1 a0_0 true _ A23.out).mono ?_
             rintro e w' ⟨rfl, ⟨nd, rfl⟩⟩
             refine ⟨_, rfl, ?_⟩
             refine hK.out _ _ ⟨bc 0 BK901, bc 1 BK901, bc 2 BK901, bc 3 BK901, bc 4 BK901, bc 5 BK901, bc 0 BK898, bc 1 BK898, ((HB.out.cell (World.block_lt_of_cell? w _ hw906_0)).trans hw906_0), ((HB.out.cell (World.block_lt_of_cell? w _ hw906_1)).trans hw906_1), ((HB.out.cell (World.block_lt_of_cell? w _ hw906_2)).trans hw906_2), ((HB.out.cell (World.block_lt_of_cell? w _ hw906_3)).trans hw906_3), ((HB.out.cell (World.block_lt_of_cell? w _ hw906_4)).trans hw906_4), ((HB.out.cell (World.block_lt_of_cell? w _ hw906_5)).trans hw906_5)⟩ (fun hHeld => ?_)
             clear hK K
             refine nA ?_
             refine pA 28 51 (mL 45 536870911) HT_ rfl rfl ?_
             refine pA 29 52 (mL 45 1073741823) HT_ rfl rfl ?_
             refine pA 30 53 (mL 45 2147483647) HT_ rfl rfl ?_
             refine pA 31 54 (mL 45 4294967295) HT_ rfl rfl ?_
             refine pA 32 55 (mL 45 8589934591) HT_ rfl rfl ?_
             refine pA 33 56 (mL 45 17179869183) HT_ rfl rfl ?_
             refine pA 34 57 (mL 45 34359738367) HT_ rfl rfl ?_
             refine pA 36 59 (mL 45 103079215103) HT_ rfl rfl ?_
             refine pA 37 60 (mL 45 240518168575) HT_ rfl rfl ?_
             refine tA 35 58 (mL 45 274877906943) HT_ HW_ hHeld rfl rfl (by rintro w' ⟨s0, s1, s2, s3, s4, s5, s6, s7, s8, s9, s10, s11, s12, s13⟩; go_simp; with_reducible rfl) ?_
             refine pA 38 61 (mL 45 549755813887) HT_ rfl rfl ?_
             refine tA 39 62 (mL 45 1099511627775) HT_ HW_ hHeld rfl rfl (by rintro w' ⟨s0, s1, s2, s3, s4, s5, s6, s7, s8, s9, s10, s11, s12, s13⟩; go_simp; with_reducible rfl) ?_
             refine tA 40 63 (mL 45 2199023255551) HT_ HW_ hHeld rfl rfl (by rintro w' ⟨s0, s1, s2, s3, s4, s5, s6, s7, s8, s9, s10, s11, s12, s13⟩; go_simp; with_reducible rfl) ?_
             refine one_ (i := 41) (N := some 64) (mL 45 4398046511103) rfl rfl (one_of HT_.out KR) (by decide) (fun K hK => ?_)
             refine goes_ Tryz.func83 KR rfl #[.agg #[.string ((rd_TEntry l0_1 (ji26)).f0), .int .i64 ((rd_TEntry l0_1 (ji26)).f1), .bool ((rd_TEntry l0_1 (ji26)).f2), .slice A906_3 ((rd_TEntry l0_1 (ji26)).f3).length c906_3, .int .i64 ((rd_TEntry l0_1 (ji26)).f4), .int .i64 ((rd_TEntry l0_1 (ji26)).f5)], .agg #[.string ((rd_TEntry l0_1 x18_2).f0), .int .i64 ((rd_TEntry l0_1 x18_2).f1), .bool ((rd_TEntry l0_1 x18_2).f2), .slice A900_3 ((rd_TEntry l0_1 x18_2).f3).length c900_3, .int .i64 ((rd_TEntry l0_1 x18_2).f4), .int .i64 ((rd_TEntry l0_1 x18_2).f5)]] (by rfl) rfl rfl (by (try simp only [List.map_toArray, List.map_cons, List.map_nil]); first | done | (simp only [hji26]; rfl) | rfl | (simp only [List.length_drop, List.length_take]; rfl)) ?_
             with_reducible refine (spec_l10Less.calls k2 ((rd_TEntry l0_1 (ji26)).f0) ((rd_TEntry l0_1 (ji26)).f1) ((rd_TEntry l0_1 (ji26)).f2) _ _ ((rd_TEntry l0_1 (ji26)).f3) ((rd_TEntry l0_1 (ji26)).f4) ((rd_TEntry l0_1 (ji26)).f5) ((rd_TEntry l0_1 x18_2).f0) ((rd_TEntry l0_1 x18_2).f1) ((rd_TEntry l0_1 x18_2).f2) _ _ ((rd_TEntry l0_1 x18_2).f3) ((rd_TEntry l0_1 x18_2).f4) ((rd_TEntry l0_1 x18_2).f5) t907 _ ?side1 ?side2 ?side3 ?side4 A29.out).mono ?_
             (case side1 => exact CW ((Kd.C_below HR906_3.out TB)))
             (case side2 => exact HC906_3.out)
             (case side3 => exact CW ((Kd.C_below HR900_3.out TB)))
             (case side4 => exact HC900_3.out)
             rintro e w34 ⟨rfl, hb⟩
             refine ⟨_, rfl, ?_⟩
             replace BK898 := KB BK898 hb
             replace BK901 := KB BK901 hb
             replace HB := BS hb
             (try clear hb)
             (try clear hb2)
             (try clear hk)
             (try clear hi)
             refine hK.out _ _ ⟨bc 0 BK901, bc 1 BK901, bc 2 BK901, bc 3 BK901, bc 4 BK901, bc 5 BK901, bc 0 BK898, bc 1 BK898, ((HB.out.cell (World.block_lt_of_cell? w _ hw906_0)).trans hw906_0), ((HB.out.cell (World.block_lt_of_cell? w _ hw906_1)).trans hw906_1), ((HB.out.cell (World.block_lt_of_cell? w _ hw906_2)).trans hw906_2), ((HB.out.cell (World.block_lt_of_cell? w _ hw906_3)).trans hw906_3), ((HB.out.cell (World.block_lt_of_cell? w _ hw906_4)).trans hw906_4), ((HB.out.cell (World.block_lt_of_cell? w _ hw906_5)).trans hw906_5)⟩ (fun hHeld => ?_)
             clear hK K
             refine nA ?_
             refine pA 42 65 (mL 45 8796093022207) HT_ rfl rfl ?_
             refine pA 43 66 (mL 45 17592186044415) HT_ rfl rfl ?_
             refine pA 44 67 (mL 45 35184372088831) HT_ rfl rfl ?_
             refine done_ (done_of HT_.out KR) ?_
             try go_wp2
             go_meet
             case rel => exact ⟨_, (!t907), TF, H', ⟨by have := HJ1.out; have := HK2.out; first | omega | exact Nat.le_refl _⟩, KW BK898, KW BK901, ⟨TB⟩⟩
            ·rw [if_neg c25] at H
             have c25b0 : decide (0 < x18_2) = false := decide_eq_false c25
             clear c25
             (first | rw [c25b0] | (simp only [i64_w, i32_w]; rw [c25b0]) | skip)
             have H' := Aside0.mk H
             clear H
             try go_wp2
             have n0_ : Aside0 (((((((w14.setCell ⟨gb901, 0, none⟩ (.string ((rd_TEntry l0_1 x18_2).f0))).setCell ⟨gb901, 1, none⟩ (.int .i64 ((rd_TEntry l0_1 x18_2).f1))).setCell ⟨gb901, 2, none⟩ (.bool ((rd_TEntry l0_1 x18_2).f2))).setCell ⟨gb901, 3, none⟩ (.slice A900_3 ((rd_TEntry l0_1 x18_2).f3).length c900_3)).setCell ⟨gb901, 4, none⟩ (.int .i64 ((rd_TEntry l0_1 x18_2).f4))).setCell ⟨gb901, 5, none⟩ (.int .i64 ((rd_TEntry l0_1 x18_2).f5))).heap[gb898]? = some (.cells #[.int .i64 a0_0, .slice (some ad900) l0_1.length c0_1] 54 (0, 0))) := ⟨TS⟩
             have n1_ : Aside0 (((((((w14.setCell ⟨gb901, 0, none⟩ (.string ((rd_TEntry l0_1 x18_2).f0))).setCell ⟨gb901, 1, none⟩ (.int .i64 ((rd_TEntry l0_1 x18_2).f1))).setCell ⟨gb901, 2, none⟩ (.bool ((rd_TEntry l0_1 x18_2).f2))).setCell ⟨gb901, 3, none⟩ (.slice A900_3 ((rd_TEntry l0_1 x18_2).f3).length c900_3)).setCell ⟨gb901, 4, none⟩ (.int .i64 ((rd_TEntry l0_1 x18_2).f4))).setCell ⟨gb901, 5, none⟩ (.int .i64 ((rd_TEntry l0_1 x18_2).f5))).heap[gb901]? = some (.cells #[.string ((rd_TEntry l0_1 x18_2).f0), .int .i64 ((rd_TEntry l0_1 x18_2).f1), .bool ((rd_TEntry l0_1 x18_2).f2), .slice A900_3 ((rd_TEntry l0_1 x18_2).f3).length c900_3, .int .i64 ((rd_TEntry l0_1 x18_2).f4), .int .i64 ((rd_TEntry l0_1 x18_2).f5)] 107 (0, 0))) := ⟨TS⟩
             have n2_ : Aside0 (Below w.heap.size w ((((((w14.setCell ⟨gb901, 0, none⟩ (.string ((rd_TEntry l0_1 x18_2).f0))).setCell ⟨gb901, 1, none⟩ (.int .i64 ((rd_TEntry l0_1 x18_2).f1))).setCell ⟨gb901, 2, none⟩ (.bool ((rd_TEntry l0_1 x18_2).f2))).setCell ⟨gb901, 3, none⟩ (.slice A900_3 ((rd_TEntry l0_1 x18_2).f3).length c900_3)).setCell ⟨gb901, 4, none⟩ (.int .i64 ((rd_TEntry l0_1 x18_2).f4))).setCell ⟨gb901, 5, none⟩ (.int .i64 ((rd_TEntry l0_1 x18_2).f5)))) := ⟨TB⟩
             (try clear BK898)
             (try clear BK901)
             (try clear HB)
             generalize ((((((w14.setCell ⟨gb901, 0, none⟩ (.string ((rd_TEntry l0_1 x18_2).f0))).setCell ⟨gb901, 1, none⟩ (.int .i64 ((rd_TEntry l0_1 x18_2).f1))).setCell ⟨gb901, 2, none⟩ (.bool ((rd_TEntry l0_1 x18_2).f2))).setCell ⟨gb901, 3, none⟩ (.slice A900_3 ((rd_TEntry l0_1 x18_2).f3).length c900_3)).setCell ⟨gb901, 4, none⟩ (.int .i64 ((rd_TEntry l0_1 x18_2).f4))).setCell ⟨gb901, 5, none⟩ (.int .i64 ((rd_TEntry l0_1 x18_2).f5))) = w35 at n0_ n1_ n2_ ⊢
             have BK898 := n0_
             have BK901 := n1_
             have HB := n2_
             clear n0_ n1_ n2_
             replace BK898 := Aside0.mk (blk_drew BK898.out)
             replace BK901 := Aside0.mk (blk_drew BK901.out)
             replace HB := Aside0.mk (below_drew1 HB.out)
             refine start_ (n := 45) (S := fun w' => w'.cell? ⟨gb901, 0, none⟩ = some (.string ((rd_TEntry l0_1 x18_2).f0)) ∧ w'.cell? ⟨gb901, 1, none⟩ = some (.int .i64 ((rd_TEntry l0_1 x18_2).f1)) ∧ w'.cell? ⟨gb901, 2, none⟩ = some (.bool ((rd_TEntry l0_1 x18_2).f2)) ∧ w'.cell? ⟨gb901, 3, none⟩ = some (.slice A900_3 ((rd_TEntry l0_1 x18_2).f3).length c900_3) ∧ w'.cell? ⟨gb901, 4, none⟩ = some (.int .i64 ((rd_TEntry l0_1 x18_2).f4)) ∧ w'.cell? ⟨gb901, 5, none⟩ = some (.int .i64 ((rd_TEntry l0_1 x18_2).f5)) ∧ w'.cell? ⟨gb898, 0, none⟩ = some (.int .i64 a0_0) ∧ w'.cell? ⟨gb898, 1, none⟩ = some (.slice (some ad900) l0_1.length c0_1)) (ds := []) #[false, false, false, false, false, false, false, false, false, false, false, false, false, false, false, false, false, false, false, false, false, false, false, false, false, false, false, false, false, false, false, false, false, false, false, false, false, false, false, false, false, false, false, false, false] KR rfl rfl ⟨bc 0 BK901, bc 1 BK901, bc 2 BK901, bc 3 BK901, bc 4 BK901, bc 5 BK901, bc 0 BK898, bc 1 BK898⟩ (fun hHeld => ?_); refine with_tabW spec_GoodCache.tab6 spec_GoodCache.bits6 (fun HT_ HW_ => ?_)
             generalize w35.drew = w36 at BK898 BK901 HB hHeld ⊢
             refine pA 0 23 (mL 45 1) HT_ rfl rfl ?_
             refine tA 1 24 (mL 45 3) HT_ HW_ hHeld rfl rfl (by rintro w' ⟨s0, s1, s2, s3, s4, s5, s6, s7⟩; go_simp; with_reducible rfl) ?_
             refine one_ (i := 2) (N := some 25) (mL 45 7) rfl rfl (one_of HT_.out KR) (by decide) (fun K hK => ?_)
             refine goes_ Tryz.func81 KR rfl #[.string ((rd_TEntry l0_1 x18_2).f0)] (by rfl) rfl rfl TA ?_
             with_reducible refine (spec_GoodName.calls k2 ((rd_TEntry l0_1 x18_2).f0) true _ A17.out).mono ?_
             rintro e w37 ⟨rfl, hb⟩
             refine ⟨_, rfl, ?_⟩
             replace BK898 := KB BK898 hb
             replace BK901 := KB BK901 hb
             replace HB := BS hb
             (try clear hb)
             (try clear hb2)
             (try clear hk)
             (try clear hi)
             refine hK.out _ _ ⟨bc 0 BK901, bc 1 BK901, bc 2 BK901, bc 3 BK901, bc 4 BK901, bc 5 BK901, bc 0 BK898, bc 1 BK898⟩ (fun hHeld => ?_)
             clear hK K
             refine nA ?_
             refine pA 3 26 (mL 45 15) HT_ rfl rfl ?_
             refine pA 4 27 (mL 45 31) HT_ rfl rfl ?_
             refine pA 5 28 (mL 45 63) HT_ rfl rfl ?_
             refine tA 6 29 (mL 45 127) HT_ HW_ hHeld rfl rfl (by rintro w' ⟨s0, s1, s2, s3, s4, s5, s6, s7⟩; go_simp; with_reducible rfl) ?_
             refine one_ (i := 7) (N := some 30) (mL 45 255) rfl rfl (one_of HT_.out KR) (by decide) (fun K hK => ?_)
             refine goes_ Tryz.func82 KR rfl #[.int .i64 ((rd_TEntry l0_1 x18_2).f1)] (by rfl) rfl rfl TA ?_
             with_reducible refine (spec_l3Type.calls k2 ((rd_TEntry l0_1 x18_2).f1) true _ A19.out).mono ?_
             rintro e w38 ⟨rfl, hb⟩
             refine ⟨_, rfl, ?_⟩
             replace BK898 := KB BK898 hb
             replace BK901 := KB BK901 hb
             replace HB := BS hb
             (try clear hb)
             (try clear hb2)
             (try clear hk)
             (try clear hi)
             refine hK.out _ _ ⟨bc 0 BK901, bc 1 BK901, bc 2 BK901, bc 3 BK901, bc 4 BK901, bc 5 BK901, bc 0 BK898, bc 1 BK898⟩ (fun hHeld => ?_)
             clear hK K
             refine nA ?_
             refine pA 8 31 (mL 45 511) HT_ rfl rfl ?_
             refine pA 9 32 (mL 45 1023) HT_ rfl rfl ?_
             refine pA 10 33 (mL 45 2047) HT_ rfl rfl ?_
             refine pA 11 34 (mL 45 4095) HT_ rfl rfl ?_
             refine pA 13 36 (mL 45 12287) HT_ rfl rfl ?_
             refine pA 16 39 (mL 45 77823) HT_ rfl rfl ?_
             refine tA 12 35 (mL 45 81919) HT_ HW_ hHeld rfl rfl (by rintro w' ⟨s0, s1, s2, s3, s4, s5, s6, s7⟩; go_simp; with_reducible rfl) ?_
             refine tA 14 37 (mL 45 98303) HT_ HW_ hHeld rfl rfl (by rintro w' ⟨s0, s1, s2, s3, s4, s5, s6, s7⟩; go_simp; with_reducible rfl) ?_
             refine pA 15 38 (mL 45 131071) HT_ rfl rfl ?_
             refine tA 17 40 (mL 45 262143) HT_ HW_ hHeld rfl rfl (by rintro w' ⟨s0, s1, s2, s3, s4, s5, s6, s7⟩; go_simp; with_reducible rfl) ?_
             refine pA 18 41 (mL 45 524287) HT_ rfl rfl ?_
             refine one_ (i := 19) (N := some 42) (mL 45 1048575) rfl rfl (one_of HT_.out KR) (by decide) (fun K hK => ?_)
             refine goes_ Tryz.func80 KR rfl #[.int .i64 ((rd_TEntry l0_1 x18_2).f4), .int .i64 (wrap64 (a0_0 + 1)), .int .i64 (wrap64 (a0_0 + 100000))] (by rfl) rfl rfl TA ?_
             with_reducible refine (spec_l1In.calls ((rd_TEntry l0_1 x18_2).f4) (wrap64 (a0_0 + 1)) (wrap64 (a0_0 + 100000)) true _ A21.out).mono ?_
             rintro e w' ⟨rfl, ⟨nd, rfl⟩⟩
             refine ⟨_, rfl, ?_⟩
             refine hK.out _ _ ⟨bc 0 BK901, bc 1 BK901, bc 2 BK901, bc 3 BK901, bc 4 BK901, bc 5 BK901, bc 0 BK898, bc 1 BK898⟩ (fun hHeld => ?_)
             clear hK K
             refine nA ?_
             refine pA 20 43 (mL 45 2097151) HT_ rfl rfl ?_
             refine pA 21 44 (mL 45 4194303) HT_ rfl rfl ?_
             refine pA 22 45 (mL 45 8388607) HT_ rfl rfl ?_
             refine pA 23 46 (mL 45 16777215) HT_ rfl rfl ?_
             refine pA 25 48 (mL 45 50331647) HT_ rfl rfl ?_
             refine tA 24 47 (mL 45 67108863) HT_ HW_ hHeld rfl rfl (by rintro w' ⟨s0, s1, s2, s3, s4, s5, s6, s7⟩; go_simp; with_reducible rfl) ?_
             refine tA 26 49 (mL 45 134217727) HT_ HW_ hHeld rfl rfl (by rintro w' ⟨s0, s1, s2, s3, s4, s5, s6, s7⟩; go_simp; with_reducible rfl) ?_
             refine one_ (i := 27) (N := some 50) (mL 45 268435455) rfl rfl (one_of HT_.out KR) (by decide) (fun K hK => ?_)
             refine goes_ Tryz.func80 KR rfl #[.int .i64 ((rd_TEntry l0_1 x18_2).f5), .int .i64 1, .int .i64 a0_0] (by rfl) rfl rfl TA ?_
             with_reducible refine (spec_l1In.calls ((rd_TEntry l0_1 x18_2).f5) 1 a0_0 true _ A23.out).mono ?_
             rintro e w' ⟨rfl, ⟨nd, rfl⟩⟩
             refine ⟨_, rfl, ?_⟩
             refine hK.out _ _ ⟨bc 0 BK901, bc 1 BK901, bc 2 BK901, bc 3 BK901, bc 4 BK901, bc 5 BK901, bc 0 BK898, bc 1 BK898⟩ (fun hHeld => ?_)
             clear hK K
             refine nA ?_
             refine pA 28 51 (mL 45 536870911) HT_ rfl rfl ?_
             refine pA 29 52 (mL 45 1073741823) HT_ rfl rfl ?_
             refine pA 30 53 (mL 45 2147483647) HT_ rfl rfl ?_
             refine pA 31 54 (mL 45 4294967295) HT_ rfl rfl ?_
             refine pA 32 55 (mL 45 8589934591) HT_ rfl rfl ?_
             refine pA 33 56 (mL 45 17179869183) HT_ rfl rfl ?_
             refine pU 34 57 (mL 45 34359738367) HT_ rfl rfl ?_
             refine pU 35 58 (mL 45 68719476735) HT_ rfl rfl ?_
             refine pU 36 59 (mL 45 137438953471) HT_ rfl rfl ?_
             refine pU 37 60 (mL 45 274877906943) HT_ rfl rfl ?_
             refine pU 38 61 (mL 45 549755813887) HT_ rfl rfl ?_
             refine pU 39 62 (mL 45 1099511627775) HT_ rfl rfl ?_
             refine pU 40 63 (mL 45 2199023255551) HT_ rfl rfl ?_
             refine pU 41 64 (mL 45 4398046511103) HT_ rfl rfl ?_
             refine pU 42 65 (mL 45 8796093022207) HT_ rfl rfl ?_
             refine pA 43 66 (mL 45 17592186044415) HT_ rfl rfl ?_
             refine pA 44 67 (mL 45 35184372088831) HT_ rfl rfl ?_
             refine done_ (done_of HT_.out KR) ?_
             try go_wp2
             go_meet
             case rel => exact ⟨_, (false), TF, H', ⟨by have := HJ1.out; have := HK2.out; first | omega | exact Nat.le_refl _⟩, KW BK898, KW BK901, ⟨TB⟩⟩
           ·replace c24 := Bool.eq_false_iff.mpr c24
            subst c24
            replace H := iff' H
            have H' := Aside0.mk H
            clear H
            try go_wp2
            have n0_ : Aside0 (((((((w14.setCell ⟨gb901, 0, none⟩ (.string ((rd_TEntry l0_1 x18_2).f0))).setCell ⟨gb901, 1, none⟩ (.int .i64 ((rd_TEntry l0_1 x18_2).f1))).setCell ⟨gb901, 2, none⟩ (.bool ((rd_TEntry l0_1 x18_2).f2))).setCell ⟨gb901, 3, none⟩ (.slice A900_3 ((rd_TEntry l0_1 x18_2).f3).length c900_3)).setCell ⟨gb901, 4, none⟩ (.int .i64 ((rd_TEntry l0_1 x18_2).f4))).setCell ⟨gb901, 5, none⟩ (.int .i64 ((rd_TEntry l0_1 x18_2).f5))).heap[gb898]? = some (.cells #[.int .i64 a0_0, .slice (some ad900) l0_1.length c0_1] 54 (0, 0))) := ⟨TS⟩
            have n1_ : Aside0 (((((((w14.setCell ⟨gb901, 0, none⟩ (.string ((rd_TEntry l0_1 x18_2).f0))).setCell ⟨gb901, 1, none⟩ (.int .i64 ((rd_TEntry l0_1 x18_2).f1))).setCell ⟨gb901, 2, none⟩ (.bool ((rd_TEntry l0_1 x18_2).f2))).setCell ⟨gb901, 3, none⟩ (.slice A900_3 ((rd_TEntry l0_1 x18_2).f3).length c900_3)).setCell ⟨gb901, 4, none⟩ (.int .i64 ((rd_TEntry l0_1 x18_2).f4))).setCell ⟨gb901, 5, none⟩ (.int .i64 ((rd_TEntry l0_1 x18_2).f5))).heap[gb901]? = some (.cells #[.string ((rd_TEntry l0_1 x18_2).f0), .int .i64 ((rd_TEntry l0_1 x18_2).f1), .bool ((rd_TEntry l0_1 x18_2).f2), .slice A900_3 ((rd_TEntry l0_1 x18_2).f3).length c900_3, .int .i64 ((rd_TEntry l0_1 x18_2).f4), .int .i64 ((rd_TEntry l0_1 x18_2).f5)] 107 (0, 0))) := ⟨TS⟩
            have n2_ : Aside0 (Below w.heap.size w ((((((w14.setCell ⟨gb901, 0, none⟩ (.string ((rd_TEntry l0_1 x18_2).f0))).setCell ⟨gb901, 1, none⟩ (.int .i64 ((rd_TEntry l0_1 x18_2).f1))).setCell ⟨gb901, 2, none⟩ (.bool ((rd_TEntry l0_1 x18_2).f2))).setCell ⟨gb901, 3, none⟩ (.slice A900_3 ((rd_TEntry l0_1 x18_2).f3).length c900_3)).setCell ⟨gb901, 4, none⟩ (.int .i64 ((rd_TEntry l0_1 x18_2).f4))).setCell ⟨gb901, 5, none⟩ (.int .i64 ((rd_TEntry l0_1 x18_2).f5)))) := ⟨TB⟩
            (try clear BK898)
            (try clear BK901)
            (try clear HB)
            generalize ((((((w14.setCell ⟨gb901, 0, none⟩ (.string ((rd_TEntry l0_1 x18_2).f0))).setCell ⟨gb901, 1, none⟩ (.int .i64 ((rd_TEntry l0_1 x18_2).f1))).setCell ⟨gb901, 2, none⟩ (.bool ((rd_TEntry l0_1 x18_2).f2))).setCell ⟨gb901, 3, none⟩ (.slice A900_3 ((rd_TEntry l0_1 x18_2).f3).length c900_3)).setCell ⟨gb901, 4, none⟩ (.int .i64 ((rd_TEntry l0_1 x18_2).f4))).setCell ⟨gb901, 5, none⟩ (.int .i64 ((rd_TEntry l0_1 x18_2).f5))) = w39 at n0_ n1_ n2_ ⊢
            have BK898 := n0_
            have BK901 := n1_
            have HB := n2_
            clear n0_ n1_ n2_
            replace BK898 := Aside0.mk (blk_drew BK898.out)
            replace BK901 := Aside0.mk (blk_drew BK901.out)
            replace HB := Aside0.mk (below_drew1 HB.out)
            refine start_ (n := 45) (S := fun w' => w'.cell? ⟨gb901, 0, none⟩ = some (.string ((rd_TEntry l0_1 x18_2).f0)) ∧ w'.cell? ⟨gb901, 1, none⟩ = some (.int .i64 ((rd_TEntry l0_1 x18_2).f1)) ∧ w'.cell? ⟨gb901, 2, none⟩ = some (.bool ((rd_TEntry l0_1 x18_2).f2)) ∧ w'.cell? ⟨gb901, 3, none⟩ = some (.slice A900_3 ((rd_TEntry l0_1 x18_2).f3).length c900_3) ∧ w'.cell? ⟨gb901, 4, none⟩ = some (.int .i64 ((rd_TEntry l0_1 x18_2).f4)) ∧ w'.cell? ⟨gb901, 5, none⟩ = some (.int .i64 ((rd_TEntry l0_1 x18_2).f5)) ∧ w'.cell? ⟨gb898, 0, none⟩ = some (.int .i64 a0_0) ∧ w'.cell? ⟨gb898, 1, none⟩ = some (.slice (some ad900) l0_1.length c0_1)) (ds := []) #[false, false, false, false, false, false, false, false, false, false, false, false, false, false, false, false, false, false, false, false, false, false, false, false, false, false, false, false, false, false, false, false, false, false, false, false, false, false, false, false, false, false, false, false, false] KR rfl rfl ⟨bc 0 BK901, bc 1 BK901, bc 2 BK901, bc 3 BK901, bc 4 BK901, bc 5 BK901, bc 0 BK898, bc 1 BK898⟩ (fun hHeld => ?_); refine with_tabW spec_GoodCache.tab6 spec_GoodCache.bits6 (fun HT_ HW_ => ?_)
            generalize w39.drew = w40 at BK898 BK901 HB hHeld ⊢
            refine pA 0 23 (mL 45 1) HT_ rfl rfl ?_
            refine tA 1 24 (mL 45 3) HT_ HW_ hHeld rfl rfl (by rintro w' ⟨s0, s1, s2, s3, s4, s5, s6, s7⟩; go_simp; with_reducible rfl) ?_
            refine one_ (i := 2) (N := some 25) (mL 45 7) rfl rfl (one_of HT_.out KR) (by decide) (fun K hK => ?_)
            refine goes_ Tryz.func81 KR rfl #[.string ((rd_TEntry l0_1 x18_2).f0)] (by rfl) rfl rfl TA ?_
            with_reducible refine (spec_GoodName.calls k2 ((rd_TEntry l0_1 x18_2).f0) true _ A17.out).mono ?_
            rintro e w41 ⟨rfl, hb⟩
            refine ⟨_, rfl, ?_⟩
            replace BK898 := KB BK898 hb
            replace BK901 := KB BK901 hb
            replace HB := BS hb
            (try clear hb)
            (try clear hb2)
            (try clear hk)
            (try clear hi)
            refine hK.out _ _ ⟨bc 0 BK901, bc 1 BK901, bc 2 BK901, bc 3 BK901, bc 4 BK901, bc 5 BK901, bc 0 BK898, bc 1 BK898⟩ (fun hHeld => ?_)
            clear hK K
            refine nA ?_
            refine pA 3 26 (mL 45 15) HT_ rfl rfl ?_
            refine pA 4 27 (mL 45 31) HT_ rfl rfl ?_
            refine pA 5 28 (mL 45 63) HT_ rfl rfl ?_
            refine tA 6 29 (mL 45 127) HT_ HW_ hHeld rfl rfl (by rintro w' ⟨s0, s1, s2, s3, s4, s5, s6, s7⟩; go_simp; with_reducible rfl) ?_
            refine one_ (i := 7) (N := some 30) (mL 45 255) rfl rfl (one_of HT_.out KR) (by decide) (fun K hK => ?_)
            refine goes_ Tryz.func82 KR rfl #[.int .i64 ((rd_TEntry l0_1 x18_2).f1)] (by rfl) rfl rfl TA ?_
            with_reducible refine (spec_l3Type.calls k2 ((rd_TEntry l0_1 x18_2).f1) true _ A19.out).mono ?_
            rintro e w42 ⟨rfl, hb⟩
            refine ⟨_, rfl, ?_⟩
            replace BK898 := KB BK898 hb
            replace BK901 := KB BK901 hb
            replace HB := BS hb
            (try clear hb)
            (try clear hb2)
            (try clear hk)
            (try clear hi)
            refine hK.out _ _ ⟨bc 0 BK901, bc 1 BK901, bc 2 BK901, bc 3 BK901, bc 4 BK901, bc 5 BK901, bc 0 BK898, bc 1 BK898⟩ (fun hHeld => ?_)
            clear hK K
            refine nA ?_
            refine pA 8 31 (mL 45 511) HT_ rfl rfl ?_
            refine pA 9 32 (mL 45 1023) HT_ rfl rfl ?_
            refine pA 10 33 (mL 45 2047) HT_ rfl rfl ?_
            refine pA 11 34 (mL 45 4095) HT_ rfl rfl ?_
            refine pA 13 36 (mL 45 12287) HT_ rfl rfl ?_
            refine pA 16 39 (mL 45 77823) HT_ rfl rfl ?_
            refine tA 12 35 (mL 45 81919) HT_ HW_ hHeld rfl rfl (by rintro w' ⟨s0, s1, s2, s3, s4, s5, s6, s7⟩; go_simp; with_reducible rfl) ?_
            refine tA 14 37 (mL 45 98303) HT_ HW_ hHeld rfl rfl (by rintro w' ⟨s0, s1, s2, s3, s4, s5, s6, s7⟩; go_simp; with_reducible rfl) ?_
            refine pA 15 38 (mL 45 131071) HT_ rfl rfl ?_
            refine tA 17 40 (mL 45 262143) HT_ HW_ hHeld rfl rfl (by rintro w' ⟨s0, s1, s2, s3, s4, s5, s6, s7⟩; go_simp; with_reducible rfl) ?_
            refine pA 18 41 (mL 45 524287) HT_ rfl rfl ?_
            refine one_ (i := 19) (N := some 42) (mL 45 1048575) rfl rfl (one_of HT_.out KR) (by decide) (fun K hK => ?_)
            refine goes_ Tryz.func80 KR rfl #[.int .i64 ((rd_TEntry l0_1 x18_2).f4), .int .i64 (wrap64 (a0_0 + 1)), .int .i64 (wrap64 (a0_0 + 100000))] (by rfl) rfl rfl TA ?_
            with_reducible refine (spec_l1In.calls ((rd_TEntry l0_1 x18_2).f4) (wrap64 (a0_0 + 1)) (wrap64 (a0_0 + 100000)) true _ A21.out).mono ?_
            rintro e w' ⟨rfl, ⟨nd, rfl⟩⟩
            refine ⟨_, rfl, ?_⟩
            refine hK.out _ _ ⟨bc 0 BK901, bc 1 BK901, bc 2 BK901, bc 3 BK901, bc 4 BK901, bc 5 BK901, bc 0 BK898, bc 1 BK898⟩ (fun hHeld => ?_)
            clear hK K
            refine nA ?_
            refine pA 20 43 (mL 45 2097151) HT_ rfl rfl ?_
            refine pA 21 44 (mL 45 4194303) HT_ rfl rfl ?_
            refine pA 22 45 (mL 45 8388607) HT_ rfl rfl ?_
            refine pA 23 46 (mL 45 16777215) HT_ rfl rfl ?_
            refine pA 25 48 (mL 45 50331647) HT_ rfl rfl ?_
            refine tA 24 47 (mL 45 67108863) HT_ HW_ hHeld rfl rfl (by rintro w' ⟨s0, s1, s2, s3, s4, s5, s6, s7⟩; go_simp; with_reducible rfl) ?_
            refine tA 26 49 (mL 45 134217727) HT_ HW_ hHeld rfl rfl (by rintro w' ⟨s0, s1, s2, s3, s4, s5, s6, s7⟩; go_simp; with_reducible rfl) ?_
            refine one_ (i := 27) (N := some 50) (mL 45 268435455) rfl rfl (one_of HT_.out KR) (by decide) (fun K hK => ?_)
            refine goes_ Tryz.func80 KR rfl #[.int .i64 ((rd_TEntry l0_1 x18_2).f5), .int .i64 1, .int .i64 a0_0] (by rfl) rfl rfl TA ?_
            with_reducible refine (spec_l1In.calls ((rd_TEntry l0_1 x18_2).f5) 1 a0_0 false _ A23.out).mono ?_
            rintro e w' ⟨rfl, ⟨nd, rfl⟩⟩
            refine ⟨_, rfl, ?_⟩
            refine hK.out _ _ ⟨bc 0 BK901, bc 1 BK901, bc 2 BK901, bc 3 BK901, bc 4 BK901, bc 5 BK901, bc 0 BK898, bc 1 BK898⟩ (fun hHeld => ?_)
            clear hK K
            refine nA ?_
            refine pA 28 51 (mL 45 536870911) HT_ rfl rfl ?_
            refine pA 29 52 (mL 45 1073741823) HT_ rfl rfl ?_
            refine pA 30 53 (mL 45 2147483647) HT_ rfl rfl ?_
            refine pU 31 54 (mL 45 4294967295) HT_ rfl rfl ?_
            refine pU 32 55 (mL 45 8589934591) HT_ rfl rfl ?_
            refine pU 33 56 (mL 45 17179869183) HT_ rfl rfl ?_
            refine pU 34 57 (mL 45 34359738367) HT_ rfl rfl ?_
            refine pU 35 58 (mL 45 68719476735) HT_ rfl rfl ?_
            refine pU 36 59 (mL 45 137438953471) HT_ rfl rfl ?_
            refine pU 37 60 (mL 45 274877906943) HT_ rfl rfl ?_
            refine pU 38 61 (mL 45 549755813887) HT_ rfl rfl ?_
            refine pU 39 62 (mL 45 1099511627775) HT_ rfl rfl ?_
            refine pU 40 63 (mL 45 2199023255551) HT_ rfl rfl ?_
            refine pU 41 64 (mL 45 4398046511103) HT_ rfl rfl ?_
            refine pU 42 65 (mL 45 8796093022207) HT_ rfl rfl ?_
            refine pU 43 66 (mL 45 17592186044415) HT_ rfl rfl ?_
            refine pA 44 67 (mL 45 35184372088831) HT_ rfl rfl ?_
            refine done_ (done_of HT_.out KR) ?_
            try go_wp2
            go_meet
            case rel => exact ⟨_, (true), TF, H', ⟨by have := HJ1.out; have := HK2.out; first | omega | exact Nat.le_refl _⟩, KW BK898, KW BK901, ⟨TB⟩⟩
          ·replace c22 := Bool.eq_false_iff.mpr c22
           subst c22
           replace H := iff' H
           have H' := Aside0.mk H
           clear H
           try go_wp2
           have n0_ : Aside0 (((((((w14.setCell ⟨gb901, 0, none⟩ (.string ((rd_TEntry l0_1 x18_2).f0))).setCell ⟨gb901, 1, none⟩ (.int .i64 ((rd_TEntry l0_1 x18_2).f1))).setCell ⟨gb901, 2, none⟩ (.bool ((rd_TEntry l0_1 x18_2).f2))).setCell ⟨gb901, 3, none⟩ (.slice A900_3 ((rd_TEntry l0_1 x18_2).f3).length c900_3)).setCell ⟨gb901, 4, none⟩ (.int .i64 ((rd_TEntry l0_1 x18_2).f4))).setCell ⟨gb901, 5, none⟩ (.int .i64 ((rd_TEntry l0_1 x18_2).f5))).heap[gb898]? = some (.cells #[.int .i64 a0_0, .slice (some ad900) l0_1.length c0_1] 54 (0, 0))) := ⟨TS⟩
           have n1_ : Aside0 (((((((w14.setCell ⟨gb901, 0, none⟩ (.string ((rd_TEntry l0_1 x18_2).f0))).setCell ⟨gb901, 1, none⟩ (.int .i64 ((rd_TEntry l0_1 x18_2).f1))).setCell ⟨gb901, 2, none⟩ (.bool ((rd_TEntry l0_1 x18_2).f2))).setCell ⟨gb901, 3, none⟩ (.slice A900_3 ((rd_TEntry l0_1 x18_2).f3).length c900_3)).setCell ⟨gb901, 4, none⟩ (.int .i64 ((rd_TEntry l0_1 x18_2).f4))).setCell ⟨gb901, 5, none⟩ (.int .i64 ((rd_TEntry l0_1 x18_2).f5))).heap[gb901]? = some (.cells #[.string ((rd_TEntry l0_1 x18_2).f0), .int .i64 ((rd_TEntry l0_1 x18_2).f1), .bool ((rd_TEntry l0_1 x18_2).f2), .slice A900_3 ((rd_TEntry l0_1 x18_2).f3).length c900_3, .int .i64 ((rd_TEntry l0_1 x18_2).f4), .int .i64 ((rd_TEntry l0_1 x18_2).f5)] 107 (0, 0))) := ⟨TS⟩
           have n2_ : Aside0 (Below w.heap.size w ((((((w14.setCell ⟨gb901, 0, none⟩ (.string ((rd_TEntry l0_1 x18_2).f0))).setCell ⟨gb901, 1, none⟩ (.int .i64 ((rd_TEntry l0_1 x18_2).f1))).setCell ⟨gb901, 2, none⟩ (.bool ((rd_TEntry l0_1 x18_2).f2))).setCell ⟨gb901, 3, none⟩ (.slice A900_3 ((rd_TEntry l0_1 x18_2).f3).length c900_3)).setCell ⟨gb901, 4, none⟩ (.int .i64 ((rd_TEntry l0_1 x18_2).f4))).setCell ⟨gb901, 5, none⟩ (.int .i64 ((rd_TEntry l0_1 x18_2).f5)))) := ⟨TB⟩
           (try clear BK898)
           (try clear BK901)
           (try clear HB)
           generalize ((((((w14.setCell ⟨gb901, 0, none⟩ (.string ((rd_TEntry l0_1 x18_2).f0))).setCell ⟨gb901, 1, none⟩ (.int .i64 ((rd_TEntry l0_1 x18_2).f1))).setCell ⟨gb901, 2, none⟩ (.bool ((rd_TEntry l0_1 x18_2).f2))).setCell ⟨gb901, 3, none⟩ (.slice A900_3 ((rd_TEntry l0_1 x18_2).f3).length c900_3)).setCell ⟨gb901, 4, none⟩ (.int .i64 ((rd_TEntry l0_1 x18_2).f4))).setCell ⟨gb901, 5, none⟩ (.int .i64 ((rd_TEntry l0_1 x18_2).f5))) = w43 at n0_ n1_ n2_ ⊢
           have BK898 := n0_
           have BK901 := n1_
           have HB := n2_
           clear n0_ n1_ n2_
           replace BK898 := Aside0.mk (blk_drew BK898.out)
           replace BK901 := Aside0.mk (blk_drew BK901.out)
           replace HB := Aside0.mk (below_drew1 HB.out)
           refine start_ (n := 45) (S := fun w' => w'.cell? ⟨gb901, 0, none⟩ = some (.string ((rd_TEntry l0_1 x18_2).f0)) ∧ w'.cell? ⟨gb901, 1, none⟩ = some (.int .i64 ((rd_TEntry l0_1 x18_2).f1)) ∧ w'.cell? ⟨gb901, 2, none⟩ = some (.bool ((rd_TEntry l0_1 x18_2).f2)) ∧ w'.cell? ⟨gb901, 3, none⟩ = some (.slice A900_3 ((rd_TEntry l0_1 x18_2).f3).length c900_3) ∧ w'.cell? ⟨gb901, 4, none⟩ = some (.int .i64 ((rd_TEntry l0_1 x18_2).f4)) ∧ w'.cell? ⟨gb901, 5, none⟩ = some (.int .i64 ((rd_TEntry l0_1 x18_2).f5)) ∧ w'.cell? ⟨gb898, 0, none⟩ = some (.int .i64 a0_0) ∧ w'.cell? ⟨gb898, 1, none⟩ = some (.slice (some ad900) l0_1.length c0_1)) (ds := []) #[false, false, false, false, false, false, false, false, false, false, false, false, false, false, false, false, false, false, false, false, false, false, false, false, false, false, false, false, false, false, false, false, false, false, false, false, false, false, false, false, false, false, false, false, false] KR rfl rfl ⟨bc 0 BK901, bc 1 BK901, bc 2 BK901, bc 3 BK901, bc 4 BK901, bc 5 BK901, bc 0 BK898, bc 1 BK898⟩ (fun hHeld => ?_); refine with_tabW spec_GoodCache.tab6 spec_GoodCache.bits6 (fun HT_ HW_ => ?_)
           generalize w43.drew = w44 at BK898 BK901 HB hHeld ⊢
           refine pA 0 23 (mL 45 1) HT_ rfl rfl ?_
           refine tA 1 24 (mL 45 3) HT_ HW_ hHeld rfl rfl (by rintro w' ⟨s0, s1, s2, s3, s4, s5, s6, s7⟩; go_simp; with_reducible rfl) ?_
           refine one_ (i := 2) (N := some 25) (mL 45 7) rfl rfl (one_of HT_.out KR) (by decide) (fun K hK => ?_)
           refine goes_ Tryz.func81 KR rfl #[.string ((rd_TEntry l0_1 x18_2).f0)] (by rfl) rfl rfl TA ?_
           with_reducible refine (spec_GoodName.calls k2 ((rd_TEntry l0_1 x18_2).f0) true _ A17.out).mono ?_
           rintro e w45 ⟨rfl, hb⟩
           refine ⟨_, rfl, ?_⟩
           replace BK898 := KB BK898 hb
           replace BK901 := KB BK901 hb
           replace HB := BS hb
           (try clear hb)
           (try clear hb2)
           (try clear hk)
           (try clear hi)
           refine hK.out _ _ ⟨bc 0 BK901, bc 1 BK901, bc 2 BK901, bc 3 BK901, bc 4 BK901, bc 5 BK901, bc 0 BK898, bc 1 BK898⟩ (fun hHeld => ?_)
           clear hK K
           refine nA ?_
           refine pA 3 26 (mL 45 15) HT_ rfl rfl ?_
           refine pA 4 27 (mL 45 31) HT_ rfl rfl ?_
           refine pA 5 28 (mL 45 63) HT_ rfl rfl ?_
           refine tA 6 29 (mL 45 127) HT_ HW_ hHeld rfl rfl (by rintro w' ⟨s0, s1, s2, s3, s4, s5, s6, s7⟩; go_simp; with_reducible rfl) ?_
           refine one_ (i := 7) (N := some 30) (mL 45 255) rfl rfl (one_of HT_.out KR) (by decide) (fun K hK => ?_)
           refine goes_ Tryz.func82 KR rfl #[.int .i64 ((rd_TEntry l0_1 x18_2).f1)] (by rfl) rfl rfl TA ?_
           with_reducible refine (spec_l3Type.calls k2 ((rd_TEntry l0_1 x18_2).f1) true _ A19.out).mono ?_
           rintro e w46 ⟨rfl, hb⟩
           refine ⟨_, rfl, ?_⟩
           replace BK898 := KB BK898 hb
           replace BK901 := KB BK901 hb
           replace HB := BS hb
           (try clear hb)
           (try clear hb2)
           (try clear hk)
           (try clear hi)
           refine hK.out _ _ ⟨bc 0 BK901, bc 1 BK901, bc 2 BK901, bc 3 BK901, bc 4 BK901, bc 5 BK901, bc 0 BK898, bc 1 BK898⟩ (fun hHeld => ?_)
           clear hK K
           refine nA ?_
           refine pA 8 31 (mL 45 511) HT_ rfl rfl ?_
           refine pA 9 32 (mL 45 1023) HT_ rfl rfl ?_
           refine pA 10 33 (mL 45 2047) HT_ rfl rfl ?_
           refine pA 11 34 (mL 45 4095) HT_ rfl rfl ?_
           refine pA 13 36 (mL 45 12287) HT_ rfl rfl ?_
           refine pA 16 39 (mL 45 77823) HT_ rfl rfl ?_
           refine tA 12 35 (mL 45 81919) HT_ HW_ hHeld rfl rfl (by rintro w' ⟨s0, s1, s2, s3, s4, s5, s6, s7⟩; go_simp; with_reducible rfl) ?_
           refine tA 14 37 (mL 45 98303) HT_ HW_ hHeld rfl rfl (by rintro w' ⟨s0, s1, s2, s3, s4, s5, s6, s7⟩; go_simp; with_reducible rfl) ?_
           refine pA 15 38 (mL 45 131071) HT_ rfl rfl ?_
           refine tA 17 40 (mL 45 262143) HT_ HW_ hHeld rfl rfl (by rintro w' ⟨s0, s1, s2, s3, s4, s5, s6, s7⟩; go_simp; with_reducible rfl) ?_
           refine pA 18 41 (mL 45 524287) HT_ rfl rfl ?_
           refine one_ (i := 19) (N := some 42) (mL 45 1048575) rfl rfl (one_of HT_.out KR) (by decide) (fun K hK => ?_)
           refine goes_ Tryz.func80 KR rfl #[.int .i64 ((rd_TEntry l0_1 x18_2).f4), .int .i64 (wrap64 (a0_0 + 1)), .int .i64 (wrap64 (a0_0 + 100000))] (by rfl) rfl rfl TA ?_
           with_reducible refine (spec_l1In.calls ((rd_TEntry l0_1 x18_2).f4) (wrap64 (a0_0 + 1)) (wrap64 (a0_0 + 100000)) false _ A21.out).mono ?_
           rintro e w' ⟨rfl, ⟨nd, rfl⟩⟩
           refine ⟨_, rfl, ?_⟩
           refine hK.out _ _ ⟨bc 0 BK901, bc 1 BK901, bc 2 BK901, bc 3 BK901, bc 4 BK901, bc 5 BK901, bc 0 BK898, bc 1 BK898⟩ (fun hHeld => ?_)
           clear hK K
           refine nA ?_
           refine pA 20 43 (mL 45 2097151) HT_ rfl rfl ?_
           refine pA 21 44 (mL 45 4194303) HT_ rfl rfl ?_
           refine pA 22 45 (mL 45 8388607) HT_ rfl rfl ?_
           refine pU 23 46 (mL 45 16777215) HT_ rfl rfl ?_
           refine pU 24 47 (mL 45 33554431) HT_ rfl rfl ?_
           refine pU 25 48 (mL 45 67108863) HT_ rfl rfl ?_
           refine pU 26 49 (mL 45 134217727) HT_ rfl rfl ?_
           refine pU 27 50 (mL 45 268435455) HT_ rfl rfl ?_
           refine pU 28 51 (mL 45 536870911) HT_ rfl rfl ?_
           refine pA 29 52 (mL 45 1073741823) HT_ rfl rfl ?_
           refine pA 30 53 (mL 45 2147483647) HT_ rfl rfl ?_
           refine pU 31 54 (mL 45 4294967295) HT_ rfl rfl ?_
           refine pU 32 55 (mL 45 8589934591) HT_ rfl rfl ?_
           refine pU 33 56 (mL 45 17179869183) HT_ rfl rfl ?_
           refine pU 34 57 (mL 45 34359738367) HT_ rfl rfl ?_
           refine pU 35 58 (mL 45 68719476735) HT_ rfl rfl ?_
           refine pU 36 59 (mL 45 137438953471) HT_ rfl rfl ?_
           refine pU 37 60 (mL 45 274877906943) HT_ rfl rfl ?_
           refine pU 38 61 (mL 45 549755813887) HT_ rfl rfl ?_
           refine pU 39 62 (mL 45 1099511627775) HT_ rfl rfl ?_
           refine pU 40 63 (mL 45 2199023255551) HT_ rfl rfl ?_
           refine pU 41 64 (mL 45 4398046511103) HT_ rfl rfl ?_
           refine pU 42 65 (mL 45 8796093022207) HT_ rfl rfl ?_
           refine pU 43 66 (mL 45 17592186044415) HT_ rfl rfl ?_
           refine pA 44 67 (mL 45 35184372088831) HT_ rfl rfl ?_
           refine done_ (done_of HT_.out KR) ?_
           try go_wp2
           go_meet
           case rel => exact ⟨_, (true), TF, H', ⟨by have := HJ1.out; have := HK2.out; first | omega | exact Nat.le_refl _⟩, KW BK898, KW BK901, ⟨TB⟩⟩
         ·replace c20 := Bool.eq_false_iff.mpr c20
          subst c20
          replace H := iff' H
          have H' := Aside0.mk H
          clear H
          try go_wp2
          have n0_ : Aside0 (((((((w14.setCell ⟨gb901, 0, none⟩ (.string ((rd_TEntry l0_1 x18_2).f0))).setCell ⟨gb901, 1, none⟩ (.int .i64 ((rd_TEntry l0_1 x18_2).f1))).setCell ⟨gb901, 2, none⟩ (.bool ((rd_TEntry l0_1 x18_2).f2))).setCell ⟨gb901, 3, none⟩ (.slice A900_3 ((rd_TEntry l0_1 x18_2).f3).length c900_3)).setCell ⟨gb901, 4, none⟩ (.int .i64 ((rd_TEntry l0_1 x18_2).f4))).setCell ⟨gb901, 5, none⟩ (.int .i64 ((rd_TEntry l0_1 x18_2).f5))).heap[gb898]? = some (.cells #[.int .i64 a0_0, .slice (some ad900) l0_1.length c0_1] 54 (0, 0))) := ⟨TS⟩
          have n1_ : Aside0 (((((((w14.setCell ⟨gb901, 0, none⟩ (.string ((rd_TEntry l0_1 x18_2).f0))).setCell ⟨gb901, 1, none⟩ (.int .i64 ((rd_TEntry l0_1 x18_2).f1))).setCell ⟨gb901, 2, none⟩ (.bool ((rd_TEntry l0_1 x18_2).f2))).setCell ⟨gb901, 3, none⟩ (.slice A900_3 ((rd_TEntry l0_1 x18_2).f3).length c900_3)).setCell ⟨gb901, 4, none⟩ (.int .i64 ((rd_TEntry l0_1 x18_2).f4))).setCell ⟨gb901, 5, none⟩ (.int .i64 ((rd_TEntry l0_1 x18_2).f5))).heap[gb901]? = some (.cells #[.string ((rd_TEntry l0_1 x18_2).f0), .int .i64 ((rd_TEntry l0_1 x18_2).f1), .bool ((rd_TEntry l0_1 x18_2).f2), .slice A900_3 ((rd_TEntry l0_1 x18_2).f3).length c900_3, .int .i64 ((rd_TEntry l0_1 x18_2).f4), .int .i64 ((rd_TEntry l0_1 x18_2).f5)] 107 (0, 0))) := ⟨TS⟩
          have n2_ : Aside0 (Below w.heap.size w ((((((w14.setCell ⟨gb901, 0, none⟩ (.string ((rd_TEntry l0_1 x18_2).f0))).setCell ⟨gb901, 1, none⟩ (.int .i64 ((rd_TEntry l0_1 x18_2).f1))).setCell ⟨gb901, 2, none⟩ (.bool ((rd_TEntry l0_1 x18_2).f2))).setCell ⟨gb901, 3, none⟩ (.slice A900_3 ((rd_TEntry l0_1 x18_2).f3).length c900_3)).setCell ⟨gb901, 4, none⟩ (.int .i64 ((rd_TEntry l0_1 x18_2).f4))).setCell ⟨gb901, 5, none⟩ (.int .i64 ((rd_TEntry l0_1 x18_2).f5)))) := ⟨TB⟩
          (try clear BK898)
          (try clear BK901)
          (try clear HB)
          generalize ((((((w14.setCell ⟨gb901, 0, none⟩ (.string ((rd_TEntry l0_1 x18_2).f0))).setCell ⟨gb901, 1, none⟩ (.int .i64 ((rd_TEntry l0_1 x18_2).f1))).setCell ⟨gb901, 2, none⟩ (.bool ((rd_TEntry l0_1 x18_2).f2))).setCell ⟨gb901, 3, none⟩ (.slice A900_3 ((rd_TEntry l0_1 x18_2).f3).length c900_3)).setCell ⟨gb901, 4, none⟩ (.int .i64 ((rd_TEntry l0_1 x18_2).f4))).setCell ⟨gb901, 5, none⟩ (.int .i64 ((rd_TEntry l0_1 x18_2).f5))) = w47 at n0_ n1_ n2_ ⊢
          have BK898 := n0_
          have BK901 := n1_
          have HB := n2_
          clear n0_ n1_ n2_
          replace BK898 := Aside0.mk (blk_drew BK898.out)
          replace BK901 := Aside0.mk (blk_drew BK901.out)
          replace HB := Aside0.mk (below_drew1 HB.out)
          refine start_ (n := 45) (S := fun w' => w'.cell? ⟨gb901, 0, none⟩ = some (.string ((rd_TEntry l0_1 x18_2).f0)) ∧ w'.cell? ⟨gb901, 1, none⟩ = some (.int .i64 ((rd_TEntry l0_1 x18_2).f1)) ∧ w'.cell? ⟨gb901, 2, none⟩ = some (.bool ((rd_TEntry l0_1 x18_2).f2)) ∧ w'.cell? ⟨gb901, 3, none⟩ = some (.slice A900_3 ((rd_TEntry l0_1 x18_2).f3).length c900_3) ∧ w'.cell? ⟨gb901, 4, none⟩ = some (.int .i64 ((rd_TEntry l0_1 x18_2).f4)) ∧ w'.cell? ⟨gb901, 5, none⟩ = some (.int .i64 ((rd_TEntry l0_1 x18_2).f5))) (ds := []) #[false, false, false, false, false, false, false, false, false, false, false, false, false, false, false, false, false, false, false, false, false, false, false, false, false, false, false, false, false, false, false, false, false, false, false, false, false, false, false, false, false, false, false, false, false] KR rfl rfl ⟨bc 0 BK901, bc 1 BK901, bc 2 BK901, bc 3 BK901, bc 4 BK901, bc 5 BK901⟩ (fun hHeld => ?_); refine with_tabW spec_GoodCache.tab6 spec_GoodCache.bits6 (fun HT_ HW_ => ?_)
          generalize w47.drew = w48 at BK898 BK901 HB hHeld ⊢
          refine pA 0 23 (mL 45 1) HT_ rfl rfl ?_
          refine tA 1 24 (mL 45 3) HT_ HW_ hHeld rfl rfl (by rintro w' ⟨s0, s1, s2, s3, s4, s5⟩; go_simp; with_reducible rfl) ?_
          refine one_ (i := 2) (N := some 25) (mL 45 7) rfl rfl (one_of HT_.out KR) (by decide) (fun K hK => ?_)
          refine goes_ Tryz.func81 KR rfl #[.string ((rd_TEntry l0_1 x18_2).f0)] (by rfl) rfl rfl TA ?_
          with_reducible refine (spec_GoodName.calls k2 ((rd_TEntry l0_1 x18_2).f0) true _ A17.out).mono ?_
          rintro e w49 ⟨rfl, hb⟩
          refine ⟨_, rfl, ?_⟩
          replace BK898 := KB BK898 hb
          replace BK901 := KB BK901 hb
          replace HB := BS hb
          (try clear hb)
          (try clear hb2)
          (try clear hk)
          (try clear hi)
          refine hK.out _ _ ⟨bc 0 BK901, bc 1 BK901, bc 2 BK901, bc 3 BK901, bc 4 BK901, bc 5 BK901⟩ (fun hHeld => ?_)
          clear hK K
          refine nA ?_
          refine pA 3 26 (mL 45 15) HT_ rfl rfl ?_
          refine pA 4 27 (mL 45 31) HT_ rfl rfl ?_
          refine pA 5 28 (mL 45 63) HT_ rfl rfl ?_
          refine tA 6 29 (mL 45 127) HT_ HW_ hHeld rfl rfl (by rintro w' ⟨s0, s1, s2, s3, s4, s5⟩; go_simp; with_reducible rfl) ?_
          refine one_ (i := 7) (N := some 30) (mL 45 255) rfl rfl (one_of HT_.out KR) (by decide) (fun K hK => ?_)
          refine goes_ Tryz.func82 KR rfl #[.int .i64 ((rd_TEntry l0_1 x18_2).f1)] (by rfl) rfl rfl TA ?_
          with_reducible refine (spec_l3Type.calls k2 ((rd_TEntry l0_1 x18_2).f1) false _ A19.out).mono ?_
          rintro e w50 ⟨rfl, hb⟩
          refine ⟨_, rfl, ?_⟩
          replace BK898 := KB BK898 hb
          replace BK901 := KB BK901 hb
          replace HB := BS hb
          (try clear hb)
          (try clear hb2)
          (try clear hk)
          (try clear hi)
          refine hK.out _ _ ⟨bc 0 BK901, bc 1 BK901, bc 2 BK901, bc 3 BK901, bc 4 BK901, bc 5 BK901⟩ (fun hHeld => ?_)
          clear hK K
          refine nA ?_
          refine pA 8 31 (mL 45 511) HT_ rfl rfl ?_
          refine pA 9 32 (mL 45 1023) HT_ rfl rfl ?_
          refine pA 10 33 (mL 45 2047) HT_ rfl rfl ?_
          refine pU 11 34 (mL 45 4095) HT_ rfl rfl ?_
          refine pU 12 35 (mL 45 8191) HT_ rfl rfl ?_
          refine pU 13 36 (mL 45 16383) HT_ rfl rfl ?_
          refine pU 14 37 (mL 45 32767) HT_ rfl rfl ?_
          refine pU 15 38 (mL 45 65535) HT_ rfl rfl ?_
          refine pU 16 39 (mL 45 131071) HT_ rfl rfl ?_
          refine pU 17 40 (mL 45 262143) HT_ rfl rfl ?_
          refine pU 18 41 (mL 45 524287) HT_ rfl rfl ?_
          refine pU 19 42 (mL 45 1048575) HT_ rfl rfl ?_
          refine pU 20 43 (mL 45 2097151) HT_ rfl rfl ?_
          refine pA 21 44 (mL 45 4194303) HT_ rfl rfl ?_
          refine pA 22 45 (mL 45 8388607) HT_ rfl rfl ?_
          refine pU 23 46 (mL 45 16777215) HT_ rfl rfl ?_
          refine pU 24 47 (mL 45 33554431) HT_ rfl rfl ?_
          refine pU 25 48 (mL 45 67108863) HT_ rfl rfl ?_
          refine pU 26 49 (mL 45 134217727) HT_ rfl rfl ?_
          refine pU 27 50 (mL 45 268435455) HT_ rfl rfl ?_
          refine pU 28 51 (mL 45 536870911) HT_ rfl rfl ?_
          refine pA 29 52 (mL 45 1073741823) HT_ rfl rfl ?_
          refine pA 30 53 (mL 45 2147483647) HT_ rfl rfl ?_
          refine pU 31 54 (mL 45 4294967295) HT_ rfl rfl ?_
          refine pU 32 55 (mL 45 8589934591) HT_ rfl rfl ?_
          refine pU 33 56 (mL 45 17179869183) HT_ rfl rfl ?_
          refine pU 34 57 (mL 45 34359738367) HT_ rfl rfl ?_
          refine pU 35 58 (mL 45 68719476735) HT_ rfl rfl ?_
          refine pU 36 59 (mL 45 137438953471) HT_ rfl rfl ?_
          refine pU 37 60 (mL 45 274877906943) HT_ rfl rfl ?_
          refine pU 38 61 (mL 45 549755813887) HT_ rfl rfl ?_
          refine pU 39 62 (mL 45 1099511627775) HT_ rfl rfl ?_
          refine pU 40 63 (mL 45 2199023255551) HT_ rfl rfl ?_
          refine pU 41 64 (mL 45 4398046511103) HT_ rfl rfl ?_
          refine pU 42 65 (mL 45 8796093022207) HT_ rfl rfl ?_
          refine pU 43 66 (mL 45 17592186044415) HT_ rfl rfl ?_
          refine pA 44 67 (mL 45 35184372088831) HT_ rfl rfl ?_
          refine done_ (done_of HT_.out KR) ?_
          try go_wp2
          go_meet
          case rel => exact ⟨_, (true), TF, H', ⟨by have := HJ1.out; have := HK2.out; first | omega | exact Nat.le_refl _⟩, KW BK898, KW BK901, ⟨TB⟩⟩
        ·replace c18 := Bool.eq_false_iff.mpr c18
         subst c18
         replace H := iff' H
         have H' := Aside0.mk H
         clear H
         try go_wp2
         have n0_ : Aside0 (((((((w14.setCell ⟨gb901, 0, none⟩ (.string ((rd_TEntry l0_1 x18_2).f0))).setCell ⟨gb901, 1, none⟩ (.int .i64 ((rd_TEntry l0_1 x18_2).f1))).setCell ⟨gb901, 2, none⟩ (.bool ((rd_TEntry l0_1 x18_2).f2))).setCell ⟨gb901, 3, none⟩ (.slice A900_3 ((rd_TEntry l0_1 x18_2).f3).length c900_3)).setCell ⟨gb901, 4, none⟩ (.int .i64 ((rd_TEntry l0_1 x18_2).f4))).setCell ⟨gb901, 5, none⟩ (.int .i64 ((rd_TEntry l0_1 x18_2).f5))).heap[gb898]? = some (.cells #[.int .i64 a0_0, .slice (some ad900) l0_1.length c0_1] 54 (0, 0))) := ⟨TS⟩
         have n1_ : Aside0 (((((((w14.setCell ⟨gb901, 0, none⟩ (.string ((rd_TEntry l0_1 x18_2).f0))).setCell ⟨gb901, 1, none⟩ (.int .i64 ((rd_TEntry l0_1 x18_2).f1))).setCell ⟨gb901, 2, none⟩ (.bool ((rd_TEntry l0_1 x18_2).f2))).setCell ⟨gb901, 3, none⟩ (.slice A900_3 ((rd_TEntry l0_1 x18_2).f3).length c900_3)).setCell ⟨gb901, 4, none⟩ (.int .i64 ((rd_TEntry l0_1 x18_2).f4))).setCell ⟨gb901, 5, none⟩ (.int .i64 ((rd_TEntry l0_1 x18_2).f5))).heap[gb901]? = some (.cells #[.string ((rd_TEntry l0_1 x18_2).f0), .int .i64 ((rd_TEntry l0_1 x18_2).f1), .bool ((rd_TEntry l0_1 x18_2).f2), .slice A900_3 ((rd_TEntry l0_1 x18_2).f3).length c900_3, .int .i64 ((rd_TEntry l0_1 x18_2).f4), .int .i64 ((rd_TEntry l0_1 x18_2).f5)] 107 (0, 0))) := ⟨TS⟩
         have n2_ : Aside0 (Below w.heap.size w ((((((w14.setCell ⟨gb901, 0, none⟩ (.string ((rd_TEntry l0_1 x18_2).f0))).setCell ⟨gb901, 1, none⟩ (.int .i64 ((rd_TEntry l0_1 x18_2).f1))).setCell ⟨gb901, 2, none⟩ (.bool ((rd_TEntry l0_1 x18_2).f2))).setCell ⟨gb901, 3, none⟩ (.slice A900_3 ((rd_TEntry l0_1 x18_2).f3).length c900_3)).setCell ⟨gb901, 4, none⟩ (.int .i64 ((rd_TEntry l0_1 x18_2).f4))).setCell ⟨gb901, 5, none⟩ (.int .i64 ((rd_TEntry l0_1 x18_2).f5)))) := ⟨TB⟩
         (try clear BK898)
         (try clear BK901)
         (try clear HB)
         generalize ((((((w14.setCell ⟨gb901, 0, none⟩ (.string ((rd_TEntry l0_1 x18_2).f0))).setCell ⟨gb901, 1, none⟩ (.int .i64 ((rd_TEntry l0_1 x18_2).f1))).setCell ⟨gb901, 2, none⟩ (.bool ((rd_TEntry l0_1 x18_2).f2))).setCell ⟨gb901, 3, none⟩ (.slice A900_3 ((rd_TEntry l0_1 x18_2).f3).length c900_3)).setCell ⟨gb901, 4, none⟩ (.int .i64 ((rd_TEntry l0_1 x18_2).f4))).setCell ⟨gb901, 5, none⟩ (.int .i64 ((rd_TEntry l0_1 x18_2).f5))) = w51 at n0_ n1_ n2_ ⊢
         have BK898 := n0_
         have BK901 := n1_
         have HB := n2_
         clear n0_ n1_ n2_
         replace BK898 := Aside0.mk (blk_drew BK898.out)
         replace BK901 := Aside0.mk (blk_drew BK901.out)
         replace HB := Aside0.mk (below_drew1 HB.out)
         refine start_ (n := 45) (S := fun w' => w'.cell? ⟨gb901, 0, none⟩ = some (.string ((rd_TEntry l0_1 x18_2).f0)) ∧ w'.cell? ⟨gb901, 1, none⟩ = some (.int .i64 ((rd_TEntry l0_1 x18_2).f1)) ∧ w'.cell? ⟨gb901, 2, none⟩ = some (.bool ((rd_TEntry l0_1 x18_2).f2)) ∧ w'.cell? ⟨gb901, 3, none⟩ = some (.slice A900_3 ((rd_TEntry l0_1 x18_2).f3).length c900_3) ∧ w'.cell? ⟨gb901, 4, none⟩ = some (.int .i64 ((rd_TEntry l0_1 x18_2).f4)) ∧ w'.cell? ⟨gb901, 5, none⟩ = some (.int .i64 ((rd_TEntry l0_1 x18_2).f5))) (ds := []) #[false, false, false, false, false, false, false, false, false, false, false, false, false, false, false, false, false, false, false, false, false, false, false, false, false, false, false, false, false, false, false, false, false, false, false, false, false, false, false, false, false, false, false, false, false] KR rfl rfl ⟨bc 0 BK901, bc 1 BK901, bc 2 BK901, bc 3 BK901, bc 4 BK901, bc 5 BK901⟩ (fun hHeld => ?_); refine with_tabW spec_GoodCache.tab6 spec_GoodCache.bits6 (fun HT_ HW_ => ?_)
         generalize w51.drew = w52 at BK898 BK901 HB hHeld ⊢
         refine pA 0 23 (mL 45 1) HT_ rfl rfl ?_
         refine tA 1 24 (mL 45 3) HT_ HW_ hHeld rfl rfl (by rintro w' ⟨s0, s1, s2, s3, s4, s5⟩; go_simp; with_reducible rfl) ?_
         refine one_ (i := 2) (N := some 25) (mL 45 7) rfl rfl (one_of HT_.out KR) (by decide) (fun K hK => ?_)
         refine goes_ Tryz.func81 KR rfl #[.string ((rd_TEntry l0_1 x18_2).f0)] (by rfl) rfl rfl TA ?_
         with_reducible refine (spec_GoodName.calls k2 ((rd_TEntry l0_1 x18_2).f0) false _ A17.out).mono ?_
         rintro e w53 ⟨rfl, hb⟩
         refine ⟨_, rfl, ?_⟩
         replace BK898 := KB BK898 hb
         replace BK901 := KB BK901 hb
         replace HB := BS hb
         (try clear hb)
         (try clear hb2)
         (try clear hk)
         (try clear hi)
         refine hK.out _ _ ⟨bc 0 BK901, bc 1 BK901, bc 2 BK901, bc 3 BK901, bc 4 BK901, bc 5 BK901⟩ (fun hHeld => ?_)
         clear hK K
         refine nA ?_
         refine pA 3 26 (mL 45 15) HT_ rfl rfl ?_
         refine pA 4 27 (mL 45 31) HT_ rfl rfl ?_
         refine pU 5 28 (mL 45 63) HT_ rfl rfl ?_
         refine pU 6 29 (mL 45 127) HT_ rfl rfl ?_
         refine pU 7 30 (mL 45 255) HT_ rfl rfl ?_
         refine pU 8 31 (mL 45 511) HT_ rfl rfl ?_
         refine pA 9 32 (mL 45 1023) HT_ rfl rfl ?_
         refine pA 10 33 (mL 45 2047) HT_ rfl rfl ?_
         refine pU 11 34 (mL 45 4095) HT_ rfl rfl ?_
         refine pU 12 35 (mL 45 8191) HT_ rfl rfl ?_
         refine pU 13 36 (mL 45 16383) HT_ rfl rfl ?_
         refine pU 14 37 (mL 45 32767) HT_ rfl rfl ?_
         refine pU 15 38 (mL 45 65535) HT_ rfl rfl ?_
         refine pU 16 39 (mL 45 131071) HT_ rfl rfl ?_
         refine pU 17 40 (mL 45 262143) HT_ rfl rfl ?_
         refine pU 18 41 (mL 45 524287) HT_ rfl rfl ?_
         refine pU 19 42 (mL 45 1048575) HT_ rfl rfl ?_
         refine pU 20 43 (mL 45 2097151) HT_ rfl rfl ?_
         refine pA 21 44 (mL 45 4194303) HT_ rfl rfl ?_
         refine pA 22 45 (mL 45 8388607) HT_ rfl rfl ?_
         refine pU 23 46 (mL 45 16777215) HT_ rfl rfl ?_
         refine pU 24 47 (mL 45 33554431) HT_ rfl rfl ?_
         refine pU 25 48 (mL 45 67108863) HT_ rfl rfl ?_
         refine pU 26 49 (mL 45 134217727) HT_ rfl rfl ?_
         refine pU 27 50 (mL 45 268435455) HT_ rfl rfl ?_
         refine pU 28 51 (mL 45 536870911) HT_ rfl rfl ?_
         refine pA 29 52 (mL 45 1073741823) HT_ rfl rfl ?_
         refine pA 30 53 (mL 45 2147483647) HT_ rfl rfl ?_
         refine pU 31 54 (mL 45 4294967295) HT_ rfl rfl ?_
         refine pU 32 55 (mL 45 8589934591) HT_ rfl rfl ?_
         refine pU 33 56 (mL 45 17179869183) HT_ rfl rfl ?_
         refine pU 34 57 (mL 45 34359738367) HT_ rfl rfl ?_
         refine pU 35 58 (mL 45 68719476735) HT_ rfl rfl ?_
         refine pU 36 59 (mL 45 137438953471) HT_ rfl rfl ?_
         refine pU 37 60 (mL 45 274877906943) HT_ rfl rfl ?_
         refine pU 38 61 (mL 45 549755813887) HT_ rfl rfl ?_
         refine pU 39 62 (mL 45 1099511627775) HT_ rfl rfl ?_
         refine pU 40 63 (mL 45 2199023255551) HT_ rfl rfl ?_
         refine pU 41 64 (mL 45 4398046511103) HT_ rfl rfl ?_
         refine pU 42 65 (mL 45 8796093022207) HT_ rfl rfl ?_
         refine pU 43 66 (mL 45 17592186044415) HT_ rfl rfl ?_
         refine pA 44 67 (mL 45 35184372088831) HT_ rfl rfl ?_
         refine done_ (done_of HT_.out KR) ?_
         try go_wp2
         go_meet
         case rel => exact ⟨_, (true), TF, H', ⟨by have := HJ1.out; have := HK2.out; first | omega | exact Nat.le_refl _⟩, KW BK898, KW BK901, ⟨TB⟩⟩
       case rest =>
        clear HC13
        try clear c1
        try clear c2
        try clear p2
        try clear c8
        try clear c9
        try clear c18
        try clear c20
        obtain ⟨kq, x67_12, rfl, HA, HJ12, BK898, BK901, HB⟩ := hcut
        cases kq with
        | zero => exact absurd HA.out (by simp [spec_GoodCache.j2])
        | succ kj12 =>
         have H := HA.out
         clear HA
         simp only [spec_GoodCache.j2] at H
         by_cases c54 : x67_12 = true
         ·subst c54
          replace H := ift H
          obtain rfl := Option.some.inj H
          go_wp2
          go_ret
          exact ⟨TE, TB⟩
         ·replace c54 := Bool.eq_false_iff.mpr c54
          subst c54
          replace H := iff' H
          by_cases c55 : ((rd_TEntry l0_1 x18_2).f2) = true
          ·rw [if_pos c55] at H
           have c55b0 : ((rd_TEntry l0_1 x18_2).f2) = true := c55
           clear c55
           by_cases c56 : (((rd_TEntry l0_1 x18_2).f3).length : Int) > 0
           ·rw [if_pos c56] at H
            have c56b0 : decide (0 < (((rd_TEntry l0_1 x18_2).f3).length : Int)) = true := decide_eq_true c56
            have c56b1 : decide (0 < ((rd_TEntry l0_1 x18_2).f3).length) = true := decide_eq_true (by omega)
            clear c56
            obtain rfl := Option.some.inj H
            have hnb57 := NB901_898.out
            have hnc57 := NB898_901.out
            have hcz58 := cz6 BK901
            go_wp2
            go_ret
            exact ⟨TE, TB⟩
           ·rw [if_neg c56] at H
            have c56b0 : decide (0 < (((rd_TEntry l0_1 x18_2).f3).length : Int)) = false := decide_eq_false c56
            have c56b1 : decide (0 < ((rd_TEntry l0_1 x18_2).f3).length) = false := decide_eq_false (by omega)
            clear c56
            have H' := Aside0.mk H
            clear H
            have hnb59 := NB901_898.out
            have hnc59 := NB898_901.out
            have hcz60 := cz6 BK901
            go_wp2
            go_roundg kj12
            case measure => have := HJ1.out; have := HK2.out; have := HJ12.out; omega
            case rel => exact ⟨(wrap64 (x18_2 + 1)), TF, H', ⟨by have := HJ1.out; have := HK2.out; have := HJ12.out; omega⟩, KW BK898, ⟨TB⟩⟩
          ·rw [if_neg c55] at H
           have c55b0 : ((rd_TEntry l0_1 x18_2).f2) = false := by simpa using c55
           clear c55
           obtain ⟨t908, A61, H⟩ := bnd H
           by_cases c62 : t908 = true
           ·subst c62
            replace H := ift H
            obtain ⟨c63, H⟩ := ifn H
            have c63b0 : decide (0 < (((rd_TEntry l0_1 x18_2).f3).length : Int)) = true := decide_eq_true c63
            have c63b1 : decide (0 < ((rd_TEntry l0_1 x18_2).f3).length) = true := decide_eq_true (by omega)
            clear c63
            by_cases c64 : ((rd_TRecord ((rd_TEntry l0_1 x18_2).f3) 0).f0).toList = ((rd_TEntry l0_1 x18_2).f0).toList
            ·rw [if_pos c64] at H
             have c64b0 : (((rd_TRecord ((rd_TEntry l0_1 x18_2).f3) 0).f0).toList == ((rd_TEntry l0_1 x18_2).f0).toList) = true := beq_iff_eq.mpr c64
             have c64b1 : (((rd_TRecord ((rd_TEntry l0_1 x18_2).f3) 0).f0).toList != ((rd_TEntry l0_1 x18_2).f0).toList) = false := bne_eq_false_iff_eq.mpr c64
             clear c64
             by_cases c65 : ((rd_TRecord ((rd_TEntry l0_1 x18_2).f3) 0).f1) = ((rd_TEntry l0_1 x18_2).f1)
             ·rw [if_pos c65] at H
              have c65b0 : (((rd_TRecord ((rd_TEntry l0_1 x18_2).f3) 0).f1) == ((rd_TEntry l0_1 x18_2).f1)) = true := beq_iff_eq.mpr c65
              have c65b1 : (((rd_TRecord ((rd_TEntry l0_1 x18_2).f3) 0).f1) != ((rd_TEntry l0_1 x18_2).f1)) = false := bne_eq_false_iff_eq.mpr c65
              clear c65
              have H' := Aside0.mk H
              clear H
              have hnb66 := NB901_898.out
              have hnc66 := NB898_901.out
              have hcz67 := cz6 BK901
              try go_wp2
              replace BK898 := Aside0.mk (blk_drew BK898.out)
              replace BK901 := Aside0.mk (blk_drew BK901.out)
              replace HB := Aside0.mk (below_drew1 HB.out)
              have p909 : 0 ≤ (0 : Int) := (by omega)
              have q909 : 0 < (((rd_TEntry l0_1 x18_2).f3).length : Int) := TD
              obtain ⟨ad909, e909, hx909_0, hx909_1, hx909_2, hx909_3⟩ := at_TRecord HR900_3.out 0 p909 q909
              have hw909_3 := hx909_3
              (try rw [show ((0 : Int)).toNat = 0 from rfl] at hw909_3)
              (try rw [show 0 * 4 = 0 from rfl] at hw909_3)
              (try rw [Addr.add_zero'] at hw909_3)
              have hw909_2 := hx909_2
              (try rw [show ((0 : Int)).toNat = 0 from rfl] at hw909_2)
              (try rw [show 0 * 4 = 0 from rfl] at hw909_2)
              (try rw [Addr.add_zero'] at hw909_2)
              have hw909_1 := hx909_1
              (try rw [show ((0 : Int)).toNat = 0 from rfl] at hw909_1)
              (try rw [show 0 * 4 = 0 from rfl] at hw909_1)
              (try rw [Addr.add_zero'] at hw909_1)
              have hw909_0 := hx909_0
              (try rw [show ((0 : Int)).toNat = 0 from rfl] at hw909_0)
              (try rw [show 0 * 4 = 0 from rfl] at hw909_0)
              (try rw [Addr.add_zero'] at hw909_0)
              cases e909
              have qi909 : (0 < ((rd_TEntry l0_1 x18_2).f3).length) = True := eq_true (by omega)
              (try rw [show ((0 : Int)).toNat = 0 from rfl] at hx909_0)
              (try rw [show 0 * 4 = 0 from rfl] at hx909_0)
              (try rw [Addr.add_zero'] at hx909_0)
              (try rw [show ((0 : Int)).toNat = 0 from rfl] at hx909_1)
              (try rw [show 0 * 4 = 0 from rfl] at hx909_1)
              (try rw [Addr.add_zero'] at hx909_1)
              (try rw [show ((0 : Int)).toNat = 0 from rfl] at hx909_2)
              (try rw [show 0 * 4 = 0 from rfl] at hx909_2)
              (try rw [Addr.add_zero'] at hx909_2)
              (try rw [show ((0 : Int)).toNat = 0 from rfl] at hx909_3)
              (try rw [show 0 * 4 = 0 from rfl] at hx909_3)
              (try rw [Addr.add_zero'] at hx909_3)
              replace hx909_0 := hBc HB hx909_0
              replace hx909_1 := hBc HB hx909_1
              replace hx909_2 := hBc HB hx909_2
              replace hx909_3 := hBc HB hx909_3
              replace p909 := eq_true p909
              replace q909 := eq_true q909
              have p910 : 0 ≤ (0 : Int) := (by omega)
              have q910 : 0 < (((rd_TEntry l0_1 x18_2).f3).length : Int) := TD
              obtain ⟨ad910, e910, hx910_0, hx910_1, hx910_2, hx910_3⟩ := at_TRecord HR900_3.out 0 p910 q910
              have hw910_3 := hx910_3
              (try rw [show ((0 : Int)).toNat = 0 from rfl] at hw910_3)
              (try rw [show 0 * 4 = 0 from rfl] at hw910_3)
              (try rw [Addr.add_zero'] at hw910_3)
              have hw910_2 := hx910_2
              (try rw [show ((0 : Int)).toNat = 0 from rfl] at hw910_2)
              (try rw [show 0 * 4 = 0 from rfl] at hw910_2)
              (try rw [Addr.add_zero'] at hw910_2)
              have hw910_1 := hx910_1
              (try rw [show ((0 : Int)).toNat = 0 from rfl] at hw910_1)
              (try rw [show 0 * 4 = 0 from rfl] at hw910_1)
              (try rw [Addr.add_zero'] at hw910_1)
              have hw910_0 := hx910_0
              (try rw [show ((0 : Int)).toNat = 0 from rfl] at hw910_0)
              (try rw [show 0 * 4 = 0 from rfl] at hw910_0)
              (try rw [Addr.add_zero'] at hw910_0)
              obtain rfl : ad909 = ad910 := (by injection e910)
              have qi910 : (0 < ((rd_TEntry l0_1 x18_2).f3).length) = True := eq_true (by omega)
              (try rw [show ((0 : Int)).toNat = 0 from rfl] at hx910_0)
              (try rw [show 0 * 4 = 0 from rfl] at hx910_0)
              (try rw [Addr.add_zero'] at hx910_0)
              (try rw [show ((0 : Int)).toNat = 0 from rfl] at hx910_1)
              (try rw [show 0 * 4 = 0 from rfl] at hx910_1)
              (try rw [Addr.add_zero'] at hx910_1)
              (try rw [show ((0 : Int)).toNat = 0 from rfl] at hx910_2)
              (try rw [show 0 * 4 = 0 from rfl] at hx910_2)
              (try rw [Addr.add_zero'] at hx910_2)
              (try rw [show ((0 : Int)).toNat = 0 from rfl] at hx910_3)
              (try rw [show 0 * 4 = 0 from rfl] at hx910_3)
              (try rw [Addr.add_zero'] at hx910_3)
              replace hx910_0 := hBc HB hx910_0
              replace hx910_1 := hBc HB hx910_1
              replace hx910_2 := hBc HB hx910_2
              replace hx910_3 := hBc HB hx910_3
              replace p910 := eq_true p910
              replace q910 := eq_true q910
              refine start_ (n := 24) (S := fun w' => w'.cell? ⟨gb901, 0, none⟩ = some (.string ((rd_TEntry l0_1 x18_2).f0)) ∧ w'.cell? ⟨gb901, 1, none⟩ = some (.int .i64 ((rd_TEntry l0_1 x18_2).f1)) ∧ w'.cell? ⟨gb901, 2, none⟩ = some (.bool ((rd_TEntry l0_1 x18_2).f2)) ∧ w'.cell? ⟨gb901, 3, none⟩ = some (.slice (some ad909) ((rd_TEntry l0_1 x18_2).f3).length c900_3) ∧ w'.cell? ⟨gb901, 4, none⟩ = some (.int .i64 ((rd_TEntry l0_1 x18_2).f4)) ∧ w'.cell? ⟨gb901, 5, none⟩ = some (.int .i64 ((rd_TEntry l0_1 x18_2).f5)) ∧ w'.cell? ad909 = some (.string ((rd_TRecord ((rd_TEntry l0_1 x18_2).f3) 0).f0)) ∧ w'.cell? ⟨ad909.block, ad909.off + 1, none⟩ = some (.int .i64 ((rd_TRecord ((rd_TEntry l0_1 x18_2).f3) 0).f1)) ∧ w'.cell? ⟨ad909.block, ad909.off + 2, none⟩ = some (.int .i64 ((rd_TRecord ((rd_TEntry l0_1 x18_2).f3) 0).f2)) ∧ w'.cell? ⟨ad909.block, ad909.off + 3, none⟩ = some (.string ((rd_TRecord ((rd_TEntry l0_1 x18_2).f3) 0).f3)) ∧ w'.cell? ad909 = some (.string ((rd_TRecord ((rd_TEntry l0_1 x18_2).f3) 0).f0)) ∧ w'.cell? ⟨ad909.block, ad909.off + 1, none⟩ = some (.int .i64 ((rd_TRecord ((rd_TEntry l0_1 x18_2).f3) 0).f1)) ∧ w'.cell? ⟨ad909.block, ad909.off + 2, none⟩ = some (.int .i64 ((rd_TRecord ((rd_TEntry l0_1 x18_2).f3) 0).f2)) ∧ w'.cell? ⟨ad909.block, ad909.off + 3, none⟩ = some (.string ((rd_TRecord ((rd_TEntry l0_1 x18_2).f3) 0).f3))) (ds := []) #[false, false, false, false, false, false, false, false, false, false, false, false, false, false, false, false, false, false, false, false, false, false, false, false] KR rfl rfl ⟨bc 0 BK901, bc 1 BK901, bc 2 BK901, bc 3 BK901, bc 4 BK901, bc 5 BK901, ((HB.out.cell (World.block_lt_of_cell? w _ hw909_0)).trans hw909_0), ((HB.out.cell (World.block_lt_of_cell? w _ hw909_1)).trans hw909_1), ((HB.out.cell (World.block_lt_of_cell? w _ hw909_2)).trans hw909_2), ((HB.out.cell (World.block_lt_of_cell? w _ hw909_3)).trans hw909_3), ((HB.out.cell (World.block_lt_of_cell? w _ hw910_0)).trans hw910_0), ((HB.out.cell (World.block_lt_of_cell? w _ hw910_1)).trans hw910_1), ((HB.out.cell (World.block_lt_of_cell? w _ hw910_2)).trans hw910_2), ((HB.out.cell (World.block_lt_of_cell? w _ hw910_3)).trans hw910_3)⟩ (fun hHeld => ?_); refine with_tabW spec_GoodCache.tab11 spec_GoodCache.bits11 (fun HT_ HW_ => ?_)
              generalize wc.drew = w68 at BK898 BK901 HB hx909_0 hx909_1 hx909_2 hx909_3 hx910_0 hx910_1 hx910_2 hx910_3 hHeld ⊢
              refine pA 0 74 (mL 24 1) HT_ rfl rfl ?_
              refine tA 1 75 (mL 24 3) HT_ HW_ hHeld rfl rfl (by rintro w' ⟨s0, s1, s2, s3, s4, s5, s6, s7, s8, s9, s10, s11, s12, s13⟩; go_simp; with_reducible rfl) ?_
              refine one_ (i := 2) (N := some 76) (mL 24 7) rfl rfl (one_of HT_.out KR) (by decide) (fun K hK => ?_)
              refine goes_ Tryz.func84 KR rfl #[.slice (some ad909) ((rd_TEntry l0_1 x18_2).f3).length c900_3] (by rfl) rfl rfl TA ?_
              with_reducible refine (spec_l10Same.calls kj12 _ _ ((rd_TEntry l0_1 x18_2).f3) true _ ?side1 ?side2 A61.out).mono ?_
              (case side1 => exact CW ((Kd.C_below HR900_3.out HB.out)))
              (case side2 => exact HC900_3.out)
              rintro e w69 ⟨rfl, hb⟩
              refine ⟨_, rfl, ?_⟩
              replace BK898 := KB BK898 hb
              replace BK901 := KB BK901 hb
              replace HB := BS hb
              (try clear hb)
              (try clear hb2)
              (try clear hk)
              (try clear hi)
              refine hK.out _ _ ⟨bc 0 BK901, bc 1 BK901, bc 2 BK901, bc 3 BK901, bc 4 BK901, bc 5 BK901, ((HB.out.cell (World.block_lt_of_cell? w _ hw909_0)).trans hw909_0), ((HB.out.cell (World.block_lt_of_cell? w _ hw909_1)).trans hw909_1), ((HB.out.cell (World.block_lt_of_cell? w _ hw909_2)).trans hw909_2), ((HB.out.cell (World.block_lt_of_cell? w _ hw909_3)).trans hw909_3), ((HB.out.cell (World.block_lt_of_cell? w _ hw910_0)).trans hw910_0), ((HB.out.cell (World.block_lt_of_cell? w _ hw910_1)).trans hw910_1), ((HB.out.cell (World.block_lt_of_cell? w _ hw910_2)).trans hw910_2), ((HB.out.cell (World.block_lt_of_cell? w _ hw910_3)).trans hw910_3)⟩ (fun hHeld => ?_)
              clear hK K
              refine nA ?_
              refine pA 3 77 (mL 24 15) HT_ rfl rfl ?_
              refine pA 4 78 (mL 24 31) HT_ rfl rfl ?_
              refine pA 5 79 (mL 24 63) HT_ rfl rfl ?_
              refine pA 10 84 (mL 24 1087) HT_ rfl rfl ?_
              refine tA 6 80 (mL 24 1151) HT_ HW_ hHeld rfl rfl (by rintro w' ⟨s0, s1, s2, s3, s4, s5, s6, s7, s8, s9, s10, s11, s12, s13⟩; go_simp; with_reducible rfl) ?_
              refine pA 7 81 (mL 24 1279) HT_ rfl rfl ?_
              refine pA 8 82 (mL 24 1535) HT_ rfl rfl ?_
              refine tA 9 83 (mL 24 2047) HT_ HW_ hHeld rfl rfl (by rintro w' ⟨s0, s1, s2, s3, s4, s5, s6, s7, s8, s9, s10, s11, s12, s13⟩; go_simp; with_reducible rfl) ?_
              refine tA 11 85 (mL 24 4095) HT_ HW_ hHeld rfl rfl (by rintro w' ⟨s0, s1, s2, s3, s4, s5, s6, s7, s8, s9, s10, s11, s12, s13⟩; go_simp; with_reducible rfl) ?_
              refine pA 12 86 (mL 24 8191) HT_ rfl rfl ?_
              refine pA 13 87 (mL 24 16383) HT_ rfl rfl ?_
              refine pA 14 88 (mL 24 32767) HT_ rfl rfl ?_
              refine pA 15 89 (mL 24 65535) HT_ rfl rfl ?_
              refine pA 20 94 (mL 24 1114111) HT_ rfl rfl ?_
              refine tA 16 90 (mL 24 1179647) HT_ HW_ hHeld rfl rfl (by rintro w' ⟨s0, s1, s2, s3, s4, s5, s6, s7, s8, s9, s10, s11, s12, s13⟩; go_simp; with_reducible rfl) ?_
              refine pA 17 91 (mL 24 1310719) HT_ rfl rfl ?_
              refine pA 18 92 (mL 24 1572863) HT_ rfl rfl ?_
              refine tA 19 93 (mL 24 2097151) HT_ HW_ hHeld rfl rfl (by rintro w' ⟨s0, s1, s2, s3, s4, s5, s6, s7, s8, s9, s10, s11, s12, s13⟩; go_simp; with_reducible rfl) ?_
              refine tA 21 95 (mL 24 4194303) HT_ HW_ hHeld rfl rfl (by rintro w' ⟨s0, s1, s2, s3, s4, s5, s6, s7, s8, s9, s10, s11, s12, s13⟩; go_simp; with_reducible rfl) ?_
              refine pA 22 96 (mL 24 8388607) HT_ rfl rfl ?_
              refine pA 23 97 (mL 24 16777215) HT_ rfl rfl ?_
              refine done_ (done_of HT_.out KR) ?_
              try go_wp2
              go_roundg kj12
              case measure => have := HJ1.out; have := HK2.out; have := HJ12.out; omega
              case rel => exact ⟨(wrap64 (x18_2 + 1)), TF, H', ⟨by have := HJ1.out; have := HK2.out; have := HJ12.out; omega⟩, KW BK898, ⟨TB⟩⟩
             ·rw [if_neg c65] at H
              have c65b0 : (((rd_TRecord ((rd_TEntry l0_1 x18_2).f3) 0).f1) == ((rd_TEntry l0_1 x18_2).f1)) = false := beq_eq_false_iff_ne.mpr c65
              have c65b1 : (((rd_TRecord ((rd_TEntry l0_1 x18_2).f3) 0).f1) != ((rd_TEntry l0_1 x18_2).f1)) = true := bne_iff_ne.mpr c65
              obtain rfl := Option.some.inj H
              have hnb70 := NB901_898.out
              have hnc70 := NB898_901.out
              have hcz71 := cz6 BK901
              try go_wp2
              replace BK898 := Aside0.mk (blk_drew BK898.out)
              replace BK901 := Aside0.mk (blk_drew BK901.out)
              replace HB := Aside0.mk (below_drew1 HB.out)
              have p909 : 0 ≤ (0 : Int) := (by omega)
              have q909 : 0 < (((rd_TEntry l0_1 x18_2).f3).length : Int) := TD
              obtain ⟨ad909, e909, hx909_0, hx909_1, hx909_2, hx909_3⟩ := at_TRecord HR900_3.out 0 p909 q909
              have hw909_3 := hx909_3
              (try rw [show ((0 : Int)).toNat = 0 from rfl] at hw909_3)
              (try rw [show 0 * 4 = 0 from rfl] at hw909_3)
              (try rw [Addr.add_zero'] at hw909_3)
              have hw909_2 := hx909_2
              (try rw [show ((0 : Int)).toNat = 0 from rfl] at hw909_2)
              (try rw [show 0 * 4 = 0 from rfl] at hw909_2)
              (try rw [Addr.add_zero'] at hw909_2)
              have hw909_1 := hx909_1
              (try rw [show ((0 : Int)).toNat = 0 from rfl] at hw909_1)
              (try rw [show 0 * 4 = 0 from rfl] at hw909_1)
              (try rw [Addr.add_zero'] at hw909_1)
              have hw909_0 := hx909_0
              (try rw [show ((0 : Int)).toNat = 0 from rfl] at hw909_0)
              (try rw [show 0 * 4 = 0 from rfl] at hw909_0)
              (try rw [Addr.add_zero'] at hw909_0)
              cases e909
              have qi909 : (0 < ((rd_TEntry l0_1 x18_2).f3).length) = True := eq_true (by omega)
              (try rw [show ((0 : Int)).toNat = 0 from rfl] at hx909_0)
              (try rw [show 0 * 4 = 0 from rfl] at hx909_0)
              (try rw [Addr.add_zero'] at hx909_0)
              (try rw [show ((0 : Int)).toNat = 0 from rfl] at hx909_1)
              (try rw [show 0 * 4 = 0 from rfl] at hx909_1)
              (try rw [Addr.add_zero'] at hx909_1)
              (try rw [show ((0 : Int)).toNat = 0 from rfl] at hx909_2)
              (try rw [show 0 * 4 = 0 from rfl] at hx909_2)
              (try rw [Addr.add_zero'] at hx909_2)
              (try rw [show ((0 : Int)).toNat = 0 from rfl] at hx909_3)
              (try rw [show 0 * 4 = 0 from rfl] at hx909_3)
              (try rw [Addr.add_zero'] at hx909_3)
              replace hx909_0 := hBc HB hx909_0
              replace hx909_1 := hBc HB hx909_1
              replace hx909_2 := hBc HB hx909_2
              replace hx909_3 := hBc HB hx909_3
              replace p909 := eq_true p909
              replace q909 := eq_true q909
              have p910 : 0 ≤ (0 : Int) := (by omega)
              have q910 : 0 < (((rd_TEntry l0_1 x18_2).f3).length : Int) := TD
              obtain ⟨ad910, e910, hx910_0, hx910_1, hx910_2, hx910_3⟩ := at_TRecord HR900_3.out 0 p910 q910
              have hw910_3 := hx910_3
              (try rw [show ((0 : Int)).toNat = 0 from rfl] at hw910_3)
              (try rw [show 0 * 4 = 0 from rfl] at hw910_3)
              (try rw [Addr.add_zero'] at hw910_3)
              have hw910_2 := hx910_2
              (try rw [show ((0 : Int)).toNat = 0 from rfl] at hw910_2)
              (try rw [show 0 * 4 = 0 from rfl] at hw910_2)
              (try rw [Addr.add_zero'] at hw910_2)
              have hw910_1 := hx910_1
              (try rw [show ((0 : Int)).toNat = 0 from rfl] at hw910_1)
              (try rw [show 0 * 4 = 0 from rfl] at hw910_1)
              (try rw [Addr.add_zero'] at hw910_1)
              have hw910_0 := hx910_0
              (try rw [show ((0 : Int)).toNat = 0 from rfl] at hw910_0)
              (try rw [show 0 * 4 = 0 from rfl] at hw910_0)
              (try rw [Addr.add_zero'] at hw910_0)
              obtain rfl : ad909 = ad910 := (by injection e910)
              have qi910 : (0 < ((rd_TEntry l0_1 x18_2).f3).length) = True := eq_true (by omega)
              (try rw [show ((0 : Int)).toNat = 0 from rfl] at hx910_0)
              (try rw [show 0 * 4 = 0 from rfl] at hx910_0)
              (try rw [Addr.add_zero'] at hx910_0)
              (try rw [show ((0 : Int)).toNat = 0 from rfl] at hx910_1)
              (try rw [show 0 * 4 = 0 from rfl] at hx910_1)
              (try rw [Addr.add_zero'] at hx910_1)
              (try rw [show ((0 : Int)).toNat = 0 from rfl] at hx910_2)
              (try rw [show 0 * 4 = 0 from rfl] at hx910_2)
              (try rw [Addr.add_zero'] at hx910_2)
              (try rw [show ((0 : Int)).toNat = 0 from rfl] at hx910_3)
              (try rw [show 0 * 4 = 0 from rfl] at hx910_3)
              (try rw [Addr.add_zero'] at hx910_3)
              replace hx910_0 := hBc HB hx910_0
              replace hx910_1 := hBc HB hx910_1
              replace hx910_2 := hBc HB hx910_2
              replace hx910_3 := hBc HB hx910_3
              replace p910 := eq_true p910
              replace q910 := eq_true q910
              refine start_ (n := 24) (S := fun w' => w'.cell? ⟨gb901, 0, none⟩ = some (.string ((rd_TEntry l0_1 x18_2).f0)) ∧ w'.cell? ⟨gb901, 1, none⟩ = some (.int .i64 ((rd_TEntry l0_1 x18_2).f1)) ∧ w'.cell? ⟨gb901, 2, none⟩ = some (.bool ((rd_TEntry l0_1 x18_2).f2)) ∧ w'.cell? ⟨gb901, 3, none⟩ = some (.slice (some ad909) ((rd_TEntry l0_1 x18_2).f3).length c900_3) ∧ w'.cell? ⟨gb901, 4, none⟩ = some (.int .i64 ((rd_TEntry l0_1 x18_2).f4)) ∧ w'.cell? ⟨gb901, 5, none⟩ = some (.int .i64 ((rd_TEntry l0_1 x18_2).f5)) ∧ w'.cell? ad909 = some (.string ((rd_TRecord ((rd_TEntry l0_1 x18_2).f3) 0).f0)) ∧ w'.cell? ⟨ad909.block, ad909.off + 1, none⟩ = some (.int .i64 ((rd_TRecord ((rd_TEntry l0_1 x18_2).f3) 0).f1)) ∧ w'.cell? ⟨ad909.block, ad909.off + 2, none⟩ = some (.int .i64 ((rd_TRecord ((rd_TEntry l0_1 x18_2).f3) 0).f2)) ∧ w'.cell? ⟨ad909.block, ad909.off + 3, none⟩ = some (.string ((rd_TRecord ((rd_TEntry l0_1 x18_2).f3) 0).f3)) ∧ w'.cell? ad909 = some (.string ((rd_TRecord ((rd_TEntry l0_1 x18_2).f3) 0).f0)) ∧ w'.cell? ⟨ad909.block, ad909.off + 1, none⟩ = some (.int .i64 ((rd_TRecord ((rd_TEntry l0_1 x18_2).f3) 0).f1)) ∧ w'.cell? ⟨ad909.block, ad909.off + 2, none⟩ = some (.int .i64 ((rd_TRecord ((rd_TEntry l0_1 x18_2).f3) 0).f2)) ∧ w'.cell? ⟨ad909.block, ad909.off + 3, none⟩ = some (.string ((rd_TRecord ((rd_TEntry l0_1 x18_2).f3) 0).f3))) (ds := []) #[false, false, false, false, false, false, false, false, false, false, false, false, false, false, false, false, false, false, false, false, false, false, false, false] KR rfl rfl ⟨bc 0 BK901, bc 1 BK901, bc 2 BK901, bc 3 BK901, bc 4 BK901, bc 5 BK901, ((HB.out.cell (World.block_lt_of_cell? w _ hw909_0)).trans hw909_0), ((HB.out.cell (World.block_lt_of_cell? w _ hw909_1)).trans hw909_1), ((HB.out.cell (World.block_lt_of_cell? w _ hw909_2)).trans hw909_2), ((HB.out.cell (World.block_lt_of_cell? w _ hw909_3)).trans hw909_3), ((HB.out.cell (World.block_lt_of_cell? w _ hw910_0)).trans hw910_0), ((HB.out.cell (World.block_lt_of_cell? w _ hw910_1)).trans hw910_1), ((HB.out.cell (World.block_lt_of_cell? w _ hw910_2)).trans hw910_2), ((HB.out.cell (World.block_lt_of_cell? w _ hw910_3)).trans hw910_3)⟩ (fun hHeld => ?_); refine with_tabW spec_GoodCache.tab11 spec_GoodCache.bits11 (fun HT_ HW_ => ?_)
              generalize wc.drew = w72 at BK898 BK901 HB hx909_0 hx909_1 hx909_2 hx909_3 hx910_0 hx910_1 hx910_2 hx910_3 hHeld ⊢
              refine pA 0 74 (mL 24 1) HT_ rfl rfl ?_
              refine tA 1 75 (mL 24 3) HT_ HW_ hHeld rfl rfl (by rintro w' ⟨s0, s1, s2, s3, s4, s5, s6, s7, s8, s9, s10, s11, s12, s13⟩; go_simp; with_reducible rfl) ?_
              refine one_ (i := 2) (N := some 76) (mL 24 7) rfl rfl (one_of HT_.out KR) (by decide) (fun K hK => ?_)
              refine goes_ Tryz.func84 KR rfl #[.slice (some ad909) ((rd_TEntry l0_1 x18_2).f3).length c900_3] (by rfl) rfl rfl TA ?_
              with_reducible refine (spec_l10Same.calls kj12 _ _ ((rd_TEntry l0_1 x18_2).f3) true _ ?side1 ?side2 A61.out).mono ?_
              (case side1 => exact CW ((Kd.C_below HR900_3.out HB.out)))
              (case side2 => exact HC900_3.out)
              rintro e w73 ⟨rfl, hb⟩
              refine ⟨_, rfl, ?_⟩
              replace BK898 := KB BK898 hb
              replace BK901 := KB BK901 hb
              replace HB := BS hb
              (try clear hb)
              (try clear hb2)
              (try clear hk)
              (try clear hi)
              refine hK.out _ _ ⟨bc 0 BK901, bc 1 BK901, bc 2 BK901, bc 3 BK901, bc 4 BK901, bc 5 BK901, ((HB.out.cell (World.block_lt_of_cell? w _ hw909_0)).trans hw909_0), ((HB.out.cell (World.block_lt_of_cell? w _ hw909_1)).trans hw909_1), ((HB.out.cell (World.block_lt_of_cell? w _ hw909_2)).trans hw909_2), ((HB.out.cell (World.block_lt_of_cell? w _ hw909_3)).trans hw909_3), ((HB.out.cell (World.block_lt_of_cell? w _ hw910_0)).trans hw910_0), ((HB.out.cell (World.block_lt_of_cell? w _ hw910_1)).trans hw910_1), ((HB.out.cell (World.block_lt_of_cell? w _ hw910_2)).trans hw910_2), ((HB.out.cell (World.block_lt_of_cell? w _ hw910_3)).trans hw910_3)⟩ (fun hHeld => ?_)
              clear hK K
              refine nA ?_
              refine pA 3 77 (mL 24 15) HT_ rfl rfl ?_
              refine pA 4 78 (mL 24 31) HT_ rfl rfl ?_
              refine pA 5 79 (mL 24 63) HT_ rfl rfl ?_
              refine pA 10 84 (mL 24 1087) HT_ rfl rfl ?_
              refine tA 6 80 (mL 24 1151) HT_ HW_ hHeld rfl rfl (by rintro w' ⟨s0, s1, s2, s3, s4, s5, s6, s7, s8, s9, s10, s11, s12, s13⟩; go_simp; with_reducible rfl) ?_
              refine pA 7 81 (mL 24 1279) HT_ rfl rfl ?_
              refine pA 8 82 (mL 24 1535) HT_ rfl rfl ?_
              refine tA 9 83 (mL 24 2047) HT_ HW_ hHeld rfl rfl (by rintro w' ⟨s0, s1, s2, s3, s4, s5, s6, s7, s8, s9, s10, s11, s12, s13⟩; go_simp; with_reducible rfl) ?_
              refine tA 11 85 (mL 24 4095) HT_ HW_ hHeld rfl rfl (by rintro w' ⟨s0, s1, s2, s3, s4, s5, s6, s7, s8, s9, s10, s11, s12, s13⟩; go_simp; with_reducible rfl) ?_
              refine pA 12 86 (mL 24 8191) HT_ rfl rfl ?_
              refine pA 13 87 (mL 24 16383) HT_ rfl rfl ?_
              refine pA 14 88 (mL 24 32767) HT_ rfl rfl ?_
              refine pA 15 89 (mL 24 65535) HT_ rfl rfl ?_
              refine pA 20 94 (mL 24 1114111) HT_ rfl rfl ?_
              refine tA 16 90 (mL 24 1179647) HT_ HW_ hHeld rfl rfl (by rintro w' ⟨s0, s1, s2, s3, s4, s5, s6, s7, s8, s9, s10, s11, s12, s13⟩; go_simp; with_reducible rfl) ?_
              refine pA 17 91 (mL 24 1310719) HT_ rfl rfl ?_
              refine pA 18 92 (mL 24 1572863) HT_ rfl rfl ?_
              refine tA 19 93 (mL 24 2097151) HT_ HW_ hHeld rfl rfl (by rintro w' ⟨s0, s1, s2, s3, s4, s5, s6, s7, s8, s9, s10, s11, s12, s13⟩; go_simp; with_reducible rfl) ?_
              refine tA 21 95 (mL 24 4194303) HT_ HW_ hHeld rfl rfl (by rintro w' ⟨s0, s1, s2, s3, s4, s5, s6, s7, s8, s9, s10, s11, s12, s13⟩; go_simp; with_reducible rfl) ?_
              refine pA 22 96 (mL 24 8388607) HT_ rfl rfl ?_
              refine pA 23 97 (mL 24 16777215) HT_ rfl rfl ?_
              refine done_ (done_of HT_.out KR) ?_
              try go_wp2
              go_ret
              exact ⟨TE, TB⟩
            ·rw [if_neg c64] at H
             have c64b0 : (((rd_TRecord ((rd_TEntry l0_1 x18_2).f3) 0).f0).toList == ((rd_TEntry l0_1 x18_2).f0).toList) = false := beq_eq_false_iff_ne.mpr c64
             have c64b1 : (((rd_TRecord ((rd_TEntry l0_1 x18_2).f3) 0).f0).toList != ((rd_TEntry l0_1 x18_2).f0).toList) = true := bne_iff_ne.mpr c64
             obtain rfl := Option.some.inj H
             have hnb74 := NB901_898.out
             have hnc74 := NB898_901.out
             have hcz75 := cz6 BK901
             try go_wp2
             replace BK898 := Aside0.mk (blk_drew BK898.out)
             replace BK901 := Aside0.mk (blk_drew BK901.out)
             replace HB := Aside0.mk (below_drew1 HB.out)
             have p909 : 0 ≤ (0 : Int) := (by omega)
             have q909 : 0 < (((rd_TEntry l0_1 x18_2).f3).length : Int) := TD
             obtain ⟨ad909, e909, hx909_0, hx909_1, hx909_2, hx909_3⟩ := at_TRecord HR900_3.out 0 p909 q909
             have hw909_3 := hx909_3
             (try rw [show ((0 : Int)).toNat = 0 from rfl] at hw909_3)
             (try rw [show 0 * 4 = 0 from rfl] at hw909_3)
             (try rw [Addr.add_zero'] at hw909_3)
             have hw909_2 := hx909_2
             (try rw [show ((0 : Int)).toNat = 0 from rfl] at hw909_2)
             (try rw [show 0 * 4 = 0 from rfl] at hw909_2)
             (try rw [Addr.add_zero'] at hw909_2)
             have hw909_1 := hx909_1
             (try rw [show ((0 : Int)).toNat = 0 from rfl] at hw909_1)
             (try rw [show 0 * 4 = 0 from rfl] at hw909_1)
             (try rw [Addr.add_zero'] at hw909_1)
             have hw909_0 := hx909_0
             (try rw [show ((0 : Int)).toNat = 0 from rfl] at hw909_0)
             (try rw [show 0 * 4 = 0 from rfl] at hw909_0)
             (try rw [Addr.add_zero'] at hw909_0)
             cases e909
             have qi909 : (0 < ((rd_TEntry l0_1 x18_2).f3).length) = True := eq_true (by omega)
             (try rw [show ((0 : Int)).toNat = 0 from rfl] at hx909_0)
             (try rw [show 0 * 4 = 0 from rfl] at hx909_0)
             (try rw [Addr.add_zero'] at hx909_0)
             (try rw [show ((0 : Int)).toNat = 0 from rfl] at hx909_1)
             (try rw [show 0 * 4 = 0 from rfl] at hx909_1)
             (try rw [Addr.add_zero'] at hx909_1)
             (try rw [show ((0 : Int)).toNat = 0 from rfl] at hx909_2)
             (try rw [show 0 * 4 = 0 from rfl] at hx909_2)
             (try rw [Addr.add_zero'] at hx909_2)
             (try rw [show ((0 : Int)).toNat = 0 from rfl] at hx909_3)
             (try rw [show 0 * 4 = 0 from rfl] at hx909_3)
             (try rw [Addr.add_zero'] at hx909_3)
             replace hx909_0 := hBc HB hx909_0
             replace hx909_1 := hBc HB hx909_1
             replace hx909_2 := hBc HB hx909_2
             replace hx909_3 := hBc HB hx909_3
             replace p909 := eq_true p909
             replace q909 := eq_true q909
             refine start_ (n := 24) (S := fun w' => w'.cell? ⟨gb901, 0, none⟩ = some (.string ((rd_TEntry l0_1 x18_2).f0)) ∧ w'.cell? ⟨gb901, 1, none⟩ = some (.int .i64 ((rd_TEntry l0_1 x18_2).f1)) ∧ w'.cell? ⟨gb901, 2, none⟩ = some (.bool ((rd_TEntry l0_1 x18_2).f2)) ∧ w'.cell? ⟨gb901, 3, none⟩ = some (.slice (some ad909) ((rd_TEntry l0_1 x18_2).f3).length c900_3) ∧ w'.cell? ⟨gb901, 4, none⟩ = some (.int .i64 ((rd_TEntry l0_1 x18_2).f4)) ∧ w'.cell? ⟨gb901, 5, none⟩ = some (.int .i64 ((rd_TEntry l0_1 x18_2).f5)) ∧ w'.cell? ad909 = some (.string ((rd_TRecord ((rd_TEntry l0_1 x18_2).f3) 0).f0)) ∧ w'.cell? ⟨ad909.block, ad909.off + 1, none⟩ = some (.int .i64 ((rd_TRecord ((rd_TEntry l0_1 x18_2).f3) 0).f1)) ∧ w'.cell? ⟨ad909.block, ad909.off + 2, none⟩ = some (.int .i64 ((rd_TRecord ((rd_TEntry l0_1 x18_2).f3) 0).f2)) ∧ w'.cell? ⟨ad909.block, ad909.off + 3, none⟩ = some (.string ((rd_TRecord ((rd_TEntry l0_1 x18_2).f3) 0).f3))) (ds := []) #[false, false, false, false, false, false, false, false, false, false, false, false, false, false, false, false, false, false, false, false, false, false, false, false] KR rfl rfl ⟨bc 0 BK901, bc 1 BK901, bc 2 BK901, bc 3 BK901, bc 4 BK901, bc 5 BK901, ((HB.out.cell (World.block_lt_of_cell? w _ hw909_0)).trans hw909_0), ((HB.out.cell (World.block_lt_of_cell? w _ hw909_1)).trans hw909_1), ((HB.out.cell (World.block_lt_of_cell? w _ hw909_2)).trans hw909_2), ((HB.out.cell (World.block_lt_of_cell? w _ hw909_3)).trans hw909_3)⟩ (fun hHeld => ?_); refine with_tabW spec_GoodCache.tab11 spec_GoodCache.bits11 (fun HT_ HW_ => ?_)
             generalize wc.drew = w76 at BK898 BK901 HB hx909_0 hx909_1 hx909_2 hx909_3 hHeld ⊢
             refine pA 0 74 (mL 24 1) HT_ rfl rfl ?_
             refine tA 1 75 (mL 24 3) HT_ HW_ hHeld rfl rfl (by rintro w' ⟨s0, s1, s2, s3, s4, s5, s6, s7, s8, s9⟩; go_simp; with_reducible rfl) ?_
             refine one_ (i := 2) (N := some 76) (mL 24 7) rfl rfl (one_of HT_.out KR) (by decide) (fun K hK => ?_)
             refine goes_ Tryz.func84 KR rfl #[.slice (some ad909) ((rd_TEntry l0_1 x18_2).f3).length c900_3] (by rfl) rfl rfl TA ?_
             with_reducible refine (spec_l10Same.calls kj12 _ _ ((rd_TEntry l0_1 x18_2).f3) true _ ?side1 ?side2 A61.out).mono ?_
             (case side1 => exact CW ((Kd.C_below HR900_3.out HB.out)))
             (case side2 => exact HC900_3.out)
             rintro e w77 ⟨rfl, hb⟩
             refine ⟨_, rfl, ?_⟩
             replace BK898 := KB BK898 hb
             replace BK901 := KB BK901 hb
             replace HB := BS hb
             (try clear hb)
             (try clear hb2)
             (try clear hk)
             (try clear hi)
             refine hK.out _ _ ⟨bc 0 BK901, bc 1 BK901, bc 2 BK901, bc 3 BK901, bc 4 BK901, bc 5 BK901, ((HB.out.cell (World.block_lt_of_cell? w _ hw909_0)).trans hw909_0), ((HB.out.cell (World.block_lt_of_cell? w _ hw909_1)).trans hw909_1), ((HB.out.cell (World.block_lt_of_cell? w _ hw909_2)).trans hw909_2), ((HB.out.cell (World.block_lt_of_cell? w _ hw909_3)).trans hw909_3)⟩ (fun hHeld => ?_)
             clear hK K
             refine nA ?_
             refine pA 3 77 (mL 24 15) HT_ rfl rfl ?_
             refine pA 4 78 (mL 24 31) HT_ rfl rfl ?_
             refine pA 5 79 (mL 24 63) HT_ rfl rfl ?_
             refine pA 10 84 (mL 24 1087) HT_ rfl rfl ?_
             refine tA 6 80 (mL 24 1151) HT_ HW_ hHeld rfl rfl (by rintro w' ⟨s0, s1, s2, s3, s4, s5, s6, s7, s8, s9⟩; go_simp; with_reducible rfl) ?_
             refine pA 7 81 (mL 24 1279) HT_ rfl rfl ?_
             refine pA 8 82 (mL 24 1535) HT_ rfl rfl ?_
             refine tA 9 83 (mL 24 2047) HT_ HW_ hHeld rfl rfl (by rintro w' ⟨s0, s1, s2, s3, s4, s5, s6, s7, s8, s9⟩; go_simp; with_reducible rfl) ?_
             refine tA 11 85 (mL 24 4095) HT_ HW_ hHeld rfl rfl (by rintro w' ⟨s0, s1, s2, s3, s4, s5, s6, s7, s8, s9⟩; go_simp; with_reducible rfl) ?_
             refine pA 12 86 (mL 24 8191) HT_ rfl rfl ?_
             refine pA 13 87 (mL 24 16383) HT_ rfl rfl ?_
             refine pA 14 88 (mL 24 32767) HT_ rfl rfl ?_
             refine pU 15 89 (mL 24 65535) HT_ rfl rfl ?_
             refine pU 16 90 (mL 24 131071) HT_ rfl rfl ?_
             refine pU 17 91 (mL 24 262143) HT_ rfl rfl ?_
             refine pU 18 92 (mL 24 524287) HT_ rfl rfl ?_
             refine pU 19 93 (mL 24 1048575) HT_ rfl rfl ?_
             refine pU 20 94 (mL 24 2097151) HT_ rfl rfl ?_
             refine pU 21 95 (mL 24 4194303) HT_ rfl rfl ?_
             refine pU 22 96 (mL 24 8388607) HT_ rfl rfl ?_
             refine pA 23 97 (mL 24 16777215) HT_ rfl rfl ?_
             refine done_ (done_of HT_.out KR) ?_
             try go_wp2
             go_ret
             exact ⟨TE, TB⟩
           ·replace c62 := Bool.eq_false_iff.mpr c62
            subst c62
            replace H := iff' H
            obtain rfl := Option.some.inj H
            have hnb78 := NB901_898.out
            have hnc78 := NB898_901.out
            have hcz79 := cz6 BK901
            try go_wp2
            replace BK898 := Aside0.mk (blk_drew BK898.out)
            replace BK901 := Aside0.mk (blk_drew BK901.out)
            replace HB := Aside0.mk (below_drew1 HB.out)
            refine start_ (n := 24) (S := fun w' => w'.cell? ⟨gb901, 0, none⟩ = some (.string ((rd_TEntry l0_1 x18_2).f0)) ∧ w'.cell? ⟨gb901, 1, none⟩ = some (.int .i64 ((rd_TEntry l0_1 x18_2).f1)) ∧ w'.cell? ⟨gb901, 2, none⟩ = some (.bool ((rd_TEntry l0_1 x18_2).f2)) ∧ w'.cell? ⟨gb901, 3, none⟩ = some (.slice A900_3 ((rd_TEntry l0_1 x18_2).f3).length c900_3) ∧ w'.cell? ⟨gb901, 4, none⟩ = some (.int .i64 ((rd_TEntry l0_1 x18_2).f4)) ∧ w'.cell? ⟨gb901, 5, none⟩ = some (.int .i64 ((rd_TEntry l0_1 x18_2).f5))) (ds := []) #[false, false, false, false, false, false, false, false, false, false, false, false, false, false, false, false, false, false, false, false, false, false, false, false] KR rfl rfl ⟨bc 0 BK901, bc 1 BK901, bc 2 BK901, bc 3 BK901, bc 4 BK901, bc 5 BK901⟩ (fun hHeld => ?_); refine with_tabW spec_GoodCache.tab11 spec_GoodCache.bits11 (fun HT_ HW_ => ?_)
            generalize wc.drew = w80 at BK898 BK901 HB hHeld ⊢
            refine pA 0 74 (mL 24 1) HT_ rfl rfl ?_
            refine tA 1 75 (mL 24 3) HT_ HW_ hHeld rfl rfl (by rintro w' ⟨s0, s1, s2, s3, s4, s5⟩; go_simp; with_reducible rfl) ?_
            refine one_ (i := 2) (N := some 76) (mL 24 7) rfl rfl (one_of HT_.out KR) (by decide) (fun K hK => ?_)
            refine goes_ Tryz.func84 KR rfl #[.slice A900_3 ((rd_TEntry l0_1 x18_2).f3).length c900_3] (by rfl) rfl rfl TA ?_
            with_reducible refine (spec_l10Same.calls kj12 _ _ ((rd_TEntry l0_1 x18_2).f3) false _ ?side1 ?side2 A61.out).mono ?_
            (case side1 => exact CW ((Kd.C_below HR900_3.out HB.out)))
            (case side2 => exact HC900_3.out)
            rintro e w81 ⟨rfl, hb⟩
            refine ⟨_, rfl, ?_⟩
            replace BK898 := KB BK898 hb
            replace BK901 := KB BK901 hb
            replace HB := BS hb
            (try clear hb)
            (try clear hb2)
            (try clear hk)
            (try clear hi)
            refine hK.out _ _ ⟨bc 0 BK901, bc 1 BK901, bc 2 BK901, bc 3 BK901, bc 4 BK901, bc 5 BK901⟩ (fun hHeld => ?_)
            clear hK K
            refine nA ?_
            refine pA 3 77 (mL 24 15) HT_ rfl rfl ?_
            refine pA 4 78 (mL 24 31) HT_ rfl rfl ?_
            refine pU 5 79 (mL 24 63) HT_ rfl rfl ?_
            refine pU 6 80 (mL 24 127) HT_ rfl rfl ?_
            refine pU 7 81 (mL 24 255) HT_ rfl rfl ?_
            refine pU 8 82 (mL 24 511) HT_ rfl rfl ?_
            refine pU 9 83 (mL 24 1023) HT_ rfl rfl ?_
            refine pU 10 84 (mL 24 2047) HT_ rfl rfl ?_
            refine pU 11 85 (mL 24 4095) HT_ rfl rfl ?_
            refine pU 12 86 (mL 24 8191) HT_ rfl rfl ?_
            refine pA 13 87 (mL 24 16383) HT_ rfl rfl ?_
            refine pA 14 88 (mL 24 32767) HT_ rfl rfl ?_
            refine pU 15 89 (mL 24 65535) HT_ rfl rfl ?_
            refine pU 16 90 (mL 24 131071) HT_ rfl rfl ?_
            refine pU 17 91 (mL 24 262143) HT_ rfl rfl ?_
            refine pU 18 92 (mL 24 524287) HT_ rfl rfl ?_
            refine pU 19 93 (mL 24 1048575) HT_ rfl rfl ?_
            refine pU 20 94 (mL 24 2097151) HT_ rfl rfl ?_
            refine pU 21 95 (mL 24 4194303) HT_ rfl rfl ?_
            refine pU 22 96 (mL 24 8388607) HT_ rfl rfl ?_
            refine pA 23 97 (mL 24 16777215) HT_ rfl rfl ?_
            refine done_ (done_of HT_.out KR) ?_
            try go_wp2
            go_ret
            exact ⟨TE, TB⟩
      ·rw [if_neg c10] at H
       have c10b0 : decide (x18_2 < (l0_1.length : Int)) = false := decide_eq_false c10
       clear c10
       obtain rfl := Option.some.inj H
       go_wp2
       go_ret
       exact ⟨TE, TB⟩
end
section
/-! ### impl_within: function 86 -/
def impl_within.f (a0 : Int) (a1 : Int) (a2 : Int) : Option (Bool) := if a0 ≥ a1 then (some (decide (a0 ≤ a2))) else (some false)
theorem impl_within.calls (a0 : Int) (a1 : Int) (a2 : Int) (r : Bool) (w : World) (h : impl_within.f a0 a1 a2 = some r) :
  Calls Tryz.prog 86 #[.int .i64 a0, .int .i64 a1, .int .i64 a2] w fun e w' => e = .returned (.bool r) ∧ Drawn0 w w' := by
 have H : (if a0 ≥ a1 then (some (decide (a0 ≤ a2))) else (some false)) = some r := h
 clear h
 by_cases c4 : a0 ≥ a1
 ·rw [if_pos c4] at H
  have c4b0 : decide (a1 ≤ a0) = true := decide_eq_true c4
  clear c4
  obtain rfl := Option.some.inj H
  go_enter Tryz.func86, Tryz.ntmps86
  go_wp2
  go_ret
  exact ⟨TF, TN⟩
 ·rw [if_neg c4] at H
  have c4b0 : decide (a1 ≤ a0) = false := decide_eq_false c4
  clear c4
  obtain rfl := Option.some.inj H
  go_enter Tryz.func86, Tryz.ntmps86
  go_wp2
  go_ret
  exact ⟨TF, TN⟩
end
section
/-! ### strings_explode: function 215 -/
def strings_explode.f (a0 : ByteArray) (a1 : Int) : Option ((List ByteArray)) := none
theorem strings_explode.calls (a0 : ByteArray) (a1 : Int) (r : (List ByteArray)) (w : World) (h : strings_explode.f a0 a1 = some r) :
  Calls Tryz.prog 215 #[.string a0, .int .i64 a1] w fun e w' => ∃ v0_ : Value, e = .returned (v0_) ∧ Kd.R Kd.string 9 w' w.heap.size (fun _ => True) v0_ r ∧ Below w.heap.size w w' := by
 cases h
end
section
/-! ### strings_Count: function 216 -/
def strings_Count.f (a0 : ByteArray) (a1 : ByteArray) : Option (Int) := if a1.size = 1 then some (Go.Lib.countByte a0.data.toList (a1.data.toList.headD 0)) else none
theorem strings_Count.calls (a0 : ByteArray) (a1 : ByteArray) (r : Int) (w : World) (h : strings_Count.f a0 a1 = some r) :
  Calls Tryz.prog 216 #[.string a0, .string a1] w fun e w' => e = .returned (.int .i64 r) ∧ Drawn0 w w' := by
 unfold strings_Count.f at h
 by_cases h1 : a1.size = 1
 ·rw [if_pos h1] at h
  obtain rfl := Option.some.inj h
  obtain ⟨⟨l⟩⟩ := a1
  match l, h1 with
  | [c], _ => exact (Go.Proofs.Any.strings_Count_one Go.Proofs.Tryz.lays138 a0 c w).mono fun e w' hh => ⟨hh.1, hh.2 ▸ Drawn0.refl _⟩
 ·rw [if_neg h1] at h
  cases h
end
section
/-! ### strings_Index: function 217 -/
def strings_Index.f (a0 : ByteArray) (a1 : ByteArray) : Option (Int) := if a1.size = 1 then some (Go.Lib.indexByte a0.data.toList (a1.data.toList.headD 0)) else none
theorem strings_Index.calls (a0 : ByteArray) (a1 : ByteArray) (r : Int) (w : World) (h : strings_Index.f a0 a1 = some r) :
  Calls Tryz.prog 217 #[.string a0, .string a1] w fun e w' => e = .returned (.int .i64 r) ∧ Drawn0 w w' := by
 unfold strings_Index.f at h
 by_cases h1 : a1.size = 1
 ·rw [if_pos h1] at h
  obtain rfl := Option.some.inj h
  obtain ⟨⟨l⟩⟩ := a1
  match l, h1 with
  | [c], _ => exact (Go.Proofs.Any.strings_Index_one Go.Proofs.Tryz.lays143 a0 c w).mono fun e w' hh => ⟨hh.1, hh.2 ▸ Drawn0.refl _⟩
 ·rw [if_neg h1] at h
  cases h
end
section
/-! ### strings_genSplit: function 191 -/
mutual
def strings_genSplit.j0 : Nat → ByteArray → ByteArray → Int → Int → Option (List ByteArray)
 | 0, _, _, _, _ => none
 | k + 1, x0, x1, x2, x3 => if 0 ≤ (mn x3 (wrap64 ((x0.size : Int) + 1))) then (if (mn x3 (wrap64 ((x0.size : Int) + 1)) : Int).toNat ≤ 17592186044416 then (strings_genSplit.l0 k x0 x1 x2 (wrap64 ((mn x3 (wrap64 ((x0.size : Int) + 1))) - 1)) (List.replicate (mn x3 (wrap64 ((x0.size : Int) + 1)) : Int).toNat (⟨#[]⟩ : ByteArray)) 0) else (none)) else (none)
def strings_genSplit.l0 : Nat → ByteArray → ByteArray → Int → Int → List ByteArray → Int → Option (List ByteArray)
 | 0, _, _, _, _, _, _ => none
 | k + 1, x0, x1, x2, x3, x9, x10 => if x10 < x3 then ((strings_Index.f x0 x1).bind fun t265 => (if t265 < 0 then (if 0 ≤ x10 then (if x10 < (x9.length : Int) then (if 0 ≤ (wrap64 (x10 + 1)) then (if (wrap64 (x10 + 1)) ≤ (x9.length : Int) then (some ((x9.set (x10 : Int).toNat x0).take ((wrap64 (x10 + 1)) : Int).toNat)) else (none)) else (none)) else (none)) else (none)) else (if 0 ≤ (wrap64 (t265 + x2)) then (if (wrap64 (t265 + x2)) ≤ (x0.size : Int) then (if 0 ≤ x10 then (if x10 < (x9.length : Int) then (if 0 ≤ (wrap64 (t265 + (x1.size : Int))) then (if (wrap64 (t265 + (x1.size : Int))) ≤ (x0.size : Int) then (strings_genSplit.l0 k (x0.extract ((wrap64 (t265 + (x1.size : Int))) : Int).toNat x0.size) x1 x2 x3 (x9.set (x10 : Int).toNat (x0.extract 0 ((wrap64 (t265 + x2)) : Int).toNat)) (wrap64 (x10 + 1))) else (none)) else (none)) else (none)) else (none)) else (none)) else (none)))) else (if 0 ≤ x10 then (if x10 < (x9.length : Int) then (if 0 ≤ (wrap64 (x10 + 1)) then (if (wrap64 (x10 + 1)) ≤ (x9.length : Int) then (some ((x9.set (x10 : Int).toNat x0).take ((wrap64 (x10 + 1)) : Int).toNat)) else (none)) else (none)) else (none)) else (none))
end
def strings_genSplit.f (k : Nat) (a0 : ByteArray) (a1 : ByteArray) (a2 : Int) (a3 : Int) : Option (List ByteArray) := if a3 = 0 then (some ([] : List ByteArray)) else (if a1.toList = ([] : List UInt8) then ((strings_explode.f a0 a3).bind fun t258 => (some t258)) else (if a3 < 0 then ((strings_Count.f a0 a1).bind fun t261 => (strings_genSplit.j0 k a0 a1 a2 (wrap64 (t261 + 1)))) else (strings_genSplit.j0 k a0 a1 a2 a3)))
theorem strings_genSplit.calls (k : Nat) (a0 : ByteArray) (a1 : ByteArray) (a2 : Int) (a3 : Int) (r : List ByteArray) (w : World) (h : strings_genSplit.f k a0 a1 a2 a3 = some r) :
  Calls Tryz.prog 191 #[.string a0, .string a1, .int .i64 a2, .int .i64 a3] w fun e w' => ∃ v0_ : Value, e = .returned (v0_) ∧ Kd.R Kd.string 9 w' w.heap.size (fun _ => True) v0_ r ∧ Below w.heap.size w w' := by
 have HB := Aside0.mk (Below.refl w.heap.size w)
 have H : (if a3 = 0 then (some ([] : List ByteArray)) else (if a1.toList = ([] : List UInt8) then ((strings_explode.f a0 a3).bind fun t258 => (some t258)) else (if a3 < 0 then ((strings_Count.f a0 a1).bind fun t261 => (strings_genSplit.j0 k a0 a1 a2 (wrap64 (t261 + 1)))) else (strings_genSplit.j0 k a0 a1 a2 a3)))) = some r := h
 clear h
 by_cases c5 : a3 = 0
 ·rw [if_pos c5] at H
  have c5b0 : (a3 == 0) = true := beq_iff_eq.mpr c5
  have c5b1 : (a3 != 0) = false := bne_eq_false_iff_eq.mpr c5
  clear c5
  obtain rfl := Option.some.inj H
  go_enter Tryz.func191, Tryz.ntmps191
  go_wp2
  go_ret
  exact ⟨_, by first | rfl | (simp [errW_none, errW_some] <;> rfl) | (simp [*, errW_none, errW_some] <;> rfl) | (simp [errW_none, errW_some]; rw [Bool.eq_iff_iff]; simp), TZ, TB⟩
 ·rw [if_neg c5] at H
  have c5b0 : (a3 == 0) = false := beq_eq_false_iff_ne.mpr c5
  have c5b1 : (a3 != 0) = true := bne_iff_ne.mpr c5
  by_cases c6 : a1.toList = ([] : List UInt8)
  ·rw [if_pos c6] at H
   have c6b0 : (a1.toList == ([] : List UInt8)) = true := beq_iff_eq.mpr c6
   have c6b1 : (a1.toList != ([] : List UInt8)) = false := bne_eq_false_iff_eq.mpr c6
   clear c6
   obtain ⟨t258, A7, H⟩ := bnd H
   obtain rfl := Option.some.inj H
   go_enter Tryz.func191, Tryz.ntmps191
   go_wp2_with (first | ((with_reducible refine gate_callee (f := 215) rfl ?_); refine goesL_ (some 18) rfl rfl Tryz.func215 KR rfl #[.string a0, .int .i64 a3] rfl TA ?_; (with_reducible refine (strings_explode.calls a0 a3 t258 _ A7.out).mono ?_); rintro e w8 ⟨v259, rfl, ho0, hb⟩; refine ⟨_, rfl, ?_⟩; have HO260 := RL ho0; replace HB := BS hb; (try clear hb); (try clear hb2); (try clear hk); (try clear hi); (try clear ho0)))
   go_ret
   exact ⟨_, by first | rfl | (simp [errW_none, errW_some] <;> rfl) | (simp [*, errW_none, errW_some] <;> rfl) | (simp [errW_none, errW_some]; rw [Bool.eq_iff_iff]; simp), (RW HO260).out, TB⟩
  ·rw [if_neg c6] at H
   have c6b0 : (a1.toList == ([] : List UInt8)) = false := beq_eq_false_iff_ne.mpr c6
   have c6b1 : (a1.toList != ([] : List UInt8)) = true := bne_iff_ne.mpr c6
   have HC9 := Aside0.mk H
   clear H
   go_enter Tryz.func191, Tryz.ntmps191
   go_upto_if 20 with (fail)
   go_cut [3] (fun v3 wc => ∃ (kq : Nat) (x3_8 : Int), v3 = .int .i64 x3_8 ∧ Aside0 (strings_genSplit.j0 kq a0 a1 a2 x3_8 = some r) ∧ Aside0 (kq ≤ k) ∧ Aside0 (Below w.heap.size w wc))
   case first =>
    have H := HC9.out
    clear HC9
    by_cases c10 : a3 < 0
    ·rw [if_pos c10] at H
     have c10b0 : decide (a3 < 0) = true := decide_eq_true c10
     clear c10
     (first | rw [c10b0] | (simp only [i64_w, i32_w]; rw [c10b0]) | skip)
     obtain ⟨t261, A11, H⟩ := bnd H
     have H' := Aside0.mk H
     clear H
     go_wp2_with (first | ((with_reducible refine gate_callee (f := 216) rfl ?_); refine goesL_ (some 23) rfl rfl Tryz.func216 KR rfl #[.string a0, .string a1] rfl TA ?_; (with_reducible refine (strings_Count.calls a0 a1 t261 _ A11.out).mono ?_); rintro e w' ⟨rfl, ⟨nd, rfl⟩⟩; refine ⟨_, rfl, ?_⟩))
     go_meet
     case rel => exact ⟨_, (wrap64 (t261 + 1)), TF, H', ⟨by first | omega | exact Nat.le_refl _⟩, ⟨TB⟩⟩
    ·rw [if_neg c10] at H
     have c10b0 : decide (a3 < 0) = false := decide_eq_false c10
     clear c10
     (first | rw [c10b0] | (simp only [i64_w, i32_w]; rw [c10b0]) | skip)
     have H' := Aside0.mk H
     clear H
     go_wp2
     go_meet
     case rel => exact ⟨_, (a3), TF, H', ⟨by first | omega | exact Nat.le_refl _⟩, ⟨TB⟩⟩
   case rest =>
    clear HC9
    try clear c1
    try clear c2
    try clear p2
    try clear c5
    try clear c5b0
    try clear c5b1
    try clear c6
    try clear c6b0
    try clear c6b1
    try clear p6
    try clear c10
    try clear c10b0
    obtain ⟨kq, x3_8, rfl, HA, HJ8, HB⟩ := hcut
    cases kq with
    | zero => exact absurd HA.out (by simp [strings_genSplit.j0])
    | succ kj8 =>
     have H := HA.out
     clear HA
     simp only [strings_genSplit.j0] at H
     obtain ⟨ji12, hji12⟩ : ∃ j_ : Int, (mn x3_8 (wrap64 ((a0.size : Int) + 1))) = j_ := ⟨_, rfl⟩
     replace H : (if 0 ≤ (ji12) then (if (ji12 : Int).toNat ≤ 17592186044416 then (strings_genSplit.l0 kj8 a0 a1 a2 (wrap64 ((ji12) - 1)) (List.replicate (ji12 : Int).toNat (⟨#[]⟩ : ByteArray)) 0) else (none)) else (none)) = some r := by first | (rw [hji12] at H; exact H) | (simp only [hji12] at H ⊢; exact H)
     have hji12_ : (if (wrap64 ((a0.size : Int) + 1)) < x3_8 then (wrap64 ((a0.size : Int) + 1)) else x3_8) = ji12 := hji12
     obtain ⟨c13, H⟩ := ifn H
     have c13b0 := eq_true c13
     have c13b1 : decide (0 ≤ (ji12)) = true := decide_eq_true c13
     clear c13
     obtain ⟨c14, H⟩ := ifn H
     have c14b0 := eq_true c14
     have c14b1 : decide ((ji12 : Int).toNat ≤ 17592186044416) = true := decide_eq_true c14
     clear c14
     obtain ⟨y262, hy262⟩ : ∃ y_ : List ByteArray, y_ = (List.replicate (ji12 : Int).toNat (⟨#[]⟩ : ByteArray)) := ⟨_, rfl⟩
     replace H : (strings_genSplit.l0 kj8 a0 a1 a2 (wrap64 ((ji12) - 1)) y262 0) = some r := by first | (rw [hy262]; with_reducible exact H) | (have H2_ := (Option.bind_some _ _).symm.trans H; rw [hy262]; with_reducible exact H2_) | (have H2_ := (Option.bind_some _ _).symm.trans H; with_reducible exact H2_) | with_reducible exact H | (rw [hy262]; exact H) | exact H
     have Ny262 := Aside0.mk hy262
     clear hy262
     have H' := Aside0.mk H
     clear H
     go_wp2_with (first | ((with_reducible refine gate_dst (N := 31) rfl ?_); refine Kd.R_make Kd.string _ 9 rfl (N := 31) rfl 138 _ _ rfl ji12 rfl rfl Tryz.underlying138 (.string ⟨#[]⟩) 16 info9 rfl (by decide) (by omega) (⟨#[]⟩ : ByteArray) (ok := fun _ => True) (okp := fun _ => True) rfl (fun _ hk => hk) trivial TD (Nat.le_trans (Nat.mul_le_mul_right _ (TD : ji12.toNat ≤ 17592186044416)) (by omega)) (Below.refl _ _) (Nat.le_refl _) ?_; intro v263 w15 ho16 hb hg_ hnew_; clear hg_ hnew_; (first | rw [← Ny262.out] at ho16 | (simp only [Int.reduceToNat] at ho16; rw [← Ny262.out] at ho16)); have HO264 := RL ho16; replace HB := BS hb; clear hb ho16))
     go_loopg [0, 10] kj8 (fun kq v0 v10 w' => ∃ (x0_2 : ByteArray) (x9_2 : List ByteArray) (x10_2 : Int), v0 = .string x0_2 ∧ v10 = .int .i64 x10_2 ∧ Aside0 (strings_genSplit.l0 kq x0_2 a1 a2 (wrap64 ((ji12) - 1)) x9_2 x10_2 = some r) ∧ Aside0 (kq ≤ kj8) ∧ Aside0 (Kd.R Kd.string 9 w' w.heap.size (fun _ => True) v263 x9_2) ∧ Aside0 (Below w.heap.size w w'))
     case atStart => exact ⟨(a0), (y262), (0), TF, TF, H', ⟨Nat.le_refl _⟩, RW HO264, ⟨TB⟩⟩
     case round =>
      clear H'
      try clear c1
      try clear c2
      try clear p2
      try clear c5
      try clear c5b0
      try clear c5b1
      try clear c6
      try clear c6b0
      try clear c6b1
      try clear p6
      try clear c10
      try clear c10b0
      try clear c13
      try clear c13b0
      try clear c13b1
      try clear c14
      try clear c14b0
      try clear c14b1
      try clear p2
      try clear p6
      obtain ⟨x0_2, x9_2, x10_2, rfl, rfl, HA, HK2, HO_9, HB⟩ := hrel
      cases gk with
      | zero => exact absurd HA.out (by simp [strings_genSplit.l0])
      | succ k2 =>
       have H := HA.out
       clear HA
       simp only [strings_genSplit.l0] at H
       by_cases c17 : x10_2 < (wrap64 ((ji12) - 1))
       ·rw [if_pos c17] at H
        have c17b0 : decide (x10_2 < (wrap64 ((ji12) - 1))) = true := decide_eq_true c17
        clear c17
        obtain ⟨t265, A18, H⟩ := bnd H
        by_cases c19 : t265 < 0
        ·rw [if_pos c19] at H
         have c19b0 : decide (t265 < 0) = true := decide_eq_true c19
         clear c19
         obtain ⟨c20, H⟩ := ifn H
         have c20b0 : decide (0 ≤ x10_2) = true := decide_eq_true c20
         clear c20
         obtain ⟨c21, H⟩ := ifn H
         have c21b0 : decide (x10_2 < (x9_2.length : Int)) = true := decide_eq_true c21
         clear c21
         obtain ⟨y266, hy266⟩ : ∃ y_ : List ByteArray, y_ = (x9_2.set (x10_2 : Int).toNat x0_2) := ⟨_, rfl⟩
         replace H : (if 0 ≤ (wrap64 (x10_2 + 1)) then (if (wrap64 (x10_2 + 1)) ≤ (x9_2.length : Int) then (some (y266.take ((wrap64 (x10_2 + 1)) : Int).toNat)) else (none)) else (none)) = some r := by first | (rw [hy266]; with_reducible exact H) | (have H2_ := (Option.bind_some _ _).symm.trans H; rw [hy266]; with_reducible exact H2_) | (have H2_ := (Option.bind_some _ _).symm.trans H; with_reducible exact H2_) | with_reducible exact H | (rw [hy266]; exact H) | exact H
         have Ny266 := Aside0.mk hy266
         clear hy266
         obtain ⟨ji23, hji23⟩ : ∃ j_ : Int, (wrap64 (x10_2 + 1)) = j_ := ⟨_, rfl⟩
         replace H : (if 0 ≤ (ji23) then (if (ji23) ≤ (x9_2.length : Int) then (some (y266.take ((ji23) : Int).toNat)) else (none)) else (none)) = some r := by first | (rw [hji23] at H; exact H) | (simp only [hji23] at H ⊢; exact H)
         (try rw [hji23] at A18)
         have hji23w : (IntKind.i64.wrap (x10_2 + 1)) = ji23 := (i64_w _).trans hji23
         obtain ⟨c24, H⟩ := ifn H
         have c24b0 := eq_true c24
         have c24b1 : decide (0 ≤ (ji23)) = true := decide_eq_true c24
         clear c24
         obtain ⟨c25, H⟩ := ifn H
         have c25b0 := eq_true c25
         have c25b1 : decide ((ji23) ≤ (x9_2.length : Int)) = true := decide_eq_true c25
         clear c25
         obtain ⟨y267, hy267⟩ : ∃ y_ : List ByteArray, y_ = (y266.take ((ji23) : Int).toNat) := ⟨_, rfl⟩
         replace H : (some y267) = some r := by first | (rw [hy267]; with_reducible exact H) | (have H2_ := (Option.bind_some _ _).symm.trans H; rw [hy267]; with_reducible exact H2_) | (have H2_ := (Option.bind_some _ _).symm.trans H; with_reducible exact H2_) | with_reducible exact H | (rw [hy267]; exact H) | exact H
         have Ny267 := Aside0.mk hy267
         clear hy267
         obtain rfl := Option.some.inj H
         go_wp2_with (first | ((with_reducible refine gate_callee (f := 217) rfl ?_); refine goesL_ (some 39) rfl rfl Tryz.func217 KR rfl #[.string x0_2, .string a1] rfl TA ?_; (with_reducible refine (strings_Index.calls x0_2 a1 t265 _ A18.out).mono ?_); rintro e w' ⟨rfl, ⟨nd, rfl⟩⟩; refine ⟨_, rfl, ?_⟩; (try (rw [drewN_self wr]; generalize hq_ : World.drewN wr _ = wr; have n0_ : Aside0 (Kd.R Kd.string 9 wr w.heap.size (fun _ => True) v263 x9_2) := ⟨by rw [← hq_]; exact (RW HO_9).out⟩; have n1_ : Aside0 (Below w.heap.size w wr) := ⟨by rw [← hq_]; exact TB⟩; clear HO_9 HB hq_; have HO_9 := n0_; have HB := n1_; clear n0_ n1_)); have p22 : 0 ≤ (x10_2 : Int) := TD; have q22 : (x10_2 : Int) < ((x9_2.length : Int) : Int) := TD; obtain ⟨go22, co22, eo22, gb22, gl22, cl22, HG22⟩ := Kd.R_form HO_9.out (by omega); (first | cases eo22 | (injection eo22 with ea_ en_ ec_; (first | subst ea_ | (injection ea_ with ea_; subst ea_)); subst ec_; clear en_)); have GB22 := Aside0.mk gb22; have GG22 := Aside0.mk HG22; clear gb22 gl22 HG22; obtain ⟨hx22_0, hf22_0⟩ := Kd.R_celln (⟨#[]⟩ : ByteArray) HO_9.out (x10_2 : Int) p22 q22; replace p22 := eq_true p22; replace q22 := eq_true q22; obtain ⟨hy26_, hz26_⟩ := Kd.R_celln (⟨#[]⟩ : ByteArray) HO_9.out (x10_2 : Int) TD TD; have HP26 := Kd.R_putg HO_9.out (x10_2 : Int) x0_2) | ((with_reducible refine gate_store (t := 9) (p := 61) rfl ?_); refine store_event (t := 9) (p := 61) (v := ?vo_w27) (w1 := (wr.setCell ⟨go22, (x10_2 : Int).toNat, none⟩ (.string x0_2))) ?hg ?ho ?hn ?hr ?_; (case ho => rfl); (case hg => rfl); (case hn => rfl); (case hr => first | (go_simp; done) | (go_simp; rfl)); intro w27 hw; have hg : wr.grownBy w27 (some go22) := (by rw [hw]; exact HP26.2); have hp_ : Kd.R Kd.string 9 w27 w.heap.size (fun _ => True) (.slice (some ⟨go22, 0, none⟩) x9_2.length co22) y266 := (by rw [hw, Ny266.out]; exact HP26.1); clear HP26; replace HO_9 := Aside0.mk (hp_); replace HB := Aside0.mk ((by rw [hw]; exact below_set (HB.out) GB22.out : Below w.heap.size w w27)); clear hg hw hp_; have q28 : ((ji23) : Int) ≤ ((x9_2.length : Int) : Int) := TD; obtain ⟨i028, hi028, _, hsz28, _⟩ := info_parts info9; have hcut28 := cut_to (P := Tryz.prog) 138 9 .i64 Tryz.underlying138 hi028 (some ⟨go22, 0, none⟩) x9_2.length co22 (ji23) TD q28 (Kd.R_reads' HO_9.out).2.1; have hr28 := Kd.R_take (m := ((ji23) : Int).toNat) HO_9.out (by have hle_ := (Kd.R_reads' HO_9.out).1; omega); have hy28 : y267.length = ((ji23) : Int).toNat := (by rw [Ny267.out, List.length_take]; have hle_ := (Kd.R_reads' HO_9.out).1; omega); rw [← Ny267.out] at hr28; rw [← hy28] at hr28 hcut28; clear hy28 hi028 hsz28 HO_9; have HO269 := Aside0.mk hr28; clear hr28; replace q28 := eq_true q28))
         go_ret
         exact ⟨_, by first | rfl | (simp [errW_none, errW_some] <;> rfl) | (simp only [← hji12, ← hji23]; first | rfl | (simp [errW_none, errW_some] <;> rfl)) | (simp [*, errW_none, errW_some] <;> rfl) | (simp [errW_none, errW_some]; rw [Bool.eq_iff_iff]; simp), (RW HO269).out, TB⟩
        ·rw [if_neg c19] at H
         have c19b0 : decide (t265 < 0) = false := decide_eq_false c19
         clear c19
         obtain ⟨ji29, hji29⟩ : ∃ j_ : Int, (wrap64 (t265 + a2)) = j_ := ⟨_, rfl⟩
         replace H : (if 0 ≤ (ji29) then (if (ji29) ≤ (x0_2.size : Int) then (if 0 ≤ x10_2 then (if x10_2 < (x9_2.length : Int) then (if 0 ≤ (wrap64 (t265 + (a1.size : Int))) then (if (wrap64 (t265 + (a1.size : Int))) ≤ (x0_2.size : Int) then (strings_genSplit.l0 k2 (x0_2.extract ((wrap64 (t265 + (a1.size : Int))) : Int).toNat x0_2.size) a1 a2 (wrap64 ((ji12) - 1)) (x9_2.set (x10_2 : Int).toNat (x0_2.extract 0 ((ji29) : Int).toNat)) (wrap64 (x10_2 + 1))) else (none)) else (none)) else (none)) else (none)) else (none)) else (none)) = some r := by first | (rw [hji29] at H; exact H) | (simp only [hji29] at H ⊢; exact H)
         (try rw [hji29] at A18)
         have hji29w : (IntKind.i64.wrap (t265 + a2)) = ji29 := (i64_w _).trans hji29
         obtain ⟨c30, H⟩ := ifn H
         have c30b0 := eq_true c30
         have c30b1 : decide (0 ≤ (ji29)) = true := decide_eq_true c30
         clear c30
         obtain ⟨c31, H⟩ := ifn H
         have c31b0 := eq_true c31
         have c31b1 : decide ((ji29) ≤ (x0_2.size : Int)) = true := decide_eq_true c31
         clear c31
         obtain ⟨c32, H⟩ := ifn H
         have c32b0 : decide (0 ≤ x10_2) = true := decide_eq_true c32
         clear c32
         obtain ⟨c33, H⟩ := ifn H
         have c33b0 : decide (x10_2 < (x9_2.length : Int)) = true := decide_eq_true c33
         clear c33
         obtain ⟨y270, hy270⟩ : ∃ y_ : List ByteArray, y_ = (x9_2.set (x10_2 : Int).toNat (x0_2.extract 0 ((ji29) : Int).toNat)) := ⟨_, rfl⟩
         replace H : (if 0 ≤ (wrap64 (t265 + (a1.size : Int))) then (if (wrap64 (t265 + (a1.size : Int))) ≤ (x0_2.size : Int) then (strings_genSplit.l0 k2 (x0_2.extract ((wrap64 (t265 + (a1.size : Int))) : Int).toNat x0_2.size) a1 a2 (wrap64 ((ji12) - 1)) y270 (wrap64 (x10_2 + 1))) else (none)) else (none)) = some r := by first | (rw [hy270]; with_reducible exact H) | (have H2_ := (Option.bind_some _ _).symm.trans H; rw [hy270]; with_reducible exact H2_) | (have H2_ := (Option.bind_some _ _).symm.trans H; with_reducible exact H2_) | with_reducible exact H | (rw [hy270]; exact H) | exact H
         have Ny270 := Aside0.mk hy270
         clear hy270
         obtain ⟨ji35, hji35⟩ : ∃ j_ : Int, (wrap64 (t265 + (a1.size : Int))) = j_ := ⟨_, rfl⟩
         replace H : (if 0 ≤ (ji35) then (if (ji35) ≤ (x0_2.size : Int) then (strings_genSplit.l0 k2 (x0_2.extract ((ji35) : Int).toNat x0_2.size) a1 a2 (wrap64 ((ji12) - 1)) y270 (wrap64 (x10_2 + 1))) else (none)) else (none)) = some r := by first | (rw [hji35] at H; exact H) | (simp only [hji35] at H ⊢; exact H)
         (try rw [hji35] at A18)
         have hji35w : (IntKind.i64.wrap (t265 + (a1.size : Int))) = ji35 := (i64_w _).trans hji35
         obtain ⟨c36, H⟩ := ifn H
         have c36b0 := eq_true c36
         have c36b1 : decide (0 ≤ (ji35)) = true := decide_eq_true c36
         clear c36
         obtain ⟨c37, H⟩ := ifn H
         have c37b0 := eq_true c37
         have c37b1 : decide ((ji35) ≤ (x0_2.size : Int)) = true := decide_eq_true c37
         clear c37
         have H' := Aside0.mk H
         clear H
         go_wp2_with (first | ((with_reducible refine gate_callee (f := 217) rfl ?_); refine goesL_ (some 39) rfl rfl Tryz.func217 KR rfl #[.string x0_2, .string a1] rfl TA ?_; (with_reducible refine (strings_Index.calls x0_2 a1 t265 _ A18.out).mono ?_); rintro e w' ⟨rfl, ⟨nd, rfl⟩⟩; refine ⟨_, rfl, ?_⟩; (try (rw [drewN_self wr]; generalize hq_ : World.drewN wr _ = wr; have n0_ : Aside0 (Kd.R Kd.string 9 wr w.heap.size (fun _ => True) v263 x9_2) := ⟨by rw [← hq_]; exact (RW HO_9).out⟩; have n1_ : Aside0 (Below w.heap.size w wr) := ⟨by rw [← hq_]; exact TB⟩; clear HO_9 HB hq_; have HO_9 := n0_; have HB := n1_; clear n0_ n1_)); have p34 : 0 ≤ (x10_2 : Int) := TD; have q34 : (x10_2 : Int) < ((x9_2.length : Int) : Int) := TD; obtain ⟨go34, co34, eo34, gb34, gl34, cl34, HG34⟩ := Kd.R_form HO_9.out (by omega); (first | cases eo34 | (injection eo34 with ea_ en_ ec_; (first | subst ea_ | (injection ea_ with ea_; subst ea_)); subst ec_; clear en_)); have GB34 := Aside0.mk gb34; have GG34 := Aside0.mk HG34; clear gb34 gl34 HG34; obtain ⟨hx34_0, hf34_0⟩ := Kd.R_celln (⟨#[]⟩ : ByteArray) HO_9.out (x10_2 : Int) p34 q34; replace p34 := eq_true p34; replace q34 := eq_true q34; obtain ⟨hy38_, hz38_⟩ := Kd.R_celln (⟨#[]⟩ : ByteArray) HO_9.out (x10_2 : Int) TD TD; have HP38 := Kd.R_putg HO_9.out (x10_2 : Int) (x0_2.extract 0 ((ji29) : Int).toNat)) | ((with_reducible refine gate_store (t := 9) (p := 49) rfl ?_); refine store_event (t := 9) (p := 49) (v := ?vo_w39) (w1 := (wr.setCell ⟨go34, (x10_2 : Int).toNat, none⟩ (.string (x0_2.extract 0 ((ji29) : Int).toNat)))) ?hg ?ho ?hn ?hr ?_; (case ho => rfl); (case hg => rfl); (case hn => rfl); (case hr => first | (go_simp; done) | (go_simp; rfl)); intro w39 hw; have hg : wr.grownBy w39 (some go34) := (by rw [hw]; exact HP38.2); have hp_ : Kd.R Kd.string 9 w39 w.heap.size (fun _ => True) (.slice (some ⟨go34, 0, none⟩) x9_2.length co34) y270 := (by rw [hw, Ny270.out]; exact HP38.1); clear HP38; replace HO_9 := Aside0.mk (hp_); replace HB := Aside0.mk ((by rw [hw]; exact below_set (HB.out) GB34.out : Below w.heap.size w w39)); clear hg hw hp_))
         go_roundg k2
         case measure => have := HJ8.out; have := HK2.out; omega
         case rel => exact ⟨(x0_2.extract ((ji35) : Int).toNat x0_2.size), (y270), (wrap64 (x10_2 + 1)), (by first | rfl | (simp; done) | (simp only [← hji35] <;> (first | rfl | simp)) | (simp [*]; done)), TF, H', ⟨by have := HJ8.out; have := HK2.out; omega⟩, RW HO_9, ⟨TB⟩⟩
       ·rw [if_neg c17] at H
        have c17b0 : decide (x10_2 < (wrap64 ((ji12) - 1))) = false := decide_eq_false c17
        clear c17
        obtain ⟨c40, H⟩ := ifn H
        have c40b0 : decide (0 ≤ x10_2) = true := decide_eq_true c40
        clear c40
        obtain ⟨c41, H⟩ := ifn H
        have c41b0 : decide (x10_2 < (x9_2.length : Int)) = true := decide_eq_true c41
        clear c41
        obtain ⟨y271, hy271⟩ : ∃ y_ : List ByteArray, y_ = (x9_2.set (x10_2 : Int).toNat x0_2) := ⟨_, rfl⟩
        replace H : (if 0 ≤ (wrap64 (x10_2 + 1)) then (if (wrap64 (x10_2 + 1)) ≤ (x9_2.length : Int) then (some (y271.take ((wrap64 (x10_2 + 1)) : Int).toNat)) else (none)) else (none)) = some r := by first | (rw [hy271]; with_reducible exact H) | (have H2_ := (Option.bind_some _ _).symm.trans H; rw [hy271]; with_reducible exact H2_) | (have H2_ := (Option.bind_some _ _).symm.trans H; with_reducible exact H2_) | with_reducible exact H | (rw [hy271]; exact H) | exact H
        have Ny271 := Aside0.mk hy271
        clear hy271
        obtain ⟨ji43, hji43⟩ : ∃ j_ : Int, (wrap64 (x10_2 + 1)) = j_ := ⟨_, rfl⟩
        replace H : (if 0 ≤ (ji43) then (if (ji43) ≤ (x9_2.length : Int) then (some (y271.take ((ji43) : Int).toNat)) else (none)) else (none)) = some r := by first | (rw [hji43] at H; exact H) | (simp only [hji43] at H ⊢; exact H)
        have hji43w : (IntKind.i64.wrap (x10_2 + 1)) = ji43 := (i64_w _).trans hji43
        obtain ⟨c44, H⟩ := ifn H
        have c44b0 := eq_true c44
        have c44b1 : decide (0 ≤ (ji43)) = true := decide_eq_true c44
        clear c44
        obtain ⟨c45, H⟩ := ifn H
        have c45b0 := eq_true c45
        have c45b1 : decide ((ji43) ≤ (x9_2.length : Int)) = true := decide_eq_true c45
        clear c45
        obtain ⟨y272, hy272⟩ : ∃ y_ : List ByteArray, y_ = (y271.take ((ji43) : Int).toNat) := ⟨_, rfl⟩
        replace H : (some y272) = some r := by first | (rw [hy272]; with_reducible exact H) | (have H2_ := (Option.bind_some _ _).symm.trans H; rw [hy272]; with_reducible exact H2_) | (have H2_ := (Option.bind_some _ _).symm.trans H; with_reducible exact H2_) | with_reducible exact H | (rw [hy272]; exact H) | exact H
        have Ny272 := Aside0.mk hy272
        clear hy272
        obtain rfl := Option.some.inj H
        have p42 : 0 ≤ (x10_2 : Int) := TD
        have q42 : (x10_2 : Int) < ((x9_2.length : Int) : Int) := TD
        obtain ⟨go42, co42, eo42, gb42, gl42, cl42, HG42⟩ := Kd.R_form HO_9.out (by omega)
        (first | cases eo42 | (injection eo42 with ea_ en_ ec_; (first | subst ea_ | (injection ea_ with ea_; subst ea_)); subst ec_; clear en_))
        have GB42 := Aside0.mk gb42
        have GG42 := Aside0.mk HG42
        clear gb42 gl42 HG42
        obtain ⟨hx42_0, hf42_0⟩ := Kd.R_celln (⟨#[]⟩ : ByteArray) HO_9.out (x10_2 : Int) p42 q42
        replace p42 := eq_true p42
        replace q42 := eq_true q42
        have HP46 := Kd.R_putg HO_9.out (x10_2 : Int) x0_2
        go_wp2_with (first | ((with_reducible refine gate_store (t := 9) (p := 61) rfl ?_); refine store_event (t := 9) (p := 61) (v := ?vo_w47) (w1 := (wr.setCell ⟨go42, (x10_2 : Int).toNat, none⟩ (.string x0_2))) ?hg ?ho ?hn ?hr ?_; (case ho => rfl); (case hg => rfl); (case hn => rfl); (case hr => first | (go_simp; done) | (go_simp; rfl)); intro w47 hw; have hg : wr.grownBy w47 (some go42) := (by rw [hw]; exact HP46.2); have hp_ : Kd.R Kd.string 9 w47 w.heap.size (fun _ => True) (.slice (some ⟨go42, 0, none⟩) x9_2.length co42) y271 := (by rw [hw, Ny271.out]; exact HP46.1); clear HP46; replace HO_9 := Aside0.mk (hp_); replace HB := Aside0.mk ((by rw [hw]; exact below_set (HB.out) GB42.out : Below w.heap.size w w47)); clear hg hw hp_; have q48 : ((ji43) : Int) ≤ ((x9_2.length : Int) : Int) := TD; obtain ⟨i048, hi048, _, hsz48, _⟩ := info_parts info9; have hcut48 := cut_to (P := Tryz.prog) 138 9 .i64 Tryz.underlying138 hi048 (some ⟨go42, 0, none⟩) x9_2.length co42 (ji43) TD q48 (Kd.R_reads' HO_9.out).2.1; have hr48 := Kd.R_take (m := ((ji43) : Int).toNat) HO_9.out (by have hle_ := (Kd.R_reads' HO_9.out).1; omega); have hy48 : y272.length = ((ji43) : Int).toNat := (by rw [Ny272.out, List.length_take]; have hle_ := (Kd.R_reads' HO_9.out).1; omega); rw [← Ny272.out] at hr48; rw [← hy48] at hr48 hcut48; clear hy48 hi048 hsz48 HO_9; have HO274 := Aside0.mk hr48; clear hr48; replace q48 := eq_true q48))
        go_ret
        exact ⟨_, by first | rfl | (simp [errW_none, errW_some] <;> rfl) | (simp only [← hji12, ← hji43]; first | rfl | (simp [errW_none, errW_some] <;> rfl)) | (simp [*, errW_none, errW_some] <;> rfl) | (simp [errW_none, errW_some]; rw [Bool.eq_iff_iff]; simp), (RW HO274).out, TB⟩
end
section
/-! ### strings_Split: function 166 -/
def strings_Split.f (k : Nat) (a0 : ByteArray) (a1 : ByteArray) : Option (List ByteArray) := (strings_genSplit.f k a0 a1 0 (-1)).bind fun t275 => (some t275)
theorem strings_Split.calls (k : Nat) (a0 : ByteArray) (a1 : ByteArray) (r : List ByteArray) (w : World) (h : strings_Split.f k a0 a1 = some r) :
  Calls Tryz.prog 166 #[.string a0, .string a1] w fun e w' => ∃ v0_ : Value, e = .returned (v0_) ∧ Kd.R Kd.string 9 w' w.heap.size (fun _ => True) v0_ r ∧ Below w.heap.size w w' := by
 have HB := Aside0.mk (Below.refl w.heap.size w)
 have H : ((strings_genSplit.f k a0 a1 0 (-1)).bind fun t275 => (some t275)) = some r := h
 clear h
 obtain ⟨t275, A3, H⟩ := bnd H
 obtain rfl := Option.some.inj H
 go_enter Tryz.func166, Tryz.ntmps166
 go_wp2_with (first | ((with_reducible refine gate_callee (f := 191) rfl ?_); refine goesL_ (some 7) rfl rfl Tryz.func191 KR rfl #[.string a0, .string a1, .int .i64 0, .int .i64 (-1)] rfl TA ?_; (with_reducible refine (strings_genSplit.calls k a0 a1 0 (-1) t275 _ A3.out).mono ?_); rintro e w4 ⟨v276, rfl, ho0, hb⟩; refine ⟨_, rfl, ?_⟩; have HO277 := RL ho0; replace HB := BS hb; (try clear hb); (try clear hb2); (try clear hk); (try clear hi); (try clear ho0)))
 go_ret
 exact ⟨_, TE, (RW HO277).out, TB⟩
end
section
/-! ### impl_labelsOf: function 128 -/
def impl_labelsOf.f (k : Nat) (a0 : ByteArray) : Option (List ByteArray) := if a0.toList = ([] : List UInt8) then (some ([] : List ByteArray)) else ((strings_Split.f k a0 (⟨#[46]⟩ : ByteArray)).bind fun t278 => (some t278))
theorem impl_labelsOf.calls (k : Nat) (a0 : ByteArray) (r : List ByteArray) (w : World) (h : impl_labelsOf.f k a0 = some r) :
  Calls Tryz.prog 128 #[.string a0] w fun e w' => ∃ v0_ : Value, e = .returned (v0_) ∧ Kd.R Kd.string 9 w' w.heap.size (fun _ => True) v0_ r ∧ Below w.heap.size w w' := by
 have HB := Aside0.mk (Below.refl w.heap.size w)
 have H : (if a0.toList = ([] : List UInt8) then (some ([] : List ByteArray)) else ((strings_Split.f k a0 (⟨#[46]⟩ : ByteArray)).bind fun t278 => (some t278))) = some r := h
 clear h
 by_cases c2 : a0.toList = ([] : List UInt8)
 ·rw [if_pos c2] at H
  have c2b0 : (a0.toList == ([] : List UInt8)) = true := beq_iff_eq.mpr c2
  have c2b1 : (a0.toList != ([] : List UInt8)) = false := bne_eq_false_iff_eq.mpr c2
  clear c2
  obtain rfl := Option.some.inj H
  go_enter Tryz.func128, Tryz.ntmps128
  go_wp2
  go_ret
  exact ⟨_, by first | rfl | (simp [errW_none, errW_some] <;> rfl) | (simp [*, errW_none, errW_some] <;> rfl) | (simp [errW_none, errW_some]; rw [Bool.eq_iff_iff]; simp), TZ, TB⟩
 ·rw [if_neg c2] at H
  have c2b0 : (a0.toList == ([] : List UInt8)) = false := beq_eq_false_iff_ne.mpr c2
  have c2b1 : (a0.toList != ([] : List UInt8)) = true := bne_iff_ne.mpr c2
  obtain ⟨t278, A3, H⟩ := bnd H
  obtain rfl := Option.some.inj H
  go_enter Tryz.func128, Tryz.ntmps128
  go_wp2_with (first | ((with_reducible refine gate_callee (f := 166) rfl ?_); refine goesL_ (some 6) rfl rfl Tryz.func166 KR rfl #[.string a0, .string (⟨#[46]⟩ : ByteArray)] rfl TA ?_; (with_reducible refine (strings_Split.calls k a0 (⟨#[46]⟩ : ByteArray) t278 _ A3.out).mono ?_); rintro e w4 ⟨v279, rfl, ho0, hb⟩; refine ⟨_, rfl, ?_⟩; have HO280 := RL ho0; replace HB := BS hb; (try clear hb); (try clear hb2); (try clear hk); (try clear hi); (try clear ho0)))
  go_ret
  exact ⟨_, by first | rfl | (simp [errW_none, errW_some] <;> rfl) | (simp [*, errW_none, errW_some] <;> rfl) | (simp [errW_none, errW_some]; rw [Bool.eq_iff_iff]; simp), (RW HO280).out, TB⟩
end
section
/-! ### strings_Trim: function 168 -/
def strings_Trim.f (a0 : ByteArray) (a1 : ByteArray) : Option (ByteArray) := if a0.size ≤ 9223372036854775807 ∧ a1.size < 4294967281 ∧ a1.data.toList.all (fun b => decide (b.toNat < 128)) = true then some ⟨(Go.Lib.trimS a0.data.toList a1.data.toList).toArray⟩ else none
theorem strings_Trim.calls (a0 : ByteArray) (a1 : ByteArray) (r : ByteArray) (w : World) (h : strings_Trim.f a0 a1 = some r) :
  Calls Tryz.prog 168 #[.string a0, .string a1] w fun e w' => e = .returned (.string r) ∧ Below w.heap.size w w' := by
 unfold strings_Trim.f at h
 split at h
 ·rename_i h1
  obtain rfl := Option.some.inj h
  exact (Go.Proofs.Any.strings_Trim_laid Go.Proofs.Tryz.lays160 KR a0 a1 w h1.1 h1.2.1 (Go.Proofs.ascii_of_all h1.2.2)).mono fun e w' hh => hh
 ·cases h
end
section
/-! ### impl_isLabel: function 131 -/
def impl_isLabel.f (a0 : ByteArray) : Option (Bool) := if a0.toList = ([42] : List UInt8) then (some true) else ((impl_within.f (a0.size : Int) 1 20).bind fun t281 => (if t281 = true then ((strings_Trim.f a0 (⟨#[97, 98, 99, 100, 101, 102, 103, 104, 105, 106, 107, 108, 109, 110, 111, 112, 113, 114, 115, 116, 117, 118, 119, 120, 121, 122, 48, 49, 50, 51, 52, 53, 54, 55, 56, 57, 45, 95]⟩ : ByteArray)).bind fun t282 => (some (t282.toList == ([] : List UInt8)))) else (some false)))
theorem impl_isLabel.calls (a0 : ByteArray) (r : Bool) (w : World) (h : impl_isLabel.f a0 = some r) :
  Calls Tryz.prog 131 #[.string a0] w fun e w' => e = .returned (.bool r) ∧ Below w.heap.size w w' := by
 have HB := Aside0.mk (Below.refl w.heap.size w)
 have H : (if a0.toList = ([42] : List UInt8) then (some true) else ((impl_within.f (a0.size : Int) 1 20).bind fun t281 => (if t281 = true then ((strings_Trim.f a0 (⟨#[97, 98, 99, 100, 101, 102, 103, 104, 105, 106, 107, 108, 109, 110, 111, 112, 113, 114, 115, 116, 117, 118, 119, 120, 121, 122, 48, 49, 50, 51, 52, 53, 54, 55, 56, 57, 45, 95]⟩ : ByteArray)).bind fun t282 => (some (t282.toList == ([] : List UInt8)))) else (some false)))) = some r := h
 clear h
 by_cases c2 : a0.toList = ([42] : List UInt8)
 ·rw [if_pos c2] at H
  have c2b0 : (a0.toList == ([42] : List UInt8)) = true := beq_iff_eq.mpr c2
  have c2b1 : (a0.toList != ([42] : List UInt8)) = false := bne_eq_false_iff_eq.mpr c2
  clear c2
  obtain rfl := Option.some.inj H
  go_enter Tryz.func131, Tryz.ntmps131
  go_wp2
  go_ret
  exact ⟨by first | rfl | (simp [errW_none, errW_some] <;> rfl) | (simp [*, errW_none, errW_some] <;> rfl) | (simp [errW_none, errW_some]; rw [Bool.eq_iff_iff]; simp), TB⟩
 ·rw [if_neg c2] at H
  have c2b0 : (a0.toList == ([42] : List UInt8)) = false := beq_eq_false_iff_ne.mpr c2
  have c2b1 : (a0.toList != ([42] : List UInt8)) = true := bne_iff_ne.mpr c2
  obtain ⟨t281, A3, H⟩ := bnd H
  by_cases c4 : t281 = true
  ·subst c4
   replace H := ift H
   obtain ⟨t282, A5, H⟩ := bnd H
   obtain rfl := Option.some.inj H
   go_enter Tryz.func131, Tryz.ntmps131
   go_wp2_with (first | ((with_reducible refine gate_callee (f := 86) rfl ?_); refine goesL_ (some 7) rfl rfl Tryz.func86 KR rfl #[.int .i64 (a0.size : Int), .int .i64 1, .int .i64 20] rfl TA ?_; (with_reducible refine (impl_within.calls (a0.size : Int) 1 20 true _ A3.out).mono ?_); rintro e w' ⟨rfl, ⟨nd, rfl⟩⟩; refine ⟨_, rfl, ?_⟩) | (go_at_call 168; (with_reducible refine (strings_Trim.calls a0 (⟨#[97, 98, 99, 100, 101, 102, 103, 104, 105, 106, 107, 108, 109, 110, 111, 112, 113, 114, 115, 116, 117, 118, 119, 120, 121, 122, 48, 49, 50, 51, 52, 53, 54, 55, 56, 57, 45, 95]⟩ : ByteArray) t282 _ A5.out).mono ?_); rintro e w6 ⟨rfl, hb⟩; replace HB := BS hb; (try clear hb); (try clear hb2); (try clear hk); (try clear hi)))
   go_ret
   exact ⟨by first | rfl | (simp [errW_none, errW_some] <;> rfl) | (simp [*, errW_none, errW_some] <;> rfl) | (simp [errW_none, errW_some]; rw [Bool.eq_iff_iff]; simp), TB⟩
  ·replace c4 := Bool.eq_false_iff.mpr c4
   subst c4
   replace H := iff' H
   obtain rfl := Option.some.inj H
   go_enter Tryz.func131, Tryz.ntmps131
   go_wp2_with (first | ((with_reducible refine gate_callee (f := 86) rfl ?_); refine goesL_ (some 7) rfl rfl Tryz.func86 KR rfl #[.int .i64 (a0.size : Int), .int .i64 1, .int .i64 20] rfl TA ?_; (with_reducible refine (impl_within.calls (a0.size : Int) 1 20 false _ A3.out).mono ?_); rintro e w' ⟨rfl, ⟨nd, rfl⟩⟩; refine ⟨_, rfl, ?_⟩))
   go_ret
   exact ⟨by first | rfl | (simp [errW_none, errW_some] <;> rfl) | (simp [*, errW_none, errW_some] <;> rfl) | (simp [errW_none, errW_some]; rw [Bool.eq_iff_iff]; simp), TB⟩
end
section
/-! ### impl_GoodName_1: function 130 -/
def impl_GoodName_1.f (a0 : ByteArray) : Option (Bool) := (impl_isLabel.f a0).bind fun t283 => (some (!t283))
theorem impl_GoodName_1.calls (a0 : ByteArray) (r : Bool) (w : World) (h : impl_GoodName_1.f a0 = some r) :
  Calls Tryz.prog 130 #[.string a0] w fun e w' => e = .returned (.bool r) ∧ Below w.heap.size w w' := by
 have HB := Aside0.mk (Below.refl w.heap.size w)
 have H : ((impl_isLabel.f a0).bind fun t283 => (some (!t283))) = some r := h
 clear h
 obtain ⟨t283, A2, H⟩ := bnd H
 obtain rfl := Option.some.inj H
 go_enter Tryz.func130, Tryz.ntmps130
 go_wp2_with (first | ((with_reducible refine gate_callee (f := 131) rfl ?_); refine goesL_ (some 4) rfl rfl Tryz.func131 KR rfl #[.string a0] rfl TA ?_; (with_reducible refine (impl_isLabel.calls a0 t283 _ A2.out).mono ?_); rintro e w3 ⟨rfl, hb⟩; refine ⟨_, rfl, ?_⟩; replace HB := BS hb; (try clear hb); (try clear hb2); (try clear hk); (try clear hi)))
 go_ret
 exact ⟨TE, TB⟩
end
section
/-! ### slices_IndexFunc_string_string_GoodName_1: function 167 -/
def slices_IndexFunc_string_string_GoodName_1.l0 : Nat → List ByteArray → Int → Int → Option (Int)
 | 0, _, _, _ => none
 | k + 1, x0, x7, x8 => if x8 < x7 then (if 0 ≤ x8 then (if x8 < (x0.length : Int) then ((impl_GoodName_1.f (rdOf ByteArray.empty x0 x8)).bind fun t285 => (if t285 = true then (some x8) else (slices_IndexFunc_string_string_GoodName_1.l0 k x0 x7 (wrap64 (x8 + 1))))) else (none)) else (none)) else (some (-1))
def slices_IndexFunc_string_string_GoodName_1.f (k : Nat) (l0 : List ByteArray)  : Option (Int) := slices_IndexFunc_string_string_GoodName_1.l0 k l0 (l0.length : Int) 0
theorem slices_IndexFunc_string_string_GoodName_1.calls (k : Nat) (A0 : Option Addr) (c0 : Nat) (l0 : List ByteArray)  (r : Int) (w : World) (hr0 : Kd.C Kd.string w A0 l0.length l0) (hc0 : l0.length ≤ c0) (h : slices_IndexFunc_string_string_GoodName_1.f k l0 = some r) :
  Calls Tryz.prog 167 #[.slice A0 l0.length c0, .func (.func 130) #[] #[]] w fun e w' => e = .returned (.int .i64 r) ∧ Below w.heap.size w w' := by
 have HR0 := Aside0.mk hr0
 have HC0 := Aside0.mk hc0
 clear hr0 hc0
 have HB := Aside0.mk (Below.refl w.heap.size w)
 have H : (slices_IndexFunc_string_string_GoodName_1.l0 k l0 (l0.length : Int) 0) = some r := h
 clear h
 have H' := Aside0.mk H
 clear H
 go_enter Tryz.func167, Tryz.ntmps167
 go_wp2
 go_loopg [8] k (fun kq v8 w' => ∃ (x8_1 : Int), v8 = .int .i64 x8_1 ∧ Aside0 (slices_IndexFunc_string_string_GoodName_1.l0 kq l0 (l0.length : Int) x8_1 = some r) ∧ Aside0 (kq ≤ k) ∧ Aside0 (Below w.heap.size w w'))
 case atStart => exact ⟨(0), TF, H', ⟨Nat.le_refl _⟩, ⟨TB⟩⟩
 case round =>
  clear H'
  try clear c1
  try clear p2
  obtain ⟨x8_1, rfl, HA, HK1, HB⟩ := hrel
  cases gk with
  | zero => exact absurd HA.out (by simp [slices_IndexFunc_string_string_GoodName_1.l0])
  | succ k1 =>
   have H := HA.out
   clear HA
   simp only [slices_IndexFunc_string_string_GoodName_1.l0] at H
   by_cases c3 : x8_1 < (l0.length : Int)
   ·rw [if_pos c3] at H
    have c3b0 : decide (x8_1 < (l0.length : Int)) = true := decide_eq_true c3
    clear c3
    obtain ⟨c4, H⟩ := ifn H
    have c4b0 : decide (0 ≤ x8_1) = true := decide_eq_true c4
    clear c4
    obtain ⟨c5, H⟩ := ifn H
    have c5b0 : decide (x8_1 < (l0.length : Int)) = true := decide_eq_true c5
    clear c5
    obtain ⟨t285, A6, H⟩ := bnd H
    by_cases c7 : t285 = true
    ·subst c7
     replace H := ift H
     obtain rfl := Option.some.inj H
     have p284 : 0 ≤ (x8_1 : Int) := TD
     have q284 : x8_1 < (l0.length : Int) := TD
     obtain ⟨ad284, e284, hx284_0⟩ := Kd.at_string (Kd.C_below HR0.out HB.out) x8_1 p284 q284
     cases e284
     replace p284 := eq_true p284
     replace q284 := eq_true q284
     go_wp2_with (first | (go_at_call 130; (with_reducible refine (impl_GoodName_1.calls (rdOf ByteArray.empty l0 x8_1) true _ A6.out).mono ?_); rintro e w8 ⟨rfl, hb⟩; replace HB := BS hb; (try clear hb); (try clear hb2); (try clear hk); (try clear hi)))
     go_ret
     exact ⟨TE, TB⟩
    ·replace c7 := Bool.eq_false_iff.mpr c7
     subst c7
     replace H := iff' H
     have H' := Aside0.mk H
     clear H
     have p284 : 0 ≤ (x8_1 : Int) := TD
     have q284 : x8_1 < (l0.length : Int) := TD
     obtain ⟨ad284, e284, hx284_0⟩ := Kd.at_string (Kd.C_below HR0.out HB.out) x8_1 p284 q284
     cases e284
     replace p284 := eq_true p284
     replace q284 := eq_true q284
     go_wp2_with (first | (go_at_call 130; (with_reducible refine (impl_GoodName_1.calls (rdOf ByteArray.empty l0 x8_1) false _ A6.out).mono ?_); rintro e w9 ⟨rfl, hb⟩; replace HB := BS hb; (try clear hb); (try clear hb2); (try clear hk); (try clear hi)))
     go_roundg k1
     case measure => have := HK1.out; omega
     case rel => exact ⟨(wrap64 (x8_1 + 1)), TF, H', ⟨TM⟩, ⟨TB⟩⟩
   ·rw [if_neg c3] at H
    have c3b0 : decide (x8_1 < (l0.length : Int)) = false := decide_eq_false c3
    clear c3
    obtain rfl := Option.some.inj H
    go_wp2
    go_ret
    exact ⟨TE, TB⟩
end
section
/-! ### slices_ContainsFunc_string_string_GoodName_1: function 129 -/
def slices_ContainsFunc_string_string_GoodName_1.f (k : Nat) (l0 : List ByteArray)  : Option (Bool) := (slices_IndexFunc_string_string_GoodName_1.f k l0).bind fun t286 => (some (decide (t286 ≥ 0)))
theorem slices_ContainsFunc_string_string_GoodName_1.calls (k : Nat) (A0 : Option Addr) (c0 : Nat) (l0 : List ByteArray)  (r : Bool) (w : World) (hr0 : Kd.C Kd.string w A0 l0.length l0) (hc0 : l0.length ≤ c0) (h : slices_ContainsFunc_string_string_GoodName_1.f k l0 = some r) :
  Calls Tryz.prog 129 #[.slice A0 l0.length c0, .func (.func 130) #[] #[]] w fun e w' => e = .returned (.bool r) ∧ Below w.heap.size w w' := by
 have HR0 := Aside0.mk hr0
 have HC0 := Aside0.mk hc0
 clear hr0 hc0
 have HB := Aside0.mk (Below.refl w.heap.size w)
 have H : ((slices_IndexFunc_string_string_GoodName_1.f k l0).bind fun t286 => (some (decide (t286 ≥ 0)))) = some r := h
 clear h
 obtain ⟨t286, A3, H⟩ := bnd H
 obtain rfl := Option.some.inj H
 go_enter Tryz.func129, Tryz.ntmps129
 go_wp2_with (first | ((with_reducible refine gate_callee (f := 167) rfl ?_); refine goesL_ (some 7) rfl rfl Tryz.func167 KR rfl #[.slice A0 l0.length c0, .func (.func 130) #[] #[]] rfl TA ?_; (with_reducible refine (slices_IndexFunc_string_string_GoodName_1.calls k _ _ l0  t286 _ ?side1 ?side2 A3.out).mono ?_); (case side1 => exact CW (HR0.out)); (case side2 => exact HC0.out); rintro e w4 ⟨rfl, hb⟩; refine ⟨_, rfl, ?_⟩; replace HB := BS hb; (try clear hb); (try clear hb2); (try clear hk); (try clear hi)))
 go_ret
 exact ⟨TE, TB⟩
end
end Go.Proofs.YthohohfmdieohaaGreatDoor.Pp
