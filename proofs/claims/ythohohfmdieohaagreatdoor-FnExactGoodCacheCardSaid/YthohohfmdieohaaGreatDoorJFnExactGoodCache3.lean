/- The functions that the law reaches, one Lean function and its proof for each; written by wip/pp of this workplace, joined by claimit.py. -/
import Derived.Test.YthohohfmdieohaaGreatDoorProg
import Derived.Below
import Derived.Deep.Draws
import Derived.Deep.AppendLies
import Derived.Maps.AppendAt
import Derived.OwnWalk
import Derived.Laws.BytesArg
import Derived.Laws.MakeOwn
import Derived.Laws.OwnMore
import Derived.Deep.OwnRows
import Derived.Tactics
import Derived.Lib.ConvBytes
import Derived.Laws.Slices
import Derived.WalkKit
import Derived.KernelRfl
import Derived.RowKit3
import Derived.Deep.LoopGhost
import Derived.Deep.QuietTactic
import Derived.BigQuiet
import Derived.WideLaws
import Derived.Deep.DeepCutAuto
import Derived.Deep.CutBlock
import Derived.Deep.RegionHeld3
import Derived.Laws.Rows
import Derived.Lib.AppendStr
import Derived.ArgAppend
import Derived.Laws.IdiomCopy
import Derived.OrdersHeld
import Derived.Laws.BitsLemmas
import Derived.RowKit
import Derived.Test.YthohohfmdieohaaGreatDoorKFnExactGoodCacheW
import Derived.Test.YthohohfmdieohaaGreatDoorJFnExactGoodCache0
import Derived.Test.YthohohfmdieohaaGreatDoorJFnExactGoodCache1
import Derived.Test.YthohohfmdieohaaGreatDoorJFnExactGoodCache2
namespace Go.Proofs.YthohohfmdieohaaGreatDoor.Pp
open Go.RowKit Go.Proofs.YthohohfmdieohaaGreatDoorW.PrintWords Go.Proofs.YthohohfmdieohaaGreatDoorW.PrintLast Go.Proofs.YthohohfmdieohaaGreatDoorW.PrintMore
attribute [local go_sem] max2_int min2_int max_two min_two max_three min_three max_four min_four   -- for this text's walks alone
set_option linter.unusedVariables false
set_option linter.unusedSimpArgs false
set_option maxHeartbeats 8000000
set_option maxRecDepth 100000

section
/-! ### laws_eqRecord: function 124 -/
def laws_eqRecord.f (a0_0 : ByteArray) (a0_1 : Int) (a0_2 : Int) (a0_3 : ByteArray) (a1_0 : ByteArray) (a1_1 : Int) (a1_2 : Int) (a1_3 : ByteArray) : Option (Bool) := if a0_0.toList = a1_0.toList then (if a0_1 = a1_1 then (if a0_2 = a1_2 then (if a0_3.toList = a1_3.toList then (some true) else (some false)) else (some false)) else (some false)) else (some false)
theorem laws_eqRecord.calls (a0_0 : ByteArray) (a0_1 : Int) (a0_2 : Int) (a0_3 : ByteArray) (a1_0 : ByteArray) (a1_1 : Int) (a1_2 : Int) (a1_3 : ByteArray) (r : Bool) (w : World) (h : laws_eqRecord.f a0_0 a0_1 a0_2 a0_3 a1_0 a1_1 a1_2 a1_3 = some r) :
  Calls Tryz.prog 124 #[.agg #[.string a0_0, .int .i64 a0_1, .int .i64 a0_2, .string a0_3], .agg #[.string a1_0, .int .i64 a1_1, .int .i64 a1_2, .string a1_3]] w fun e w' => e = .returned (.bool r) ∧ Below w.heap.size w w' := by
 have hu93 := Tryz.underlying93
 have HB := Aside0.mk (Below.refl w.heap.size w)
 have H : (if a0_0.toList = a1_0.toList then (if a0_1 = a1_1 then (if a0_2 = a1_2 then (if a0_3.toList = a1_3.toList then (some true) else (some false)) else (some false)) else (some false)) else (some false)) = some r := h
 clear h
 by_cases c3 : a0_0.toList = a1_0.toList
 ·rw [if_pos c3] at H
  have c3b0 : (a0_0.toList == a1_0.toList) = true := beq_iff_eq.mpr c3
  have c3b1 : (a0_0.toList != a1_0.toList) = false := bne_eq_false_iff_eq.mpr c3
  clear c3
  by_cases c4 : a0_1 = a1_1
  ·rw [if_pos c4] at H
   have c4b0 : (a0_1 == a1_1) = true := beq_iff_eq.mpr c4
   have c4b1 : (a0_1 != a1_1) = false := bne_eq_false_iff_eq.mpr c4
   clear c4
   by_cases c5 : a0_2 = a1_2
   ·rw [if_pos c5] at H
    have c5b0 : (a0_2 == a1_2) = true := beq_iff_eq.mpr c5
    have c5b1 : (a0_2 != a1_2) = false := bne_eq_false_iff_eq.mpr c5
    clear c5
    by_cases c6 : a0_3.toList = a1_3.toList
    ·rw [if_pos c6] at H
     have c6b0 : (a0_3.toList == a1_3.toList) = true := beq_iff_eq.mpr c6
     have c6b1 : (a0_3.toList != a1_3.toList) = false := bne_eq_false_iff_eq.mpr c6
     clear c6
     obtain rfl := Option.some.inj H
     go_enter Tryz.func124, Tryz.ntmps124
     go_wp2_with (first | ((with_reducible refine gate_dst (N := 2) rfl ?_); refine bE 2 #[.string a0_0, .int .i64 a0_1, .int .i64 a0_2, .string a0_3] 93 ?_; intro gb433 hg w7 hbox hb; have BK433 := Aside0.mk (hbox); have GE433 := bG hg; replace HB := BS hb; clear hb hbox hg) | ((with_reducible refine gate_dst (N := 3) rfl ?_); refine bE 3 #[.string a1_0, .int .i64 a1_1, .int .i64 a1_2, .string a1_3] 93 ?_; intro gb434 hg w8 hbox hb; have BK434 := Aside0.mk (hbox); have GE434 := bG hg; replace HB := BS hb; have NB433_434 := bN BK433 hg; have NB434_433 := bM BK433 hg; replace BK433 := KB BK433 hb; clear hb hbox hg; have hnb9 := NB433_434.out; have hnc9 := NB434_433.out; have hcz10 := cz4 BK433; have hcz11 := cz4 BK434))
     go_ret
     exact ⟨TE, TB⟩
    ·rw [if_neg c6] at H
     have c6b0 : (a0_3.toList == a1_3.toList) = false := beq_eq_false_iff_ne.mpr c6
     have c6b1 : (a0_3.toList != a1_3.toList) = true := bne_iff_ne.mpr c6
     obtain rfl := Option.some.inj H
     go_enter Tryz.func124, Tryz.ntmps124
     go_wp2_with (first | ((with_reducible refine gate_dst (N := 2) rfl ?_); refine bE 2 #[.string a0_0, .int .i64 a0_1, .int .i64 a0_2, .string a0_3] 93 ?_; intro gb433 hg w12 hbox hb; have BK433 := Aside0.mk (hbox); have GE433 := bG hg; replace HB := BS hb; clear hb hbox hg) | ((with_reducible refine gate_dst (N := 3) rfl ?_); refine bE 3 #[.string a1_0, .int .i64 a1_1, .int .i64 a1_2, .string a1_3] 93 ?_; intro gb434 hg w13 hbox hb; have BK434 := Aside0.mk (hbox); have GE434 := bG hg; replace HB := BS hb; have NB433_434 := bN BK433 hg; have NB434_433 := bM BK433 hg; replace BK433 := KB BK433 hb; clear hb hbox hg; have hnb14 := NB433_434.out; have hnc14 := NB434_433.out; have hcz15 := cz4 BK433; have hcz16 := cz4 BK434))
     go_ret
     exact ⟨TE, TB⟩
   ·rw [if_neg c5] at H
    have c5b0 : (a0_2 == a1_2) = false := beq_eq_false_iff_ne.mpr c5
    have c5b1 : (a0_2 != a1_2) = true := bne_iff_ne.mpr c5
    obtain rfl := Option.some.inj H
    go_enter Tryz.func124, Tryz.ntmps124
    go_wp2_with (first | ((with_reducible refine gate_dst (N := 2) rfl ?_); refine bE 2 #[.string a0_0, .int .i64 a0_1, .int .i64 a0_2, .string a0_3] 93 ?_; intro gb433 hg w17 hbox hb; have BK433 := Aside0.mk (hbox); have GE433 := bG hg; replace HB := BS hb; clear hb hbox hg) | ((with_reducible refine gate_dst (N := 3) rfl ?_); refine bE 3 #[.string a1_0, .int .i64 a1_1, .int .i64 a1_2, .string a1_3] 93 ?_; intro gb434 hg w18 hbox hb; have BK434 := Aside0.mk (hbox); have GE434 := bG hg; replace HB := BS hb; have NB433_434 := bN BK433 hg; have NB434_433 := bM BK433 hg; replace BK433 := KB BK433 hb; clear hb hbox hg; have hnb19 := NB433_434.out; have hnc19 := NB434_433.out; have hcz20 := cz4 BK433; have hcz21 := cz4 BK434))
    go_ret
    exact ⟨TE, TB⟩
  ·rw [if_neg c4] at H
   have c4b0 : (a0_1 == a1_1) = false := beq_eq_false_iff_ne.mpr c4
   have c4b1 : (a0_1 != a1_1) = true := bne_iff_ne.mpr c4
   obtain rfl := Option.some.inj H
   go_enter Tryz.func124, Tryz.ntmps124
   go_wp2_with (first | ((with_reducible refine gate_dst (N := 2) rfl ?_); refine bE 2 #[.string a0_0, .int .i64 a0_1, .int .i64 a0_2, .string a0_3] 93 ?_; intro gb433 hg w22 hbox hb; have BK433 := Aside0.mk (hbox); have GE433 := bG hg; replace HB := BS hb; clear hb hbox hg) | ((with_reducible refine gate_dst (N := 3) rfl ?_); refine bE 3 #[.string a1_0, .int .i64 a1_1, .int .i64 a1_2, .string a1_3] 93 ?_; intro gb434 hg w23 hbox hb; have BK434 := Aside0.mk (hbox); have GE434 := bG hg; replace HB := BS hb; have NB433_434 := bN BK433 hg; have NB434_433 := bM BK433 hg; replace BK433 := KB BK433 hb; clear hb hbox hg; have hnb24 := NB433_434.out; have hnc24 := NB434_433.out; have hcz25 := cz4 BK433; have hcz26 := cz4 BK434))
   go_ret
   exact ⟨TE, TB⟩
 ·rw [if_neg c3] at H
  have c3b0 : (a0_0.toList == a1_0.toList) = false := beq_eq_false_iff_ne.mpr c3
  have c3b1 : (a0_0.toList != a1_0.toList) = true := bne_iff_ne.mpr c3
  obtain rfl := Option.some.inj H
  go_enter Tryz.func124, Tryz.ntmps124
  go_wp2_with (first | ((with_reducible refine gate_dst (N := 2) rfl ?_); refine bE 2 #[.string a0_0, .int .i64 a0_1, .int .i64 a0_2, .string a0_3] 93 ?_; intro gb433 hg w27 hbox hb; have BK433 := Aside0.mk (hbox); have GE433 := bG hg; replace HB := BS hb; clear hb hbox hg) | ((with_reducible refine gate_dst (N := 3) rfl ?_); refine bE 3 #[.string a1_0, .int .i64 a1_1, .int .i64 a1_2, .string a1_3] 93 ?_; intro gb434 hg w28 hbox hb; have BK434 := Aside0.mk (hbox); have GE434 := bG hg; replace HB := BS hb; have NB433_434 := bN BK433 hg; have NB434_433 := bM BK433 hg; replace BK433 := KB BK433 hb; clear hb hbox hg; have hnb29 := NB433_434.out; have hnc29 := NB434_433.out; have hcz30 := cz4 BK433; have hcz31 := cz4 BK434))
  go_ret
  exact ⟨TE, TB⟩
end
section
/-! ### laws_eqRecordS: function 69 -/
def laws_eqRecordS.l0 : Nat → List (S_Record) → List (S_Record) → Int → Option (Bool)
 | 0, _, _, _ => none
 | k + 1, x0, x1, x5 => if x5 < (x0.length : Int) then (if 0 ≤ x5 then (if x5 < (x1.length : Int) then ((laws_eqRecord.f ((rd_TRecord x0 x5).f0) ((rd_TRecord x0 x5).f1) ((rd_TRecord x0 x5).f2) ((rd_TRecord x0 x5).f3) ((rd_TRecord x1 x5).f0) ((rd_TRecord x1 x5).f1) ((rd_TRecord x1 x5).f2) ((rd_TRecord x1 x5).f3)).bind fun t437 => (if t437 = true then (laws_eqRecordS.l0 k x0 x1 (wrap64 (x5 + 1))) else (some false))) else (none)) else (none)) else (some true)
def laws_eqRecordS.f (k : Nat) (l0 : List (S_Record)) (l1 : List (S_Record)) : Option (Bool) := if (l0.length : Int) = (l1.length : Int) then (laws_eqRecordS.l0 k l0 l1 0) else (some false)
def laws_eqRecordS.T6 : Bool × List (List Nat × List Nat) := (true, [([], []), ([], []), ([0, 1], [0, 1]), ([2], [2]), ([], []), ([], []), ([4, 5], [4, 5]), ([6], [6]), ([3, 7], [3, 7]), ([8], [8])])
def laws_eqRecordS.B6 : List Nat := [0, 0, 3, 7, 0, 0, 48, 112, 255, 511]
theorem laws_eqRecordS.tab6 : rtab .any (opsOf Tryz.f69 6) = laws_eqRecordS.T6 := by kernel_rfl
theorem laws_eqRecordS.bits6 : waitsOk laws_eqRecordS.T6.2 laws_eqRecordS.B6 = true := by kernel_rfl
theorem laws_eqRecordS.calls (k : Nat) (A0 : Option Addr) (c0 : Nat) (l0 : List (S_Record)) (A1 : Option Addr) (c1 : Nat) (l1 : List (S_Record)) (r : Bool) (w : World) (hr0 : Kd.C k_Record w A0 l0.length l0) (hc0 : l0.length ≤ c0) (hr1 : Kd.C k_Record w A1 l1.length l1) (hc1 : l1.length ≤ c1) (h : laws_eqRecordS.f k l0 l1 = some r) :
  Calls Tryz.prog 69 #[.slice A0 l0.length c0, .slice A1 l1.length c1] w fun e w' => e = .returned (.bool r) ∧ Below w.heap.size w w' := by
 have hu93 := Tryz.underlying93
 have HR0 := Aside0.mk hr0
 have HC0 := Aside0.mk hc0
 clear hr0 hc0
 have HR1 := Aside0.mk hr1
 have HC1 := Aside0.mk hc1
 clear hr1 hc1
 have HB := Aside0.mk (Below.refl w.heap.size w)
 have H : (if (l0.length : Int) = (l1.length : Int) then (laws_eqRecordS.l0 k l0 l1 0) else (some false)) = some r := h
 clear h
 by_cases c3 : (l0.length : Int) = (l1.length : Int)
 ·rw [if_pos c3] at H
  have c3b0 : ((l0.length : Int) == (l1.length : Int)) = true := beq_iff_eq.mpr c3
  have c3b1 : ((l0.length : Int) != (l1.length : Int)) = false := bne_eq_false_iff_eq.mpr c3
  have c3b2 : (l0.length == l1.length) = true := by first | simpa using c3 | (simp at c3 ⊢; omega)
  clear c3
  have H' := Aside0.mk H
  clear H
  go_enter Tryz.func69, Tryz.ntmps69
  go_wp2
  go_loopg [5] k (fun kq v5 w' => ∃ (x5_1 : Int), v5 = .int .i64 x5_1 ∧ Aside0 (laws_eqRecordS.l0 kq l0 l1 x5_1 = some r) ∧ Aside0 (kq ≤ k) ∧ Aside0 (Below w.heap.size w w'))
  case atStart => exact ⟨(0), TF, H', ⟨Nat.le_refl _⟩, ⟨TB⟩⟩
  case round =>
   clear H'
   try clear c1
   try clear p2
   try clear c3
   try clear c3b0
   try clear c3b1
   try clear c3b2
   obtain ⟨x5_1, rfl, HA, HK1, HB⟩ := hrel
   cases gk with
   | zero => exact absurd HA.out (by simp [laws_eqRecordS.l0])
   | succ k1 =>
    have H := HA.out
    clear HA
    simp only [laws_eqRecordS.l0] at H
    by_cases c4 : x5_1 < (l0.length : Int)
    ·rw [if_pos c4] at H
     have c4b0 : decide (x5_1 < (l0.length : Int)) = true := decide_eq_true c4
     clear c4
     obtain ⟨c5, H⟩ := ifn H
     have c5b0 : decide (0 ≤ x5_1) = true := decide_eq_true c5
     clear c5
     obtain ⟨c6, H⟩ := ifn H
     have c6b0 : decide (x5_1 < (l1.length : Int)) = true := decide_eq_true c6
     clear c6
     obtain ⟨t437, A7, H⟩ := bnd H
     by_cases c8 : t437 = true
     ·subst c8
      replace H := ift H
      have H' := Aside0.mk H
      clear H
      try go_wp2
      replace HB := Aside0.mk (below_drew1 HB.out)
      have p435 : 0 ≤ (x5_1 : Int) := TD
      have q435 : x5_1 < (l0.length : Int) := TD
      obtain ⟨ad435, e435, hx435_0, hx435_1, hx435_2, hx435_3⟩ := at_TRecord HR0.out x5_1 p435 q435
      have hw435_3 := hx435_3
      have hw435_2 := hx435_2
      have hw435_1 := hx435_1
      have hw435_0 := hx435_0
      cases e435
      replace hx435_0 := hBc HB hx435_0
      replace hx435_1 := hBc HB hx435_1
      replace hx435_2 := hBc HB hx435_2
      replace hx435_3 := hBc HB hx435_3
      replace p435 := eq_true p435
      replace q435 := eq_true q435
      have p436 : 0 ≤ (x5_1 : Int) := TD
      have q436 : x5_1 < (l1.length : Int) := TD
      obtain ⟨ad436, e436, hx436_0, hx436_1, hx436_2, hx436_3⟩ := at_TRecord HR1.out x5_1 p436 q436
      have hw436_3 := hx436_3
      have hw436_2 := hx436_2
      have hw436_1 := hx436_1
      have hw436_0 := hx436_0
      cases e436
      replace hx436_0 := hBc HB hx436_0
      replace hx436_1 := hBc HB hx436_1
      replace hx436_2 := hBc HB hx436_2
      replace hx436_3 := hBc HB hx436_3
      replace p436 := eq_true p436
      replace q436 := eq_true q436
      refine start_ (n := 10) (S := fun w' => w'.cell? (ad435.add ((x5_1).toNat * 4)) = some (.string ((rd_TRecord l0 x5_1).f0)) ∧ w'.cell? ⟨(ad435.add ((x5_1).toNat * 4)).block, (ad435.add ((x5_1).toNat * 4)).off + 1, none⟩ = some (.int .i64 ((rd_TRecord l0 x5_1).f1)) ∧ w'.cell? ⟨(ad435.add ((x5_1).toNat * 4)).block, (ad435.add ((x5_1).toNat * 4)).off + 2, none⟩ = some (.int .i64 ((rd_TRecord l0 x5_1).f2)) ∧ w'.cell? ⟨(ad435.add ((x5_1).toNat * 4)).block, (ad435.add ((x5_1).toNat * 4)).off + 3, none⟩ = some (.string ((rd_TRecord l0 x5_1).f3)) ∧ w'.cell? (ad436.add ((x5_1).toNat * 4)) = some (.string ((rd_TRecord l1 x5_1).f0)) ∧ w'.cell? ⟨(ad436.add ((x5_1).toNat * 4)).block, (ad436.add ((x5_1).toNat * 4)).off + 1, none⟩ = some (.int .i64 ((rd_TRecord l1 x5_1).f1)) ∧ w'.cell? ⟨(ad436.add ((x5_1).toNat * 4)).block, (ad436.add ((x5_1).toNat * 4)).off + 2, none⟩ = some (.int .i64 ((rd_TRecord l1 x5_1).f2)) ∧ w'.cell? ⟨(ad436.add ((x5_1).toNat * 4)).block, (ad436.add ((x5_1).toNat * 4)).off + 3, none⟩ = some (.string ((rd_TRecord l1 x5_1).f3))) (ds := []) #[false, false, false, false, false, false, false, false, false, false] KR rfl rfl ⟨((HB.out.cell (World.block_lt_of_cell? w _ hw435_0)).trans hw435_0), ((HB.out.cell (World.block_lt_of_cell? w _ hw435_1)).trans hw435_1), ((HB.out.cell (World.block_lt_of_cell? w _ hw435_2)).trans hw435_2), ((HB.out.cell (World.block_lt_of_cell? w _ hw435_3)).trans hw435_3), ((HB.out.cell (World.block_lt_of_cell? w _ hw436_0)).trans hw436_0), ((HB.out.cell (World.block_lt_of_cell? w _ hw436_1)).trans hw436_1), ((HB.out.cell (World.block_lt_of_cell? w _ hw436_2)).trans hw436_2), ((HB.out.cell (World.block_lt_of_cell? w _ hw436_3)).trans hw436_3)⟩ (fun hHeld => ?_); refine with_tabW laws_eqRecordS.tab6 laws_eqRecordS.bits6 (fun HT_ HW_ => ?_)
      generalize wr.drew = w9 at HB hx435_0 hx435_1 hx435_2 hx435_3 hx436_0 hx436_1 hx436_2 hx436_3 hHeld ⊢
      refine pA 0 17 (mL 10 1) HT_ rfl rfl ?_
      refine pA 1 18 (mL 10 3) HT_ rfl rfl ?_
      refine pA 2 19 (mL 10 7) HT_ rfl rfl ?_
      refine pA 4 21 (mL 10 23) HT_ rfl rfl ?_
      refine pA 5 22 (mL 10 55) HT_ rfl rfl ?_
      refine pA 6 23 (mL 10 119) HT_ rfl rfl ?_
      refine tA 3 20 (mL 10 127) HT_ HW_ hHeld rfl rfl (by rintro w' ⟨s0, s1, s2, s3, s4, s5, s6, s7⟩; go_simp; with_reducible rfl) ?_
      refine tA 7 24 (mL 10 255) HT_ HW_ hHeld rfl rfl (by rintro w' ⟨s0, s1, s2, s3, s4, s5, s6, s7⟩; go_simp; with_reducible rfl) ?_
      refine one_ (i := 8) (N := some 25) (mL 10 511) rfl rfl (one_of HT_.out KR) (by decide) (fun K hK => ?_)
      refine goes_ Tryz.func124 KR rfl #[.agg #[.string ((rd_TRecord l0 x5_1).f0), .int .i64 ((rd_TRecord l0 x5_1).f1), .int .i64 ((rd_TRecord l0 x5_1).f2), .string ((rd_TRecord l0 x5_1).f3)], .agg #[.string ((rd_TRecord l1 x5_1).f0), .int .i64 ((rd_TRecord l1 x5_1).f1), .int .i64 ((rd_TRecord l1 x5_1).f2), .string ((rd_TRecord l1 x5_1).f3)]] (by rfl) rfl rfl TA ?_
      with_reducible refine (laws_eqRecord.calls ((rd_TRecord l0 x5_1).f0) ((rd_TRecord l0 x5_1).f1) ((rd_TRecord l0 x5_1).f2) ((rd_TRecord l0 x5_1).f3) ((rd_TRecord l1 x5_1).f0) ((rd_TRecord l1 x5_1).f1) ((rd_TRecord l1 x5_1).f2) ((rd_TRecord l1 x5_1).f3) true _ A7.out).mono ?_
      rintro e w10 ⟨rfl, hb⟩
      refine ⟨_, rfl, ?_⟩
      replace HB := BS hb
      (try clear hb)
      (try clear hb2)
      (try clear hk)
      (try clear hi)
      refine hK.out _ _ ⟨((HB.out.cell (World.block_lt_of_cell? w _ hw435_0)).trans hw435_0), ((HB.out.cell (World.block_lt_of_cell? w _ hw435_1)).trans hw435_1), ((HB.out.cell (World.block_lt_of_cell? w _ hw435_2)).trans hw435_2), ((HB.out.cell (World.block_lt_of_cell? w _ hw435_3)).trans hw435_3), ((HB.out.cell (World.block_lt_of_cell? w _ hw436_0)).trans hw436_0), ((HB.out.cell (World.block_lt_of_cell? w _ hw436_1)).trans hw436_1), ((HB.out.cell (World.block_lt_of_cell? w _ hw436_2)).trans hw436_2), ((HB.out.cell (World.block_lt_of_cell? w _ hw436_3)).trans hw436_3)⟩ (fun hHeld => ?_)
      clear hK K
      refine nA ?_
      refine pA 9 26 (mL 10 1023) HT_ rfl rfl ?_
      refine done_ (done_of HT_.out KR) ?_
      try go_wp2
      go_roundg k1
      case measure => have := HK1.out; omega
      case rel => exact ⟨(wrap64 (x5_1 + 1)), TF, H', ⟨TM⟩, ⟨TB⟩⟩
     ·replace c8 := Bool.eq_false_iff.mpr c8
      subst c8
      replace H := iff' H
      obtain rfl := Option.some.inj H
      try go_wp2
      replace HB := Aside0.mk (below_drew1 HB.out)
      have p435 : 0 ≤ (x5_1 : Int) := TD
      have q435 : x5_1 < (l0.length : Int) := TD
      obtain ⟨ad435, e435, hx435_0, hx435_1, hx435_2, hx435_3⟩ := at_TRecord HR0.out x5_1 p435 q435
      have hw435_3 := hx435_3
      have hw435_2 := hx435_2
      have hw435_1 := hx435_1
      have hw435_0 := hx435_0
      cases e435
      replace hx435_0 := hBc HB hx435_0
      replace hx435_1 := hBc HB hx435_1
      replace hx435_2 := hBc HB hx435_2
      replace hx435_3 := hBc HB hx435_3
      replace p435 := eq_true p435
      replace q435 := eq_true q435
      have p436 : 0 ≤ (x5_1 : Int) := TD
      have q436 : x5_1 < (l1.length : Int) := TD
      obtain ⟨ad436, e436, hx436_0, hx436_1, hx436_2, hx436_3⟩ := at_TRecord HR1.out x5_1 p436 q436
      have hw436_3 := hx436_3
      have hw436_2 := hx436_2
      have hw436_1 := hx436_1
      have hw436_0 := hx436_0
      cases e436
      replace hx436_0 := hBc HB hx436_0
      replace hx436_1 := hBc HB hx436_1
      replace hx436_2 := hBc HB hx436_2
      replace hx436_3 := hBc HB hx436_3
      replace p436 := eq_true p436
      replace q436 := eq_true q436
      refine start_ (n := 10) (S := fun w' => w'.cell? (ad435.add ((x5_1).toNat * 4)) = some (.string ((rd_TRecord l0 x5_1).f0)) ∧ w'.cell? ⟨(ad435.add ((x5_1).toNat * 4)).block, (ad435.add ((x5_1).toNat * 4)).off + 1, none⟩ = some (.int .i64 ((rd_TRecord l0 x5_1).f1)) ∧ w'.cell? ⟨(ad435.add ((x5_1).toNat * 4)).block, (ad435.add ((x5_1).toNat * 4)).off + 2, none⟩ = some (.int .i64 ((rd_TRecord l0 x5_1).f2)) ∧ w'.cell? ⟨(ad435.add ((x5_1).toNat * 4)).block, (ad435.add ((x5_1).toNat * 4)).off + 3, none⟩ = some (.string ((rd_TRecord l0 x5_1).f3)) ∧ w'.cell? (ad436.add ((x5_1).toNat * 4)) = some (.string ((rd_TRecord l1 x5_1).f0)) ∧ w'.cell? ⟨(ad436.add ((x5_1).toNat * 4)).block, (ad436.add ((x5_1).toNat * 4)).off + 1, none⟩ = some (.int .i64 ((rd_TRecord l1 x5_1).f1)) ∧ w'.cell? ⟨(ad436.add ((x5_1).toNat * 4)).block, (ad436.add ((x5_1).toNat * 4)).off + 2, none⟩ = some (.int .i64 ((rd_TRecord l1 x5_1).f2)) ∧ w'.cell? ⟨(ad436.add ((x5_1).toNat * 4)).block, (ad436.add ((x5_1).toNat * 4)).off + 3, none⟩ = some (.string ((rd_TRecord l1 x5_1).f3))) (ds := []) #[false, false, false, false, false, false, false, false, false, false] KR rfl rfl ⟨((HB.out.cell (World.block_lt_of_cell? w _ hw435_0)).trans hw435_0), ((HB.out.cell (World.block_lt_of_cell? w _ hw435_1)).trans hw435_1), ((HB.out.cell (World.block_lt_of_cell? w _ hw435_2)).trans hw435_2), ((HB.out.cell (World.block_lt_of_cell? w _ hw435_3)).trans hw435_3), ((HB.out.cell (World.block_lt_of_cell? w _ hw436_0)).trans hw436_0), ((HB.out.cell (World.block_lt_of_cell? w _ hw436_1)).trans hw436_1), ((HB.out.cell (World.block_lt_of_cell? w _ hw436_2)).trans hw436_2), ((HB.out.cell (World.block_lt_of_cell? w _ hw436_3)).trans hw436_3)⟩ (fun hHeld => ?_); refine with_tabW laws_eqRecordS.tab6 laws_eqRecordS.bits6 (fun HT_ HW_ => ?_)
      generalize wr.drew = w11 at HB hx435_0 hx435_1 hx435_2 hx435_3 hx436_0 hx436_1 hx436_2 hx436_3 hHeld ⊢
      refine pA 0 17 (mL 10 1) HT_ rfl rfl ?_
      refine pA 1 18 (mL 10 3) HT_ rfl rfl ?_
      refine pA 2 19 (mL 10 7) HT_ rfl rfl ?_
      refine pA 4 21 (mL 10 23) HT_ rfl rfl ?_
      refine pA 5 22 (mL 10 55) HT_ rfl rfl ?_
      refine pA 6 23 (mL 10 119) HT_ rfl rfl ?_
      refine tA 3 20 (mL 10 127) HT_ HW_ hHeld rfl rfl (by rintro w' ⟨s0, s1, s2, s3, s4, s5, s6, s7⟩; go_simp; with_reducible rfl) ?_
      refine tA 7 24 (mL 10 255) HT_ HW_ hHeld rfl rfl (by rintro w' ⟨s0, s1, s2, s3, s4, s5, s6, s7⟩; go_simp; with_reducible rfl) ?_
      refine one_ (i := 8) (N := some 25) (mL 10 511) rfl rfl (one_of HT_.out KR) (by decide) (fun K hK => ?_)
      refine goes_ Tryz.func124 KR rfl #[.agg #[.string ((rd_TRecord l0 x5_1).f0), .int .i64 ((rd_TRecord l0 x5_1).f1), .int .i64 ((rd_TRecord l0 x5_1).f2), .string ((rd_TRecord l0 x5_1).f3)], .agg #[.string ((rd_TRecord l1 x5_1).f0), .int .i64 ((rd_TRecord l1 x5_1).f1), .int .i64 ((rd_TRecord l1 x5_1).f2), .string ((rd_TRecord l1 x5_1).f3)]] (by rfl) rfl rfl TA ?_
      with_reducible refine (laws_eqRecord.calls ((rd_TRecord l0 x5_1).f0) ((rd_TRecord l0 x5_1).f1) ((rd_TRecord l0 x5_1).f2) ((rd_TRecord l0 x5_1).f3) ((rd_TRecord l1 x5_1).f0) ((rd_TRecord l1 x5_1).f1) ((rd_TRecord l1 x5_1).f2) ((rd_TRecord l1 x5_1).f3) false _ A7.out).mono ?_
      rintro e w12 ⟨rfl, hb⟩
      refine ⟨_, rfl, ?_⟩
      replace HB := BS hb
      (try clear hb)
      (try clear hb2)
      (try clear hk)
      (try clear hi)
      refine hK.out _ _ ⟨((HB.out.cell (World.block_lt_of_cell? w _ hw435_0)).trans hw435_0), ((HB.out.cell (World.block_lt_of_cell? w _ hw435_1)).trans hw435_1), ((HB.out.cell (World.block_lt_of_cell? w _ hw435_2)).trans hw435_2), ((HB.out.cell (World.block_lt_of_cell? w _ hw435_3)).trans hw435_3), ((HB.out.cell (World.block_lt_of_cell? w _ hw436_0)).trans hw436_0), ((HB.out.cell (World.block_lt_of_cell? w _ hw436_1)).trans hw436_1), ((HB.out.cell (World.block_lt_of_cell? w _ hw436_2)).trans hw436_2), ((HB.out.cell (World.block_lt_of_cell? w _ hw436_3)).trans hw436_3)⟩ (fun hHeld => ?_)
      clear hK K
      refine nA ?_
      refine pA 9 26 (mL 10 1023) HT_ rfl rfl ?_
      refine done_ (done_of HT_.out KR) ?_
      try go_wp2
      go_ret
      exact ⟨TE, TB⟩
    ·rw [if_neg c4] at H
     have c4b0 : decide (x5_1 < (l0.length : Int)) = false := decide_eq_false c4
     clear c4
     obtain rfl := Option.some.inj H
     go_wp2
     go_ret
     exact ⟨TE, TB⟩
 ·rw [if_neg c3] at H
  have c3b0 : ((l0.length : Int) == (l1.length : Int)) = false := beq_eq_false_iff_ne.mpr c3
  have c3b1 : ((l0.length : Int) != (l1.length : Int)) = true := bne_iff_ne.mpr c3
  have c3b2 : (l0.length == l1.length) = false := by first | simpa using c3 | (simp at c3 ⊢; omega)
  obtain rfl := Option.some.inj H
  go_enter Tryz.func69, Tryz.ntmps69
  go_wp2
  go_ret
  exact ⟨TE, TB⟩
end
section
/-! ### laws_eqEntry: function 140 -/
def laws_eqEntry.f (k : Nat) (a0_0 : ByteArray) (a0_1 : Int) (a0_2 : Bool) (l0_3 : List (S_Record)) (a0_4 : Int) (a0_5 : Int) (a1_0 : ByteArray) (a1_1 : Int) (a1_2 : Bool) (l1_3 : List (S_Record)) (a1_4 : Int) (a1_5 : Int) : Option (Bool) := if a0_0.toList = a1_0.toList then (if a0_1 = a1_1 then (if (a0_2 != a1_2) = true then (some false) else ((laws_eqRecordS.f k l0_3 l1_3).bind fun t1027 => (if t1027 = true then (if a0_4 = a1_4 then (if a0_5 = a1_5 then (some true) else (some false)) else (some false)) else (some false)))) else (some false)) else (some false)
theorem laws_eqEntry.calls (k : Nat) (a0_0 : ByteArray) (a0_1 : Int) (a0_2 : Bool) (A0_3 : Option Addr) (c0_3 : Nat) (l0_3 : List (S_Record)) (a0_4 : Int) (a0_5 : Int) (a1_0 : ByteArray) (a1_1 : Int) (a1_2 : Bool) (A1_3 : Option Addr) (c1_3 : Nat) (l1_3 : List (S_Record)) (a1_4 : Int) (a1_5 : Int) (r : Bool) (w : World) (hr0_3 : Kd.C k_Record w A0_3 l0_3.length l0_3) (hc0_3 : l0_3.length ≤ c0_3) (hr1_3 : Kd.C k_Record w A1_3 l1_3.length l1_3) (hc1_3 : l1_3.length ≤ c1_3) (h : laws_eqEntry.f k a0_0 a0_1 a0_2 l0_3 a0_4 a0_5 a1_0 a1_1 a1_2 l1_3 a1_4 a1_5 = some r) :
  Calls Tryz.prog 140 #[.agg #[.string a0_0, .int .i64 a0_1, .bool a0_2, .slice A0_3 l0_3.length c0_3, .int .i64 a0_4, .int .i64 a0_5], .agg #[.string a1_0, .int .i64 a1_1, .bool a1_2, .slice A1_3 l1_3.length c1_3, .int .i64 a1_4, .int .i64 a1_5]] w fun e w' => e = .returned (.bool r) ∧ Below w.heap.size w w' := by
 have hu107 := Tryz.underlying107
 have HR0_3 := Aside0.mk hr0_3
 have HC0_3 := Aside0.mk hc0_3
 clear hr0_3 hc0_3
 have HR1_3 := Aside0.mk hr1_3
 have HC1_3 := Aside0.mk hc1_3
 clear hr1_3 hc1_3
 have HB := Aside0.mk (Below.refl w.heap.size w)
 have H : (if a0_0.toList = a1_0.toList then (if a0_1 = a1_1 then (if (a0_2 != a1_2) = true then (some false) else ((laws_eqRecordS.f k l0_3 l1_3).bind fun t1027 => (if t1027 = true then (if a0_4 = a1_4 then (if a0_5 = a1_5 then (some true) else (some false)) else (some false)) else (some false)))) else (some false)) else (some false)) = some r := h
 clear h
 by_cases c3 : a0_0.toList = a1_0.toList
 ·rw [if_pos c3] at H
  have c3b0 : (a0_0.toList == a1_0.toList) = true := beq_iff_eq.mpr c3
  have c3b1 : (a0_0.toList != a1_0.toList) = false := bne_eq_false_iff_eq.mpr c3
  clear c3
  by_cases c4 : a0_1 = a1_1
  ·rw [if_pos c4] at H
   have c4b0 : (a0_1 == a1_1) = true := beq_iff_eq.mpr c4
   have c4b1 : (a0_1 != a1_1) = false := bne_eq_false_iff_eq.mpr c4
   clear c4
   by_cases c5 : (a0_2 != a1_2) = true
   ·rw [if_pos c5] at H
    have c5b0 : (a0_2 != a1_2) = true := c5
    (try (have c5b1 : decide (a0_2 = a1_2) = false := by simpa using c5))
    (try (have c5b2 : (a0_2 == a1_2) = false := by simpa using c5))
    (try (have c5b3 : ¬ (a0_2 = a1_2) := by simpa using c5))
    clear c5
    obtain rfl := Option.some.inj H
    go_enter Tryz.func140, Tryz.ntmps140
    go_wp2_with (first | ((with_reducible refine gate_dst (N := 2) rfl ?_); refine bE 2 #[.string a0_0, .int .i64 a0_1, .bool a0_2, .slice A0_3 l0_3.length c0_3, .int .i64 a0_4, .int .i64 a0_5] 107 ?_; intro gb1025 hg w6 hbox hb; have BK1025 := Aside0.mk (hbox); have GE1025 := bG hg; replace HB := BS hb; clear hb hbox hg) | ((with_reducible refine gate_dst (N := 3) rfl ?_); refine bE 3 #[.string a1_0, .int .i64 a1_1, .bool a1_2, .slice A1_3 l1_3.length c1_3, .int .i64 a1_4, .int .i64 a1_5] 107 ?_; intro gb1026 hg w7 hbox hb; have BK1026 := Aside0.mk (hbox); have GE1026 := bG hg; replace HB := BS hb; have NB1025_1026 := bN BK1025 hg; have NB1026_1025 := bM BK1025 hg; replace BK1025 := KB BK1025 hb; clear hb hbox hg; have hnb8 := NB1025_1026.out; have hnc8 := NB1026_1025.out; have hcz9 := cz6 BK1025; have hcz10 := cz6 BK1026))
    go_ret
    exact ⟨TE, TB⟩
   ·rw [if_neg c5] at H
    have c5b0 : (a0_2 != a1_2) = false := by simpa using c5
    (try (have c5b1 : decide (a0_2 = a1_2) = true := by simpa using c5))
    (try (have c5b2 : (a0_2 == a1_2) = true := by simpa using c5))
    clear c5
    obtain ⟨t1027, A11, H⟩ := bnd H
    by_cases c12 : t1027 = true
    ·subst c12
     replace H := ift H
     by_cases c13 : a0_4 = a1_4
     ·rw [if_pos c13] at H
      have c13b0 : (a0_4 == a1_4) = true := beq_iff_eq.mpr c13
      have c13b1 : (a0_4 != a1_4) = false := bne_eq_false_iff_eq.mpr c13
      clear c13
      by_cases c14 : a0_5 = a1_5
      ·rw [if_pos c14] at H
       have c14b0 : (a0_5 == a1_5) = true := beq_iff_eq.mpr c14
       have c14b1 : (a0_5 != a1_5) = false := bne_eq_false_iff_eq.mpr c14
       clear c14
       obtain rfl := Option.some.inj H
       go_enter Tryz.func140, Tryz.ntmps140
       go_wp2_with (first | ((with_reducible refine gate_dst (N := 2) rfl ?_); refine bE 2 #[.string a0_0, .int .i64 a0_1, .bool a0_2, .slice A0_3 l0_3.length c0_3, .int .i64 a0_4, .int .i64 a0_5] 107 ?_; intro gb1025 hg w15 hbox hb; have BK1025 := Aside0.mk (hbox); have GE1025 := bG hg; replace HB := BS hb; clear hb hbox hg) | ((with_reducible refine gate_dst (N := 3) rfl ?_); refine bE 3 #[.string a1_0, .int .i64 a1_1, .bool a1_2, .slice A1_3 l1_3.length c1_3, .int .i64 a1_4, .int .i64 a1_5] 107 ?_; intro gb1026 hg w16 hbox hb; have BK1026 := Aside0.mk (hbox); have GE1026 := bG hg; replace HB := BS hb; have NB1025_1026 := bN BK1025 hg; have NB1026_1025 := bM BK1025 hg; replace BK1025 := KB BK1025 hb; clear hb hbox hg; have hnb17 := NB1025_1026.out; have hnc17 := NB1026_1025.out; have hcz18 := cz6 BK1025; have hcz19 := cz6 BK1026) | ((with_reducible refine gate_callee (f := 69) rfl ?_); refine goesL_ (some 24) rfl rfl Tryz.func69 KR rfl #[.slice A0_3 l0_3.length c0_3, .slice A1_3 l1_3.length c1_3] rfl TA ?_; (with_reducible refine (laws_eqRecordS.calls k _ _ l0_3 _ _ l1_3 true _ ?side1 ?side2 ?side3 ?side4 A11.out).mono ?_); (case side1 => exact CW ((Kd.C_below HR0_3.out HB.out))); (case side2 => exact HC0_3.out); (case side3 => exact CW ((Kd.C_below HR1_3.out HB.out))); (case side4 => exact HC1_3.out); rintro e w20 ⟨rfl, hb⟩; refine ⟨_, rfl, ?_⟩; replace BK1025 := KB BK1025 hb; replace BK1026 := KB BK1026 hb; replace HB := BS hb; (try clear hb); (try clear hb2); (try clear hk); (try clear hi); have hcz21 := cz6 BK1025; have hcz22 := cz6 BK1026))
       go_ret
       exact ⟨TE, TB⟩
      ·rw [if_neg c14] at H
       have c14b0 : (a0_5 == a1_5) = false := beq_eq_false_iff_ne.mpr c14
       have c14b1 : (a0_5 != a1_5) = true := bne_iff_ne.mpr c14
       obtain rfl := Option.some.inj H
       go_enter Tryz.func140, Tryz.ntmps140
       go_wp2_with (first | ((with_reducible refine gate_dst (N := 2) rfl ?_); refine bE 2 #[.string a0_0, .int .i64 a0_1, .bool a0_2, .slice A0_3 l0_3.length c0_3, .int .i64 a0_4, .int .i64 a0_5] 107 ?_; intro gb1025 hg w23 hbox hb; have BK1025 := Aside0.mk (hbox); have GE1025 := bG hg; replace HB := BS hb; clear hb hbox hg) | ((with_reducible refine gate_dst (N := 3) rfl ?_); refine bE 3 #[.string a1_0, .int .i64 a1_1, .bool a1_2, .slice A1_3 l1_3.length c1_3, .int .i64 a1_4, .int .i64 a1_5] 107 ?_; intro gb1026 hg w24 hbox hb; have BK1026 := Aside0.mk (hbox); have GE1026 := bG hg; replace HB := BS hb; have NB1025_1026 := bN BK1025 hg; have NB1026_1025 := bM BK1025 hg; replace BK1025 := KB BK1025 hb; clear hb hbox hg; have hnb25 := NB1025_1026.out; have hnc25 := NB1026_1025.out; have hcz26 := cz6 BK1025; have hcz27 := cz6 BK1026) | ((with_reducible refine gate_callee (f := 69) rfl ?_); refine goesL_ (some 24) rfl rfl Tryz.func69 KR rfl #[.slice A0_3 l0_3.length c0_3, .slice A1_3 l1_3.length c1_3] rfl TA ?_; (with_reducible refine (laws_eqRecordS.calls k _ _ l0_3 _ _ l1_3 true _ ?side1 ?side2 ?side3 ?side4 A11.out).mono ?_); (case side1 => exact CW ((Kd.C_below HR0_3.out HB.out))); (case side2 => exact HC0_3.out); (case side3 => exact CW ((Kd.C_below HR1_3.out HB.out))); (case side4 => exact HC1_3.out); rintro e w28 ⟨rfl, hb⟩; refine ⟨_, rfl, ?_⟩; replace BK1025 := KB BK1025 hb; replace BK1026 := KB BK1026 hb; replace HB := BS hb; (try clear hb); (try clear hb2); (try clear hk); (try clear hi); have hcz29 := cz6 BK1025; have hcz30 := cz6 BK1026))
       go_ret
       exact ⟨TE, TB⟩
     ·rw [if_neg c13] at H
      have c13b0 : (a0_4 == a1_4) = false := beq_eq_false_iff_ne.mpr c13
      have c13b1 : (a0_4 != a1_4) = true := bne_iff_ne.mpr c13
      obtain rfl := Option.some.inj H
      go_enter Tryz.func140, Tryz.ntmps140
      go_wp2_with (first | ((with_reducible refine gate_dst (N := 2) rfl ?_); refine bE 2 #[.string a0_0, .int .i64 a0_1, .bool a0_2, .slice A0_3 l0_3.length c0_3, .int .i64 a0_4, .int .i64 a0_5] 107 ?_; intro gb1025 hg w31 hbox hb; have BK1025 := Aside0.mk (hbox); have GE1025 := bG hg; replace HB := BS hb; clear hb hbox hg) | ((with_reducible refine gate_dst (N := 3) rfl ?_); refine bE 3 #[.string a1_0, .int .i64 a1_1, .bool a1_2, .slice A1_3 l1_3.length c1_3, .int .i64 a1_4, .int .i64 a1_5] 107 ?_; intro gb1026 hg w32 hbox hb; have BK1026 := Aside0.mk (hbox); have GE1026 := bG hg; replace HB := BS hb; have NB1025_1026 := bN BK1025 hg; have NB1026_1025 := bM BK1025 hg; replace BK1025 := KB BK1025 hb; clear hb hbox hg; have hnb33 := NB1025_1026.out; have hnc33 := NB1026_1025.out; have hcz34 := cz6 BK1025; have hcz35 := cz6 BK1026) | ((with_reducible refine gate_callee (f := 69) rfl ?_); refine goesL_ (some 24) rfl rfl Tryz.func69 KR rfl #[.slice A0_3 l0_3.length c0_3, .slice A1_3 l1_3.length c1_3] rfl TA ?_; (with_reducible refine (laws_eqRecordS.calls k _ _ l0_3 _ _ l1_3 true _ ?side1 ?side2 ?side3 ?side4 A11.out).mono ?_); (case side1 => exact CW ((Kd.C_below HR0_3.out HB.out))); (case side2 => exact HC0_3.out); (case side3 => exact CW ((Kd.C_below HR1_3.out HB.out))); (case side4 => exact HC1_3.out); rintro e w36 ⟨rfl, hb⟩; refine ⟨_, rfl, ?_⟩; replace BK1025 := KB BK1025 hb; replace BK1026 := KB BK1026 hb; replace HB := BS hb; (try clear hb); (try clear hb2); (try clear hk); (try clear hi); have hcz37 := cz6 BK1025; have hcz38 := cz6 BK1026))
      go_ret
      exact ⟨TE, TB⟩
    ·replace c12 := Bool.eq_false_iff.mpr c12
     subst c12
     replace H := iff' H
     obtain rfl := Option.some.inj H
     go_enter Tryz.func140, Tryz.ntmps140
     go_wp2_with (first | ((with_reducible refine gate_dst (N := 2) rfl ?_); refine bE 2 #[.string a0_0, .int .i64 a0_1, .bool a0_2, .slice A0_3 l0_3.length c0_3, .int .i64 a0_4, .int .i64 a0_5] 107 ?_; intro gb1025 hg w39 hbox hb; have BK1025 := Aside0.mk (hbox); have GE1025 := bG hg; replace HB := BS hb; clear hb hbox hg) | ((with_reducible refine gate_dst (N := 3) rfl ?_); refine bE 3 #[.string a1_0, .int .i64 a1_1, .bool a1_2, .slice A1_3 l1_3.length c1_3, .int .i64 a1_4, .int .i64 a1_5] 107 ?_; intro gb1026 hg w40 hbox hb; have BK1026 := Aside0.mk (hbox); have GE1026 := bG hg; replace HB := BS hb; have NB1025_1026 := bN BK1025 hg; have NB1026_1025 := bM BK1025 hg; replace BK1025 := KB BK1025 hb; clear hb hbox hg; have hnb41 := NB1025_1026.out; have hnc41 := NB1026_1025.out; have hcz42 := cz6 BK1025; have hcz43 := cz6 BK1026) | ((with_reducible refine gate_callee (f := 69) rfl ?_); refine goesL_ (some 24) rfl rfl Tryz.func69 KR rfl #[.slice A0_3 l0_3.length c0_3, .slice A1_3 l1_3.length c1_3] rfl TA ?_; (with_reducible refine (laws_eqRecordS.calls k _ _ l0_3 _ _ l1_3 false _ ?side1 ?side2 ?side3 ?side4 A11.out).mono ?_); (case side1 => exact CW ((Kd.C_below HR0_3.out HB.out))); (case side2 => exact HC0_3.out); (case side3 => exact CW ((Kd.C_below HR1_3.out HB.out))); (case side4 => exact HC1_3.out); rintro e w44 ⟨rfl, hb⟩; refine ⟨_, rfl, ?_⟩; replace BK1025 := KB BK1025 hb; replace BK1026 := KB BK1026 hb; replace HB := BS hb; (try clear hb); (try clear hb2); (try clear hk); (try clear hi)))
     go_ret
     exact ⟨TE, TB⟩
  ·rw [if_neg c4] at H
   have c4b0 : (a0_1 == a1_1) = false := beq_eq_false_iff_ne.mpr c4
   have c4b1 : (a0_1 != a1_1) = true := bne_iff_ne.mpr c4
   obtain rfl := Option.some.inj H
   go_enter Tryz.func140, Tryz.ntmps140
   go_wp2_with (first | ((with_reducible refine gate_dst (N := 2) rfl ?_); refine bE 2 #[.string a0_0, .int .i64 a0_1, .bool a0_2, .slice A0_3 l0_3.length c0_3, .int .i64 a0_4, .int .i64 a0_5] 107 ?_; intro gb1025 hg w45 hbox hb; have BK1025 := Aside0.mk (hbox); have GE1025 := bG hg; replace HB := BS hb; clear hb hbox hg) | ((with_reducible refine gate_dst (N := 3) rfl ?_); refine bE 3 #[.string a1_0, .int .i64 a1_1, .bool a1_2, .slice A1_3 l1_3.length c1_3, .int .i64 a1_4, .int .i64 a1_5] 107 ?_; intro gb1026 hg w46 hbox hb; have BK1026 := Aside0.mk (hbox); have GE1026 := bG hg; replace HB := BS hb; have NB1025_1026 := bN BK1025 hg; have NB1026_1025 := bM BK1025 hg; replace BK1025 := KB BK1025 hb; clear hb hbox hg; have hnb47 := NB1025_1026.out; have hnc47 := NB1026_1025.out; have hcz48 := cz6 BK1025; have hcz49 := cz6 BK1026))
   go_ret
   exact ⟨TE, TB⟩
 ·rw [if_neg c3] at H
  have c3b0 : (a0_0.toList == a1_0.toList) = false := beq_eq_false_iff_ne.mpr c3
  have c3b1 : (a0_0.toList != a1_0.toList) = true := bne_iff_ne.mpr c3
  obtain rfl := Option.some.inj H
  go_enter Tryz.func140, Tryz.ntmps140
  go_wp2_with (first | ((with_reducible refine gate_dst (N := 2) rfl ?_); refine bE 2 #[.string a0_0, .int .i64 a0_1, .bool a0_2, .slice A0_3 l0_3.length c0_3, .int .i64 a0_4, .int .i64 a0_5] 107 ?_; intro gb1025 hg w50 hbox hb; have BK1025 := Aside0.mk (hbox); have GE1025 := bG hg; replace HB := BS hb; clear hb hbox hg) | ((with_reducible refine gate_dst (N := 3) rfl ?_); refine bE 3 #[.string a1_0, .int .i64 a1_1, .bool a1_2, .slice A1_3 l1_3.length c1_3, .int .i64 a1_4, .int .i64 a1_5] 107 ?_; intro gb1026 hg w51 hbox hb; have BK1026 := Aside0.mk (hbox); have GE1026 := bG hg; replace HB := BS hb; have NB1025_1026 := bN BK1025 hg; have NB1026_1025 := bM BK1025 hg; replace BK1025 := KB BK1025 hb; clear hb hbox hg; have hnb52 := NB1025_1026.out; have hnc52 := NB1026_1025.out; have hcz53 := cz6 BK1025; have hcz54 := cz6 BK1026))
  go_ret
  exact ⟨TE, TB⟩
end
section
/-! ### laws_eqEntryS: function 89 -/
def laws_eqEntryS.l0 : Nat → List (S_Entry) → List (S_Entry) → Int → Option (Bool)
 | 0, _, _, _ => none
 | k + 1, x0, x1, x5 => if x5 < (x0.length : Int) then (if 0 ≤ x5 then (if x5 < (x1.length : Int) then ((laws_eqEntry.f k ((rd_TEntry x0 x5).f0) ((rd_TEntry x0 x5).f1) ((rd_TEntry x0 x5).f2) ((rd_TEntry x0 x5).f3) ((rd_TEntry x0 x5).f4) ((rd_TEntry x0 x5).f5) ((rd_TEntry x1 x5).f0) ((rd_TEntry x1 x5).f1) ((rd_TEntry x1 x5).f2) ((rd_TEntry x1 x5).f3) ((rd_TEntry x1 x5).f4) ((rd_TEntry x1 x5).f5)).bind fun t1030 => (if t1030 = true then (laws_eqEntryS.l0 k x0 x1 (wrap64 (x5 + 1))) else (some false))) else (none)) else (none)) else (some true)
def laws_eqEntryS.f (k : Nat) (l0 : List (S_Entry)) (l1 : List (S_Entry)) : Option (Bool) := if (l0.length : Int) = (l1.length : Int) then (laws_eqEntryS.l0 k l0 l1 0) else (some false)
def laws_eqEntryS.T6 : Bool × List (List Nat × List Nat) := (true, [([], []), ([], []), ([0, 1], [0, 1]), ([2], [2]), ([], []), ([], []), ([4, 5], [4, 5]), ([6], [6]), ([3, 7], [3, 7]), ([8], [8])])
def laws_eqEntryS.B6 : List Nat := [0, 0, 3, 7, 0, 0, 48, 112, 255, 511]
theorem laws_eqEntryS.tab6 : rtab .any (opsOf Tryz.f89 6) = laws_eqEntryS.T6 := by kernel_rfl
theorem laws_eqEntryS.bits6 : waitsOk laws_eqEntryS.T6.2 laws_eqEntryS.B6 = true := by kernel_rfl
theorem laws_eqEntryS.calls (k : Nat) (A0 : Option Addr) (c0 : Nat) (l0 : List (S_Entry)) (A1 : Option Addr) (c1 : Nat) (l1 : List (S_Entry)) (r : Bool) (w : World) (hr0 : Kd.C k_Entry w A0 l0.length l0) (hc0 : l0.length ≤ c0) (hr1 : Kd.C k_Entry w A1 l1.length l1) (hc1 : l1.length ≤ c1) (h : laws_eqEntryS.f k l0 l1 = some r) :
  Calls Tryz.prog 89 #[.slice A0 l0.length c0, .slice A1 l1.length c1] w fun e w' => e = .returned (.bool r) ∧ Below w.heap.size w w' := by
 have hu107 := Tryz.underlying107
 have HR0 := Aside0.mk hr0
 have HC0 := Aside0.mk hc0
 clear hr0 hc0
 have HR1 := Aside0.mk hr1
 have HC1 := Aside0.mk hc1
 clear hr1 hc1
 have HB := Aside0.mk (Below.refl w.heap.size w)
 have H : (if (l0.length : Int) = (l1.length : Int) then (laws_eqEntryS.l0 k l0 l1 0) else (some false)) = some r := h
 clear h
 by_cases c3 : (l0.length : Int) = (l1.length : Int)
 ·rw [if_pos c3] at H
  have c3b0 : ((l0.length : Int) == (l1.length : Int)) = true := beq_iff_eq.mpr c3
  have c3b1 : ((l0.length : Int) != (l1.length : Int)) = false := bne_eq_false_iff_eq.mpr c3
  have c3b2 : (l0.length == l1.length) = true := by first | simpa using c3 | (simp at c3 ⊢; omega)
  clear c3
  have H' := Aside0.mk H
  clear H
  go_enter Tryz.func89, Tryz.ntmps89
  go_wp2
  go_loopg [5] k (fun kq v5 w' => ∃ (x5_1 : Int), v5 = .int .i64 x5_1 ∧ Aside0 (laws_eqEntryS.l0 kq l0 l1 x5_1 = some r) ∧ Aside0 (kq ≤ k) ∧ Aside0 (Below w.heap.size w w'))
  case atStart => exact ⟨(0), TF, H', ⟨Nat.le_refl _⟩, ⟨TB⟩⟩
  case round =>
   clear H'
   try clear c1
   try clear p2
   try clear c3
   try clear c3b0
   try clear c3b1
   try clear c3b2
   obtain ⟨x5_1, rfl, HA, HK1, HB⟩ := hrel
   cases gk with
   | zero => exact absurd HA.out (by simp [laws_eqEntryS.l0])
   | succ k1 =>
    have H := HA.out
    clear HA
    simp only [laws_eqEntryS.l0] at H
    by_cases c4 : x5_1 < (l0.length : Int)
    ·rw [if_pos c4] at H
     have c4b0 : decide (x5_1 < (l0.length : Int)) = true := decide_eq_true c4
     clear c4
     obtain ⟨c5, H⟩ := ifn H
     have c5b0 : decide (0 ≤ x5_1) = true := decide_eq_true c5
     clear c5
     obtain ⟨c6, H⟩ := ifn H
     have c6b0 : decide (x5_1 < (l1.length : Int)) = true := decide_eq_true c6
     clear c6
     obtain ⟨t1030, A7, H⟩ := bnd H
     by_cases c8 : t1030 = true
     ·subst c8
      replace H := ift H
      have H' := Aside0.mk H
      clear H
      try go_wp2
      replace HB := Aside0.mk (below_drew1 HB.out)
      have p1028 : 0 ≤ (x5_1 : Int) := TD
      have q1028 : x5_1 < (l0.length : Int) := TD
      obtain ⟨ad1028, A1028_3, c1028_3, e1028, hx1028_0, hx1028_1, hx1028_2, hx1028_3, hx1028_4, hx1028_5, hl1028_3, hi1028_3⟩ := at_TEntry HR0.out x5_1 p1028 q1028
      have hw1028_5 := hx1028_5
      have hw1028_4 := hx1028_4
      have hw1028_3 := hx1028_3
      have hw1028_2 := hx1028_2
      have hw1028_1 := hx1028_1
      have hw1028_0 := hx1028_0
      cases e1028
      replace hx1028_0 := hBc HB hx1028_0
      replace hx1028_1 := hBc HB hx1028_1
      replace hx1028_2 := hBc HB hx1028_2
      replace hx1028_3 := hBc HB hx1028_3
      replace hx1028_4 := hBc HB hx1028_4
      replace hx1028_5 := hBc HB hx1028_5
      have HR1028_3 := Aside0.mk hi1028_3
      have HC1028_3 := Aside0.mk hl1028_3
      clear hi1028_3 hl1028_3
      replace p1028 := eq_true p1028
      replace q1028 := eq_true q1028
      have p1029 : 0 ≤ (x5_1 : Int) := TD
      have q1029 : x5_1 < (l1.length : Int) := TD
      obtain ⟨ad1029, A1029_3, c1029_3, e1029, hx1029_0, hx1029_1, hx1029_2, hx1029_3, hx1029_4, hx1029_5, hl1029_3, hi1029_3⟩ := at_TEntry HR1.out x5_1 p1029 q1029
      have hw1029_5 := hx1029_5
      have hw1029_4 := hx1029_4
      have hw1029_3 := hx1029_3
      have hw1029_2 := hx1029_2
      have hw1029_1 := hx1029_1
      have hw1029_0 := hx1029_0
      cases e1029
      replace hx1029_0 := hBc HB hx1029_0
      replace hx1029_1 := hBc HB hx1029_1
      replace hx1029_2 := hBc HB hx1029_2
      replace hx1029_3 := hBc HB hx1029_3
      replace hx1029_4 := hBc HB hx1029_4
      replace hx1029_5 := hBc HB hx1029_5
      have HR1029_3 := Aside0.mk hi1029_3
      have HC1029_3 := Aside0.mk hl1029_3
      clear hi1029_3 hl1029_3
      replace p1029 := eq_true p1029
      replace q1029 := eq_true q1029
      refine start_ (n := 10) (S := fun w' => w'.cell? (ad1028.add ((x5_1).toNat * 6)) = some (.string ((rd_TEntry l0 x5_1).f0)) ∧ w'.cell? ⟨(ad1028.add ((x5_1).toNat * 6)).block, (ad1028.add ((x5_1).toNat * 6)).off + 1, none⟩ = some (.int .i64 ((rd_TEntry l0 x5_1).f1)) ∧ w'.cell? ⟨(ad1028.add ((x5_1).toNat * 6)).block, (ad1028.add ((x5_1).toNat * 6)).off + 2, none⟩ = some (.bool ((rd_TEntry l0 x5_1).f2)) ∧ w'.cell? ⟨(ad1028.add ((x5_1).toNat * 6)).block, (ad1028.add ((x5_1).toNat * 6)).off + 3, none⟩ = some (.slice A1028_3 ((rd_TEntry l0 x5_1).f3).length c1028_3) ∧ w'.cell? ⟨(ad1028.add ((x5_1).toNat * 6)).block, (ad1028.add ((x5_1).toNat * 6)).off + 4, none⟩ = some (.int .i64 ((rd_TEntry l0 x5_1).f4)) ∧ w'.cell? ⟨(ad1028.add ((x5_1).toNat * 6)).block, (ad1028.add ((x5_1).toNat * 6)).off + 5, none⟩ = some (.int .i64 ((rd_TEntry l0 x5_1).f5)) ∧ w'.cell? (ad1029.add ((x5_1).toNat * 6)) = some (.string ((rd_TEntry l1 x5_1).f0)) ∧ w'.cell? ⟨(ad1029.add ((x5_1).toNat * 6)).block, (ad1029.add ((x5_1).toNat * 6)).off + 1, none⟩ = some (.int .i64 ((rd_TEntry l1 x5_1).f1)) ∧ w'.cell? ⟨(ad1029.add ((x5_1).toNat * 6)).block, (ad1029.add ((x5_1).toNat * 6)).off + 2, none⟩ = some (.bool ((rd_TEntry l1 x5_1).f2)) ∧ w'.cell? ⟨(ad1029.add ((x5_1).toNat * 6)).block, (ad1029.add ((x5_1).toNat * 6)).off + 3, none⟩ = some (.slice A1029_3 ((rd_TEntry l1 x5_1).f3).length c1029_3) ∧ w'.cell? ⟨(ad1029.add ((x5_1).toNat * 6)).block, (ad1029.add ((x5_1).toNat * 6)).off + 4, none⟩ = some (.int .i64 ((rd_TEntry l1 x5_1).f4)) ∧ w'.cell? ⟨(ad1029.add ((x5_1).toNat * 6)).block, (ad1029.add ((x5_1).toNat * 6)).off + 5, none⟩ = some (.int .i64 ((rd_TEntry l1 x5_1).f5))) (ds := []) #[false, false, false, false, false, false, false, false, false, false] KR rfl rfl ⟨((HB.out.cell (World.block_lt_of_cell? w _ hw1028_0)).trans hw1028_0), ((HB.out.cell (World.block_lt_of_cell? w _ hw1028_1)).trans hw1028_1), ((HB.out.cell (World.block_lt_of_cell? w _ hw1028_2)).trans hw1028_2), ((HB.out.cell (World.block_lt_of_cell? w _ hw1028_3)).trans hw1028_3), ((HB.out.cell (World.block_lt_of_cell? w _ hw1028_4)).trans hw1028_4), ((HB.out.cell (World.block_lt_of_cell? w _ hw1028_5)).trans hw1028_5), ((HB.out.cell (World.block_lt_of_cell? w _ hw1029_0)).trans hw1029_0), ((HB.out.cell (World.block_lt_of_cell? w _ hw1029_1)).trans hw1029_1), ((HB.out.cell (World.block_lt_of_cell? w _ hw1029_2)).trans hw1029_2), ((HB.out.cell (World.block_lt_of_cell? w _ hw1029_3)).trans hw1029_3), ((HB.out.cell (World.block_lt_of_cell? w _ hw1029_4)).trans hw1029_4), ((HB.out.cell (World.block_lt_of_cell? w _ hw1029_5)).trans hw1029_5)⟩ (fun hHeld => ?_); refine with_tabW laws_eqEntryS.tab6 laws_eqEntryS.bits6 (fun HT_ HW_ => ?_)
      generalize wr.drew = w9 at HB HR1028_3 HR1029_3 hx1028_0 hx1028_1 hx1028_2 hx1028_3 hx1028_4 hx1028_5 hx1029_0 hx1029_1 hx1029_2 hx1029_3 hx1029_4 hx1029_5 hHeld ⊢
      refine pA 0 17 (mL 10 1) HT_ rfl rfl ?_
      refine pA 1 18 (mL 10 3) HT_ rfl rfl ?_
      refine pA 2 19 (mL 10 7) HT_ rfl rfl ?_
      refine pA 4 21 (mL 10 23) HT_ rfl rfl ?_
      refine pA 5 22 (mL 10 55) HT_ rfl rfl ?_
      refine pA 6 23 (mL 10 119) HT_ rfl rfl ?_
      refine tA 3 20 (mL 10 127) HT_ HW_ hHeld rfl rfl (by rintro w' ⟨s0, s1, s2, s3, s4, s5, s6, s7, s8, s9, s10, s11⟩; go_simp; with_reducible rfl) ?_
      refine tA 7 24 (mL 10 255) HT_ HW_ hHeld rfl rfl (by rintro w' ⟨s0, s1, s2, s3, s4, s5, s6, s7, s8, s9, s10, s11⟩; go_simp; with_reducible rfl) ?_
      refine one_ (i := 8) (N := some 25) (mL 10 511) rfl rfl (one_of HT_.out KR) (by decide) (fun K hK => ?_)
      refine goes_ Tryz.func140 KR rfl #[.agg #[.string ((rd_TEntry l0 x5_1).f0), .int .i64 ((rd_TEntry l0 x5_1).f1), .bool ((rd_TEntry l0 x5_1).f2), .slice A1028_3 ((rd_TEntry l0 x5_1).f3).length c1028_3, .int .i64 ((rd_TEntry l0 x5_1).f4), .int .i64 ((rd_TEntry l0 x5_1).f5)], .agg #[.string ((rd_TEntry l1 x5_1).f0), .int .i64 ((rd_TEntry l1 x5_1).f1), .bool ((rd_TEntry l1 x5_1).f2), .slice A1029_3 ((rd_TEntry l1 x5_1).f3).length c1029_3, .int .i64 ((rd_TEntry l1 x5_1).f4), .int .i64 ((rd_TEntry l1 x5_1).f5)]] (by rfl) rfl rfl TA ?_
      with_reducible refine (laws_eqEntry.calls k1 ((rd_TEntry l0 x5_1).f0) ((rd_TEntry l0 x5_1).f1) ((rd_TEntry l0 x5_1).f2) _ _ ((rd_TEntry l0 x5_1).f3) ((rd_TEntry l0 x5_1).f4) ((rd_TEntry l0 x5_1).f5) ((rd_TEntry l1 x5_1).f0) ((rd_TEntry l1 x5_1).f1) ((rd_TEntry l1 x5_1).f2) _ _ ((rd_TEntry l1 x5_1).f3) ((rd_TEntry l1 x5_1).f4) ((rd_TEntry l1 x5_1).f5) true _ ?side1 ?side2 ?side3 ?side4 A7.out).mono ?_
      (case side1 => exact CW ((Kd.C_below HR1028_3.out HB.out)))
      (case side2 => exact HC1028_3.out)
      (case side3 => exact CW ((Kd.C_below HR1029_3.out HB.out)))
      (case side4 => exact HC1029_3.out)
      rintro e w10 ⟨rfl, hb⟩
      refine ⟨_, rfl, ?_⟩
      replace HB := BS hb
      (try clear hb)
      (try clear hb2)
      (try clear hk)
      (try clear hi)
      refine hK.out _ _ ⟨((HB.out.cell (World.block_lt_of_cell? w _ hw1028_0)).trans hw1028_0), ((HB.out.cell (World.block_lt_of_cell? w _ hw1028_1)).trans hw1028_1), ((HB.out.cell (World.block_lt_of_cell? w _ hw1028_2)).trans hw1028_2), ((HB.out.cell (World.block_lt_of_cell? w _ hw1028_3)).trans hw1028_3), ((HB.out.cell (World.block_lt_of_cell? w _ hw1028_4)).trans hw1028_4), ((HB.out.cell (World.block_lt_of_cell? w _ hw1028_5)).trans hw1028_5), ((HB.out.cell (World.block_lt_of_cell? w _ hw1029_0)).trans hw1029_0), ((HB.out.cell (World.block_lt_of_cell? w _ hw1029_1)).trans hw1029_1), ((HB.out.cell (World.block_lt_of_cell? w _ hw1029_2)).trans hw1029_2), ((HB.out.cell (World.block_lt_of_cell? w _ hw1029_3)).trans hw1029_3), ((HB.out.cell (World.block_lt_of_cell? w _ hw1029_4)).trans hw1029_4), ((HB.out.cell (World.block_lt_of_cell? w _ hw1029_5)).trans hw1029_5)⟩ (fun hHeld => ?_)
      clear hK K
      refine nA ?_
      refine pA 9 26 (mL 10 1023) HT_ rfl rfl ?_
      refine done_ (done_of HT_.out KR) ?_
      try go_wp2
      go_roundg k1
      case measure => have := HK1.out; omega
      case rel => exact ⟨(wrap64 (x5_1 + 1)), TF, H', ⟨TM⟩, ⟨TB⟩⟩
     ·replace c8 := Bool.eq_false_iff.mpr c8
      subst c8
      replace H := iff' H
      obtain rfl := Option.some.inj H
      try go_wp2
      replace HB := Aside0.mk (below_drew1 HB.out)
      have p1028 : 0 ≤ (x5_1 : Int) := TD
      have q1028 : x5_1 < (l0.length : Int) := TD
      obtain ⟨ad1028, A1028_3, c1028_3, e1028, hx1028_0, hx1028_1, hx1028_2, hx1028_3, hx1028_4, hx1028_5, hl1028_3, hi1028_3⟩ := at_TEntry HR0.out x5_1 p1028 q1028
      have hw1028_5 := hx1028_5
      have hw1028_4 := hx1028_4
      have hw1028_3 := hx1028_3
      have hw1028_2 := hx1028_2
      have hw1028_1 := hx1028_1
      have hw1028_0 := hx1028_0
      cases e1028
      replace hx1028_0 := hBc HB hx1028_0
      replace hx1028_1 := hBc HB hx1028_1
      replace hx1028_2 := hBc HB hx1028_2
      replace hx1028_3 := hBc HB hx1028_3
      replace hx1028_4 := hBc HB hx1028_4
      replace hx1028_5 := hBc HB hx1028_5
      have HR1028_3 := Aside0.mk hi1028_3
      have HC1028_3 := Aside0.mk hl1028_3
      clear hi1028_3 hl1028_3
      replace p1028 := eq_true p1028
      replace q1028 := eq_true q1028
      have p1029 : 0 ≤ (x5_1 : Int) := TD
      have q1029 : x5_1 < (l1.length : Int) := TD
      obtain ⟨ad1029, A1029_3, c1029_3, e1029, hx1029_0, hx1029_1, hx1029_2, hx1029_3, hx1029_4, hx1029_5, hl1029_3, hi1029_3⟩ := at_TEntry HR1.out x5_1 p1029 q1029
      have hw1029_5 := hx1029_5
      have hw1029_4 := hx1029_4
      have hw1029_3 := hx1029_3
      have hw1029_2 := hx1029_2
      have hw1029_1 := hx1029_1
      have hw1029_0 := hx1029_0
      cases e1029
      replace hx1029_0 := hBc HB hx1029_0
      replace hx1029_1 := hBc HB hx1029_1
      replace hx1029_2 := hBc HB hx1029_2
      replace hx1029_3 := hBc HB hx1029_3
      replace hx1029_4 := hBc HB hx1029_4
      replace hx1029_5 := hBc HB hx1029_5
      have HR1029_3 := Aside0.mk hi1029_3
      have HC1029_3 := Aside0.mk hl1029_3
      clear hi1029_3 hl1029_3
      replace p1029 := eq_true p1029
      replace q1029 := eq_true q1029
      refine start_ (n := 10) (S := fun w' => w'.cell? (ad1028.add ((x5_1).toNat * 6)) = some (.string ((rd_TEntry l0 x5_1).f0)) ∧ w'.cell? ⟨(ad1028.add ((x5_1).toNat * 6)).block, (ad1028.add ((x5_1).toNat * 6)).off + 1, none⟩ = some (.int .i64 ((rd_TEntry l0 x5_1).f1)) ∧ w'.cell? ⟨(ad1028.add ((x5_1).toNat * 6)).block, (ad1028.add ((x5_1).toNat * 6)).off + 2, none⟩ = some (.bool ((rd_TEntry l0 x5_1).f2)) ∧ w'.cell? ⟨(ad1028.add ((x5_1).toNat * 6)).block, (ad1028.add ((x5_1).toNat * 6)).off + 3, none⟩ = some (.slice A1028_3 ((rd_TEntry l0 x5_1).f3).length c1028_3) ∧ w'.cell? ⟨(ad1028.add ((x5_1).toNat * 6)).block, (ad1028.add ((x5_1).toNat * 6)).off + 4, none⟩ = some (.int .i64 ((rd_TEntry l0 x5_1).f4)) ∧ w'.cell? ⟨(ad1028.add ((x5_1).toNat * 6)).block, (ad1028.add ((x5_1).toNat * 6)).off + 5, none⟩ = some (.int .i64 ((rd_TEntry l0 x5_1).f5)) ∧ w'.cell? (ad1029.add ((x5_1).toNat * 6)) = some (.string ((rd_TEntry l1 x5_1).f0)) ∧ w'.cell? ⟨(ad1029.add ((x5_1).toNat * 6)).block, (ad1029.add ((x5_1).toNat * 6)).off + 1, none⟩ = some (.int .i64 ((rd_TEntry l1 x5_1).f1)) ∧ w'.cell? ⟨(ad1029.add ((x5_1).toNat * 6)).block, (ad1029.add ((x5_1).toNat * 6)).off + 2, none⟩ = some (.bool ((rd_TEntry l1 x5_1).f2)) ∧ w'.cell? ⟨(ad1029.add ((x5_1).toNat * 6)).block, (ad1029.add ((x5_1).toNat * 6)).off + 3, none⟩ = some (.slice A1029_3 ((rd_TEntry l1 x5_1).f3).length c1029_3) ∧ w'.cell? ⟨(ad1029.add ((x5_1).toNat * 6)).block, (ad1029.add ((x5_1).toNat * 6)).off + 4, none⟩ = some (.int .i64 ((rd_TEntry l1 x5_1).f4)) ∧ w'.cell? ⟨(ad1029.add ((x5_1).toNat * 6)).block, (ad1029.add ((x5_1).toNat * 6)).off + 5, none⟩ = some (.int .i64 ((rd_TEntry l1 x5_1).f5))) (ds := []) #[false, false, false, false, false, false, false, false, false, false] KR rfl rfl ⟨((HB.out.cell (World.block_lt_of_cell? w _ hw1028_0)).trans hw1028_0), ((HB.out.cell (World.block_lt_of_cell? w _ hw1028_1)).trans hw1028_1), ((HB.out.cell (World.block_lt_of_cell? w _ hw1028_2)).trans hw1028_2), ((HB.out.cell (World.block_lt_of_cell? w _ hw1028_3)).trans hw1028_3), ((HB.out.cell (World.block_lt_of_cell? w _ hw1028_4)).trans hw1028_4), ((HB.out.cell (World.block_lt_of_cell? w _ hw1028_5)).trans hw1028_5), ((HB.out.cell (World.block_lt_of_cell? w _ hw1029_0)).trans hw1029_0), ((HB.out.cell (World.block_lt_of_cell? w _ hw1029_1)).trans hw1029_1), ((HB.out.cell (World.block_lt_of_cell? w _ hw1029_2)).trans hw1029_2), ((HB.out.cell (World.block_lt_of_cell? w _ hw1029_3)).trans hw1029_3), ((HB.out.cell (World.block_lt_of_cell? w _ hw1029_4)).trans hw1029_4), ((HB.out.cell (World.block_lt_of_cell? w _ hw1029_5)).trans hw1029_5)⟩ (fun hHeld => ?_); refine with_tabW laws_eqEntryS.tab6 laws_eqEntryS.bits6 (fun HT_ HW_ => ?_)
      generalize wr.drew = w11 at HB HR1028_3 HR1029_3 hx1028_0 hx1028_1 hx1028_2 hx1028_3 hx1028_4 hx1028_5 hx1029_0 hx1029_1 hx1029_2 hx1029_3 hx1029_4 hx1029_5 hHeld ⊢
      refine pA 0 17 (mL 10 1) HT_ rfl rfl ?_
      refine pA 1 18 (mL 10 3) HT_ rfl rfl ?_
      refine pA 2 19 (mL 10 7) HT_ rfl rfl ?_
      refine pA 4 21 (mL 10 23) HT_ rfl rfl ?_
      refine pA 5 22 (mL 10 55) HT_ rfl rfl ?_
      refine pA 6 23 (mL 10 119) HT_ rfl rfl ?_
      refine tA 3 20 (mL 10 127) HT_ HW_ hHeld rfl rfl (by rintro w' ⟨s0, s1, s2, s3, s4, s5, s6, s7, s8, s9, s10, s11⟩; go_simp; with_reducible rfl) ?_
      refine tA 7 24 (mL 10 255) HT_ HW_ hHeld rfl rfl (by rintro w' ⟨s0, s1, s2, s3, s4, s5, s6, s7, s8, s9, s10, s11⟩; go_simp; with_reducible rfl) ?_
      refine one_ (i := 8) (N := some 25) (mL 10 511) rfl rfl (one_of HT_.out KR) (by decide) (fun K hK => ?_)
      refine goes_ Tryz.func140 KR rfl #[.agg #[.string ((rd_TEntry l0 x5_1).f0), .int .i64 ((rd_TEntry l0 x5_1).f1), .bool ((rd_TEntry l0 x5_1).f2), .slice A1028_3 ((rd_TEntry l0 x5_1).f3).length c1028_3, .int .i64 ((rd_TEntry l0 x5_1).f4), .int .i64 ((rd_TEntry l0 x5_1).f5)], .agg #[.string ((rd_TEntry l1 x5_1).f0), .int .i64 ((rd_TEntry l1 x5_1).f1), .bool ((rd_TEntry l1 x5_1).f2), .slice A1029_3 ((rd_TEntry l1 x5_1).f3).length c1029_3, .int .i64 ((rd_TEntry l1 x5_1).f4), .int .i64 ((rd_TEntry l1 x5_1).f5)]] (by rfl) rfl rfl TA ?_
      with_reducible refine (laws_eqEntry.calls k1 ((rd_TEntry l0 x5_1).f0) ((rd_TEntry l0 x5_1).f1) ((rd_TEntry l0 x5_1).f2) _ _ ((rd_TEntry l0 x5_1).f3) ((rd_TEntry l0 x5_1).f4) ((rd_TEntry l0 x5_1).f5) ((rd_TEntry l1 x5_1).f0) ((rd_TEntry l1 x5_1).f1) ((rd_TEntry l1 x5_1).f2) _ _ ((rd_TEntry l1 x5_1).f3) ((rd_TEntry l1 x5_1).f4) ((rd_TEntry l1 x5_1).f5) false _ ?side1 ?side2 ?side3 ?side4 A7.out).mono ?_
      (case side1 => exact CW ((Kd.C_below HR1028_3.out HB.out)))
      (case side2 => exact HC1028_3.out)
      (case side3 => exact CW ((Kd.C_below HR1029_3.out HB.out)))
      (case side4 => exact HC1029_3.out)
      rintro e w12 ⟨rfl, hb⟩
      refine ⟨_, rfl, ?_⟩
      replace HB := BS hb
      (try clear hb)
      (try clear hb2)
      (try clear hk)
      (try clear hi)
      refine hK.out _ _ ⟨((HB.out.cell (World.block_lt_of_cell? w _ hw1028_0)).trans hw1028_0), ((HB.out.cell (World.block_lt_of_cell? w _ hw1028_1)).trans hw1028_1), ((HB.out.cell (World.block_lt_of_cell? w _ hw1028_2)).trans hw1028_2), ((HB.out.cell (World.block_lt_of_cell? w _ hw1028_3)).trans hw1028_3), ((HB.out.cell (World.block_lt_of_cell? w _ hw1028_4)).trans hw1028_4), ((HB.out.cell (World.block_lt_of_cell? w _ hw1028_5)).trans hw1028_5), ((HB.out.cell (World.block_lt_of_cell? w _ hw1029_0)).trans hw1029_0), ((HB.out.cell (World.block_lt_of_cell? w _ hw1029_1)).trans hw1029_1), ((HB.out.cell (World.block_lt_of_cell? w _ hw1029_2)).trans hw1029_2), ((HB.out.cell (World.block_lt_of_cell? w _ hw1029_3)).trans hw1029_3), ((HB.out.cell (World.block_lt_of_cell? w _ hw1029_4)).trans hw1029_4), ((HB.out.cell (World.block_lt_of_cell? w _ hw1029_5)).trans hw1029_5)⟩ (fun hHeld => ?_)
      clear hK K
      refine nA ?_
      refine pA 9 26 (mL 10 1023) HT_ rfl rfl ?_
      refine done_ (done_of HT_.out KR) ?_
      try go_wp2
      go_ret
      exact ⟨TE, TB⟩
    ·rw [if_neg c4] at H
     have c4b0 : decide (x5_1 < (l0.length : Int)) = false := decide_eq_false c4
     clear c4
     obtain rfl := Option.some.inj H
     go_wp2
     go_ret
     exact ⟨TE, TB⟩
 ·rw [if_neg c3] at H
  have c3b0 : ((l0.length : Int) == (l1.length : Int)) = false := beq_eq_false_iff_ne.mpr c3
  have c3b1 : ((l0.length : Int) != (l1.length : Int)) = true := bne_iff_ne.mpr c3
  have c3b2 : (l0.length == l1.length) = false := by first | simpa using c3 | (simp at c3 ⊢; omega)
  obtain rfl := Option.some.inj H
  go_enter Tryz.func89, Tryz.ntmps89
  go_wp2
  go_ret
  exact ⟨TE, TB⟩
end
section
/-! ### laws_eqCache: function 33 -/
def laws_eqCache.f (k : Nat) (a0_0 : Int) (l0_1 : List (S_Entry)) (a1_0 : Int) (l1_1 : List (S_Entry)) : Option (Bool) := if a0_0 = a1_0 then ((laws_eqEntryS.f k l0_1 l1_1).bind fun t1033 => (if t1033 = true then (some true) else (some false))) else (some false)
theorem laws_eqCache.calls (k : Nat) (a0_0 : Int) (A0_1 : Option Addr) (c0_1 : Nat) (l0_1 : List (S_Entry)) (a1_0 : Int) (A1_1 : Option Addr) (c1_1 : Nat) (l1_1 : List (S_Entry)) (r : Bool) (w : World) (hr0_1 : Kd.C k_Entry w A0_1 l0_1.length l0_1) (hc0_1 : l0_1.length ≤ c0_1) (hr1_1 : Kd.C k_Entry w A1_1 l1_1.length l1_1) (hc1_1 : l1_1.length ≤ c1_1) (h : laws_eqCache.f k a0_0 l0_1 a1_0 l1_1 = some r) :
  Calls Tryz.prog 33 #[.agg #[.int .i64 a0_0, .slice A0_1 l0_1.length c0_1], .agg #[.int .i64 a1_0, .slice A1_1 l1_1.length c1_1]] w fun e w' => e = .returned (.bool r) ∧ Below w.heap.size w w' := by
 have hu54 := Tryz.underlying54
 have HR0_1 := Aside0.mk hr0_1
 have HC0_1 := Aside0.mk hc0_1
 clear hr0_1 hc0_1
 have HR1_1 := Aside0.mk hr1_1
 have HC1_1 := Aside0.mk hc1_1
 clear hr1_1 hc1_1
 have HB := Aside0.mk (Below.refl w.heap.size w)
 have H : (if a0_0 = a1_0 then ((laws_eqEntryS.f k l0_1 l1_1).bind fun t1033 => (if t1033 = true then (some true) else (some false))) else (some false)) = some r := h
 clear h
 by_cases c3 : a0_0 = a1_0
 ·rw [if_pos c3] at H
  have c3b0 : (a0_0 == a1_0) = true := beq_iff_eq.mpr c3
  have c3b1 : (a0_0 != a1_0) = false := bne_eq_false_iff_eq.mpr c3
  clear c3
  obtain ⟨t1033, A4, H⟩ := bnd H
  by_cases c5 : t1033 = true
  ·subst c5
   replace H := ift H
   obtain rfl := Option.some.inj H
   go_enter Tryz.func33, Tryz.ntmps33
   go_wp2_with (first | ((with_reducible refine gate_dst (N := 2) rfl ?_); refine bE 2 #[.int .i64 a0_0, .slice A0_1 l0_1.length c0_1] 54 ?_; intro gb1031 hg w6 hbox hb; have BK1031 := Aside0.mk (hbox); have GE1031 := bG hg; replace HB := BS hb; clear hb hbox hg) | ((with_reducible refine gate_dst (N := 3) rfl ?_); refine bE 3 #[.int .i64 a1_0, .slice A1_1 l1_1.length c1_1] 54 ?_; intro gb1032 hg w7 hbox hb; have BK1032 := Aside0.mk (hbox); have GE1032 := bG hg; replace HB := BS hb; have NB1031_1032 := bN BK1031 hg; have NB1032_1031 := bM BK1031 hg; replace BK1031 := KB BK1031 hb; clear hb hbox hg; have hnb8 := NB1031_1032.out; have hnc8 := NB1032_1031.out; have hcz9 := cz2 BK1031; have hcz10 := cz2 BK1032) | ((with_reducible refine gate_callee (f := 89) rfl ?_); refine goesL_ (some 14) rfl rfl Tryz.func89 KR rfl #[.slice A0_1 l0_1.length c0_1, .slice A1_1 l1_1.length c1_1] rfl TA ?_; (with_reducible refine (laws_eqEntryS.calls k _ _ l0_1 _ _ l1_1 true _ ?side1 ?side2 ?side3 ?side4 A4.out).mono ?_); (case side1 => exact CW ((Kd.C_below HR0_1.out HB.out))); (case side2 => exact HC0_1.out); (case side3 => exact CW ((Kd.C_below HR1_1.out HB.out))); (case side4 => exact HC1_1.out); rintro e w11 ⟨rfl, hb⟩; refine ⟨_, rfl, ?_⟩; replace BK1031 := KB BK1031 hb; replace BK1032 := KB BK1032 hb; replace HB := BS hb; (try clear hb); (try clear hb2); (try clear hk); (try clear hi)))
   go_ret
   exact ⟨TE, TB⟩
  ·replace c5 := Bool.eq_false_iff.mpr c5
   subst c5
   replace H := iff' H
   obtain rfl := Option.some.inj H
   go_enter Tryz.func33, Tryz.ntmps33
   go_wp2_with (first | ((with_reducible refine gate_dst (N := 2) rfl ?_); refine bE 2 #[.int .i64 a0_0, .slice A0_1 l0_1.length c0_1] 54 ?_; intro gb1031 hg w12 hbox hb; have BK1031 := Aside0.mk (hbox); have GE1031 := bG hg; replace HB := BS hb; clear hb hbox hg) | ((with_reducible refine gate_dst (N := 3) rfl ?_); refine bE 3 #[.int .i64 a1_0, .slice A1_1 l1_1.length c1_1] 54 ?_; intro gb1032 hg w13 hbox hb; have BK1032 := Aside0.mk (hbox); have GE1032 := bG hg; replace HB := BS hb; have NB1031_1032 := bN BK1031 hg; have NB1032_1031 := bM BK1031 hg; replace BK1031 := KB BK1031 hb; clear hb hbox hg; have hnb14 := NB1031_1032.out; have hnc14 := NB1032_1031.out; have hcz15 := cz2 BK1031; have hcz16 := cz2 BK1032) | ((with_reducible refine gate_callee (f := 89) rfl ?_); refine goesL_ (some 14) rfl rfl Tryz.func89 KR rfl #[.slice A0_1 l0_1.length c0_1, .slice A1_1 l1_1.length c1_1] rfl TA ?_; (with_reducible refine (laws_eqEntryS.calls k _ _ l0_1 _ _ l1_1 false _ ?side1 ?side2 ?side3 ?side4 A4.out).mono ?_); (case side1 => exact CW ((Kd.C_below HR0_1.out HB.out))); (case side2 => exact HC0_1.out); (case side3 => exact CW ((Kd.C_below HR1_1.out HB.out))); (case side4 => exact HC1_1.out); rintro e w17 ⟨rfl, hb⟩; refine ⟨_, rfl, ?_⟩; replace BK1031 := KB BK1031 hb; replace BK1032 := KB BK1032 hb; replace HB := BS hb; (try clear hb); (try clear hb2); (try clear hk); (try clear hi)))
   go_ret
   exact ⟨TE, TB⟩
 ·rw [if_neg c3] at H
  have c3b0 : (a0_0 == a1_0) = false := beq_eq_false_iff_ne.mpr c3
  have c3b1 : (a0_0 != a1_0) = true := bne_iff_ne.mpr c3
  obtain rfl := Option.some.inj H
  go_enter Tryz.func33, Tryz.ntmps33
  go_wp2_with (first | ((with_reducible refine gate_dst (N := 2) rfl ?_); refine bE 2 #[.int .i64 a0_0, .slice A0_1 l0_1.length c0_1] 54 ?_; intro gb1031 hg w18 hbox hb; have BK1031 := Aside0.mk (hbox); have GE1031 := bG hg; replace HB := BS hb; clear hb hbox hg) | ((with_reducible refine gate_dst (N := 3) rfl ?_); refine bE 3 #[.int .i64 a1_0, .slice A1_1 l1_1.length c1_1] 54 ?_; intro gb1032 hg w19 hbox hb; have BK1032 := Aside0.mk (hbox); have GE1032 := bG hg; replace HB := BS hb; have NB1031_1032 := bN BK1031 hg; have NB1032_1031 := bM BK1031 hg; replace BK1031 := KB BK1031 hb; clear hb hbox hg; have hnb20 := NB1031_1032.out; have hnc20 := NB1032_1031.out; have hcz21 := cz2 BK1031; have hcz22 := cz2 BK1032))
  go_ret
  exact ⟨TE, TB⟩
end
section
/-! ### laws_FnExactGoodCache: function 6 -/
def laws_FnExactGoodCache.f (k : Nat) (a0_0 : Int) (l0_1 : List (S_LEntry)) : Option (Bool) := (laws_szCache.f k a0_0 l0_1 1048576).bind fun t1065 => (if t1065 < 0 then (some true) else ((laws_toCache.f k a0_0 l0_1).bind fun bt1066 => ((spec_GoodCache.f k bt1066.1 bt1066.2).bind fun t1070 => ((laws_toCache.f k a0_0 l0_1).bind fun bt1071 => ((impl_GoodCache.f k bt1071.1 bt1071.2).bind fun t1076 => (if (t1076 != t1070) = true then (some false) else ((laws_toCache.f k a0_0 l0_1).bind fun bt1077 => ((laws_eqCache.f k bt1071.1 bt1071.2 bt1077.1 bt1077.2).bind fun t1081 => (if t1081 = true then (some true) else (some false))))))))))
theorem laws_FnExactGoodCache.calls (k : Nat) (a0_0 : Int) (A0_1 : Option Addr) (c0_1 : Nat) (l0_1 : List (S_LEntry)) (r : Bool) (w : World) (hr0_1 : Kd.C k_LEntry w A0_1 l0_1.length l0_1) (hc0_1 : l0_1.length ≤ c0_1) (hG_ : Glob w) (h : laws_FnExactGoodCache.f k a0_0 l0_1 = some r) :
  Calls Tryz.prog 6 #[.agg #[.int .i64 a0_0, .slice A0_1 l0_1.length c0_1]] w fun e w' => e = .returned (.bool r) ∧ Below w.heap.size w w' := by
 have hu49 := Tryz.underlying49
 have hu54 := Tryz.underlying54
 have HR0_1 := Aside0.mk hr0_1
 have HC0_1 := Aside0.mk hc0_1
 clear hr0_1 hc0_1
 have HGL := Aside0.mk hG_
 clear hG_
 have HB := Aside0.mk (Below.refl w.heap.size w)
 have H : ((laws_szCache.f k a0_0 l0_1 1048576).bind fun t1065 => (if t1065 < 0 then (some true) else ((laws_toCache.f k a0_0 l0_1).bind fun bt1066 => ((spec_GoodCache.f k bt1066.1 bt1066.2).bind fun t1070 => ((laws_toCache.f k a0_0 l0_1).bind fun bt1071 => ((impl_GoodCache.f k bt1071.1 bt1071.2).bind fun t1076 => (if (t1076 != t1070) = true then (some false) else ((laws_toCache.f k a0_0 l0_1).bind fun bt1077 => ((laws_eqCache.f k bt1071.1 bt1071.2 bt1077.1 bt1077.2).bind fun t1081 => (if t1081 = true then (some true) else (some false))))))))))) = some r := h
 clear h
 obtain ⟨t1065, A2, H⟩ := bnd H
 by_cases c3 : t1065 < 0
 ·rw [if_pos c3] at H
  have c3b0 : decide (t1065 < 0) = true := decide_eq_true c3
  clear c3
  obtain rfl := Option.some.inj H
  go_enter Tryz.func6, Tryz.ntmps6
  go_wp2_with (first | ((with_reducible refine gate_dst (N := 1) rfl ?_); refine bE 1 #[.int .i64 a0_0, .slice A0_1 l0_1.length c0_1] 49 ?_; intro gb1064 hg w4 hbox hb; have BK1064 := Aside0.mk (hbox); have GE1064 := bG hg; replace HB := BS hb; clear hb hbox hg; have hcz5 := cz2 BK1064) | ((with_reducible refine gate_callee (f := 29) rfl ?_); refine goesL_ (some 9) rfl rfl Tryz.func29 KR rfl #[.agg #[.int .i64 a0_0, .slice A0_1 l0_1.length c0_1], .int .i64 1048576] rfl TA ?_; (with_reducible refine (laws_szCache.calls k a0_0 _ _ l0_1 1048576 t1065 _ ?side1 ?side2 A2.out).mono ?_); (case side1 => exact CW ((Kd.C_below HR0_1.out HB.out))); (case side2 => exact HC0_1.out); rintro e w6 ⟨rfl, hb⟩; refine ⟨_, rfl, ?_⟩; replace BK1064 := KB BK1064 hb; replace HB := BS hb; (try clear hb); (try clear hb2); (try clear hk); (try clear hi)))
  go_ret
  exact ⟨TE, TB⟩
 ·rw [if_neg c3] at H
  have c3b0 : decide (t1065 < 0) = false := decide_eq_false c3
  clear c3
  obtain ⟨⟨t1066, t1067⟩, A7, H⟩ := bnd H
  try dsimp only at H
  obtain ⟨t1070, A8, H⟩ := bnd H
  obtain ⟨⟨t1071, t1072⟩, A9, H⟩ := bnd H
  try dsimp only at H
  obtain ⟨t1076, A10, H⟩ := bnd H
  by_cases c11 : (t1076 != t1070) = true
  ·rw [if_pos c11] at H
   have c11b0 : (t1076 != t1070) = true := c11
   (try (have c11b1 : decide (t1076 = t1070) = false := by simpa using c11))
   (try (have c11b2 : (t1076 == t1070) = false := by simpa using c11))
   (try (have c11b3 : ¬ (t1076 = t1070) := by simpa using c11))
   clear c11
   obtain rfl := Option.some.inj H
   go_enter Tryz.func6, Tryz.ntmps6
   go_wp2_with (first | ((with_reducible refine gate_dst (N := 1) rfl ?_); refine bE 1 #[.int .i64 a0_0, .slice A0_1 l0_1.length c0_1] 49 ?_; intro gb1064 hg w12 hbox hb; have BK1064 := Aside0.mk (hbox); have GE1064 := bG hg; replace HB := BS hb; clear hb hbox hg; have hcz13 := cz2 BK1064) | ((with_reducible refine gate_callee (f := 29) rfl ?_); refine goesL_ (some 9) rfl rfl Tryz.func29 KR rfl #[.agg #[.int .i64 a0_0, .slice A0_1 l0_1.length c0_1], .int .i64 1048576] rfl TA ?_; (with_reducible refine (laws_szCache.calls k a0_0 _ _ l0_1 1048576 t1065 _ ?side1 ?side2 A2.out).mono ?_); (case side1 => exact CW ((Kd.C_below HR0_1.out HB.out))); (case side2 => exact HC0_1.out); rintro e w14 ⟨rfl, hb⟩; refine ⟨_, rfl, ?_⟩; replace BK1064 := KB BK1064 hb; replace HB := BS hb; (try clear hb); (try clear hb2); (try clear hk); (try clear hi); have hcz15 := cz2 BK1064) | ((with_reducible refine gate_callee (f := 31) rfl ?_); refine goesL_ (some 13) rfl rfl Tryz.func31 KR rfl #[.agg #[.int .i64 a0_0, .slice A0_1 l0_1.length c0_1]] rfl TA ?_; (with_reducible refine (laws_toCache.calls k a0_0 _ _ l0_1 t1066 t1067 _ ?side1 ?side2 A7.out).mono ?_); (case side1 => exact CW ((Kd.C_below HR0_1.out HB.out))); (case side2 => exact HC0_1.out); rintro e w16 ⟨v1068, rfl, ho0, hb⟩; refine ⟨_, rfl, ?_⟩; have HO1069 := Aside0.mk (Kd.S_lower ho0 (below_size TB)); replace BK1064 := KB BK1064 hb; replace HB := BS hb; (try clear hb); (try clear hb2); (try clear hk); (try clear hi); (try clear ho0); obtain ⟨Ao17, co17, eo17⟩ := Kd.S_slice HO1069.out; subst eo17) | ((with_reducible refine gate_callee (f := 30) rfl ?_); refine goesL_ (some 14) rfl rfl Tryz.func30 KR rfl #[.agg #[.int .i64 t1066, .slice Ao17 t1067.length co17]] rfl TA ?_; (with_reducible refine (spec_GoodCache.calls k t1066 _ _ t1067 t1070 _ ?side1 ?side2 A8.out).mono ?_); (case side1 => exact CW ((Kd.S_reads' HO1069.out).2.2)); (case side2 => exact (Kd.S_reads' HO1069.out).2.1); rintro e w18 ⟨rfl, hb⟩; refine ⟨_, rfl, ?_⟩; replace HO1069 := Aside0.mk (Kd.S_below (by (with_reducible repeat (first | apply Kd.S_alloc | apply Kd.S_drewN | apply Kd.S_drew)); exact HO1069.out) hb); replace BK1064 := KB BK1064 hb; replace HB := BS hb; (try clear hb); (try clear hb2); (try clear hk); (try clear hi); have hcz19 := cz2 BK1064) | ((with_reducible refine gate_callee (f := 31) rfl ?_); refine goesL_ (some 16) rfl rfl Tryz.func31 KR rfl #[.agg #[.int .i64 a0_0, .slice A0_1 l0_1.length c0_1]] rfl TA ?_; (with_reducible refine (laws_toCache.calls k a0_0 _ _ l0_1 t1071 t1072 _ ?side1 ?side2 A9.out).mono ?_); (case side1 => exact CW ((Kd.C_below HR0_1.out HB.out))); (case side2 => exact HC0_1.out); rintro e w20 ⟨v1073, rfl, ho0, hb⟩; refine ⟨_, rfl, ?_⟩; have HO1074 := Aside0.mk (Kd.S_lower (Kd.S_new' ho0 (Kd.S_lt (by (with_reducible repeat (first | apply Kd.S_alloc | apply Kd.S_drewN | apply Kd.S_drew)); exact HO1069.out))) (below_size TB)); replace HO1069 := Aside0.mk (Kd.S_elder' (by (with_reducible repeat (first | apply Kd.S_alloc | apply Kd.S_drewN | apply Kd.S_drew)); exact HO1069.out) (Kd.S_base ho0) hb); replace BK1064 := KB BK1064 hb; replace HB := BS hb; (try clear hb); (try clear hb2); (try clear hk); (try clear hi); (try clear ho0)) | ((with_reducible refine gate_dst (N := 5) rfl ?_); refine bE 5 #[.int .i64 0, .slice none 0 0] 54 ?_; intro gb1075 hg w21 hbox hb; replace HO1069 := Aside0.mk (Kd.S_below (by (with_reducible repeat (first | apply Kd.S_alloc | apply Kd.S_drewN | apply Kd.S_drew)); exact HO1069.out) hb); replace HO1074 := Aside0.mk (Kd.S_below (by (with_reducible repeat (first | apply Kd.S_alloc | apply Kd.S_drewN | apply Kd.S_drew)); exact HO1074.out) hb); have BK1075 := Aside0.mk (hbox); have GE1075 := bG hg; replace HB := BS hb; have NB1064_1075 := bN BK1064 hg; have NB1075_1064 := bM BK1064 hg; replace BK1064 := KB BK1064 hb; clear hb hbox hg; have hnb22 := NB1075_1064.out; have hnc22 := NB1064_1075.out; have hcz23 := cz2 BK1075; obtain ⟨Ao24, co24, eo24⟩ := Kd.S_slice HO1074.out; subst eo24) | ((with_reducible refine gate_callee (f := 32) rfl ?_); refine goesL_ (some 18) rfl rfl Tryz.func32 KR rfl #[.agg #[.int .i64 t1071, .slice Ao24 t1072.length co24]] rfl TA ?_; (with_reducible refine (impl_GoodCache.calls k t1071 _ _ t1072 t1076 _ ?side1 ?side2 ?side3 A10.out).mono ?_); (case side1 => refine (Kd.S_reads' (e := 107) (base := w.heap.size) (ok := fun k_ => (True ∧ some k_ ≠ (.slice Ao17 t1067.length co17 : Value).ownBlock)) (n := t1072.length) (c := co24) ?_).2.2; exact (by (with_reducible repeat (first | apply Kd.S_alloc | apply Kd.S_drewN | apply Kd.S_drew)); exact (Kd.S_mono (Kd.S_far (p := ⟨gb1075, 1, none⟩) (Kd.S_far (p := ⟨gb1075, 0, none⟩) (Kd.S_types HO1074.out BK1075.out (by decide)) (fun _ hk => hk.2) (.int .i64 t1071)) (fun _ hk => hk.2) (.slice Ao24 t1072.length co24)) (fun _ h_ => h_.1)))); (case side2 => exact (Kd.S_reads' HO1074.out).2.1); (case side3 => exact GW HGL); rintro e w25 ⟨rfl, hb⟩; refine ⟨_, rfl, ?_⟩; replace HO1069 := Aside0.mk (Kd.S_below (by (with_reducible repeat (first | apply Kd.S_alloc | apply Kd.S_drewN | apply Kd.S_drew)); exact (Kd.S_mono (Kd.S_far (p := ⟨gb1075, 1, none⟩) (Kd.S_far (p := ⟨gb1075, 0, none⟩) (Kd.S_types HO1069.out BK1075.out (by decide)) (fun _ hk => hk.2) (.int .i64 t1071)) (fun _ hk => hk.2) (.slice Ao24 t1072.length co24)) (fun _ h_ => h_.1))) hb); replace HO1074 := Aside0.mk (Kd.S_below (by (with_reducible repeat (first | apply Kd.S_alloc | apply Kd.S_drewN | apply Kd.S_drew)); exact (Kd.S_mono (Kd.S_far (p := ⟨gb1075, 1, none⟩) (Kd.S_far (p := ⟨gb1075, 0, none⟩) (Kd.S_types HO1074.out BK1075.out (by decide)) (fun _ hk => hk.2) (.int .i64 t1071)) (fun _ hk => hk.2) (.slice Ao24 t1072.length co24)) (fun _ h_ => h_.1))) hb); replace BK1064 := Aside0.mk (blk_below (g := gb1064) (o := .cells #[.int .i64 a0_0, .slice A0_1 l0_1.length c0_1] 49 (0, 0)) (by (with_reducible repeat (first | refine blk_drewN ?_ _ | refine blk_drew ?_ | refine blk_alloc ?_ _)); refine blk_far ?_ NB1064_1075.out _; (with_reducible repeat (first | refine blk_drewN ?_ _ | refine blk_drew ?_ | refine blk_alloc ?_ _)); refine blk_far ?_ NB1064_1075.out _; (with_reducible repeat (first | refine blk_drewN ?_ _ | refine blk_drew ?_ | refine blk_alloc ?_ _)); exact BK1064.out) hb); replace BK1075 := Aside0.mk (blk_below (g := gb1075) (o := .cells #[.int .i64 t1071, .slice Ao24 t1072.length co24] 54 (0, 0)) (by (with_reducible repeat (first | refine blk_drewN ?_ _ | refine blk_drew ?_ | refine blk_alloc ?_ _)); refine blk_put (cs := #[.int .i64 t1071, .slice none 0 0]) ?_ 1 _ rfl; (with_reducible repeat (first | refine blk_drewN ?_ _ | refine blk_drew ?_ | refine blk_alloc ?_ _)); refine blk_put (cs := #[.int .i64 0, .slice none 0 0]) ?_ 0 _ rfl; (with_reducible repeat (first | refine blk_drewN ?_ _ | refine blk_drew ?_ | refine blk_alloc ?_ _)); exact BK1075.out) hb); replace HB := BS hb; (try clear hb); (try clear hb2); (try clear hk); (try clear hi)))
   go_ret
   exact ⟨TE, TB⟩
  ·rw [if_neg c11] at H
   have c11b0 : (t1076 != t1070) = false := by simpa using c11
   (try (have c11b1 : decide (t1076 = t1070) = true := by simpa using c11))
   (try (have c11b2 : (t1076 == t1070) = true := by simpa using c11))
   clear c11
   obtain ⟨⟨t1077, t1078⟩, A26, H⟩ := bnd H
   try dsimp only at H
   obtain ⟨t1081, A27, H⟩ := bnd H
   by_cases c28 : t1081 = true
   ·subst c28
    replace H := ift H
    obtain rfl := Option.some.inj H
    go_enter Tryz.func6, Tryz.ntmps6
    try go_wp2_with (first | ((with_reducible refine gate_dst (N := 1) rfl ?_); refine bE 1 #[.int .i64 a0_0, .slice A0_1 l0_1.length c0_1] 49 ?_; intro gb1064 hg w29 hbox hb; have BK1064 := Aside0.mk (hbox); have GE1064 := bG hg; replace HB := BS hb; clear hb hbox hg; have hcz30 := cz2 BK1064) | ((with_reducible refine gate_callee (f := 29) rfl ?_); refine goesL_ (some 9) rfl rfl Tryz.func29 KR rfl #[.agg #[.int .i64 a0_0, .slice A0_1 l0_1.length c0_1], .int .i64 1048576] rfl TA ?_; (with_reducible refine (laws_szCache.calls k a0_0 _ _ l0_1 1048576 t1065 _ ?side1 ?side2 A2.out).mono ?_); (case side1 => exact CW ((Kd.C_below HR0_1.out HB.out))); (case side2 => exact HC0_1.out); rintro e w31 ⟨rfl, hb⟩; refine ⟨_, rfl, ?_⟩; replace BK1064 := KB BK1064 hb; replace HB := BS hb; (try clear hb); (try clear hb2); (try clear hk); (try clear hi); have hcz32 := cz2 BK1064) | ((with_reducible refine gate_callee (f := 31) rfl ?_); refine goesL_ (some 13) rfl rfl Tryz.func31 KR rfl #[.agg #[.int .i64 a0_0, .slice A0_1 l0_1.length c0_1]] rfl TA ?_; (with_reducible refine (laws_toCache.calls k a0_0 _ _ l0_1 t1066 t1067 _ ?side1 ?side2 A7.out).mono ?_); (case side1 => exact CW ((Kd.C_below HR0_1.out HB.out))); (case side2 => exact HC0_1.out); rintro e w33 ⟨v1068, rfl, ho0, hb⟩; refine ⟨_, rfl, ?_⟩; have HO1069 := Aside0.mk (Kd.S_lower ho0 (below_size TB)); replace BK1064 := KB BK1064 hb; replace HB := BS hb; (try clear hb); (try clear hb2); (try clear hk); (try clear hi); (try clear ho0); obtain ⟨Ao34, co34, eo34⟩ := Kd.S_slice HO1069.out; subst eo34) | ((with_reducible refine gate_callee (f := 30) rfl ?_); refine goesL_ (some 14) rfl rfl Tryz.func30 KR rfl #[.agg #[.int .i64 t1066, .slice Ao34 t1067.length co34]] rfl TA ?_; (with_reducible refine (spec_GoodCache.calls k t1066 _ _ t1067 t1070 _ ?side1 ?side2 A8.out).mono ?_); (case side1 => exact CW ((Kd.S_reads' HO1069.out).2.2)); (case side2 => exact (Kd.S_reads' HO1069.out).2.1); rintro e w35 ⟨rfl, hb⟩; refine ⟨_, rfl, ?_⟩; replace HO1069 := Aside0.mk (Kd.S_below (by (with_reducible repeat (first | apply Kd.S_alloc | apply Kd.S_drewN | apply Kd.S_drew)); exact HO1069.out) hb); replace BK1064 := KB BK1064 hb; replace HB := BS hb; (try clear hb); (try clear hb2); (try clear hk); (try clear hi); have hcz36 := cz2 BK1064) | ((with_reducible refine gate_callee (f := 31) rfl ?_); refine goesL_ (some 16) rfl rfl Tryz.func31 KR rfl #[.agg #[.int .i64 a0_0, .slice A0_1 l0_1.length c0_1]] rfl TA ?_; (with_reducible refine (laws_toCache.calls k a0_0 _ _ l0_1 t1071 t1072 _ ?side1 ?side2 A9.out).mono ?_); (case side1 => exact CW ((Kd.C_below HR0_1.out HB.out))); (case side2 => exact HC0_1.out); rintro e w37 ⟨v1073, rfl, ho0, hb⟩; refine ⟨_, rfl, ?_⟩; have HO1074 := Aside0.mk (Kd.S_lower (Kd.S_new' ho0 (Kd.S_lt (by (with_reducible repeat (first | apply Kd.S_alloc | apply Kd.S_drewN | apply Kd.S_drew)); exact HO1069.out))) (below_size TB)); replace HO1069 := Aside0.mk (Kd.S_elder' (by (with_reducible repeat (first | apply Kd.S_alloc | apply Kd.S_drewN | apply Kd.S_drew)); exact HO1069.out) (Kd.S_base ho0) hb); replace BK1064 := KB BK1064 hb; replace HB := BS hb; (try clear hb); (try clear hb2); (try clear hk); (try clear hi); (try clear ho0)) | ((with_reducible refine gate_dst (N := 5) rfl ?_); refine bE 5 #[.int .i64 0, .slice none 0 0] 54 ?_; intro gb1075 hg w38 hbox hb; replace HO1069 := Aside0.mk (Kd.S_below (by (with_reducible repeat (first | apply Kd.S_alloc | apply Kd.S_drewN | apply Kd.S_drew)); exact HO1069.out) hb); replace HO1074 := Aside0.mk (Kd.S_below (by (with_reducible repeat (first | apply Kd.S_alloc | apply Kd.S_drewN | apply Kd.S_drew)); exact HO1074.out) hb); have BK1075 := Aside0.mk (hbox); have GE1075 := bG hg; replace HB := BS hb; have NB1064_1075 := bN BK1064 hg; have NB1075_1064 := bM BK1064 hg; replace BK1064 := KB BK1064 hb; clear hb hbox hg; have hnb39 := NB1075_1064.out; have hnc39 := NB1064_1075.out; have hcz40 := cz2 BK1075; obtain ⟨Ao41, co41, eo41⟩ := Kd.S_slice HO1074.out; subst eo41) | ((with_reducible refine gate_callee (f := 32) rfl ?_); refine goesL_ (some 18) rfl rfl Tryz.func32 KR rfl #[.agg #[.int .i64 t1071, .slice Ao41 t1072.length co41]] rfl TA ?_; (with_reducible refine (impl_GoodCache.calls k t1071 _ _ t1072 t1076 _ ?side1 ?side2 ?side3 A10.out).mono ?_); (case side1 => refine (Kd.S_reads' (e := 107) (base := w.heap.size) (ok := fun k_ => (True ∧ some k_ ≠ (.slice Ao34 t1067.length co34 : Value).ownBlock)) (n := t1072.length) (c := co41) ?_).2.2; exact (by (with_reducible repeat (first | apply Kd.S_alloc | apply Kd.S_drewN | apply Kd.S_drew)); exact (Kd.S_mono (Kd.S_far (p := ⟨gb1075, 1, none⟩) (Kd.S_far (p := ⟨gb1075, 0, none⟩) (Kd.S_types HO1074.out BK1075.out (by decide)) (fun _ hk => hk.2) (.int .i64 t1071)) (fun _ hk => hk.2) (.slice Ao41 t1072.length co41)) (fun _ h_ => h_.1)))); (case side2 => exact (Kd.S_reads' HO1074.out).2.1); (case side3 => exact GW HGL); rintro e w42 ⟨rfl, hb⟩; refine ⟨_, rfl, ?_⟩; replace HO1069 := Aside0.mk (Kd.S_below (by (with_reducible repeat (first | apply Kd.S_alloc | apply Kd.S_drewN | apply Kd.S_drew)); exact (Kd.S_mono (Kd.S_far (p := ⟨gb1075, 1, none⟩) (Kd.S_far (p := ⟨gb1075, 0, none⟩) (Kd.S_types HO1069.out BK1075.out (by decide)) (fun _ hk => hk.2) (.int .i64 t1071)) (fun _ hk => hk.2) (.slice Ao41 t1072.length co41)) (fun _ h_ => h_.1))) hb); replace HO1074 := Aside0.mk (Kd.S_below (by (with_reducible repeat (first | apply Kd.S_alloc | apply Kd.S_drewN | apply Kd.S_drew)); exact (Kd.S_mono (Kd.S_far (p := ⟨gb1075, 1, none⟩) (Kd.S_far (p := ⟨gb1075, 0, none⟩) (Kd.S_types HO1074.out BK1075.out (by decide)) (fun _ hk => hk.2) (.int .i64 t1071)) (fun _ hk => hk.2) (.slice Ao41 t1072.length co41)) (fun _ h_ => h_.1))) hb); replace BK1064 := Aside0.mk (blk_below (g := gb1064) (o := .cells #[.int .i64 a0_0, .slice A0_1 l0_1.length c0_1] 49 (0, 0)) (by (with_reducible repeat (first | refine blk_drewN ?_ _ | refine blk_drew ?_ | refine blk_alloc ?_ _)); refine blk_far ?_ NB1064_1075.out _; (with_reducible repeat (first | refine blk_drewN ?_ _ | refine blk_drew ?_ | refine blk_alloc ?_ _)); refine blk_far ?_ NB1064_1075.out _; (with_reducible repeat (first | refine blk_drewN ?_ _ | refine blk_drew ?_ | refine blk_alloc ?_ _)); exact BK1064.out) hb); replace BK1075 := Aside0.mk (blk_below (g := gb1075) (o := .cells #[.int .i64 t1071, .slice Ao41 t1072.length co41] 54 (0, 0)) (by (with_reducible repeat (first | refine blk_drewN ?_ _ | refine blk_drew ?_ | refine blk_alloc ?_ _)); refine blk_put (cs := #[.int .i64 t1071, .slice none 0 0]) ?_ 1 _ rfl; (with_reducible repeat (first | refine blk_drewN ?_ _ | refine blk_drew ?_ | refine blk_alloc ?_ _)); refine blk_put (cs := #[.int .i64 0, .slice none 0 0]) ?_ 0 _ rfl; (with_reducible repeat (first | refine blk_drewN ?_ _ | refine blk_drew ?_ | refine blk_alloc ?_ _)); exact BK1075.out) hb); replace HB := BS hb; (try clear hb); (try clear hb2); (try clear hk); (try clear hi)))
    replace HO1069 := Aside0.mk (Kd.S_drew HO1069.out)
    replace HO1074 := Aside0.mk (Kd.S_drew HO1074.out)
    replace BK1064 := Aside0.mk (blk_drew BK1064.out)
    replace BK1075 := Aside0.mk (blk_drew BK1075.out)
    replace HB := Aside0.mk (below_drew1 HB.out)
    refine start_ (n := 5) (S := fun w' => w'.cell? ⟨gb1075, 0, none⟩ = some (.int .i64 t1071) ∧ w'.cell? ⟨gb1075, 1, none⟩ = some (.slice Ao41 t1072.length co41) ∧ w'.cell? ⟨gb1064, 0, none⟩ = some (.int .i64 a0_0) ∧ w'.cell? ⟨gb1064, 1, none⟩ = some (.slice A0_1 l0_1.length c0_1)) (ds := []) #[false, false, false, false, false] KR rfl rfl ⟨bc 0 BK1075, bc 1 BK1075, bc 0 BK1064, bc 1 BK1064⟩ (fun hHeld => ?_)
    generalize w42.drew = w43 at HO1069 HO1074 BK1064 BK1075 HB hHeld ⊢
    refine take_ (i := 0) (N := some 22) (v := ?_) (a' := ?_) #[true, false, false, false, false] rfl rfl KR (fun _ _ _ h => h) (Or.inl ⟨by rfl, ?_⟩) hHeld ?_ ?_
    rotate_left
    ·rintro w' ⟨s0, s1, s2, s3⟩
     go_simp
     with_reducible rfl
    rotate_left
    ·simp only [Act.put, List.setIfInBounds_toArray, List.set_cons_zero, List.set_cons_succ, i64_w, i32_w]
     rfl
    refine take_ (i := 1) (N := some 23) (v := ?_) (a' := ?_) #[true, true, false, false, false] rfl rfl KR (fun _ _ _ h => h) (Or.inl ⟨by rfl, ?_⟩) hHeld ?_ ?_
    rotate_left
    ·rintro w' ⟨s0, s1, s2, s3⟩
     go_simp
     with_reducible rfl
    rotate_left
    ·simp only [Act.put, List.setIfInBounds_toArray, List.set_cons_zero, List.set_cons_succ, i64_w, i32_w]
     rfl
    refine one_ (i := 2) (N := some 24) (mL 5 7) rfl rfl KR (by decide) (fun K hK => ?_)
    refine goes_ Tryz.func31 KR rfl #[.agg #[.int .i64 a0_0, .slice A0_1 l0_1.length c0_1]] (by rfl) rfl rfl TA ?_
    with_reducible refine (laws_toCache.calls k a0_0 _ _ l0_1 t1077 t1078 _ ?side1 ?side2 A26.out).mono ?_
    (case side1 => exact CW ((Kd.C_below HR0_1.out HB.out)))
    (case side2 => exact HC0_1.out)
    rintro e w44 ⟨v1079, rfl, ho0, hb⟩
    refine ⟨_, rfl, ?_⟩
    have HO1080 := Aside0.mk (Kd.S_lower (Kd.S_new' (Kd.S_new' ho0 (Kd.S_lt (by (with_reducible repeat (first | apply Kd.S_alloc | apply Kd.S_drewN | apply Kd.S_drew)); exact HO1069.out))) (Kd.S_lt (by (with_reducible repeat (first | apply Kd.S_alloc | apply Kd.S_drewN | apply Kd.S_drew)); exact HO1074.out))) (below_size TB))
    replace HO1069 := Aside0.mk (Kd.S_elder' (by (with_reducible repeat (first | apply Kd.S_alloc | apply Kd.S_drewN | apply Kd.S_drew)); exact HO1069.out) (Kd.S_base ho0) hb)
    replace HO1074 := Aside0.mk (Kd.S_elder' (by (with_reducible repeat (first | apply Kd.S_alloc | apply Kd.S_drewN | apply Kd.S_drew)); exact HO1074.out) (Kd.S_base ho0) hb)
    replace BK1064 := KB BK1064 hb
    replace BK1075 := KB BK1075 hb
    replace HB := BS hb
    (try clear hb)
    (try clear hb2)
    (try clear hk)
    (try clear hi)
    (try clear ho0)
    obtain ⟨Ao45, co45, eo45⟩ := Kd.S_slice HO1080.out
    (first | subst eo45 | (injection eo45 with f1_ f2_ f3_; have f4_ := f1_.symm; have f5_ := f3_.symm; clear f1_ f2_ f3_; subst f4_; subst f5_))
    refine hK.out _ _ ⟨bc 0 BK1075, bc 1 BK1075, bc 0 BK1064, bc 1 BK1064⟩ (fun hHeld => ?_)
    clear hK K
    refine nA ?_
    refine one_ (i := 3) (N := some 25) (mL 5 15) rfl rfl KR (by decide) (fun K hK => ?_)
    refine goes_ Tryz.func33 KR rfl #[.agg #[.int .i64 t1071, .slice Ao41 t1072.length co41], .agg #[.int .i64 t1077, .slice Ao45 t1078.length co45]] (by rfl) rfl rfl TA ?_
    with_reducible refine (laws_eqCache.calls k t1071 _ _ t1072 t1077 _ _ t1078 true _ ?side1 ?side2 ?side3 ?side4 A27.out).mono ?_
    (case side1 => exact CW ((Kd.S_reads' HO1074.out).2.2))
    (case side2 => exact (Kd.S_reads' HO1074.out).2.1)
    (case side3 => exact CW ((Kd.S_reads' HO1080.out).2.2))
    (case side4 => exact (Kd.S_reads' HO1080.out).2.1)
    rintro e w46 ⟨rfl, hb⟩
    refine ⟨_, rfl, ?_⟩
    replace HO1069 := Aside0.mk (Kd.S_below (by (with_reducible repeat (first | apply Kd.S_alloc | apply Kd.S_drewN | apply Kd.S_drew)); exact HO1069.out) hb)
    replace HO1074 := Aside0.mk (Kd.S_below (by (with_reducible repeat (first | apply Kd.S_alloc | apply Kd.S_drewN | apply Kd.S_drew)); exact HO1074.out) hb)
    replace HO1080 := Aside0.mk (Kd.S_below (by (with_reducible repeat (first | apply Kd.S_alloc | apply Kd.S_drewN | apply Kd.S_drew)); exact HO1080.out) hb)
    replace BK1064 := KB BK1064 hb
    replace BK1075 := KB BK1075 hb
    replace HB := BS hb
    (try clear hb)
    (try clear hb2)
    (try clear hk)
    (try clear hi)
    refine hK.out _ _ ⟨bc 0 BK1075, bc 1 BK1075, bc 0 BK1064, bc 1 BK1064⟩ (fun hHeld => ?_)
    clear hK K
    refine nA ?_
    refine pure_ (i := 4) (N := some 26) (v := ?_) (a' := ?_) #[true, true, true, true, true] rfl rfl KR (fun _ _ _ h => h) (Or.inl ⟨by rfl, ?_⟩) ?_ ?_
    rotate_left
    ·intro w'
     go_simp
     with_reducible rfl
    rotate_left
    ·simp only [Act.put, List.setIfInBounds_toArray, List.set_cons_zero, List.set_cons_succ, i64_w, i32_w]
     rfl
    refine done_ KR ?_
    try go_wp2
    go_ret
    exact ⟨TE, TB⟩
   ·replace c28 := Bool.eq_false_iff.mpr c28
    subst c28
    replace H := iff' H
    obtain rfl := Option.some.inj H
    go_enter Tryz.func6, Tryz.ntmps6
    try go_wp2_with (first | ((with_reducible refine gate_dst (N := 1) rfl ?_); refine bE 1 #[.int .i64 a0_0, .slice A0_1 l0_1.length c0_1] 49 ?_; intro gb1064 hg w47 hbox hb; have BK1064 := Aside0.mk (hbox); have GE1064 := bG hg; replace HB := BS hb; clear hb hbox hg; have hcz48 := cz2 BK1064) | ((with_reducible refine gate_callee (f := 29) rfl ?_); refine goesL_ (some 9) rfl rfl Tryz.func29 KR rfl #[.agg #[.int .i64 a0_0, .slice A0_1 l0_1.length c0_1], .int .i64 1048576] rfl TA ?_; (with_reducible refine (laws_szCache.calls k a0_0 _ _ l0_1 1048576 t1065 _ ?side1 ?side2 A2.out).mono ?_); (case side1 => exact CW ((Kd.C_below HR0_1.out HB.out))); (case side2 => exact HC0_1.out); rintro e w49 ⟨rfl, hb⟩; refine ⟨_, rfl, ?_⟩; replace BK1064 := KB BK1064 hb; replace HB := BS hb; (try clear hb); (try clear hb2); (try clear hk); (try clear hi); have hcz50 := cz2 BK1064) | ((with_reducible refine gate_callee (f := 31) rfl ?_); refine goesL_ (some 13) rfl rfl Tryz.func31 KR rfl #[.agg #[.int .i64 a0_0, .slice A0_1 l0_1.length c0_1]] rfl TA ?_; (with_reducible refine (laws_toCache.calls k a0_0 _ _ l0_1 t1066 t1067 _ ?side1 ?side2 A7.out).mono ?_); (case side1 => exact CW ((Kd.C_below HR0_1.out HB.out))); (case side2 => exact HC0_1.out); rintro e w51 ⟨v1068, rfl, ho0, hb⟩; refine ⟨_, rfl, ?_⟩; have HO1069 := Aside0.mk (Kd.S_lower ho0 (below_size TB)); replace BK1064 := KB BK1064 hb; replace HB := BS hb; (try clear hb); (try clear hb2); (try clear hk); (try clear hi); (try clear ho0); obtain ⟨Ao52, co52, eo52⟩ := Kd.S_slice HO1069.out; subst eo52) | ((with_reducible refine gate_callee (f := 30) rfl ?_); refine goesL_ (some 14) rfl rfl Tryz.func30 KR rfl #[.agg #[.int .i64 t1066, .slice Ao52 t1067.length co52]] rfl TA ?_; (with_reducible refine (spec_GoodCache.calls k t1066 _ _ t1067 t1070 _ ?side1 ?side2 A8.out).mono ?_); (case side1 => exact CW ((Kd.S_reads' HO1069.out).2.2)); (case side2 => exact (Kd.S_reads' HO1069.out).2.1); rintro e w53 ⟨rfl, hb⟩; refine ⟨_, rfl, ?_⟩; replace HO1069 := Aside0.mk (Kd.S_below (by (with_reducible repeat (first | apply Kd.S_alloc | apply Kd.S_drewN | apply Kd.S_drew)); exact HO1069.out) hb); replace BK1064 := KB BK1064 hb; replace HB := BS hb; (try clear hb); (try clear hb2); (try clear hk); (try clear hi); have hcz54 := cz2 BK1064) | ((with_reducible refine gate_callee (f := 31) rfl ?_); refine goesL_ (some 16) rfl rfl Tryz.func31 KR rfl #[.agg #[.int .i64 a0_0, .slice A0_1 l0_1.length c0_1]] rfl TA ?_; (with_reducible refine (laws_toCache.calls k a0_0 _ _ l0_1 t1071 t1072 _ ?side1 ?side2 A9.out).mono ?_); (case side1 => exact CW ((Kd.C_below HR0_1.out HB.out))); (case side2 => exact HC0_1.out); rintro e w55 ⟨v1073, rfl, ho0, hb⟩; refine ⟨_, rfl, ?_⟩; have HO1074 := Aside0.mk (Kd.S_lower (Kd.S_new' ho0 (Kd.S_lt (by (with_reducible repeat (first | apply Kd.S_alloc | apply Kd.S_drewN | apply Kd.S_drew)); exact HO1069.out))) (below_size TB)); replace HO1069 := Aside0.mk (Kd.S_elder' (by (with_reducible repeat (first | apply Kd.S_alloc | apply Kd.S_drewN | apply Kd.S_drew)); exact HO1069.out) (Kd.S_base ho0) hb); replace BK1064 := KB BK1064 hb; replace HB := BS hb; (try clear hb); (try clear hb2); (try clear hk); (try clear hi); (try clear ho0)) | ((with_reducible refine gate_dst (N := 5) rfl ?_); refine bE 5 #[.int .i64 0, .slice none 0 0] 54 ?_; intro gb1075 hg w56 hbox hb; replace HO1069 := Aside0.mk (Kd.S_below (by (with_reducible repeat (first | apply Kd.S_alloc | apply Kd.S_drewN | apply Kd.S_drew)); exact HO1069.out) hb); replace HO1074 := Aside0.mk (Kd.S_below (by (with_reducible repeat (first | apply Kd.S_alloc | apply Kd.S_drewN | apply Kd.S_drew)); exact HO1074.out) hb); have BK1075 := Aside0.mk (hbox); have GE1075 := bG hg; replace HB := BS hb; have NB1064_1075 := bN BK1064 hg; have NB1075_1064 := bM BK1064 hg; replace BK1064 := KB BK1064 hb; clear hb hbox hg; have hnb57 := NB1075_1064.out; have hnc57 := NB1064_1075.out; have hcz58 := cz2 BK1075; obtain ⟨Ao59, co59, eo59⟩ := Kd.S_slice HO1074.out; subst eo59) | ((with_reducible refine gate_callee (f := 32) rfl ?_); refine goesL_ (some 18) rfl rfl Tryz.func32 KR rfl #[.agg #[.int .i64 t1071, .slice Ao59 t1072.length co59]] rfl TA ?_; (with_reducible refine (impl_GoodCache.calls k t1071 _ _ t1072 t1076 _ ?side1 ?side2 ?side3 A10.out).mono ?_); (case side1 => refine (Kd.S_reads' (e := 107) (base := w.heap.size) (ok := fun k_ => (True ∧ some k_ ≠ (.slice Ao52 t1067.length co52 : Value).ownBlock)) (n := t1072.length) (c := co59) ?_).2.2; exact (by (with_reducible repeat (first | apply Kd.S_alloc | apply Kd.S_drewN | apply Kd.S_drew)); exact (Kd.S_mono (Kd.S_far (p := ⟨gb1075, 1, none⟩) (Kd.S_far (p := ⟨gb1075, 0, none⟩) (Kd.S_types HO1074.out BK1075.out (by decide)) (fun _ hk => hk.2) (.int .i64 t1071)) (fun _ hk => hk.2) (.slice Ao59 t1072.length co59)) (fun _ h_ => h_.1)))); (case side2 => exact (Kd.S_reads' HO1074.out).2.1); (case side3 => exact GW HGL); rintro e w60 ⟨rfl, hb⟩; refine ⟨_, rfl, ?_⟩; replace HO1069 := Aside0.mk (Kd.S_below (by (with_reducible repeat (first | apply Kd.S_alloc | apply Kd.S_drewN | apply Kd.S_drew)); exact (Kd.S_mono (Kd.S_far (p := ⟨gb1075, 1, none⟩) (Kd.S_far (p := ⟨gb1075, 0, none⟩) (Kd.S_types HO1069.out BK1075.out (by decide)) (fun _ hk => hk.2) (.int .i64 t1071)) (fun _ hk => hk.2) (.slice Ao59 t1072.length co59)) (fun _ h_ => h_.1))) hb); replace HO1074 := Aside0.mk (Kd.S_below (by (with_reducible repeat (first | apply Kd.S_alloc | apply Kd.S_drewN | apply Kd.S_drew)); exact (Kd.S_mono (Kd.S_far (p := ⟨gb1075, 1, none⟩) (Kd.S_far (p := ⟨gb1075, 0, none⟩) (Kd.S_types HO1074.out BK1075.out (by decide)) (fun _ hk => hk.2) (.int .i64 t1071)) (fun _ hk => hk.2) (.slice Ao59 t1072.length co59)) (fun _ h_ => h_.1))) hb); replace BK1064 := Aside0.mk (blk_below (g := gb1064) (o := .cells #[.int .i64 a0_0, .slice A0_1 l0_1.length c0_1] 49 (0, 0)) (by (with_reducible repeat (first | refine blk_drewN ?_ _ | refine blk_drew ?_ | refine blk_alloc ?_ _)); refine blk_far ?_ NB1064_1075.out _; (with_reducible repeat (first | refine blk_drewN ?_ _ | refine blk_drew ?_ | refine blk_alloc ?_ _)); refine blk_far ?_ NB1064_1075.out _; (with_reducible repeat (first | refine blk_drewN ?_ _ | refine blk_drew ?_ | refine blk_alloc ?_ _)); exact BK1064.out) hb); replace BK1075 := Aside0.mk (blk_below (g := gb1075) (o := .cells #[.int .i64 t1071, .slice Ao59 t1072.length co59] 54 (0, 0)) (by (with_reducible repeat (first | refine blk_drewN ?_ _ | refine blk_drew ?_ | refine blk_alloc ?_ _)); refine blk_put (cs := #[.int .i64 t1071, .slice none 0 0]) ?_ 1 _ rfl; (with_reducible repeat (first | refine blk_drewN ?_ _ | refine blk_drew ?_ | refine blk_alloc ?_ _)); refine blk_put (cs := #[.int .i64 0, .slice none 0 0]) ?_ 0 _ rfl; (with_reducible repeat (first | refine blk_drewN ?_ _ | refine blk_drew ?_ | refine blk_alloc ?_ _)); exact BK1075.out) hb); replace HB := BS hb; (try clear hb); (try clear hb2); (try clear hk); (try clear hi)))
    replace HO1069 := Aside0.mk (Kd.S_drew HO1069.out)
    replace HO1074 := Aside0.mk (Kd.S_drew HO1074.out)
    replace BK1064 := Aside0.mk (blk_drew BK1064.out)
    replace BK1075 := Aside0.mk (blk_drew BK1075.out)
    replace HB := Aside0.mk (below_drew1 HB.out)
    refine start_ (n := 5) (S := fun w' => w'.cell? ⟨gb1075, 0, none⟩ = some (.int .i64 t1071) ∧ w'.cell? ⟨gb1075, 1, none⟩ = some (.slice Ao59 t1072.length co59) ∧ w'.cell? ⟨gb1064, 0, none⟩ = some (.int .i64 a0_0) ∧ w'.cell? ⟨gb1064, 1, none⟩ = some (.slice A0_1 l0_1.length c0_1)) (ds := []) #[false, false, false, false, false] KR rfl rfl ⟨bc 0 BK1075, bc 1 BK1075, bc 0 BK1064, bc 1 BK1064⟩ (fun hHeld => ?_)
    generalize w60.drew = w61 at HO1069 HO1074 BK1064 BK1075 HB hHeld ⊢
    refine take_ (i := 0) (N := some 22) (v := ?_) (a' := ?_) #[true, false, false, false, false] rfl rfl KR (fun _ _ _ h => h) (Or.inl ⟨by rfl, ?_⟩) hHeld ?_ ?_
    rotate_left
    ·rintro w' ⟨s0, s1, s2, s3⟩
     go_simp
     with_reducible rfl
    rotate_left
    ·simp only [Act.put, List.setIfInBounds_toArray, List.set_cons_zero, List.set_cons_succ, i64_w, i32_w]
     rfl
    refine take_ (i := 1) (N := some 23) (v := ?_) (a' := ?_) #[true, true, false, false, false] rfl rfl KR (fun _ _ _ h => h) (Or.inl ⟨by rfl, ?_⟩) hHeld ?_ ?_
    rotate_left
    ·rintro w' ⟨s0, s1, s2, s3⟩
     go_simp
     with_reducible rfl
    rotate_left
    ·simp only [Act.put, List.setIfInBounds_toArray, List.set_cons_zero, List.set_cons_succ, i64_w, i32_w]
     rfl
    refine one_ (i := 2) (N := some 24) (mL 5 7) rfl rfl KR (by decide) (fun K hK => ?_)
    refine goes_ Tryz.func31 KR rfl #[.agg #[.int .i64 a0_0, .slice A0_1 l0_1.length c0_1]] (by rfl) rfl rfl TA ?_
    with_reducible refine (laws_toCache.calls k a0_0 _ _ l0_1 t1077 t1078 _ ?side1 ?side2 A26.out).mono ?_
    (case side1 => exact CW ((Kd.C_below HR0_1.out HB.out)))
    (case side2 => exact HC0_1.out)
    rintro e w62 ⟨v1079, rfl, ho0, hb⟩
    refine ⟨_, rfl, ?_⟩
    have HO1080 := Aside0.mk (Kd.S_lower (Kd.S_new' (Kd.S_new' ho0 (Kd.S_lt (by (with_reducible repeat (first | apply Kd.S_alloc | apply Kd.S_drewN | apply Kd.S_drew)); exact HO1069.out))) (Kd.S_lt (by (with_reducible repeat (first | apply Kd.S_alloc | apply Kd.S_drewN | apply Kd.S_drew)); exact HO1074.out))) (below_size TB))
    replace HO1069 := Aside0.mk (Kd.S_elder' (by (with_reducible repeat (first | apply Kd.S_alloc | apply Kd.S_drewN | apply Kd.S_drew)); exact HO1069.out) (Kd.S_base ho0) hb)
    replace HO1074 := Aside0.mk (Kd.S_elder' (by (with_reducible repeat (first | apply Kd.S_alloc | apply Kd.S_drewN | apply Kd.S_drew)); exact HO1074.out) (Kd.S_base ho0) hb)
    replace BK1064 := KB BK1064 hb
    replace BK1075 := KB BK1075 hb
    replace HB := BS hb
    (try clear hb)
    (try clear hb2)
    (try clear hk)
    (try clear hi)
    (try clear ho0)
    obtain ⟨Ao63, co63, eo63⟩ := Kd.S_slice HO1080.out
    (first | subst eo63 | (injection eo63 with f1_ f2_ f3_; have f4_ := f1_.symm; have f5_ := f3_.symm; clear f1_ f2_ f3_; subst f4_; subst f5_))
    refine hK.out _ _ ⟨bc 0 BK1075, bc 1 BK1075, bc 0 BK1064, bc 1 BK1064⟩ (fun hHeld => ?_)
    clear hK K
    refine nA ?_
    refine one_ (i := 3) (N := some 25) (mL 5 15) rfl rfl KR (by decide) (fun K hK => ?_)
    refine goes_ Tryz.func33 KR rfl #[.agg #[.int .i64 t1071, .slice Ao59 t1072.length co59], .agg #[.int .i64 t1077, .slice Ao63 t1078.length co63]] (by rfl) rfl rfl TA ?_
    with_reducible refine (laws_eqCache.calls k t1071 _ _ t1072 t1077 _ _ t1078 false _ ?side1 ?side2 ?side3 ?side4 A27.out).mono ?_
    (case side1 => exact CW ((Kd.S_reads' HO1074.out).2.2))
    (case side2 => exact (Kd.S_reads' HO1074.out).2.1)
    (case side3 => exact CW ((Kd.S_reads' HO1080.out).2.2))
    (case side4 => exact (Kd.S_reads' HO1080.out).2.1)
    rintro e w64 ⟨rfl, hb⟩
    refine ⟨_, rfl, ?_⟩
    replace HO1069 := Aside0.mk (Kd.S_below (by (with_reducible repeat (first | apply Kd.S_alloc | apply Kd.S_drewN | apply Kd.S_drew)); exact HO1069.out) hb)
    replace HO1074 := Aside0.mk (Kd.S_below (by (with_reducible repeat (first | apply Kd.S_alloc | apply Kd.S_drewN | apply Kd.S_drew)); exact HO1074.out) hb)
    replace HO1080 := Aside0.mk (Kd.S_below (by (with_reducible repeat (first | apply Kd.S_alloc | apply Kd.S_drewN | apply Kd.S_drew)); exact HO1080.out) hb)
    replace BK1064 := KB BK1064 hb
    replace BK1075 := KB BK1075 hb
    replace HB := BS hb
    (try clear hb)
    (try clear hb2)
    (try clear hk)
    (try clear hi)
    refine hK.out _ _ ⟨bc 0 BK1075, bc 1 BK1075, bc 0 BK1064, bc 1 BK1064⟩ (fun hHeld => ?_)
    clear hK K
    refine nA ?_
    refine pure_ (i := 4) (N := some 26) (v := ?_) (a' := ?_) #[true, true, true, true, true] rfl rfl KR (fun _ _ _ h => h) (Or.inl ⟨by rfl, ?_⟩) ?_ ?_
    rotate_left
    ·intro w'
     go_simp
     with_reducible rfl
    rotate_left
    ·simp only [Act.put, List.setIfInBounds_toArray, List.set_cons_zero, List.set_cons_succ, i64_w, i32_w]
     rfl
    refine done_ KR ?_
    try go_wp2
    go_ret
    exact ⟨TE, TB⟩

/-- THE ONE PURE STATEMENT of laws_FnExactGoodCache. -/
def laws_FnExactGoodCache.Pure : Prop := ∀ (a0_0 : Int) (l0_1 : List (S_LEntry)), ((Lit.int .i64 a0_0).wf = true) → (l0_1.length ≤ maxLen ∧ ∀ x_ ∈ l0_1, WF_LEntry x_) → ∃ k, laws_FnExactGoodCache.f k a0_0 l0_1 = some true
end
section
/-! ### spec_l6List: function 62 -/
def spec_l6List.l0 : Nat → List (S_Record) → List (S_Record) → Int → Int → Option (Bool)
 | 0, _, _, _, _ => none
 | k + 1, x0, x5, x6, x7 => if x7 < x6 then (if 0 ≤ x7 then (if x7 < (x5.length : Int) then ((spec_GoodRecord.f k ((rd_TRecord x5 x7).f0) ((rd_TRecord x5 x7).f1) ((rd_TRecord x5 x7).f2) ((rd_TRecord x5 x7).f3)).bind fun t218 => (if t218 = true then (if x7 > 0 then (if 0 ≤ (wrap64 (x7 - 1)) then (if (wrap64 (x7 - 1)) < (x0.length : Int) then ((spec_l3Compare.f k ((rd_TRecord x0 (wrap64 (x7 - 1))).f0) ((rd_TRecord x0 (wrap64 (x7 - 1))).f1) ((rd_TRecord x0 (wrap64 (x7 - 1))).f2) ((rd_TRecord x0 (wrap64 (x7 - 1))).f3) ((rd_TRecord x5 x7).f0) ((rd_TRecord x5 x7).f1) ((rd_TRecord x5 x7).f2) ((rd_TRecord x5 x7).f3)).bind fun t220 => (if t220 ≥ 0 then (some false) else (spec_l6List.l0 k x0 x5 x6 (wrap64 (x7 + 1))))) else (none)) else (none)) else (spec_l6List.l0 k x0 x5 x6 (wrap64 (x7 + 1)))) else (some false))) else (none)) else (none)) else (some (decide ((x0.length : Int) ≤ 40)))
def spec_l6List.f (k : Nat) (l0 : List (S_Record)) : Option (Bool) := spec_l6List.l0 k l0 l0 (l0.length : Int) 0
def spec_l6List.T4 : Bool × List (List Nat × List Nat) := (true, [([], []), ([0], [0]), ([1], [1]), ([2, 1], [2]), ([3], [3]), ([4, 3], [3, 4]), ([5, 3, 3], [3, 5]), ([6], [6]), ([6], [6]), ([8, 6], [6, 8]), ([7, 9, 6], [6, 7, 9]), ([10, 6], [6, 10]), ([6], [6]), ([11, 12, 6, 6], [6, 11, 12]), ([13, 6], [6, 13]), ([6, 14, 3], [3, 6, 14]), ([3, 15], [3, 15])])
def spec_l6List.B4 : List Nat := [0, 1, 3, 7, 15, 31, 63, 127, 127, 383, 1023, 2047, 127, 8191, 16383, 32767, 65535]
theorem spec_l6List.tab4 : rtab .any (opsOf Tryz.f62 4) = spec_l6List.T4 := by kernel_rfl
theorem spec_l6List.bits4 : waitsOk spec_l6List.T4.2 spec_l6List.B4 = true := by kernel_rfl
theorem spec_l6List.calls (k : Nat) (A0 : Option Addr) (c0 : Nat) (l0 : List (S_Record)) (r : Bool) (w : World) (hr0 : Kd.C k_Record w A0 l0.length l0) (hc0 : l0.length ≤ c0) (h : spec_l6List.f k l0 = some r) :
  Calls Tryz.prog 62 #[.slice A0 l0.length c0] w fun e w' => e = .returned (.bool r) ∧ Below w.heap.size w w' := by
 have hu93 := Tryz.underlying93
 have HR0 := Aside0.mk hr0
 have HC0 := Aside0.mk hc0
 clear hr0 hc0
 have HB := Aside0.mk (Below.refl w.heap.size w)
 have H : (spec_l6List.l0 k l0 l0 (l0.length : Int) 0) = some r := h
 clear h
 have H' := Aside0.mk H
 clear H
 go_enter Tryz.func62, Tryz.ntmps62
 go_wp2
 go_loopg [7] k (fun kq v7 w' => ∃ (x7_1 : Int), v7 = .int .i64 x7_1 ∧ Aside0 (spec_l6List.l0 kq l0 l0 (l0.length : Int) x7_1 = some r) ∧ Aside0 (kq ≤ k) ∧ Aside0 (Below w.heap.size w w'))
 case atStart => exact ⟨(0), TF, H', ⟨Nat.le_refl _⟩, ⟨TB⟩⟩
 case round =>
  clear H'
  obtain ⟨x7_1, rfl, HA, HK1, HB⟩ := hrel
  cases gk with
  | zero => exact absurd HA.out (by simp [spec_l6List.l0])
  | succ k1 =>
   have H := HA.out
   clear HA
   simp only [spec_l6List.l0] at H
   by_cases c2 : x7_1 < (l0.length : Int)
   ·rw [if_pos c2] at H
    have c2b0 : decide (x7_1 < (l0.length : Int)) = true := decide_eq_true c2
    clear c2
    obtain ⟨c3, H⟩ := ifn H
    have c3b0 : decide (0 ≤ x7_1) = true := decide_eq_true c3
    clear c3
    obtain ⟨c4, H⟩ := ifn H
    have c4b0 : decide (x7_1 < (l0.length : Int)) = true := decide_eq_true c4
    clear c4
    obtain ⟨t218, A5, H⟩ := bnd H
    by_cases c6 : t218 = true
    ·subst c6
     replace H := ift H
     by_cases c7 : x7_1 > 0
     ·rw [if_pos c7] at H
      have c7b0 : decide (0 < x7_1) = true := decide_eq_true c7
      clear c7
      obtain ⟨ji8, hji8⟩ : ∃ j_ : Int, (wrap64 (x7_1 - 1)) = j_ := ⟨_, rfl⟩
      replace H : (if 0 ≤ (ji8) then (if (ji8) < (l0.length : Int) then ((spec_l3Compare.f k1 ((rd_TRecord l0 (ji8)).f0) ((rd_TRecord l0 (ji8)).f1) ((rd_TRecord l0 (ji8)).f2) ((rd_TRecord l0 (ji8)).f3) ((rd_TRecord l0 x7_1).f0) ((rd_TRecord l0 x7_1).f1) ((rd_TRecord l0 x7_1).f2) ((rd_TRecord l0 x7_1).f3)).bind fun t220 => (if t220 ≥ 0 then (some false) else (spec_l6List.l0 k1 l0 l0 (l0.length : Int) (wrap64 (x7_1 + 1))))) else (none)) else (none)) = some r := by first | (rw [hji8] at H; exact H) | (simp only [hji8] at H ⊢; exact H)
      (try rw [hji8] at A5)
      have hji8w : (IntKind.i64.wrap (x7_1 - 1)) = ji8 := (i64_w _).trans hji8
      obtain ⟨c9, H⟩ := ifn H
      have c9b0 : decide (0 ≤ (ji8)) = true := decide_eq_true c9
      clear c9
      obtain ⟨c10, H⟩ := ifn H
      have c10b0 : decide ((ji8) < (l0.length : Int)) = true := decide_eq_true c10
      clear c10
      obtain ⟨t220, A11, H⟩ := bnd H
      by_cases c12 : t220 ≥ 0
      ·rw [if_pos c12] at H
       have c12b0 : decide (0 ≤ t220) = true := decide_eq_true c12
       clear c12
       obtain rfl := Option.some.inj H
       have p216 : 0 ≤ (x7_1 : Int) := TD
       have q216 : x7_1 < (l0.length : Int) := TD
       obtain ⟨ad216, e216, hx216_0, hx216_1, hx216_2, hx216_3⟩ := at_TRecord (Kd.C_below HR0.out HB.out) x7_1 p216 q216
       cases e216
       replace p216 := eq_true p216
       replace q216 := eq_true q216
       try go_wp2_with (first | ((with_reducible refine gate_dst (N := 4) rfl ?_); refine bE 4 #[.string (⟨#[]⟩ : ByteArray), .int .i64 0, .int .i64 0, .string (⟨#[]⟩ : ByteArray)] 93 ?_; intro gb217 hg w13 hbox hb; have BK217 := Aside0.mk (hbox); have GE217 := bG hg; replace HB := BS hb; clear hb hbox hg; have hcz14 := cz4 BK217))
       have n0_ : Aside0 (((((w13.setCell ⟨gb217, 0, none⟩ (.string ((rd_TRecord l0 x7_1).f0))).setCell ⟨gb217, 1, none⟩ (.int .i64 ((rd_TRecord l0 x7_1).f1))).setCell ⟨gb217, 2, none⟩ (.int .i64 ((rd_TRecord l0 x7_1).f2))).setCell ⟨gb217, 3, none⟩ (.string ((rd_TRecord l0 x7_1).f3))).heap[gb217]? = some (.cells #[.string ((rd_TRecord l0 x7_1).f0), .int .i64 ((rd_TRecord l0 x7_1).f1), .int .i64 ((rd_TRecord l0 x7_1).f2), .string ((rd_TRecord l0 x7_1).f3)] 93 (0, 0))) := ⟨TS⟩
       have n1_ : Aside0 (Below w.heap.size w ((((w13.setCell ⟨gb217, 0, none⟩ (.string ((rd_TRecord l0 x7_1).f0))).setCell ⟨gb217, 1, none⟩ (.int .i64 ((rd_TRecord l0 x7_1).f1))).setCell ⟨gb217, 2, none⟩ (.int .i64 ((rd_TRecord l0 x7_1).f2))).setCell ⟨gb217, 3, none⟩ (.string ((rd_TRecord l0 x7_1).f3)))) := ⟨TB⟩
       (try clear BK217)
       (try clear HB)
       generalize ((((w13.setCell ⟨gb217, 0, none⟩ (.string ((rd_TRecord l0 x7_1).f0))).setCell ⟨gb217, 1, none⟩ (.int .i64 ((rd_TRecord l0 x7_1).f1))).setCell ⟨gb217, 2, none⟩ (.int .i64 ((rd_TRecord l0 x7_1).f2))).setCell ⟨gb217, 3, none⟩ (.string ((rd_TRecord l0 x7_1).f3))) = w15 at n0_ n1_ ⊢
       have BK217 := n0_
       have HB := n1_
       clear n0_ n1_
       replace BK217 := Aside0.mk (blk_drew BK217.out)
       replace HB := Aside0.mk (below_drew1 HB.out)
       have p219 : 0 ≤ ((ji8) : Int) := TD
       have q219 : (ji8) < (l0.length : Int) := TD
       obtain ⟨ad219, e219, hx219_0, hx219_1, hx219_2, hx219_3⟩ := at_TRecord HR0.out (ji8) p219 q219
       have hw219_3 := hx219_3
       have hw219_2 := hx219_2
       have hw219_1 := hx219_1
       have hw219_0 := hx219_0
       obtain rfl : ad216 = ad219 := (by injection e219)
       replace hx219_0 := hBc HB hx219_0
       replace hx219_1 := hBc HB hx219_1
       replace hx219_2 := hBc HB hx219_2
       replace hx219_3 := hBc HB hx219_3
       replace p219 := eq_true p219
       replace q219 := eq_true q219
       refine start_ (n := 17) (S := fun w' => w'.cell? ⟨gb217, 0, none⟩ = some (.string ((rd_TRecord l0 x7_1).f0)) ∧ w'.cell? ⟨gb217, 1, none⟩ = some (.int .i64 ((rd_TRecord l0 x7_1).f1)) ∧ w'.cell? ⟨gb217, 2, none⟩ = some (.int .i64 ((rd_TRecord l0 x7_1).f2)) ∧ w'.cell? ⟨gb217, 3, none⟩ = some (.string ((rd_TRecord l0 x7_1).f3)) ∧ w'.cell? (ad216.add (((ji8)).toNat * 4)) = some (.string ((rd_TRecord l0 (ji8)).f0)) ∧ w'.cell? ⟨(ad216.add (((ji8)).toNat * 4)).block, (ad216.add (((ji8)).toNat * 4)).off + 1, none⟩ = some (.int .i64 ((rd_TRecord l0 (ji8)).f1)) ∧ w'.cell? ⟨(ad216.add (((ji8)).toNat * 4)).block, (ad216.add (((ji8)).toNat * 4)).off + 2, none⟩ = some (.int .i64 ((rd_TRecord l0 (ji8)).f2)) ∧ w'.cell? ⟨(ad216.add (((ji8)).toNat * 4)).block, (ad216.add (((ji8)).toNat * 4)).off + 3, none⟩ = some (.string ((rd_TRecord l0 (ji8)).f3))) (ds := []) #[false, false, false, false, false, false, false, false, false, false, false, false, false, false, false, false, false] KR rfl rfl ⟨bc 0 BK217, bc 1 BK217, bc 2 BK217, bc 3 BK217, ((HB.out.cell (World.block_lt_of_cell? w _ hw219_0)).trans hw219_0), ((HB.out.cell (World.block_lt_of_cell? w _ hw219_1)).trans hw219_1), ((HB.out.cell (World.block_lt_of_cell? w _ hw219_2)).trans hw219_2), ((HB.out.cell (World.block_lt_of_cell? w _ hw219_3)).trans hw219_3)⟩ (fun hHeld => ?_); refine with_tabW spec_l6List.tab4 spec_l6List.bits4 (fun HT_ HW_ => ?_)
       generalize w15.drew = w16 at BK217 HB hx219_0 hx219_1 hx219_2 hx219_3 hHeld ⊢
       refine tA 0 12 (mL 17 1) HT_ HW_ hHeld rfl rfl (by rintro w' ⟨s0, s1, s2, s3, s4, s5, s6, s7⟩; go_simp; with_reducible rfl) ?_
       refine one_ (i := 1) (N := some 13) (mL 17 3) rfl rfl (one_of HT_.out KR) (by decide) (fun K hK => ?_)
       refine goes_ Tryz.func118 KR rfl #[.agg #[.string ((rd_TRecord l0 x7_1).f0), .int .i64 ((rd_TRecord l0 x7_1).f1), .int .i64 ((rd_TRecord l0 x7_1).f2), .string ((rd_TRecord l0 x7_1).f3)]] (by rfl) rfl rfl TA ?_
       with_reducible refine (spec_GoodRecord.calls k1 ((rd_TRecord l0 x7_1).f0) ((rd_TRecord l0 x7_1).f1) ((rd_TRecord l0 x7_1).f2) ((rd_TRecord l0 x7_1).f3) true _ A5.out).mono ?_
       rintro e w17 ⟨rfl, hb⟩
       refine ⟨_, rfl, ?_⟩
       replace BK217 := KB BK217 hb
       replace HB := BS hb
       (try clear hb)
       (try clear hb2)
       (try clear hk)
       (try clear hi)
       refine hK.out _ _ ⟨bc 0 BK217, bc 1 BK217, bc 2 BK217, bc 3 BK217, ((HB.out.cell (World.block_lt_of_cell? w _ hw219_0)).trans hw219_0), ((HB.out.cell (World.block_lt_of_cell? w _ hw219_1)).trans hw219_1), ((HB.out.cell (World.block_lt_of_cell? w _ hw219_2)).trans hw219_2), ((HB.out.cell (World.block_lt_of_cell? w _ hw219_3)).trans hw219_3)⟩ (fun hHeld => ?_)
       clear hK K
       refine nA ?_
       refine pA 2 14 (mL 17 7) HT_ rfl rfl ?_
       refine pA 3 15 (mL 17 15) HT_ rfl rfl ?_
       refine pA 4 16 (mL 17 31) HT_ rfl rfl ?_
       refine pA 5 17 (mL 17 63) HT_ rfl rfl ?_
       refine pA 6 18 (mL 17 127) HT_ rfl rfl ?_
       refine pA 7 19 (mL 17 255) HT_ rfl rfl ?_
       refine pA 8 20 (mL 17 511) HT_ rfl rfl ?_
       refine pA 9 21 (mL 17 1023) HT_ rfl rfl ?_
       refine pA 10 22 (mL 17 2047) HT_ rfl rfl ?_
       refine tA 11 23 (mL 17 4095) HT_ HW_ hHeld rfl rfl (by rintro w' ⟨s0, s1, s2, s3, s4, s5, s6, s7⟩; go_simp; with_reducible rfl) ?_
       refine tA 12 24 (mL 17 8191) HT_ HW_ hHeld rfl rfl (by rintro w' ⟨s0, s1, s2, s3, s4, s5, s6, s7⟩; go_simp; with_reducible rfl) ?_
       refine one_ (i := 13) (N := some 25) (mL 17 16383) rfl rfl (one_of HT_.out KR) (by decide) (fun K hK => ?_)
       refine goes_ Tryz.func119 KR rfl #[.agg #[.string ((rd_TRecord l0 (ji8)).f0), .int .i64 ((rd_TRecord l0 (ji8)).f1), .int .i64 ((rd_TRecord l0 (ji8)).f2), .string ((rd_TRecord l0 (ji8)).f3)], .agg #[.string ((rd_TRecord l0 x7_1).f0), .int .i64 ((rd_TRecord l0 x7_1).f1), .int .i64 ((rd_TRecord l0 x7_1).f2), .string ((rd_TRecord l0 x7_1).f3)]] (by rfl) rfl rfl (by (try simp only [List.map_toArray, List.map_cons, List.map_nil]); first | done | (simp only [hji8]; rfl) | rfl | (simp only [List.length_drop, List.length_take]; rfl)) ?_
       with_reducible refine (spec_l3Compare.calls k1 ((rd_TRecord l0 (ji8)).f0) ((rd_TRecord l0 (ji8)).f1) ((rd_TRecord l0 (ji8)).f2) ((rd_TRecord l0 (ji8)).f3) ((rd_TRecord l0 x7_1).f0) ((rd_TRecord l0 x7_1).f1) ((rd_TRecord l0 x7_1).f2) ((rd_TRecord l0 x7_1).f3) t220 _ A11.out).mono ?_
       rintro e w18 ⟨rfl, hb⟩
       refine ⟨_, rfl, ?_⟩
       replace BK217 := KB BK217 hb
       replace HB := BS hb
       (try clear hb)
       (try clear hb2)
       (try clear hk)
       (try clear hi)
       refine hK.out _ _ ⟨bc 0 BK217, bc 1 BK217, bc 2 BK217, bc 3 BK217, ((HB.out.cell (World.block_lt_of_cell? w _ hw219_0)).trans hw219_0), ((HB.out.cell (World.block_lt_of_cell? w _ hw219_1)).trans hw219_1), ((HB.out.cell (World.block_lt_of_cell? w _ hw219_2)).trans hw219_2), ((HB.out.cell (World.block_lt_of_cell? w _ hw219_3)).trans hw219_3)⟩ (fun hHeld => ?_)
       clear hK K
       refine nA ?_
       refine pA 14 26 (mL 17 32767) HT_ rfl rfl ?_
       refine pA 15 27 (mL 17 65535) HT_ rfl rfl ?_
       refine pA 16 28 (mL 17 131071) HT_ rfl rfl ?_
       refine done_ (done_of HT_.out KR) ?_
       try go_wp2
       go_ret
       exact ⟨by first | rfl | (simp [errW_none, errW_some] <;> rfl) | (simp only [← hji8]; first | rfl | (simp [errW_none, errW_some] <;> rfl)) | (simp [*, errW_none, errW_some] <;> rfl), TB⟩
      ·rw [if_neg c12] at H
       have c12b0 : decide (0 ≤ t220) = false := decide_eq_false c12
       clear c12
       have H' := Aside0.mk H
       clear H
       have p216 : 0 ≤ (x7_1 : Int) := TD
       have q216 : x7_1 < (l0.length : Int) := TD
       obtain ⟨ad216, e216, hx216_0, hx216_1, hx216_2, hx216_3⟩ := at_TRecord (Kd.C_below HR0.out HB.out) x7_1 p216 q216
       cases e216
       replace p216 := eq_true p216
       replace q216 := eq_true q216
       try go_wp2_with (first | ((with_reducible refine gate_dst (N := 4) rfl ?_); refine bE 4 #[.string (⟨#[]⟩ : ByteArray), .int .i64 0, .int .i64 0, .string (⟨#[]⟩ : ByteArray)] 93 ?_; intro gb217 hg w19 hbox hb; have BK217 := Aside0.mk (hbox); have GE217 := bG hg; replace HB := BS hb; clear hb hbox hg; have hcz20 := cz4 BK217))
       have n0_ : Aside0 (((((w19.setCell ⟨gb217, 0, none⟩ (.string ((rd_TRecord l0 x7_1).f0))).setCell ⟨gb217, 1, none⟩ (.int .i64 ((rd_TRecord l0 x7_1).f1))).setCell ⟨gb217, 2, none⟩ (.int .i64 ((rd_TRecord l0 x7_1).f2))).setCell ⟨gb217, 3, none⟩ (.string ((rd_TRecord l0 x7_1).f3))).heap[gb217]? = some (.cells #[.string ((rd_TRecord l0 x7_1).f0), .int .i64 ((rd_TRecord l0 x7_1).f1), .int .i64 ((rd_TRecord l0 x7_1).f2), .string ((rd_TRecord l0 x7_1).f3)] 93 (0, 0))) := ⟨TS⟩
       have n1_ : Aside0 (Below w.heap.size w ((((w19.setCell ⟨gb217, 0, none⟩ (.string ((rd_TRecord l0 x7_1).f0))).setCell ⟨gb217, 1, none⟩ (.int .i64 ((rd_TRecord l0 x7_1).f1))).setCell ⟨gb217, 2, none⟩ (.int .i64 ((rd_TRecord l0 x7_1).f2))).setCell ⟨gb217, 3, none⟩ (.string ((rd_TRecord l0 x7_1).f3)))) := ⟨TB⟩
       (try clear BK217)
       (try clear HB)
       generalize ((((w19.setCell ⟨gb217, 0, none⟩ (.string ((rd_TRecord l0 x7_1).f0))).setCell ⟨gb217, 1, none⟩ (.int .i64 ((rd_TRecord l0 x7_1).f1))).setCell ⟨gb217, 2, none⟩ (.int .i64 ((rd_TRecord l0 x7_1).f2))).setCell ⟨gb217, 3, none⟩ (.string ((rd_TRecord l0 x7_1).f3))) = w21 at n0_ n1_ ⊢
       have BK217 := n0_
       have HB := n1_
       clear n0_ n1_
       replace BK217 := Aside0.mk (blk_drew BK217.out)
       replace HB := Aside0.mk (below_drew1 HB.out)
       have p219 : 0 ≤ ((ji8) : Int) := TD
       have q219 : (ji8) < (l0.length : Int) := TD
       obtain ⟨ad219, e219, hx219_0, hx219_1, hx219_2, hx219_3⟩ := at_TRecord HR0.out (ji8) p219 q219
       have hw219_3 := hx219_3
       have hw219_2 := hx219_2
       have hw219_1 := hx219_1
       have hw219_0 := hx219_0
       obtain rfl : ad216 = ad219 := (by injection e219)
       replace hx219_0 := hBc HB hx219_0
       replace hx219_1 := hBc HB hx219_1
       replace hx219_2 := hBc HB hx219_2
       replace hx219_3 := hBc HB hx219_3
       replace p219 := eq_true p219
       replace q219 := eq_true q219
       refine start_ (n := 17) (S := fun w' => w'.cell? ⟨gb217, 0, none⟩ = some (.string ((rd_TRecord l0 x7_1).f0)) ∧ w'.cell? ⟨gb217, 1, none⟩ = some (.int .i64 ((rd_TRecord l0 x7_1).f1)) ∧ w'.cell? ⟨gb217, 2, none⟩ = some (.int .i64 ((rd_TRecord l0 x7_1).f2)) ∧ w'.cell? ⟨gb217, 3, none⟩ = some (.string ((rd_TRecord l0 x7_1).f3)) ∧ w'.cell? (ad216.add (((ji8)).toNat * 4)) = some (.string ((rd_TRecord l0 (ji8)).f0)) ∧ w'.cell? ⟨(ad216.add (((ji8)).toNat * 4)).block, (ad216.add (((ji8)).toNat * 4)).off + 1, none⟩ = some (.int .i64 ((rd_TRecord l0 (ji8)).f1)) ∧ w'.cell? ⟨(ad216.add (((ji8)).toNat * 4)).block, (ad216.add (((ji8)).toNat * 4)).off + 2, none⟩ = some (.int .i64 ((rd_TRecord l0 (ji8)).f2)) ∧ w'.cell? ⟨(ad216.add (((ji8)).toNat * 4)).block, (ad216.add (((ji8)).toNat * 4)).off + 3, none⟩ = some (.string ((rd_TRecord l0 (ji8)).f3))) (ds := []) #[false, false, false, false, false, false, false, false, false, false, false, false, false, false, false, false, false] KR rfl rfl ⟨bc 0 BK217, bc 1 BK217, bc 2 BK217, bc 3 BK217, ((HB.out.cell (World.block_lt_of_cell? w _ hw219_0)).trans hw219_0), ((HB.out.cell (World.block_lt_of_cell? w _ hw219_1)).trans hw219_1), ((HB.out.cell (World.block_lt_of_cell? w _ hw219_2)).trans hw219_2), ((HB.out.cell (World.block_lt_of_cell? w _ hw219_3)).trans hw219_3)⟩ (fun hHeld => ?_); refine with_tabW spec_l6List.tab4 spec_l6List.bits4 (fun HT_ HW_ => ?_)
       generalize w21.drew = w22 at BK217 HB hx219_0 hx219_1 hx219_2 hx219_3 hHeld ⊢
       refine tA 0 12 (mL 17 1) HT_ HW_ hHeld rfl rfl (by rintro w' ⟨s0, s1, s2, s3, s4, s5, s6, s7⟩; go_simp; with_reducible rfl) ?_
       refine one_ (i := 1) (N := some 13) (mL 17 3) rfl rfl (one_of HT_.out KR) (by decide) (fun K hK => ?_)
       refine goes_ Tryz.func118 KR rfl #[.agg #[.string ((rd_TRecord l0 x7_1).f0), .int .i64 ((rd_TRecord l0 x7_1).f1), .int .i64 ((rd_TRecord l0 x7_1).f2), .string ((rd_TRecord l0 x7_1).f3)]] (by rfl) rfl rfl TA ?_
       with_reducible refine (spec_GoodRecord.calls k1 ((rd_TRecord l0 x7_1).f0) ((rd_TRecord l0 x7_1).f1) ((rd_TRecord l0 x7_1).f2) ((rd_TRecord l0 x7_1).f3) true _ A5.out).mono ?_
       rintro e w23 ⟨rfl, hb⟩
       refine ⟨_, rfl, ?_⟩
       replace BK217 := KB BK217 hb
       replace HB := BS hb
       (try clear hb)
       (try clear hb2)
       (try clear hk)
       (try clear hi)
       refine hK.out _ _ ⟨bc 0 BK217, bc 1 BK217, bc 2 BK217, bc 3 BK217, ((HB.out.cell (World.block_lt_of_cell? w _ hw219_0)).trans hw219_0), ((HB.out.cell (World.block_lt_of_cell? w _ hw219_1)).trans hw219_1), ((HB.out.cell (World.block_lt_of_cell? w _ hw219_2)).trans hw219_2), ((HB.out.cell (World.block_lt_of_cell? w _ hw219_3)).trans hw219_3)⟩ (fun hHeld => ?_)
       clear hK K
       refine nA ?_
       refine pA 2 14 (mL 17 7) HT_ rfl rfl ?_
       refine pA 3 15 (mL 17 15) HT_ rfl rfl ?_
       refine pA 4 16 (mL 17 31) HT_ rfl rfl ?_
       refine pA 5 17 (mL 17 63) HT_ rfl rfl ?_
       refine pA 6 18 (mL 17 127) HT_ rfl rfl ?_
       refine pA 7 19 (mL 17 255) HT_ rfl rfl ?_
       refine pA 8 20 (mL 17 511) HT_ rfl rfl ?_
       refine pA 9 21 (mL 17 1023) HT_ rfl rfl ?_
       refine pA 10 22 (mL 17 2047) HT_ rfl rfl ?_
       refine tA 11 23 (mL 17 4095) HT_ HW_ hHeld rfl rfl (by rintro w' ⟨s0, s1, s2, s3, s4, s5, s6, s7⟩; go_simp; with_reducible rfl) ?_
       refine tA 12 24 (mL 17 8191) HT_ HW_ hHeld rfl rfl (by rintro w' ⟨s0, s1, s2, s3, s4, s5, s6, s7⟩; go_simp; with_reducible rfl) ?_
       refine one_ (i := 13) (N := some 25) (mL 17 16383) rfl rfl (one_of HT_.out KR) (by decide) (fun K hK => ?_)
       refine goes_ Tryz.func119 KR rfl #[.agg #[.string ((rd_TRecord l0 (ji8)).f0), .int .i64 ((rd_TRecord l0 (ji8)).f1), .int .i64 ((rd_TRecord l0 (ji8)).f2), .string ((rd_TRecord l0 (ji8)).f3)], .agg #[.string ((rd_TRecord l0 x7_1).f0), .int .i64 ((rd_TRecord l0 x7_1).f1), .int .i64 ((rd_TRecord l0 x7_1).f2), .string ((rd_TRecord l0 x7_1).f3)]] (by rfl) rfl rfl (by (try simp only [List.map_toArray, List.map_cons, List.map_nil]); first | done | (simp only [hji8]; rfl) | rfl | (simp only [List.length_drop, List.length_take]; rfl)) ?_
       with_reducible refine (spec_l3Compare.calls k1 ((rd_TRecord l0 (ji8)).f0) ((rd_TRecord l0 (ji8)).f1) ((rd_TRecord l0 (ji8)).f2) ((rd_TRecord l0 (ji8)).f3) ((rd_TRecord l0 x7_1).f0) ((rd_TRecord l0 x7_1).f1) ((rd_TRecord l0 x7_1).f2) ((rd_TRecord l0 x7_1).f3) t220 _ A11.out).mono ?_
       rintro e w24 ⟨rfl, hb⟩
       refine ⟨_, rfl, ?_⟩
       replace BK217 := KB BK217 hb
       replace HB := BS hb
       (try clear hb)
       (try clear hb2)
       (try clear hk)
       (try clear hi)
       refine hK.out _ _ ⟨bc 0 BK217, bc 1 BK217, bc 2 BK217, bc 3 BK217, ((HB.out.cell (World.block_lt_of_cell? w _ hw219_0)).trans hw219_0), ((HB.out.cell (World.block_lt_of_cell? w _ hw219_1)).trans hw219_1), ((HB.out.cell (World.block_lt_of_cell? w _ hw219_2)).trans hw219_2), ((HB.out.cell (World.block_lt_of_cell? w _ hw219_3)).trans hw219_3)⟩ (fun hHeld => ?_)
       clear hK K
       refine nA ?_
       refine pA 14 26 (mL 17 32767) HT_ rfl rfl ?_
       refine pA 15 27 (mL 17 65535) HT_ rfl rfl ?_
       refine pA 16 28 (mL 17 131071) HT_ rfl rfl ?_
       refine done_ (done_of HT_.out KR) ?_
       try go_wp2
       go_roundg k1
       case measure => have := HK1.out; omega
       case rel => exact ⟨(wrap64 (x7_1 + 1)), TF, H', ⟨TM⟩, ⟨TB⟩⟩
     ·rw [if_neg c7] at H
      have c7b0 : decide (0 < x7_1) = false := decide_eq_false c7
      clear c7
      have H' := Aside0.mk H
      clear H
      have p216 : 0 ≤ (x7_1 : Int) := TD
      have q216 : x7_1 < (l0.length : Int) := TD
      obtain ⟨ad216, e216, hx216_0, hx216_1, hx216_2, hx216_3⟩ := at_TRecord (Kd.C_below HR0.out HB.out) x7_1 p216 q216
      cases e216
      replace p216 := eq_true p216
      replace q216 := eq_true q216
      try go_wp2_with (first | ((with_reducible refine gate_dst (N := 4) rfl ?_); refine bE 4 #[.string (⟨#[]⟩ : ByteArray), .int .i64 0, .int .i64 0, .string (⟨#[]⟩ : ByteArray)] 93 ?_; intro gb217 hg w25 hbox hb; have BK217 := Aside0.mk (hbox); have GE217 := bG hg; replace HB := BS hb; clear hb hbox hg; have hcz26 := cz4 BK217))
      have n0_ : Aside0 (((((w25.setCell ⟨gb217, 0, none⟩ (.string ((rd_TRecord l0 x7_1).f0))).setCell ⟨gb217, 1, none⟩ (.int .i64 ((rd_TRecord l0 x7_1).f1))).setCell ⟨gb217, 2, none⟩ (.int .i64 ((rd_TRecord l0 x7_1).f2))).setCell ⟨gb217, 3, none⟩ (.string ((rd_TRecord l0 x7_1).f3))).heap[gb217]? = some (.cells #[.string ((rd_TRecord l0 x7_1).f0), .int .i64 ((rd_TRecord l0 x7_1).f1), .int .i64 ((rd_TRecord l0 x7_1).f2), .string ((rd_TRecord l0 x7_1).f3)] 93 (0, 0))) := ⟨TS⟩
      have n1_ : Aside0 (Below w.heap.size w ((((w25.setCell ⟨gb217, 0, none⟩ (.string ((rd_TRecord l0 x7_1).f0))).setCell ⟨gb217, 1, none⟩ (.int .i64 ((rd_TRecord l0 x7_1).f1))).setCell ⟨gb217, 2, none⟩ (.int .i64 ((rd_TRecord l0 x7_1).f2))).setCell ⟨gb217, 3, none⟩ (.string ((rd_TRecord l0 x7_1).f3)))) := ⟨TB⟩
      (try clear BK217)
      (try clear HB)
      generalize ((((w25.setCell ⟨gb217, 0, none⟩ (.string ((rd_TRecord l0 x7_1).f0))).setCell ⟨gb217, 1, none⟩ (.int .i64 ((rd_TRecord l0 x7_1).f1))).setCell ⟨gb217, 2, none⟩ (.int .i64 ((rd_TRecord l0 x7_1).f2))).setCell ⟨gb217, 3, none⟩ (.string ((rd_TRecord l0 x7_1).f3))) = w27 at n0_ n1_ ⊢
      have BK217 := n0_
      have HB := n1_
      clear n0_ n1_
      replace BK217 := Aside0.mk (blk_drew BK217.out)
      replace HB := Aside0.mk (below_drew1 HB.out)
      refine start_ (n := 17) (S := fun w' => w'.cell? ⟨gb217, 0, none⟩ = some (.string ((rd_TRecord l0 x7_1).f0)) ∧ w'.cell? ⟨gb217, 1, none⟩ = some (.int .i64 ((rd_TRecord l0 x7_1).f1)) ∧ w'.cell? ⟨gb217, 2, none⟩ = some (.int .i64 ((rd_TRecord l0 x7_1).f2)) ∧ w'.cell? ⟨gb217, 3, none⟩ = some (.string ((rd_TRecord l0 x7_1).f3))) (ds := []) #[false, false, false, false, false, false, false, false, false, false, false, false, false, false, false, false, false] KR rfl rfl ⟨bc 0 BK217, bc 1 BK217, bc 2 BK217, bc 3 BK217⟩ (fun hHeld => ?_); refine with_tabW spec_l6List.tab4 spec_l6List.bits4 (fun HT_ HW_ => ?_)
      generalize w27.drew = w28 at BK217 HB hHeld ⊢
      refine tA 0 12 (mL 17 1) HT_ HW_ hHeld rfl rfl (by rintro w' ⟨s0, s1, s2, s3⟩; go_simp; with_reducible rfl) ?_
      refine one_ (i := 1) (N := some 13) (mL 17 3) rfl rfl (one_of HT_.out KR) (by decide) (fun K hK => ?_)
      refine goes_ Tryz.func118 KR rfl #[.agg #[.string ((rd_TRecord l0 x7_1).f0), .int .i64 ((rd_TRecord l0 x7_1).f1), .int .i64 ((rd_TRecord l0 x7_1).f2), .string ((rd_TRecord l0 x7_1).f3)]] (by rfl) rfl rfl TA ?_
      with_reducible refine (spec_GoodRecord.calls k1 ((rd_TRecord l0 x7_1).f0) ((rd_TRecord l0 x7_1).f1) ((rd_TRecord l0 x7_1).f2) ((rd_TRecord l0 x7_1).f3) true _ A5.out).mono ?_
      rintro e w29 ⟨rfl, hb⟩
      refine ⟨_, rfl, ?_⟩
      replace BK217 := KB BK217 hb
      replace HB := BS hb
      (try clear hb)
      (try clear hb2)
      (try clear hk)
      (try clear hi)
      refine hK.out _ _ ⟨bc 0 BK217, bc 1 BK217, bc 2 BK217, bc 3 BK217⟩ (fun hHeld => ?_)
      clear hK K
      refine nA ?_
      refine pA 2 14 (mL 17 7) HT_ rfl rfl ?_
      refine pA 3 15 (mL 17 15) HT_ rfl rfl ?_
      refine pA 4 16 (mL 17 31) HT_ rfl rfl ?_
      refine pA 5 17 (mL 17 63) HT_ rfl rfl ?_
      refine pA 6 18 (mL 17 127) HT_ rfl rfl ?_
      refine pU 7 19 (mL 17 255) HT_ rfl rfl ?_
      refine pU 8 20 (mL 17 511) HT_ rfl rfl ?_
      refine pU 9 21 (mL 17 1023) HT_ rfl rfl ?_
      refine pU 10 22 (mL 17 2047) HT_ rfl rfl ?_
      refine pU 11 23 (mL 17 4095) HT_ rfl rfl ?_
      refine pU 12 24 (mL 17 8191) HT_ rfl rfl ?_
      refine pU 13 25 (mL 17 16383) HT_ rfl rfl ?_
      refine pU 14 26 (mL 17 32767) HT_ rfl rfl ?_
      refine pA 15 27 (mL 17 65535) HT_ rfl rfl ?_
      refine pA 16 28 (mL 17 131071) HT_ rfl rfl ?_
      refine done_ (done_of HT_.out KR) ?_
      try go_wp2
      go_roundg k1
      case measure => have := HK1.out; omega
      case rel => exact ⟨(wrap64 (x7_1 + 1)), TF, H', ⟨TM⟩, ⟨TB⟩⟩
    ·replace c6 := Bool.eq_false_iff.mpr c6
     subst c6
     replace H := iff' H
     obtain rfl := Option.some.inj H
     have p216 : 0 ≤ (x7_1 : Int) := TD
     have q216 : x7_1 < (l0.length : Int) := TD
     obtain ⟨ad216, e216, hx216_0, hx216_1, hx216_2, hx216_3⟩ := at_TRecord (Kd.C_below HR0.out HB.out) x7_1 p216 q216
     cases e216
     replace p216 := eq_true p216
     replace q216 := eq_true q216
     try go_wp2_with (first | ((with_reducible refine gate_dst (N := 4) rfl ?_); refine bE 4 #[.string (⟨#[]⟩ : ByteArray), .int .i64 0, .int .i64 0, .string (⟨#[]⟩ : ByteArray)] 93 ?_; intro gb217 hg w30 hbox hb; have BK217 := Aside0.mk (hbox); have GE217 := bG hg; replace HB := BS hb; clear hb hbox hg; have hcz31 := cz4 BK217))
     have n0_ : Aside0 (((((w30.setCell ⟨gb217, 0, none⟩ (.string ((rd_TRecord l0 x7_1).f0))).setCell ⟨gb217, 1, none⟩ (.int .i64 ((rd_TRecord l0 x7_1).f1))).setCell ⟨gb217, 2, none⟩ (.int .i64 ((rd_TRecord l0 x7_1).f2))).setCell ⟨gb217, 3, none⟩ (.string ((rd_TRecord l0 x7_1).f3))).heap[gb217]? = some (.cells #[.string ((rd_TRecord l0 x7_1).f0), .int .i64 ((rd_TRecord l0 x7_1).f1), .int .i64 ((rd_TRecord l0 x7_1).f2), .string ((rd_TRecord l0 x7_1).f3)] 93 (0, 0))) := ⟨TS⟩
     have n1_ : Aside0 (Below w.heap.size w ((((w30.setCell ⟨gb217, 0, none⟩ (.string ((rd_TRecord l0 x7_1).f0))).setCell ⟨gb217, 1, none⟩ (.int .i64 ((rd_TRecord l0 x7_1).f1))).setCell ⟨gb217, 2, none⟩ (.int .i64 ((rd_TRecord l0 x7_1).f2))).setCell ⟨gb217, 3, none⟩ (.string ((rd_TRecord l0 x7_1).f3)))) := ⟨TB⟩
     (try clear BK217)
     (try clear HB)
     generalize ((((w30.setCell ⟨gb217, 0, none⟩ (.string ((rd_TRecord l0 x7_1).f0))).setCell ⟨gb217, 1, none⟩ (.int .i64 ((rd_TRecord l0 x7_1).f1))).setCell ⟨gb217, 2, none⟩ (.int .i64 ((rd_TRecord l0 x7_1).f2))).setCell ⟨gb217, 3, none⟩ (.string ((rd_TRecord l0 x7_1).f3))) = w32 at n0_ n1_ ⊢
     have BK217 := n0_
     have HB := n1_
     clear n0_ n1_
     replace BK217 := Aside0.mk (blk_drew BK217.out)
     replace HB := Aside0.mk (below_drew1 HB.out)
     refine start_ (n := 17) (S := fun w' => w'.cell? ⟨gb217, 0, none⟩ = some (.string ((rd_TRecord l0 x7_1).f0)) ∧ w'.cell? ⟨gb217, 1, none⟩ = some (.int .i64 ((rd_TRecord l0 x7_1).f1)) ∧ w'.cell? ⟨gb217, 2, none⟩ = some (.int .i64 ((rd_TRecord l0 x7_1).f2)) ∧ w'.cell? ⟨gb217, 3, none⟩ = some (.string ((rd_TRecord l0 x7_1).f3))) (ds := []) #[false, false, false, false, false, false, false, false, false, false, false, false, false, false, false, false, false] KR rfl rfl ⟨bc 0 BK217, bc 1 BK217, bc 2 BK217, bc 3 BK217⟩ (fun hHeld => ?_); refine with_tabW spec_l6List.tab4 spec_l6List.bits4 (fun HT_ HW_ => ?_)
     generalize w32.drew = w33 at BK217 HB hHeld ⊢
     refine tA 0 12 (mL 17 1) HT_ HW_ hHeld rfl rfl (by rintro w' ⟨s0, s1, s2, s3⟩; go_simp; with_reducible rfl) ?_
     refine one_ (i := 1) (N := some 13) (mL 17 3) rfl rfl (one_of HT_.out KR) (by decide) (fun K hK => ?_)
     refine goes_ Tryz.func118 KR rfl #[.agg #[.string ((rd_TRecord l0 x7_1).f0), .int .i64 ((rd_TRecord l0 x7_1).f1), .int .i64 ((rd_TRecord l0 x7_1).f2), .string ((rd_TRecord l0 x7_1).f3)]] (by rfl) rfl rfl TA ?_
     with_reducible refine (spec_GoodRecord.calls k1 ((rd_TRecord l0 x7_1).f0) ((rd_TRecord l0 x7_1).f1) ((rd_TRecord l0 x7_1).f2) ((rd_TRecord l0 x7_1).f3) false _ A5.out).mono ?_
     rintro e w34 ⟨rfl, hb⟩
     refine ⟨_, rfl, ?_⟩
     replace BK217 := KB BK217 hb
     replace HB := BS hb
     (try clear hb)
     (try clear hb2)
     (try clear hk)
     (try clear hi)
     refine hK.out _ _ ⟨bc 0 BK217, bc 1 BK217, bc 2 BK217, bc 3 BK217⟩ (fun hHeld => ?_)
     clear hK K
     refine nA ?_
     refine pA 2 14 (mL 17 7) HT_ rfl rfl ?_
     refine pA 3 15 (mL 17 15) HT_ rfl rfl ?_
     refine pU 4 16 (mL 17 31) HT_ rfl rfl ?_
     refine pU 5 17 (mL 17 63) HT_ rfl rfl ?_
     refine pU 6 18 (mL 17 127) HT_ rfl rfl ?_
     refine pU 7 19 (mL 17 255) HT_ rfl rfl ?_
     refine pU 8 20 (mL 17 511) HT_ rfl rfl ?_
     refine pU 9 21 (mL 17 1023) HT_ rfl rfl ?_
     refine pU 10 22 (mL 17 2047) HT_ rfl rfl ?_
     refine pU 11 23 (mL 17 4095) HT_ rfl rfl ?_
     refine pU 12 24 (mL 17 8191) HT_ rfl rfl ?_
     refine pU 13 25 (mL 17 16383) HT_ rfl rfl ?_
     refine pU 14 26 (mL 17 32767) HT_ rfl rfl ?_
     refine pU 15 27 (mL 17 65535) HT_ rfl rfl ?_
     refine pA 16 28 (mL 17 131071) HT_ rfl rfl ?_
     refine done_ (done_of HT_.out KR) ?_
     try go_wp2
     go_ret
     exact ⟨TE, TB⟩
   ·rw [if_neg c2] at H
    have c2b0 : decide (x7_1 < (l0.length : Int)) = false := decide_eq_false c2
    clear c2
    obtain rfl := Option.some.inj H
    go_wp2
    go_ret
    exact ⟨TE, TB⟩
end
end Go.Proofs.YthohohfmdieohaaGreatDoor.Pp
