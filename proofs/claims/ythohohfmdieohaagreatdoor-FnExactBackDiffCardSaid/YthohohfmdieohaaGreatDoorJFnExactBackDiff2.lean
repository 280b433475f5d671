/- The functions that the law reaches, one Lean function and its proof for each; written by wip/pp of this workplace, joined by claimit.py. -/
import Derived.Test.YthohohfmdieohaaGreatDoorProg
import Derived.Below
import Derived.Deep.Draws
import Derived.Deep.AppendLies
import Derived.Maps.AppendAt
import Derived.OwnWalk
import Derived.Laws.BytesArg
import Derived.Laws.MakeOwn
import Derived.Laws.OwnMore
import Derived.Deep.OwnRows
import Derived.Tactics
import Derived.Lib.ConvBytes
import Derived.Laws.Slices
import Derived.WalkKit
import Derived.KernelRfl
import Derived.RowKit3
import Derived.Deep.LoopGhost
import Derived.Deep.QuietTactic
import Derived.BigQuiet
import Derived.WideLaws
import Derived.Deep.DeepCutAuto
import Derived.Deep.CutBlock
import Derived.Deep.RegionHeld3
import Derived.Laws.Rows
import Derived.Lib.AppendStr
import Derived.ArgAppend
import Derived.Laws.IdiomCopy
import Derived.OrdersHeld
import Derived.Laws.BitsLemmas
import Derived.RowKit
import Derived.Test.YthohohfmdieohaaGreatDoorKFnExactBackDiffW
import Derived.Test.YthohohfmdieohaaGreatDoorJFnExactBackDiff0
import Derived.Test.YthohohfmdieohaaGreatDoorJFnExactBackDiff1
namespace Go.Proofs.YthohohfmdieohaaGreatDoor.Pp
open Go.RowKit Go.Proofs.YthohohfmdieohaaGreatDoorW.PrintWords Go.Proofs.YthohohfmdieohaaGreatDoorW.PrintLast Go.Proofs.YthohohfmdieohaaGreatDoorW.PrintMore
attribute [local go_sem] max2_int min2_int max_two min_two max_three min_three max_four min_four   -- for this text's walks alone
set_option linter.unusedVariables false
set_option linter.unusedSimpArgs false
set_option maxHeartbeats 8000000
set_option maxRecDepth 100000

section
/-! ### impl_areRising: function 121 -/
def impl_areRising.l0 : Nat → List (S_Record) → List (S_Record) → Int → Int → Option (Bool)
 | 0, _, _, _, _ => none
 | k + 1, x0, x5, x6, x7 => if x7 < x6 then (if 0 ≤ x7 then (if x7 < (x5.length : Int) then ((impl_GoodRecord.f k ((rd_TRecord x5 x7).f0) ((rd_TRecord x5 x7).f1) ((rd_TRecord x5 x7).f2) ((rd_TRecord x5 x7).f3)).bind fun t388 => (if t388 = true then (if x7 > 0 then (if 0 ≤ (wrap64 (x7 - 1)) then (if (wrap64 (x7 - 1)) < (x0.length : Int) then ((impl_compareRecords.f k ((rd_TRecord x0 (wrap64 (x7 - 1))).f0) ((rd_TRecord x0 (wrap64 (x7 - 1))).f1) ((rd_TRecord x0 (wrap64 (x7 - 1))).f2) ((rd_TRecord x0 (wrap64 (x7 - 1))).f3) ((rd_TRecord x5 x7).f0) ((rd_TRecord x5 x7).f1) ((rd_TRecord x5 x7).f2) ((rd_TRecord x5 x7).f3)).bind fun t390 => (if t390 ≥ 0 then (some false) else (impl_areRising.l0 k x0 x5 x6 (wrap64 (x7 + 1))))) else (none)) else (none)) else (impl_areRising.l0 k x0 x5 x6 (wrap64 (x7 + 1)))) else (some false))) else (none)) else (none)) else (some true)
def impl_areRising.f (k : Nat) (l0 : List (S_Record)) : Option (Bool) := impl_areRising.l0 k l0 l0 (l0.length : Int) 0
theorem impl_areRising.mono_l : ∀ k, (∀ y0 y1 y2 y3, LeO (impl_areRising.l0 k y0 y1 y2 y3) (impl_areRising.l0 (k + 1) y0 y1 y2 y3))
 | 0 => fun _ _ _ _ r h => by simp [impl_areRising.l0] at h
 | k + 1 => by
  have ih0 := impl_areRising.mono_l k
  ·intro y0 y1 y2 y3
   unfold impl_areRising.l0
   repeat' first
   | (with_reducible exact ih0 _ _ _ _)
   | (with_reducible exact impl_GoodRecord.mono _ _ _ _ _)
   | (with_reducible exact impl_compareRecords.mono _ _ _ _ _ _ _ _ _)
   | (with_reducible exact LeO.refl _)
   | (with_reducible exact LeO.none _)
   | (with_reducible refine LeO.ite ?_ ?_)
   | (with_reducible refine LeO.bind ?_ (fun _ => ?_))
   | exact ih0 _ _ _ _
   | exact impl_GoodRecord.mono _ _ _ _ _
   | exact impl_compareRecords.mono _ _ _ _ _ _ _ _ _
   | exact LeO.none _
   | refine LeO.ite ?_ ?_
   | refine LeO.bind ?_ (fun _ => ?_)
theorem impl_areRising.mono : ∀ a0 k, LeO (impl_areRising.f k a0) (impl_areRising.f (k + 1) a0) := by
 intro a0 k
 have ih0 := impl_areRising.mono_l k
 unfold impl_areRising.f
 repeat' first
   | (with_reducible exact ih0 _ _ _ _)
   | (with_reducible exact impl_GoodRecord.mono _ _ _ _ _)
   | (with_reducible exact impl_compareRecords.mono _ _ _ _ _ _ _ _ _)
   | (with_reducible exact LeO.refl _)
   | (with_reducible exact LeO.none _)
   | (with_reducible refine LeO.ite ?_ ?_)
   | (with_reducible refine LeO.bind ?_ (fun _ => ?_))
   | exact ih0 _ _ _ _
   | exact impl_GoodRecord.mono _ _ _ _ _
   | exact impl_compareRecords.mono _ _ _ _ _ _ _ _ _
   | exact LeO.none _
   | refine LeO.ite ?_ ?_
   | refine LeO.bind ?_ (fun _ => ?_)
def impl_areRising.T4 : Bool × List (List Nat × List Nat) := (true, [([], []), ([0], [0]), ([1], [1]), ([2, 1], [2]), ([3], [3]), ([4, 3], [3, 4]), ([5, 3, 3], [3, 5]), ([6], [6]), ([6], [6]), ([8, 6], [6, 8]), ([7, 9, 6], [6, 7, 9]), ([10, 6], [6, 10]), ([6], [6]), ([11, 12, 6, 6], [6, 11, 12]), ([13, 6], [6, 13]), ([6, 14, 3], [3, 6, 14]), ([3, 15], [3, 15])])
def impl_areRising.B4 : List Nat := [0, 1, 3, 7, 15, 31, 63, 127, 127, 383, 1023, 2047, 127, 8191, 16383, 32767, 65535]
theorem impl_areRising.tab4 : rtab .any (opsOf Tryz.f121 4) = impl_areRising.T4 := by kernel_rfl
theorem impl_areRising.bits4 : waitsOk impl_areRising.T4.2 impl_areRising.B4 = true := by kernel_rfl
theorem impl_areRising.calls (k : Nat) (A0 : Option Addr) (c0 : Nat) (l0 : List (S_Record)) (r : Bool) (w : World) (hr0 : Kd.C k_Record w A0 l0.length l0) (hc0 : l0.length ≤ c0) (hG_ : Glob w) (h : impl_areRising.f k l0 = some r) :
  Calls Tryz.prog 121 #[.slice A0 l0.length c0] w fun e w' => e = .returned (.bool r) ∧ Below w.heap.size w w' := by
 have hu93 := Tryz.underlying93
 have HR0 := Aside0.mk hr0
 have HC0 := Aside0.mk hc0
 clear hr0 hc0
 have HGL := Aside0.mk hG_
 clear hG_
 have HB := Aside0.mk (Below.refl w.heap.size w)
 have H : (impl_areRising.l0 k l0 l0 (l0.length : Int) 0) = some r := h
 clear h
 have H' := Aside0.mk H
 clear H
 go_enter Tryz.func121, Tryz.ntmps121
 go_wp2
 go_loopg [7] k (fun kq v7 w' => ∃ (x7_1 : Int), v7 = .int .i64 x7_1 ∧ Aside0 (impl_areRising.l0 kq l0 l0 (l0.length : Int) x7_1 = some r) ∧ Aside0 (kq ≤ k) ∧ Aside0 (Below w.heap.size w w'))
 case atStart => exact ⟨(0), TF, H', ⟨Nat.le_refl _⟩, ⟨TB⟩⟩
 case round =>
  clear H'
  try clear c1
  obtain ⟨x7_1, rfl, HA, HK1, HB⟩ := hrel
  cases gk with
  | zero => exact absurd HA.out (by simp [impl_areRising.l0])
  | succ k1 =>
   have H := HA.out
   clear HA
   simp only [impl_areRising.l0] at H
   by_cases c2 : x7_1 < (l0.length : Int)
   ·rw [if_pos c2] at H
    have c2b0 : decide (x7_1 < (l0.length : Int)) = true := decide_eq_true c2
    clear c2
    obtain ⟨c3, H⟩ := ifn H
    have c3b0 : decide (0 ≤ x7_1) = true := decide_eq_true c3
    clear c3
    obtain ⟨c4, H⟩ := ifn H
    have c4b0 : decide (x7_1 < (l0.length : Int)) = true := decide_eq_true c4
    clear c4
    obtain ⟨t388, A5, H⟩ := bnd H
    by_cases c6 : t388 = true
    ·subst c6
     replace H := ift H
     by_cases c7 : x7_1 > 0
     ·rw [if_pos c7] at H
      have c7b0 : decide (0 < x7_1) = true := decide_eq_true c7
      clear c7
      obtain ⟨ji8, hji8⟩ : ∃ j_ : Int, (wrap64 (x7_1 - 1)) = j_ := ⟨_, rfl⟩
      replace H : (if 0 ≤ (ji8) then (if (ji8) < (l0.length : Int) then ((impl_compareRecords.f k1 ((rd_TRecord l0 (ji8)).f0) ((rd_TRecord l0 (ji8)).f1) ((rd_TRecord l0 (ji8)).f2) ((rd_TRecord l0 (ji8)).f3) ((rd_TRecord l0 x7_1).f0) ((rd_TRecord l0 x7_1).f1) ((rd_TRecord l0 x7_1).f2) ((rd_TRecord l0 x7_1).f3)).bind fun t390 => (if t390 ≥ 0 then (some false) else (impl_areRising.l0 k1 l0 l0 (l0.length : Int) (wrap64 (x7_1 + 1))))) else (none)) else (none)) = some r := by first | (rw [hji8] at H; exact H) | (simp only [hji8] at H ⊢; exact H)
      (try rw [hji8] at A5)
      have hji8w : (IntKind.i64.wrap (x7_1 - 1)) = ji8 := (i64_w _).trans hji8
      obtain ⟨c9, H⟩ := ifn H
      have c9b0 : decide (0 ≤ (ji8)) = true := decide_eq_true c9
      clear c9
      obtain ⟨c10, H⟩ := ifn H
      have c10b0 : decide ((ji8) < (l0.length : Int)) = true := decide_eq_true c10
      clear c10
      obtain ⟨t390, A11, H⟩ := bnd H
      by_cases c12 : t390 ≥ 0
      ·rw [if_pos c12] at H
       have c12b0 : decide (0 ≤ t390) = true := decide_eq_true c12
       clear c12
       obtain rfl := Option.some.inj H
       have p386 : 0 ≤ (x7_1 : Int) := TD
       have q386 : x7_1 < (l0.length : Int) := TD
       obtain ⟨ad386, e386, hx386_0, hx386_1, hx386_2, hx386_3⟩ := at_TRecord (Kd.C_below HR0.out HB.out) x7_1 p386 q386
       cases e386
       replace p386 := eq_true p386
       replace q386 := eq_true q386
       try go_wp2_with (first | ((with_reducible refine gate_dst (N := 4) rfl ?_); refine bE 4 #[.string (⟨#[]⟩ : ByteArray), .int .i64 0, .int .i64 0, .string (⟨#[]⟩ : ByteArray)] 93 ?_; intro gb387 hg w13 hbox hb; have BK387 := Aside0.mk (hbox); have GE387 := bG hg; replace HB := BS hb; clear hb hbox hg; have hcz14 := cz4 BK387))
       have n0_ : Aside0 (((((w13.setCell ⟨gb387, 0, none⟩ (.string ((rd_TRecord l0 x7_1).f0))).setCell ⟨gb387, 1, none⟩ (.int .i64 ((rd_TRecord l0 x7_1).f1))).setCell ⟨gb387, 2, none⟩ (.int .i64 ((rd_TRecord l0 x7_1).f2))).setCell ⟨gb387, 3, none⟩ (.string ((rd_TRecord l0 x7_1).f3))).heap[gb387]? = some (.cells #[.string ((rd_TRecord l0 x7_1).f0), .int .i64 ((rd_TRecord l0 x7_1).f1), .int .i64 ((rd_TRecord l0 x7_1).f2), .string ((rd_TRecord l0 x7_1).f3)] 93 (0, 0))) := ⟨TS⟩
       have n1_ : Aside0 (Below w.heap.size w ((((w13.setCell ⟨gb387, 0, none⟩ (.string ((rd_TRecord l0 x7_1).f0))).setCell ⟨gb387, 1, none⟩ (.int .i64 ((rd_TRecord l0 x7_1).f1))).setCell ⟨gb387, 2, none⟩ (.int .i64 ((rd_TRecord l0 x7_1).f2))).setCell ⟨gb387, 3, none⟩ (.string ((rd_TRecord l0 x7_1).f3)))) := ⟨TB⟩
       (try clear BK387)
       (try clear HB)
       generalize ((((w13.setCell ⟨gb387, 0, none⟩ (.string ((rd_TRecord l0 x7_1).f0))).setCell ⟨gb387, 1, none⟩ (.int .i64 ((rd_TRecord l0 x7_1).f1))).setCell ⟨gb387, 2, none⟩ (.int .i64 ((rd_TRecord l0 x7_1).f2))).setCell ⟨gb387, 3, none⟩ (.string ((rd_TRecord l0 x7_1).f3))) = w15 at n0_ n1_ ⊢
       have BK387 := n0_
       have HB := n1_
       clear n0_ n1_
       replace BK387 := Aside0.mk (blk_drew BK387.out)
       replace HB := Aside0.mk (below_drew1 HB.out)
       have p389 : 0 ≤ ((ji8) : Int) := TD
       have q389 : (ji8) < (l0.length : Int) := TD
       obtain ⟨ad389, e389, hx389_0, hx389_1, hx389_2, hx389_3⟩ := at_TRecord HR0.out (ji8) p389 q389
       have hw389_3 := hx389_3
       have hw389_2 := hx389_2
       have hw389_1 := hx389_1
       have hw389_0 := hx389_0
       obtain rfl : ad386 = ad389 := (by injection e389)
       replace hx389_0 := hBc HB hx389_0
       replace hx389_1 := hBc HB hx389_1
       replace hx389_2 := hBc HB hx389_2
       replace hx389_3 := hBc HB hx389_3
       replace p389 := eq_true p389
       replace q389 := eq_true q389
       refine start_ (n := 17) (S := fun w' => w'.cell? ⟨gb387, 0, none⟩ = some (.string ((rd_TRecord l0 x7_1).f0)) ∧ w'.cell? ⟨gb387, 1, none⟩ = some (.int .i64 ((rd_TRecord l0 x7_1).f1)) ∧ w'.cell? ⟨gb387, 2, none⟩ = some (.int .i64 ((rd_TRecord l0 x7_1).f2)) ∧ w'.cell? ⟨gb387, 3, none⟩ = some (.string ((rd_TRecord l0 x7_1).f3)) ∧ w'.cell? (ad386.add (((ji8)).toNat * 4)) = some (.string ((rd_TRecord l0 (ji8)).f0)) ∧ w'.cell? ⟨(ad386.add (((ji8)).toNat * 4)).block, (ad386.add (((ji8)).toNat * 4)).off + 1, none⟩ = some (.int .i64 ((rd_TRecord l0 (ji8)).f1)) ∧ w'.cell? ⟨(ad386.add (((ji8)).toNat * 4)).block, (ad386.add (((ji8)).toNat * 4)).off + 2, none⟩ = some (.int .i64 ((rd_TRecord l0 (ji8)).f2)) ∧ w'.cell? ⟨(ad386.add (((ji8)).toNat * 4)).block, (ad386.add (((ji8)).toNat * 4)).off + 3, none⟩ = some (.string ((rd_TRecord l0 (ji8)).f3))) (ds := []) #[false, false, false, false, false, false, false, false, false, false, false, false, false, false, false, false, false] KR rfl rfl ⟨bc 0 BK387, bc 1 BK387, bc 2 BK387, bc 3 BK387, ((HB.out.cell (World.block_lt_of_cell? w _ hw389_0)).trans hw389_0), ((HB.out.cell (World.block_lt_of_cell? w _ hw389_1)).trans hw389_1), ((HB.out.cell (World.block_lt_of_cell? w _ hw389_2)).trans hw389_2), ((HB.out.cell (World.block_lt_of_cell? w _ hw389_3)).trans hw389_3)⟩ (fun hHeld => ?_); refine with_tabW impl_areRising.tab4 impl_areRising.bits4 (fun HT_ HW_ => ?_)
       generalize w15.drew = w16 at BK387 HB hx389_0 hx389_1 hx389_2 hx389_3 hHeld ⊢
       refine tA 0 12 (mL 17 1) HT_ HW_ hHeld rfl rfl (by rintro w' ⟨s0, s1, s2, s3, s4, s5, s6, s7⟩; go_simp; with_reducible rfl) ?_
       refine one_ (i := 1) (N := some 13) (mL 17 3) rfl rfl (one_of HT_.out KR) (by decide) (fun K hK => ?_)
       refine goes_ Tryz.func162 KR rfl #[.agg #[.string ((rd_TRecord l0 x7_1).f0), .int .i64 ((rd_TRecord l0 x7_1).f1), .int .i64 ((rd_TRecord l0 x7_1).f2), .string ((rd_TRecord l0 x7_1).f3)]] (by rfl) rfl rfl TA ?_
       with_reducible refine (impl_GoodRecord.calls k1 ((rd_TRecord l0 x7_1).f0) ((rd_TRecord l0 x7_1).f1) ((rd_TRecord l0 x7_1).f2) ((rd_TRecord l0 x7_1).f3) true _ ?side1 A5.out).mono ?_
       (case side1 => exact GW HGL)
       rintro e w17 ⟨rfl, hb⟩
       refine ⟨_, rfl, ?_⟩
       replace BK387 := KB BK387 hb
       replace HB := BS hb
       (try clear hb)
       (try clear hb2)
       (try clear hk)
       (try clear hi)
       refine hK.out _ _ ⟨bc 0 BK387, bc 1 BK387, bc 2 BK387, bc 3 BK387, ((HB.out.cell (World.block_lt_of_cell? w _ hw389_0)).trans hw389_0), ((HB.out.cell (World.block_lt_of_cell? w _ hw389_1)).trans hw389_1), ((HB.out.cell (World.block_lt_of_cell? w _ hw389_2)).trans hw389_2), ((HB.out.cell (World.block_lt_of_cell? w _ hw389_3)).trans hw389_3)⟩ (fun hHeld => ?_)
       clear hK K
       refine nA ?_
       refine pA 2 14 (mL 17 7) HT_ rfl rfl ?_
       refine pA 3 15 (mL 17 15) HT_ rfl rfl ?_
       refine pA 4 16 (mL 17 31) HT_ rfl rfl ?_
       refine pA 5 17 (mL 17 63) HT_ rfl rfl ?_
       refine pA 6 18 (mL 17 127) HT_ rfl rfl ?_
       refine pA 7 19 (mL 17 255) HT_ rfl rfl ?_
       refine pA 8 20 (mL 17 511) HT_ rfl rfl ?_
       refine pA 9 21 (mL 17 1023) HT_ rfl rfl ?_
       refine pA 10 22 (mL 17 2047) HT_ rfl rfl ?_
       refine tA 11 23 (mL 17 4095) HT_ HW_ hHeld rfl rfl (by rintro w' ⟨s0, s1, s2, s3, s4, s5, s6, s7⟩; go_simp; with_reducible rfl) ?_
       refine tA 12 24 (mL 17 8191) HT_ HW_ hHeld rfl rfl (by rintro w' ⟨s0, s1, s2, s3, s4, s5, s6, s7⟩; go_simp; with_reducible rfl) ?_
       refine one_ (i := 13) (N := some 25) (mL 17 16383) rfl rfl (one_of HT_.out KR) (by decide) (fun K hK => ?_)
       refine goes_ Tryz.func163 KR rfl #[.agg #[.string ((rd_TRecord l0 (ji8)).f0), .int .i64 ((rd_TRecord l0 (ji8)).f1), .int .i64 ((rd_TRecord l0 (ji8)).f2), .string ((rd_TRecord l0 (ji8)).f3)], .agg #[.string ((rd_TRecord l0 x7_1).f0), .int .i64 ((rd_TRecord l0 x7_1).f1), .int .i64 ((rd_TRecord l0 x7_1).f2), .string ((rd_TRecord l0 x7_1).f3)]] (by rfl) rfl rfl (by (try simp only [List.map_toArray, List.map_cons, List.map_nil]); first | done | (simp only [hji8]; rfl) | rfl | (simp only [List.length_drop, List.length_take]; rfl)) ?_
       with_reducible refine (impl_compareRecords.calls k1 ((rd_TRecord l0 (ji8)).f0) ((rd_TRecord l0 (ji8)).f1) ((rd_TRecord l0 (ji8)).f2) ((rd_TRecord l0 (ji8)).f3) ((rd_TRecord l0 x7_1).f0) ((rd_TRecord l0 x7_1).f1) ((rd_TRecord l0 x7_1).f2) ((rd_TRecord l0 x7_1).f3) t390 _ ?side1 A11.out).mono ?_
       (case side1 => exact GW HGL)
       rintro e w18 ⟨rfl, hb⟩
       refine ⟨_, rfl, ?_⟩
       replace BK387 := KB BK387 hb
       replace HB := BS hb
       (try clear hb)
       (try clear hb2)
       (try clear hk)
       (try clear hi)
       refine hK.out _ _ ⟨bc 0 BK387, bc 1 BK387, bc 2 BK387, bc 3 BK387, ((HB.out.cell (World.block_lt_of_cell? w _ hw389_0)).trans hw389_0), ((HB.out.cell (World.block_lt_of_cell? w _ hw389_1)).trans hw389_1), ((HB.out.cell (World.block_lt_of_cell? w _ hw389_2)).trans hw389_2), ((HB.out.cell (World.block_lt_of_cell? w _ hw389_3)).trans hw389_3)⟩ (fun hHeld => ?_)
       clear hK K
       refine nA ?_
       refine pA 14 26 (mL 17 32767) HT_ rfl rfl ?_
       refine pA 15 27 (mL 17 65535) HT_ rfl rfl ?_
       refine pA 16 28 (mL 17 131071) HT_ rfl rfl ?_
       refine done_ (done_of HT_.out KR) ?_
       try go_wp2
       go_ret
       exact ⟨by first | rfl | (simp [errW_none, errW_some] <;> rfl) | (simp only [← hji8]; first | rfl | (simp [errW_none, errW_some] <;> rfl)) | (simp [*, errW_none, errW_some] <;> rfl), TB⟩
      ·rw [if_neg c12] at H
       have c12b0 : decide (0 ≤ t390) = false := decide_eq_false c12
       clear c12
       have H' := Aside0.mk H
       clear H
       have p386 : 0 ≤ (x7_1 : Int) := TD
       have q386 : x7_1 < (l0.length : Int) := TD
       obtain ⟨ad386, e386, hx386_0, hx386_1, hx386_2, hx386_3⟩ := at_TRecord (Kd.C_below HR0.out HB.out) x7_1 p386 q386
       cases e386
       replace p386 := eq_true p386
       replace q386 := eq_true q386
       try go_wp2_with (first | ((with_reducible refine gate_dst (N := 4) rfl ?_); refine bE 4 #[.string (⟨#[]⟩ : ByteArray), .int .i64 0, .int .i64 0, .string (⟨#[]⟩ : ByteArray)] 93 ?_; intro gb387 hg w19 hbox hb; have BK387 := Aside0.mk (hbox); have GE387 := bG hg; replace HB := BS hb; clear hb hbox hg; have hcz20 := cz4 BK387))
       have n0_ : Aside0 (((((w19.setCell ⟨gb387, 0, none⟩ (.string ((rd_TRecord l0 x7_1).f0))).setCell ⟨gb387, 1, none⟩ (.int .i64 ((rd_TRecord l0 x7_1).f1))).setCell ⟨gb387, 2, none⟩ (.int .i64 ((rd_TRecord l0 x7_1).f2))).setCell ⟨gb387, 3, none⟩ (.string ((rd_TRecord l0 x7_1).f3))).heap[gb387]? = some (.cells #[.string ((rd_TRecord l0 x7_1).f0), .int .i64 ((rd_TRecord l0 x7_1).f1), .int .i64 ((rd_TRecord l0 x7_1).f2), .string ((rd_TRecord l0 x7_1).f3)] 93 (0, 0))) := ⟨TS⟩
       have n1_ : Aside0 (Below w.heap.size w ((((w19.setCell ⟨gb387, 0, none⟩ (.string ((rd_TRecord l0 x7_1).f0))).setCell ⟨gb387, 1, none⟩ (.int .i64 ((rd_TRecord l0 x7_1).f1))).setCell ⟨gb387, 2, none⟩ (.int .i64 ((rd_TRecord l0 x7_1).f2))).setCell ⟨gb387, 3, none⟩ (.string ((rd_TRecord l0 x7_1).f3)))) := ⟨TB⟩
       (try clear BK387)
       (try clear HB)
       generalize ((((w19.setCell ⟨gb387, 0, none⟩ (.string ((rd_TRecord l0 x7_1).f0))).setCell ⟨gb387, 1, none⟩ (.int .i64 ((rd_TRecord l0 x7_1).f1))).setCell ⟨gb387, 2, none⟩ (.int .i64 ((rd_TRecord l0 x7_1).f2))).setCell ⟨gb387, 3, none⟩ (.string ((rd_TRecord l0 x7_1).f3))) = w21 at n0_ n1_ ⊢
       have BK387 := n0_
       have HB := n1_
       clear n0_ n1_
       replace BK387 := Aside0.mk (blk_drew BK387.out)
       replace HB := Aside0.mk (below_drew1 HB.out)
       have p389 : 0 ≤ ((ji8) : Int) := TD
       have q389 : (ji8) < (l0.length : Int) := TD
       obtain ⟨ad389, e389, hx389_0, hx389_1, hx389_2, hx389_3⟩ := at_TRecord HR0.out (ji8) p389 q389
       have hw389_3 := hx389_3
       have hw389_2 := hx389_2
       have hw389_1 := hx389_1
       have hw389_0 := hx389_0
       obtain rfl : ad386 = ad389 := (by injection e389)
       replace hx389_0 := hBc HB hx389_0
       replace hx389_1 := hBc HB hx389_1
       replace hx389_2 := hBc HB hx389_2
       replace hx389_3 := hBc HB hx389_3
       replace p389 := eq_true p389
       replace q389 := eq_true q389
       refine start_ (n := 17) (S := fun w' => w'.cell? ⟨gb387, 0, none⟩ = some (.string ((rd_TRecord l0 x7_1).f0)) ∧ w'.cell? ⟨gb387, 1, none⟩ = some (.int .i64 ((rd_TRecord l0 x7_1).f1)) ∧ w'.cell? ⟨gb387, 2, none⟩ = some (.int .i64 ((rd_TRecord l0 x7_1).f2)) ∧ w'.cell? ⟨gb387, 3, none⟩ = some (.string ((rd_TRecord l0 x7_1).f3)) ∧ w'.cell? (ad386.add (((ji8)).toNat * 4)) = some (.string ((rd_TRecord l0 (ji8)).f0)) ∧ w'.cell? ⟨(ad386.add (((ji8)).toNat * 4)).block, (ad386.add (((ji8)).toNat * 4)).off + 1, none⟩ = some (.int .i64 ((rd_TRecord l0 (ji8)).f1)) ∧ w'.cell? ⟨(ad386.add (((ji8)).toNat * 4)).block, (ad386.add (((ji8)).toNat * 4)).off + 2, none⟩ = some (.int .i64 ((rd_TRecord l0 (ji8)).f2)) ∧ w'.cell? ⟨(ad386.add (((ji8)).toNat * 4)).block, (ad386.add (((ji8)).toNat * 4)).off + 3, none⟩ = some (.string ((rd_TRecord l0 (ji8)).f3))) (ds := []) #[false, false, false, false, false, false, false, false, false, false, false, false, false, false, false, false, false] KR rfl rfl ⟨bc 0 BK387, bc 1 BK387, bc 2 BK387, bc 3 BK387, ((HB.out.cell (World.block_lt_of_cell? w _ hw389_0)).trans hw389_0), ((HB.out.cell (World.block_lt_of_cell? w _ hw389_1)).trans hw389_1), ((HB.out.cell (World.block_lt_of_cell? w _ hw389_2)).trans hw389_2), ((HB.out.cell (World.block_lt_of_cell? w _ hw389_3)).trans hw389_3)⟩ (fun hHeld => ?_); refine with_tabW impl_areRising.tab4 impl_areRising.bits4 (fun HT_ HW_ => ?_)
       generalize w21.drew = w22 at BK387 HB hx389_0 hx389_1 hx389_2 hx389_3 hHeld ⊢
       refine tA 0 12 (mL 17 1) HT_ HW_ hHeld rfl rfl (by rintro w' ⟨s0, s1, s2, s3, s4, s5, s6, s7⟩; go_simp; with_reducible rfl) ?_
       refine one_ (i := 1) (N := some 13) (mL 17 3) rfl rfl (one_of HT_.out KR) (by decide) (fun K hK => ?_)
       refine goes_ Tryz.func162 KR rfl #[.agg #[.string ((rd_TRecord l0 x7_1).f0), .int .i64 ((rd_TRecord l0 x7_1).f1), .int .i64 ((rd_TRecord l0 x7_1).f2), .string ((rd_TRecord l0 x7_1).f3)]] (by rfl) rfl rfl TA ?_
       with_reducible refine (impl_GoodRecord.calls k1 ((rd_TRecord l0 x7_1).f0) ((rd_TRecord l0 x7_1).f1) ((rd_TRecord l0 x7_1).f2) ((rd_TRecord l0 x7_1).f3) true _ ?side1 A5.out).mono ?_
       (case side1 => exact GW HGL)
       rintro e w23 ⟨rfl, hb⟩
       refine ⟨_, rfl, ?_⟩
       replace BK387 := KB BK387 hb
       replace HB := BS hb
       (try clear hb)
       (try clear hb2)
       (try clear hk)
       (try clear hi)
       refine hK.out _ _ ⟨bc 0 BK387, bc 1 BK387, bc 2 BK387, bc 3 BK387, ((HB.out.cell (World.block_lt_of_cell? w _ hw389_0)).trans hw389_0), ((HB.out.cell (World.block_lt_of_cell? w _ hw389_1)).trans hw389_1), ((HB.out.cell (World.block_lt_of_cell? w _ hw389_2)).trans hw389_2), ((HB.out.cell (World.block_lt_of_cell? w _ hw389_3)).trans hw389_3)⟩ (fun hHeld => ?_)
       clear hK K
       refine nA ?_
       refine pA 2 14 (mL 17 7) HT_ rfl rfl ?_
       refine pA 3 15 (mL 17 15) HT_ rfl rfl ?_
       refine pA 4 16 (mL 17 31) HT_ rfl rfl ?_
       refine pA 5 17 (mL 17 63) HT_ rfl rfl ?_
       refine pA 6 18 (mL 17 127) HT_ rfl rfl ?_
       refine pA 7 19 (mL 17 255) HT_ rfl rfl ?_
       refine pA 8 20 (mL 17 511) HT_ rfl rfl ?_
       refine pA 9 21 (mL 17 1023) HT_ rfl rfl ?_
       refine pA 10 22 (mL 17 2047) HT_ rfl rfl ?_
       refine tA 11 23 (mL 17 4095) HT_ HW_ hHeld rfl rfl (by rintro w' ⟨s0, s1, s2, s3, s4, s5, s6, s7⟩; go_simp; with_reducible rfl) ?_
       refine tA 12 24 (mL 17 8191) HT_ HW_ hHeld rfl rfl (by rintro w' ⟨s0, s1, s2, s3, s4, s5, s6, s7⟩; go_simp; with_reducible rfl) ?_
       refine one_ (i := 13) (N := some 25) (mL 17 16383) rfl rfl (one_of HT_.out KR) (by decide) (fun K hK => ?_)
       refine goes_ Tryz.func163 KR rfl #[.agg #[.string ((rd_TRecord l0 (ji8)).f0), .int .i64 ((rd_TRecord l0 (ji8)).f1), .int .i64 ((rd_TRecord l0 (ji8)).f2), .string ((rd_TRecord l0 (ji8)).f3)], .agg #[.string ((rd_TRecord l0 x7_1).f0), .int .i64 ((rd_TRecord l0 x7_1).f1), .int .i64 ((rd_TRecord l0 x7_1).f2), .string ((rd_TRecord l0 x7_1).f3)]] (by rfl) rfl rfl (by (try simp only [List.map_toArray, List.map_cons, List.map_nil]); first | done | (simp only [hji8]; rfl) | rfl | (simp only [List.length_drop, List.length_take]; rfl)) ?_
       with_reducible refine (impl_compareRecords.calls k1 ((rd_TRecord l0 (ji8)).f0) ((rd_TRecord l0 (ji8)).f1) ((rd_TRecord l0 (ji8)).f2) ((rd_TRecord l0 (ji8)).f3) ((rd_TRecord l0 x7_1).f0) ((rd_TRecord l0 x7_1).f1) ((rd_TRecord l0 x7_1).f2) ((rd_TRecord l0 x7_1).f3) t390 _ ?side1 A11.out).mono ?_
       (case side1 => exact GW HGL)
       rintro e w24 ⟨rfl, hb⟩
       refine ⟨_, rfl, ?_⟩
       replace BK387 := KB BK387 hb
       replace HB := BS hb
       (try clear hb)
       (try clear hb2)
       (try clear hk)
       (try clear hi)
       refine hK.out _ _ ⟨bc 0 BK387, bc 1 BK387, bc 2 BK387, bc 3 BK387, ((HB.out.cell (World.block_lt_of_cell? w _ hw389_0)).trans hw389_0), ((HB.out.cell (World.block_lt_of_cell? w _ hw389_1)).trans hw389_1), ((HB.out.cell (World.block_lt_of_cell? w _ hw389_2)).trans hw389_2), ((HB.out.cell (World.block_lt_of_cell? w _ hw389_3)).trans hw389_3)⟩ (fun hHeld => ?_)
       clear hK K
       refine nA ?_
       refine pA 14 26 (mL 17 32767) HT_ rfl rfl ?_
       refine pA 15 27 (mL 17 65535) HT_ rfl rfl ?_
       refine pA 16 28 (mL 17 131071) HT_ rfl rfl ?_
       refine done_ (done_of HT_.out KR) ?_
       try go_wp2
       go_roundg k1
       case measure => have := HK1.out; omega
       case rel => exact ⟨(wrap64 (x7_1 + 1)), TF, H', ⟨TM⟩, ⟨TB⟩⟩
     ·rw [if_neg c7] at H
      have c7b0 : decide (0 < x7_1) = false := decide_eq_false c7
      clear c7
      have H' := Aside0.mk H
      clear H
      have p386 : 0 ≤ (x7_1 : Int) := TD
      have q386 : x7_1 < (l0.length : Int) := TD
      obtain ⟨ad386, e386, hx386_0, hx386_1, hx386_2, hx386_3⟩ := at_TRecord (Kd.C_below HR0.out HB.out) x7_1 p386 q386
      cases e386
      replace p386 := eq_true p386
      replace q386 := eq_true q386
      try go_wp2_with (first | ((with_reducible refine gate_dst (N := 4) rfl ?_); refine bE 4 #[.string (⟨#[]⟩ : ByteArray), .int .i64 0, .int .i64 0, .string (⟨#[]⟩ : ByteArray)] 93 ?_; intro gb387 hg w25 hbox hb; have BK387 := Aside0.mk (hbox); have GE387 := bG hg; replace HB := BS hb; clear hb hbox hg; have hcz26 := cz4 BK387))
      have n0_ : Aside0 (((((w25.setCell ⟨gb387, 0, none⟩ (.string ((rd_TRecord l0 x7_1).f0))).setCell ⟨gb387, 1, none⟩ (.int .i64 ((rd_TRecord l0 x7_1).f1))).setCell ⟨gb387, 2, none⟩ (.int .i64 ((rd_TRecord l0 x7_1).f2))).setCell ⟨gb387, 3, none⟩ (.string ((rd_TRecord l0 x7_1).f3))).heap[gb387]? = some (.cells #[.string ((rd_TRecord l0 x7_1).f0), .int .i64 ((rd_TRecord l0 x7_1).f1), .int .i64 ((rd_TRecord l0 x7_1).f2), .string ((rd_TRecord l0 x7_1).f3)] 93 (0, 0))) := ⟨TS⟩
      have n1_ : Aside0 (Below w.heap.size w ((((w25.setCell ⟨gb387, 0, none⟩ (.string ((rd_TRecord l0 x7_1).f0))).setCell ⟨gb387, 1, none⟩ (.int .i64 ((rd_TRecord l0 x7_1).f1))).setCell ⟨gb387, 2, none⟩ (.int .i64 ((rd_TRecord l0 x7_1).f2))).setCell ⟨gb387, 3, none⟩ (.string ((rd_TRecord l0 x7_1).f3)))) := ⟨TB⟩
      (try clear BK387)
      (try clear HB)
      generalize ((((w25.setCell ⟨gb387, 0, none⟩ (.string ((rd_TRecord l0 x7_1).f0))).setCell ⟨gb387, 1, none⟩ (.int .i64 ((rd_TRecord l0 x7_1).f1))).setCell ⟨gb387, 2, none⟩ (.int .i64 ((rd_TRecord l0 x7_1).f2))).setCell ⟨gb387, 3, none⟩ (.string ((rd_TRecord l0 x7_1).f3))) = w27 at n0_ n1_ ⊢
      have BK387 := n0_
      have HB := n1_
      clear n0_ n1_
      replace BK387 := Aside0.mk (blk_drew BK387.out)
      replace HB := Aside0.mk (below_drew1 HB.out)
      refine start_ (n := 17) (S := fun w' => w'.cell? ⟨gb387, 0, none⟩ = some (.string ((rd_TRecord l0 x7_1).f0)) ∧ w'.cell? ⟨gb387, 1, none⟩ = some (.int .i64 ((rd_TRecord l0 x7_1).f1)) ∧ w'.cell? ⟨gb387, 2, none⟩ = some (.int .i64 ((rd_TRecord l0 x7_1).f2)) ∧ w'.cell? ⟨gb387, 3, none⟩ = some (.string ((rd_TRecord l0 x7_1).f3))) (ds := []) #[false, false, false, false, false, false, false, false, false, false, false, false, false, false, false, false, false] KR rfl rfl ⟨bc 0 BK387, bc 1 BK387, bc 2 BK387, bc 3 BK387⟩ (fun hHeld => ?_); refine with_tabW impl_areRising.tab4 impl_areRising.bits4 (fun HT_ HW_ => ?_)
      generalize w27.drew = w28 at BK387 HB hHeld ⊢
      refine tA 0 12 (mL 17 1) HT_ HW_ hHeld rfl rfl (by rintro w' ⟨s0, s1, s2, s3⟩; go_simp; with_reducible rfl) ?_
      refine one_ (i := 1) (N := some 13) (mL 17 3) rfl rfl (one_of HT_.out KR) (by decide) (fun K hK => ?_)
      refine goes_ Tryz.func162 KR rfl #[.agg #[.string ((rd_TRecord l0 x7_1).f0), .int .i64 ((rd_TRecord l0 x7_1).f1), .int .i64 ((rd_TRecord l0 x7_1).f2), .string ((rd_TRecord l0 x7_1).f3)]] (by rfl) rfl rfl TA ?_
      with_reducible refine (impl_GoodRecord.calls k1 ((rd_TRecord l0 x7_1).f0) ((rd_TRecord l0 x7_1).f1) ((rd_TRecord l0 x7_1).f2) ((rd_TRecord l0 x7_1).f3) true _ ?side1 A5.out).mono ?_
      (case side1 => exact GW HGL)
      rintro e w29 ⟨rfl, hb⟩
      refine ⟨_, rfl, ?_⟩
      replace BK387 := KB BK387 hb
      replace HB := BS hb
      (try clear hb)
      (try clear hb2)
      (try clear hk)
      (try clear hi)
      refine hK.out _ _ ⟨bc 0 BK387, bc 1 BK387, bc 2 BK387, bc 3 BK387⟩ (fun hHeld => ?_)
      clear hK K
      refine nA ?_
      refine pA 2 14 (mL 17 7) HT_ rfl rfl ?_
      refine pA 3 15 (mL 17 15) HT_ rfl rfl ?_
      refine pA 4 16 (mL 17 31) HT_ rfl rfl ?_
      refine pA 5 17 (mL 17 63) HT_ rfl rfl ?_
      refine pA 6 18 (mL 17 127) HT_ rfl rfl ?_
      refine pU 7 19 (mL 17 255) HT_ rfl rfl ?_
      refine pU 8 20 (mL 17 511) HT_ rfl rfl ?_
      refine pU 9 21 (mL 17 1023) HT_ rfl rfl ?_
      refine pU 10 22 (mL 17 2047) HT_ rfl rfl ?_
      refine pU 11 23 (mL 17 4095) HT_ rfl rfl ?_
      refine pU 12 24 (mL 17 8191) HT_ rfl rfl ?_
      refine pU 13 25 (mL 17 16383) HT_ rfl rfl ?_
      refine pU 14 26 (mL 17 32767) HT_ rfl rfl ?_
      refine pA 15 27 (mL 17 65535) HT_ rfl rfl ?_
      refine pA 16 28 (mL 17 131071) HT_ rfl rfl ?_
      refine done_ (done_of HT_.out KR) ?_
      try go_wp2
      go_roundg k1
      case measure => have := HK1.out; omega
      case rel => exact ⟨(wrap64 (x7_1 + 1)), TF, H', ⟨TM⟩, ⟨TB⟩⟩
    ·replace c6 := Bool.eq_false_iff.mpr c6
     subst c6
     replace H := iff' H
     obtain rfl := Option.some.inj H
     have p386 : 0 ≤ (x7_1 : Int) := TD
     have q386 : x7_1 < (l0.length : Int) := TD
     obtain ⟨ad386, e386, hx386_0, hx386_1, hx386_2, hx386_3⟩ := at_TRecord (Kd.C_below HR0.out HB.out) x7_1 p386 q386
     cases e386
     replace p386 := eq_true p386
     replace q386 := eq_true q386
     try go_wp2_with (first | ((with_reducible refine gate_dst (N := 4) rfl ?_); refine bE 4 #[.string (⟨#[]⟩ : ByteArray), .int .i64 0, .int .i64 0, .string (⟨#[]⟩ : ByteArray)] 93 ?_; intro gb387 hg w30 hbox hb; have BK387 := Aside0.mk (hbox); have GE387 := bG hg; replace HB := BS hb; clear hb hbox hg; have hcz31 := cz4 BK387))
     have n0_ : Aside0 (((((w30.setCell ⟨gb387, 0, none⟩ (.string ((rd_TRecord l0 x7_1).f0))).setCell ⟨gb387, 1, none⟩ (.int .i64 ((rd_TRecord l0 x7_1).f1))).setCell ⟨gb387, 2, none⟩ (.int .i64 ((rd_TRecord l0 x7_1).f2))).setCell ⟨gb387, 3, none⟩ (.string ((rd_TRecord l0 x7_1).f3))).heap[gb387]? = some (.cells #[.string ((rd_TRecord l0 x7_1).f0), .int .i64 ((rd_TRecord l0 x7_1).f1), .int .i64 ((rd_TRecord l0 x7_1).f2), .string ((rd_TRecord l0 x7_1).f3)] 93 (0, 0))) := ⟨TS⟩
     have n1_ : Aside0 (Below w.heap.size w ((((w30.setCell ⟨gb387, 0, none⟩ (.string ((rd_TRecord l0 x7_1).f0))).setCell ⟨gb387, 1, none⟩ (.int .i64 ((rd_TRecord l0 x7_1).f1))).setCell ⟨gb387, 2, none⟩ (.int .i64 ((rd_TRecord l0 x7_1).f2))).setCell ⟨gb387, 3, none⟩ (.string ((rd_TRecord l0 x7_1).f3)))) := ⟨TB⟩
     (try clear BK387)
     (try clear HB)
     generalize ((((w30.setCell ⟨gb387, 0, none⟩ (.string ((rd_TRecord l0 x7_1).f0))).setCell ⟨gb387, 1, none⟩ (.int .i64 ((rd_TRecord l0 x7_1).f1))).setCell ⟨gb387, 2, none⟩ (.int .i64 ((rd_TRecord l0 x7_1).f2))).setCell ⟨gb387, 3, none⟩ (.string ((rd_TRecord l0 x7_1).f3))) = w32 at n0_ n1_ ⊢
     have BK387 := n0_
     have HB := n1_
     clear n0_ n1_
     replace BK387 := Aside0.mk (blk_drew BK387.out)
     replace HB := Aside0.mk (below_drew1 HB.out)
     refine start_ (n := 17) (S := fun w' => w'.cell? ⟨gb387, 0, none⟩ = some (.string ((rd_TRecord l0 x7_1).f0)) ∧ w'.cell? ⟨gb387, 1, none⟩ = some (.int .i64 ((rd_TRecord l0 x7_1).f1)) ∧ w'.cell? ⟨gb387, 2, none⟩ = some (.int .i64 ((rd_TRecord l0 x7_1).f2)) ∧ w'.cell? ⟨gb387, 3, none⟩ = some (.string ((rd_TRecord l0 x7_1).f3))) (ds := []) #[false, false, false, false, false, false, false, false, false, false, false, false, false, false, false, false, false] KR rfl rfl ⟨bc 0 BK387, bc 1 BK387, bc 2 BK387, bc 3 BK387⟩ (fun hHeld => ?_); refine with_tabW impl_areRising.tab4 impl_areRising.bits4 (fun HT_ HW_ => ?_)
     generalize w32.drew = w33 at BK387 HB hHeld ⊢
     refine tA 0 12 (mL 17 1) HT_ HW_ hHeld rfl rfl (by rintro w' ⟨s0, s1, s2, s3⟩; go_simp; with_reducible rfl) ?_
     refine one_ (i := 1) (N := some 13) (mL 17 3) rfl rfl (one_of HT_.out KR) (by decide) (fun K hK => ?_)
     refine goes_ Tryz.func162 KR rfl #[.agg #[.string ((rd_TRecord l0 x7_1).f0), .int .i64 ((rd_TRecord l0 x7_1).f1), .int .i64 ((rd_TRecord l0 x7_1).f2), .string ((rd_TRecord l0 x7_1).f3)]] (by rfl) rfl rfl TA ?_
     with_reducible refine (impl_GoodRecord.calls k1 ((rd_TRecord l0 x7_1).f0) ((rd_TRecord l0 x7_1).f1) ((rd_TRecord l0 x7_1).f2) ((rd_TRecord l0 x7_1).f3) false _ ?side1 A5.out).mono ?_
     (case side1 => exact GW HGL)
     rintro e w34 ⟨rfl, hb⟩
     refine ⟨_, rfl, ?_⟩
     replace BK387 := KB BK387 hb
     replace HB := BS hb
     (try clear hb)
     (try clear hb2)
     (try clear hk)
     (try clear hi)
     refine hK.out _ _ ⟨bc 0 BK387, bc 1 BK387, bc 2 BK387, bc 3 BK387⟩ (fun hHeld => ?_)
     clear hK K
     refine nA ?_
     refine pA 2 14 (mL 17 7) HT_ rfl rfl ?_
     refine pA 3 15 (mL 17 15) HT_ rfl rfl ?_
     refine pU 4 16 (mL 17 31) HT_ rfl rfl ?_
     refine pU 5 17 (mL 17 63) HT_ rfl rfl ?_
     refine pU 6 18 (mL 17 127) HT_ rfl rfl ?_
     refine pU 7 19 (mL 17 255) HT_ rfl rfl ?_
     refine pU 8 20 (mL 17 511) HT_ rfl rfl ?_
     refine pU 9 21 (mL 17 1023) HT_ rfl rfl ?_
     refine pU 10 22 (mL 17 2047) HT_ rfl rfl ?_
     refine pU 11 23 (mL 17 4095) HT_ rfl rfl ?_
     refine pU 12 24 (mL 17 8191) HT_ rfl rfl ?_
     refine pU 13 25 (mL 17 16383) HT_ rfl rfl ?_
     refine pU 14 26 (mL 17 32767) HT_ rfl rfl ?_
     refine pU 15 27 (mL 17 65535) HT_ rfl rfl ?_
     refine pA 16 28 (mL 17 131071) HT_ rfl rfl ?_
     refine done_ (done_of HT_.out KR) ?_
     try go_wp2
     go_ret
     exact ⟨TE, TB⟩
   ·rw [if_neg c2] at H
    have c2b0 : decide (x7_1 < (l0.length : Int)) = false := decide_eq_false c2
    clear c2
    obtain rfl := Option.some.inj H
    go_wp2
    go_ret
    exact ⟨TE, TB⟩
end
section
/-! ### impl_isDiff: function 65 -/
def impl_isDiff.f (k : Nat) (a0_0 : Int) (a0_1 : Int) (l0_2 : List (S_Record)) (l0_3 : List (S_Record)) : Option (Bool) := (impl_isCounter.f a0_0).bind fun t392 => (if t392 = true then ((impl_isCounter.f a0_1).bind fun t393 => (if t393 = true then (if a0_0 = a0_1 then (some false) else (if (l0_2.length : Int) ≤ 40 then (if (l0_3.length : Int) ≤ 40 then ((impl_areRising.f k l0_2).bind fun t394 => (if t394 = true then ((impl_areRising.f k l0_3).bind fun t395 => (some t395)) else (some false))) else (some false)) else (some false))) else (some false))) else (some false))
theorem impl_isDiff.mono : ∀ a0 a1 a2 a3 k, LeO (impl_isDiff.f k a0 a1 a2 a3) (impl_isDiff.f (k + 1) a0 a1 a2 a3) := by
 intro a0 a1 a2 a3 k
 unfold impl_isDiff.f
 repeat' first
   | (with_reducible exact impl_areRising.mono _ _)
   | (with_reducible exact LeO.refl _)
   | (with_reducible exact LeO.none _)
   | (with_reducible refine LeO.ite ?_ ?_)
   | (with_reducible refine LeO.bind ?_ (fun _ => ?_))
   | exact impl_areRising.mono _ _
   | exact LeO.none _
   | refine LeO.ite ?_ ?_
   | refine LeO.bind ?_ (fun _ => ?_)
theorem impl_isDiff.calls (k : Nat) (a0_0 : Int) (a0_1 : Int) (A0_2 : Option Addr) (c0_2 : Nat) (l0_2 : List (S_Record)) (A0_3 : Option Addr) (c0_3 : Nat) (l0_3 : List (S_Record)) (r : Bool) (w : World) (hr0_2 : Kd.C k_Record w A0_2 l0_2.length l0_2) (hc0_2 : l0_2.length ≤ c0_2) (hr0_3 : Kd.C k_Record w A0_3 l0_3.length l0_3) (hc0_3 : l0_3.length ≤ c0_3) (hG_ : Glob w) (h : impl_isDiff.f k a0_0 a0_1 l0_2 l0_3 = some r) :
  Calls Tryz.prog 65 #[.agg #[.int .i64 a0_0, .int .i64 a0_1, .slice A0_2 l0_2.length c0_2, .slice A0_3 l0_3.length c0_3]] w fun e w' => e = .returned (.bool r) ∧ Below w.heap.size w w' := by
 have hu29 := Tryz.underlying29
 have HR0_2 := Aside0.mk hr0_2
 have HC0_2 := Aside0.mk hc0_2
 clear hr0_2 hc0_2
 have HR0_3 := Aside0.mk hr0_3
 have HC0_3 := Aside0.mk hc0_3
 clear hr0_3 hc0_3
 have HGL := Aside0.mk hG_
 clear hG_
 have HB := Aside0.mk (Below.refl w.heap.size w)
 have H : ((impl_isCounter.f a0_0).bind fun t392 => (if t392 = true then ((impl_isCounter.f a0_1).bind fun t393 => (if t393 = true then (if a0_0 = a0_1 then (some false) else (if (l0_2.length : Int) ≤ 40 then (if (l0_3.length : Int) ≤ 40 then ((impl_areRising.f k l0_2).bind fun t394 => (if t394 = true then ((impl_areRising.f k l0_3).bind fun t395 => (some t395)) else (some false))) else (some false)) else (some false))) else (some false))) else (some false))) = some r := h
 clear h
 obtain ⟨t392, A2, H⟩ := bnd H
 by_cases c3 : t392 = true
 ·subst c3
  replace H := ift H
  obtain ⟨t393, A4, H⟩ := bnd H
  by_cases c5 : t393 = true
  ·subst c5
   replace H := ift H
   by_cases c6 : a0_0 = a0_1
   ·rw [if_pos c6] at H
    have c6b0 : (a0_0 == a0_1) = true := beq_iff_eq.mpr c6
    have c6b1 : (a0_0 != a0_1) = false := bne_eq_false_iff_eq.mpr c6
    clear c6
    obtain rfl := Option.some.inj H
    go_enter Tryz.func65, Tryz.ntmps65
    go_wp2_with (first | ((with_reducible refine gate_dst (N := 1) rfl ?_); (try (refine gate_guard (by rfl) ?_; dsimp only)); refine bE 1 #[.int .i64 a0_0, .int .i64 a0_1, .slice A0_2 l0_2.length c0_2, .slice A0_3 l0_3.length c0_3] 29 ?_; intro gb391 hg w7 hbox hb; have BK391 := Aside0.mk (hbox); have GE391 := bG hg; replace HB := BS hb; clear hb hbox hg; have hcz8 := cz4 BK391) | ((with_reducible refine gate_callee (f := 78) rfl ?_); refine goesL_ (some 5) rfl rfl Tryz.func78 KR rfl #[.int .i64 a0_0] rfl TA ?_; (with_reducible refine (impl_isCounter.calls a0_0 true _ A2.out).mono ?_); rintro e w' ⟨rfl, ⟨nd, rfl⟩⟩; refine ⟨_, rfl, ?_⟩) | (go_at_call 78; (with_reducible refine (impl_isCounter.calls a0_1 true _ A4.out).mono ?_); rintro e w' ⟨rfl, ⟨nd, rfl⟩⟩))
    go_ret
    exact ⟨TE, TB⟩
   ·rw [if_neg c6] at H
    have c6b0 : (a0_0 == a0_1) = false := beq_eq_false_iff_ne.mpr c6
    have c6b1 : (a0_0 != a0_1) = true := bne_iff_ne.mpr c6
    by_cases c9 : (l0_2.length : Int) ≤ 40
    ·rw [if_pos c9] at H
     have c9b0 : decide ((l0_2.length : Int) ≤ 40) = true := decide_eq_true c9
     have c9b1 : decide (l0_2.length ≤ 40) = true := decide_eq_true (by omega)
     clear c9
     by_cases c10 : (l0_3.length : Int) ≤ 40
     ·rw [if_pos c10] at H
      have c10b0 : decide ((l0_3.length : Int) ≤ 40) = true := decide_eq_true c10
      have c10b1 : decide (l0_3.length ≤ 40) = true := decide_eq_true (by omega)
      clear c10
      obtain ⟨t394, A11, H⟩ := bnd H
      by_cases c12 : t394 = true
      ·subst c12
       replace H := ift H
       obtain ⟨t395, A13, H⟩ := bnd H
       obtain rfl := Option.some.inj H
       go_enter Tryz.func65, Tryz.ntmps65
       go_wp2_with (first | ((with_reducible refine gate_dst (N := 1) rfl ?_); (try (refine gate_guard (by rfl) ?_; dsimp only)); refine bE 1 #[.int .i64 a0_0, .int .i64 a0_1, .slice A0_2 l0_2.length c0_2, .slice A0_3 l0_3.length c0_3] 29 ?_; intro gb391 hg w14 hbox hb; have BK391 := Aside0.mk (hbox); have GE391 := bG hg; replace HB := BS hb; clear hb hbox hg; have hcz15 := cz4 BK391) | ((with_reducible refine gate_callee (f := 78) rfl ?_); refine goesL_ (some 5) rfl rfl Tryz.func78 KR rfl #[.int .i64 a0_0] rfl TA ?_; (with_reducible refine (impl_isCounter.calls a0_0 true _ A2.out).mono ?_); rintro e w' ⟨rfl, ⟨nd, rfl⟩⟩; refine ⟨_, rfl, ?_⟩) | (go_at_call 78; (with_reducible refine (impl_isCounter.calls a0_1 true _ A4.out).mono ?_); rintro e w' ⟨rfl, ⟨nd, rfl⟩⟩) | (go_at_call 121; (with_reducible refine (impl_areRising.calls k _ _ l0_2 true _ ?side1 ?side2 ?side3 A11.out).mono ?_); (case side1 => exact CW ((Kd.C_below HR0_2.out TB))); (case side2 => exact HC0_2.out); (case side3 => exact GW HGL); rintro e w16 ⟨rfl, hb⟩; replace BK391 := KB BK391 hb; replace HB := BS hb; (try clear hb); (try clear hb2); (try clear hk); (try clear hi); have hcz17 := cz4 BK391) | (go_at_call 121; (with_reducible refine (impl_areRising.calls k _ _ l0_3 t395 _ ?side1 ?side2 ?side3 A13.out).mono ?_); (case side1 => exact CW ((Kd.C_below HR0_3.out HB.out))); (case side2 => exact HC0_3.out); (case side3 => exact GW HGL); rintro e w18 ⟨rfl, hb⟩; replace BK391 := KB BK391 hb; replace HB := BS hb; (try clear hb); (try clear hb2); (try clear hk); (try clear hi)))
       go_ret
       exact ⟨TE, TB⟩
      ·replace c12 := Bool.eq_false_iff.mpr c12
       subst c12
       replace H := iff' H
       obtain rfl := Option.some.inj H
       go_enter Tryz.func65, Tryz.ntmps65
       go_wp2_with (first | ((with_reducible refine gate_dst (N := 1) rfl ?_); (try (refine gate_guard (by rfl) ?_; dsimp only)); refine bE 1 #[.int .i64 a0_0, .int .i64 a0_1, .slice A0_2 l0_2.length c0_2, .slice A0_3 l0_3.length c0_3] 29 ?_; intro gb391 hg w19 hbox hb; have BK391 := Aside0.mk (hbox); have GE391 := bG hg; replace HB := BS hb; clear hb hbox hg; have hcz20 := cz4 BK391) | ((with_reducible refine gate_callee (f := 78) rfl ?_); refine goesL_ (some 5) rfl rfl Tryz.func78 KR rfl #[.int .i64 a0_0] rfl TA ?_; (with_reducible refine (impl_isCounter.calls a0_0 true _ A2.out).mono ?_); rintro e w' ⟨rfl, ⟨nd, rfl⟩⟩; refine ⟨_, rfl, ?_⟩) | (go_at_call 78; (with_reducible refine (impl_isCounter.calls a0_1 true _ A4.out).mono ?_); rintro e w' ⟨rfl, ⟨nd, rfl⟩⟩) | (go_at_call 121; (with_reducible refine (impl_areRising.calls k _ _ l0_2 false _ ?side1 ?side2 ?side3 A11.out).mono ?_); (case side1 => exact CW ((Kd.C_below HR0_2.out TB))); (case side2 => exact HC0_2.out); (case side3 => exact GW HGL); rintro e w21 ⟨rfl, hb⟩; replace BK391 := KB BK391 hb; replace HB := BS hb; (try clear hb); (try clear hb2); (try clear hk); (try clear hi)))
       go_ret
       exact ⟨TE, TB⟩
     ·rw [if_neg c10] at H
      have c10b0 : decide ((l0_3.length : Int) ≤ 40) = false := decide_eq_false c10
      have c10b1 : decide (l0_3.length ≤ 40) = false := decide_eq_false (by omega)
      clear c10
      obtain rfl := Option.some.inj H
      go_enter Tryz.func65, Tryz.ntmps65
      go_wp2_with (first | ((with_reducible refine gate_dst (N := 1) rfl ?_); (try (refine gate_guard (by rfl) ?_; dsimp only)); refine bE 1 #[.int .i64 a0_0, .int .i64 a0_1, .slice A0_2 l0_2.length c0_2, .slice A0_3 l0_3.length c0_3] 29 ?_; intro gb391 hg w22 hbox hb; have BK391 := Aside0.mk (hbox); have GE391 := bG hg; replace HB := BS hb; clear hb hbox hg; have hcz23 := cz4 BK391) | ((with_reducible refine gate_callee (f := 78) rfl ?_); refine goesL_ (some 5) rfl rfl Tryz.func78 KR rfl #[.int .i64 a0_0] rfl TA ?_; (with_reducible refine (impl_isCounter.calls a0_0 true _ A2.out).mono ?_); rintro e w' ⟨rfl, ⟨nd, rfl⟩⟩; refine ⟨_, rfl, ?_⟩) | (go_at_call 78; (with_reducible refine (impl_isCounter.calls a0_1 true _ A4.out).mono ?_); rintro e w' ⟨rfl, ⟨nd, rfl⟩⟩))
      go_ret
      exact ⟨TE, TB⟩
    ·rw [if_neg c9] at H
     have c9b0 : decide ((l0_2.length : Int) ≤ 40) = false := decide_eq_false c9
     have c9b1 : decide (l0_2.length ≤ 40) = false := decide_eq_false (by omega)
     clear c9
     obtain rfl := Option.some.inj H
     go_enter Tryz.func65, Tryz.ntmps65
     go_wp2_with (first | ((with_reducible refine gate_dst (N := 1) rfl ?_); (try (refine gate_guard (by rfl) ?_; dsimp only)); refine bE 1 #[.int .i64 a0_0, .int .i64 a0_1, .slice A0_2 l0_2.length c0_2, .slice A0_3 l0_3.length c0_3] 29 ?_; intro gb391 hg w24 hbox hb; have BK391 := Aside0.mk (hbox); have GE391 := bG hg; replace HB := BS hb; clear hb hbox hg; have hcz25 := cz4 BK391) | ((with_reducible refine gate_callee (f := 78) rfl ?_); refine goesL_ (some 5) rfl rfl Tryz.func78 KR rfl #[.int .i64 a0_0] rfl TA ?_; (with_reducible refine (impl_isCounter.calls a0_0 true _ A2.out).mono ?_); rintro e w' ⟨rfl, ⟨nd, rfl⟩⟩; refine ⟨_, rfl, ?_⟩) | (go_at_call 78; (with_reducible refine (impl_isCounter.calls a0_1 true _ A4.out).mono ?_); rintro e w' ⟨rfl, ⟨nd, rfl⟩⟩))
     go_ret
     exact ⟨TE, TB⟩
  ·replace c5 := Bool.eq_false_iff.mpr c5
   subst c5
   replace H := iff' H
   obtain rfl := Option.some.inj H
   go_enter Tryz.func65, Tryz.ntmps65
   go_wp2_with (first | ((with_reducible refine gate_dst (N := 1) rfl ?_); (try (refine gate_guard (by rfl) ?_; dsimp only)); refine bE 1 #[.int .i64 a0_0, .int .i64 a0_1, .slice A0_2 l0_2.length c0_2, .slice A0_3 l0_3.length c0_3] 29 ?_; intro gb391 hg w26 hbox hb; have BK391 := Aside0.mk (hbox); have GE391 := bG hg; replace HB := BS hb; clear hb hbox hg; have hcz27 := cz4 BK391) | ((with_reducible refine gate_callee (f := 78) rfl ?_); refine goesL_ (some 5) rfl rfl Tryz.func78 KR rfl #[.int .i64 a0_0] rfl TA ?_; (with_reducible refine (impl_isCounter.calls a0_0 true _ A2.out).mono ?_); rintro e w' ⟨rfl, ⟨nd, rfl⟩⟩; refine ⟨_, rfl, ?_⟩) | (go_at_call 78; (with_reducible refine (impl_isCounter.calls a0_1 false _ A4.out).mono ?_); rintro e w' ⟨rfl, ⟨nd, rfl⟩⟩))
   go_ret
   exact ⟨TE, TB⟩
 ·replace c3 := Bool.eq_false_iff.mpr c3
  subst c3
  replace H := iff' H
  obtain rfl := Option.some.inj H
  go_enter Tryz.func65, Tryz.ntmps65
  go_wp2_with (first | ((with_reducible refine gate_dst (N := 1) rfl ?_); (try (refine gate_guard (by rfl) ?_; dsimp only)); refine bE 1 #[.int .i64 a0_0, .int .i64 a0_1, .slice A0_2 l0_2.length c0_2, .slice A0_3 l0_3.length c0_3] 29 ?_; intro gb391 hg w28 hbox hb; have BK391 := Aside0.mk (hbox); have GE391 := bG hg; replace HB := BS hb; clear hb hbox hg; have hcz29 := cz4 BK391) | ((with_reducible refine gate_callee (f := 78) rfl ?_); refine goesL_ (some 5) rfl rfl Tryz.func78 KR rfl #[.int .i64 a0_0] rfl TA ?_; (with_reducible refine (impl_isCounter.calls a0_0 false _ A2.out).mono ?_); rintro e w' ⟨rfl, ⟨nd, rfl⟩⟩; refine ⟨_, rfl, ?_⟩))
  go_ret
  exact ⟨TE, TB⟩
end
section
attribute [local go_sem high] eqARecord
/-! ### slices_Index_impl_Record_impl_Record: function 123 -/
def slices_Index_impl_Record_impl_Record.l0 : Nat → List (S_Record) → Int → Int → ByteArray → Int → Int → ByteArray → Option (Int)
 | 0, _, _, _, _, _, _, _ => none
 | k + 1, x0, x7, x8, x397000, x397001, x397002, x397003 => if x8 < x7 then (if 0 ≤ x8 then (if x8 < (x0.length : Int) then (if (x397000.toList == (((rd_TRecord x0 x8).f0).toList) && (x397001 == ((rd_TRecord x0 x8).f1) && (x397002 == ((rd_TRecord x0 x8).f2) && (x397003.toList == (((rd_TRecord x0 x8).f3).toList))))) = true then (some x8) else (slices_Index_impl_Record_impl_Record.l0 k x0 x7 (wrap64 (x8 + 1)) x397000 x397001 x397002 x397003)) else (none)) else (none)) else (some (-1))
def slices_Index_impl_Record_impl_Record.f (k : Nat) (l0 : List (S_Record)) (a1_0 : ByteArray) (a1_1 : Int) (a1_2 : Int) (a1_3 : ByteArray) : Option (Int) := slices_Index_impl_Record_impl_Record.l0 k l0 (l0.length : Int) 0 a1_0 a1_1 a1_2 a1_3
theorem slices_Index_impl_Record_impl_Record.mono_l : ∀ k, (∀ y0 y1 y2 y3 y4 y5 y6, LeO (slices_Index_impl_Record_impl_Record.l0 k y0 y1 y2 y3 y4 y5 y6) (slices_Index_impl_Record_impl_Record.l0 (k + 1) y0 y1 y2 y3 y4 y5 y6))
 | 0 => fun _ _ _ _ _ _ _ r h => by simp [slices_Index_impl_Record_impl_Record.l0] at h
 | k + 1 => by
  have ih0 := slices_Index_impl_Record_impl_Record.mono_l k
  ·intro y0 y1 y2 y3 y4 y5 y6
   unfold slices_Index_impl_Record_impl_Record.l0
   repeat' first
   | (with_reducible exact ih0 _ _ _ _ _ _ _)
   | (with_reducible exact LeO.refl _)
   | (with_reducible exact LeO.none _)
   | (with_reducible refine LeO.ite ?_ ?_)
   | (with_reducible refine LeO.bind ?_ (fun _ => ?_))
   | exact ih0 _ _ _ _ _ _ _
   | exact LeO.none _
   | refine LeO.ite ?_ ?_
   | refine LeO.bind ?_ (fun _ => ?_)
theorem slices_Index_impl_Record_impl_Record.mono : ∀ a0 a1 a2 a3 a4 k, LeO (slices_Index_impl_Record_impl_Record.f k a0 a1 a2 a3 a4) (slices_Index_impl_Record_impl_Record.f (k + 1) a0 a1 a2 a3 a4) := by
 intro a0 a1 a2 a3 a4 k
 have ih0 := slices_Index_impl_Record_impl_Record.mono_l k
 unfold slices_Index_impl_Record_impl_Record.f
 repeat' first
   | (with_reducible exact ih0 _ _ _ _ _ _ _)
   | (with_reducible exact LeO.refl _)
   | (with_reducible exact LeO.none _)
   | (with_reducible refine LeO.ite ?_ ?_)
   | (with_reducible refine LeO.bind ?_ (fun _ => ?_))
   | exact ih0 _ _ _ _ _ _ _
   | exact LeO.none _
   | refine LeO.ite ?_ ?_
   | refine LeO.bind ?_ (fun _ => ?_)
theorem slices_Index_impl_Record_impl_Record.calls (k : Nat) (A0 : Option Addr) (c0 : Nat) (l0 : List (S_Record)) (a1_0 : ByteArray) (a1_1 : Int) (a1_2 : Int) (a1_3 : ByteArray) (r : Int) (w : World) (hr0 : Kd.C k_Record w A0 l0.length l0) (hc0 : l0.length ≤ c0) (h : slices_Index_impl_Record_impl_Record.f k l0 a1_0 a1_1 a1_2 a1_3 = some r) :
  Calls Tryz.prog 123 #[.slice A0 l0.length c0, .agg #[.string a1_0, .int .i64 a1_1, .int .i64 a1_2, .string a1_3]] w fun e w' => e = .returned (.int .i64 r) ∧ Below w.heap.size w w' := by
 have hu93 := Tryz.underlying93
 have HR0 := Aside0.mk hr0
 have HC0 := Aside0.mk hc0
 clear hr0 hc0
 have HB := Aside0.mk (Below.refl w.heap.size w)
 have H : (slices_Index_impl_Record_impl_Record.l0 k l0 (l0.length : Int) 0 a1_0 a1_1 a1_2 a1_3) = some r := h
 clear h
 have H' := Aside0.mk H
 clear H
 go_enter Tryz.func123, Tryz.ntmps123
 go_wp2_with (first | ((with_reducible refine gate_dst (N := 3) rfl ?_); refine bE 3 #[.string a1_0, .int .i64 a1_1, .int .i64 a1_2, .string a1_3] 93 ?_; intro gb396 hg w3 hbox hb; have BK396 := Aside0.mk (hbox); have GE396 := bG hg; replace HB := BS hb; clear hb hbox hg))
 repeat (go_quiet (first | ((with_reducible refine gate_dst (N := 3) rfl ?_); refine bE 3 #[.string a1_0, .int .i64 a1_1, .int .i64 a1_2, .string a1_3] 93 ?_; intro gb396 hg w3 hbox hb; have BK396 := Aside0.mk (hbox); have GE396 := bG hg; replace HB := BS hb; clear hb hbox hg)); try go_wp2_with (first | ((with_reducible refine gate_dst (N := 3) rfl ?_); refine bE 3 #[.string a1_0, .int .i64 a1_1, .int .i64 a1_2, .string a1_3] 93 ?_; intro gb396 hg w3 hbox hb; have BK396 := Aside0.mk (hbox); have GE396 := bG hg; replace HB := BS hb; clear hb hbox hg)))
 go_loopg [8] k (fun kq v8 w' => ∃ (x8_1 : Int), v8 = .int .i64 x8_1 ∧ Aside0 (slices_Index_impl_Record_impl_Record.l0 kq l0 (l0.length : Int) x8_1 a1_0 a1_1 a1_2 a1_3 = some r) ∧ Aside0 (kq ≤ k) ∧ Aside0 (w'.heap[gb396]? = some (.cells #[.string a1_0, .int .i64 a1_1, .int .i64 a1_2, .string a1_3] 93 (0, 0))) ∧ Aside0 (Below w.heap.size w w'))
 case atStart => exact ⟨(0), TF, H', ⟨Nat.le_refl _⟩, KW BK396, ⟨TB⟩⟩
 case round =>
  clear H'
  try clear c1
  try clear p2
  obtain ⟨x8_1, rfl, HA, HK1, BK396, HB⟩ := hrel
  cases gk with
  | zero => exact absurd HA.out (by simp [slices_Index_impl_Record_impl_Record.l0])
  | succ k1 =>
   have H := HA.out
   clear HA
   simp only [slices_Index_impl_Record_impl_Record.l0] at H
   by_cases c4 : x8_1 < (l0.length : Int)
   ·rw [if_pos c4] at H
    have c4b0 : decide (x8_1 < (l0.length : Int)) = true := decide_eq_true c4
    clear c4
    obtain ⟨c5, H⟩ := ifn H
    have c5b0 : decide (0 ≤ x8_1) = true := decide_eq_true c5
    clear c5
    obtain ⟨c6, H⟩ := ifn H
    have c6b0 : decide (x8_1 < (l0.length : Int)) = true := decide_eq_true c6
    clear c6
    by_cases c7 : (a1_0.toList == (((rd_TRecord l0 x8_1).f0).toList) && (a1_1 == ((rd_TRecord l0 x8_1).f1) && (a1_2 == ((rd_TRecord l0 x8_1).f2) && (a1_3.toList == (((rd_TRecord l0 x8_1).f3).toList))))) = true
    ·rw [if_pos c7] at H
     have c7b0 : (a1_0.toList == (((rd_TRecord l0 x8_1).f0).toList) && (a1_1 == ((rd_TRecord l0 x8_1).f1) && (a1_2 == ((rd_TRecord l0 x8_1).f2) && (a1_3.toList == (((rd_TRecord l0 x8_1).f3).toList))))) = true := c7
     (try (have c7b1 : decide (a1_0.toList = (((rd_TRecord l0 x8_1).f0).toList) && (a1_1 == ((rd_TRecord l0 x8_1).f1) && (a1_2 == ((rd_TRecord l0 x8_1).f2) && (a1_3.toList == (((rd_TRecord l0 x8_1).f3).toList))))) = true := by simpa using c7))
     (try (have c7b2 : (a1_0.toList == (((rd_TRecord l0 x8_1).f0).toList) && (a1_1 == ((rd_TRecord l0 x8_1).f1) && (a1_2 == ((rd_TRecord l0 x8_1).f2) && (a1_3.toList == (((rd_TRecord l0 x8_1).f3).toList))))) = true := by simpa using c7))
     clear c7
     obtain rfl := Option.some.inj H
     have hcz8 := cz4 BK396
     have p397 : 0 ≤ (x8_1 : Int) := TD
     have q397 : x8_1 < (l0.length : Int) := TD
     obtain ⟨ad397, e397, hx397_0, hx397_1, hx397_2, hx397_3⟩ := at_TRecord (Kd.C_below HR0.out HB.out) x8_1 p397 q397
     cases e397
     replace p397 := eq_true p397
     replace q397 := eq_true q397
     go_wp2
     repeat (go_quiet (fail); try go_wp2)
     go_ret
     exact ⟨TE, TB⟩
    ·rw [if_neg c7] at H
     have c7b0 : (a1_0.toList == (((rd_TRecord l0 x8_1).f0).toList) && (a1_1 == ((rd_TRecord l0 x8_1).f1) && (a1_2 == ((rd_TRecord l0 x8_1).f2) && (a1_3.toList == (((rd_TRecord l0 x8_1).f3).toList))))) = false := by simpa using c7
     (try (have c7b1 : decide (a1_0.toList = (((rd_TRecord l0 x8_1).f0).toList) && (a1_1 == ((rd_TRecord l0 x8_1).f1) && (a1_2 == ((rd_TRecord l0 x8_1).f2) && (a1_3.toList == (((rd_TRecord l0 x8_1).f3).toList))))) = false := by simpa using c7))
     (try (have c7b2 : (a1_0.toList == (((rd_TRecord l0 x8_1).f0).toList) && (a1_1 == ((rd_TRecord l0 x8_1).f1) && (a1_2 == ((rd_TRecord l0 x8_1).f2) && (a1_3.toList == (((rd_TRecord l0 x8_1).f3).toList))))) = false := by simpa using c7))
     (try (have c7b3 : ¬ (a1_0.toList = (((rd_TRecord l0 x8_1).f0).toList) && (a1_1 == ((rd_TRecord l0 x8_1).f1) && (a1_2 == ((rd_TRecord l0 x8_1).f2) && (a1_3.toList == (((rd_TRecord l0 x8_1).f3).toList))))) := by simpa using c7))
     clear c7
     have H' := Aside0.mk H
     clear H
     have hcz9 := cz4 BK396
     have p397 : 0 ≤ (x8_1 : Int) := TD
     have q397 : x8_1 < (l0.length : Int) := TD
     obtain ⟨ad397, e397, hx397_0, hx397_1, hx397_2, hx397_3⟩ := at_TRecord (Kd.C_below HR0.out HB.out) x8_1 p397 q397
     cases e397
     replace p397 := eq_true p397
     replace q397 := eq_true q397
     go_wp2
     repeat (go_quiet (fail); try go_wp2)
     go_roundg k1
     case measure => have := HK1.out; omega
     case rel => exact ⟨(wrap64 (x8_1 + 1)), TF, H', ⟨TM⟩, KW BK396, ⟨TB⟩⟩
   ·rw [if_neg c4] at H
    have c4b0 : decide (x8_1 < (l0.length : Int)) = false := decide_eq_false c4
    clear c4
    obtain rfl := Option.some.inj H
    go_wp2
    repeat (go_quiet (fail); try go_wp2)
    go_ret
    exact ⟨TE, TB⟩
end
section
/-! ### slices_Contains_impl_Record_impl_Record: function 68 -/
def slices_Contains_impl_Record_impl_Record.f (k : Nat) (l0 : List (S_Record)) (a1_0 : ByteArray) (a1_1 : Int) (a1_2 : Int) (a1_3 : ByteArray) : Option (Bool) := (slices_Index_impl_Record_impl_Record.f k l0 a1_0 a1_1 a1_2 a1_3).bind fun t399 => (some (decide (t399 ≥ 0)))
theorem slices_Contains_impl_Record_impl_Record.mono : ∀ a0 a1 a2 a3 a4 k, LeO (slices_Contains_impl_Record_impl_Record.f k a0 a1 a2 a3 a4) (slices_Contains_impl_Record_impl_Record.f (k + 1) a0 a1 a2 a3 a4) := by
 intro a0 a1 a2 a3 a4 k
 unfold slices_Contains_impl_Record_impl_Record.f
 repeat' first
   | (with_reducible exact slices_Index_impl_Record_impl_Record.mono _ _ _ _ _ _)
   | (with_reducible exact LeO.refl _)
   | (with_reducible exact LeO.none _)
   | (with_reducible refine LeO.ite ?_ ?_)
   | (with_reducible refine LeO.bind ?_ (fun _ => ?_))
   | exact slices_Index_impl_Record_impl_Record.mono _ _ _ _ _ _
   | exact LeO.none _
   | refine LeO.ite ?_ ?_
   | refine LeO.bind ?_ (fun _ => ?_)
theorem slices_Contains_impl_Record_impl_Record.calls (k : Nat) (A0 : Option Addr) (c0 : Nat) (l0 : List (S_Record)) (a1_0 : ByteArray) (a1_1 : Int) (a1_2 : Int) (a1_3 : ByteArray) (r : Bool) (w : World) (hr0 : Kd.C k_Record w A0 l0.length l0) (hc0 : l0.length ≤ c0) (h : slices_Contains_impl_Record_impl_Record.f k l0 a1_0 a1_1 a1_2 a1_3 = some r) :
  Calls Tryz.prog 68 #[.slice A0 l0.length c0, .agg #[.string a1_0, .int .i64 a1_1, .int .i64 a1_2, .string a1_3]] w fun e w' => e = .returned (.bool r) ∧ Below w.heap.size w w' := by
 have hu93 := Tryz.underlying93
 have HR0 := Aside0.mk hr0
 have HC0 := Aside0.mk hc0
 clear hr0 hc0
 have HB := Aside0.mk (Below.refl w.heap.size w)
 have H : ((slices_Index_impl_Record_impl_Record.f k l0 a1_0 a1_1 a1_2 a1_3).bind fun t399 => (some (decide (t399 ≥ 0)))) = some r := h
 clear h
 obtain ⟨t399, A3, H⟩ := bnd H
 obtain rfl := Option.some.inj H
 go_enter Tryz.func68, Tryz.ntmps68
 go_wp2_with (first | ((with_reducible refine gate_dst (N := 3) rfl ?_); refine bE 3 #[.string a1_0, .int .i64 a1_1, .int .i64 a1_2, .string a1_3] 93 ?_; intro gb398 hg w4 hbox hb; have BK398 := Aside0.mk (hbox); have GE398 := bG hg; replace HB := BS hb; clear hb hbox hg; have hcz5 := cz4 BK398) | ((with_reducible refine gate_callee (f := 123) rfl ?_); refine goesL_ (some 7) rfl rfl Tryz.func123 KR rfl #[.slice A0 l0.length c0, .agg #[.string a1_0, .int .i64 a1_1, .int .i64 a1_2, .string a1_3]] rfl TA ?_; (with_reducible refine (slices_Index_impl_Record_impl_Record.calls k _ _ l0 a1_0 a1_1 a1_2 a1_3 t399 _ ?side1 ?side2 A3.out).mono ?_); (case side1 => exact CW ((Kd.C_below HR0.out HB.out))); (case side2 => exact HC0.out); rintro e w6 ⟨rfl, hb⟩; refine ⟨_, rfl, ?_⟩; replace BK398 := KB BK398 hb; replace HB := BS hb; (try clear hb); (try clear hb2); (try clear hk); (try clear hi)))
 go_ret
 exact ⟨TE, TB⟩
end
section
/-! ### impl_GoodDiff_1: function 67 -/
def impl_GoodDiff_1.f (k : Nat) (a0_0 : ByteArray) (a0_1 : Int) (a0_2 : Int) (a0_3 : ByteArray) (a1_0 : Int) (a1_1 : Int) (l1_2 : List (S_Record)) (l1_3 : List (S_Record)) : Option (Bool) := (slices_Contains_impl_Record_impl_Record.f k l1_3 a0_0 a0_1 a0_2 a0_3).bind fun t401 => (some t401)
theorem impl_GoodDiff_1.mono : ∀ a0 a1 a2 a3 a4 a5 a6 a7 k, LeO (impl_GoodDiff_1.f k a0 a1 a2 a3 a4 a5 a6 a7) (impl_GoodDiff_1.f (k + 1) a0 a1 a2 a3 a4 a5 a6 a7) := by
 intro a0 a1 a2 a3 a4 a5 a6 a7 k
 unfold impl_GoodDiff_1.f
 repeat' first
   | (with_reducible exact slices_Contains_impl_Record_impl_Record.mono _ _ _ _ _ _)
   | (with_reducible exact LeO.refl _)
   | (with_reducible exact LeO.none _)
   | (with_reducible refine LeO.ite ?_ ?_)
   | (with_reducible refine LeO.bind ?_ (fun _ => ?_))
   | exact slices_Contains_impl_Record_impl_Record.mono _ _ _ _ _ _
   | exact LeO.none _
   | refine LeO.ite ?_ ?_
   | refine LeO.bind ?_ (fun _ => ?_)
theorem impl_GoodDiff_1.calls (k : Nat) (a0_0 : ByteArray) (a0_1 : Int) (a0_2 : Int) (a0_3 : ByteArray) (g1_ : Nat) (a1_0 : Int) (a1_1 : Int) (A1_2 : Option Addr) (c1_2 : Nat) (l1_2 : List (S_Record)) (A1_3 : Option Addr) (c1_3 : Nat) (l1_3 : List (S_Record)) (r : Bool) (w : World) (hr1_2 : Kd.C k_Record w A1_2 l1_2.length l1_2) (hc1_2 : l1_2.length ≤ c1_2) (hr1_3 : Kd.C k_Record w A1_3 l1_3.length l1_3) (hc1_3 : l1_3.length ≤ c1_3) (hkg1_ : w.heap[g1_]? = some (.cells #[.int .i64 a1_0, .int .i64 a1_1, .slice A1_2 l1_2.length c1_2, .slice A1_3 l1_3.length c1_3] 29 (0, 0))) (h : impl_GoodDiff_1.f k a0_0 a0_1 a0_2 a0_3 a1_0 a1_1 l1_2 l1_3 = some r) :
  Calls Tryz.prog 67 #[.agg #[.string a0_0, .int .i64 a0_1, .int .i64 a0_2, .string a0_3], .pointer (some ⟨g1_, 0, none⟩)] w fun e w' => e = .returned (.bool r) ∧ Below w.heap.size w w' := by
 have hu93 := Tryz.underlying93
 have HR1_2 := Aside0.mk hr1_2
 have HC1_2 := Aside0.mk hc1_2
 clear hr1_2 hc1_2
 have HR1_3 := Aside0.mk hr1_3
 have HC1_3 := Aside0.mk hc1_3
 clear hr1_3 hc1_3
 have BKrg1_ := Aside0.mk hkg1_
 clear hkg1_
 have HB := Aside0.mk (Below.refl w.heap.size w)
 have H : ((slices_Contains_impl_Record_impl_Record.f k l1_3 a0_0 a0_1 a0_2 a0_3).bind fun t401 => (some t401)) = some r := h
 clear h
 obtain ⟨t401, A3, H⟩ := bnd H
 obtain rfl := Option.some.inj H
 go_enter Tryz.func67, Tryz.ntmps67
 go_wp2_with (first | ((with_reducible refine gate_dst (N := 2) rfl ?_); refine bE 2 #[.string a0_0, .int .i64 a0_1, .int .i64 a0_2, .string a0_3] 93 ?_; intro gb400 hg w4 hbox hb; have BK400 := Aside0.mk (hbox); have GE400 := bG hg; replace HB := BS hb; have NB1_400 := bN BKrg1_ hg; have NB400_1 := bM BKrg1_ hg; replace BKrg1_ := KB BKrg1_ hb; clear hb hbox hg; have hnb5 := NB1_400.out; have hnc5 := NB400_1.out; have hcz6 := cz4 BKrg1_; have hcz7 := cz4 BK400) | ((with_reducible refine gate_callee (f := 68) rfl ?_); refine goesL_ (some 7) rfl rfl Tryz.func68 KR rfl #[.slice A1_3 l1_3.length c1_3, .agg #[.string a0_0, .int .i64 a0_1, .int .i64 a0_2, .string a0_3]] rfl TA ?_; (with_reducible refine (slices_Contains_impl_Record_impl_Record.calls k _ _ l1_3 a0_0 a0_1 a0_2 a0_3 t401 _ ?side1 ?side2 A3.out).mono ?_); (case side1 => exact CW ((Kd.C_below HR1_3.out HB.out))); (case side2 => exact HC1_3.out); rintro e w8 ⟨rfl, hb⟩; refine ⟨_, rfl, ?_⟩; replace BKrg1_ := KB BKrg1_ hb; replace BK400 := KB BK400 hb; replace HB := BS hb; (try clear hb); (try clear hb2); (try clear hk); (try clear hi)))
 go_ret
 exact ⟨TE, TB⟩
end
section
/-! ### slices_IndexFunc_impl_Record_impl_Record_GoodDiff_1: function 122 -/
def slices_IndexFunc_impl_Record_impl_Record_GoodDiff_1.l0 : Nat → List (S_Record) → Int → Int → Int → Int → List (S_Record) → List (S_Record) → Option (Int)
 | 0, _, _, _, _, _, _, _ => none
 | k + 1, x0, x7, x8, x59000, x59001, x59002, x59003 => if x8 < x7 then (if 0 ≤ x8 then (if x8 < (x0.length : Int) then ((impl_GoodDiff_1.f k ((rd_TRecord x0 x8).f0) ((rd_TRecord x0 x8).f1) ((rd_TRecord x0 x8).f2) ((rd_TRecord x0 x8).f3) x59000 x59001 x59002 x59003).bind fun t403 => (if t403 = true then (some x8) else (slices_IndexFunc_impl_Record_impl_Record_GoodDiff_1.l0 k x0 x7 (wrap64 (x8 + 1)) x59000 x59001 x59002 x59003))) else (none)) else (none)) else (some (-1))
def slices_IndexFunc_impl_Record_impl_Record_GoodDiff_1.f (k : Nat) (l0 : List (S_Record)) (a1_0 : Int) (a1_1 : Int) (l1_2 : List (S_Record)) (l1_3 : List (S_Record)) : Option (Int) := slices_IndexFunc_impl_Record_impl_Record_GoodDiff_1.l0 k l0 (l0.length : Int) 0 a1_0 a1_1 l1_2 l1_3
theorem slices_IndexFunc_impl_Record_impl_Record_GoodDiff_1.mono_l : ∀ k, (∀ y0 y1 y2 y3 y4 y5 y6, LeO (slices_IndexFunc_impl_Record_impl_Record_GoodDiff_1.l0 k y0 y1 y2 y3 y4 y5 y6) (slices_IndexFunc_impl_Record_impl_Record_GoodDiff_1.l0 (k + 1) y0 y1 y2 y3 y4 y5 y6))
 | 0 => fun _ _ _ _ _ _ _ r h => by simp [slices_IndexFunc_impl_Record_impl_Record_GoodDiff_1.l0] at h
 | k + 1 => by
  have ih0 := slices_IndexFunc_impl_Record_impl_Record_GoodDiff_1.mono_l k
  ·intro y0 y1 y2 y3 y4 y5 y6
   unfold slices_IndexFunc_impl_Record_impl_Record_GoodDiff_1.l0
   repeat' first
   | (with_reducible exact ih0 _ _ _ _ _ _ _)
   | (with_reducible exact impl_GoodDiff_1.mono _ _ _ _ _ _ _ _ _)
   | (with_reducible exact LeO.refl _)
   | (with_reducible exact LeO.none _)
   | (with_reducible refine LeO.ite ?_ ?_)
   | (with_reducible refine LeO.bind ?_ (fun _ => ?_))
   | exact ih0 _ _ _ _ _ _ _
   | exact impl_GoodDiff_1.mono _ _ _ _ _ _ _ _ _
   | exact LeO.none _
   | refine LeO.ite ?_ ?_
   | refine LeO.bind ?_ (fun _ => ?_)
theorem slices_IndexFunc_impl_Record_impl_Record_GoodDiff_1.mono : ∀ a0 a1 a2 a3 a4 k, LeO (slices_IndexFunc_impl_Record_impl_Record_GoodDiff_1.f k a0 a1 a2 a3 a4) (slices_IndexFunc_impl_Record_impl_Record_GoodDiff_1.f (k + 1) a0 a1 a2 a3 a4) := by
 intro a0 a1 a2 a3 a4 k
 have ih0 := slices_IndexFunc_impl_Record_impl_Record_GoodDiff_1.mono_l k
 unfold slices_IndexFunc_impl_Record_impl_Record_GoodDiff_1.f
 repeat' first
   | (with_reducible exact ih0 _ _ _ _ _ _ _)
   | (with_reducible exact impl_GoodDiff_1.mono _ _ _ _ _ _ _ _ _)
   | (with_reducible exact LeO.refl _)
   | (with_reducible exact LeO.none _)
   | (with_reducible refine LeO.ite ?_ ?_)
   | (with_reducible refine LeO.bind ?_ (fun _ => ?_))
   | exact ih0 _ _ _ _ _ _ _
   | exact impl_GoodDiff_1.mono _ _ _ _ _ _ _ _ _
   | exact LeO.none _
   | refine LeO.ite ?_ ?_
   | refine LeO.bind ?_ (fun _ => ?_)
theorem slices_IndexFunc_impl_Record_impl_Record_GoodDiff_1.calls (k : Nat) (A0 : Option Addr) (c0 : Nat) (l0 : List (S_Record)) (g1_0_ : Nat) (a1_0 : Int) (a1_1 : Int) (A1_2 : Option Addr) (c1_2 : Nat) (l1_2 : List (S_Record)) (A1_3 : Option Addr) (c1_3 : Nat) (l1_3 : List (S_Record)) (r : Int) (w : World) (hr0 : Kd.C k_Record w A0 l0.length l0) (hc0 : l0.length ≤ c0) (hr1_2 : Kd.C k_Record w A1_2 l1_2.length l1_2) (hc1_2 : l1_2.length ≤ c1_2) (hr1_3 : Kd.C k_Record w A1_3 l1_3.length l1_3) (hc1_3 : l1_3.length ≤ c1_3) (hkg1_0_ : w.heap[g1_0_]? = some (.cells #[.int .i64 a1_0, .int .i64 a1_1, .slice A1_2 l1_2.length c1_2, .slice A1_3 l1_3.length c1_3] 29 (0, 0))) (h : slices_IndexFunc_impl_Record_impl_Record_GoodDiff_1.f k l0 a1_0 a1_1 l1_2 l1_3 = some r) :
  Calls Tryz.prog 122 #[.slice A0 l0.length c0, .func (.func 67) #[] #[.pointer (some ⟨g1_0_, 0, none⟩)]] w fun e w' => e = .returned (.int .i64 r) ∧ Below w.heap.size w w' := by
 have hu93 := Tryz.underlying93
 have HR0 := Aside0.mk hr0
 have HC0 := Aside0.mk hc0
 clear hr0 hc0
 have HR1_2 := Aside0.mk hr1_2
 have HC1_2 := Aside0.mk hc1_2
 clear hr1_2 hc1_2
 have HR1_3 := Aside0.mk hr1_3
 have HC1_3 := Aside0.mk hc1_3
 clear hr1_3 hc1_3
 have BKrg1_0_ := Aside0.mk hkg1_0_
 clear hkg1_0_
 have HB := Aside0.mk (Below.refl w.heap.size w)
 have H : (slices_IndexFunc_impl_Record_impl_Record_GoodDiff_1.l0 k l0 (l0.length : Int) 0 a1_0 a1_1 l1_2 l1_3) = some r := h
 clear h
 have H' := Aside0.mk H
 clear H
 go_enter Tryz.func122, Tryz.ntmps122
 go_wp2
 go_loopg [8] k (fun kq v8 w' => ∃ (x8_1 : Int), v8 = .int .i64 x8_1 ∧ Aside0 (slices_IndexFunc_impl_Record_impl_Record_GoodDiff_1.l0 kq l0 (l0.length : Int) x8_1 a1_0 a1_1 l1_2 l1_3 = some r) ∧ Aside0 (kq ≤ k) ∧ Aside0 (w'.heap[g1_0_]? = some (.cells #[.int .i64 a1_0, .int .i64 a1_1, (.slice A1_2 l1_2.length c1_2), (.slice A1_3 l1_3.length c1_3)] 29 (0, 0))) ∧ Aside0 (Below w.heap.size w w'))
 case atStart => exact ⟨(0), TF, H', ⟨Nat.le_refl _⟩, KW BKrg1_0_, ⟨TB⟩⟩
 case round =>
  clear H'
  try clear c1
  try clear p2
  obtain ⟨x8_1, rfl, HA, HK1, BKrg1_0_, HB⟩ := hrel
  cases gk with
  | zero => exact absurd HA.out (by simp [slices_IndexFunc_impl_Record_impl_Record_GoodDiff_1.l0])
  | succ k1 =>
   have H := HA.out
   clear HA
   simp only [slices_IndexFunc_impl_Record_impl_Record_GoodDiff_1.l0] at H
   by_cases c3 : x8_1 < (l0.length : Int)
   ·rw [if_pos c3] at H
    have c3b0 : decide (x8_1 < (l0.length : Int)) = true := decide_eq_true c3
    clear c3
    obtain ⟨c4, H⟩ := ifn H
    have c4b0 : decide (0 ≤ x8_1) = true := decide_eq_true c4
    clear c4
    obtain ⟨c5, H⟩ := ifn H
    have c5b0 : decide (x8_1 < (l0.length : Int)) = true := decide_eq_true c5
    clear c5
    obtain ⟨t403, A6, H⟩ := bnd H
    by_cases c7 : t403 = true
    ·subst c7
     replace H := ift H
     obtain rfl := Option.some.inj H
     have p402 : 0 ≤ (x8_1 : Int) := TD
     have q402 : x8_1 < (l0.length : Int) := TD
     obtain ⟨ad402, e402, hx402_0, hx402_1, hx402_2, hx402_3⟩ := at_TRecord (Kd.C_below HR0.out HB.out) x8_1 p402 q402
     cases e402
     replace p402 := eq_true p402
     replace q402 := eq_true q402
     go_wp2_with (first | (go_at_call 67; (with_reducible refine (impl_GoodDiff_1.calls k1 ((rd_TRecord l0 x8_1).f0) ((rd_TRecord l0 x8_1).f1) ((rd_TRecord l0 x8_1).f2) ((rd_TRecord l0 x8_1).f3) g1_0_ a1_0 a1_1 A1_2 c1_2 l1_2 A1_3 c1_3 l1_3 true _ ?side1 ?side2 ?side3 ?side4 ?side5 A6.out).mono ?_); (case side1 => exact CW ((Kd.C_below HR1_2.out HB.out))); (case side2 => exact HC1_2.out); (case side3 => exact CW ((Kd.C_below HR1_3.out HB.out))); (case side4 => exact HC1_3.out); (case side5 => exact (KW BKrg1_0_).out); rintro e w8 ⟨rfl, hb⟩; replace BKrg1_0_ := KB BKrg1_0_ hb; replace HB := BS hb; (try clear hb); (try clear hb2); (try clear hk); (try clear hi)))
     go_ret
     exact ⟨TE, TB⟩
    ·replace c7 := Bool.eq_false_iff.mpr c7
     subst c7
     replace H := iff' H
     have H' := Aside0.mk H
     clear H
     have p402 : 0 ≤ (x8_1 : Int) := TD
     have q402 : x8_1 < (l0.length : Int) := TD
     obtain ⟨ad402, e402, hx402_0, hx402_1, hx402_2, hx402_3⟩ := at_TRecord (Kd.C_below HR0.out HB.out) x8_1 p402 q402
     cases e402
     replace p402 := eq_true p402
     replace q402 := eq_true q402
     go_wp2_with (first | (go_at_call 67; (with_reducible refine (impl_GoodDiff_1.calls k1 ((rd_TRecord l0 x8_1).f0) ((rd_TRecord l0 x8_1).f1) ((rd_TRecord l0 x8_1).f2) ((rd_TRecord l0 x8_1).f3) g1_0_ a1_0 a1_1 A1_2 c1_2 l1_2 A1_3 c1_3 l1_3 false _ ?side1 ?side2 ?side3 ?side4 ?side5 A6.out).mono ?_); (case side1 => exact CW ((Kd.C_below HR1_2.out HB.out))); (case side2 => exact HC1_2.out); (case side3 => exact CW ((Kd.C_below HR1_3.out HB.out))); (case side4 => exact HC1_3.out); (case side5 => exact (KW BKrg1_0_).out); rintro e w9 ⟨rfl, hb⟩; replace BKrg1_0_ := KB BKrg1_0_ hb; replace HB := BS hb; (try clear hb); (try clear hb2); (try clear hk); (try clear hi)))
     go_roundg k1
     case measure => have := HK1.out; omega
     case rel => exact ⟨(wrap64 (x8_1 + 1)), TF, H', ⟨TM⟩, KW BKrg1_0_, ⟨TB⟩⟩
   ·rw [if_neg c3] at H
    have c3b0 : decide (x8_1 < (l0.length : Int)) = false := decide_eq_false c3
    clear c3
    obtain rfl := Option.some.inj H
    go_wp2
    go_ret
    exact ⟨TE, TB⟩
end
section
/-! ### slices_ContainsFunc_impl_Record_impl_Record_GoodDiff_1: function 66 -/
def slices_ContainsFunc_impl_Record_impl_Record_GoodDiff_1.f (k : Nat) (l0 : List (S_Record)) (a1_0 : Int) (a1_1 : Int) (l1_2 : List (S_Record)) (l1_3 : List (S_Record)) : Option (Bool) := (slices_IndexFunc_impl_Record_impl_Record_GoodDiff_1.f k l0 a1_0 a1_1 l1_2 l1_3).bind fun t404 => (some (decide (t404 ≥ 0)))
theorem slices_ContainsFunc_impl_Record_impl_Record_GoodDiff_1.mono : ∀ a0 a1 a2 a3 a4 k, LeO (slices_ContainsFunc_impl_Record_impl_Record_GoodDiff_1.f k a0 a1 a2 a3 a4) (slices_ContainsFunc_impl_Record_impl_Record_GoodDiff_1.f (k + 1) a0 a1 a2 a3 a4) := by
 intro a0 a1 a2 a3 a4 k
 unfold slices_ContainsFunc_impl_Record_impl_Record_GoodDiff_1.f
 repeat' first
   | (with_reducible exact slices_IndexFunc_impl_Record_impl_Record_GoodDiff_1.mono _ _ _ _ _ _)
   | (with_reducible exact LeO.refl _)
   | (with_reducible exact LeO.none _)
   | (with_reducible refine LeO.ite ?_ ?_)
   | (with_reducible refine LeO.bind ?_ (fun _ => ?_))
   | exact slices_IndexFunc_impl_Record_impl_Record_GoodDiff_1.mono _ _ _ _ _ _
   | exact LeO.none _
   | refine LeO.ite ?_ ?_
   | refine LeO.bind ?_ (fun _ => ?_)
theorem slices_ContainsFunc_impl_Record_impl_Record_GoodDiff_1.calls (k : Nat) (A0 : Option Addr) (c0 : Nat) (l0 : List (S_Record)) (g1_0_ : Nat) (a1_0 : Int) (a1_1 : Int) (A1_2 : Option Addr) (c1_2 : Nat) (l1_2 : List (S_Record)) (A1_3 : Option Addr) (c1_3 : Nat) (l1_3 : List (S_Record)) (r : Bool) (w : World) (hr0 : Kd.C k_Record w A0 l0.length l0) (hc0 : l0.length ≤ c0) (hr1_2 : Kd.C k_Record w A1_2 l1_2.length l1_2) (hc1_2 : l1_2.length ≤ c1_2) (hr1_3 : Kd.C k_Record w A1_3 l1_3.length l1_3) (hc1_3 : l1_3.length ≤ c1_3) (hkg1_0_ : w.heap[g1_0_]? = some (.cells #[.int .i64 a1_0, .int .i64 a1_1, .slice A1_2 l1_2.length c1_2, .slice A1_3 l1_3.length c1_3] 29 (0, 0))) (h : slices_ContainsFunc_impl_Record_impl_Record_GoodDiff_1.f k l0 a1_0 a1_1 l1_2 l1_3 = some r) :
  Calls Tryz.prog 66 #[.slice A0 l0.length c0, .func (.func 67) #[] #[.pointer (some ⟨g1_0_, 0, none⟩)]] w fun e w' => e = .returned (.bool r) ∧ Below w.heap.size w w' := by
 have HR0 := Aside0.mk hr0
 have HC0 := Aside0.mk hc0
 clear hr0 hc0
 have HR1_2 := Aside0.mk hr1_2
 have HC1_2 := Aside0.mk hc1_2
 clear hr1_2 hc1_2
 have HR1_3 := Aside0.mk hr1_3
 have HC1_3 := Aside0.mk hc1_3
 clear hr1_3 hc1_3
 have BKrg1_0_ := Aside0.mk hkg1_0_
 clear hkg1_0_
 have HB := Aside0.mk (Below.refl w.heap.size w)
 have H : ((slices_IndexFunc_impl_Record_impl_Record_GoodDiff_1.f k l0 a1_0 a1_1 l1_2 l1_3).bind fun t404 => (some (decide (t404 ≥ 0)))) = some r := h
 clear h
 obtain ⟨t404, A3, H⟩ := bnd H
 obtain rfl := Option.some.inj H
 go_enter Tryz.func66, Tryz.ntmps66
 go_wp2_with (first | ((with_reducible refine gate_callee (f := 122) rfl ?_); refine goesL_ (some 7) rfl rfl Tryz.func122 KR rfl #[.slice A0 l0.length c0, .func (.func 67) #[] #[.pointer (some ⟨g1_0_, 0, none⟩)]] rfl TA ?_; (with_reducible refine (slices_IndexFunc_impl_Record_impl_Record_GoodDiff_1.calls k _ _ l0 g1_0_ a1_0 a1_1 A1_2 c1_2 l1_2 A1_3 c1_3 l1_3 t404 _ ?side1 ?side2 ?side3 ?side4 ?side5 ?side6 ?side7 A3.out).mono ?_); (case side1 => exact CW (HR0.out)); (case side2 => exact HC0.out); (case side3 => exact CW (HR1_2.out)); (case side4 => exact HC1_2.out); (case side5 => exact CW (HR1_3.out)); (case side6 => exact HC1_3.out); (case side7 => exact (KW BKrg1_0_).out); rintro e w4 ⟨rfl, hb⟩; refine ⟨_, rfl, ?_⟩; replace BKrg1_0_ := KB BKrg1_0_ hb; replace HB := BS hb; (try clear hb); (try clear hb2); (try clear hk); (try clear hi)))
 go_ret
 exact ⟨TE, TB⟩
end
section
/-! ### impl_GoodDiff: function 18 -/
def impl_GoodDiff.f (k : Nat) (a0_0 : Int) (a0_1 : Int) (l0_2 : List (S_Record)) (l0_3 : List (S_Record)) : Option (Bool) := (impl_isDiff.f k a0_0 a0_1 l0_2 l0_3).bind fun t406 => (if t406 = true then ((slices_ContainsFunc_impl_Record_impl_Record_GoodDiff_1.f k l0_2 a0_0 a0_1 l0_2 l0_3).bind fun t407 => (some (!t407))) else (some false))
theorem impl_GoodDiff.mono : ∀ a0 a1 a2 a3 k, LeO (impl_GoodDiff.f k a0 a1 a2 a3) (impl_GoodDiff.f (k + 1) a0 a1 a2 a3) := by
 intro a0 a1 a2 a3 k
 unfold impl_GoodDiff.f
 repeat' first
   | (with_reducible exact impl_isDiff.mono _ _ _ _ _)
   | (with_reducible exact slices_ContainsFunc_impl_Record_impl_Record_GoodDiff_1.mono _ _ _ _ _ _)
   | (with_reducible exact LeO.refl _)
   | (with_reducible exact LeO.none _)
   | (with_reducible refine LeO.ite ?_ ?_)
   | (with_reducible refine LeO.bind ?_ (fun _ => ?_))
   | exact impl_isDiff.mono _ _ _ _ _
   | exact slices_ContainsFunc_impl_Record_impl_Record_GoodDiff_1.mono _ _ _ _ _ _
   | exact LeO.none _
   | refine LeO.ite ?_ ?_
   | refine LeO.bind ?_ (fun _ => ?_)
theorem impl_GoodDiff.calls (k : Nat) (a0_0 : Int) (a0_1 : Int) (A0_2 : Option Addr) (c0_2 : Nat) (l0_2 : List (S_Record)) (A0_3 : Option Addr) (c0_3 : Nat) (l0_3 : List (S_Record)) (r : Bool) (w : World) (hr0_2 : Kd.C k_Record w A0_2 l0_2.length l0_2) (hc0_2 : l0_2.length ≤ c0_2) (hr0_3 : Kd.C k_Record w A0_3 l0_3.length l0_3) (hc0_3 : l0_3.length ≤ c0_3) (hG_ : Glob w) (h : impl_GoodDiff.f k a0_0 a0_1 l0_2 l0_3 = some r) :
  Calls Tryz.prog 18 #[.agg #[.int .i64 a0_0, .int .i64 a0_1, .slice A0_2 l0_2.length c0_2, .slice A0_3 l0_3.length c0_3]] w fun e w' => e = .returned (.bool r) ∧ Below w.heap.size w w' := by
 have hu29 := Tryz.underlying29
 have HR0_2 := Aside0.mk hr0_2
 have HC0_2 := Aside0.mk hc0_2
 clear hr0_2 hc0_2
 have HR0_3 := Aside0.mk hr0_3
 have HC0_3 := Aside0.mk hc0_3
 clear hr0_3 hc0_3
 have HGL := Aside0.mk hG_
 clear hG_
 have HB := Aside0.mk (Below.refl w.heap.size w)
 have H : ((impl_isDiff.f k a0_0 a0_1 l0_2 l0_3).bind fun t406 => (if t406 = true then ((slices_ContainsFunc_impl_Record_impl_Record_GoodDiff_1.f k l0_2 a0_0 a0_1 l0_2 l0_3).bind fun t407 => (some (!t407))) else (some false))) = some r := h
 clear h
 obtain ⟨t406, A2, H⟩ := bnd H
 by_cases c3 : t406 = true
 ·subst c3
  replace H := ift H
  obtain ⟨t407, A4, H⟩ := bnd H
  obtain rfl := Option.some.inj H
  go_enter Tryz.func18, Tryz.ntmps18
  go_wp2_with (first | ((with_reducible refine gate_dst (N := 1) rfl ?_); refine bE 1 #[.int .i64 a0_0, .int .i64 a0_1, .slice A0_2 l0_2.length c0_2, .slice A0_3 l0_3.length c0_3] 29 ?_; intro gb405 hg w5 hbox hb; have BK405 := Aside0.mk (hbox); have GE405 := bG hg; replace HB := BS hb; clear hb hbox hg; have hcz6 := cz4 BK405) | ((with_reducible refine gate_callee (f := 65) rfl ?_); refine goesL_ (some 4) rfl rfl Tryz.func65 KR rfl #[.agg #[.int .i64 a0_0, .int .i64 a0_1, .slice A0_2 l0_2.length c0_2, .slice A0_3 l0_3.length c0_3]] rfl TA ?_; (with_reducible refine (impl_isDiff.calls k a0_0 a0_1 _ _ l0_2 _ _ l0_3 true _ ?side1 ?side2 ?side3 ?side4 ?side5 A2.out).mono ?_); (case side1 => exact CW ((Kd.C_below HR0_2.out HB.out))); (case side2 => exact HC0_2.out); (case side3 => exact CW ((Kd.C_below HR0_3.out HB.out))); (case side4 => exact HC0_3.out); (case side5 => exact GW HGL); rintro e w7 ⟨rfl, hb⟩; refine ⟨_, rfl, ?_⟩; replace BK405 := KB BK405 hb; replace HB := BS hb; (try clear hb); (try clear hb2); (try clear hk); (try clear hi); have hcz8 := cz4 BK405) | (go_at_call 66; (with_reducible refine (slices_ContainsFunc_impl_Record_impl_Record_GoodDiff_1.calls k _ _ l0_2 gb405 a0_0 a0_1 A0_2 c0_2 l0_2 A0_3 c0_3 l0_3 t407 _ ?side1 ?side2 ?side3 ?side4 ?side5 ?side6 ?side7 A4.out).mono ?_); (case side1 => exact CW ((Kd.C_below HR0_2.out HB.out))); (case side2 => exact HC0_2.out); (case side3 => exact CW ((Kd.C_below HR0_2.out HB.out))); (case side4 => exact HC0_2.out); (case side5 => exact CW ((Kd.C_below HR0_3.out HB.out))); (case side6 => exact HC0_3.out); (case side7 => exact (KW BK405).out); rintro e w9 ⟨rfl, hb⟩; replace BK405 := KB BK405 hb; replace HB := BS hb; (try clear hb); (try clear hb2); (try clear hk); (try clear hi)))
  go_ret
  exact ⟨TE, TB⟩
 ·replace c3 := Bool.eq_false_iff.mpr c3
  subst c3
  replace H := iff' H
  obtain rfl := Option.some.inj H
  go_enter Tryz.func18, Tryz.ntmps18
  go_wp2_with (first | ((with_reducible refine gate_dst (N := 1) rfl ?_); refine bE 1 #[.int .i64 a0_0, .int .i64 a0_1, .slice A0_2 l0_2.length c0_2, .slice A0_3 l0_3.length c0_3] 29 ?_; intro gb405 hg w10 hbox hb; have BK405 := Aside0.mk (hbox); have GE405 := bG hg; replace HB := BS hb; clear hb hbox hg; have hcz11 := cz4 BK405) | ((with_reducible refine gate_callee (f := 65) rfl ?_); refine goesL_ (some 4) rfl rfl Tryz.func65 KR rfl #[.agg #[.int .i64 a0_0, .int .i64 a0_1, .slice A0_2 l0_2.length c0_2, .slice A0_3 l0_3.length c0_3]] rfl TA ?_; (with_reducible refine (impl_isDiff.calls k a0_0 a0_1 _ _ l0_2 _ _ l0_3 false _ ?side1 ?side2 ?side3 ?side4 ?side5 A2.out).mono ?_); (case side1 => exact CW ((Kd.C_below HR0_2.out HB.out))); (case side2 => exact HC0_2.out); (case side3 => exact CW ((Kd.C_below HR0_3.out HB.out))); (case side4 => exact HC0_3.out); (case side5 => exact GW HGL); rintro e w12 ⟨rfl, hb⟩; refine ⟨_, rfl, ?_⟩; replace BK405 := KB BK405 hb; replace HB := BS hb; (try clear hb); (try clear hb2); (try clear hk); (try clear hi)))
  go_ret
  exact ⟨TE, TB⟩
end
section
/-! ### slices_Clone_impl_Record_impl_Record: function 125 -/
def slices_Clone_impl_Record_impl_Record.f (l0 : List (S_Record)) : Option ((List (S_Record))) := (some (([] : List (S_Record)) : List (S_Record))).bind fun y408 => (if y408.length + l0.length < 2932031007402 then (some (y408 ++ l0)) else (none))
theorem slices_Clone_impl_Record_impl_Record.calls (A0 : Option Addr) (c0 : Nat) (l0 : List (S_Record)) (r : List (S_Record)) (w : World) (hr0 : Kd.C k_Record w A0 l0.length l0) (hc0 : l0.length ≤ c0) (h : slices_Clone_impl_Record_impl_Record.f l0 = some r) :
  Calls Tryz.prog 125 #[.slice A0 l0.length c0] w fun e w' => ∃ v0_ : Value, e = .returned (v0_) ∧ Kd.R k_Record 93 w' w.heap.size (fun _ => True) v0_ r ∧ Below w.heap.size w w' := by
 have HR0 := Aside0.mk hr0
 have HC0 := Aside0.mk hc0
 clear hr0 hc0
 have HB := Aside0.mk (Below.refl w.heap.size w)
 have H : ((some (([] : List (S_Record)) : List (S_Record))).bind fun y408 => (if y408.length + l0.length < 2932031007402 then (some (y408 ++ l0)) else (none))) = some r := h
 clear h
 cases A0 with
 | none =>
  have hz_ : l0 = [] := Kd.C_none_nil HR0.out
  subst hz_
  have hnq_ : ∀ W, (Go.binOp .eql 27 (.slice none 0 c0) (.slice none 0 0)).run Tryz.prog W = .ok (.bool true) W := fun W => Go.Lib.run_eql_slice_nil W 27 93 none 0 c0 0 0 Tryz.underlying27
  replace H : (some ([] : List (S_Record))) = some r := by simpa using H
  obtain rfl := Option.some.inj H
  go_enter Tryz.func125, Tryz.ntmps125
  go_wp2
  go_ret
  exact ⟨_, TE, TZ, TB⟩
 | some adq_ =>
  have hnq_ : ∀ W, (Go.binOp .eql 27 (.slice (some adq_) l0.length c0) (.slice none 0 0)).run Tryz.prog W = .ok (.bool false) W := fun W => Go.Lib.run_eql_slice_nil W 27 93 (some adq_) l0.length c0 0 0 Tryz.underlying27
  obtain ⟨y408, hy408⟩ : ∃ y_ : List (S_Record), y_ = (([] : List (S_Record))) := ⟨_, rfl⟩
  replace H : (if y408.length + l0.length < 2932031007402 then (some (y408 ++ l0)) else (none)) = some r := by first | (rw [hy408]; with_reducible exact H) | (have H2_ := (Option.bind_some _ _).symm.trans H; rw [hy408]; with_reducible exact H2_) | (have H2_ := (Option.bind_some _ _).symm.trans H; with_reducible exact H2_) | with_reducible exact H | (rw [hy408]; exact H) | exact H
  have Ny408 := Aside0.mk hy408
  clear hy408
  obtain ⟨c2, H⟩ := ifn H
  have LMc2 := Aside0.mk c2
  clear c2
  obtain ⟨y411, hy411⟩ : ∃ y_ : List (S_Record), y_ = (y408 ++ l0) := ⟨_, rfl⟩
  replace H : (some y411) = some r := by first | (rw [hy411]; with_reducible exact H) | (have H2_ := (Option.bind_some _ _).symm.trans H; rw [hy411]; with_reducible exact H2_) | (have H2_ := (Option.bind_some _ _).symm.trans H; with_reducible exact H2_) | with_reducible exact H | (rw [hy411]; exact H) | exact H
  have Ny411 := Aside0.mk hy411
  clear hy411
  obtain rfl := Option.some.inj H
  go_enter Tryz.func125, Tryz.ntmps125
  go_wp2_with (first | ((with_reducible refine gate_dst (N := 5) rfl ?_); refine Kd.R_lit k_Record _ 93 ?hg (N := 5) ?hd (xs := ([] : List (S_Record))) (inner := []) (ok := fun _ => True) (okp := fun _ => True) ?hr ?hp (fun _ hk => hk) trivial (Below.refl _ _) (Nat.le_refl _) (by simp) ?_; (case hd => rfl); (case hg => rfl); (case hr => first | (go_simp; done) | (go_simp; rfl)); (case hp => exact (Reps.none _ _)); intro v409 w3 ho4 hb hg_ hnew_; clear hg_ hnew_; (first | rw [← Ny408.out] at ho4 | (simp only [Int.reduceToNat] at ho4; rw [← Ny408.out] at ho4)); have HO410 := RL ho4; replace HB := BS hb; clear hb ho4) | ((with_reducible refine gate_builtin (b := .append) (xs := #[.tmp 5, .tmp 6]) rfl ?_); at_builtin; refine Kd.R_append_rows k_Record (w0 := w) w.heap.size rfl (.tmp 5) (.tmp 6) 27 93 (.agg #[(.string ⟨#[]⟩), (.int .i64 0), (.int .i64 0), (.string ⟨#[]⟩)]) 48 rfl Tryz.underlying27 info93 rfl (by decide) (by omega) v409 y408 l0 _ _ _ (fun _ => True) (fun _ => False) rfl rfl ?aO ?aR (fun _ _ h => h) (fun _ h => h.elim) ?aF ?aB ?aS ?aL ?_; (case aR => repeat (first | exact (Kd.C_below HR0.out HB.out) | (with_reducible refine Kd.C_alloc ?_ _) | (with_reducible refine Kd.C_drewN ?_ _) | (with_reducible refine Kd.C_drew ?_))); (case aB => exact TB); (case aF => exact (fun _ _ => trivial)); (case aO => exact (RW HO410).out); (case aS => exact (below_size TB)); (case aL => have := LMc2.out; omega); intro v412 w5 ho hb hg hat; rw [← Ny411.out] at ho; have n0_ := Aside0.mk (hb); have n1_ := Aside0.mk (ho); clear HB; clear HO410; have HB := n0_; have HO413 := n1_; clear n0_ n1_; clear ho hb hg hat))
  go_ret
  exact ⟨_, TE, (RW HO413).out, TB⟩
end
section
/-! ### impl_ownDiff: function 71 -/
def impl_ownDiff.f (a0_0 : Int) (a0_1 : Int) (l0_2 : List (S_Record)) (l0_3 : List (S_Record)) : Option (Int × Int × (List (S_Record)) × (List (S_Record))) := (slices_Clone_impl_Record_impl_Record.f l0_2).bind fun t416 => ((slices_Clone_impl_Record_impl_Record.f l0_3).bind fun t419 => (some (a0_0, a0_1, t416, t419)))
def impl_ownDiff.T1 : Bool × List (List Nat × List Nat) := (true, [([], []), ([0], [0]), ([1], [1]), ([], []), ([3], [3]), ([4, 2], [4]), ([0, 1, 2, 3, 4], []), ([6, 2, 5, 0, 1, 2, 3, 4], [2, 6]), ([0, 1, 2, 3, 4, 5, 6, 7], []), ([8, 5, 7, 0, 1, 2, 3, 4, 5, 6, 7], [5, 8])])
def impl_ownDiff.B1 : List Nat := [0, 1, 3, 0, 8, 31, 31, 127, 255, 511]
theorem impl_ownDiff.tab1 : rtab .any (opsOf Tryz.f71 1) = impl_ownDiff.T1 := by kernel_rfl
theorem impl_ownDiff.bits1 : waitsOk impl_ownDiff.T1.2 impl_ownDiff.B1 = true := by kernel_rfl
theorem impl_ownDiff.calls (a0_0 : Int) (a0_1 : Int) (A0_2 : Option Addr) (c0_2 : Nat) (l0_2 : List (S_Record)) (A0_3 : Option Addr) (c0_3 : Nat) (l0_3 : List (S_Record)) (r1 : Int) (r2 : Int) (r3 : List (S_Record)) (r4 : List (S_Record)) (w : World) (hr0_2 : Kd.C k_Record w A0_2 l0_2.length l0_2) (hc0_2 : l0_2.length ≤ c0_2) (hr0_3 : Kd.C k_Record w A0_3 l0_3.length l0_3) (hc0_3 : l0_3.length ≤ c0_3) (h : impl_ownDiff.f a0_0 a0_1 l0_2 l0_3 = some (r1, r2, r3, r4)) :
  Calls Tryz.prog 71 #[.agg #[.int .i64 a0_0, .int .i64 a0_1, .slice A0_2 l0_2.length c0_2, .slice A0_3 l0_3.length c0_3]] w fun e w' => ∃ v2_ v3_ : Value, e = .returned (.agg #[.int .i64 r1, .int .i64 r2, v2_, v3_]) ∧ Kd.R k_Record 93 w' w.heap.size (fun k_ => some k_ ≠ (v3_ : Value).ownBlock) v2_ r3 ∧ Kd.R k_Record 93 w' w.heap.size (fun k_ => some k_ ≠ (v2_ : Value).ownBlock) v3_ r4 ∧ Below w.heap.size w w' := by
 have hu29 := Tryz.underlying29
 have HR0_2 := Aside0.mk hr0_2
 have HC0_2 := Aside0.mk hc0_2
 clear hr0_2 hc0_2
 have HR0_3 := Aside0.mk hr0_3
 have HC0_3 := Aside0.mk hc0_3
 clear hr0_3 hc0_3
 have HB := Aside0.mk (Below.refl w.heap.size w)
 have H : ((slices_Clone_impl_Record_impl_Record.f l0_2).bind fun t416 => ((slices_Clone_impl_Record_impl_Record.f l0_3).bind fun t419 => (some (a0_0, a0_1, t416, t419)))) = some (r1, r2, r3, r4) := h
 clear h
 obtain ⟨t416, A2, H⟩ := bnd H
 obtain ⟨t419, A3, H⟩ := bnd H
 simp only [Option.some.injEq, Prod.mk.injEq] at H
 obtain ⟨rfl, rfl, rfl, rfl⟩ := H
 go_enter Tryz.func71, Tryz.ntmps71
 try go_wp2_with (first | ((with_reducible refine gate_dst (N := 1) rfl ?_); refine bE 1 #[.int .i64 a0_0, .int .i64 a0_1, .slice A0_2 l0_2.length c0_2, .slice A0_3 l0_3.length c0_3] 29 ?_; intro gb414 hg w4 hbox hb; have BK414 := Aside0.mk (hbox); have GE414 := bG hg; replace HB := BS hb; clear hb hbox hg) | ((with_reducible refine gate_dst (N := 2) rfl ?_); refine bE 2 #[.int .i64 0, .int .i64 0, .slice none 0 0, .slice none 0 0] 29 ?_; intro gb415 hg w5 hbox hb; have BK415 := Aside0.mk (hbox); have GE415 := bG hg; replace HB := BS hb; have NB414_415 := bN BK414 hg; have NB415_414 := bM BK414 hg; replace BK414 := KB BK414 hb; clear hb hbox hg))
 replace BK414 := Aside0.mk (blk_drew BK414.out)
 replace BK415 := Aside0.mk (blk_drew BK415.out)
 replace HB := Aside0.mk (below_drew1 HB.out)
 refine start_ (n := 10) (S := fun w' => w'.cell? ⟨gb414, 0, none⟩ = some (.int .i64 a0_0) ∧ w'.cell? ⟨gb414, 1, none⟩ = some (.int .i64 a0_1) ∧ w'.cell? ⟨gb414, 2, none⟩ = some (.slice A0_2 l0_2.length c0_2) ∧ w'.cell? ⟨gb414, 3, none⟩ = some (.slice A0_3 l0_3.length c0_3)) (ds := [7, 9]) #[false, false, false, false, false, false, false, false, false, false] KR rfl rfl ⟨bc 0 BK414, bc 1 BK414, bc 2 BK414, bc 3 BK414⟩ (fun hHeld => ?_); refine with_tabW impl_ownDiff.tab1 impl_ownDiff.bits1 (fun HT_ HW_ => ?_)
 generalize w5.drew = w6 at BK414 BK415 HB hHeld ⊢
 refine pA 0 3 (mL 10 1) HT_ rfl rfl ?_
 refine pA 3 6 (mL 10 9) HT_ rfl rfl ?_
 refine tA 1 4 (mL 10 11) HT_ HW_ hHeld rfl rfl (by rintro w' ⟨s0, s1, s2, s3⟩; go_simp; with_reducible rfl) ?_
 refine tA 4 7 (mL 10 27) HT_ HW_ hHeld rfl rfl (by rintro w' ⟨s0, s1, s2, s3⟩; go_simp; with_reducible rfl) ?_
 refine one_ (i := 2) (N := some 5) (mL 10 31) rfl rfl (one_of HT_.out KR) (by decide) (fun K hK => ?_)
 refine goes_ Tryz.func125 KR rfl #[.slice A0_2 l0_2.length c0_2] (by rfl) rfl rfl TA ?_
 with_reducible refine (slices_Clone_impl_Record_impl_Record.calls _ _ l0_2 t416 _ ?side1 ?side2 A2.out).mono ?_
 (case side1 => exact CW ((Kd.C_below HR0_2.out HB.out)))
 (case side2 => exact HC0_2.out)
 rintro e w7 ⟨v417, rfl, ho0, hb⟩
 refine ⟨_, rfl, ?_⟩
 have HO418 := RL ho0
 replace BK414 := KB BK414 hb
 replace BK415 := KB BK415 hb
 replace HB := BS hb
 (try clear hb)
 (try clear hb2)
 (try clear hk)
 (try clear hi)
 (try clear ho0)
 refine hK.out _ _ ⟨bc 0 BK414, bc 1 BK414, bc 2 BK414, bc 3 BK414⟩ (fun hHeld => ?_)
 clear hK K
 refine nA ?_
 refine pA 6 9 (mL 10 95) HT_ rfl rfl ?_
 refine one_ (i := 5) (N := some 8) (mL 10 127) rfl rfl (one_of HT_.out KR) (by decide) (fun K hK => ?_)
 refine goes_ Tryz.func125 KR rfl #[.slice A0_3 l0_3.length c0_3] (by rfl) rfl rfl TA ?_
 with_reducible refine (slices_Clone_impl_Record_impl_Record.calls _ _ l0_3 t419 _ ?side1 ?side2 A3.out).mono ?_
 (case side1 => exact CW ((Kd.C_below HR0_3.out HB.out)))
 (case side2 => exact HC0_3.out)
 rintro e w8 ⟨v420, rfl, ho0, hb⟩
 refine ⟨_, rfl, ?_⟩
 have HO421 := Aside0.mk (Kd.R_lower (Kd.R_new' ho0 (Kd.R_lt (RW HO418).out)) (below_size TB))
 replace HO418 := Aside0.mk (Kd.R_elder' (RW HO418).out (Kd.R_base ho0) hb)
 replace BK414 := KB BK414 hb
 replace BK415 := KB BK415 hb
 replace HB := BS hb
 (try clear hb)
 (try clear hb2)
 (try clear hk)
 (try clear hi)
 (try clear ho0)
 obtain ⟨Ao9, co9, eo9⟩ := Kd.R_slice HO418.out
 (first | subst eo9 | (injection eo9 with f1_ f2_ f3_; have f4_ := f1_.symm; have f5_ := f3_.symm; clear f1_ f2_ f3_; subst f4_; subst f5_))
 obtain ⟨Ao11, co11, eo11⟩ := Kd.R_slice HO421.out
 (first | subst eo11 | (injection eo11 with f1_ f2_ f3_; have f4_ := f1_.symm; have f5_ := f3_.symm; clear f1_ f2_ f3_; subst f4_; subst f5_))
 refine hK.out _ _ ⟨bc 0 BK414, bc 1 BK414, bc 2 BK414, bc 3 BK414⟩ (fun hHeld => ?_)
 clear hK K
 refine nA ?_
 refine last_ (i := 7) (N := none) (mL 10 255) rfl rfl (one_of HT_.out KR) (by decide) (fun K hK => ?_)
 have hs10 := bc 2 BK414
 have hfs10 := blk_frozen BK414.out 2
 have hns10_1 := NB415_414.out
 have hms10_1 := NB414_415.out
 refine skip_ (w1 := ?_) (by rfl) rfl ?_ ?_
 rotate_left
 ·go_simp
  rfl
 refine hK.out _ _ ?_
 clear hK K
 refine pA 8 10 (mL 10 511) HT_ rfl rfl ?_
 refine last_ (i := 9) (N := none) (mL 10 1023) rfl rfl (one_of HT_.out KR) (by decide) (fun K hK => ?_)
 have hs12 := bc 3 BK414
 have hfs12 := blk_frozen BK414.out 3
 have hns12_1 := NB415_414.out
 have hms12_1 := NB414_415.out
 refine skip_ (w1 := ?_) (by rfl) rfl ?_ ?_
 rotate_left
 ·go_simp
  rfl
 refine hK.out _ _ ?_
 clear hK K
 refine done_ (done_of HT_.out KR) ?_
 have hnb13 := NB414_415.out
 have hnc13 := NB415_414.out
 have hcz14 := cz4 BK414
 have hcz15 := cz4 BK415
 try go_wp2
 refine bodyPost_ret (results_cell_row rfl _ _ gb415 29 #[.int .i64 a0_0, .int .i64 a0_1, .slice Ao9 t416.length co9, .slice Ao11 t419.length co11] (0, 0) _ rfl (by (with_reducible repeat (first | refine blk_drewN ?_ _ | refine blk_drew ?_ | refine blk_alloc ?_ _)); refine blk_put (cs := #[.int .i64 a0_0, .int .i64 a0_1, .slice Ao9 t416.length co9, .slice none 0 0]) ?_ 3 _ rfl; (with_reducible repeat (first | refine blk_drewN ?_ _ | refine blk_drew ?_ | refine blk_alloc ?_ _)); refine blk_put (cs := #[.int .i64 a0_0, .int .i64 a0_1, .slice none 0 0, .slice none 0 0]) ?_ 2 _ rfl; (with_reducible repeat (first | refine blk_drewN ?_ _ | refine blk_drew ?_ | refine blk_alloc ?_ _)); refine blk_put (cs := #[.int .i64 a0_0, .int .i64 0, .slice none 0 0, .slice none 0 0]) ?_ 1 _ rfl; (with_reducible repeat (first | refine blk_drewN ?_ _ | refine blk_drew ?_ | refine blk_alloc ?_ _)); refine blk_put (cs := #[.int .i64 0, .int .i64 0, .slice none 0 0, .slice none 0 0]) ?_ 0 _ rfl; (with_reducible repeat (first | refine blk_drewN ?_ _ | refine blk_drew ?_ | refine blk_alloc ?_ _)); refine blk_far ?_ NB415_414.out _; (with_reducible repeat (first | refine blk_drewN ?_ _ | refine blk_drew ?_ | refine blk_alloc ?_ _)); refine blk_far ?_ NB415_414.out _; (with_reducible repeat (first | refine blk_drewN ?_ _ | refine blk_drew ?_ | refine blk_alloc ?_ _)); exact BK415.out) Tryz.underlying29 rfl KR) rfl ?_
 exact ⟨_, _, TE, by (with_reducible repeat (first | apply Kd.R_alloc | apply Kd.R_drewN | apply Kd.R_drew)); exact Kd.R_mono (Kd.R_far (p := ⟨gb415, 3, none⟩) (Kd.R_far (p := ⟨gb415, 2, none⟩) (Kd.R_far (p := ⟨gb415, 1, none⟩) (Kd.R_far (p := ⟨gb415, 0, none⟩) (Kd.R_far (p := ⟨gb414, 3, none⟩) (Kd.R_far (p := ⟨gb414, 2, none⟩) (Kd.R_types (Kd.R_types HO418.out BK414.out (by decide)) BK415.out (by decide)) (fun _ hk => hk.1.2) (.slice Ao9 t416.length co9)) (fun _ hk => hk.1.2) (.slice Ao11 t419.length co11)) (fun _ hk => hk.2) (.int .i64 a0_0)) (fun _ hk => hk.2) (.int .i64 a0_1)) (fun _ hk => hk.2) (.slice Ao9 t416.length co9)) (fun _ hk => hk.2) (.slice Ao11 t419.length co11)) (fun _ hk => hk.1.1.2), by (with_reducible repeat (first | apply Kd.R_alloc | apply Kd.R_drewN | apply Kd.R_drew)); exact Kd.R_mono (Kd.R_far (p := ⟨gb415, 3, none⟩) (Kd.R_far (p := ⟨gb415, 2, none⟩) (Kd.R_far (p := ⟨gb415, 1, none⟩) (Kd.R_far (p := ⟨gb415, 0, none⟩) (Kd.R_far (p := ⟨gb414, 3, none⟩) (Kd.R_far (p := ⟨gb414, 2, none⟩) (Kd.R_types (Kd.R_types HO421.out BK414.out (by decide)) BK415.out (by decide)) (fun _ hk => hk.1.2) (.slice Ao9 t416.length co9)) (fun _ hk => hk.1.2) (.slice Ao11 t419.length co11)) (fun _ hk => hk.2) (.int .i64 a0_0)) (fun _ hk => hk.2) (.int .i64 a0_1)) (fun _ hk => hk.2) (.slice Ao9 t416.length co9)) (fun _ hk => hk.2) (.slice Ao11 t419.length co11)) (fun _ hk => hk.1.1.2), TB⟩
end
section
/-! ### impl_BackDiff: function 21 -/
def impl_BackDiff.f (k : Nat) (a0_0 : Int) (a0_1 : Int) (l0_2 : List (S_Record)) (l0_3 : List (S_Record)) : Option (Int × Int × (List (S_Record)) × (List (S_Record)) × Bool) := (impl_GoodDiff.f k a0_0 a0_1 l0_2 l0_3).bind fun t424 => (if t424 = true then ((impl_ownDiff.f a0_1 a0_0 l0_3 l0_2).bind fun bt425 => (some (bt425.1, bt425.2.1, bt425.2.2.1, bt425.2.2.2, true))) else (some (0, 0, ([] : List (S_Record)), ([] : List (S_Record)), false)))
theorem impl_BackDiff.mono : ∀ a0 a1 a2 a3 k, LeO (impl_BackDiff.f k a0 a1 a2 a3) (impl_BackDiff.f (k + 1) a0 a1 a2 a3) := by
 intro a0 a1 a2 a3 k
 unfold impl_BackDiff.f
 repeat' first
   | (with_reducible exact impl_GoodDiff.mono _ _ _ _ _)
   | (with_reducible exact LeO.refl _)
   | (with_reducible exact LeO.none _)
   | (with_reducible refine LeO.ite ?_ ?_)
   | (with_reducible refine LeO.bind ?_ (fun _ => ?_))
   | exact impl_GoodDiff.mono _ _ _ _ _
   | exact LeO.none _
   | refine LeO.ite ?_ ?_
   | refine LeO.bind ?_ (fun _ => ?_)
theorem impl_BackDiff.calls (k : Nat) (a0_0 : Int) (a0_1 : Int) (A0_2 : Option Addr) (c0_2 : Nat) (l0_2 : List (S_Record)) (A0_3 : Option Addr) (c0_3 : Nat) (l0_3 : List (S_Record)) (r1 : Int) (r2 : Int) (r3 : List (S_Record)) (r4 : List (S_Record)) (r5 : Bool) (w : World) (hr0_2 : Kd.C k_Record w A0_2 l0_2.length l0_2) (hc0_2 : l0_2.length ≤ c0_2) (hr0_3 : Kd.C k_Record w A0_3 l0_3.length l0_3) (hc0_3 : l0_3.length ≤ c0_3) (hG_ : Glob w) (h : impl_BackDiff.f k a0_0 a0_1 l0_2 l0_3 = some (r1, r2, r3, r4, r5)) :
  Calls Tryz.prog 21 #[.agg #[.int .i64 a0_0, .int .i64 a0_1, .slice A0_2 l0_2.length c0_2, .slice A0_3 l0_3.length c0_3]] w fun e w' => ∃ v2_ v3_ : Value, e = .returned (.tuple #[.agg #[.int .i64 r1, .int .i64 r2, v2_, v3_], .bool r5]) ∧ Kd.R k_Record 93 w' w.heap.size (fun k_ => some k_ ≠ (v3_ : Value).ownBlock) v2_ r3 ∧ Kd.R k_Record 93 w' w.heap.size (fun k_ => some k_ ≠ (v2_ : Value).ownBlock) v3_ r4 ∧ Below w.heap.size w w' := by
 have hu29 := Tryz.underlying29
 have HR0_2 := Aside0.mk hr0_2
 have HC0_2 := Aside0.mk hc0_2
 clear hr0_2 hc0_2
 have HR0_3 := Aside0.mk hr0_3
 have HC0_3 := Aside0.mk hc0_3
 clear hr0_3 hc0_3
 have HGL := Aside0.mk hG_
 clear hG_
 have HB := Aside0.mk (Below.refl w.heap.size w)
 have H : ((impl_GoodDiff.f k a0_0 a0_1 l0_2 l0_3).bind fun t424 => (if t424 = true then ((impl_ownDiff.f a0_1 a0_0 l0_3 l0_2).bind fun bt425 => (some (bt425.1, bt425.2.1, bt425.2.2.1, bt425.2.2.2, true))) else (some (0, 0, ([] : List (S_Record)), ([] : List (S_Record)), false)))) = some (r1, r2, r3, r4, r5) := h
 clear h
 obtain ⟨t424, A2, H⟩ := bnd H
 by_cases c3 : t424 = true
 ·subst c3
  replace H := ift H
  obtain ⟨⟨t425, t426, t427, t430⟩, A4, H⟩ := bnd H
  try dsimp only at H
  simp only [Option.some.injEq, Prod.mk.injEq] at H
  obtain ⟨rfl, rfl, rfl, rfl, rfl⟩ := H
  go_enter Tryz.func21, Tryz.ntmps21
  go_wp2_with (first | ((with_reducible refine gate_dst (N := 1) rfl ?_); refine bE 1 #[.int .i64 a0_0, .int .i64 a0_1, .slice A0_2 l0_2.length c0_2, .slice A0_3 l0_3.length c0_3] 29 ?_; intro gb422 hg w5 hbox hb; have BK422 := Aside0.mk (hbox); have GE422 := bG hg; replace HB := BS hb; clear hb hbox hg) | ((with_reducible refine gate_dst (N := 2) rfl ?_); refine bE 2 #[.int .i64 0, .int .i64 0, .slice none 0 0, .slice none 0 0] 29 ?_; intro gb423 hg w6 hbox hb; have BK423 := Aside0.mk (hbox); have GE423 := bG hg; replace HB := BS hb; have NB422_423 := bN BK422 hg; have NB423_422 := bM BK422 hg; replace BK422 := KB BK422 hb; clear hb hbox hg; have hnb7 := NB422_423.out; have hnc7 := NB423_422.out; have hcz8 := cz4 BK422) | ((with_reducible refine gate_callee (f := 18) rfl ?_); refine goesL_ (some 5) rfl rfl Tryz.func18 KR rfl #[.agg #[.int .i64 a0_0, .int .i64 a0_1, .slice A0_2 l0_2.length c0_2, .slice A0_3 l0_3.length c0_3]] rfl TA ?_; (with_reducible refine (impl_GoodDiff.calls k a0_0 a0_1 _ _ l0_2 _ _ l0_3 true _ ?side1 ?side2 ?side3 ?side4 ?side5 A2.out).mono ?_); (case side1 => exact CW ((Kd.C_below HR0_2.out HB.out))); (case side2 => exact HC0_2.out); (case side3 => exact CW ((Kd.C_below HR0_3.out HB.out))); (case side4 => exact HC0_3.out); (case side5 => exact GW HGL); rintro e w9 ⟨rfl, hb⟩; refine ⟨_, rfl, ?_⟩; replace BK422 := KB BK422 hb; replace BK423 := KB BK423 hb; replace HB := BS hb; (try clear hb); (try clear hb2); (try clear hk); (try clear hi); have hcz10 := cz4 BK422) | ((with_reducible refine gate_callee (f := 71) rfl ?_); refine goesL_ (some 17) rfl rfl Tryz.func71 KR rfl #[.agg #[.int .i64 a0_1, .int .i64 a0_0, .slice A0_3 l0_3.length c0_3, .slice A0_2 l0_2.length c0_2]] rfl TA ?_; (with_reducible refine (impl_ownDiff.calls a0_1 a0_0 _ _ l0_3 _ _ l0_2 t425 t426 t427 t430 _ ?side1 ?side2 ?side3 ?side4 A4.out).mono ?_); (case side1 => exact CW ((Kd.C_below HR0_3.out HB.out))); (case side2 => exact HC0_3.out); (case side3 => exact CW ((Kd.C_below HR0_2.out HB.out))); (case side4 => exact HC0_2.out); rintro e w11 ⟨v428, v431, rfl, ho0, ho1, hb⟩; refine ⟨_, rfl, ?_⟩; have HO429 := RL ho0; have HO432 := RL ho1; replace BK422 := KB BK422 hb; replace BK423 := KB BK423 hb; replace HB := BS hb; (try clear hb); (try clear hb2); (try clear hk); (try clear hi); (try clear ho0); (try clear ho1); have hcz12 := cz4 BK423; obtain ⟨Ao13, co13, eo13⟩ := Kd.R_slice HO429.out; subst eo13; obtain ⟨Ao14, co14, eo14⟩ := Kd.R_slice HO432.out; subst eo14))
  refine bodyPost_ret (results_ct rfl _ _ gb423 29 #[.int .i64 t425, .int .i64 t426, .slice Ao13 t427.length co13, .slice Ao14 t430.length co14] (0, 0) _ rfl (by (with_reducible repeat (first | refine blk_drewN ?_ _ | refine blk_drew ?_ | refine blk_alloc ?_ _)); refine blk_put (cs := #[.int .i64 t425, .int .i64 t426, .slice Ao13 t427.length co13, .slice none 0 0]) ?_ 3 _ rfl; (with_reducible repeat (first | refine blk_drewN ?_ _ | refine blk_drew ?_ | refine blk_alloc ?_ _)); refine blk_put (cs := #[.int .i64 t425, .int .i64 t426, .slice none 0 0, .slice none 0 0]) ?_ 2 _ rfl; (with_reducible repeat (first | refine blk_drewN ?_ _ | refine blk_drew ?_ | refine blk_alloc ?_ _)); refine blk_put (cs := #[.int .i64 t425, .int .i64 0, .slice none 0 0, .slice none 0 0]) ?_ 1 _ rfl; (with_reducible repeat (first | refine blk_drewN ?_ _ | refine blk_drew ?_ | refine blk_alloc ?_ _)); refine blk_put (cs := #[.int .i64 0, .int .i64 0, .slice none 0 0, .slice none 0 0]) ?_ 0 _ rfl; (with_reducible repeat (first | refine blk_drewN ?_ _ | refine blk_drew ?_ | refine blk_alloc ?_ _)); exact BK423.out) Tryz.underlying29 rfl KR) rfl ?_
  exact ⟨_, _, TE, by (with_reducible repeat (first | apply Kd.R_alloc | apply Kd.R_drewN | apply Kd.R_drew)); exact Kd.R_mono (Kd.R_far (p := ⟨gb423, 3, none⟩) (Kd.R_far (p := ⟨gb423, 2, none⟩) (Kd.R_far (p := ⟨gb423, 1, none⟩) (Kd.R_far (p := ⟨gb423, 0, none⟩) (Kd.R_types HO429.out BK423.out (by decide)) (fun _ hk => hk.2) (.int .i64 t425)) (fun _ hk => hk.2) (.int .i64 t426)) (fun _ hk => hk.2) (.slice Ao13 t427.length co13)) (fun _ hk => hk.2) (.slice Ao14 t430.length co14)) (fun _ hk => hk.1), by (with_reducible repeat (first | apply Kd.R_alloc | apply Kd.R_drewN | apply Kd.R_drew)); exact Kd.R_mono (Kd.R_far (p := ⟨gb423, 3, none⟩) (Kd.R_far (p := ⟨gb423, 2, none⟩) (Kd.R_far (p := ⟨gb423, 1, none⟩) (Kd.R_far (p := ⟨gb423, 0, none⟩) (Kd.R_types HO432.out BK423.out (by decide)) (fun _ hk => hk.2) (.int .i64 t425)) (fun _ hk => hk.2) (.int .i64 t426)) (fun _ hk => hk.2) (.slice Ao13 t427.length co13)) (fun _ hk => hk.2) (.slice Ao14 t430.length co14)) (fun _ hk => hk.1), TB⟩
 ·replace c3 := Bool.eq_false_iff.mpr c3
  subst c3
  replace H := iff' H
  simp only [Option.some.injEq, Prod.mk.injEq] at H
  obtain ⟨rfl, rfl, rfl, rfl, rfl⟩ := H
  go_enter Tryz.func21, Tryz.ntmps21
  go_wp2_with (first | ((with_reducible refine gate_dst (N := 1) rfl ?_); refine bE 1 #[.int .i64 a0_0, .int .i64 a0_1, .slice A0_2 l0_2.length c0_2, .slice A0_3 l0_3.length c0_3] 29 ?_; intro gb422 hg w15 hbox hb; have BK422 := Aside0.mk (hbox); have GE422 := bG hg; replace HB := BS hb; clear hb hbox hg) | ((with_reducible refine gate_dst (N := 2) rfl ?_); refine bE 2 #[.int .i64 0, .int .i64 0, .slice none 0 0, .slice none 0 0] 29 ?_; intro gb423 hg w16 hbox hb; have BK423 := Aside0.mk (hbox); have GE423 := bG hg; replace HB := BS hb; have NB422_423 := bN BK422 hg; have NB423_422 := bM BK422 hg; replace BK422 := KB BK422 hb; clear hb hbox hg; have hnb17 := NB422_423.out; have hnc17 := NB423_422.out; have hcz18 := cz4 BK422) | ((with_reducible refine gate_callee (f := 18) rfl ?_); refine goesL_ (some 5) rfl rfl Tryz.func18 KR rfl #[.agg #[.int .i64 a0_0, .int .i64 a0_1, .slice A0_2 l0_2.length c0_2, .slice A0_3 l0_3.length c0_3]] rfl TA ?_; (with_reducible refine (impl_GoodDiff.calls k a0_0 a0_1 _ _ l0_2 _ _ l0_3 false _ ?side1 ?side2 ?side3 ?side4 ?side5 A2.out).mono ?_); (case side1 => exact CW ((Kd.C_below HR0_2.out HB.out))); (case side2 => exact HC0_2.out); (case side3 => exact CW ((Kd.C_below HR0_3.out HB.out))); (case side4 => exact HC0_3.out); (case side5 => exact GW HGL); rintro e w19 ⟨rfl, hb⟩; refine ⟨_, rfl, ?_⟩; replace BK422 := KB BK422 hb; replace BK423 := KB BK423 hb; replace HB := BS hb; (try clear hb); (try clear hb2); (try clear hk); (try clear hi); have hcz20 := cz4 BK423))
  refine bodyPost_ret (results_ct rfl _ _ gb423 29 #[.int .i64 0, .int .i64 0, .slice none 0 0, .slice none 0 0] (0, 0) _ rfl (by (with_reducible repeat (first | refine blk_drewN ?_ _ | refine blk_drew ?_ | refine blk_alloc ?_ _)); refine blk_put (cs := #[.int .i64 0, .int .i64 0, .slice none 0 0, .slice none 0 0]) ?_ 3 _ rfl; (with_reducible repeat (first | refine blk_drewN ?_ _ | refine blk_drew ?_ | refine blk_alloc ?_ _)); refine blk_put (cs := #[.int .i64 0, .int .i64 0, .slice none 0 0, .slice none 0 0]) ?_ 2 _ rfl; (with_reducible repeat (first | refine blk_drewN ?_ _ | refine blk_drew ?_ | refine blk_alloc ?_ _)); refine blk_put (cs := #[.int .i64 0, .int .i64 0, .slice none 0 0, .slice none 0 0]) ?_ 1 _ rfl; (with_reducible repeat (first | refine blk_drewN ?_ _ | refine blk_drew ?_ | refine blk_alloc ?_ _)); refine blk_put (cs := #[.int .i64 0, .int .i64 0, .slice none 0 0, .slice none 0 0]) ?_ 0 _ rfl; (with_reducible repeat (first | refine blk_drewN ?_ _ | refine blk_drew ?_ | refine blk_alloc ?_ _)); exact BK423.out) Tryz.underlying29 rfl KR) rfl ?_
  exact ⟨_, _, TE, TZ, TZ, TB⟩
end
section
/-! ### laws_eqRecord: function 124 -/
def laws_eqRecord.f (a0_0 : ByteArray) (a0_1 : Int) (a0_2 : Int) (a0_3 : ByteArray) (a1_0 : ByteArray) (a1_1 : Int) (a1_2 : Int) (a1_3 : ByteArray) : Option (Bool) := if a0_0.toList = a1_0.toList then (if a0_1 = a1_1 then (if a0_2 = a1_2 then (if a0_3.toList = a1_3.toList then (some true) else (some false)) else (some false)) else (some false)) else (some false)
theorem laws_eqRecord.calls (a0_0 : ByteArray) (a0_1 : Int) (a0_2 : Int) (a0_3 : ByteArray) (a1_0 : ByteArray) (a1_1 : Int) (a1_2 : Int) (a1_3 : ByteArray) (r : Bool) (w : World) (h : laws_eqRecord.f a0_0 a0_1 a0_2 a0_3 a1_0 a1_1 a1_2 a1_3 = some r) :
  Calls Tryz.prog 124 #[.agg #[.string a0_0, .int .i64 a0_1, .int .i64 a0_2, .string a0_3], .agg #[.string a1_0, .int .i64 a1_1, .int .i64 a1_2, .string a1_3]] w fun e w' => e = .returned (.bool r) ∧ Below w.heap.size w w' := by
 have hu93 := Tryz.underlying93
 have HB := Aside0.mk (Below.refl w.heap.size w)
 have H : (if a0_0.toList = a1_0.toList then (if a0_1 = a1_1 then (if a0_2 = a1_2 then (if a0_3.toList = a1_3.toList then (some true) else (some false)) else (some false)) else (some false)) else (some false)) = some r := h
 clear h
 by_cases c3 : a0_0.toList = a1_0.toList
 ·rw [if_pos c3] at H
  have c3b0 : (a0_0.toList == a1_0.toList) = true := beq_iff_eq.mpr c3
  have c3b1 : (a0_0.toList != a1_0.toList) = false := bne_eq_false_iff_eq.mpr c3
  clear c3
  by_cases c4 : a0_1 = a1_1
  ·rw [if_pos c4] at H
   have c4b0 : (a0_1 == a1_1) = true := beq_iff_eq.mpr c4
   have c4b1 : (a0_1 != a1_1) = false := bne_eq_false_iff_eq.mpr c4
   clear c4
   by_cases c5 : a0_2 = a1_2
   ·rw [if_pos c5] at H
    have c5b0 : (a0_2 == a1_2) = true := beq_iff_eq.mpr c5
    have c5b1 : (a0_2 != a1_2) = false := bne_eq_false_iff_eq.mpr c5
    clear c5
    by_cases c6 : a0_3.toList = a1_3.toList
    ·rw [if_pos c6] at H
     have c6b0 : (a0_3.toList == a1_3.toList) = true := beq_iff_eq.mpr c6
     have c6b1 : (a0_3.toList != a1_3.toList) = false := bne_eq_false_iff_eq.mpr c6
     clear c6
     obtain rfl := Option.some.inj H
     go_enter Tryz.func124, Tryz.ntmps124
     go_wp2_with (first | ((with_reducible refine gate_dst (N := 2) rfl ?_); refine bE 2 #[.string a0_0, .int .i64 a0_1, .int .i64 a0_2, .string a0_3] 93 ?_; intro gb433 hg w7 hbox hb; have BK433 := Aside0.mk (hbox); have GE433 := bG hg; replace HB := BS hb; clear hb hbox hg) | ((with_reducible refine gate_dst (N := 3) rfl ?_); refine bE 3 #[.string a1_0, .int .i64 a1_1, .int .i64 a1_2, .string a1_3] 93 ?_; intro gb434 hg w8 hbox hb; have BK434 := Aside0.mk (hbox); have GE434 := bG hg; replace HB := BS hb; have NB433_434 := bN BK433 hg; have NB434_433 := bM BK433 hg; replace BK433 := KB BK433 hb; clear hb hbox hg; have hnb9 := NB433_434.out; have hnc9 := NB434_433.out; have hcz10 := cz4 BK433; have hcz11 := cz4 BK434))
     go_ret
     exact ⟨TE, TB⟩
    ·rw [if_neg c6] at H
     have c6b0 : (a0_3.toList == a1_3.toList) = false := beq_eq_false_iff_ne.mpr c6
     have c6b1 : (a0_3.toList != a1_3.toList) = true := bne_iff_ne.mpr c6
     obtain rfl := Option.some.inj H
     go_enter Tryz.func124, Tryz.ntmps124
     go_wp2_with (first | ((with_reducible refine gate_dst (N := 2) rfl ?_); refine bE 2 #[.string a0_0, .int .i64 a0_1, .int .i64 a0_2, .string a0_3] 93 ?_; intro gb433 hg w12 hbox hb; have BK433 := Aside0.mk (hbox); have GE433 := bG hg; replace HB := BS hb; clear hb hbox hg) | ((with_reducible refine gate_dst (N := 3) rfl ?_); refine bE 3 #[.string a1_0, .int .i64 a1_1, .int .i64 a1_2, .string a1_3] 93 ?_; intro gb434 hg w13 hbox hb; have BK434 := Aside0.mk (hbox); have GE434 := bG hg; replace HB := BS hb; have NB433_434 := bN BK433 hg; have NB434_433 := bM BK433 hg; replace BK433 := KB BK433 hb; clear hb hbox hg; have hnb14 := NB433_434.out; have hnc14 := NB434_433.out; have hcz15 := cz4 BK433; have hcz16 := cz4 BK434))
     go_ret
     exact ⟨TE, TB⟩
   ·rw [if_neg c5] at H
    have c5b0 : (a0_2 == a1_2) = false := beq_eq_false_iff_ne.mpr c5
    have c5b1 : (a0_2 != a1_2) = true := bne_iff_ne.mpr c5
    obtain rfl := Option.some.inj H
    go_enter Tryz.func124, Tryz.ntmps124
    go_wp2_with (first | ((with_reducible refine gate_dst (N := 2) rfl ?_); refine bE 2 #[.string a0_0, .int .i64 a0_1, .int .i64 a0_2, .string a0_3] 93 ?_; intro gb433 hg w17 hbox hb; have BK433 := Aside0.mk (hbox); have GE433 := bG hg; replace HB := BS hb; clear hb hbox hg) | ((with_reducible refine gate_dst (N := 3) rfl ?_); refine bE 3 #[.string a1_0, .int .i64 a1_1, .int .i64 a1_2, .string a1_3] 93 ?_; intro gb434 hg w18 hbox hb; have BK434 := Aside0.mk (hbox); have GE434 := bG hg; replace HB := BS hb; have NB433_434 := bN BK433 hg; have NB434_433 := bM BK433 hg; replace BK433 := KB BK433 hb; clear hb hbox hg; have hnb19 := NB433_434.out; have hnc19 := NB434_433.out; have hcz20 := cz4 BK433; have hcz21 := cz4 BK434))
    go_ret
    exact ⟨TE, TB⟩
  ·rw [if_neg c4] at H
   have c4b0 : (a0_1 == a1_1) = false := beq_eq_false_iff_ne.mpr c4
   have c4b1 : (a0_1 != a1_1) = true := bne_iff_ne.mpr c4
   obtain rfl := Option.some.inj H
   go_enter Tryz.func124, Tryz.ntmps124
   go_wp2_with (first | ((with_reducible refine gate_dst (N := 2) rfl ?_); refine bE 2 #[.string a0_0, .int .i64 a0_1, .int .i64 a0_2, .string a0_3] 93 ?_; intro gb433 hg w22 hbox hb; have BK433 := Aside0.mk (hbox); have GE433 := bG hg; replace HB := BS hb; clear hb hbox hg) | ((with_reducible refine gate_dst (N := 3) rfl ?_); refine bE 3 #[.string a1_0, .int .i64 a1_1, .int .i64 a1_2, .string a1_3] 93 ?_; intro gb434 hg w23 hbox hb; have BK434 := Aside0.mk (hbox); have GE434 := bG hg; replace HB := BS hb; have NB433_434 := bN BK433 hg; have NB434_433 := bM BK433 hg; replace BK433 := KB BK433 hb; clear hb hbox hg; have hnb24 := NB433_434.out; have hnc24 := NB434_433.out; have hcz25 := cz4 BK433; have hcz26 := cz4 BK434))
   go_ret
   exact ⟨TE, TB⟩
 ·rw [if_neg c3] at H
  have c3b0 : (a0_0.toList == a1_0.toList) = false := beq_eq_false_iff_ne.mpr c3
  have c3b1 : (a0_0.toList != a1_0.toList) = true := bne_iff_ne.mpr c3
  obtain rfl := Option.some.inj H
  go_enter Tryz.func124, Tryz.ntmps124
  go_wp2_with (first | ((with_reducible refine gate_dst (N := 2) rfl ?_); refine bE 2 #[.string a0_0, .int .i64 a0_1, .int .i64 a0_2, .string a0_3] 93 ?_; intro gb433 hg w27 hbox hb; have BK433 := Aside0.mk (hbox); have GE433 := bG hg; replace HB := BS hb; clear hb hbox hg) | ((with_reducible refine gate_dst (N := 3) rfl ?_); refine bE 3 #[.string a1_0, .int .i64 a1_1, .int .i64 a1_2, .string a1_3] 93 ?_; intro gb434 hg w28 hbox hb; have BK434 := Aside0.mk (hbox); have GE434 := bG hg; replace HB := BS hb; have NB433_434 := bN BK433 hg; have NB434_433 := bM BK433 hg; replace BK433 := KB BK433 hb; clear hb hbox hg; have hnb29 := NB433_434.out; have hnc29 := NB434_433.out; have hcz30 := cz4 BK433; have hcz31 := cz4 BK434))
  go_ret
  exact ⟨TE, TB⟩
end
section
/-! ### laws_eqRecordS: function 69 -/
def laws_eqRecordS.l0 : Nat → List (S_Record) → List (S_Record) → Int → Option (Bool)
 | 0, _, _, _ => none
 | k + 1, x0, x1, x5 => if x5 < (x0.length : Int) then (if 0 ≤ x5 then (if x5 < (x1.length : Int) then ((laws_eqRecord.f ((rd_TRecord x0 x5).f0) ((rd_TRecord x0 x5).f1) ((rd_TRecord x0 x5).f2) ((rd_TRecord x0 x5).f3) ((rd_TRecord x1 x5).f0) ((rd_TRecord x1 x5).f1) ((rd_TRecord x1 x5).f2) ((rd_TRecord x1 x5).f3)).bind fun t437 => (if t437 = true then (laws_eqRecordS.l0 k x0 x1 (wrap64 (x5 + 1))) else (some false))) else (none)) else (none)) else (some true)
def laws_eqRecordS.f (k : Nat) (l0 : List (S_Record)) (l1 : List (S_Record)) : Option (Bool) := if (l0.length : Int) = (l1.length : Int) then (laws_eqRecordS.l0 k l0 l1 0) else (some false)
theorem laws_eqRecordS.mono_l : ∀ k, (∀ y0 y1 y2, LeO (laws_eqRecordS.l0 k y0 y1 y2) (laws_eqRecordS.l0 (k + 1) y0 y1 y2))
 | 0 => fun _ _ _ r h => by simp [laws_eqRecordS.l0] at h
 | k + 1 => by
  have ih0 := laws_eqRecordS.mono_l k
  ·intro y0 y1 y2
   unfold laws_eqRecordS.l0
   repeat' first
   | (with_reducible exact ih0 _ _ _)
   | (with_reducible exact LeO.refl _)
   | (with_reducible exact LeO.none _)
   | (with_reducible refine LeO.ite ?_ ?_)
   | (with_reducible refine LeO.bind ?_ (fun _ => ?_))
   | exact ih0 _ _ _
   | exact LeO.none _
   | refine LeO.ite ?_ ?_
   | refine LeO.bind ?_ (fun _ => ?_)
theorem laws_eqRecordS.mono : ∀ a0 a1 k, LeO (laws_eqRecordS.f k a0 a1) (laws_eqRecordS.f (k + 1) a0 a1) := by
 intro a0 a1 k
 have ih0 := laws_eqRecordS.mono_l k
 unfold laws_eqRecordS.f
 repeat' first
   | (with_reducible exact ih0 _ _ _)
   | (with_reducible exact LeO.refl _)
   | (with_reducible exact LeO.none _)
   | (with_reducible refine LeO.ite ?_ ?_)
   | (with_reducible refine LeO.bind ?_ (fun _ => ?_))
   | exact ih0 _ _ _
   | exact LeO.none _
   | refine LeO.ite ?_ ?_
   | refine LeO.bind ?_ (fun _ => ?_)
def laws_eqRecordS.T6 : Bool × List (List Nat × List Nat) := (true, [([], []), ([], []), ([0, 1], [0, 1]), ([2], [2]), ([], []), ([], []), ([4, 5], [4, 5]), ([6], [6]), ([3, 7], [3, 7]), ([8], [8])])
def laws_eqRecordS.B6 : List Nat := [0, 0, 3, 7, 0, 0, 48, 112, 255, 511]
theorem laws_eqRecordS.tab6 : rtab .any (opsOf Tryz.f69 6) = laws_eqRecordS.T6 := by kernel_rfl
theorem laws_eqRecordS.bits6 : waitsOk laws_eqRecordS.T6.2 laws_eqRecordS.B6 = true := by kernel_rfl
theorem laws_eqRecordS.calls (k : Nat) (A0 : Option Addr) (c0 : Nat) (l0 : List (S_Record)) (A1 : Option Addr) (c1 : Nat) (l1 : List (S_Record)) (r : Bool) (w : World) (hr0 : Kd.C k_Record w A0 l0.length l0) (hc0 : l0.length ≤ c0) (hr1 : Kd.C k_Record w A1 l1.length l1) (hc1 : l1.length ≤ c1) (h : laws_eqRecordS.f k l0 l1 = some r) :
  Calls Tryz.prog 69 #[.slice A0 l0.length c0, .slice A1 l1.length c1] w fun e w' => e = .returned (.bool r) ∧ Below w.heap.size w w' := by
 have hu93 := Tryz.underlying93
 have HR0 := Aside0.mk hr0
 have HC0 := Aside0.mk hc0
 clear hr0 hc0
 have HR1 := Aside0.mk hr1
 have HC1 := Aside0.mk hc1
 clear hr1 hc1
 have HB := Aside0.mk (Below.refl w.heap.size w)
 have H : (if (l0.length : Int) = (l1.length : Int) then (laws_eqRecordS.l0 k l0 l1 0) else (some false)) = some r := h
 clear h
 by_cases c3 : (l0.length : Int) = (l1.length : Int)
 ·rw [if_pos c3] at H
  have c3b0 : ((l0.length : Int) == (l1.length : Int)) = true := beq_iff_eq.mpr c3
  have c3b1 : ((l0.length : Int) != (l1.length : Int)) = false := bne_eq_false_iff_eq.mpr c3
  have c3b2 : (l0.length == l1.length) = true := by first | simpa using c3 | (simp at c3 ⊢; omega)
  clear c3
  have H' := Aside0.mk H
  clear H
  go_enter Tryz.func69, Tryz.ntmps69
  go_wp2
  go_loopg [5] k (fun kq v5 w' => ∃ (x5_1 : Int), v5 = .int .i64 x5_1 ∧ Aside0 (laws_eqRecordS.l0 kq l0 l1 x5_1 = some r) ∧ Aside0 (kq ≤ k) ∧ Aside0 (Below w.heap.size w w'))
  case atStart => exact ⟨(0), TF, H', ⟨Nat.le_refl _⟩, ⟨TB⟩⟩
  case round =>
   clear H'
   try clear c1
   try clear p2
   try clear c3
   try clear c3b0
   try clear c3b1
   try clear c3b2
   obtain ⟨x5_1, rfl, HA, HK1, HB⟩ := hrel
   cases gk with
   | zero => exact absurd HA.out (by simp [laws_eqRecordS.l0])
   | succ k1 =>
    have H := HA.out
    clear HA
    simp only [laws_eqRecordS.l0] at H
    by_cases c4 : x5_1 < (l0.length : Int)
    ·rw [if_pos c4] at H
     have c4b0 : decide (x5_1 < (l0.length : Int)) = true := decide_eq_true c4
     clear c4
     obtain ⟨c5, H⟩ := ifn H
     have c5b0 : decide (0 ≤ x5_1) = true := decide_eq_true c5
     clear c5
     obtain ⟨c6, H⟩ := ifn H
     have c6b0 : decide (x5_1 < (l1.length : Int)) = true := decide_eq_true c6
     clear c6
     obtain ⟨t437, A7, H⟩ := bnd H
     by_cases c8 : t437 = true
     ·subst c8
      replace H := ift H
      have H' := Aside0.mk H
      clear H
      try go_wp2
      replace HB := Aside0.mk (below_drew1 HB.out)
      have p435 : 0 ≤ (x5_1 : Int) := TD
      have q435 : x5_1 < (l0.length : Int) := TD
      obtain ⟨ad435, e435, hx435_0, hx435_1, hx435_2, hx435_3⟩ := at_TRecord HR0.out x5_1 p435 q435
      have hw435_3 := hx435_3
      have hw435_2 := hx435_2
      have hw435_1 := hx435_1
      have hw435_0 := hx435_0
      cases e435
      replace hx435_0 := hBc HB hx435_0
      replace hx435_1 := hBc HB hx435_1
      replace hx435_2 := hBc HB hx435_2
      replace hx435_3 := hBc HB hx435_3
      replace p435 := eq_true p435
      replace q435 := eq_true q435
      have p436 : 0 ≤ (x5_1 : Int) := TD
      have q436 : x5_1 < (l1.length : Int) := TD
      obtain ⟨ad436, e436, hx436_0, hx436_1, hx436_2, hx436_3⟩ := at_TRecord HR1.out x5_1 p436 q436
      have hw436_3 := hx436_3
      have hw436_2 := hx436_2
      have hw436_1 := hx436_1
      have hw436_0 := hx436_0
      cases e436
      replace hx436_0 := hBc HB hx436_0
      replace hx436_1 := hBc HB hx436_1
      replace hx436_2 := hBc HB hx436_2
      replace hx436_3 := hBc HB hx436_3
      replace p436 := eq_true p436
      replace q436 := eq_true q436
      refine start_ (n := 10) (S := fun w' => w'.cell? (ad435.add ((x5_1).toNat * 4)) = some (.string ((rd_TRecord l0 x5_1).f0)) ∧ w'.cell? ⟨(ad435.add ((x5_1).toNat * 4)).block, (ad435.add ((x5_1).toNat * 4)).off + 1, none⟩ = some (.int .i64 ((rd_TRecord l0 x5_1).f1)) ∧ w'.cell? ⟨(ad435.add ((x5_1).toNat * 4)).block, (ad435.add ((x5_1).toNat * 4)).off + 2, none⟩ = some (.int .i64 ((rd_TRecord l0 x5_1).f2)) ∧ w'.cell? ⟨(ad435.add ((x5_1).toNat * 4)).block, (ad435.add ((x5_1).toNat * 4)).off + 3, none⟩ = some (.string ((rd_TRecord l0 x5_1).f3)) ∧ w'.cell? (ad436.add ((x5_1).toNat * 4)) = some (.string ((rd_TRecord l1 x5_1).f0)) ∧ w'.cell? ⟨(ad436.add ((x5_1).toNat * 4)).block, (ad436.add ((x5_1).toNat * 4)).off + 1, none⟩ = some (.int .i64 ((rd_TRecord l1 x5_1).f1)) ∧ w'.cell? ⟨(ad436.add ((x5_1).toNat * 4)).block, (ad436.add ((x5_1).toNat * 4)).off + 2, none⟩ = some (.int .i64 ((rd_TRecord l1 x5_1).f2)) ∧ w'.cell? ⟨(ad436.add ((x5_1).toNat * 4)).block, (ad436.add ((x5_1).toNat * 4)).off + 3, none⟩ = some (.string ((rd_TRecord l1 x5_1).f3))) (ds := []) #[false, false, false, false, false, false, false, false, false, false] KR rfl rfl ⟨((HB.out.cell (World.block_lt_of_cell? w _ hw435_0)).trans hw435_0), ((HB.out.cell (World.block_lt_of_cell? w _ hw435_1)).trans hw435_1), ((HB.out.cell (World.block_lt_of_cell? w _ hw435_2)).trans hw435_2), ((HB.out.cell (World.block_lt_of_cell? w _ hw435_3)).trans hw435_3), ((HB.out.cell (World.block_lt_of_cell? w _ hw436_0)).trans hw436_0), ((HB.out.cell (World.block_lt_of_cell? w _ hw436_1)).trans hw436_1), ((HB.out.cell (World.block_lt_of_cell? w _ hw436_2)).trans hw436_2), ((HB.out.cell (World.block_lt_of_cell? w _ hw436_3)).trans hw436_3)⟩ (fun hHeld => ?_); refine with_tabW laws_eqRecordS.tab6 laws_eqRecordS.bits6 (fun HT_ HW_ => ?_)
      generalize wr.drew = w9 at HB hx435_0 hx435_1 hx435_2 hx435_3 hx436_0 hx436_1 hx436_2 hx436_3 hHeld ⊢
      refine pA 0 17 (mL 10 1) HT_ rfl rfl ?_
      refine pA 1 18 (mL 10 3) HT_ rfl rfl ?_
      refine pA 2 19 (mL 10 7) HT_ rfl rfl ?_
      refine pA 4 21 (mL 10 23) HT_ rfl rfl ?_
      refine pA 5 22 (mL 10 55) HT_ rfl rfl ?_
      refine pA 6 23 (mL 10 119) HT_ rfl rfl ?_
      refine tA 3 20 (mL 10 127) HT_ HW_ hHeld rfl rfl (by rintro w' ⟨s0, s1, s2, s3, s4, s5, s6, s7⟩; go_simp; with_reducible rfl) ?_
      refine tA 7 24 (mL 10 255) HT_ HW_ hHeld rfl rfl (by rintro w' ⟨s0, s1, s2, s3, s4, s5, s6, s7⟩; go_simp; with_reducible rfl) ?_
      refine one_ (i := 8) (N := some 25) (mL 10 511) rfl rfl (one_of HT_.out KR) (by decide) (fun K hK => ?_)
      refine goes_ Tryz.func124 KR rfl #[.agg #[.string ((rd_TRecord l0 x5_1).f0), .int .i64 ((rd_TRecord l0 x5_1).f1), .int .i64 ((rd_TRecord l0 x5_1).f2), .string ((rd_TRecord l0 x5_1).f3)], .agg #[.string ((rd_TRecord l1 x5_1).f0), .int .i64 ((rd_TRecord l1 x5_1).f1), .int .i64 ((rd_TRecord l1 x5_1).f2), .string ((rd_TRecord l1 x5_1).f3)]] (by rfl) rfl rfl TA ?_
      with_reducible refine (laws_eqRecord.calls ((rd_TRecord l0 x5_1).f0) ((rd_TRecord l0 x5_1).f1) ((rd_TRecord l0 x5_1).f2) ((rd_TRecord l0 x5_1).f3) ((rd_TRecord l1 x5_1).f0) ((rd_TRecord l1 x5_1).f1) ((rd_TRecord l1 x5_1).f2) ((rd_TRecord l1 x5_1).f3) true _ A7.out).mono ?_
      rintro e w10 ⟨rfl, hb⟩
      refine ⟨_, rfl, ?_⟩
      replace HB := BS hb
      (try clear hb)
      (try clear hb2)
      (try clear hk)
      (try clear hi)
      refine hK.out _ _ ⟨((HB.out.cell (World.block_lt_of_cell? w _ hw435_0)).trans hw435_0), ((HB.out.cell (World.block_lt_of_cell? w _ hw435_1)).trans hw435_1), ((HB.out.cell (World.block_lt_of_cell? w _ hw435_2)).trans hw435_2), ((HB.out.cell (World.block_lt_of_cell? w _ hw435_3)).trans hw435_3), ((HB.out.cell (World.block_lt_of_cell? w _ hw436_0)).trans hw436_0), ((HB.out.cell (World.block_lt_of_cell? w _ hw436_1)).trans hw436_1), ((HB.out.cell (World.block_lt_of_cell? w _ hw436_2)).trans hw436_2), ((HB.out.cell (World.block_lt_of_cell? w _ hw436_3)).trans hw436_3)⟩ (fun hHeld => ?_)
      clear hK K
      refine nA ?_
      refine pA 9 26 (mL 10 1023) HT_ rfl rfl ?_
      refine done_ (done_of HT_.out KR) ?_
      try go_wp2
      go_roundg k1
      case measure => have := HK1.out; omega
      case rel => exact ⟨(wrap64 (x5_1 + 1)), TF, H', ⟨TM⟩, ⟨TB⟩⟩
     ·replace c8 := Bool.eq_false_iff.mpr c8
      subst c8
      replace H := iff' H
      obtain rfl := Option.some.inj H
      try go_wp2
      replace HB := Aside0.mk (below_drew1 HB.out)
      have p435 : 0 ≤ (x5_1 : Int) := TD
      have q435 : x5_1 < (l0.length : Int) := TD
      obtain ⟨ad435, e435, hx435_0, hx435_1, hx435_2, hx435_3⟩ := at_TRecord HR0.out x5_1 p435 q435
      have hw435_3 := hx435_3
      have hw435_2 := hx435_2
      have hw435_1 := hx435_1
      have hw435_0 := hx435_0
      cases e435
      replace hx435_0 := hBc HB hx435_0
      replace hx435_1 := hBc HB hx435_1
      replace hx435_2 := hBc HB hx435_2
      replace hx435_3 := hBc HB hx435_3
      replace p435 := eq_true p435
      replace q435 := eq_true q435
      have p436 : 0 ≤ (x5_1 : Int) := TD
      have q436 : x5_1 < (l1.length : Int) := TD
      obtain ⟨ad436, e436, hx436_0, hx436_1, hx436_2, hx436_3⟩ := at_TRecord HR1.out x5_1 p436 q436
      have hw436_3 := hx436_3
      have hw436_2 := hx436_2
      have hw436_1 := hx436_1
      have hw436_0 := hx436_0
      cases e436
      replace hx436_0 := hBc HB hx436_0
      replace hx436_1 := hBc HB hx436_1
      replace hx436_2 := hBc HB hx436_2
      replace hx436_3 := hBc HB hx436_3
      replace p436 := eq_true p436
      replace q436 := eq_true q436
      refine start_ (n := 10) (S := fun w' => w'.cell? (ad435.add ((x5_1).toNat * 4)) = some (.string ((rd_TRecord l0 x5_1).f0)) ∧ w'.cell? ⟨(ad435.add ((x5_1).toNat * 4)).block, (ad435.add ((x5_1).toNat * 4)).off + 1, none⟩ = some (.int .i64 ((rd_TRecord l0 x5_1).f1)) ∧ w'.cell? ⟨(ad435.add ((x5_1).toNat * 4)).block, (ad435.add ((x5_1).toNat * 4)).off + 2, none⟩ = some (.int .i64 ((rd_TRecord l0 x5_1).f2)) ∧ w'.cell? ⟨(ad435.add ((x5_1).toNat * 4)).block, (ad435.add ((x5_1).toNat * 4)).off + 3, none⟩ = some (.string ((rd_TRecord l0 x5_1).f3)) ∧ w'.cell? (ad436.add ((x5_1).toNat * 4)) = some (.string ((rd_TRecord l1 x5_1).f0)) ∧ w'.cell? ⟨(ad436.add ((x5_1).toNat * 4)).block, (ad436.add ((x5_1).toNat * 4)).off + 1, none⟩ = some (.int .i64 ((rd_TRecord l1 x5_1).f1)) ∧ w'.cell? ⟨(ad436.add ((x5_1).toNat * 4)).block, (ad436.add ((x5_1).toNat * 4)).off + 2, none⟩ = some (.int .i64 ((rd_TRecord l1 x5_1).f2)) ∧ w'.cell? ⟨(ad436.add ((x5_1).toNat * 4)).block, (ad436.add ((x5_1).toNat * 4)).off + 3, none⟩ = some (.string ((rd_TRecord l1 x5_1).f3))) (ds := []) #[false, false, false, false, false, false, false, false, false, false] KR rfl rfl ⟨((HB.out.cell (World.block_lt_of_cell? w _ hw435_0)).trans hw435_0), ((HB.out.cell (World.block_lt_of_cell? w _ hw435_1)).trans hw435_1), ((HB.out.cell (World.block_lt_of_cell? w _ hw435_2)).trans hw435_2), ((HB.out.cell (World.block_lt_of_cell? w _ hw435_3)).trans hw435_3), ((HB.out.cell (World.block_lt_of_cell? w _ hw436_0)).trans hw436_0), ((HB.out.cell (World.block_lt_of_cell? w _ hw436_1)).trans hw436_1), ((HB.out.cell (World.block_lt_of_cell? w _ hw436_2)).trans hw436_2), ((HB.out.cell (World.block_lt_of_cell? w _ hw436_3)).trans hw436_3)⟩ (fun hHeld => ?_); refine with_tabW laws_eqRecordS.tab6 laws_eqRecordS.bits6 (fun HT_ HW_ => ?_)
      generalize wr.drew = w11 at HB hx435_0 hx435_1 hx435_2 hx435_3 hx436_0 hx436_1 hx436_2 hx436_3 hHeld ⊢
      refine pA 0 17 (mL 10 1) HT_ rfl rfl ?_
      refine pA 1 18 (mL 10 3) HT_ rfl rfl ?_
      refine pA 2 19 (mL 10 7) HT_ rfl rfl ?_
      refine pA 4 21 (mL 10 23) HT_ rfl rfl ?_
      refine pA 5 22 (mL 10 55) HT_ rfl rfl ?_
      refine pA 6 23 (mL 10 119) HT_ rfl rfl ?_
      refine tA 3 20 (mL 10 127) HT_ HW_ hHeld rfl rfl (by rintro w' ⟨s0, s1, s2, s3, s4, s5, s6, s7⟩; go_simp; with_reducible rfl) ?_
      refine tA 7 24 (mL 10 255) HT_ HW_ hHeld rfl rfl (by rintro w' ⟨s0, s1, s2, s3, s4, s5, s6, s7⟩; go_simp; with_reducible rfl) ?_
      refine one_ (i := 8) (N := some 25) (mL 10 511) rfl rfl (one_of HT_.out KR) (by decide) (fun K hK => ?_)
      refine goes_ Tryz.func124 KR rfl #[.agg #[.string ((rd_TRecord l0 x5_1).f0), .int .i64 ((rd_TRecord l0 x5_1).f1), .int .i64 ((rd_TRecord l0 x5_1).f2), .string ((rd_TRecord l0 x5_1).f3)], .agg #[.string ((rd_TRecord l1 x5_1).f0), .int .i64 ((rd_TRecord l1 x5_1).f1), .int .i64 ((rd_TRecord l1 x5_1).f2), .string ((rd_TRecord l1 x5_1).f3)]] (by rfl) rfl rfl TA ?_
      with_reducible refine (laws_eqRecord.calls ((rd_TRecord l0 x5_1).f0) ((rd_TRecord l0 x5_1).f1) ((rd_TRecord l0 x5_1).f2) ((rd_TRecord l0 x5_1).f3) ((rd_TRecord l1 x5_1).f0) ((rd_TRecord l1 x5_1).f1) ((rd_TRecord l1 x5_1).f2) ((rd_TRecord l1 x5_1).f3) false _ A7.out).mono ?_
      rintro e w12 ⟨rfl, hb⟩
      refine ⟨_, rfl, ?_⟩
      replace HB := BS hb
      (try clear hb)
      (try clear hb2)
      (try clear hk)
      (try clear hi)
      refine hK.out _ _ ⟨((HB.out.cell (World.block_lt_of_cell? w _ hw435_0)).trans hw435_0), ((HB.out.cell (World.block_lt_of_cell? w _ hw435_1)).trans hw435_1), ((HB.out.cell (World.block_lt_of_cell? w _ hw435_2)).trans hw435_2), ((HB.out.cell (World.block_lt_of_cell? w _ hw435_3)).trans hw435_3), ((HB.out.cell (World.block_lt_of_cell? w _ hw436_0)).trans hw436_0), ((HB.out.cell (World.block_lt_of_cell? w _ hw436_1)).trans hw436_1), ((HB.out.cell (World.block_lt_of_cell? w _ hw436_2)).trans hw436_2), ((HB.out.cell (World.block_lt_of_cell? w _ hw436_3)).trans hw436_3)⟩ (fun hHeld => ?_)
      clear hK K
      refine nA ?_
      refine pA 9 26 (mL 10 1023) HT_ rfl rfl ?_
      refine done_ (done_of HT_.out KR) ?_
      try go_wp2
      go_ret
      exact ⟨TE, TB⟩
    ·rw [if_neg c4] at H
     have c4b0 : decide (x5_1 < (l0.length : Int)) = false := decide_eq_false c4
     clear c4
     obtain rfl := Option.some.inj H
     go_wp2
     go_ret
     exact ⟨TE, TB⟩
 ·rw [if_neg c3] at H
  have c3b0 : ((l0.length : Int) == (l1.length : Int)) = false := beq_eq_false_iff_ne.mpr c3
  have c3b1 : ((l0.length : Int) != (l1.length : Int)) = true := bne_iff_ne.mpr c3
  have c3b2 : (l0.length == l1.length) = false := by first | simpa using c3 | (simp at c3 ⊢; omega)
  obtain rfl := Option.some.inj H
  go_enter Tryz.func69, Tryz.ntmps69
  go_wp2
  go_ret
  exact ⟨TE, TB⟩
end
section
/-! ### laws_eqDiff: function 19 -/
def laws_eqDiff.f (k : Nat) (a0_0 : Int) (a0_1 : Int) (l0_2 : List (S_Record)) (l0_3 : List (S_Record)) (a1_0 : Int) (a1_1 : Int) (l1_2 : List (S_Record)) (l1_3 : List (S_Record)) : Option (Bool) := if a0_0 = a1_0 then (if a0_1 = a1_1 then ((laws_eqRecordS.f k l0_2 l1_2).bind fun t440 => (if t440 = true then ((laws_eqRecordS.f k l0_3 l1_3).bind fun t441 => (if t441 = true then (some true) else (some false))) else (some false))) else (some false)) else (some false)
theorem laws_eqDiff.mono : ∀ a0 a1 a2 a3 a4 a5 a6 a7 k, LeO (laws_eqDiff.f k a0 a1 a2 a3 a4 a5 a6 a7) (laws_eqDiff.f (k + 1) a0 a1 a2 a3 a4 a5 a6 a7) := by
 intro a0 a1 a2 a3 a4 a5 a6 a7 k
 unfold laws_eqDiff.f
 repeat' first
   | (with_reducible exact laws_eqRecordS.mono _ _ _)
   | (with_reducible exact LeO.refl _)
   | (with_reducible exact LeO.none _)
   | (with_reducible refine LeO.ite ?_ ?_)
   | (with_reducible refine LeO.bind ?_ (fun _ => ?_))
   | exact laws_eqRecordS.mono _ _ _
   | exact LeO.none _
   | refine LeO.ite ?_ ?_
   | refine LeO.bind ?_ (fun _ => ?_)
theorem laws_eqDiff.calls (k : Nat) (a0_0 : Int) (a0_1 : Int) (A0_2 : Option Addr) (c0_2 : Nat) (l0_2 : List (S_Record)) (A0_3 : Option Addr) (c0_3 : Nat) (l0_3 : List (S_Record)) (a1_0 : Int) (a1_1 : Int) (A1_2 : Option Addr) (c1_2 : Nat) (l1_2 : List (S_Record)) (A1_3 : Option Addr) (c1_3 : Nat) (l1_3 : List (S_Record)) (r : Bool) (w : World) (hr0_2 : Kd.C k_Record w A0_2 l0_2.length l0_2) (hc0_2 : l0_2.length ≤ c0_2) (hr0_3 : Kd.C k_Record w A0_3 l0_3.length l0_3) (hc0_3 : l0_3.length ≤ c0_3) (hr1_2 : Kd.C k_Record w A1_2 l1_2.length l1_2) (hc1_2 : l1_2.length ≤ c1_2) (hr1_3 : Kd.C k_Record w A1_3 l1_3.length l1_3) (hc1_3 : l1_3.length ≤ c1_3) (h : laws_eqDiff.f k a0_0 a0_1 l0_2 l0_3 a1_0 a1_1 l1_2 l1_3 = some r) :
  Calls Tryz.prog 19 #[.agg #[.int .i64 a0_0, .int .i64 a0_1, .slice A0_2 l0_2.length c0_2, .slice A0_3 l0_3.length c0_3], .agg #[.int .i64 a1_0, .int .i64 a1_1, .slice A1_2 l1_2.length c1_2, .slice A1_3 l1_3.length c1_3]] w fun e w' => e = .returned (.bool r) ∧ Below w.heap.size w w' := by
 have hu29 := Tryz.underlying29
 have HR0_2 := Aside0.mk hr0_2
 have HC0_2 := Aside0.mk hc0_2
 clear hr0_2 hc0_2
 have HR0_3 := Aside0.mk hr0_3
 have HC0_3 := Aside0.mk hc0_3
 clear hr0_3 hc0_3
 have HR1_2 := Aside0.mk hr1_2
 have HC1_2 := Aside0.mk hc1_2
 clear hr1_2 hc1_2
 have HR1_3 := Aside0.mk hr1_3
 have HC1_3 := Aside0.mk hc1_3
 clear hr1_3 hc1_3
 have HB := Aside0.mk (Below.refl w.heap.size w)
 have H : (if a0_0 = a1_0 then (if a0_1 = a1_1 then ((laws_eqRecordS.f k l0_2 l1_2).bind fun t440 => (if t440 = true then ((laws_eqRecordS.f k l0_3 l1_3).bind fun t441 => (if t441 = true then (some true) else (some false))) else (some false))) else (some false)) else (some false)) = some r := h
 clear h
 by_cases c3 : a0_0 = a1_0
 ·rw [if_pos c3] at H
  have c3b0 : (a0_0 == a1_0) = true := beq_iff_eq.mpr c3
  have c3b1 : (a0_0 != a1_0) = false := bne_eq_false_iff_eq.mpr c3
  clear c3
  by_cases c4 : a0_1 = a1_1
  ·rw [if_pos c4] at H
   have c4b0 : (a0_1 == a1_1) = true := beq_iff_eq.mpr c4
   have c4b1 : (a0_1 != a1_1) = false := bne_eq_false_iff_eq.mpr c4
   clear c4
   obtain ⟨t440, A5, H⟩ := bnd H
   by_cases c6 : t440 = true
   ·subst c6
    replace H := ift H
    obtain ⟨t441, A7, H⟩ := bnd H
    by_cases c8 : t441 = true
    ·subst c8
     replace H := ift H
     obtain rfl := Option.some.inj H
     go_enter Tryz.func19, Tryz.ntmps19
     go_wp2_with (first | ((with_reducible refine gate_dst (N := 2) rfl ?_); refine bE 2 #[.int .i64 a0_0, .int .i64 a0_1, .slice A0_2 l0_2.length c0_2, .slice A0_3 l0_3.length c0_3] 29 ?_; intro gb438 hg w9 hbox hb; have BK438 := Aside0.mk (hbox); have GE438 := bG hg; replace HB := BS hb; clear hb hbox hg) | ((with_reducible refine gate_dst (N := 3) rfl ?_); refine bE 3 #[.int .i64 a1_0, .int .i64 a1_1, .slice A1_2 l1_2.length c1_2, .slice A1_3 l1_3.length c1_3] 29 ?_; intro gb439 hg w10 hbox hb; have BK439 := Aside0.mk (hbox); have GE439 := bG hg; replace HB := BS hb; have NB438_439 := bN BK438 hg; have NB439_438 := bM BK438 hg; replace BK438 := KB BK438 hb; clear hb hbox hg; have hnb11 := NB438_439.out; have hnc11 := NB439_438.out; have hcz12 := cz4 BK438; have hcz13 := cz4 BK439) | ((with_reducible refine gate_callee (f := 69) rfl ?_); refine goesL_ (some 19) rfl rfl Tryz.func69 KR rfl #[.slice A0_2 l0_2.length c0_2, .slice A1_2 l1_2.length c1_2] rfl TA ?_; (with_reducible refine (laws_eqRecordS.calls k _ _ l0_2 _ _ l1_2 true _ ?side1 ?side2 ?side3 ?side4 A5.out).mono ?_); (case side1 => exact CW ((Kd.C_below HR0_2.out HB.out))); (case side2 => exact HC0_2.out); (case side3 => exact CW ((Kd.C_below HR1_2.out HB.out))); (case side4 => exact HC1_2.out); rintro e w14 ⟨rfl, hb⟩; refine ⟨_, rfl, ?_⟩; replace BK438 := KB BK438 hb; replace BK439 := KB BK439 hb; replace HB := BS hb; (try clear hb); (try clear hb2); (try clear hk); (try clear hi); have hcz15 := cz4 BK438; have hcz16 := cz4 BK439) | ((with_reducible refine gate_callee (f := 69) rfl ?_); refine goesL_ (some 25) rfl rfl Tryz.func69 KR rfl #[.slice A0_3 l0_3.length c0_3, .slice A1_3 l1_3.length c1_3] rfl TA ?_; (with_reducible refine (laws_eqRecordS.calls k _ _ l0_3 _ _ l1_3 true _ ?side1 ?side2 ?side3 ?side4 A7.out).mono ?_); (case side1 => exact CW ((Kd.C_below HR0_3.out HB.out))); (case side2 => exact HC0_3.out); (case side3 => exact CW ((Kd.C_below HR1_3.out HB.out))); (case side4 => exact HC1_3.out); rintro e w17 ⟨rfl, hb⟩; refine ⟨_, rfl, ?_⟩; replace BK438 := KB BK438 hb; replace BK439 := KB BK439 hb; replace HB := BS hb; (try clear hb); (try clear hb2); (try clear hk); (try clear hi)))
     go_ret
     exact ⟨TE, TB⟩
    ·replace c8 := Bool.eq_false_iff.mpr c8
     subst c8
     replace H := iff' H
     obtain rfl := Option.some.inj H
     go_enter Tryz.func19, Tryz.ntmps19
     go_wp2_with (first | ((with_reducible refine gate_dst (N := 2) rfl ?_); refine bE 2 #[.int .i64 a0_0, .int .i64 a0_1, .slice A0_2 l0_2.length c0_2, .slice A0_3 l0_3.length c0_3] 29 ?_; intro gb438 hg w18 hbox hb; have BK438 := Aside0.mk (hbox); have GE438 := bG hg; replace HB := BS hb; clear hb hbox hg) | ((with_reducible refine gate_dst (N := 3) rfl ?_); refine bE 3 #[.int .i64 a1_0, .int .i64 a1_1, .slice A1_2 l1_2.length c1_2, .slice A1_3 l1_3.length c1_3] 29 ?_; intro gb439 hg w19 hbox hb; have BK439 := Aside0.mk (hbox); have GE439 := bG hg; replace HB := BS hb; have NB438_439 := bN BK438 hg; have NB439_438 := bM BK438 hg; replace BK438 := KB BK438 hb; clear hb hbox hg; have hnb20 := NB438_439.out; have hnc20 := NB439_438.out; have hcz21 := cz4 BK438; have hcz22 := cz4 BK439) | ((with_reducible refine gate_callee (f := 69) rfl ?_); refine goesL_ (some 19) rfl rfl Tryz.func69 KR rfl #[.slice A0_2 l0_2.length c0_2, .slice A1_2 l1_2.length c1_2] rfl TA ?_; (with_reducible refine (laws_eqRecordS.calls k _ _ l0_2 _ _ l1_2 true _ ?side1 ?side2 ?side3 ?side4 A5.out).mono ?_); (case side1 => exact CW ((Kd.C_below HR0_2.out HB.out))); (case side2 => exact HC0_2.out); (case side3 => exact CW ((Kd.C_below HR1_2.out HB.out))); (case side4 => exact HC1_2.out); rintro e w23 ⟨rfl, hb⟩; refine ⟨_, rfl, ?_⟩; replace BK438 := KB BK438 hb; replace BK439 := KB BK439 hb; replace HB := BS hb; (try clear hb); (try clear hb2); (try clear hk); (try clear hi); have hcz24 := cz4 BK438; have hcz25 := cz4 BK439) | ((with_reducible refine gate_callee (f := 69) rfl ?_); refine goesL_ (some 25) rfl rfl Tryz.func69 KR rfl #[.slice A0_3 l0_3.length c0_3, .slice A1_3 l1_3.length c1_3] rfl TA ?_; (with_reducible refine (laws_eqRecordS.calls k _ _ l0_3 _ _ l1_3 false _ ?side1 ?side2 ?side3 ?side4 A7.out).mono ?_); (case side1 => exact CW ((Kd.C_below HR0_3.out HB.out))); (case side2 => exact HC0_3.out); (case side3 => exact CW ((Kd.C_below HR1_3.out HB.out))); (case side4 => exact HC1_3.out); rintro e w26 ⟨rfl, hb⟩; refine ⟨_, rfl, ?_⟩; replace BK438 := KB BK438 hb; replace BK439 := KB BK439 hb; replace HB := BS hb; (try clear hb); (try clear hb2); (try clear hk); (try clear hi)))
     go_ret
     exact ⟨TE, TB⟩
   ·replace c6 := Bool.eq_false_iff.mpr c6
    subst c6
    replace H := iff' H
    obtain rfl := Option.some.inj H
    go_enter Tryz.func19, Tryz.ntmps19
    go_wp2_with (first | ((with_reducible refine gate_dst (N := 2) rfl ?_); refine bE 2 #[.int .i64 a0_0, .int .i64 a0_1, .slice A0_2 l0_2.length c0_2, .slice A0_3 l0_3.length c0_3] 29 ?_; intro gb438 hg w27 hbox hb; have BK438 := Aside0.mk (hbox); have GE438 := bG hg; replace HB := BS hb; clear hb hbox hg) | ((with_reducible refine gate_dst (N := 3) rfl ?_); refine bE 3 #[.int .i64 a1_0, .int .i64 a1_1, .slice A1_2 l1_2.length c1_2, .slice A1_3 l1_3.length c1_3] 29 ?_; intro gb439 hg w28 hbox hb; have BK439 := Aside0.mk (hbox); have GE439 := bG hg; replace HB := BS hb; have NB438_439 := bN BK438 hg; have NB439_438 := bM BK438 hg; replace BK438 := KB BK438 hb; clear hb hbox hg; have hnb29 := NB438_439.out; have hnc29 := NB439_438.out; have hcz30 := cz4 BK438; have hcz31 := cz4 BK439) | ((with_reducible refine gate_callee (f := 69) rfl ?_); refine goesL_ (some 19) rfl rfl Tryz.func69 KR rfl #[.slice A0_2 l0_2.length c0_2, .slice A1_2 l1_2.length c1_2] rfl TA ?_; (with_reducible refine (laws_eqRecordS.calls k _ _ l0_2 _ _ l1_2 false _ ?side1 ?side2 ?side3 ?side4 A5.out).mono ?_); (case side1 => exact CW ((Kd.C_below HR0_2.out HB.out))); (case side2 => exact HC0_2.out); (case side3 => exact CW ((Kd.C_below HR1_2.out HB.out))); (case side4 => exact HC1_2.out); rintro e w32 ⟨rfl, hb⟩; refine ⟨_, rfl, ?_⟩; replace BK438 := KB BK438 hb; replace BK439 := KB BK439 hb; replace HB := BS hb; (try clear hb); (try clear hb2); (try clear hk); (try clear hi)))
    go_ret
    exact ⟨TE, TB⟩
  ·rw [if_neg c4] at H
   have c4b0 : (a0_1 == a1_1) = false := beq_eq_false_iff_ne.mpr c4
   have c4b1 : (a0_1 != a1_1) = true := bne_iff_ne.mpr c4
   obtain rfl := Option.some.inj H
   go_enter Tryz.func19, Tryz.ntmps19
   go_wp2_with (first | ((with_reducible refine gate_dst (N := 2) rfl ?_); refine bE 2 #[.int .i64 a0_0, .int .i64 a0_1, .slice A0_2 l0_2.length c0_2, .slice A0_3 l0_3.length c0_3] 29 ?_; intro gb438 hg w33 hbox hb; have BK438 := Aside0.mk (hbox); have GE438 := bG hg; replace HB := BS hb; clear hb hbox hg) | ((with_reducible refine gate_dst (N := 3) rfl ?_); refine bE 3 #[.int .i64 a1_0, .int .i64 a1_1, .slice A1_2 l1_2.length c1_2, .slice A1_3 l1_3.length c1_3] 29 ?_; intro gb439 hg w34 hbox hb; have BK439 := Aside0.mk (hbox); have GE439 := bG hg; replace HB := BS hb; have NB438_439 := bN BK438 hg; have NB439_438 := bM BK438 hg; replace BK438 := KB BK438 hb; clear hb hbox hg; have hnb35 := NB438_439.out; have hnc35 := NB439_438.out; have hcz36 := cz4 BK438; have hcz37 := cz4 BK439))
   go_ret
   exact ⟨TE, TB⟩
 ·rw [if_neg c3] at H
  have c3b0 : (a0_0 == a1_0) = false := beq_eq_false_iff_ne.mpr c3
  have c3b1 : (a0_0 != a1_0) = true := bne_iff_ne.mpr c3
  obtain rfl := Option.some.inj H
  go_enter Tryz.func19, Tryz.ntmps19
  go_wp2_with (first | ((with_reducible refine gate_dst (N := 2) rfl ?_); refine bE 2 #[.int .i64 a0_0, .int .i64 a0_1, .slice A0_2 l0_2.length c0_2, .slice A0_3 l0_3.length c0_3] 29 ?_; intro gb438 hg w38 hbox hb; have BK438 := Aside0.mk (hbox); have GE438 := bG hg; replace HB := BS hb; clear hb hbox hg) | ((with_reducible refine gate_dst (N := 3) rfl ?_); refine bE 3 #[.int .i64 a1_0, .int .i64 a1_1, .slice A1_2 l1_2.length c1_2, .slice A1_3 l1_3.length c1_3] 29 ?_; intro gb439 hg w39 hbox hb; have BK439 := Aside0.mk (hbox); have GE439 := bG hg; replace HB := BS hb; have NB438_439 := bN BK438 hg; have NB439_438 := bM BK438 hg; replace BK438 := KB BK438 hb; clear hb hbox hg; have hnb40 := NB438_439.out; have hnc40 := NB439_438.out; have hcz41 := cz4 BK438; have hcz42 := cz4 BK439))
  go_ret
  exact ⟨TE, TB⟩
end
section
/-! ### laws_markText: function 126 -/
def laws_markText.l0 : Nat → Int → ByteArray → Option (ByteArray)
 | 0, _, _ => none
 | k + 1, x0, x3 => if x0 > 0 then ((some (([(wrap64 (48 + (Int.tmod x0 10))) % 256] : List Int) : List Int)).bind fun y442 => (if (strOfNums y442).size + x3.size ≤ 9223372036854775807 then (laws_markText.l0 k (wrap64 (Int.tdiv x0 10)) ((strOfNums y442) ++ x3)) else (none))) else (if 1 + x3.size ≤ 9223372036854775807 then (some ((⟨#[109]⟩ : ByteArray) ++ x3)) else (none))
def laws_markText.f (k : Nat) (a0 : Int) : Option (ByteArray) := if a0 ≤ 0 then (some (⟨#[109, 48]⟩ : ByteArray)) else (laws_markText.l0 k a0 (⟨#[]⟩ : ByteArray))
theorem laws_markText.mono_l : ∀ k, (∀ y0 y1, LeO (laws_markText.l0 k y0 y1) (laws_markText.l0 (k + 1) y0 y1))
 | 0 => fun _ _ r h => by simp [laws_markText.l0] at h
 | k + 1 => by
  have ih0 := laws_markText.mono_l k
  ·intro y0 y1
   unfold laws_markText.l0
   repeat' first
   | (with_reducible exact ih0 _ _)
   | (with_reducible exact LeO.refl _)
   | (with_reducible exact LeO.none _)
   | (with_reducible refine LeO.ite ?_ ?_)
   | (with_reducible refine LeO.bind ?_ (fun _ => ?_))
   | exact ih0 _ _
   | exact LeO.none _
   | refine LeO.ite ?_ ?_
   | refine LeO.bind ?_ (fun _ => ?_)
theorem laws_markText.mono : ∀ a0 k, LeO (laws_markText.f k a0) (laws_markText.f (k + 1) a0) := by
 intro a0 k
 have ih0 := laws_markText.mono_l k
 unfold laws_markText.f
 repeat' first
   | (with_reducible exact ih0 _ _)
   | (with_reducible exact LeO.refl _)
   | (with_reducible exact LeO.none _)
   | (with_reducible refine LeO.ite ?_ ?_)
   | (with_reducible refine LeO.bind ?_ (fun _ => ?_))
   | exact ih0 _ _
   | exact LeO.none _
   | refine LeO.ite ?_ ?_
   | refine LeO.bind ?_ (fun _ => ?_)
theorem laws_markText.calls (k : Nat) (a0 : Int) (r : ByteArray) (w : World) (h : laws_markText.f k a0 = some r) :
  Calls Tryz.prog 126 #[.int .i64 a0] w fun e w' => e = .returned (.string r) ∧ Below w.heap.size w w' := by
 have HB := Aside0.mk (Below.refl w.heap.size w)
 have H : (if a0 ≤ 0 then (some (⟨#[109, 48]⟩ : ByteArray)) else (laws_markText.l0 k a0 (⟨#[]⟩ : ByteArray))) = some r := h
 clear h
 by_cases c2 : a0 ≤ 0
 ·rw [if_pos c2] at H
  have c2b0 : decide (a0 ≤ 0) = true := decide_eq_true c2
  clear c2
  obtain rfl := Option.some.inj H
  go_enter Tryz.func126, Tryz.ntmps126
  go_wp2
  go_ret
  exact ⟨TE, TB⟩
 ·rw [if_neg c2] at H
  have c2b0 : decide (a0 ≤ 0) = false := decide_eq_false c2
  clear c2
  have H' := Aside0.mk H
  clear H
  go_enter Tryz.func126, Tryz.ntmps126
  go_wp2
  go_loopg [0, 3] k (fun kq v0 v3 w' => ∃ (x0_1 : Int) (x3_1 : ByteArray), v0 = .int .i64 x0_1 ∧ v3 = .string x3_1 ∧ Aside0 (laws_markText.l0 kq x0_1 x3_1 = some r) ∧ Aside0 (kq ≤ k) ∧ Aside0 (Below w.heap.size w w'))
  case atStart => exact ⟨(a0), ((⟨#[]⟩ : ByteArray)), TF, TF, H', ⟨Nat.le_refl _⟩, ⟨TB⟩⟩
  case round =>
   clear H'
   try clear c1
   try clear c2
   try clear c2b0
   try clear p2
   obtain ⟨x0_1, x3_1, rfl, rfl, HA, HK1, HB⟩ := hrel
   cases gk with
   | zero => exact absurd HA.out (by simp [laws_markText.l0])
   | succ k1 =>
    have H := HA.out
    clear HA
    simp only [laws_markText.l0] at H
    by_cases c3 : x0_1 > 0
    ·rw [if_pos c3] at H
     have c3b0 : decide (0 < x0_1) = true := decide_eq_true c3
     clear c3
     obtain ⟨y442, hy442⟩ : ∃ y_ : List Int, y_ = (([(wrap64 (48 + (Int.tmod x0_1 10))) % 256] : List Int)) := ⟨_, rfl⟩
     replace H : (if (strOfNums y442).size + x3_1.size ≤ 9223372036854775807 then (laws_markText.l0 k1 (wrap64 (Int.tdiv x0_1 10)) ((strOfNums y442) ++ x3_1)) else (none)) = some r := by first | (rw [hy442]; with_reducible exact H) | (have H2_ := (Option.bind_some _ _).symm.trans H; rw [hy442]; with_reducible exact H2_) | (have H2_ := (Option.bind_some _ _).symm.trans H; with_reducible exact H2_) | with_reducible exact H | (rw [hy442]; exact H) | exact H
     have Ny442 := Aside0.mk hy442
     clear hy442
     obtain ⟨c4, H⟩ := ifn H
     have c4b0 := eq_true c4
     have c4b1 : decide ((strOfNums y442).size + x3_1.size ≤ 9223372036854775807) = true := decide_eq_true c4
     try have c4b2 : (9223372036854775807 < (strOfNums y442).size + x3_1.size) = False := eq_false (Nat.not_lt.2 c4)
     have H' := Aside0.mk H
     clear H
     go_wp2_with (first | ((with_reducible refine gate_dst (N := 12) rfl ?_); refine Kd.R_lit (Kd.int .u8) _ 5 ?hg (N := 12) ?hd (xs := ([(wrap64 (48 + (Int.tmod x0_1 10))) % 256] : List Int)) (inner := [.int .u8 ((wrap64 (48 + (Int.tmod x0_1 10))) % 256)]) (ok := fun _ => True) (okp := fun _ => True) ?hr ?hp (fun _ hk => hk) trivial (Below.refl _ _) (Nat.le_refl _) (by simp) ?_; (case hd => rfl); (case hg => rfl); (case hr => first | (go_simp; done) | (go_simp; rfl)); (case hp => exact (Reps.one (show Kd.M (Kd.int .u8) _ _ _ ((wrap64 (48 + (Int.tmod x0_1 10))) % 256) [.int .u8 ((wrap64 (48 + (Int.tmod x0_1 10))) % 256)] from rfl) (Reps.none _ _))); intro v443 w5 ho6 hb hg_ hnew_; clear hg_ hnew_; (first | rw [← Ny442.out] at ho6 | (simp only [Int.reduceToNat] at ho6; rw [← Ny442.out] at ho6)); have HO444 := RL ho6; replace HB := BS hb; clear hb ho6; have hcv7 := own_string (P := Tryz.prog) Tryz.underlying162 Tryz.underlying5 Tryz.underlying9 (Kd.own_of_R HO444.out)))
     go_roundg k1
     case measure => have := HK1.out; omega
     case rel => exact ⟨(wrap64 (Int.tdiv x0_1 10)), ((strOfNums y442) ++ x3_1), TF, TF, H', ⟨TM⟩, ⟨TB⟩⟩
    ·rw [if_neg c3] at H
     have c3b0 : decide (0 < x0_1) = false := decide_eq_false c3
     clear c3
     obtain ⟨c8, H⟩ := ifn H
     have c8b0 := eq_true c8
     have c8b1 : decide (1 + x3_1.size ≤ 9223372036854775807) = true := decide_eq_true c8
     try have c8b2 : (9223372036854775807 < 1 + x3_1.size) = False := eq_false (Nat.not_lt.2 c8)
     obtain rfl := Option.some.inj H
     go_wp2
     go_ret
     exact ⟨TE, TB⟩
end
section
/-! ### laws_markRecordS: function 72 -/
def laws_markRecordS.l0 : Nat → List (S_Record) → Int → Int → Option (Int × (List (S_Record)))
 | 0, _, _, _ => none
 | k + 1, x0, x1, x5 => if x5 < (x0.length : Int) then ((laws_markText.f k x1).bind fun t445 => (if 0 ≤ x5 then ((some (x0.set (x5 : Int).toNat (⟨t445, (rd_TRecord x0 x5).f1, (rd_TRecord x0 x5).f2, (rd_TRecord x0 x5).f3⟩ : S_Record) : List (S_Record))).bind fun y446 => ((some (y446.set (x5 : Int).toNat (⟨(rd_TRecord y446 x5).f0, wrap64 (x1 + 1), (rd_TRecord y446 x5).f2, (rd_TRecord y446 x5).f3⟩ : S_Record) : List (S_Record))).bind fun y447 => ((some (y447.set (x5 : Int).toNat (⟨(rd_TRecord y447 x5).f0, (rd_TRecord y447 x5).f1, wrap64 ((wrap64 (x1 + 1)) + 1), (rd_TRecord y447 x5).f3⟩ : S_Record) : List (S_Record))).bind fun y448 => ((laws_markText.f k (wrap64 ((wrap64 ((wrap64 (x1 + 1)) + 1)) + 1))).bind fun t449 => (laws_markRecordS.l0 k (y448.set (x5 : Int).toNat (⟨(rd_TRecord y448 x5).f0, (rd_TRecord y448 x5).f1, (rd_TRecord y448 x5).f2, t449⟩ : S_Record)) (wrap64 ((wrap64 ((wrap64 ((wrap64 (x1 + 1)) + 1)) + 1)) + 1)) (wrap64 (x5 + 1))))))) else (none))) else (some (x1, x0))
def laws_markRecordS.f (k : Nat) (l0 : List (S_Record)) (a1 : Int) : Option (Int × (List (S_Record))) := laws_markRecordS.l0 k l0 a1 0
theorem laws_markRecordS.mono_l : ∀ k, (∀ y0 y1 y2, LeO (laws_markRecordS.l0 k y0 y1 y2) (laws_markRecordS.l0 (k + 1) y0 y1 y2))
 | 0 => fun _ _ _ r h => by simp [laws_markRecordS.l0] at h
 | k + 1 => by
  have ih0 := laws_markRecordS.mono_l k
  ·intro y0 y1 y2
   unfold laws_markRecordS.l0
   repeat' first
   | (with_reducible exact ih0 _ _ _)
   | (with_reducible exact laws_markText.mono _ _)
   | (with_reducible exact LeO.refl _)
   | (with_reducible exact LeO.none _)
   | (with_reducible refine LeO.ite ?_ ?_)
   | (with_reducible refine LeO.bind ?_ (fun _ => ?_))
   | exact ih0 _ _ _
   | exact laws_markText.mono _ _
   | exact LeO.none _
   | refine LeO.ite ?_ ?_
   | refine LeO.bind ?_ (fun _ => ?_)
theorem laws_markRecordS.mono : ∀ a0 a1 k, LeO (laws_markRecordS.f k a0 a1) (laws_markRecordS.f (k + 1) a0 a1) := by
 intro a0 a1 k
 have ih0 := laws_markRecordS.mono_l k
 unfold laws_markRecordS.f
 repeat' first
   | (with_reducible exact ih0 _ _ _)
   | (with_reducible exact laws_markText.mono _ _)
   | (with_reducible exact LeO.refl _)
   | (with_reducible exact LeO.none _)
   | (with_reducible refine LeO.ite ?_ ?_)
   | (with_reducible refine LeO.bind ?_ (fun _ => ?_))
   | exact ih0 _ _ _
   | exact laws_markText.mono _ _
   | exact LeO.none _
   | refine LeO.ite ?_ ?_
   | refine LeO.bind ?_ (fun _ => ?_)
theorem laws_markRecordS.calls (k : Nat) (P0_ : Nat → Prop) (u9000_ : Value) (l0 : List (S_Record)) (a1 : Int) (r1 : Int) (r2 : List (S_Record)) (w0 w : World) (hB : Below w0.heap.size w0 w) (ho0 : Kd.R k_Record 93 w w0.heap.size P0_ u9000_ l0) (h : laws_markRecordS.f k l0 a1 = some (r1, r2)) :
  Calls Tryz.prog 72 #[u9000_, .int .i64 a1] w fun e w' => e = .returned (.int .i64 r1) ∧ Kd.R k_Record 93 w' w0.heap.size (fun k_ => (P0_ k_ ∨ w.heap.size ≤ k_)) u9000_ r2 ∧ Below w0.heap.size w0 w' ∧ Kept w w' (fun k_ => P0_ k_) := by
 have HO0 := Aside0.mk (show Kd.R k_Record 93 w w0.heap.size (fun k_ => (P0_ k_ ∨ w.heap.size ≤ k_)) u9000_ l0 from Kd.R_mono ho0 (fun k_ hk => (.inl hk)))
 have HK := Aside0.mk (Kept.refl w (fun k_ => P0_ k_))
 have HW0 := Aside0.mk hB.size
 have HB := Aside0.mk hB
 clear hB
 have H : (laws_markRecordS.l0 k l0 a1 0) = some (r1, r2) := h
 clear h
 have H' := Aside0.mk H
 clear H
 go_enter Tryz.func72, Tryz.ntmps72
 go_wp2
 go_loopg [1, 5] k (fun kq v1 v5 w' => ∃ (x0_1 : List (S_Record)) (x1_1 : Int) (x5_1 : Int), v1 = .int .i64 x1_1 ∧ v5 = .int .i64 x5_1 ∧ Aside0 (laws_markRecordS.l0 kq x0_1 x1_1 x5_1 = some (r1, r2)) ∧ Aside0 (kq ≤ k) ∧ Aside0 (Kd.R k_Record 93 w' w0.heap.size (fun k_ => (P0_ k_ ∨ w.heap.size ≤ k_)) u9000_ x0_1) ∧ Aside0 (Kept w w' (fun k_ => P0_ k_)) ∧ Aside0 (Below w0.heap.size w0 w'))
 case atStart => exact ⟨(l0), (a1), (0), TF, TF, H', ⟨Nat.le_refl _⟩, RW HO0, ⟨TK⟩, ⟨TB⟩⟩
 case round =>
  clear H'
  try clear p2
  obtain ⟨x0_1, x1_1, x5_1, rfl, rfl, HA, HK1, HO_0, HK, HB⟩ := hrel
  cases gk with
  | zero => exact absurd HA.out (by simp [laws_markRecordS.l0])
  | succ k1 =>
   have H := HA.out
   clear HA
   simp only [laws_markRecordS.l0] at H
   by_cases c3 : x5_1 < (x0_1.length : Int)
   ·rw [if_pos c3] at H
    have c3b0 : decide (x5_1 < (x0_1.length : Int)) = true := decide_eq_true c3
    clear c3
    obtain ⟨t445, A4, H⟩ := bnd H
    obtain ⟨c5, H⟩ := ifn H
    have c5b0 : decide (0 ≤ x5_1) = true := decide_eq_true c5
    clear c5
    obtain ⟨y446, hy446⟩ : ∃ y_ : List (S_Record), y_ = (x0_1.set (x5_1 : Int).toNat (⟨t445, (rd_TRecord x0_1 x5_1).f1, (rd_TRecord x0_1 x5_1).f2, (rd_TRecord x0_1 x5_1).f3⟩ : S_Record)) := ⟨_, rfl⟩
    replace H : ((some (y446.set (x5_1 : Int).toNat (⟨(rd_TRecord y446 x5_1).f0, wrap64 (x1_1 + 1), (rd_TRecord y446 x5_1).f2, (rd_TRecord y446 x5_1).f3⟩ : S_Record) : List (S_Record))).bind fun y447 => ((some (y447.set (x5_1 : Int).toNat (⟨(rd_TRecord y447 x5_1).f0, (rd_TRecord y447 x5_1).f1, wrap64 ((wrap64 (x1_1 + 1)) + 1), (rd_TRecord y447 x5_1).f3⟩ : S_Record) : List (S_Record))).bind fun y448 => ((laws_markText.f k1 (wrap64 ((wrap64 ((wrap64 (x1_1 + 1)) + 1)) + 1))).bind fun t449 => (laws_markRecordS.l0 k1 (y448.set (x5_1 : Int).toNat (⟨(rd_TRecord y448 x5_1).f0, (rd_TRecord y448 x5_1).f1, (rd_TRecord y448 x5_1).f2, t449⟩ : S_Record)) (wrap64 ((wrap64 ((wrap64 ((wrap64 (x1_1 + 1)) + 1)) + 1)) + 1)) (wrap64 (x5_1 + 1)))))) = some (r1, r2) := by first | (rw [hy446]; with_reducible exact H) | (have H2_ := (Option.bind_some _ _).symm.trans H; rw [hy446]; with_reducible exact H2_) | (have H2_ := (Option.bind_some _ _).symm.trans H; with_reducible exact H2_) | with_reducible exact H | (rw [hy446]; exact H) | exact H
    have Ny446 := Aside0.mk hy446
    clear hy446
    obtain ⟨y447, hy447⟩ : ∃ y_ : List (S_Record), y_ = (y446.set (x5_1 : Int).toNat (⟨(rd_TRecord y446 x5_1).f0, wrap64 (x1_1 + 1), (rd_TRecord y446 x5_1).f2, (rd_TRecord y446 x5_1).f3⟩ : S_Record)) := ⟨_, rfl⟩
    replace H : ((some (y447.set (x5_1 : Int).toNat (⟨(rd_TRecord y447 x5_1).f0, (rd_TRecord y447 x5_1).f1, wrap64 ((wrap64 (x1_1 + 1)) + 1), (rd_TRecord y447 x5_1).f3⟩ : S_Record) : List (S_Record))).bind fun y448 => ((laws_markText.f k1 (wrap64 ((wrap64 ((wrap64 (x1_1 + 1)) + 1)) + 1))).bind fun t449 => (laws_markRecordS.l0 k1 (y448.set (x5_1 : Int).toNat (⟨(rd_TRecord y448 x5_1).f0, (rd_TRecord y448 x5_1).f1, (rd_TRecord y448 x5_1).f2, t449⟩ : S_Record)) (wrap64 ((wrap64 ((wrap64 ((wrap64 (x1_1 + 1)) + 1)) + 1)) + 1)) (wrap64 (x5_1 + 1))))) = some (r1, r2) := by first | (rw [hy447]; with_reducible exact H) | (have H2_ := (Option.bind_some _ _).symm.trans H; rw [hy447]; with_reducible exact H2_) | (have H2_ := (Option.bind_some _ _).symm.trans H; with_reducible exact H2_) | with_reducible exact H | (rw [hy447]; exact H) | exact H
    have Ny447 := Aside0.mk hy447
    clear hy447
    obtain ⟨y448, hy448⟩ : ∃ y_ : List (S_Record), y_ = (y447.set (x5_1 : Int).toNat (⟨(rd_TRecord y447 x5_1).f0, (rd_TRecord y447 x5_1).f1, wrap64 ((wrap64 (x1_1 + 1)) + 1), (rd_TRecord y447 x5_1).f3⟩ : S_Record)) := ⟨_, rfl⟩
    replace H : ((laws_markText.f k1 (wrap64 ((wrap64 ((wrap64 (x1_1 + 1)) + 1)) + 1))).bind fun t449 => (laws_markRecordS.l0 k1 (y448.set (x5_1 : Int).toNat (⟨(rd_TRecord y448 x5_1).f0, (rd_TRecord y448 x5_1).f1, (rd_TRecord y448 x5_1).f2, t449⟩ : S_Record)) (wrap64 ((wrap64 ((wrap64 ((wrap64 (x1_1 + 1)) + 1)) + 1)) + 1)) (wrap64 (x5_1 + 1)))) = some (r1, r2) := by first | (rw [hy448]; with_reducible exact H) | (have H2_ := (Option.bind_some _ _).symm.trans H; rw [hy448]; with_reducible exact H2_) | (have H2_ := (Option.bind_some _ _).symm.trans H; with_reducible exact H2_) | with_reducible exact H | (rw [hy448]; exact H) | exact H
    have Ny448 := Aside0.mk hy448
    clear hy448
    obtain ⟨t449, A9, H⟩ := bnd H
    obtain ⟨y450, hy450⟩ : ∃ y_ : List (S_Record), y_ = (y448.set (x5_1 : Int).toNat (⟨(rd_TRecord y448 x5_1).f0, (rd_TRecord y448 x5_1).f1, (rd_TRecord y448 x5_1).f2, t449⟩ : S_Record)) := ⟨_, rfl⟩
    replace H : (laws_markRecordS.l0 k1 y450 (wrap64 ((wrap64 ((wrap64 ((wrap64 (x1_1 + 1)) + 1)) + 1)) + 1)) (wrap64 (x5_1 + 1))) = some (r1, r2) := by first | (rw [hy450]; with_reducible exact H) | (have H2_ := (Option.bind_some _ _).symm.trans H; rw [hy450]; with_reducible exact H2_) | (have H2_ := (Option.bind_some _ _).symm.trans H; with_reducible exact H2_) | with_reducible exact H | (rw [hy450]; exact H) | exact H
    have Ny450 := Aside0.mk hy450
    clear hy450
    have H' := Aside0.mk H
    clear H
    obtain ⟨Ao11, co11, eo11⟩ := Kd.R_slice HO_0.out
    subst eo11
    go_wp2_with (first | ((with_reducible refine gate_callee (f := 126) rfl ?_); refine goesL_ (some 15) rfl rfl Tryz.func126 KR rfl #[.int .i64 x1_1] rfl TA ?_; (with_reducible refine (laws_markText.calls k1 x1_1 t445 _ A4.out).mono ?_); rintro e w12 ⟨rfl, hb⟩; refine ⟨_, rfl, ?_⟩; replace HO_0 := RB HO_0 hb; replace HK := Aside0.mk (Kept.below (S := (fun k_ => P0_ k_)) TK hb); replace HB := BS hb; (try clear hb); (try clear hb2); (try clear hk); (try clear hi); have p6 : 0 ≤ (x5_1 : Int) := TD; have q6 : (x5_1 : Int) < ((x0_1.length : Int) : Int) := TD; obtain ⟨go6, co6, eo6, gb6, gl6, cl6, HG6⟩ := Kd.R_form HO_0.out (by omega); (first | cases eo6 | (injection eo6 with ea_ en_ ec_; (first | subst ea_ | (injection ea_ with ea_; subst ea_)); subst ec_; clear en_)); have GB6 := Aside0.mk gb6; have GG6 := Aside0.mk HG6; clear gb6 gl6 HG6; have HMgo6 := Aside0.mk (show (P0_ go6 ∨ w.heap.size ≤ go6) from (HO_0.out.1 _ rfl)); obtain ⟨ce6, hcl6, hM6, hcc6, hfr6⟩ := Kd.R_elem HO_0.out z_Record (x5_1 : Int) p6 q6; obtain rfl := k_Record_openM hM6; have hx6_0 : w12.cell? ⟨go6, (x5_1 : Int).toNat * 4, none⟩ = some (.string ((rd_TRecord x0_1 x5_1).f0)) := hcc6 0 _ rfl; have hx6_1 : w12.cell? ⟨go6, (x5_1 : Int).toNat * 4 + 1, none⟩ = some (.int .i64 ((rd_TRecord x0_1 x5_1).f1)) := hcc6 1 _ rfl; have hx6_2 : w12.cell? ⟨go6, (x5_1 : Int).toNat * 4 + 2, none⟩ = some (.int .i64 ((rd_TRecord x0_1 x5_1).f2)) := hcc6 2 _ rfl; have hx6_3 : w12.cell? ⟨go6, (x5_1 : Int).toNat * 4 + 3, none⟩ = some (.string ((rd_TRecord x0_1 x5_1).f3)) := hcc6 3 _ rfl; have hf6_0 : w12.frozen? ⟨go6, (x5_1 : Int).toNat * 4, none⟩ = false := hfr6 0; have hf6_1 : w12.frozen? ⟨go6, (x5_1 : Int).toNat * 4 + 1, none⟩ = false := hfr6 1; have hf6_2 : w12.frozen? ⟨go6, (x5_1 : Int).toNat * 4 + 2, none⟩ = false := hfr6 2; have hf6_3 : w12.frozen? ⟨go6, (x5_1 : Int).toNat * 4 + 3, none⟩ = false := hfr6 3; clear hcl6 hcc6 hfr6 hM6; replace p6 := eq_true p6; replace q6 := eq_true q6; have HX13 := Aside0.mk (show Kd.R k_Record 93 w12 w0.heap.size (fun k_ => (P0_ k_ ∨ w.heap.size ≤ k_)) (.slice (some ⟨go6, 0, none⟩) x0_1.length co11) x0_1 from (RW HO_0).out); obtain ⟨ce13, hcl13, hM13, hcc13, hfr13⟩ := Kd.R_elem HX13.out z_Record (x5_1 : Int) TD (by have h_ : (x5_1 : Int) < ((x0_1.length : Int) : Int) := TD; first | exact h_ | (have e_ := (Kd.R_reads' HO_0.out).1; omega) | simpa using h_); obtain rfl := k_Record_openM hM13; have HP13 := Kd.R_seg HX13.out (x5_1 : Int) TD (by have h_ : (x5_1 : Int) < ((x0_1.length : Int) : Int) := TD; first | exact h_ | (have e_ := (Kd.R_reads' HO_0.out).1; omega) | simpa using h_) (seg := [.string t445]) (j := 0) hcl13 hcc13 (show 1 ≤ 4 from by decide) (x' := (⟨t445, (rd_TRecord x0_1 x5_1).f1, (rd_TRecord x0_1 x5_1).f2, (rd_TRecord x0_1 x5_1).f3⟩ : S_Record)) (k_Record_mkM _ _ _ (⟨t445, (rd_TRecord x0_1 x5_1).f1, (rd_TRecord x0_1 x5_1).f2, (rd_TRecord x0_1 x5_1).f3⟩ : S_Record) ) (fun _ hk => hk); have hx13_0 := hcc13 0 _ rfl; (try simp only [show (k_Record).sz = 4 from rfl, Nat.mul_one, Nat.add_zero] at hx13_0); have hf13_0 := hfr13 0; (try simp only [show (k_Record).sz = 4 from rfl, Nat.mul_one, Nat.add_zero] at hf13_0); clear hcl13 hcc13 hfr13 hM13) | ((with_reducible refine gate_store (t := 9) (p := 17) rfl ?_); refine store_event (t := 9) (p := 17) (v := ?vo_w14) (w1 := (w12.setCell ⟨go6, (x5_1 : Int).toNat * 4, none⟩ (.string t445))) ?hg ?ho ?hn ?hr ?_; (case ho => rfl); (case hg => rfl); (case hn => rfl); (case hr => first | (go_simp; done) | (go_simp; rfl)); intro w14 hw; have hg : w12.grownBy w14 (some go6) := (by rw [hw]; exact HP13.2); have hp_ : Kd.R k_Record 93 w14 w0.heap.size (fun k_ => (P0_ k_ ∨ w.heap.size ≤ k_)) (.slice (some ⟨go6, 0, none⟩) x0_1.length co11) y446 := (by rw [hw, Ny446.out]; exact HP13.1); clear HP13; replace HB := Aside0.mk ((by rw [hw]; exact below_set (HB.out) GB6.out : Below w0.heap.size w0 w14)); replace HK := Aside0.mk (Kept.of_grown (S := (fun k_ => P0_ k_)) hg TK (fun k_ e_ => (HO_0.out.1 k_ e_))); replace HO_0 := Aside0.mk (hp_); clear hg hw hp_; have p7 : 0 ≤ (x5_1 : Int) := TD; have q7 : (x5_1 : Int) < ((x0_1.length : Int) : Int) := TD; obtain ⟨ce7, hcl7, hM7, hcc7, hfr7⟩ := Kd.R_elem HO_0.out z_Record (x5_1 : Int) p7 q7; obtain rfl := k_Record_openM hM7; have hx7_0 : w14.cell? ⟨go6, (x5_1 : Int).toNat * 4, none⟩ = some (.string ((rd_TRecord y446 x5_1).f0)) := hcc7 0 _ rfl; have hx7_1 : w14.cell? ⟨go6, (x5_1 : Int).toNat * 4 + 1, none⟩ = some (.int .i64 ((rd_TRecord y446 x5_1).f1)) := hcc7 1 _ rfl; have hx7_2 : w14.cell? ⟨go6, (x5_1 : Int).toNat * 4 + 2, none⟩ = some (.int .i64 ((rd_TRecord y446 x5_1).f2)) := hcc7 2 _ rfl; have hx7_3 : w14.cell? ⟨go6, (x5_1 : Int).toNat * 4 + 3, none⟩ = some (.string ((rd_TRecord y446 x5_1).f3)) := hcc7 3 _ rfl; have hf7_0 : w14.frozen? ⟨go6, (x5_1 : Int).toNat * 4, none⟩ = false := hfr7 0; have hf7_1 : w14.frozen? ⟨go6, (x5_1 : Int).toNat * 4 + 1, none⟩ = false := hfr7 1; have hf7_2 : w14.frozen? ⟨go6, (x5_1 : Int).toNat * 4 + 2, none⟩ = false := hfr7 2; have hf7_3 : w14.frozen? ⟨go6, (x5_1 : Int).toNat * 4 + 3, none⟩ = false := hfr7 3; clear hcl7 hcc7 hfr7 hM7; replace p7 := eq_true p7; replace q7 := eq_true q7; have HX15 := Aside0.mk (show Kd.R k_Record 93 w14 w0.heap.size (fun k_ => (P0_ k_ ∨ w.heap.size ≤ k_)) (.slice (some ⟨go6, 0, none⟩) x0_1.length co11) y446 from (RW HO_0).out); obtain ⟨ce15, hcl15, hM15, hcc15, hfr15⟩ := Kd.R_elem HX15.out z_Record (x5_1 : Int) TD (by have h_ : (x5_1 : Int) < ((x0_1.length : Int) : Int) := TD; first | exact h_ | (have e_ := (Kd.R_reads' HO_0.out).1; omega) | simpa using h_); obtain rfl := k_Record_openM hM15; have HP15 := Kd.R_seg HX15.out (x5_1 : Int) TD (by have h_ : (x5_1 : Int) < ((x0_1.length : Int) : Int) := TD; first | exact h_ | (have e_ := (Kd.R_reads' HO_0.out).1; omega) | simpa using h_) (seg := [.int .i64 (wrap64 (x1_1 + 1))]) (j := 1) hcl15 hcc15 (show 2 ≤ 4 from by decide) (x' := (⟨(rd_TRecord y446 x5_1).f0, wrap64 (x1_1 + 1), (rd_TRecord y446 x5_1).f2, (rd_TRecord y446 x5_1).f3⟩ : S_Record)) (k_Record_mkM _ _ _ (⟨(rd_TRecord y446 x5_1).f0, wrap64 (x1_1 + 1), (rd_TRecord y446 x5_1).f2, (rd_TRecord y446 x5_1).f3⟩ : S_Record) ) (fun _ hk => hk); have hx15_1 := hcc15 1 _ rfl; (try simp only [show (k_Record).sz = 4 from rfl, Nat.mul_one, Nat.add_zero] at hx15_1); have hf15_1 := hfr15 1; (try simp only [show (k_Record).sz = 4 from rfl, Nat.mul_one, Nat.add_zero] at hf15_1); clear hcl15 hcc15 hfr15 hM15) | ((with_reducible refine gate_store (t := 3) (p := 24) rfl ?_); refine store_event (t := 3) (p := 24) (v := ?vo_w16) (w1 := (w14.setCell ⟨go6, (x5_1 : Int).toNat * 4 + 1, none⟩ (.int .i64 (wrap64 (x1_1 + 1))))) ?hg ?ho ?hn ?hr ?_; (case ho => rfl); (case hg => rfl); (case hn => rfl); (case hr => first | (go_simp; done) | (go_simp; rfl)); intro w16 hw; have hg : w14.grownBy w16 (some go6) := (by rw [hw]; exact HP15.2); have hp_ : Kd.R k_Record 93 w16 w0.heap.size (fun k_ => (P0_ k_ ∨ w.heap.size ≤ k_)) (.slice (some ⟨go6, 0, none⟩) x0_1.length co11) y447 := (by rw [hw, Ny447.out]; exact HP15.1); clear HP15; replace HB := Aside0.mk ((by rw [hw]; exact below_set (HB.out) GB6.out : Below w0.heap.size w0 w16)); replace HK := Aside0.mk (Kept.of_grown (S := (fun k_ => P0_ k_)) hg TK (fun k_ e_ => (HO_0.out.1 k_ e_))); replace HO_0 := Aside0.mk (hp_); clear hg hw hp_; have p8 : 0 ≤ (x5_1 : Int) := TD; have q8 : (x5_1 : Int) < ((x0_1.length : Int) : Int) := TD; obtain ⟨ce8, hcl8, hM8, hcc8, hfr8⟩ := Kd.R_elem HO_0.out z_Record (x5_1 : Int) p8 q8; obtain rfl := k_Record_openM hM8; have hx8_0 : w16.cell? ⟨go6, (x5_1 : Int).toNat * 4, none⟩ = some (.string ((rd_TRecord y447 x5_1).f0)) := hcc8 0 _ rfl; have hx8_1 : w16.cell? ⟨go6, (x5_1 : Int).toNat * 4 + 1, none⟩ = some (.int .i64 ((rd_TRecord y447 x5_1).f1)) := hcc8 1 _ rfl; have hx8_2 : w16.cell? ⟨go6, (x5_1 : Int).toNat * 4 + 2, none⟩ = some (.int .i64 ((rd_TRecord y447 x5_1).f2)) := hcc8 2 _ rfl; have hx8_3 : w16.cell? ⟨go6, (x5_1 : Int).toNat * 4 + 3, none⟩ = some (.string ((rd_TRecord y447 x5_1).f3)) := hcc8 3 _ rfl; have hf8_0 : w16.frozen? ⟨go6, (x5_1 : Int).toNat * 4, none⟩ = false := hfr8 0; have hf8_1 : w16.frozen? ⟨go6, (x5_1 : Int).toNat * 4 + 1, none⟩ = false := hfr8 1; have hf8_2 : w16.frozen? ⟨go6, (x5_1 : Int).toNat * 4 + 2, none⟩ = false := hfr8 2; have hf8_3 : w16.frozen? ⟨go6, (x5_1 : Int).toNat * 4 + 3, none⟩ = false := hfr8 3; clear hcl8 hcc8 hfr8 hM8; replace p8 := eq_true p8; replace q8 := eq_true q8; have HX17 := Aside0.mk (show Kd.R k_Record 93 w16 w0.heap.size (fun k_ => (P0_ k_ ∨ w.heap.size ≤ k_)) (.slice (some ⟨go6, 0, none⟩) x0_1.length co11) y447 from (RW HO_0).out); obtain ⟨ce17, hcl17, hM17, hcc17, hfr17⟩ := Kd.R_elem HX17.out z_Record (x5_1 : Int) TD (by have h_ : (x5_1 : Int) < ((x0_1.length : Int) : Int) := TD; first | exact h_ | (have e_ := (Kd.R_reads' HO_0.out).1; omega) | simpa using h_); obtain rfl := k_Record_openM hM17; have HP17 := Kd.R_seg HX17.out (x5_1 : Int) TD (by have h_ : (x5_1 : Int) < ((x0_1.length : Int) : Int) := TD; first | exact h_ | (have e_ := (Kd.R_reads' HO_0.out).1; omega) | simpa using h_) (seg := [.int .i64 (wrap64 ((wrap64 (x1_1 + 1)) + 1))]) (j := 2) hcl17 hcc17 (show 3 ≤ 4 from by decide) (x' := (⟨(rd_TRecord y447 x5_1).f0, (rd_TRecord y447 x5_1).f1, wrap64 ((wrap64 (x1_1 + 1)) + 1), (rd_TRecord y447 x5_1).f3⟩ : S_Record)) (k_Record_mkM _ _ _ (⟨(rd_TRecord y447 x5_1).f0, (rd_TRecord y447 x5_1).f1, wrap64 ((wrap64 (x1_1 + 1)) + 1), (rd_TRecord y447 x5_1).f3⟩ : S_Record) ) (fun _ hk => hk); have hx17_2 := hcc17 2 _ rfl; (try simp only [show (k_Record).sz = 4 from rfl, Nat.mul_one, Nat.add_zero] at hx17_2); have hf17_2 := hfr17 2; (try simp only [show (k_Record).sz = 4 from rfl, Nat.mul_one, Nat.add_zero] at hf17_2); clear hcl17 hcc17 hfr17 hM17) | ((with_reducible refine gate_store (t := 3) (p := 31) rfl ?_); refine store_event (t := 3) (p := 31) (v := ?vo_w18) (w1 := (w16.setCell ⟨go6, (x5_1 : Int).toNat * 4 + 2, none⟩ (.int .i64 (wrap64 ((wrap64 (x1_1 + 1)) + 1))))) ?hg ?ho ?hn ?hr ?_; (case ho => rfl); (case hg => rfl); (case hn => rfl); (case hr => first | (go_simp; done) | (go_simp; rfl)); intro w18 hw; have hg : w16.grownBy w18 (some go6) := (by rw [hw]; exact HP17.2); have hp_ : Kd.R k_Record 93 w18 w0.heap.size (fun k_ => (P0_ k_ ∨ w.heap.size ≤ k_)) (.slice (some ⟨go6, 0, none⟩) x0_1.length co11) y448 := (by rw [hw, Ny448.out]; exact HP17.1); clear HP17; replace HB := Aside0.mk ((by rw [hw]; exact below_set (HB.out) GB6.out : Below w0.heap.size w0 w18)); replace HK := Aside0.mk (Kept.of_grown (S := (fun k_ => P0_ k_)) hg TK (fun k_ e_ => (HO_0.out.1 k_ e_))); replace HO_0 := Aside0.mk (hp_); clear hg hw hp_) | ((with_reducible refine gate_callee (f := 126) rfl ?_); refine goesL_ (some 37) rfl rfl Tryz.func126 KR rfl #[.int .i64 (wrap64 ((wrap64 ((wrap64 (x1_1 + 1)) + 1)) + 1))] rfl TA ?_; (with_reducible refine (laws_markText.calls k1 (wrap64 ((wrap64 ((wrap64 (x1_1 + 1)) + 1)) + 1)) t449 _ A9.out).mono ?_); rintro e w19 ⟨rfl, hb⟩; refine ⟨_, rfl, ?_⟩; replace HO_0 := RB HO_0 hb; replace HK := Aside0.mk (Kept.below (S := (fun k_ => P0_ k_)) TK hb); replace HB := BS hb; (try clear hb); (try clear hb2); (try clear hk); (try clear hi); have p10 : 0 ≤ (x5_1 : Int) := TD; have q10 : (x5_1 : Int) < ((x0_1.length : Int) : Int) := TD; obtain ⟨ce10, hcl10, hM10, hcc10, hfr10⟩ := Kd.R_elem HO_0.out z_Record (x5_1 : Int) p10 q10; obtain rfl := k_Record_openM hM10; have hx10_0 : w19.cell? ⟨go6, (x5_1 : Int).toNat * 4, none⟩ = some (.string ((rd_TRecord y448 x5_1).f0)) := hcc10 0 _ rfl; have hx10_1 : w19.cell? ⟨go6, (x5_1 : Int).toNat * 4 + 1, none⟩ = some (.int .i64 ((rd_TRecord y448 x5_1).f1)) := hcc10 1 _ rfl; have hx10_2 : w19.cell? ⟨go6, (x5_1 : Int).toNat * 4 + 2, none⟩ = some (.int .i64 ((rd_TRecord y448 x5_1).f2)) := hcc10 2 _ rfl; have hx10_3 : w19.cell? ⟨go6, (x5_1 : Int).toNat * 4 + 3, none⟩ = some (.string ((rd_TRecord y448 x5_1).f3)) := hcc10 3 _ rfl; have hf10_0 : w19.frozen? ⟨go6, (x5_1 : Int).toNat * 4, none⟩ = false := hfr10 0; have hf10_1 : w19.frozen? ⟨go6, (x5_1 : Int).toNat * 4 + 1, none⟩ = false := hfr10 1; have hf10_2 : w19.frozen? ⟨go6, (x5_1 : Int).toNat * 4 + 2, none⟩ = false := hfr10 2; have hf10_3 : w19.frozen? ⟨go6, (x5_1 : Int).toNat * 4 + 3, none⟩ = false := hfr10 3; clear hcl10 hcc10 hfr10 hM10; replace p10 := eq_true p10; replace q10 := eq_true q10; have HX20 := Aside0.mk (show Kd.R k_Record 93 w19 w0.heap.size (fun k_ => (P0_ k_ ∨ w.heap.size ≤ k_)) (.slice (some ⟨go6, 0, none⟩) x0_1.length co11) y448 from (RW HO_0).out); obtain ⟨ce20, hcl20, hM20, hcc20, hfr20⟩ := Kd.R_elem HX20.out z_Record (x5_1 : Int) TD (by have h_ : (x5_1 : Int) < ((x0_1.length : Int) : Int) := TD; first | exact h_ | (have e_ := (Kd.R_reads' HO_0.out).1; omega) | simpa using h_); obtain rfl := k_Record_openM hM20; have HP20 := Kd.R_seg HX20.out (x5_1 : Int) TD (by have h_ : (x5_1 : Int) < ((x0_1.length : Int) : Int) := TD; first | exact h_ | (have e_ := (Kd.R_reads' HO_0.out).1; omega) | simpa using h_) (seg := [.string t449]) (j := 3) hcl20 hcc20 (show 4 ≤ 4 from by decide) (x' := (⟨(rd_TRecord y448 x5_1).f0, (rd_TRecord y448 x5_1).f1, (rd_TRecord y448 x5_1).f2, t449⟩ : S_Record)) (k_Record_mkM _ _ _ (⟨(rd_TRecord y448 x5_1).f0, (rd_TRecord y448 x5_1).f1, (rd_TRecord y448 x5_1).f2, t449⟩ : S_Record) ) (fun _ hk => hk); have hx20_3 := hcc20 3 _ rfl; (try simp only [show (k_Record).sz = 4 from rfl, Nat.mul_one, Nat.add_zero] at hx20_3); have hf20_3 := hfr20 3; (try simp only [show (k_Record).sz = 4 from rfl, Nat.mul_one, Nat.add_zero] at hf20_3); clear hcl20 hcc20 hfr20 hM20) | ((with_reducible refine gate_store (t := 9) (p := 39) rfl ?_); refine store_event (t := 9) (p := 39) (v := ?vo_w21) (w1 := (w19.setCell ⟨go6, (x5_1 : Int).toNat * 4 + 3, none⟩ (.string t449))) ?hg ?ho ?hn ?hr ?_; (case ho => rfl); (case hg => rfl); (case hn => rfl); (case hr => first | (go_simp; done) | (go_simp; rfl)); intro w21 hw; have hg : w19.grownBy w21 (some go6) := (by rw [hw]; exact HP20.2); have hp_ : Kd.R k_Record 93 w21 w0.heap.size (fun k_ => (P0_ k_ ∨ w.heap.size ≤ k_)) (.slice (some ⟨go6, 0, none⟩) x0_1.length co11) y450 := (by rw [hw, Ny450.out]; exact HP20.1); clear HP20; replace HB := Aside0.mk ((by rw [hw]; exact below_set (HB.out) GB6.out : Below w0.heap.size w0 w21)); replace HK := Aside0.mk (Kept.of_grown (S := (fun k_ => P0_ k_)) hg TK (fun k_ e_ => (HO_0.out.1 k_ e_))); replace HO_0 := Aside0.mk (hp_); clear hg hw hp_))
    go_roundg k1
    case measure => have := HK1.out; omega
    case rel => exact ⟨(y450), (wrap64 ((wrap64 ((wrap64 ((wrap64 (x1_1 + 1)) + 1)) + 1)) + 1)), (wrap64 (x5_1 + 1)), TF, TF, H', ⟨TM⟩, RW HO_0, ⟨TK⟩, ⟨TB⟩⟩
   ·rw [if_neg c3] at H
    have c3b0 : decide (x5_1 < (x0_1.length : Int)) = false := decide_eq_false c3
    clear c3
    simp only [Option.some.injEq, Prod.mk.injEq] at H
    obtain ⟨rfl, rfl⟩ := H
    obtain ⟨Ao22, co22, eo22⟩ := Kd.R_slice HO_0.out
    subst eo22
    go_wp2
    go_ret
    exact ⟨TE, (RW HO_0).out, TB, TK⟩
end
section
/-! ### laws_markDiff: function 22 -/
def laws_markDiff.f (k : Nat) (a0_0 : Int) (a0_1 : Int) (l0_2 : List (S_Record)) (l0_3 : List (S_Record)) (a1 : Int) : Option (Int × (List (S_Record)) × (List (S_Record))) := (laws_markRecordS.f k l0_2 a1).bind fun bt452 => ((laws_markRecordS.f k l0_3 bt452.1).bind fun bt454 => (some (bt454.1, bt452.2, bt454.2)))
theorem laws_markDiff.mono : ∀ a0 a1 a2 a3 a4 k, LeO (laws_markDiff.f k a0 a1 a2 a3 a4) (laws_markDiff.f (k + 1) a0 a1 a2 a3 a4) := by
 intro a0 a1 a2 a3 a4 k
 unfold laws_markDiff.f
 repeat' first
   | (with_reducible exact laws_markRecordS.mono _ _ _)
   | (with_reducible exact LeO.refl _)
   | (with_reducible exact LeO.none _)
   | (with_reducible refine LeO.ite ?_ ?_)
   | (with_reducible refine LeO.bind ?_ (fun _ => ?_))
   | exact laws_markRecordS.mono _ _ _
   | exact LeO.none _
   | refine LeO.ite ?_ ?_
   | refine LeO.bind ?_ (fun _ => ?_)
theorem laws_markDiff.calls (k : Nat) (a0_0 : Int) (a0_1 : Int) (P0_2_ : Nat → Prop) (u9000_ : Value) (l0_2 : List (S_Record)) (P0_3_ : Nat → Prop) (u9001_ : Value) (l0_3 : List (S_Record)) (a1 : Int) (r1 : Int) (r2 : List (S_Record)) (r3 : List (S_Record)) (w0 w : World) (hB : Below w0.heap.size w0 w) (ho0_2 : Kd.R k_Record 93 w w0.heap.size P0_2_ u9000_ l0_2) (hp0_2_0_3 : ∀ k_, P0_2_ k_ → ¬ P0_3_ k_) (ho0_3 : Kd.R k_Record 93 w w0.heap.size P0_3_ u9001_ l0_3) (hp0_3_0_2 : ∀ k_, P0_3_ k_ → ¬ P0_2_ k_) (h : laws_markDiff.f k a0_0 a0_1 l0_2 l0_3 a1 = some (r1, r2, r3)) :
  Calls Tryz.prog 22 #[.agg #[.int .i64 a0_0, .int .i64 a0_1, u9000_, u9001_], .int .i64 a1] w fun e w' => e = .returned (.int .i64 r1) ∧ Kd.R k_Record 93 w' w0.heap.size (fun k_ => ((P0_2_ k_ ∨ P0_3_ k_) ∨ w.heap.size ≤ k_)) u9000_ r2 ∧ Kd.R k_Record 93 w' w0.heap.size (fun k_ => ((P0_2_ k_ ∨ P0_3_ k_) ∨ w.heap.size ≤ k_)) u9001_ r3 ∧ Below w0.heap.size w0 w' ∧ Kept w w' (fun k_ => P0_2_ k_ ∨ P0_3_ k_) := by
 have hu29 := Tryz.underlying29
 have HO0_2 := Aside0.mk (show Kd.R k_Record 93 w w0.heap.size (fun k_ => ((P0_2_ k_ ∨ P0_3_ k_) ∨ w.heap.size ≤ k_) ∧ some k_ ≠ (u9001_ : Value).ownBlock) u9000_ l0_2 from Kd.R_mono ho0_2 (fun k_ hk => ⟨(.inl (.inl hk)), fun e_ => hp0_2_0_3 k_ hk (ho0_3.1 k_ e_.symm)⟩))
 have HO0_3 := Aside0.mk (show Kd.R k_Record 93 w w0.heap.size (fun k_ => ((P0_2_ k_ ∨ P0_3_ k_) ∨ w.heap.size ≤ k_) ∧ some k_ ≠ (u9000_ : Value).ownBlock) u9001_ l0_3 from Kd.R_mono ho0_3 (fun k_ hk => ⟨(.inl (.inr hk)), fun e_ => hp0_3_0_2 k_ hk (ho0_2.1 k_ e_.symm)⟩))
 have HK := Aside0.mk (Kept.refl w (fun k_ => P0_2_ k_ ∨ P0_3_ k_))
 have HW0 := Aside0.mk hB.size
 have HB := Aside0.mk hB
 clear hB
 have H : ((laws_markRecordS.f k l0_2 a1).bind fun bt452 => ((laws_markRecordS.f k l0_3 bt452.1).bind fun bt454 => (some (bt454.1, bt452.2, bt454.2)))) = some (r1, r2, r3) := h
 clear h
 obtain ⟨⟨t452, t453⟩, A3, H⟩ := bnd H
 try dsimp only at H
 obtain ⟨⟨t454, t455⟩, A4, H⟩ := bnd H
 try dsimp only at H
 simp only [Option.some.injEq, Prod.mk.injEq] at H
 obtain ⟨rfl, rfl, rfl⟩ := H
 obtain ⟨Ao5, co5, eo5⟩ := Kd.R_slice HO0_2.out
 subst eo5
 obtain ⟨Ao6, co6, eo6⟩ := Kd.R_slice HO0_3.out
 subst eo6
 go_enter Tryz.func22, Tryz.ntmps22
 go_wp2_with (first | ((with_reducible refine gate_dst (N := 2) rfl ?_); refine bE 2 #[.int .i64 a0_0, .int .i64 a0_1, .slice Ao5 l0_2.length co5, .slice Ao6 l0_3.length co6] 29 ?_; intro gb451 hg w7 hbox hb; replace HO0_2 := RB HO0_2 hb; replace HO0_3 := RB HO0_3 hb; have BK451 := Aside0.mk (hbox); have GW451 := Aside0.mk ((by rw [hg]; exact (by first | exact HK.out.1 | exact (show Kept w _ (fun k_ => P0_2_ k_ ∨ P0_3_ k_) from TK).1) : w.heap.size ≤ gb451)); replace HK := Aside0.mk (Kept.below (S := (fun k_ => P0_2_ k_ ∨ P0_3_ k_)) TK hb); have GE451 := bG hg; replace HB := BS hb; clear hb hbox hg; have hcz8 := cz4 BK451) | ((with_reducible refine gate_callee (f := 72) rfl ?_); refine goesL_ (some 8) rfl rfl Tryz.func72 KR rfl #[.slice Ao5 l0_2.length co5, .int .i64 a1] rfl TA ?_; (with_reducible refine (laws_markRecordS.calls k (fun k_ => some k_ = (.slice Ao5 l0_2.length co5 : Value).ownBlock) (.slice Ao5 l0_2.length co5) l0_2 a1 t452 t453 w0 _ ?side1 ?side2 A3.out).mono ?_); (case side1 => repeat (first | (with_reducible first | exact HB.out | apply below_alloc | apply pw_below_drewN | apply below_drew1 | refine below_set ?_ GE451.out) | exact HB.out)); (case side2 => exact Kd.R_tight rfl HO0_2.out); rintro e w9 ⟨rfl, hy0, hb, hkp⟩; refine ⟨_, rfl, ?_⟩; replace HO0_3 := Aside0.mk (Kd.R_mono (ok' := fun k_ => ((P0_2_ k_ ∨ P0_3_ k_) ∨ w.heap.size ≤ k_) ∧ some k_ ≠ (.slice Ao5 l0_2.length co5 : Value).ownBlock) (Kd.R_keptB (HO0_3.out) hkp (fun k_ hk_ hs_ => (hk_.2) hs_)) (fun k_ hk_ => ⟨hk_.1.1, hk_.1.2⟩)); replace BK451 := Aside0.mk (blk_kept (KW BK451).out hkp (fun hs_ => (fun e_ => (Kd.R_ne HO0_2.out BK451.out (by decide)) e_) hs_)); replace HK := Aside0.mk (Kept.then_ (S := (fun k_ => P0_2_ k_ ∨ P0_3_ k_)) (by repeat (first | (with_reducible first | exact HK.out | apply Kept.alloc | apply Kept.drewN | apply Kept.drew | refine Kept.setCell ?_ (.inr GW451.out) _) | exact HK.out)) hkp (fun k_ hs_ => (fun e_ => (HO0_2.out.1 k_ e_.symm).1) hs_)); replace HO0_2 := Aside0.mk (Kd.R_reok rfl hy0 (fun k_ e_ => HO0_2.out.1 k_ e_)); replace HB := Aside0.mk (hb); (try clear hb); (try clear hkp); (try clear hy0); have hcz10 := cz4 BK451) | ((with_reducible refine gate_callee (f := 72) rfl ?_); refine goesL_ (some 12) rfl rfl Tryz.func72 KR rfl #[.slice Ao6 l0_3.length co6, .int .i64 t452] rfl TA ?_; (with_reducible refine (laws_markRecordS.calls k (fun k_ => some k_ = (.slice Ao6 l0_3.length co6 : Value).ownBlock) (.slice Ao6 l0_3.length co6) l0_3 t452 t454 t455 w0 _ ?side1 ?side2 A4.out).mono ?_); (case side1 => repeat (first | (with_reducible first | exact HB.out | apply below_alloc | apply pw_below_drewN | apply below_drew1 | refine below_set ?_ GE451.out) | exact HB.out)); (case side2 => exact Kd.R_tight rfl HO0_3.out); rintro e w11 ⟨rfl, hy0, hb, hkp⟩; refine ⟨_, rfl, ?_⟩; replace HO0_2 := Aside0.mk (Kd.R_mono (ok' := fun k_ => ((P0_2_ k_ ∨ P0_3_ k_) ∨ w.heap.size ≤ k_) ∧ some k_ ≠ (.slice Ao6 l0_3.length co6 : Value).ownBlock) (Kd.R_keptB (HO0_2.out) hkp (fun k_ hk_ hs_ => (hk_.2) hs_)) (fun k_ hk_ => ⟨hk_.1.1, hk_.1.2⟩)); replace BK451 := Aside0.mk (blk_kept (KW BK451).out hkp (fun hs_ => (fun e_ => (Kd.R_ne HO0_3.out BK451.out (by decide)) e_) hs_)); replace HK := Aside0.mk (Kept.then_ (S := (fun k_ => P0_2_ k_ ∨ P0_3_ k_)) (by repeat (first | (with_reducible first | exact HK.out | apply Kept.alloc | apply Kept.drewN | apply Kept.drew | refine Kept.setCell ?_ (.inr GW451.out) _) | exact HK.out)) hkp (fun k_ hs_ => (fun e_ => (HO0_3.out.1 k_ e_.symm).1) hs_)); replace HO0_3 := Aside0.mk (Kd.R_reok rfl hy0 (fun k_ e_ => HO0_3.out.1 k_ e_)); replace HB := Aside0.mk (hb); (try clear hb); (try clear hkp); (try clear hy0)))
 go_ret
 exact ⟨TE, by (with_reducible repeat (first | apply Kd.R_alloc | apply Kd.R_drewN | apply Kd.R_drew)); exact Kd.R_mono HO0_2.out (fun _ hk => hk.1), by (with_reducible repeat (first | apply Kd.R_alloc | apply Kd.R_drewN | apply Kd.R_drew)); exact Kd.R_mono HO0_3.out (fun _ hk => hk.1), TB, by repeat (first | (with_reducible first | exact HK.out | apply Kept.alloc | apply Kept.drewN | apply Kept.drew | refine Kept.setCell ?_ (.inr GW451.out) _) | exact HK.out)⟩
end
section
/-! ### laws_heldRecordS: function 73 -/
def laws_heldRecordS.l0 : Nat → List (S_Record) → Int → Int → Option (Int)
 | 0, _, _, _ => none
 | k + 1, x0, x1, x5 => if x5 < (x0.length : Int) then (if 0 ≤ x5 then ((laws_markText.f k x1).bind fun t457 => (if ((rd_TRecord x0 x5).f0).toList = t457.toList then (if ((rd_TRecord x0 x5).f1) = (wrap64 (x1 + 1)) then (if ((rd_TRecord x0 x5).f2) = (wrap64 ((wrap64 (x1 + 1)) + 1)) then ((laws_markText.f k (wrap64 ((wrap64 ((wrap64 (x1 + 1)) + 1)) + 1))).bind fun t461 => (if ((rd_TRecord x0 x5).f3).toList = t461.toList then (laws_heldRecordS.l0 k x0 (wrap64 ((wrap64 ((wrap64 ((wrap64 (x1 + 1)) + 1)) + 1)) + 1)) (wrap64 (x5 + 1))) else (some (-1)))) else (some (-1))) else (some (-1))) else (some (-1)))) else (none)) else (some x1)
def laws_heldRecordS.f (k : Nat) (l0 : List (S_Record)) (a1 : Int) : Option (Int) := laws_heldRecordS.l0 k l0 a1 0
theorem laws_heldRecordS.mono_l : ∀ k, (∀ y0 y1 y2, LeO (laws_heldRecordS.l0 k y0 y1 y2) (laws_heldRecordS.l0 (k + 1) y0 y1 y2))
 | 0 => fun _ _ _ r h => by simp [laws_heldRecordS.l0] at h
 | k + 1 => by
  have ih0 := laws_heldRecordS.mono_l k
  ·intro y0 y1 y2
   unfold laws_heldRecordS.l0
   repeat' first
   | (with_reducible exact ih0 _ _ _)
   | (with_reducible exact laws_markText.mono _ _)
   | (with_reducible exact LeO.refl _)
   | (with_reducible exact LeO.none _)
   | (with_reducible refine LeO.ite ?_ ?_)
   | (with_reducible refine LeO.bind ?_ (fun _ => ?_))
   | exact ih0 _ _ _
   | exact laws_markText.mono _ _
   | exact LeO.none _
   | refine LeO.ite ?_ ?_
   | refine LeO.bind ?_ (fun _ => ?_)
theorem laws_heldRecordS.mono : ∀ a0 a1 k, LeO (laws_heldRecordS.f k a0 a1) (laws_heldRecordS.f (k + 1) a0 a1) := by
 intro a0 a1 k
 have ih0 := laws_heldRecordS.mono_l k
 unfold laws_heldRecordS.f
 repeat' first
   | (with_reducible exact ih0 _ _ _)
   | (with_reducible exact laws_markText.mono _ _)
   | (with_reducible exact LeO.refl _)
   | (with_reducible exact LeO.none _)
   | (with_reducible refine LeO.ite ?_ ?_)
   | (with_reducible refine LeO.bind ?_ (fun _ => ?_))
   | exact ih0 _ _ _
   | exact laws_markText.mono _ _
   | exact LeO.none _
   | refine LeO.ite ?_ ?_
   | refine LeO.bind ?_ (fun _ => ?_)
def laws_heldRecordS.T4 : Bool × List (List Nat × List Nat) := (true, [([], []), ([], []), ([0, 1], [0, 1]), ([2], [2]), ([3], [3]), ([], []), ([5], [5]), ([4, 6], [4, 6])])
def laws_heldRecordS.B4 : List Nat := [0, 0, 3, 7, 15, 0, 32, 127]
theorem laws_heldRecordS.tab4 : rtab .any (opsOf Tryz.f73 4) = laws_heldRecordS.T4 := by kernel_rfl
theorem laws_heldRecordS.bits4 : waitsOk laws_heldRecordS.T4.2 laws_heldRecordS.B4 = true := by kernel_rfl
def laws_heldRecordS.T13 : Bool × List (List Nat × List Nat) := (true, [([], []), ([], []), ([0, 1], [0, 1]), ([2], [2]), ([3], [3]), ([], []), ([5], [5]), ([4, 6], [4, 6])])
def laws_heldRecordS.B13 : List Nat := [0, 0, 3, 7, 15, 0, 32, 127]
theorem laws_heldRecordS.tab13 : rtab .any (opsOf Tryz.f73 13) = laws_heldRecordS.T13 := by kernel_rfl
theorem laws_heldRecordS.bits13 : waitsOk laws_heldRecordS.T13.2 laws_heldRecordS.B13 = true := by kernel_rfl
theorem laws_heldRecordS.calls (k : Nat) (A0 : Option Addr) (c0 : Nat) (l0 : List (S_Record)) (a1 : Int) (r : Int) (w : World) (hr0 : Kd.C k_Record w A0 l0.length l0) (hc0 : l0.length ≤ c0) (h : laws_heldRecordS.f k l0 a1 = some r) :
  Calls Tryz.prog 73 #[.slice A0 l0.length c0, .int .i64 a1] w fun e w' => e = .returned (.int .i64 r) ∧ Below w.heap.size w w' := by
 have HR0 := Aside0.mk hr0
 have HC0 := Aside0.mk hc0
 clear hr0 hc0
 have HB := Aside0.mk (Below.refl w.heap.size w)
 have H : (laws_heldRecordS.l0 k l0 a1 0) = some r := h
 clear h
 have H' := Aside0.mk H
 clear H
 go_enter Tryz.func73, Tryz.ntmps73
 go_wp2
 go_loopg [1, 5] k (fun kq v1 v5 w' => ∃ (x1_1 : Int) (x5_1 : Int), v1 = .int .i64 x1_1 ∧ v5 = .int .i64 x5_1 ∧ Aside0 (laws_heldRecordS.l0 kq l0 x1_1 x5_1 = some r) ∧ Aside0 (kq ≤ k) ∧ Aside0 (Below w.heap.size w w'))
 case atStart => exact ⟨(a1), (0), TF, TF, H', ⟨Nat.le_refl _⟩, ⟨TB⟩⟩
 case round =>
  clear H'
  try clear p2
  obtain ⟨x1_1, x5_1, rfl, rfl, HA, HK1, HB⟩ := hrel
  cases gk with
  | zero => exact absurd HA.out (by simp [laws_heldRecordS.l0])
  | succ k1 =>
   have H := HA.out
   clear HA
   simp only [laws_heldRecordS.l0] at H
   by_cases c3 : x5_1 < (l0.length : Int)
   ·rw [if_pos c3] at H
    have c3b0 : decide (x5_1 < (l0.length : Int)) = true := decide_eq_true c3
    clear c3
    obtain ⟨c4, H⟩ := ifn H
    have c4b0 : decide (0 ≤ x5_1) = true := decide_eq_true c4
    clear c4
    obtain ⟨t457, A5, H⟩ := bnd H
    by_cases c6 : ((rd_TRecord l0 x5_1).f0).toList = t457.toList
    ·rw [if_pos c6] at H
     have c6b0 : (((rd_TRecord l0 x5_1).f0).toList == t457.toList) = true := beq_iff_eq.mpr c6
     have c6b1 : (((rd_TRecord l0 x5_1).f0).toList != t457.toList) = false := bne_eq_false_iff_eq.mpr c6
     clear c6
     by_cases c7 : ((rd_TRecord l0 x5_1).f1) = (wrap64 (x1_1 + 1))
     ·rw [if_pos c7] at H
      have c7b0 : (((rd_TRecord l0 x5_1).f1) == (wrap64 (x1_1 + 1))) = true := beq_iff_eq.mpr c7
      have c7b1 : (((rd_TRecord l0 x5_1).f1) != (wrap64 (x1_1 + 1))) = false := bne_eq_false_iff_eq.mpr c7
      clear c7
      by_cases c8 : ((rd_TRecord l0 x5_1).f2) = (wrap64 ((wrap64 (x1_1 + 1)) + 1))
      ·rw [if_pos c8] at H
       have c8b0 : (((rd_TRecord l0 x5_1).f2) == (wrap64 ((wrap64 (x1_1 + 1)) + 1))) = true := beq_iff_eq.mpr c8
       have c8b1 : (((rd_TRecord l0 x5_1).f2) != (wrap64 ((wrap64 (x1_1 + 1)) + 1))) = false := bne_eq_false_iff_eq.mpr c8
       clear c8
       obtain ⟨t461, A9, H⟩ := bnd H
       by_cases c10 : ((rd_TRecord l0 x5_1).f3).toList = t461.toList
       ·rw [if_pos c10] at H
        have c10b0 : (((rd_TRecord l0 x5_1).f3).toList == t461.toList) = true := beq_iff_eq.mpr c10
        have c10b1 : (((rd_TRecord l0 x5_1).f3).toList != t461.toList) = false := bne_eq_false_iff_eq.mpr c10
        clear c10
        have H' := Aside0.mk H
        clear H
        try go_wp2
        replace HB := Aside0.mk (below_drew1 HB.out)
        have p456 : 0 ≤ (x5_1 : Int) := TD
        have q456 : x5_1 < (l0.length : Int) := TD
        obtain ⟨ad456, e456, hx456_0, hx456_1, hx456_2, hx456_3⟩ := at_TRecord HR0.out x5_1 p456 q456
        have hw456_3 := hx456_3
        have hw456_2 := hx456_2
        have hw456_1 := hx456_1
        have hw456_0 := hx456_0
        cases e456
        replace hx456_0 := hBc HB hx456_0
        replace hx456_1 := hBc HB hx456_1
        replace hx456_2 := hBc HB hx456_2
        replace hx456_3 := hBc HB hx456_3
        replace p456 := eq_true p456
        replace q456 := eq_true q456
        refine start_ (n := 8) (S := fun w' => w'.cell? (ad456.add ((x5_1).toNat * 4)) = some (.string ((rd_TRecord l0 x5_1).f0)) ∧ w'.cell? ⟨(ad456.add ((x5_1).toNat * 4)).block, (ad456.add ((x5_1).toNat * 4)).off + 1, none⟩ = some (.int .i64 ((rd_TRecord l0 x5_1).f1)) ∧ w'.cell? ⟨(ad456.add ((x5_1).toNat * 4)).block, (ad456.add ((x5_1).toNat * 4)).off + 2, none⟩ = some (.int .i64 ((rd_TRecord l0 x5_1).f2)) ∧ w'.cell? ⟨(ad456.add ((x5_1).toNat * 4)).block, (ad456.add ((x5_1).toNat * 4)).off + 3, none⟩ = some (.string ((rd_TRecord l0 x5_1).f3))) (ds := []) #[false, false, false, false, false, false, false, false] KR rfl rfl ⟨((HB.out.cell (World.block_lt_of_cell? w _ hw456_0)).trans hw456_0), ((HB.out.cell (World.block_lt_of_cell? w _ hw456_1)).trans hw456_1), ((HB.out.cell (World.block_lt_of_cell? w _ hw456_2)).trans hw456_2), ((HB.out.cell (World.block_lt_of_cell? w _ hw456_3)).trans hw456_3)⟩ (fun hHeld => ?_); refine with_tabW laws_heldRecordS.tab4 laws_heldRecordS.bits4 (fun HT_ HW_ => ?_)
        generalize wr.drew = w11 at HB hx456_0 hx456_1 hx456_2 hx456_3 hHeld ⊢
        refine pA 0 12 (mL 8 1) HT_ rfl rfl ?_
        refine pA 1 13 (mL 8 3) HT_ rfl rfl ?_
        refine pA 2 14 (mL 8 7) HT_ rfl rfl ?_
        refine pA 3 15 (mL 8 15) HT_ rfl rfl ?_
        refine pA 5 17 (mL 8 47) HT_ rfl rfl ?_
        refine tA 4 16 (mL 8 63) HT_ HW_ hHeld rfl rfl (by rintro w' ⟨s0, s1, s2, s3⟩; go_simp; with_reducible rfl) ?_
        refine one_ (i := 6) (N := some 18) (mL 8 127) rfl rfl (one_of HT_.out KR) (by decide) (fun K hK => ?_)
        refine goes_ Tryz.func126 KR rfl #[.int .i64 x1_1] (by rfl) rfl rfl TA ?_
        with_reducible refine (laws_markText.calls k1 x1_1 t457 _ A5.out).mono ?_
        rintro e w12 ⟨rfl, hb⟩
        refine ⟨_, rfl, ?_⟩
        replace HB := BS hb
        (try clear hb)
        (try clear hb2)
        (try clear hk)
        (try clear hi)
        refine hK.out _ _ ⟨((HB.out.cell (World.block_lt_of_cell? w _ hw456_0)).trans hw456_0), ((HB.out.cell (World.block_lt_of_cell? w _ hw456_1)).trans hw456_1), ((HB.out.cell (World.block_lt_of_cell? w _ hw456_2)).trans hw456_2), ((HB.out.cell (World.block_lt_of_cell? w _ hw456_3)).trans hw456_3)⟩ (fun hHeld => ?_)
        clear hK K
        refine nA ?_
        refine pA 7 19 (mL 8 255) HT_ rfl rfl ?_
        refine done_ (done_of HT_.out KR) ?_
        have p458 : 0 ≤ (x5_1 : Int) := TD
        have q458 : x5_1 < (l0.length : Int) := TD
        obtain ⟨ad458, e458, hx458_0, hx458_1, hx458_2, hx458_3⟩ := at_TRecord (Kd.C_below HR0.out HB.out) x5_1 p458 q458
        obtain rfl : ad456 = ad458 := (by injection e458)
        replace p458 := eq_true p458
        replace q458 := eq_true q458
        have p459 : 0 ≤ (x5_1 : Int) := TD
        have q459 : x5_1 < (l0.length : Int) := TD
        obtain ⟨ad459, e459, hx459_0, hx459_1, hx459_2, hx459_3⟩ := at_TRecord (Kd.C_below HR0.out HB.out) x5_1 p459 q459
        obtain rfl : ad456 = ad459 := (by injection e459)
        replace p459 := eq_true p459
        replace q459 := eq_true q459
        try go_wp2
        replace HB := Aside0.mk (below_drew1 HB.out)
        have p460 : 0 ≤ (x5_1 : Int) := TD
        have q460 : x5_1 < (l0.length : Int) := TD
        obtain ⟨ad460, e460, hx460_0, hx460_1, hx460_2, hx460_3⟩ := at_TRecord HR0.out x5_1 p460 q460
        have hw460_3 := hx460_3
        have hw460_2 := hx460_2
        have hw460_1 := hx460_1
        have hw460_0 := hx460_0
        obtain rfl : ad456 = ad460 := (by injection e460)
        replace hx460_0 := hBc HB hx460_0
        replace hx460_1 := hBc HB hx460_1
        replace hx460_2 := hBc HB hx460_2
        replace hx460_3 := hBc HB hx460_3
        replace p460 := eq_true p460
        replace q460 := eq_true q460
        refine start_ (n := 8) (S := fun w' => w'.cell? (ad456.add ((x5_1).toNat * 4)) = some (.string ((rd_TRecord l0 x5_1).f0)) ∧ w'.cell? ⟨(ad456.add ((x5_1).toNat * 4)).block, (ad456.add ((x5_1).toNat * 4)).off + 1, none⟩ = some (.int .i64 ((rd_TRecord l0 x5_1).f1)) ∧ w'.cell? ⟨(ad456.add ((x5_1).toNat * 4)).block, (ad456.add ((x5_1).toNat * 4)).off + 2, none⟩ = some (.int .i64 ((rd_TRecord l0 x5_1).f2)) ∧ w'.cell? ⟨(ad456.add ((x5_1).toNat * 4)).block, (ad456.add ((x5_1).toNat * 4)).off + 3, none⟩ = some (.string ((rd_TRecord l0 x5_1).f3))) (ds := []) #[false, false, false, false, false, false, false, false] KR rfl rfl ⟨((HB.out.cell (World.block_lt_of_cell? w _ hw460_0)).trans hw460_0), ((HB.out.cell (World.block_lt_of_cell? w _ hw460_1)).trans hw460_1), ((HB.out.cell (World.block_lt_of_cell? w _ hw460_2)).trans hw460_2), ((HB.out.cell (World.block_lt_of_cell? w _ hw460_3)).trans hw460_3)⟩ (fun hHeld => ?_); refine with_tabW laws_heldRecordS.tab13 laws_heldRecordS.bits13 (fun HT_ HW_ => ?_)
        generalize w12.drew = w13 at HB hx460_0 hx460_1 hx460_2 hx460_3 hHeld ⊢
        refine pA 0 40 (mL 8 1) HT_ rfl rfl ?_
        refine pA 1 41 (mL 8 3) HT_ rfl rfl ?_
        refine pA 2 42 (mL 8 7) HT_ rfl rfl ?_
        refine pA 3 43 (mL 8 15) HT_ rfl rfl ?_
        refine pA 5 45 (mL 8 47) HT_ rfl rfl ?_
        refine tA 4 44 (mL 8 63) HT_ HW_ hHeld rfl rfl (by rintro w' ⟨s0, s1, s2, s3⟩; go_simp; with_reducible rfl) ?_
        refine one_ (i := 6) (N := some 46) (mL 8 127) rfl rfl (one_of HT_.out KR) (by decide) (fun K hK => ?_)
        refine goes_ Tryz.func126 KR rfl #[.int .i64 (wrap64 ((wrap64 ((wrap64 (x1_1 + 1)) + 1)) + 1))] (by rfl) rfl rfl TA ?_
        with_reducible refine (laws_markText.calls k1 (wrap64 ((wrap64 ((wrap64 (x1_1 + 1)) + 1)) + 1)) t461 _ A9.out).mono ?_
        rintro e w14 ⟨rfl, hb⟩
        refine ⟨_, rfl, ?_⟩
        replace HB := BS hb
        (try clear hb)
        (try clear hb2)
        (try clear hk)
        (try clear hi)
        refine hK.out _ _ ⟨((HB.out.cell (World.block_lt_of_cell? w _ hw460_0)).trans hw460_0), ((HB.out.cell (World.block_lt_of_cell? w _ hw460_1)).trans hw460_1), ((HB.out.cell (World.block_lt_of_cell? w _ hw460_2)).trans hw460_2), ((HB.out.cell (World.block_lt_of_cell? w _ hw460_3)).trans hw460_3)⟩ (fun hHeld => ?_)
        clear hK K
        refine nA ?_
        refine pA 7 47 (mL 8 255) HT_ rfl rfl ?_
        refine done_ (done_of HT_.out KR) ?_
        try go_wp2
        go_roundg k1
        case measure => have := HK1.out; omega
        case rel => exact ⟨(wrap64 ((wrap64 ((wrap64 ((wrap64 (x1_1 + 1)) + 1)) + 1)) + 1)), (wrap64 (x5_1 + 1)), TF, TF, H', ⟨TM⟩, ⟨TB⟩⟩
       ·rw [if_neg c10] at H
        have c10b0 : (((rd_TRecord l0 x5_1).f3).toList == t461.toList) = false := beq_eq_false_iff_ne.mpr c10
        have c10b1 : (((rd_TRecord l0 x5_1).f3).toList != t461.toList) = true := bne_iff_ne.mpr c10
        obtain rfl := Option.some.inj H
        try go_wp2
        replace HB := Aside0.mk (below_drew1 HB.out)
        have p456 : 0 ≤ (x5_1 : Int) := TD
        have q456 : x5_1 < (l0.length : Int) := TD
        obtain ⟨ad456, e456, hx456_0, hx456_1, hx456_2, hx456_3⟩ := at_TRecord HR0.out x5_1 p456 q456
        have hw456_3 := hx456_3
        have hw456_2 := hx456_2
        have hw456_1 := hx456_1
        have hw456_0 := hx456_0
        cases e456
        replace hx456_0 := hBc HB hx456_0
        replace hx456_1 := hBc HB hx456_1
        replace hx456_2 := hBc HB hx456_2
        replace hx456_3 := hBc HB hx456_3
        replace p456 := eq_true p456
        replace q456 := eq_true q456
        refine start_ (n := 8) (S := fun w' => w'.cell? (ad456.add ((x5_1).toNat * 4)) = some (.string ((rd_TRecord l0 x5_1).f0)) ∧ w'.cell? ⟨(ad456.add ((x5_1).toNat * 4)).block, (ad456.add ((x5_1).toNat * 4)).off + 1, none⟩ = some (.int .i64 ((rd_TRecord l0 x5_1).f1)) ∧ w'.cell? ⟨(ad456.add ((x5_1).toNat * 4)).block, (ad456.add ((x5_1).toNat * 4)).off + 2, none⟩ = some (.int .i64 ((rd_TRecord l0 x5_1).f2)) ∧ w'.cell? ⟨(ad456.add ((x5_1).toNat * 4)).block, (ad456.add ((x5_1).toNat * 4)).off + 3, none⟩ = some (.string ((rd_TRecord l0 x5_1).f3))) (ds := []) #[false, false, false, false, false, false, false, false] KR rfl rfl ⟨((HB.out.cell (World.block_lt_of_cell? w _ hw456_0)).trans hw456_0), ((HB.out.cell (World.block_lt_of_cell? w _ hw456_1)).trans hw456_1), ((HB.out.cell (World.block_lt_of_cell? w _ hw456_2)).trans hw456_2), ((HB.out.cell (World.block_lt_of_cell? w _ hw456_3)).trans hw456_3)⟩ (fun hHeld => ?_); refine with_tabW laws_heldRecordS.tab4 laws_heldRecordS.bits4 (fun HT_ HW_ => ?_)
        generalize wr.drew = w15 at HB hx456_0 hx456_1 hx456_2 hx456_3 hHeld ⊢
        refine pA 0 12 (mL 8 1) HT_ rfl rfl ?_
        refine pA 1 13 (mL 8 3) HT_ rfl rfl ?_
        refine pA 2 14 (mL 8 7) HT_ rfl rfl ?_
        refine pA 3 15 (mL 8 15) HT_ rfl rfl ?_
        refine pA 5 17 (mL 8 47) HT_ rfl rfl ?_
        refine tA 4 16 (mL 8 63) HT_ HW_ hHeld rfl rfl (by rintro w' ⟨s0, s1, s2, s3⟩; go_simp; with_reducible rfl) ?_
        refine one_ (i := 6) (N := some 18) (mL 8 127) rfl rfl (one_of HT_.out KR) (by decide) (fun K hK => ?_)
        refine goes_ Tryz.func126 KR rfl #[.int .i64 x1_1] (by rfl) rfl rfl TA ?_
        with_reducible refine (laws_markText.calls k1 x1_1 t457 _ A5.out).mono ?_
        rintro e w16 ⟨rfl, hb⟩
        refine ⟨_, rfl, ?_⟩
        replace HB := BS hb
        (try clear hb)
        (try clear hb2)
        (try clear hk)
        (try clear hi)
        refine hK.out _ _ ⟨((HB.out.cell (World.block_lt_of_cell? w _ hw456_0)).trans hw456_0), ((HB.out.cell (World.block_lt_of_cell? w _ hw456_1)).trans hw456_1), ((HB.out.cell (World.block_lt_of_cell? w _ hw456_2)).trans hw456_2), ((HB.out.cell (World.block_lt_of_cell? w _ hw456_3)).trans hw456_3)⟩ (fun hHeld => ?_)
        clear hK K
        refine nA ?_
        refine pA 7 19 (mL 8 255) HT_ rfl rfl ?_
        refine done_ (done_of HT_.out KR) ?_
        have p458 : 0 ≤ (x5_1 : Int) := TD
        have q458 : x5_1 < (l0.length : Int) := TD
        obtain ⟨ad458, e458, hx458_0, hx458_1, hx458_2, hx458_3⟩ := at_TRecord (Kd.C_below HR0.out HB.out) x5_1 p458 q458
        obtain rfl : ad456 = ad458 := (by injection e458)
        replace p458 := eq_true p458
        replace q458 := eq_true q458
        have p459 : 0 ≤ (x5_1 : Int) := TD
        have q459 : x5_1 < (l0.length : Int) := TD
        obtain ⟨ad459, e459, hx459_0, hx459_1, hx459_2, hx459_3⟩ := at_TRecord (Kd.C_below HR0.out HB.out) x5_1 p459 q459
        obtain rfl : ad456 = ad459 := (by injection e459)
        replace p459 := eq_true p459
        replace q459 := eq_true q459
        try go_wp2
        replace HB := Aside0.mk (below_drew1 HB.out)
        have p460 : 0 ≤ (x5_1 : Int) := TD
        have q460 : x5_1 < (l0.length : Int) := TD
        obtain ⟨ad460, e460, hx460_0, hx460_1, hx460_2, hx460_3⟩ := at_TRecord HR0.out x5_1 p460 q460
        have hw460_3 := hx460_3
        have hw460_2 := hx460_2
        have hw460_1 := hx460_1
        have hw460_0 := hx460_0
        obtain rfl : ad456 = ad460 := (by injection e460)
        replace hx460_0 := hBc HB hx460_0
        replace hx460_1 := hBc HB hx460_1
        replace hx460_2 := hBc HB hx460_2
        replace hx460_3 := hBc HB hx460_3
        replace p460 := eq_true p460
        replace q460 := eq_true q460
        refine start_ (n := 8) (S := fun w' => w'.cell? (ad456.add ((x5_1).toNat * 4)) = some (.string ((rd_TRecord l0 x5_1).f0)) ∧ w'.cell? ⟨(ad456.add ((x5_1).toNat * 4)).block, (ad456.add ((x5_1).toNat * 4)).off + 1, none⟩ = some (.int .i64 ((rd_TRecord l0 x5_1).f1)) ∧ w'.cell? ⟨(ad456.add ((x5_1).toNat * 4)).block, (ad456.add ((x5_1).toNat * 4)).off + 2, none⟩ = some (.int .i64 ((rd_TRecord l0 x5_1).f2)) ∧ w'.cell? ⟨(ad456.add ((x5_1).toNat * 4)).block, (ad456.add ((x5_1).toNat * 4)).off + 3, none⟩ = some (.string ((rd_TRecord l0 x5_1).f3))) (ds := []) #[false, false, false, false, false, false, false, false] KR rfl rfl ⟨((HB.out.cell (World.block_lt_of_cell? w _ hw460_0)).trans hw460_0), ((HB.out.cell (World.block_lt_of_cell? w _ hw460_1)).trans hw460_1), ((HB.out.cell (World.block_lt_of_cell? w _ hw460_2)).trans hw460_2), ((HB.out.cell (World.block_lt_of_cell? w _ hw460_3)).trans hw460_3)⟩ (fun hHeld => ?_); refine with_tabW laws_heldRecordS.tab13 laws_heldRecordS.bits13 (fun HT_ HW_ => ?_)
        generalize w16.drew = w17 at HB hx460_0 hx460_1 hx460_2 hx460_3 hHeld ⊢
        refine pA 0 40 (mL 8 1) HT_ rfl rfl ?_
        refine pA 1 41 (mL 8 3) HT_ rfl rfl ?_
        refine pA 2 42 (mL 8 7) HT_ rfl rfl ?_
        refine pA 3 43 (mL 8 15) HT_ rfl rfl ?_
        refine pA 5 45 (mL 8 47) HT_ rfl rfl ?_
        refine tA 4 44 (mL 8 63) HT_ HW_ hHeld rfl rfl (by rintro w' ⟨s0, s1, s2, s3⟩; go_simp; with_reducible rfl) ?_
        refine one_ (i := 6) (N := some 46) (mL 8 127) rfl rfl (one_of HT_.out KR) (by decide) (fun K hK => ?_)
        refine goes_ Tryz.func126 KR rfl #[.int .i64 (wrap64 ((wrap64 ((wrap64 (x1_1 + 1)) + 1)) + 1))] (by rfl) rfl rfl TA ?_
        with_reducible refine (laws_markText.calls k1 (wrap64 ((wrap64 ((wrap64 (x1_1 + 1)) + 1)) + 1)) t461 _ A9.out).mono ?_
        rintro e w18 ⟨rfl, hb⟩
        refine ⟨_, rfl, ?_⟩
        replace HB := BS hb
        (try clear hb)
        (try clear hb2)
        (try clear hk)
        (try clear hi)
        refine hK.out _ _ ⟨((HB.out.cell (World.block_lt_of_cell? w _ hw460_0)).trans hw460_0), ((HB.out.cell (World.block_lt_of_cell? w _ hw460_1)).trans hw460_1), ((HB.out.cell (World.block_lt_of_cell? w _ hw460_2)).trans hw460_2), ((HB.out.cell (World.block_lt_of_cell? w _ hw460_3)).trans hw460_3)⟩ (fun hHeld => ?_)
        clear hK K
        refine nA ?_
        refine pA 7 47 (mL 8 255) HT_ rfl rfl ?_
        refine done_ (done_of HT_.out KR) ?_
        try go_wp2
        go_ret
        exact ⟨TE, TB⟩
      ·rw [if_neg c8] at H
       have c8b0 : (((rd_TRecord l0 x5_1).f2) == (wrap64 ((wrap64 (x1_1 + 1)) + 1))) = false := beq_eq_false_iff_ne.mpr c8
       have c8b1 : (((rd_TRecord l0 x5_1).f2) != (wrap64 ((wrap64 (x1_1 + 1)) + 1))) = true := bne_iff_ne.mpr c8
       obtain rfl := Option.some.inj H
       try go_wp2
       replace HB := Aside0.mk (below_drew1 HB.out)
       have p456 : 0 ≤ (x5_1 : Int) := TD
       have q456 : x5_1 < (l0.length : Int) := TD
       obtain ⟨ad456, e456, hx456_0, hx456_1, hx456_2, hx456_3⟩ := at_TRecord HR0.out x5_1 p456 q456
       have hw456_3 := hx456_3
       have hw456_2 := hx456_2
       have hw456_1 := hx456_1
       have hw456_0 := hx456_0
       cases e456
       replace hx456_0 := hBc HB hx456_0
       replace hx456_1 := hBc HB hx456_1
       replace hx456_2 := hBc HB hx456_2
       replace hx456_3 := hBc HB hx456_3
       replace p456 := eq_true p456
       replace q456 := eq_true q456
       refine start_ (n := 8) (S := fun w' => w'.cell? (ad456.add ((x5_1).toNat * 4)) = some (.string ((rd_TRecord l0 x5_1).f0)) ∧ w'.cell? ⟨(ad456.add ((x5_1).toNat * 4)).block, (ad456.add ((x5_1).toNat * 4)).off + 1, none⟩ = some (.int .i64 ((rd_TRecord l0 x5_1).f1)) ∧ w'.cell? ⟨(ad456.add ((x5_1).toNat * 4)).block, (ad456.add ((x5_1).toNat * 4)).off + 2, none⟩ = some (.int .i64 ((rd_TRecord l0 x5_1).f2)) ∧ w'.cell? ⟨(ad456.add ((x5_1).toNat * 4)).block, (ad456.add ((x5_1).toNat * 4)).off + 3, none⟩ = some (.string ((rd_TRecord l0 x5_1).f3))) (ds := []) #[false, false, false, false, false, false, false, false] KR rfl rfl ⟨((HB.out.cell (World.block_lt_of_cell? w _ hw456_0)).trans hw456_0), ((HB.out.cell (World.block_lt_of_cell? w _ hw456_1)).trans hw456_1), ((HB.out.cell (World.block_lt_of_cell? w _ hw456_2)).trans hw456_2), ((HB.out.cell (World.block_lt_of_cell? w _ hw456_3)).trans hw456_3)⟩ (fun hHeld => ?_); refine with_tabW laws_heldRecordS.tab4 laws_heldRecordS.bits4 (fun HT_ HW_ => ?_)
       generalize wr.drew = w19 at HB hx456_0 hx456_1 hx456_2 hx456_3 hHeld ⊢
       refine pA 0 12 (mL 8 1) HT_ rfl rfl ?_
       refine pA 1 13 (mL 8 3) HT_ rfl rfl ?_
       refine pA 2 14 (mL 8 7) HT_ rfl rfl ?_
       refine pA 3 15 (mL 8 15) HT_ rfl rfl ?_
       refine pA 5 17 (mL 8 47) HT_ rfl rfl ?_
       refine tA 4 16 (mL 8 63) HT_ HW_ hHeld rfl rfl (by rintro w' ⟨s0, s1, s2, s3⟩; go_simp; with_reducible rfl) ?_
       refine one_ (i := 6) (N := some 18) (mL 8 127) rfl rfl (one_of HT_.out KR) (by decide) (fun K hK => ?_)
       refine goes_ Tryz.func126 KR rfl #[.int .i64 x1_1] (by rfl) rfl rfl TA ?_
       with_reducible refine (laws_markText.calls k1 x1_1 t457 _ A5.out).mono ?_
       rintro e w20 ⟨rfl, hb⟩
       refine ⟨_, rfl, ?_⟩
       replace HB := BS hb
       (try clear hb)
       (try clear hb2)
       (try clear hk)
       (try clear hi)
       refine hK.out _ _ ⟨((HB.out.cell (World.block_lt_of_cell? w _ hw456_0)).trans hw456_0), ((HB.out.cell (World.block_lt_of_cell? w _ hw456_1)).trans hw456_1), ((HB.out.cell (World.block_lt_of_cell? w _ hw456_2)).trans hw456_2), ((HB.out.cell (World.block_lt_of_cell? w _ hw456_3)).trans hw456_3)⟩ (fun hHeld => ?_)
       clear hK K
       refine nA ?_
       refine pA 7 19 (mL 8 255) HT_ rfl rfl ?_
       refine done_ (done_of HT_.out KR) ?_
       have p458 : 0 ≤ (x5_1 : Int) := TD
       have q458 : x5_1 < (l0.length : Int) := TD
       obtain ⟨ad458, e458, hx458_0, hx458_1, hx458_2, hx458_3⟩ := at_TRecord (Kd.C_below HR0.out HB.out) x5_1 p458 q458
       obtain rfl : ad456 = ad458 := (by injection e458)
       replace p458 := eq_true p458
       replace q458 := eq_true q458
       have p459 : 0 ≤ (x5_1 : Int) := TD
       have q459 : x5_1 < (l0.length : Int) := TD
       obtain ⟨ad459, e459, hx459_0, hx459_1, hx459_2, hx459_3⟩ := at_TRecord (Kd.C_below HR0.out HB.out) x5_1 p459 q459
       obtain rfl : ad456 = ad459 := (by injection e459)
       replace p459 := eq_true p459
       replace q459 := eq_true q459
       try go_wp2
       go_ret
       exact ⟨TE, TB⟩
     ·rw [if_neg c7] at H
      have c7b0 : (((rd_TRecord l0 x5_1).f1) == (wrap64 (x1_1 + 1))) = false := beq_eq_false_iff_ne.mpr c7
      have c7b1 : (((rd_TRecord l0 x5_1).f1) != (wrap64 (x1_1 + 1))) = true := bne_iff_ne.mpr c7
      obtain rfl := Option.some.inj H
      try go_wp2
      replace HB := Aside0.mk (below_drew1 HB.out)
      have p456 : 0 ≤ (x5_1 : Int) := TD
      have q456 : x5_1 < (l0.length : Int) := TD
      obtain ⟨ad456, e456, hx456_0, hx456_1, hx456_2, hx456_3⟩ := at_TRecord HR0.out x5_1 p456 q456
      have hw456_3 := hx456_3
      have hw456_2 := hx456_2
      have hw456_1 := hx456_1
      have hw456_0 := hx456_0
      cases e456
      replace hx456_0 := hBc HB hx456_0
      replace hx456_1 := hBc HB hx456_1
      replace hx456_2 := hBc HB hx456_2
      replace hx456_3 := hBc HB hx456_3
      replace p456 := eq_true p456
      replace q456 := eq_true q456
      refine start_ (n := 8) (S := fun w' => w'.cell? (ad456.add ((x5_1).toNat * 4)) = some (.string ((rd_TRecord l0 x5_1).f0)) ∧ w'.cell? ⟨(ad456.add ((x5_1).toNat * 4)).block, (ad456.add ((x5_1).toNat * 4)).off + 1, none⟩ = some (.int .i64 ((rd_TRecord l0 x5_1).f1)) ∧ w'.cell? ⟨(ad456.add ((x5_1).toNat * 4)).block, (ad456.add ((x5_1).toNat * 4)).off + 2, none⟩ = some (.int .i64 ((rd_TRecord l0 x5_1).f2)) ∧ w'.cell? ⟨(ad456.add ((x5_1).toNat * 4)).block, (ad456.add ((x5_1).toNat * 4)).off + 3, none⟩ = some (.string ((rd_TRecord l0 x5_1).f3))) (ds := []) #[false, false, false, false, false, false, false, false] KR rfl rfl ⟨((HB.out.cell (World.block_lt_of_cell? w _ hw456_0)).trans hw456_0), ((HB.out.cell (World.block_lt_of_cell? w _ hw456_1)).trans hw456_1), ((HB.out.cell (World.block_lt_of_cell? w _ hw456_2)).trans hw456_2), ((HB.out.cell (World.block_lt_of_cell? w _ hw456_3)).trans hw456_3)⟩ (fun hHeld => ?_); refine with_tabW laws_heldRecordS.tab4 laws_heldRecordS.bits4 (fun HT_ HW_ => ?_)
      generalize wr.drew = w21 at HB hx456_0 hx456_1 hx456_2 hx456_3 hHeld ⊢
      refine pA 0 12 (mL 8 1) HT_ rfl rfl ?_
      refine pA 1 13 (mL 8 3) HT_ rfl rfl ?_
      refine pA 2 14 (mL 8 7) HT_ rfl rfl ?_
      refine pA 3 15 (mL 8 15) HT_ rfl rfl ?_
      refine pA 5 17 (mL 8 47) HT_ rfl rfl ?_
      refine tA 4 16 (mL 8 63) HT_ HW_ hHeld rfl rfl (by rintro w' ⟨s0, s1, s2, s3⟩; go_simp; with_reducible rfl) ?_
      refine one_ (i := 6) (N := some 18) (mL 8 127) rfl rfl (one_of HT_.out KR) (by decide) (fun K hK => ?_)
      refine goes_ Tryz.func126 KR rfl #[.int .i64 x1_1] (by rfl) rfl rfl TA ?_
      with_reducible refine (laws_markText.calls k1 x1_1 t457 _ A5.out).mono ?_
      rintro e w22 ⟨rfl, hb⟩
      refine ⟨_, rfl, ?_⟩
      replace HB := BS hb
      (try clear hb)
      (try clear hb2)
      (try clear hk)
      (try clear hi)
      refine hK.out _ _ ⟨((HB.out.cell (World.block_lt_of_cell? w _ hw456_0)).trans hw456_0), ((HB.out.cell (World.block_lt_of_cell? w _ hw456_1)).trans hw456_1), ((HB.out.cell (World.block_lt_of_cell? w _ hw456_2)).trans hw456_2), ((HB.out.cell (World.block_lt_of_cell? w _ hw456_3)).trans hw456_3)⟩ (fun hHeld => ?_)
      clear hK K
      refine nA ?_
      refine pA 7 19 (mL 8 255) HT_ rfl rfl ?_
      refine done_ (done_of HT_.out KR) ?_
      have p458 : 0 ≤ (x5_1 : Int) := TD
      have q458 : x5_1 < (l0.length : Int) := TD
      obtain ⟨ad458, e458, hx458_0, hx458_1, hx458_2, hx458_3⟩ := at_TRecord (Kd.C_below HR0.out HB.out) x5_1 p458 q458
      obtain rfl : ad456 = ad458 := (by injection e458)
      replace p458 := eq_true p458
      replace q458 := eq_true q458
      try go_wp2
      go_ret
      exact ⟨TE, TB⟩
    ·rw [if_neg c6] at H
     have c6b0 : (((rd_TRecord l0 x5_1).f0).toList == t457.toList) = false := beq_eq_false_iff_ne.mpr c6
     have c6b1 : (((rd_TRecord l0 x5_1).f0).toList != t457.toList) = true := bne_iff_ne.mpr c6
     obtain rfl := Option.some.inj H
     try go_wp2
     replace HB := Aside0.mk (below_drew1 HB.out)
     have p456 : 0 ≤ (x5_1 : Int) := TD
     have q456 : x5_1 < (l0.length : Int) := TD
     obtain ⟨ad456, e456, hx456_0, hx456_1, hx456_2, hx456_3⟩ := at_TRecord HR0.out x5_1 p456 q456
     have hw456_3 := hx456_3
     have hw456_2 := hx456_2
     have hw456_1 := hx456_1
     have hw456_0 := hx456_0
     cases e456
     replace hx456_0 := hBc HB hx456_0
     replace hx456_1 := hBc HB hx456_1
     replace hx456_2 := hBc HB hx456_2
     replace hx456_3 := hBc HB hx456_3
     replace p456 := eq_true p456
     replace q456 := eq_true q456
     refine start_ (n := 8) (S := fun w' => w'.cell? (ad456.add ((x5_1).toNat * 4)) = some (.string ((rd_TRecord l0 x5_1).f0)) ∧ w'.cell? ⟨(ad456.add ((x5_1).toNat * 4)).block, (ad456.add ((x5_1).toNat * 4)).off + 1, none⟩ = some (.int .i64 ((rd_TRecord l0 x5_1).f1)) ∧ w'.cell? ⟨(ad456.add ((x5_1).toNat * 4)).block, (ad456.add ((x5_1).toNat * 4)).off + 2, none⟩ = some (.int .i64 ((rd_TRecord l0 x5_1).f2)) ∧ w'.cell? ⟨(ad456.add ((x5_1).toNat * 4)).block, (ad456.add ((x5_1).toNat * 4)).off + 3, none⟩ = some (.string ((rd_TRecord l0 x5_1).f3))) (ds := []) #[false, false, false, false, false, false, false, false] KR rfl rfl ⟨((HB.out.cell (World.block_lt_of_cell? w _ hw456_0)).trans hw456_0), ((HB.out.cell (World.block_lt_of_cell? w _ hw456_1)).trans hw456_1), ((HB.out.cell (World.block_lt_of_cell? w _ hw456_2)).trans hw456_2), ((HB.out.cell (World.block_lt_of_cell? w _ hw456_3)).trans hw456_3)⟩ (fun hHeld => ?_); refine with_tabW laws_heldRecordS.tab4 laws_heldRecordS.bits4 (fun HT_ HW_ => ?_)
     generalize wr.drew = w23 at HB hx456_0 hx456_1 hx456_2 hx456_3 hHeld ⊢
     refine pA 0 12 (mL 8 1) HT_ rfl rfl ?_
     refine pA 1 13 (mL 8 3) HT_ rfl rfl ?_
     refine pA 2 14 (mL 8 7) HT_ rfl rfl ?_
     refine pA 3 15 (mL 8 15) HT_ rfl rfl ?_
     refine pA 5 17 (mL 8 47) HT_ rfl rfl ?_
     refine tA 4 16 (mL 8 63) HT_ HW_ hHeld rfl rfl (by rintro w' ⟨s0, s1, s2, s3⟩; go_simp; with_reducible rfl) ?_
     refine one_ (i := 6) (N := some 18) (mL 8 127) rfl rfl (one_of HT_.out KR) (by decide) (fun K hK => ?_)
     refine goes_ Tryz.func126 KR rfl #[.int .i64 x1_1] (by rfl) rfl rfl TA ?_
     with_reducible refine (laws_markText.calls k1 x1_1 t457 _ A5.out).mono ?_
     rintro e w24 ⟨rfl, hb⟩
     refine ⟨_, rfl, ?_⟩
     replace HB := BS hb
     (try clear hb)
     (try clear hb2)
     (try clear hk)
     (try clear hi)
     refine hK.out _ _ ⟨((HB.out.cell (World.block_lt_of_cell? w _ hw456_0)).trans hw456_0), ((HB.out.cell (World.block_lt_of_cell? w _ hw456_1)).trans hw456_1), ((HB.out.cell (World.block_lt_of_cell? w _ hw456_2)).trans hw456_2), ((HB.out.cell (World.block_lt_of_cell? w _ hw456_3)).trans hw456_3)⟩ (fun hHeld => ?_)
     clear hK K
     refine nA ?_
     refine pA 7 19 (mL 8 255) HT_ rfl rfl ?_
     refine done_ (done_of HT_.out KR) ?_
     try go_wp2
     go_ret
     exact ⟨TE, TB⟩
   ·rw [if_neg c3] at H
    have c3b0 : decide (x5_1 < (l0.length : Int)) = false := decide_eq_false c3
    clear c3
    obtain rfl := Option.some.inj H
    go_wp2
    go_ret
    exact ⟨TE, TB⟩
end
section
/-! ### laws_heldDiff: function 23 -/
def laws_heldDiff.f (k : Nat) (a0_0 : Int) (a0_1 : Int) (l0_2 : List (S_Record)) (l0_3 : List (S_Record)) (a1 : Int) : Option (Int) := (laws_heldRecordS.f k l0_2 a1).bind fun t463 => (if t463 < 0 then (some (-1)) else ((laws_heldRecordS.f k l0_3 t463).bind fun t464 => (if t464 < 0 then (some (-1)) else (some t464))))
theorem laws_heldDiff.mono : ∀ a0 a1 a2 a3 a4 k, LeO (laws_heldDiff.f k a0 a1 a2 a3 a4) (laws_heldDiff.f (k + 1) a0 a1 a2 a3 a4) := by
 intro a0 a1 a2 a3 a4 k
 unfold laws_heldDiff.f
 repeat' first
   | (with_reducible exact laws_heldRecordS.mono _ _ _)
   | (with_reducible exact LeO.refl _)
   | (with_reducible exact LeO.none _)
   | (with_reducible refine LeO.ite ?_ ?_)
   | (with_reducible refine LeO.bind ?_ (fun _ => ?_))
   | exact laws_heldRecordS.mono _ _ _
   | exact LeO.none _
   | refine LeO.ite ?_ ?_
   | refine LeO.bind ?_ (fun _ => ?_)
theorem laws_heldDiff.calls (k : Nat) (a0_0 : Int) (a0_1 : Int) (A0_2 : Option Addr) (c0_2 : Nat) (l0_2 : List (S_Record)) (A0_3 : Option Addr) (c0_3 : Nat) (l0_3 : List (S_Record)) (a1 : Int) (r : Int) (w : World) (hr0_2 : Kd.C k_Record w A0_2 l0_2.length l0_2) (hc0_2 : l0_2.length ≤ c0_2) (hr0_3 : Kd.C k_Record w A0_3 l0_3.length l0_3) (hc0_3 : l0_3.length ≤ c0_3) (h : laws_heldDiff.f k a0_0 a0_1 l0_2 l0_3 a1 = some r) :
  Calls Tryz.prog 23 #[.agg #[.int .i64 a0_0, .int .i64 a0_1, .slice A0_2 l0_2.length c0_2, .slice A0_3 l0_3.length c0_3], .int .i64 a1] w fun e w' => e = .returned (.int .i64 r) ∧ Below w.heap.size w w' := by
 have hu29 := Tryz.underlying29
 have HR0_2 := Aside0.mk hr0_2
 have HC0_2 := Aside0.mk hc0_2
 clear hr0_2 hc0_2
 have HR0_3 := Aside0.mk hr0_3
 have HC0_3 := Aside0.mk hc0_3
 clear hr0_3 hc0_3
 have HB := Aside0.mk (Below.refl w.heap.size w)
 have H : ((laws_heldRecordS.f k l0_2 a1).bind fun t463 => (if t463 < 0 then (some (-1)) else ((laws_heldRecordS.f k l0_3 t463).bind fun t464 => (if t464 < 0 then (some (-1)) else (some t464))))) = some r := h
 clear h
 obtain ⟨t463, A3, H⟩ := bnd H
 by_cases c4 : t463 < 0
 ·rw [if_pos c4] at H
  have c4b0 : decide (t463 < 0) = true := decide_eq_true c4
  clear c4
  obtain rfl := Option.some.inj H
  go_enter Tryz.func23, Tryz.ntmps23
  go_wp2_with (first | ((with_reducible refine gate_dst (N := 2) rfl ?_); refine bE 2 #[.int .i64 a0_0, .int .i64 a0_1, .slice A0_2 l0_2.length c0_2, .slice A0_3 l0_3.length c0_3] 29 ?_; intro gb462 hg w5 hbox hb; have BK462 := Aside0.mk (hbox); have GE462 := bG hg; replace HB := BS hb; clear hb hbox hg; have hcz6 := cz4 BK462) | ((with_reducible refine gate_callee (f := 73) rfl ?_); refine goesL_ (some 8) rfl rfl Tryz.func73 KR rfl #[.slice A0_2 l0_2.length c0_2, .int .i64 a1] rfl TA ?_; (with_reducible refine (laws_heldRecordS.calls k _ _ l0_2 a1 t463 _ ?side1 ?side2 A3.out).mono ?_); (case side1 => exact CW ((Kd.C_below HR0_2.out HB.out))); (case side2 => exact HC0_2.out); rintro e w7 ⟨rfl, hb⟩; refine ⟨_, rfl, ?_⟩; replace BK462 := KB BK462 hb; replace HB := BS hb; (try clear hb); (try clear hb2); (try clear hk); (try clear hi)))
  go_ret
  exact ⟨TE, TB⟩
 ·rw [if_neg c4] at H
  have c4b0 : decide (t463 < 0) = false := decide_eq_false c4
  clear c4
  obtain ⟨t464, A8, H⟩ := bnd H
  by_cases c9 : t464 < 0
  ·rw [if_pos c9] at H
   have c9b0 : decide (t464 < 0) = true := decide_eq_true c9
   clear c9
   obtain rfl := Option.some.inj H
   go_enter Tryz.func23, Tryz.ntmps23
   go_wp2_with (first | ((with_reducible refine gate_dst (N := 2) rfl ?_); refine bE 2 #[.int .i64 a0_0, .int .i64 a0_1, .slice A0_2 l0_2.length c0_2, .slice A0_3 l0_3.length c0_3] 29 ?_; intro gb462 hg w10 hbox hb; have BK462 := Aside0.mk (hbox); have GE462 := bG hg; replace HB := BS hb; clear hb hbox hg; have hcz11 := cz4 BK462) | ((with_reducible refine gate_callee (f := 73) rfl ?_); refine goesL_ (some 8) rfl rfl Tryz.func73 KR rfl #[.slice A0_2 l0_2.length c0_2, .int .i64 a1] rfl TA ?_; (with_reducible refine (laws_heldRecordS.calls k _ _ l0_2 a1 t463 _ ?side1 ?side2 A3.out).mono ?_); (case side1 => exact CW ((Kd.C_below HR0_2.out HB.out))); (case side2 => exact HC0_2.out); rintro e w12 ⟨rfl, hb⟩; refine ⟨_, rfl, ?_⟩; replace BK462 := KB BK462 hb; replace HB := BS hb; (try clear hb); (try clear hb2); (try clear hk); (try clear hi); have hcz13 := cz4 BK462) | ((with_reducible refine gate_callee (f := 73) rfl ?_); refine goesL_ (some 14) rfl rfl Tryz.func73 KR rfl #[.slice A0_3 l0_3.length c0_3, .int .i64 t463] rfl TA ?_; (with_reducible refine (laws_heldRecordS.calls k _ _ l0_3 t463 t464 _ ?side1 ?side2 A8.out).mono ?_); (case side1 => exact CW ((Kd.C_below HR0_3.out HB.out))); (case side2 => exact HC0_3.out); rintro e w14 ⟨rfl, hb⟩; refine ⟨_, rfl, ?_⟩; replace BK462 := KB BK462 hb; replace HB := BS hb; (try clear hb); (try clear hb2); (try clear hk); (try clear hi)))
   go_ret
   exact ⟨TE, TB⟩
  ·rw [if_neg c9] at H
   have c9b0 : decide (t464 < 0) = false := decide_eq_false c9
   clear c9
   obtain rfl := Option.some.inj H
   go_enter Tryz.func23, Tryz.ntmps23
   go_wp2_with (first | ((with_reducible refine gate_dst (N := 2) rfl ?_); refine bE 2 #[.int .i64 a0_0, .int .i64 a0_1, .slice A0_2 l0_2.length c0_2, .slice A0_3 l0_3.length c0_3] 29 ?_; intro gb462 hg w15 hbox hb; have BK462 := Aside0.mk (hbox); have GE462 := bG hg; replace HB := BS hb; clear hb hbox hg; have hcz16 := cz4 BK462) | ((with_reducible refine gate_callee (f := 73) rfl ?_); refine goesL_ (some 8) rfl rfl Tryz.func73 KR rfl #[.slice A0_2 l0_2.length c0_2, .int .i64 a1] rfl TA ?_; (with_reducible refine (laws_heldRecordS.calls k _ _ l0_2 a1 t463 _ ?side1 ?side2 A3.out).mono ?_); (case side1 => exact CW ((Kd.C_below HR0_2.out HB.out))); (case side2 => exact HC0_2.out); rintro e w17 ⟨rfl, hb⟩; refine ⟨_, rfl, ?_⟩; replace BK462 := KB BK462 hb; replace HB := BS hb; (try clear hb); (try clear hb2); (try clear hk); (try clear hi); have hcz18 := cz4 BK462) | ((with_reducible refine gate_callee (f := 73) rfl ?_); refine goesL_ (some 14) rfl rfl Tryz.func73 KR rfl #[.slice A0_3 l0_3.length c0_3, .int .i64 t463] rfl TA ?_; (with_reducible refine (laws_heldRecordS.calls k _ _ l0_3 t463 t464 _ ?side1 ?side2 A8.out).mono ?_); (case side1 => exact CW ((Kd.C_below HR0_3.out HB.out))); (case side2 => exact HC0_3.out); rintro e w19 ⟨rfl, hb⟩; refine ⟨_, rfl, ?_⟩; replace BK462 := KB BK462 hb; replace HB := BS hb; (try clear hb); (try clear hb2); (try clear hk); (try clear hi)))
   go_ret
   exact ⟨TE, TB⟩
end
end Go.Proofs.YthohohfmdieohaaGreatDoor.Pp
