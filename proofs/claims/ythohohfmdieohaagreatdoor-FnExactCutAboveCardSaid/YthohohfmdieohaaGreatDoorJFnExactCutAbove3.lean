/- The functions that the law reaches, one Lean function and its proof for each; written by wip/pp of this workplace, joined by claimit.py. -/
import Derived.Test.YthohohfmdieohaaGreatDoorProg
import Derived.Below
import Derived.Deep.Draws
import Derived.Deep.AppendLies
import Derived.Maps.AppendAt
import Derived.OwnWalk
import Derived.Laws.BytesArg
import Derived.Laws.MakeOwn
import Derived.Laws.OwnMore
import Derived.Deep.OwnRows
import Derived.Tactics
import Derived.Lib.ConvBytes
import Derived.Laws.Slices
import Derived.WalkKit
import Derived.KernelRfl
import Derived.RowKit3
import Derived.Deep.LoopGhost
import Derived.Deep.QuietTactic
import Derived.BigQuiet
import Derived.WideLaws
import Derived.Deep.DeepCutAuto
import Derived.Deep.CutBlock
import Derived.Deep.RegionHeld3
import Derived.Laws.Rows
import Derived.Lib.AppendStr
import Derived.ArgAppend
import Derived.Laws.IdiomCopy
import Derived.OrdersHeld
import Derived.Laws.BitsLemmas
import Derived.RowKit
import Derived.Test.YthohohfmdieohaaGreatDoorKFnExactCutAboveW
import Derived.Test.YthohohfmdieohaaGreatDoorJFnExactCutAbove0
import Derived.Test.YthohohfmdieohaaGreatDoorJFnExactCutAbove1
import Derived.Test.YthohohfmdieohaaGreatDoorJFnExactCutAbove2
namespace Go.Proofs.YthohohfmdieohaaGreatDoor.Pp
open Go.RowKit Go.Proofs.YthohohfmdieohaaGreatDoorW.PrintWords Go.Proofs.YthohohfmdieohaaGreatDoorW.PrintLast Go.Proofs.YthohohfmdieohaaGreatDoorW.PrintMore
attribute [local go_sem] max2_int min2_int max_two min_two max_three min_three max_four min_four   -- for this text's walks alone
set_option linter.unusedVariables false
set_option linter.unusedSimpArgs false
set_option maxHeartbeats 8000000
set_option maxRecDepth 100000

section
/-! ### impl_GoodZone: function 113 -/
def impl_GoodZone.f (k : Nat) (a0_0 : ByteArray) (a0_1 : Int) (l0_2 : List (S_Record)) : Option (Bool) := (impl_isCounter.f a0_1).bind fun t661 => (if t661 = true then ((impl_RuleOf.f k a0_0 l0_2).bind fun t662 => (if t662 = 0 then ((impl_at.f k l0_2 a0_0 6).bind fun t663 => (if 0 < (t663.length : Int) then ((impl_serialText.f a0_1).bind fun t667 => (some (((rd_TRecord t663 0).f3).toList == t667.toList))) else (none))) else (some false))) else (some false))
def impl_GoodZone.T1 : Bool × List (List Nat × List Nat) := (true, [([], []), ([0], [0]), ([1], [1]), ([2, 2], [2]), ([3], [3]), ([4, 3], [3, 4]), ([3], [3]), ([6, 3], [3, 6]), ([5, 7, 3, 3], [3, 5, 7]), ([8, 3], [3, 8]), ([3, 9], [3, 9]), ([10, 8], [10]), ([11], [11]), ([12, 11], [11, 12]), ([11], [11]), ([14, 11], [11, 14]), ([13, 15, 11, 11], [11, 13, 15]), ([16, 11], [11, 16]), ([17, 11], [11, 17]), ([18, 11], [11, 18]), ([11], [11]), ([20, 11], [11, 20]), ([21, 16, 11], [11, 21]), ([19, 22, 11], [11, 19, 22]), ([11, 23], [11, 23]), ([24, 22, 0, 1, 2, 3, 4, 5, 6, 7, 8, 9, 10, 11, 12, 13, 14, 15, 16, 17, 18, 19, 20, 21, 22, 23, 24], [24])])
def impl_GoodZone.B1 : List Nat := [0, 1, 3, 7, 15, 31, 15, 79, 255, 511, 1023, 2047, 4095, 8191, 4095, 20479, 65535, 131071, 262143, 524287, 4095, 1052671, 3276799, 8388607, 16777215, 33554431]
theorem impl_GoodZone.tab1 : rtab .any (opsOf Tryz.f113 1) = impl_GoodZone.T1 := by kernel_rfl
theorem impl_GoodZone.bits1 : waitsOk impl_GoodZone.T1.2 impl_GoodZone.B1 = true := by kernel_rfl
theorem impl_GoodZone.calls (k : Nat) (a0_0 : ByteArray) (a0_1 : Int) (A0_2 : Option Addr) (c0_2 : Nat) (l0_2 : List (S_Record)) (r : Bool) (w : World) (hr0_2 : Kd.C k_Record w A0_2 l0_2.length l0_2) (hc0_2 : l0_2.length ≤ c0_2) (hG_ : Glob w) (h : impl_GoodZone.f k a0_0 a0_1 l0_2 = some r) :
  Calls Tryz.prog 113 #[.agg #[.string a0_0, .int .i64 a0_1, .slice A0_2 l0_2.length c0_2]] w fun e w' => e = .returned (.bool r) ∧ Below w.heap.size w w' := by
 have hu83 := Tryz.underlying83
 have HR0_2 := Aside0.mk hr0_2
 have HC0_2 := Aside0.mk hc0_2
 clear hr0_2 hc0_2
 have HGL := Aside0.mk hG_
 clear hG_
 have HB := Aside0.mk (Below.refl w.heap.size w)
 have H : ((impl_isCounter.f a0_1).bind fun t661 => (if t661 = true then ((impl_RuleOf.f k a0_0 l0_2).bind fun t662 => (if t662 = 0 then ((impl_at.f k l0_2 a0_0 6).bind fun t663 => (if 0 < (t663.length : Int) then ((impl_serialText.f a0_1).bind fun t667 => (some (((rd_TRecord t663 0).f3).toList == t667.toList))) else (none))) else (some false))) else (some false))) = some r := h
 clear h
 obtain ⟨t661, A2, H⟩ := bnd H
 by_cases c3 : t661 = true
 ·subst c3
  replace H := ift H
  obtain ⟨t662, A4, H⟩ := bnd H
  by_cases c5 : t662 = 0
  ·rw [if_pos c5] at H
   have c5b0 : (t662 == 0) = true := beq_iff_eq.mpr c5
   have c5b1 : (t662 != 0) = false := bne_eq_false_iff_eq.mpr c5
   clear c5
   obtain ⟨t663, A6, H⟩ := bnd H
   obtain ⟨c7, H⟩ := ifn H
   have c7b0 : decide (0 < (t663.length : Int)) = true := decide_eq_true c7
   have c7b1 : decide (0 < t663.length) = true := decide_eq_true (by omega)
   clear c7
   obtain ⟨t667, A8, H⟩ := bnd H
   obtain rfl := Option.some.inj H
   go_enter Tryz.func113, Tryz.ntmps113
   try go_wp2_with (first | ((with_reducible refine gate_dst (N := 1) rfl ?_); refine bE 1 #[.string a0_0, .int .i64 a0_1, .slice A0_2 l0_2.length c0_2] 83 ?_; intro gb660 hg w9 hbox hb; have BK660 := Aside0.mk (hbox); have GE660 := bG hg; replace HB := BS hb; clear hb hbox hg))
   replace BK660 := Aside0.mk (blk_drew BK660.out)
   replace HB := Aside0.mk (below_drew1 HB.out)
   refine start_ (n := 26) (S := fun w' => w'.cell? ⟨gb660, 0, none⟩ = some (.string a0_0) ∧ w'.cell? ⟨gb660, 1, none⟩ = some (.int .i64 a0_1) ∧ w'.cell? ⟨gb660, 2, none⟩ = some (.slice A0_2 l0_2.length c0_2)) (ds := []) #[false, false, false, false, false, false, false, false, false, false, false, false, false, false, false, false, false, false, false, false, false, false, false, false, false, false] KR rfl rfl ⟨bc 0 BK660, bc 1 BK660, bc 2 BK660⟩ (fun hHeld => ?_); refine with_tabW impl_GoodZone.tab1 impl_GoodZone.bits1 (fun HT_ HW_ => ?_)
   generalize w9.drew = w10 at BK660 HB hHeld ⊢
   refine pA 0 3 (mL 26 1) HT_ rfl rfl ?_
   refine tA 1 4 (mL 26 3) HT_ HW_ hHeld rfl rfl (by rintro w' ⟨s0, s1, s2⟩; go_simp; with_reducible rfl) ?_
   refine one_ (i := 2) (N := some 5) (mL 26 7) rfl rfl (one_of HT_.out KR) (by decide) (fun K hK => ?_)
   refine goes_ Tryz.func78 KR rfl #[.int .i64 a0_1] (by rfl) rfl rfl TA ?_
   with_reducible refine (impl_isCounter.calls a0_1 true _ A2.out).mono ?_
   rintro e w' ⟨rfl, ⟨nd, rfl⟩⟩
   refine ⟨_, rfl, ?_⟩
   refine hK.out _ _ ⟨bc 0 BK660, bc 1 BK660, bc 2 BK660⟩ (fun hHeld => ?_)
   clear hK K
   refine nA ?_
   refine pA 3 6 (mL 26 15) HT_ rfl rfl ?_
   refine pA 4 7 (mL 26 31) HT_ rfl rfl ?_
   refine pA 6 9 (mL 26 95) HT_ rfl rfl ?_
   refine tA 5 8 (mL 26 127) HT_ HW_ hHeld rfl rfl (by rintro w' ⟨s0, s1, s2⟩; go_simp; with_reducible rfl) ?_
   refine tA 7 10 (mL 26 255) HT_ HW_ hHeld rfl rfl (by rintro w' ⟨s0, s1, s2⟩; go_simp; with_reducible rfl) ?_
   refine one_ (i := 8) (N := some 11) (mL 26 511) rfl rfl (one_of HT_.out KR) (by decide) (fun K hK => ?_)
   refine goes_ Tryz.func153 KR rfl #[.string a0_0, .slice A0_2 l0_2.length c0_2] (by rfl) rfl rfl TA ?_
   with_reducible refine (impl_RuleOf.calls k a0_0 _ _ l0_2 t662 _ ?side1 ?side2 ?side3 A4.out).mono ?_
   (case side1 => exact CW ((Kd.C_below HR0_2.out TB)))
   (case side2 => exact HC0_2.out)
   (case side3 => exact GW HGL)
   rintro e w11 ⟨rfl, hb⟩
   refine ⟨_, rfl, ?_⟩
   replace BK660 := KB BK660 hb
   replace HB := BS hb
   (try clear hb)
   (try clear hb2)
   (try clear hk)
   (try clear hi)
   refine hK.out _ _ ⟨bc 0 BK660, bc 1 BK660, bc 2 BK660⟩ (fun hHeld => ?_)
   clear hK K
   refine nA ?_
   refine pA 9 12 (mL 26 1023) HT_ rfl rfl ?_
   refine pA 10 13 (mL 26 2047) HT_ rfl rfl ?_
   refine pA 11 14 (mL 26 4095) HT_ rfl rfl ?_
   refine pA 12 15 (mL 26 8191) HT_ rfl rfl ?_
   refine pA 14 17 (mL 26 24575) HT_ rfl rfl ?_
   refine pA 20 23 (mL 26 1073151) HT_ rfl rfl ?_
   refine tA 13 16 (mL 26 1081343) HT_ HW_ hHeld rfl rfl (by rintro w' ⟨s0, s1, s2⟩; go_simp; with_reducible rfl) ?_
   refine tA 15 18 (mL 26 1114111) HT_ HW_ hHeld rfl rfl (by rintro w' ⟨s0, s1, s2⟩; go_simp; with_reducible rfl) ?_
   refine tA 21 24 (mL 26 3211263) HT_ HW_ hHeld rfl rfl (by rintro w' ⟨s0, s1, s2⟩; go_simp; with_reducible rfl) ?_
   refine one_ (i := 16) (N := some 19) (mL 26 3276799) rfl rfl (one_of HT_.out KR) (by decide) (fun K hK => ?_)
   refine goes_ Tryz.func154 KR rfl #[.slice A0_2 l0_2.length c0_2, .string a0_0, .int .i64 6] (by rfl) rfl rfl TA ?_
   with_reducible refine (impl_at.calls k _ _ l0_2 a0_0 6 t663 _ ?side1 ?side2 A6.out).mono ?_
   (case side1 => exact CW ((Kd.C_below HR0_2.out HB.out)))
   (case side2 => exact HC0_2.out)
   rintro e w12 ⟨v664, rfl, ho0, hb⟩
   refine ⟨_, rfl, ?_⟩
   have HO665 := RL ho0
   replace BK660 := KB BK660 hb
   replace HB := BS hb
   (try clear hb)
   (try clear hb2)
   (try clear hk)
   (try clear hi)
   (try clear ho0)
   obtain ⟨Ao13, co13, eo13⟩ := Kd.R_slice HO665.out
   (first | subst eo13 | (injection eo13 with f1_ f2_ f3_; have f4_ := f1_.symm; have f5_ := f3_.symm; clear f1_ f2_ f3_; subst f4_; subst f5_))
   have p666 : 0 ≤ (0 : Int) := (by omega)
   have q666 : 0 < (t663.length : Int) := TD
   obtain ⟨ad666, e666, hx666_0, hx666_1, hx666_2, hx666_3⟩ := at_TRecord (Kd.R_reads' HO665.out).2.2 0 p666 q666
   cases e666
   have qi666 : (0 < t663.length) = True := eq_true (by omega)
   (try rw [show ((0 : Int)).toNat = 0 from rfl] at hx666_0)
   (try rw [show 0 * 4 = 0 from rfl] at hx666_0)
   (try rw [Addr.add_zero'] at hx666_0)
   (try rw [show ((0 : Int)).toNat = 0 from rfl] at hx666_1)
   (try rw [show 0 * 4 = 0 from rfl] at hx666_1)
   (try rw [Addr.add_zero'] at hx666_1)
   (try rw [show ((0 : Int)).toNat = 0 from rfl] at hx666_2)
   (try rw [show 0 * 4 = 0 from rfl] at hx666_2)
   (try rw [Addr.add_zero'] at hx666_2)
   (try rw [show ((0 : Int)).toNat = 0 from rfl] at hx666_3)
   (try rw [show 0 * 4 = 0 from rfl] at hx666_3)
   (try rw [Addr.add_zero'] at hx666_3)
   replace p666 := eq_true p666
   replace q666 := eq_true q666
   refine hK.out _ _ ⟨bc 0 BK660, bc 1 BK660, bc 2 BK660⟩ (fun hHeld => ?_)
   clear hK K
   refine nA ?_
   refine more_ (fun w' => w'.cell? ⟨gb660, 0, none⟩ = some (.string a0_0) ∧ w'.cell? ⟨gb660, 1, none⟩ = some (.int .i64 a0_1) ∧ w'.cell? ⟨gb660, 2, none⟩ = some (.slice A0_2 l0_2.length c0_2) ∧ w'.cell? ad666 = some (.string ((rd_TRecord t663 0).f0)) ∧ w'.cell? ⟨ad666.block, ad666.off + 1, none⟩ = some (.int .i64 ((rd_TRecord t663 0).f1)) ∧ w'.cell? ⟨ad666.block, ad666.off + 2, none⟩ = some (.int .i64 ((rd_TRecord t663 0).f2)) ∧ w'.cell? ⟨ad666.block, ad666.off + 3, none⟩ = some (.string ((rd_TRecord t663 0).f3))) (fun w' h => ⟨h.1, h.2.1, h.2.2.1⟩) ⟨bc 0 BK660, bc 1 BK660, bc 2 BK660, hx666_0, hx666_1, hx666_2, hx666_3⟩ (fun hHeld => ?_)
   refine pA 17 20 (mL 26 3407871) HT_ rfl rfl ?_
   refine pA 18 21 (mL 26 3670015) HT_ rfl rfl ?_
   refine tA 19 22 (mL 26 4194303) HT_ HW_ hHeld rfl rfl (by rintro w' ⟨s0, s1, s2, s3, s4, s5, s6⟩; go_simp; with_reducible rfl) ?_
   refine one_ (i := 22) (N := some 25) (mL 26 8388607) rfl rfl (one_of HT_.out KR) (by decide) (fun K hK => ?_)
   refine goes_ Tryz.func155 KR rfl #[.int .i64 a0_1] (by rfl) rfl rfl TA ?_
   with_reducible refine (impl_serialText.calls a0_1 t667 _ ?side1 A8.out).mono ?_
   (case side1 => exact GW HGL)
   rintro e w14 ⟨rfl, hb⟩
   have HS3_ := (hb.cell (World.block_lt_of_cell? _ _ (hHeld.2.2.2.1))).trans (hHeld.2.2.2.1)
   have HS4_ := (hb.cell (World.block_lt_of_cell? _ _ (hHeld.2.2.2.2.1))).trans (hHeld.2.2.2.2.1)
   have HS5_ := (hb.cell (World.block_lt_of_cell? _ _ (hHeld.2.2.2.2.2.1))).trans (hHeld.2.2.2.2.2.1)
   have HS6_ := (hb.cell (World.block_lt_of_cell? _ _ (hHeld.2.2.2.2.2.2))).trans (hHeld.2.2.2.2.2.2)
   refine ⟨_, rfl, ?_⟩
   replace HO665 := RB HO665 hb
   replace BK660 := KB BK660 hb
   replace HB := BS hb
   (try clear hb)
   (try clear hb2)
   (try clear hk)
   (try clear hi)
   refine hK.out _ _ ⟨bc 0 BK660, bc 1 BK660, bc 2 BK660, HS3_, HS4_, HS5_, HS6_⟩ (fun hHeld => ?_)
   clear hK K
   refine nA ?_
   refine pA 23 26 (mL 26 16777215) HT_ rfl rfl ?_
   refine pA 24 27 (mL 26 33554431) HT_ rfl rfl ?_
   refine pA 25 2 (mL 26 67108863) HT_ rfl rfl ?_
   refine done_ (done_of HT_.out KR) ?_
   try go_wp2
   go_ret
   exact ⟨TE, TB⟩
  ·rw [if_neg c5] at H
   have c5b0 : (t662 == 0) = false := beq_eq_false_iff_ne.mpr c5
   have c5b1 : (t662 != 0) = true := bne_iff_ne.mpr c5
   obtain rfl := Option.some.inj H
   go_enter Tryz.func113, Tryz.ntmps113
   try go_wp2_with (first | ((with_reducible refine gate_dst (N := 1) rfl ?_); refine bE 1 #[.string a0_0, .int .i64 a0_1, .slice A0_2 l0_2.length c0_2] 83 ?_; intro gb660 hg w15 hbox hb; have BK660 := Aside0.mk (hbox); have GE660 := bG hg; replace HB := BS hb; clear hb hbox hg))
   replace BK660 := Aside0.mk (blk_drew BK660.out)
   replace HB := Aside0.mk (below_drew1 HB.out)
   refine start_ (n := 26) (S := fun w' => w'.cell? ⟨gb660, 0, none⟩ = some (.string a0_0) ∧ w'.cell? ⟨gb660, 1, none⟩ = some (.int .i64 a0_1) ∧ w'.cell? ⟨gb660, 2, none⟩ = some (.slice A0_2 l0_2.length c0_2)) (ds := []) #[false, false, false, false, false, false, false, false, false, false, false, false, false, false, false, false, false, false, false, false, false, false, false, false, false, false] KR rfl rfl ⟨bc 0 BK660, bc 1 BK660, bc 2 BK660⟩ (fun hHeld => ?_); refine with_tabW impl_GoodZone.tab1 impl_GoodZone.bits1 (fun HT_ HW_ => ?_)
   generalize w15.drew = w16 at BK660 HB hHeld ⊢
   refine pA 0 3 (mL 26 1) HT_ rfl rfl ?_
   refine tA 1 4 (mL 26 3) HT_ HW_ hHeld rfl rfl (by rintro w' ⟨s0, s1, s2⟩; go_simp; with_reducible rfl) ?_
   refine one_ (i := 2) (N := some 5) (mL 26 7) rfl rfl (one_of HT_.out KR) (by decide) (fun K hK => ?_)
   refine goes_ Tryz.func78 KR rfl #[.int .i64 a0_1] (by rfl) rfl rfl TA ?_
   with_reducible refine (impl_isCounter.calls a0_1 true _ A2.out).mono ?_
   rintro e w' ⟨rfl, ⟨nd, rfl⟩⟩
   refine ⟨_, rfl, ?_⟩
   refine hK.out _ _ ⟨bc 0 BK660, bc 1 BK660, bc 2 BK660⟩ (fun hHeld => ?_)
   clear hK K
   refine nA ?_
   refine pA 3 6 (mL 26 15) HT_ rfl rfl ?_
   refine pA 4 7 (mL 26 31) HT_ rfl rfl ?_
   refine pA 6 9 (mL 26 95) HT_ rfl rfl ?_
   refine tA 5 8 (mL 26 127) HT_ HW_ hHeld rfl rfl (by rintro w' ⟨s0, s1, s2⟩; go_simp; with_reducible rfl) ?_
   refine tA 7 10 (mL 26 255) HT_ HW_ hHeld rfl rfl (by rintro w' ⟨s0, s1, s2⟩; go_simp; with_reducible rfl) ?_
   refine one_ (i := 8) (N := some 11) (mL 26 511) rfl rfl (one_of HT_.out KR) (by decide) (fun K hK => ?_)
   refine goes_ Tryz.func153 KR rfl #[.string a0_0, .slice A0_2 l0_2.length c0_2] (by rfl) rfl rfl TA ?_
   with_reducible refine (impl_RuleOf.calls k a0_0 _ _ l0_2 t662 _ ?side1 ?side2 ?side3 A4.out).mono ?_
   (case side1 => exact CW ((Kd.C_below HR0_2.out TB)))
   (case side2 => exact HC0_2.out)
   (case side3 => exact GW HGL)
   rintro e w17 ⟨rfl, hb⟩
   refine ⟨_, rfl, ?_⟩
   replace BK660 := KB BK660 hb
   replace HB := BS hb
   (try clear hb)
   (try clear hb2)
   (try clear hk)
   (try clear hi)
   refine hK.out _ _ ⟨bc 0 BK660, bc 1 BK660, bc 2 BK660⟩ (fun hHeld => ?_)
   clear hK K
   refine nA ?_
   refine pA 9 12 (mL 26 1023) HT_ rfl rfl ?_
   refine pA 10 13 (mL 26 2047) HT_ rfl rfl ?_
   refine pA 11 14 (mL 26 4095) HT_ rfl rfl ?_
   refine pU 12 15 (mL 26 8191) HT_ rfl rfl ?_
   refine pU 13 16 (mL 26 16383) HT_ rfl rfl ?_
   refine pU 14 17 (mL 26 32767) HT_ rfl rfl ?_
   refine pU 15 18 (mL 26 65535) HT_ rfl rfl ?_
   refine pU 16 19 (mL 26 131071) HT_ rfl rfl ?_
   refine pU 17 20 (mL 26 262143) HT_ rfl rfl ?_
   refine pU 18 21 (mL 26 524287) HT_ rfl rfl ?_
   refine pU 19 22 (mL 26 1048575) HT_ rfl rfl ?_
   refine pU 20 23 (mL 26 2097151) HT_ rfl rfl ?_
   refine pU 21 24 (mL 26 4194303) HT_ rfl rfl ?_
   refine pU 22 25 (mL 26 8388607) HT_ rfl rfl ?_
   refine pU 23 26 (mL 26 16777215) HT_ rfl rfl ?_
   refine pA 24 27 (mL 26 33554431) HT_ rfl rfl ?_
   refine pA 25 2 (mL 26 67108863) HT_ rfl rfl ?_
   refine done_ (done_of HT_.out KR) ?_
   try go_wp2
   go_ret
   exact ⟨TE, TB⟩
 ·replace c3 := Bool.eq_false_iff.mpr c3
  subst c3
  replace H := iff' H
  obtain rfl := Option.some.inj H
  go_enter Tryz.func113, Tryz.ntmps113
  try go_wp2_with (first | ((with_reducible refine gate_dst (N := 1) rfl ?_); refine bE 1 #[.string a0_0, .int .i64 a0_1, .slice A0_2 l0_2.length c0_2] 83 ?_; intro gb660 hg w18 hbox hb; have BK660 := Aside0.mk (hbox); have GE660 := bG hg; replace HB := BS hb; clear hb hbox hg))
  replace BK660 := Aside0.mk (blk_drew BK660.out)
  replace HB := Aside0.mk (below_drew1 HB.out)
  refine start_ (n := 26) (S := fun w' => w'.cell? ⟨gb660, 0, none⟩ = some (.string a0_0) ∧ w'.cell? ⟨gb660, 1, none⟩ = some (.int .i64 a0_1) ∧ w'.cell? ⟨gb660, 2, none⟩ = some (.slice A0_2 l0_2.length c0_2)) (ds := []) #[false, false, false, false, false, false, false, false, false, false, false, false, false, false, false, false, false, false, false, false, false, false, false, false, false, false] KR rfl rfl ⟨bc 0 BK660, bc 1 BK660, bc 2 BK660⟩ (fun hHeld => ?_); refine with_tabW impl_GoodZone.tab1 impl_GoodZone.bits1 (fun HT_ HW_ => ?_)
  generalize w18.drew = w19 at BK660 HB hHeld ⊢
  refine pA 0 3 (mL 26 1) HT_ rfl rfl ?_
  refine tA 1 4 (mL 26 3) HT_ HW_ hHeld rfl rfl (by rintro w' ⟨s0, s1, s2⟩; go_simp; with_reducible rfl) ?_
  refine one_ (i := 2) (N := some 5) (mL 26 7) rfl rfl (one_of HT_.out KR) (by decide) (fun K hK => ?_)
  refine goes_ Tryz.func78 KR rfl #[.int .i64 a0_1] (by rfl) rfl rfl TA ?_
  with_reducible refine (impl_isCounter.calls a0_1 false _ A2.out).mono ?_
  rintro e w' ⟨rfl, ⟨nd, rfl⟩⟩
  refine ⟨_, rfl, ?_⟩
  refine hK.out _ _ ⟨bc 0 BK660, bc 1 BK660, bc 2 BK660⟩ (fun hHeld => ?_)
  clear hK K
  refine nA ?_
  refine pA 3 6 (mL 26 15) HT_ rfl rfl ?_
  refine pU 4 7 (mL 26 31) HT_ rfl rfl ?_
  refine pU 5 8 (mL 26 63) HT_ rfl rfl ?_
  refine pU 6 9 (mL 26 127) HT_ rfl rfl ?_
  refine pU 7 10 (mL 26 255) HT_ rfl rfl ?_
  refine pU 8 11 (mL 26 511) HT_ rfl rfl ?_
  refine pU 9 12 (mL 26 1023) HT_ rfl rfl ?_
  refine pA 10 13 (mL 26 2047) HT_ rfl rfl ?_
  refine pA 11 14 (mL 26 4095) HT_ rfl rfl ?_
  refine pU 12 15 (mL 26 8191) HT_ rfl rfl ?_
  refine pU 13 16 (mL 26 16383) HT_ rfl rfl ?_
  refine pU 14 17 (mL 26 32767) HT_ rfl rfl ?_
  refine pU 15 18 (mL 26 65535) HT_ rfl rfl ?_
  refine pU 16 19 (mL 26 131071) HT_ rfl rfl ?_
  refine pU 17 20 (mL 26 262143) HT_ rfl rfl ?_
  refine pU 18 21 (mL 26 524287) HT_ rfl rfl ?_
  refine pU 19 22 (mL 26 1048575) HT_ rfl rfl ?_
  refine pU 20 23 (mL 26 2097151) HT_ rfl rfl ?_
  refine pU 21 24 (mL 26 4194303) HT_ rfl rfl ?_
  refine pU 22 25 (mL 26 8388607) HT_ rfl rfl ?_
  refine pU 23 26 (mL 26 16777215) HT_ rfl rfl ?_
  refine pA 24 27 (mL 26 33554431) HT_ rfl rfl ?_
  refine pA 25 2 (mL 26 67108863) HT_ rfl rfl ?_
  refine done_ (done_of HT_.out KR) ?_
  try go_wp2
  go_ret
  exact ⟨TE, TB⟩
end
section
/-! ### impl_parentOf: function 159 -/
def impl_parentOf.f (a0 : ByteArray) : Option (ByteArray) := (strings_Cut.f a0 (⟨#[46]⟩ : ByteArray)).bind fun bt668 => (some bt668.2.1)
theorem impl_parentOf.calls (a0 : ByteArray) (r : ByteArray) (w : World) (h : impl_parentOf.f a0 = some r) :
  Calls Tryz.prog 159 #[.string a0] w fun e w' => e = .returned (.string r) ∧ Drawn0 w w' := by
 have H : ((strings_Cut.f a0 (⟨#[46]⟩ : ByteArray)).bind fun bt668 => (some bt668.2.1)) = some r := h
 clear h
 obtain ⟨⟨t668, t669, t670⟩, A2, H⟩ := bnd H
 try dsimp only at H
 obtain rfl := Option.some.inj H
 go_enter Tryz.func159, Tryz.ntmps159
 go_wp2_with (first | ((with_reducible refine gate_callee (f := 182) rfl ?_); refine goesL_ (some 8) rfl rfl Tryz.func182 KR rfl #[.string a0, .string (⟨#[46]⟩ : ByteArray)] rfl TA ?_; (with_reducible refine (strings_Cut.calls a0 (⟨#[46]⟩ : ByteArray) t668 t669 t670 _ A2.out).mono ?_); rintro e w' ⟨rfl, ⟨nd, rfl⟩⟩; refine ⟨_, rfl, ?_⟩))
 go_ret
 exact ⟨TF, TN⟩
end
section
/-! ### impl_cutAbove: function 116 -/
def impl_cutAbove.l0 : Nat → ByteArray → ByteArray → Bool → ByteArray → Int → List (S_Record) → Option (ByteArray × Bool)
 | 0, _, _, _, _, _, _ => none
 | k + 1, x1, x6, x7, x672000, x672001, x672002 => if x1.toList = x672000.toList then (some (x6, x7)) else ((impl_at.f k x672002 x1 2).bind fun t672 => (if (t672.length : Int) > 0 then ((impl_parentOf.f x1).bind fun t675 => (impl_cutAbove.l0 k t675 x1 true x672000 x672001 x672002)) else ((impl_parentOf.f x1).bind fun t676 => (impl_cutAbove.l0 k t676 x6 x7 x672000 x672001 x672002))))
def impl_cutAbove.f (k : Nat) (a0_0 : ByteArray) (a0_1 : Int) (l0_2 : List (S_Record)) (a1 : ByteArray) : Option (ByteArray × Bool) := impl_cutAbove.l0 k a1 (⟨#[]⟩ : ByteArray) false a0_0 a0_1 l0_2
theorem impl_cutAbove.calls (k : Nat) (a0_0 : ByteArray) (a0_1 : Int) (A0_2 : Option Addr) (c0_2 : Nat) (l0_2 : List (S_Record)) (a1 : ByteArray) (r1 : ByteArray) (r2 : Bool) (w : World) (hr0_2 : Kd.C k_Record w A0_2 l0_2.length l0_2) (hc0_2 : l0_2.length ≤ c0_2) (h : impl_cutAbove.f k a0_0 a0_1 l0_2 a1 = some (r1, r2)) :
  Calls Tryz.prog 116 #[.agg #[.string a0_0, .int .i64 a0_1, .slice A0_2 l0_2.length c0_2], .string a1] w fun e w' => e = .returned (.tuple #[.string r1, .bool r2]) ∧ Below w.heap.size w w' := by
 have hu83 := Tryz.underlying83
 have HR0_2 := Aside0.mk hr0_2
 have HC0_2 := Aside0.mk hc0_2
 clear hr0_2 hc0_2
 have HB := Aside0.mk (Below.refl w.heap.size w)
 have H : (impl_cutAbove.l0 k a1 (⟨#[]⟩ : ByteArray) false a0_0 a0_1 l0_2) = some (r1, r2) := h
 clear h
 have H' := Aside0.mk H
 clear H
 go_enter Tryz.func116, Tryz.ntmps116
 go_wp2_with (first | ((with_reducible refine gate_dst (N := 2) rfl ?_); refine bE 2 #[.string a0_0, .int .i64 a0_1, .slice A0_2 l0_2.length c0_2] 83 ?_; intro gb671 hg w3 hbox hb; have BK671 := Aside0.mk (hbox); have GE671 := bG hg; replace HB := BS hb; clear hb hbox hg))
 go_loopg [1, 6, 7] k (fun kq v1 v6 v7 w' => ∃ (x1_1 : ByteArray) (x6_1 : ByteArray) (x7_1 : Bool), v1 = .string x1_1 ∧ v6 = .string x6_1 ∧ v7 = .bool x7_1 ∧ Aside0 (impl_cutAbove.l0 kq x1_1 x6_1 x7_1 a0_0 a0_1 l0_2 = some (r1, r2)) ∧ Aside0 (kq ≤ k) ∧ Aside0 (w'.heap[gb671]? = some (.cells #[.string a0_0, .int .i64 a0_1, (.slice A0_2 l0_2.length c0_2)] 83 (0, 0))) ∧ Aside0 (Below w.heap.size w w'))
 case atStart => exact ⟨(a1), ((⟨#[]⟩ : ByteArray)), (false), TF, TF, TF, H', ⟨Nat.le_refl _⟩, KW BK671, ⟨TB⟩⟩
 case round =>
  clear H'
  try clear c1
  try clear p2
  obtain ⟨x1_1, x6_1, x7_1, rfl, rfl, rfl, HA, HK1, BK671, HB⟩ := hrel
  cases gk with
  | zero => exact absurd HA.out (by simp [impl_cutAbove.l0])
  | succ k1 =>
   have H := HA.out
   clear HA
   simp only [impl_cutAbove.l0] at H
   by_cases c4 : x1_1.toList = a0_0.toList
   ·rw [if_pos c4] at H
    have c4b0 : (x1_1.toList == a0_0.toList) = true := beq_iff_eq.mpr c4
    have c4b1 : (x1_1.toList != a0_0.toList) = false := bne_eq_false_iff_eq.mpr c4
    clear c4
    simp only [Option.some.injEq, Prod.mk.injEq] at H
    obtain ⟨rfl, rfl⟩ := H
    have hcz5 := cz3 BK671
    go_wp2
    go_ret2
    exact ⟨TE, TB⟩
   ·rw [if_neg c4] at H
    have c4b0 : (x1_1.toList == a0_0.toList) = false := beq_eq_false_iff_ne.mpr c4
    have c4b1 : (x1_1.toList != a0_0.toList) = true := bne_iff_ne.mpr c4
    obtain ⟨t672, A6, H⟩ := bnd H
    by_cases c7 : (t672.length : Int) > 0
    ·rw [if_pos c7] at H
     have c7b0 : decide (0 < (t672.length : Int)) = true := decide_eq_true c7
     have c7b1 : decide (0 < t672.length) = true := decide_eq_true (by omega)
     clear c7
     obtain ⟨t675, A8, H⟩ := bnd H
     have H' := Aside0.mk H
     clear H
     have hcz9 := cz3 BK671
     go_wp2_with (first | ((with_reducible refine gate_callee (f := 154) rfl ?_); refine goesL_ (some 17) rfl rfl Tryz.func154 KR rfl #[.slice A0_2 l0_2.length c0_2, .string x1_1, .int .i64 2] rfl TA ?_; (with_reducible refine (impl_at.calls k1 _ _ l0_2 x1_1 2 t672 _ ?side1 ?side2 A6.out).mono ?_); (case side1 => exact CW ((Kd.C_below HR0_2.out HB.out))); (case side2 => exact HC0_2.out); rintro e w10 ⟨v673, rfl, ho0, hb⟩; refine ⟨_, rfl, ?_⟩; have HO674 := RL ho0; replace BK671 := KB BK671 hb; replace HB := BS hb; (try clear hb); (try clear hb2); (try clear hk); (try clear hi); (try clear ho0); obtain ⟨Ao11, co11, eo11⟩ := Kd.R_slice HO674.out; subst eo11) | ((with_reducible refine gate_callee (f := 159) rfl ?_); refine goesL_ (some 13) rfl rfl Tryz.func159 KR rfl #[.string x1_1] rfl TA ?_; (with_reducible refine (impl_parentOf.calls x1_1 t675 _ A8.out).mono ?_); rintro e w' ⟨rfl, ⟨nd, rfl⟩⟩; refine ⟨_, rfl, ?_⟩))
     go_roundg k1
     case measure => have := HK1.out; omega
     case rel => exact ⟨(t675), (x1_1), (true), TF, TF, TF, H', ⟨TM⟩, KW BK671, ⟨TB⟩⟩
    ·rw [if_neg c7] at H
     have c7b0 : decide (0 < (t672.length : Int)) = false := decide_eq_false c7
     have c7b1 : decide (0 < t672.length) = false := decide_eq_false (by omega)
     clear c7
     obtain ⟨t676, A12, H⟩ := bnd H
     have H' := Aside0.mk H
     clear H
     have hcz13 := cz3 BK671
     go_wp2_with (first | ((with_reducible refine gate_callee (f := 154) rfl ?_); refine goesL_ (some 17) rfl rfl Tryz.func154 KR rfl #[.slice A0_2 l0_2.length c0_2, .string x1_1, .int .i64 2] rfl TA ?_; (with_reducible refine (impl_at.calls k1 _ _ l0_2 x1_1 2 t672 _ ?side1 ?side2 A6.out).mono ?_); (case side1 => exact CW ((Kd.C_below HR0_2.out HB.out))); (case side2 => exact HC0_2.out); rintro e w14 ⟨v673, rfl, ho0, hb⟩; refine ⟨_, rfl, ?_⟩; have HO674 := RL ho0; replace BK671 := KB BK671 hb; replace HB := BS hb; (try clear hb); (try clear hb2); (try clear hk); (try clear hi); (try clear ho0); obtain ⟨Ao15, co15, eo15⟩ := Kd.R_slice HO674.out; subst eo15) | ((with_reducible refine gate_callee (f := 159) rfl ?_); refine goesL_ (some 13) rfl rfl Tryz.func159 KR rfl #[.string x1_1] rfl TA ?_; (with_reducible refine (impl_parentOf.calls x1_1 t676 _ A12.out).mono ?_); rintro e w' ⟨rfl, ⟨nd, rfl⟩⟩; refine ⟨_, rfl, ?_⟩))
     go_roundg k1
     case measure => have := HK1.out; omega
     case rel => exact ⟨(t676), (x6_1), (x7_1), TF, TF, TF, H', ⟨TM⟩, KW BK671, ⟨TB⟩⟩
end
section
/-! ### impl_CutAbove: function 59 -/
def impl_CutAbove.f (k : Nat) (a0_0 : ByteArray) (a0_1 : Int) (l0_2 : List (S_Record)) (a1 : ByteArray) : Option (ByteArray × Bool) := (impl_GoodZone.f k a0_0 a0_1 l0_2).bind fun t678 => (if t678 = true then ((impl_GoodName.f k a1).bind fun t679 => (if t679 = true then ((impl_isBelow.f a1 a0_0).bind fun t680 => (if t680 = true then ((impl_cutAbove.f k a0_0 a0_1 l0_2 a1).bind fun bt681 => (some (bt681.1, bt681.2))) else (some ((⟨#[]⟩ : ByteArray), false)))) else (some ((⟨#[]⟩ : ByteArray), false)))) else (some ((⟨#[]⟩ : ByteArray), false)))
theorem impl_CutAbove.calls (k : Nat) (a0_0 : ByteArray) (a0_1 : Int) (A0_2 : Option Addr) (c0_2 : Nat) (l0_2 : List (S_Record)) (a1 : ByteArray) (r1 : ByteArray) (r2 : Bool) (w : World) (hr0_2 : Kd.C k_Record w A0_2 l0_2.length l0_2) (hc0_2 : l0_2.length ≤ c0_2) (hG_ : Glob w) (h : impl_CutAbove.f k a0_0 a0_1 l0_2 a1 = some (r1, r2)) :
  Calls Tryz.prog 59 #[.agg #[.string a0_0, .int .i64 a0_1, .slice A0_2 l0_2.length c0_2], .string a1] w fun e w' => e = .returned (.tuple #[.string r1, .bool r2]) ∧ Below w.heap.size w w' := by
 have hu83 := Tryz.underlying83
 have HR0_2 := Aside0.mk hr0_2
 have HC0_2 := Aside0.mk hc0_2
 clear hr0_2 hc0_2
 have HGL := Aside0.mk hG_
 clear hG_
 have HB := Aside0.mk (Below.refl w.heap.size w)
 have H : ((impl_GoodZone.f k a0_0 a0_1 l0_2).bind fun t678 => (if t678 = true then ((impl_GoodName.f k a1).bind fun t679 => (if t679 = true then ((impl_isBelow.f a1 a0_0).bind fun t680 => (if t680 = true then ((impl_cutAbove.f k a0_0 a0_1 l0_2 a1).bind fun bt681 => (some (bt681.1, bt681.2))) else (some ((⟨#[]⟩ : ByteArray), false)))) else (some ((⟨#[]⟩ : ByteArray), false)))) else (some ((⟨#[]⟩ : ByteArray), false)))) = some (r1, r2) := h
 clear h
 obtain ⟨t678, A3, H⟩ := bnd H
 by_cases c4 : t678 = true
 ·subst c4
  replace H := ift H
  obtain ⟨t679, A5, H⟩ := bnd H
  by_cases c6 : t679 = true
  ·subst c6
   replace H := ift H
   obtain ⟨t680, A7, H⟩ := bnd H
   by_cases c8 : t680 = true
   ·subst c8
    replace H := ift H
    obtain ⟨⟨t681, t682⟩, A9, H⟩ := bnd H
    try dsimp only at H
    simp only [Option.some.injEq, Prod.mk.injEq] at H
    obtain ⟨rfl, rfl⟩ := H
    go_enter Tryz.func59, Tryz.ntmps59
    go_wp2_with (first | ((with_reducible refine gate_dst (N := 2) rfl ?_); refine bE 2 #[.string a0_0, .int .i64 a0_1, .slice A0_2 l0_2.length c0_2] 83 ?_; intro gb677 hg w10 hbox hb; have BK677 := Aside0.mk (hbox); have GE677 := bG hg; replace HB := BS hb; clear hb hbox hg; have hcz11 := cz3 BK677) | ((with_reducible refine gate_callee (f := 113) rfl ?_); refine goesL_ (some 7) rfl rfl Tryz.func113 KR rfl #[.agg #[.string a0_0, .int .i64 a0_1, .slice A0_2 l0_2.length c0_2]] rfl TA ?_; (with_reducible refine (impl_GoodZone.calls k a0_0 a0_1 _ _ l0_2 true _ ?side1 ?side2 ?side3 A3.out).mono ?_); (case side1 => exact CW ((Kd.C_below HR0_2.out HB.out))); (case side2 => exact HC0_2.out); (case side3 => exact GW HGL); rintro e w12 ⟨rfl, hb⟩; refine ⟨_, rfl, ?_⟩; replace BK677 := KB BK677 hb; replace HB := BS hb; (try clear hb); (try clear hb2); (try clear hk); (try clear hi)) | (go_at_call 77; (with_reducible refine (impl_GoodName.calls k a1 true _ A5.out).mono ?_); rintro e w13 ⟨rfl, hb⟩; replace BK677 := KB BK677 hb; replace HB := BS hb; (try clear hb); (try clear hb2); (try clear hk); (try clear hi); have hcz14 := cz3 BK677) | (go_at_call 110; (with_reducible refine (impl_isBelow.calls a1 a0_0 true _ A7.out).mono ?_); rintro e w' ⟨rfl, ⟨nd, rfl⟩⟩) | ((with_reducible refine gate_callee (f := 116) rfl ?_); refine goesL_ (some 23) rfl rfl Tryz.func116 KR rfl #[.agg #[.string a0_0, .int .i64 a0_1, .slice A0_2 l0_2.length c0_2], .string a1] rfl TA ?_; (with_reducible refine (impl_cutAbove.calls k a0_0 a0_1 _ _ l0_2 a1 t681 t682 _ ?side1 ?side2 A9.out).mono ?_); (case side1 => exact CW ((Kd.C_below HR0_2.out TB))); (case side2 => exact HC0_2.out); rintro e w15 ⟨rfl, hb⟩; refine ⟨_, rfl, ?_⟩; replace BK677 := KB BK677 hb; replace HB := BS hb; (try clear hb); (try clear hb2); (try clear hk); (try clear hi)))
    go_ret2
    exact ⟨TE, TB⟩
   ·replace c8 := Bool.eq_false_iff.mpr c8
    subst c8
    replace H := iff' H
    simp only [Option.some.injEq, Prod.mk.injEq] at H
    obtain ⟨rfl, rfl⟩ := H
    go_enter Tryz.func59, Tryz.ntmps59
    go_wp2_with (first | ((with_reducible refine gate_dst (N := 2) rfl ?_); refine bE 2 #[.string a0_0, .int .i64 a0_1, .slice A0_2 l0_2.length c0_2] 83 ?_; intro gb677 hg w16 hbox hb; have BK677 := Aside0.mk (hbox); have GE677 := bG hg; replace HB := BS hb; clear hb hbox hg; have hcz17 := cz3 BK677) | ((with_reducible refine gate_callee (f := 113) rfl ?_); refine goesL_ (some 7) rfl rfl Tryz.func113 KR rfl #[.agg #[.string a0_0, .int .i64 a0_1, .slice A0_2 l0_2.length c0_2]] rfl TA ?_; (with_reducible refine (impl_GoodZone.calls k a0_0 a0_1 _ _ l0_2 true _ ?side1 ?side2 ?side3 A3.out).mono ?_); (case side1 => exact CW ((Kd.C_below HR0_2.out HB.out))); (case side2 => exact HC0_2.out); (case side3 => exact GW HGL); rintro e w18 ⟨rfl, hb⟩; refine ⟨_, rfl, ?_⟩; replace BK677 := KB BK677 hb; replace HB := BS hb; (try clear hb); (try clear hb2); (try clear hk); (try clear hi)) | (go_at_call 77; (with_reducible refine (impl_GoodName.calls k a1 true _ A5.out).mono ?_); rintro e w19 ⟨rfl, hb⟩; replace BK677 := KB BK677 hb; replace HB := BS hb; (try clear hb); (try clear hb2); (try clear hk); (try clear hi); have hcz20 := cz3 BK677) | (go_at_call 110; (with_reducible refine (impl_isBelow.calls a1 a0_0 false _ A7.out).mono ?_); rintro e w' ⟨rfl, ⟨nd, rfl⟩⟩))
    go_ret2
    exact ⟨TE, TB⟩
  ·replace c6 := Bool.eq_false_iff.mpr c6
   subst c6
   replace H := iff' H
   simp only [Option.some.injEq, Prod.mk.injEq] at H
   obtain ⟨rfl, rfl⟩ := H
   go_enter Tryz.func59, Tryz.ntmps59
   go_wp2_with (first | ((with_reducible refine gate_dst (N := 2) rfl ?_); refine bE 2 #[.string a0_0, .int .i64 a0_1, .slice A0_2 l0_2.length c0_2] 83 ?_; intro gb677 hg w21 hbox hb; have BK677 := Aside0.mk (hbox); have GE677 := bG hg; replace HB := BS hb; clear hb hbox hg; have hcz22 := cz3 BK677) | ((with_reducible refine gate_callee (f := 113) rfl ?_); refine goesL_ (some 7) rfl rfl Tryz.func113 KR rfl #[.agg #[.string a0_0, .int .i64 a0_1, .slice A0_2 l0_2.length c0_2]] rfl TA ?_; (with_reducible refine (impl_GoodZone.calls k a0_0 a0_1 _ _ l0_2 true _ ?side1 ?side2 ?side3 A3.out).mono ?_); (case side1 => exact CW ((Kd.C_below HR0_2.out HB.out))); (case side2 => exact HC0_2.out); (case side3 => exact GW HGL); rintro e w23 ⟨rfl, hb⟩; refine ⟨_, rfl, ?_⟩; replace BK677 := KB BK677 hb; replace HB := BS hb; (try clear hb); (try clear hb2); (try clear hk); (try clear hi)) | (go_at_call 77; (with_reducible refine (impl_GoodName.calls k a1 false _ A5.out).mono ?_); rintro e w24 ⟨rfl, hb⟩; replace BK677 := KB BK677 hb; replace HB := BS hb; (try clear hb); (try clear hb2); (try clear hk); (try clear hi)))
   go_ret2
   exact ⟨TE, TB⟩
 ·replace c4 := Bool.eq_false_iff.mpr c4
  subst c4
  replace H := iff' H
  simp only [Option.some.injEq, Prod.mk.injEq] at H
  obtain ⟨rfl, rfl⟩ := H
  go_enter Tryz.func59, Tryz.ntmps59
  go_wp2_with (first | ((with_reducible refine gate_dst (N := 2) rfl ?_); refine bE 2 #[.string a0_0, .int .i64 a0_1, .slice A0_2 l0_2.length c0_2] 83 ?_; intro gb677 hg w25 hbox hb; have BK677 := Aside0.mk (hbox); have GE677 := bG hg; replace HB := BS hb; clear hb hbox hg; have hcz26 := cz3 BK677) | ((with_reducible refine gate_callee (f := 113) rfl ?_); refine goesL_ (some 7) rfl rfl Tryz.func113 KR rfl #[.agg #[.string a0_0, .int .i64 a0_1, .slice A0_2 l0_2.length c0_2]] rfl TA ?_; (with_reducible refine (impl_GoodZone.calls k a0_0 a0_1 _ _ l0_2 false _ ?side1 ?side2 ?side3 A3.out).mono ?_); (case side1 => exact CW ((Kd.C_below HR0_2.out HB.out))); (case side2 => exact HC0_2.out); (case side3 => exact GW HGL); rintro e w27 ⟨rfl, hb⟩; refine ⟨_, rfl, ?_⟩; replace BK677 := KB BK677 hb; replace HB := BS hb; (try clear hb); (try clear hb2); (try clear hk); (try clear hi)))
  go_ret2
  exact ⟨TE, TB⟩
end
section
/-! ### laws_eqRecord: function 124 -/
def laws_eqRecord.f (a0_0 : ByteArray) (a0_1 : Int) (a0_2 : Int) (a0_3 : ByteArray) (a1_0 : ByteArray) (a1_1 : Int) (a1_2 : Int) (a1_3 : ByteArray) : Option (Bool) := if a0_0.toList = a1_0.toList then (if a0_1 = a1_1 then (if a0_2 = a1_2 then (if a0_3.toList = a1_3.toList then (some true) else (some false)) else (some false)) else (some false)) else (some false)
theorem laws_eqRecord.calls (a0_0 : ByteArray) (a0_1 : Int) (a0_2 : Int) (a0_3 : ByteArray) (a1_0 : ByteArray) (a1_1 : Int) (a1_2 : Int) (a1_3 : ByteArray) (r : Bool) (w : World) (h : laws_eqRecord.f a0_0 a0_1 a0_2 a0_3 a1_0 a1_1 a1_2 a1_3 = some r) :
  Calls Tryz.prog 124 #[.agg #[.string a0_0, .int .i64 a0_1, .int .i64 a0_2, .string a0_3], .agg #[.string a1_0, .int .i64 a1_1, .int .i64 a1_2, .string a1_3]] w fun e w' => e = .returned (.bool r) ∧ Below w.heap.size w w' := by
 have hu93 := Tryz.underlying93
 have HB := Aside0.mk (Below.refl w.heap.size w)
 have H : (if a0_0.toList = a1_0.toList then (if a0_1 = a1_1 then (if a0_2 = a1_2 then (if a0_3.toList = a1_3.toList then (some true) else (some false)) else (some false)) else (some false)) else (some false)) = some r := h
 clear h
 by_cases c3 : a0_0.toList = a1_0.toList
 ·rw [if_pos c3] at H
  have c3b0 : (a0_0.toList == a1_0.toList) = true := beq_iff_eq.mpr c3
  have c3b1 : (a0_0.toList != a1_0.toList) = false := bne_eq_false_iff_eq.mpr c3
  clear c3
  by_cases c4 : a0_1 = a1_1
  ·rw [if_pos c4] at H
   have c4b0 : (a0_1 == a1_1) = true := beq_iff_eq.mpr c4
   have c4b1 : (a0_1 != a1_1) = false := bne_eq_false_iff_eq.mpr c4
   clear c4
   by_cases c5 : a0_2 = a1_2
   ·rw [if_pos c5] at H
    have c5b0 : (a0_2 == a1_2) = true := beq_iff_eq.mpr c5
    have c5b1 : (a0_2 != a1_2) = false := bne_eq_false_iff_eq.mpr c5
    clear c5
    by_cases c6 : a0_3.toList = a1_3.toList
    ·rw [if_pos c6] at H
     have c6b0 : (a0_3.toList == a1_3.toList) = true := beq_iff_eq.mpr c6
     have c6b1 : (a0_3.toList != a1_3.toList) = false := bne_eq_false_iff_eq.mpr c6
     clear c6
     obtain rfl := Option.some.inj H
     go_enter Tryz.func124, Tryz.ntmps124
     go_wp2_with (first | ((with_reducible refine gate_dst (N := 2) rfl ?_); refine bE 2 #[.string a0_0, .int .i64 a0_1, .int .i64 a0_2, .string a0_3] 93 ?_; intro gb433 hg w7 hbox hb; have BK433 := Aside0.mk (hbox); have GE433 := bG hg; replace HB := BS hb; clear hb hbox hg) | ((with_reducible refine gate_dst (N := 3) rfl ?_); refine bE 3 #[.string a1_0, .int .i64 a1_1, .int .i64 a1_2, .string a1_3] 93 ?_; intro gb434 hg w8 hbox hb; have BK434 := Aside0.mk (hbox); have GE434 := bG hg; replace HB := BS hb; have NB433_434 := bN BK433 hg; have NB434_433 := bM BK433 hg; replace BK433 := KB BK433 hb; clear hb hbox hg; have hnb9 := NB433_434.out; have hnc9 := NB434_433.out; have hcz10 := cz4 BK433; have hcz11 := cz4 BK434))
     go_ret
     exact ⟨TE, TB⟩
    ·rw [if_neg c6] at H
     have c6b0 : (a0_3.toList == a1_3.toList) = false := beq_eq_false_iff_ne.mpr c6
     have c6b1 : (a0_3.toList != a1_3.toList) = true := bne_iff_ne.mpr c6
     obtain rfl := Option.some.inj H
     go_enter Tryz.func124, Tryz.ntmps124
     go_wp2_with (first | ((with_reducible refine gate_dst (N := 2) rfl ?_); refine bE 2 #[.string a0_0, .int .i64 a0_1, .int .i64 a0_2, .string a0_3] 93 ?_; intro gb433 hg w12 hbox hb; have BK433 := Aside0.mk (hbox); have GE433 := bG hg; replace HB := BS hb; clear hb hbox hg) | ((with_reducible refine gate_dst (N := 3) rfl ?_); refine bE 3 #[.string a1_0, .int .i64 a1_1, .int .i64 a1_2, .string a1_3] 93 ?_; intro gb434 hg w13 hbox hb; have BK434 := Aside0.mk (hbox); have GE434 := bG hg; replace HB := BS hb; have NB433_434 := bN BK433 hg; have NB434_433 := bM BK433 hg; replace BK433 := KB BK433 hb; clear hb hbox hg; have hnb14 := NB433_434.out; have hnc14 := NB434_433.out; have hcz15 := cz4 BK433; have hcz16 := cz4 BK434))
     go_ret
     exact ⟨TE, TB⟩
   ·rw [if_neg c5] at H
    have c5b0 : (a0_2 == a1_2) = false := beq_eq_false_iff_ne.mpr c5
    have c5b1 : (a0_2 != a1_2) = true := bne_iff_ne.mpr c5
    obtain rfl := Option.some.inj H
    go_enter Tryz.func124, Tryz.ntmps124
    go_wp2_with (first | ((with_reducible refine gate_dst (N := 2) rfl ?_); refine bE 2 #[.string a0_0, .int .i64 a0_1, .int .i64 a0_2, .string a0_3] 93 ?_; intro gb433 hg w17 hbox hb; have BK433 := Aside0.mk (hbox); have GE433 := bG hg; replace HB := BS hb; clear hb hbox hg) | ((with_reducible refine gate_dst (N := 3) rfl ?_); refine bE 3 #[.string a1_0, .int .i64 a1_1, .int .i64 a1_2, .string a1_3] 93 ?_; intro gb434 hg w18 hbox hb; have BK434 := Aside0.mk (hbox); have GE434 := bG hg; replace HB := BS hb; have NB433_434 := bN BK433 hg; have NB434_433 := bM BK433 hg; replace BK433 := KB BK433 hb; clear hb hbox hg; have hnb19 := NB433_434.out; have hnc19 := NB434_433.out; have hcz20 := cz4 BK433; have hcz21 := cz4 BK434))
    go_ret
    exact ⟨TE, TB⟩
  ·rw [if_neg c4] at H
   have c4b0 : (a0_1 == a1_1) = false := beq_eq_false_iff_ne.mpr c4
   have c4b1 : (a0_1 != a1_1) = true := bne_iff_ne.mpr c4
   obtain rfl := Option.some.inj H
   go_enter Tryz.func124, Tryz.ntmps124
   go_wp2_with (first | ((with_reducible refine gate_dst (N := 2) rfl ?_); refine bE 2 #[.string a0_0, .int .i64 a0_1, .int .i64 a0_2, .string a0_3] 93 ?_; intro gb433 hg w22 hbox hb; have BK433 := Aside0.mk (hbox); have GE433 := bG hg; replace HB := BS hb; clear hb hbox hg) | ((with_reducible refine gate_dst (N := 3) rfl ?_); refine bE 3 #[.string a1_0, .int .i64 a1_1, .int .i64 a1_2, .string a1_3] 93 ?_; intro gb434 hg w23 hbox hb; have BK434 := Aside0.mk (hbox); have GE434 := bG hg; replace HB := BS hb; have NB433_434 := bN BK433 hg; have NB434_433 := bM BK433 hg; replace BK433 := KB BK433 hb; clear hb hbox hg; have hnb24 := NB433_434.out; have hnc24 := NB434_433.out; have hcz25 := cz4 BK433; have hcz26 := cz4 BK434))
   go_ret
   exact ⟨TE, TB⟩
 ·rw [if_neg c3] at H
  have c3b0 : (a0_0.toList == a1_0.toList) = false := beq_eq_false_iff_ne.mpr c3
  have c3b1 : (a0_0.toList != a1_0.toList) = true := bne_iff_ne.mpr c3
  obtain rfl := Option.some.inj H
  go_enter Tryz.func124, Tryz.ntmps124
  go_wp2_with (first | ((with_reducible refine gate_dst (N := 2) rfl ?_); refine bE 2 #[.string a0_0, .int .i64 a0_1, .int .i64 a0_2, .string a0_3] 93 ?_; intro gb433 hg w27 hbox hb; have BK433 := Aside0.mk (hbox); have GE433 := bG hg; replace HB := BS hb; clear hb hbox hg) | ((with_reducible refine gate_dst (N := 3) rfl ?_); refine bE 3 #[.string a1_0, .int .i64 a1_1, .int .i64 a1_2, .string a1_3] 93 ?_; intro gb434 hg w28 hbox hb; have BK434 := Aside0.mk (hbox); have GE434 := bG hg; replace HB := BS hb; have NB433_434 := bN BK433 hg; have NB434_433 := bM BK433 hg; replace BK433 := KB BK433 hb; clear hb hbox hg; have hnb29 := NB433_434.out; have hnc29 := NB434_433.out; have hcz30 := cz4 BK433; have hcz31 := cz4 BK434))
  go_ret
  exact ⟨TE, TB⟩
end
section
/-! ### laws_eqRecordS: function 69 -/
def laws_eqRecordS.l0 : Nat → List (S_Record) → List (S_Record) → Int → Option (Bool)
 | 0, _, _, _ => none
 | k + 1, x0, x1, x5 => if x5 < (x0.length : Int) then (if 0 ≤ x5 then (if x5 < (x1.length : Int) then ((laws_eqRecord.f ((rd_TRecord x0 x5).f0) ((rd_TRecord x0 x5).f1) ((rd_TRecord x0 x5).f2) ((rd_TRecord x0 x5).f3) ((rd_TRecord x1 x5).f0) ((rd_TRecord x1 x5).f1) ((rd_TRecord x1 x5).f2) ((rd_TRecord x1 x5).f3)).bind fun t437 => (if t437 = true then (laws_eqRecordS.l0 k x0 x1 (wrap64 (x5 + 1))) else (some false))) else (none)) else (none)) else (some true)
def laws_eqRecordS.f (k : Nat) (l0 : List (S_Record)) (l1 : List (S_Record)) : Option (Bool) := if (l0.length : Int) = (l1.length : Int) then (laws_eqRecordS.l0 k l0 l1 0) else (some false)
def laws_eqRecordS.T6 : Bool × List (List Nat × List Nat) := (true, [([], []), ([], []), ([0, 1], [0, 1]), ([2], [2]), ([], []), ([], []), ([4, 5], [4, 5]), ([6], [6]), ([3, 7], [3, 7]), ([8], [8])])
def laws_eqRecordS.B6 : List Nat := [0, 0, 3, 7, 0, 0, 48, 112, 255, 511]
theorem laws_eqRecordS.tab6 : rtab .any (opsOf Tryz.f69 6) = laws_eqRecordS.T6 := by kernel_rfl
theorem laws_eqRecordS.bits6 : waitsOk laws_eqRecordS.T6.2 laws_eqRecordS.B6 = true := by kernel_rfl
theorem laws_eqRecordS.calls (k : Nat) (A0 : Option Addr) (c0 : Nat) (l0 : List (S_Record)) (A1 : Option Addr) (c1 : Nat) (l1 : List (S_Record)) (r : Bool) (w : World) (hr0 : Kd.C k_Record w A0 l0.length l0) (hc0 : l0.length ≤ c0) (hr1 : Kd.C k_Record w A1 l1.length l1) (hc1 : l1.length ≤ c1) (h : laws_eqRecordS.f k l0 l1 = some r) :
  Calls Tryz.prog 69 #[.slice A0 l0.length c0, .slice A1 l1.length c1] w fun e w' => e = .returned (.bool r) ∧ Below w.heap.size w w' := by
 have hu93 := Tryz.underlying93
 have HR0 := Aside0.mk hr0
 have HC0 := Aside0.mk hc0
 clear hr0 hc0
 have HR1 := Aside0.mk hr1
 have HC1 := Aside0.mk hc1
 clear hr1 hc1
 have HB := Aside0.mk (Below.refl w.heap.size w)
 have H : (if (l0.length : Int) = (l1.length : Int) then (laws_eqRecordS.l0 k l0 l1 0) else (some false)) = some r := h
 clear h
 by_cases c3 : (l0.length : Int) = (l1.length : Int)
 ·rw [if_pos c3] at H
  have c3b0 : ((l0.length : Int) == (l1.length : Int)) = true := beq_iff_eq.mpr c3
  have c3b1 : ((l0.length : Int) != (l1.length : Int)) = false := bne_eq_false_iff_eq.mpr c3
  have c3b2 : (l0.length == l1.length) = true := by first | simpa using c3 | (simp at c3 ⊢; omega)
  clear c3
  have H' := Aside0.mk H
  clear H
  go_enter Tryz.func69, Tryz.ntmps69
  go_wp2
  go_loopg [5] k (fun kq v5 w' => ∃ (x5_1 : Int), v5 = .int .i64 x5_1 ∧ Aside0 (laws_eqRecordS.l0 kq l0 l1 x5_1 = some r) ∧ Aside0 (kq ≤ k) ∧ Aside0 (Below w.heap.size w w'))
  case atStart => exact ⟨(0), TF, H', ⟨Nat.le_refl _⟩, ⟨TB⟩⟩
  case round =>
   clear H'
   try clear c1
   try clear p2
   try clear c3
   try clear c3b0
   try clear c3b1
   try clear c3b2
   obtain ⟨x5_1, rfl, HA, HK1, HB⟩ := hrel
   cases gk with
   | zero => exact absurd HA.out (by simp [laws_eqRecordS.l0])
   | succ k1 =>
    have H := HA.out
    clear HA
    simp only [laws_eqRecordS.l0] at H
    by_cases c4 : x5_1 < (l0.length : Int)
    ·rw [if_pos c4] at H
     have c4b0 : decide (x5_1 < (l0.length : Int)) = true := decide_eq_true c4
     clear c4
     obtain ⟨c5, H⟩ := ifn H
     have c5b0 : decide (0 ≤ x5_1) = true := decide_eq_true c5
     clear c5
     obtain ⟨c6, H⟩ := ifn H
     have c6b0 : decide (x5_1 < (l1.length : Int)) = true := decide_eq_true c6
     clear c6
     obtain ⟨t437, A7, H⟩ := bnd H
     by_cases c8 : t437 = true
     ·subst c8
      replace H := ift H
      have H' := Aside0.mk H
      clear H
      try go_wp2
      replace HB := Aside0.mk (below_drew1 HB.out)
      have p435 : 0 ≤ (x5_1 : Int) := TD
      have q435 : x5_1 < (l0.length : Int) := TD
      obtain ⟨ad435, e435, hx435_0, hx435_1, hx435_2, hx435_3⟩ := at_TRecord HR0.out x5_1 p435 q435
      have hw435_3 := hx435_3
      have hw435_2 := hx435_2
      have hw435_1 := hx435_1
      have hw435_0 := hx435_0
      cases e435
      replace hx435_0 := hBc HB hx435_0
      replace hx435_1 := hBc HB hx435_1
      replace hx435_2 := hBc HB hx435_2
      replace hx435_3 := hBc HB hx435_3
      replace p435 := eq_true p435
      replace q435 := eq_true q435
      have p436 : 0 ≤ (x5_1 : Int) := TD
      have q436 : x5_1 < (l1.length : Int) := TD
      obtain ⟨ad436, e436, hx436_0, hx436_1, hx436_2, hx436_3⟩ := at_TRecord HR1.out x5_1 p436 q436
      have hw436_3 := hx436_3
      have hw436_2 := hx436_2
      have hw436_1 := hx436_1
      have hw436_0 := hx436_0
      cases e436
      replace hx436_0 := hBc HB hx436_0
      replace hx436_1 := hBc HB hx436_1
      replace hx436_2 := hBc HB hx436_2
      replace hx436_3 := hBc HB hx436_3
      replace p436 := eq_true p436
      replace q436 := eq_true q436
      refine start_ (n := 10) (S := fun w' => w'.cell? (ad435.add ((x5_1).toNat * 4)) = some (.string ((rd_TRecord l0 x5_1).f0)) ∧ w'.cell? ⟨(ad435.add ((x5_1).toNat * 4)).block, (ad435.add ((x5_1).toNat * 4)).off + 1, none⟩ = some (.int .i64 ((rd_TRecord l0 x5_1).f1)) ∧ w'.cell? ⟨(ad435.add ((x5_1).toNat * 4)).block, (ad435.add ((x5_1).toNat * 4)).off + 2, none⟩ = some (.int .i64 ((rd_TRecord l0 x5_1).f2)) ∧ w'.cell? ⟨(ad435.add ((x5_1).toNat * 4)).block, (ad435.add ((x5_1).toNat * 4)).off + 3, none⟩ = some (.string ((rd_TRecord l0 x5_1).f3)) ∧ w'.cell? (ad436.add ((x5_1).toNat * 4)) = some (.string ((rd_TRecord l1 x5_1).f0)) ∧ w'.cell? ⟨(ad436.add ((x5_1).toNat * 4)).block, (ad436.add ((x5_1).toNat * 4)).off + 1, none⟩ = some (.int .i64 ((rd_TRecord l1 x5_1).f1)) ∧ w'.cell? ⟨(ad436.add ((x5_1).toNat * 4)).block, (ad436.add ((x5_1).toNat * 4)).off + 2, none⟩ = some (.int .i64 ((rd_TRecord l1 x5_1).f2)) ∧ w'.cell? ⟨(ad436.add ((x5_1).toNat * 4)).block, (ad436.add ((x5_1).toNat * 4)).off + 3, none⟩ = some (.string ((rd_TRecord l1 x5_1).f3))) (ds := []) #[false, false, false, false, false, false, false, false, false, false] KR rfl rfl ⟨((HB.out.cell (World.block_lt_of_cell? w _ hw435_0)).trans hw435_0), ((HB.out.cell (World.block_lt_of_cell? w _ hw435_1)).trans hw435_1), ((HB.out.cell (World.block_lt_of_cell? w _ hw435_2)).trans hw435_2), ((HB.out.cell (World.block_lt_of_cell? w _ hw435_3)).trans hw435_3), ((HB.out.cell (World.block_lt_of_cell? w _ hw436_0)).trans hw436_0), ((HB.out.cell (World.block_lt_of_cell? w _ hw436_1)).trans hw436_1), ((HB.out.cell (World.block_lt_of_cell? w _ hw436_2)).trans hw436_2), ((HB.out.cell (World.block_lt_of_cell? w _ hw436_3)).trans hw436_3)⟩ (fun hHeld => ?_); refine with_tabW laws_eqRecordS.tab6 laws_eqRecordS.bits6 (fun HT_ HW_ => ?_)
      generalize wr.drew = w9 at HB hx435_0 hx435_1 hx435_2 hx435_3 hx436_0 hx436_1 hx436_2 hx436_3 hHeld ⊢
      refine pA 0 17 (mL 10 1) HT_ rfl rfl ?_
      refine pA 1 18 (mL 10 3) HT_ rfl rfl ?_
      refine pA 2 19 (mL 10 7) HT_ rfl rfl ?_
      refine pA 4 21 (mL 10 23) HT_ rfl rfl ?_
      refine pA 5 22 (mL 10 55) HT_ rfl rfl ?_
      refine pA 6 23 (mL 10 119) HT_ rfl rfl ?_
      refine tA 3 20 (mL 10 127) HT_ HW_ hHeld rfl rfl (by rintro w' ⟨s0, s1, s2, s3, s4, s5, s6, s7⟩; go_simp; with_reducible rfl) ?_
      refine tA 7 24 (mL 10 255) HT_ HW_ hHeld rfl rfl (by rintro w' ⟨s0, s1, s2, s3, s4, s5, s6, s7⟩; go_simp; with_reducible rfl) ?_
      refine one_ (i := 8) (N := some 25) (mL 10 511) rfl rfl (one_of HT_.out KR) (by decide) (fun K hK => ?_)
      refine goes_ Tryz.func124 KR rfl #[.agg #[.string ((rd_TRecord l0 x5_1).f0), .int .i64 ((rd_TRecord l0 x5_1).f1), .int .i64 ((rd_TRecord l0 x5_1).f2), .string ((rd_TRecord l0 x5_1).f3)], .agg #[.string ((rd_TRecord l1 x5_1).f0), .int .i64 ((rd_TRecord l1 x5_1).f1), .int .i64 ((rd_TRecord l1 x5_1).f2), .string ((rd_TRecord l1 x5_1).f3)]] (by rfl) rfl rfl TA ?_
      with_reducible refine (laws_eqRecord.calls ((rd_TRecord l0 x5_1).f0) ((rd_TRecord l0 x5_1).f1) ((rd_TRecord l0 x5_1).f2) ((rd_TRecord l0 x5_1).f3) ((rd_TRecord l1 x5_1).f0) ((rd_TRecord l1 x5_1).f1) ((rd_TRecord l1 x5_1).f2) ((rd_TRecord l1 x5_1).f3) true _ A7.out).mono ?_
      rintro e w10 ⟨rfl, hb⟩
      refine ⟨_, rfl, ?_⟩
      replace HB := BS hb
      (try clear hb)
      (try clear hb2)
      (try clear hk)
      (try clear hi)
      refine hK.out _ _ ⟨((HB.out.cell (World.block_lt_of_cell? w _ hw435_0)).trans hw435_0), ((HB.out.cell (World.block_lt_of_cell? w _ hw435_1)).trans hw435_1), ((HB.out.cell (World.block_lt_of_cell? w _ hw435_2)).trans hw435_2), ((HB.out.cell (World.block_lt_of_cell? w _ hw435_3)).trans hw435_3), ((HB.out.cell (World.block_lt_of_cell? w _ hw436_0)).trans hw436_0), ((HB.out.cell (World.block_lt_of_cell? w _ hw436_1)).trans hw436_1), ((HB.out.cell (World.block_lt_of_cell? w _ hw436_2)).trans hw436_2), ((HB.out.cell (World.block_lt_of_cell? w _ hw436_3)).trans hw436_3)⟩ (fun hHeld => ?_)
      clear hK K
      refine nA ?_
      refine pA 9 26 (mL 10 1023) HT_ rfl rfl ?_
      refine done_ (done_of HT_.out KR) ?_
      try go_wp2
      go_roundg k1
      case measure => have := HK1.out; omega
      case rel => exact ⟨(wrap64 (x5_1 + 1)), TF, H', ⟨TM⟩, ⟨TB⟩⟩
     ·replace c8 := Bool.eq_false_iff.mpr c8
      subst c8
      replace H := iff' H
      obtain rfl := Option.some.inj H
      try go_wp2
      replace HB := Aside0.mk (below_drew1 HB.out)
      have p435 : 0 ≤ (x5_1 : Int) := TD
      have q435 : x5_1 < (l0.length : Int) := TD
      obtain ⟨ad435, e435, hx435_0, hx435_1, hx435_2, hx435_3⟩ := at_TRecord HR0.out x5_1 p435 q435
      have hw435_3 := hx435_3
      have hw435_2 := hx435_2
      have hw435_1 := hx435_1
      have hw435_0 := hx435_0
      cases e435
      replace hx435_0 := hBc HB hx435_0
      replace hx435_1 := hBc HB hx435_1
      replace hx435_2 := hBc HB hx435_2
      replace hx435_3 := hBc HB hx435_3
      replace p435 := eq_true p435
      replace q435 := eq_true q435
      have p436 : 0 ≤ (x5_1 : Int) := TD
      have q436 : x5_1 < (l1.length : Int) := TD
      obtain ⟨ad436, e436, hx436_0, hx436_1, hx436_2, hx436_3⟩ := at_TRecord HR1.out x5_1 p436 q436
      have hw436_3 := hx436_3
      have hw436_2 := hx436_2
      have hw436_1 := hx436_1
      have hw436_0 := hx436_0
      cases e436
      replace hx436_0 := hBc HB hx436_0
      replace hx436_1 := hBc HB hx436_1
      replace hx436_2 := hBc HB hx436_2
      replace hx436_3 := hBc HB hx436_3
      replace p436 := eq_true p436
      replace q436 := eq_true q436
      refine start_ (n := 10) (S := fun w' => w'.cell? (ad435.add ((x5_1).toNat * 4)) = some (.string ((rd_TRecord l0 x5_1).f0)) ∧ w'.cell? ⟨(ad435.add ((x5_1).toNat * 4)).block, (ad435.add ((x5_1).toNat * 4)).off + 1, none⟩ = some (.int .i64 ((rd_TRecord l0 x5_1).f1)) ∧ w'.cell? ⟨(ad435.add ((x5_1).toNat * 4)).block, (ad435.add ((x5_1).toNat * 4)).off + 2, none⟩ = some (.int .i64 ((rd_TRecord l0 x5_1).f2)) ∧ w'.cell? ⟨(ad435.add ((x5_1).toNat * 4)).block, (ad435.add ((x5_1).toNat * 4)).off + 3, none⟩ = some (.string ((rd_TRecord l0 x5_1).f3)) ∧ w'.cell? (ad436.add ((x5_1).toNat * 4)) = some (.string ((rd_TRecord l1 x5_1).f0)) ∧ w'.cell? ⟨(ad436.add ((x5_1).toNat * 4)).block, (ad436.add ((x5_1).toNat * 4)).off + 1, none⟩ = some (.int .i64 ((rd_TRecord l1 x5_1).f1)) ∧ w'.cell? ⟨(ad436.add ((x5_1).toNat * 4)).block, (ad436.add ((x5_1).toNat * 4)).off + 2, none⟩ = some (.int .i64 ((rd_TRecord l1 x5_1).f2)) ∧ w'.cell? ⟨(ad436.add ((x5_1).toNat * 4)).block, (ad436.add ((x5_1).toNat * 4)).off + 3, none⟩ = some (.string ((rd_TRecord l1 x5_1).f3))) (ds := []) #[false, false, false, false, false, false, false, false, false, false] KR rfl rfl ⟨((HB.out.cell (World.block_lt_of_cell? w _ hw435_0)).trans hw435_0), ((HB.out.cell (World.block_lt_of_cell? w _ hw435_1)).trans hw435_1), ((HB.out.cell (World.block_lt_of_cell? w _ hw435_2)).trans hw435_2), ((HB.out.cell (World.block_lt_of_cell? w _ hw435_3)).trans hw435_3), ((HB.out.cell (World.block_lt_of_cell? w _ hw436_0)).trans hw436_0), ((HB.out.cell (World.block_lt_of_cell? w _ hw436_1)).trans hw436_1), ((HB.out.cell (World.block_lt_of_cell? w _ hw436_2)).trans hw436_2), ((HB.out.cell (World.block_lt_of_cell? w _ hw436_3)).trans hw436_3)⟩ (fun hHeld => ?_); refine with_tabW laws_eqRecordS.tab6 laws_eqRecordS.bits6 (fun HT_ HW_ => ?_)
      generalize wr.drew = w11 at HB hx435_0 hx435_1 hx435_2 hx435_3 hx436_0 hx436_1 hx436_2 hx436_3 hHeld ⊢
      refine pA 0 17 (mL 10 1) HT_ rfl rfl ?_
      refine pA 1 18 (mL 10 3) HT_ rfl rfl ?_
      refine pA 2 19 (mL 10 7) HT_ rfl rfl ?_
      refine pA 4 21 (mL 10 23) HT_ rfl rfl ?_
      refine pA 5 22 (mL 10 55) HT_ rfl rfl ?_
      refine pA 6 23 (mL 10 119) HT_ rfl rfl ?_
      refine tA 3 20 (mL 10 127) HT_ HW_ hHeld rfl rfl (by rintro w' ⟨s0, s1, s2, s3, s4, s5, s6, s7⟩; go_simp; with_reducible rfl) ?_
      refine tA 7 24 (mL 10 255) HT_ HW_ hHeld rfl rfl (by rintro w' ⟨s0, s1, s2, s3, s4, s5, s6, s7⟩; go_simp; with_reducible rfl) ?_
      refine one_ (i := 8) (N := some 25) (mL 10 511) rfl rfl (one_of HT_.out KR) (by decide) (fun K hK => ?_)
      refine goes_ Tryz.func124 KR rfl #[.agg #[.string ((rd_TRecord l0 x5_1).f0), .int .i64 ((rd_TRecord l0 x5_1).f1), .int .i64 ((rd_TRecord l0 x5_1).f2), .string ((rd_TRecord l0 x5_1).f3)], .agg #[.string ((rd_TRecord l1 x5_1).f0), .int .i64 ((rd_TRecord l1 x5_1).f1), .int .i64 ((rd_TRecord l1 x5_1).f2), .string ((rd_TRecord l1 x5_1).f3)]] (by rfl) rfl rfl TA ?_
      with_reducible refine (laws_eqRecord.calls ((rd_TRecord l0 x5_1).f0) ((rd_TRecord l0 x5_1).f1) ((rd_TRecord l0 x5_1).f2) ((rd_TRecord l0 x5_1).f3) ((rd_TRecord l1 x5_1).f0) ((rd_TRecord l1 x5_1).f1) ((rd_TRecord l1 x5_1).f2) ((rd_TRecord l1 x5_1).f3) false _ A7.out).mono ?_
      rintro e w12 ⟨rfl, hb⟩
      refine ⟨_, rfl, ?_⟩
      replace HB := BS hb
      (try clear hb)
      (try clear hb2)
      (try clear hk)
      (try clear hi)
      refine hK.out _ _ ⟨((HB.out.cell (World.block_lt_of_cell? w _ hw435_0)).trans hw435_0), ((HB.out.cell (World.block_lt_of_cell? w _ hw435_1)).trans hw435_1), ((HB.out.cell (World.block_lt_of_cell? w _ hw435_2)).trans hw435_2), ((HB.out.cell (World.block_lt_of_cell? w _ hw435_3)).trans hw435_3), ((HB.out.cell (World.block_lt_of_cell? w _ hw436_0)).trans hw436_0), ((HB.out.cell (World.block_lt_of_cell? w _ hw436_1)).trans hw436_1), ((HB.out.cell (World.block_lt_of_cell? w _ hw436_2)).trans hw436_2), ((HB.out.cell (World.block_lt_of_cell? w _ hw436_3)).trans hw436_3)⟩ (fun hHeld => ?_)
      clear hK K
      refine nA ?_
      refine pA 9 26 (mL 10 1023) HT_ rfl rfl ?_
      refine done_ (done_of HT_.out KR) ?_
      try go_wp2
      go_ret
      exact ⟨TE, TB⟩
    ·rw [if_neg c4] at H
     have c4b0 : decide (x5_1 < (l0.length : Int)) = false := decide_eq_false c4
     clear c4
     obtain rfl := Option.some.inj H
     go_wp2
     go_ret
     exact ⟨TE, TB⟩
 ·rw [if_neg c3] at H
  have c3b0 : ((l0.length : Int) == (l1.length : Int)) = false := beq_eq_false_iff_ne.mpr c3
  have c3b1 : ((l0.length : Int) != (l1.length : Int)) = true := bne_iff_ne.mpr c3
  have c3b2 : (l0.length == l1.length) = false := by first | simpa using c3 | (simp at c3 ⊢; omega)
  obtain rfl := Option.some.inj H
  go_enter Tryz.func69, Tryz.ntmps69
  go_wp2
  go_ret
  exact ⟨TE, TB⟩
end
section
/-! ### laws_eqZone: function 57 -/
def laws_eqZone.f (k : Nat) (a0_0 : ByteArray) (a0_1 : Int) (l0_2 : List (S_Record)) (a1_0 : ByteArray) (a1_1 : Int) (l1_2 : List (S_Record)) : Option (Bool) := if a0_0.toList = a1_0.toList then (if a0_1 = a1_1 then ((laws_eqRecordS.f k l0_2 l1_2).bind fun t685 => (if t685 = true then (some true) else (some false))) else (some false)) else (some false)
theorem laws_eqZone.calls (k : Nat) (a0_0 : ByteArray) (a0_1 : Int) (A0_2 : Option Addr) (c0_2 : Nat) (l0_2 : List (S_Record)) (a1_0 : ByteArray) (a1_1 : Int) (A1_2 : Option Addr) (c1_2 : Nat) (l1_2 : List (S_Record)) (r : Bool) (w : World) (hr0_2 : Kd.C k_Record w A0_2 l0_2.length l0_2) (hc0_2 : l0_2.length ≤ c0_2) (hr1_2 : Kd.C k_Record w A1_2 l1_2.length l1_2) (hc1_2 : l1_2.length ≤ c1_2) (h : laws_eqZone.f k a0_0 a0_1 l0_2 a1_0 a1_1 l1_2 = some r) :
  Calls Tryz.prog 57 #[.agg #[.string a0_0, .int .i64 a0_1, .slice A0_2 l0_2.length c0_2], .agg #[.string a1_0, .int .i64 a1_1, .slice A1_2 l1_2.length c1_2]] w fun e w' => e = .returned (.bool r) ∧ Below w.heap.size w w' := by
 have hu83 := Tryz.underlying83
 have HR0_2 := Aside0.mk hr0_2
 have HC0_2 := Aside0.mk hc0_2
 clear hr0_2 hc0_2
 have HR1_2 := Aside0.mk hr1_2
 have HC1_2 := Aside0.mk hc1_2
 clear hr1_2 hc1_2
 have HB := Aside0.mk (Below.refl w.heap.size w)
 have H : (if a0_0.toList = a1_0.toList then (if a0_1 = a1_1 then ((laws_eqRecordS.f k l0_2 l1_2).bind fun t685 => (if t685 = true then (some true) else (some false))) else (some false)) else (some false)) = some r := h
 clear h
 by_cases c3 : a0_0.toList = a1_0.toList
 ·rw [if_pos c3] at H
  have c3b0 : (a0_0.toList == a1_0.toList) = true := beq_iff_eq.mpr c3
  have c3b1 : (a0_0.toList != a1_0.toList) = false := bne_eq_false_iff_eq.mpr c3
  clear c3
  by_cases c4 : a0_1 = a1_1
  ·rw [if_pos c4] at H
   have c4b0 : (a0_1 == a1_1) = true := beq_iff_eq.mpr c4
   have c4b1 : (a0_1 != a1_1) = false := bne_eq_false_iff_eq.mpr c4
   clear c4
   obtain ⟨t685, A5, H⟩ := bnd H
   by_cases c6 : t685 = true
   ·subst c6
    replace H := ift H
    obtain rfl := Option.some.inj H
    go_enter Tryz.func57, Tryz.ntmps57
    go_wp2_with (first | ((with_reducible refine gate_dst (N := 2) rfl ?_); refine bE 2 #[.string a0_0, .int .i64 a0_1, .slice A0_2 l0_2.length c0_2] 83 ?_; intro gb683 hg w7 hbox hb; have BK683 := Aside0.mk (hbox); have GE683 := bG hg; replace HB := BS hb; clear hb hbox hg) | ((with_reducible refine gate_dst (N := 3) rfl ?_); refine bE 3 #[.string a1_0, .int .i64 a1_1, .slice A1_2 l1_2.length c1_2] 83 ?_; intro gb684 hg w8 hbox hb; have BK684 := Aside0.mk (hbox); have GE684 := bG hg; replace HB := BS hb; have NB683_684 := bN BK683 hg; have NB684_683 := bM BK683 hg; replace BK683 := KB BK683 hb; clear hb hbox hg; have hnb9 := NB683_684.out; have hnc9 := NB684_683.out; have hcz10 := cz3 BK683; have hcz11 := cz3 BK684) | ((with_reducible refine gate_callee (f := 69) rfl ?_); refine goesL_ (some 19) rfl rfl Tryz.func69 KR rfl #[.slice A0_2 l0_2.length c0_2, .slice A1_2 l1_2.length c1_2] rfl TA ?_; (with_reducible refine (laws_eqRecordS.calls k _ _ l0_2 _ _ l1_2 true _ ?side1 ?side2 ?side3 ?side4 A5.out).mono ?_); (case side1 => exact CW ((Kd.C_below HR0_2.out HB.out))); (case side2 => exact HC0_2.out); (case side3 => exact CW ((Kd.C_below HR1_2.out HB.out))); (case side4 => exact HC1_2.out); rintro e w12 ⟨rfl, hb⟩; refine ⟨_, rfl, ?_⟩; replace BK683 := KB BK683 hb; replace BK684 := KB BK684 hb; replace HB := BS hb; (try clear hb); (try clear hb2); (try clear hk); (try clear hi)))
    go_ret
    exact ⟨TE, TB⟩
   ·replace c6 := Bool.eq_false_iff.mpr c6
    subst c6
    replace H := iff' H
    obtain rfl := Option.some.inj H
    go_enter Tryz.func57, Tryz.ntmps57
    go_wp2_with (first | ((with_reducible refine gate_dst (N := 2) rfl ?_); refine bE 2 #[.string a0_0, .int .i64 a0_1, .slice A0_2 l0_2.length c0_2] 83 ?_; intro gb683 hg w13 hbox hb; have BK683 := Aside0.mk (hbox); have GE683 := bG hg; replace HB := BS hb; clear hb hbox hg) | ((with_reducible refine gate_dst (N := 3) rfl ?_); refine bE 3 #[.string a1_0, .int .i64 a1_1, .slice A1_2 l1_2.length c1_2] 83 ?_; intro gb684 hg w14 hbox hb; have BK684 := Aside0.mk (hbox); have GE684 := bG hg; replace HB := BS hb; have NB683_684 := bN BK683 hg; have NB684_683 := bM BK683 hg; replace BK683 := KB BK683 hb; clear hb hbox hg; have hnb15 := NB683_684.out; have hnc15 := NB684_683.out; have hcz16 := cz3 BK683; have hcz17 := cz3 BK684) | ((with_reducible refine gate_callee (f := 69) rfl ?_); refine goesL_ (some 19) rfl rfl Tryz.func69 KR rfl #[.slice A0_2 l0_2.length c0_2, .slice A1_2 l1_2.length c1_2] rfl TA ?_; (with_reducible refine (laws_eqRecordS.calls k _ _ l0_2 _ _ l1_2 false _ ?side1 ?side2 ?side3 ?side4 A5.out).mono ?_); (case side1 => exact CW ((Kd.C_below HR0_2.out HB.out))); (case side2 => exact HC0_2.out); (case side3 => exact CW ((Kd.C_below HR1_2.out HB.out))); (case side4 => exact HC1_2.out); rintro e w18 ⟨rfl, hb⟩; refine ⟨_, rfl, ?_⟩; replace BK683 := KB BK683 hb; replace BK684 := KB BK684 hb; replace HB := BS hb; (try clear hb); (try clear hb2); (try clear hk); (try clear hi)))
    go_ret
    exact ⟨TE, TB⟩
  ·rw [if_neg c4] at H
   have c4b0 : (a0_1 == a1_1) = false := beq_eq_false_iff_ne.mpr c4
   have c4b1 : (a0_1 != a1_1) = true := bne_iff_ne.mpr c4
   obtain rfl := Option.some.inj H
   go_enter Tryz.func57, Tryz.ntmps57
   go_wp2_with (first | ((with_reducible refine gate_dst (N := 2) rfl ?_); refine bE 2 #[.string a0_0, .int .i64 a0_1, .slice A0_2 l0_2.length c0_2] 83 ?_; intro gb683 hg w19 hbox hb; have BK683 := Aside0.mk (hbox); have GE683 := bG hg; replace HB := BS hb; clear hb hbox hg) | ((with_reducible refine gate_dst (N := 3) rfl ?_); refine bE 3 #[.string a1_0, .int .i64 a1_1, .slice A1_2 l1_2.length c1_2] 83 ?_; intro gb684 hg w20 hbox hb; have BK684 := Aside0.mk (hbox); have GE684 := bG hg; replace HB := BS hb; have NB683_684 := bN BK683 hg; have NB684_683 := bM BK683 hg; replace BK683 := KB BK683 hb; clear hb hbox hg; have hnb21 := NB683_684.out; have hnc21 := NB684_683.out; have hcz22 := cz3 BK683; have hcz23 := cz3 BK684))
   go_ret
   exact ⟨TE, TB⟩
 ·rw [if_neg c3] at H
  have c3b0 : (a0_0.toList == a1_0.toList) = false := beq_eq_false_iff_ne.mpr c3
  have c3b1 : (a0_0.toList != a1_0.toList) = true := bne_iff_ne.mpr c3
  obtain rfl := Option.some.inj H
  go_enter Tryz.func57, Tryz.ntmps57
  go_wp2_with (first | ((with_reducible refine gate_dst (N := 2) rfl ?_); refine bE 2 #[.string a0_0, .int .i64 a0_1, .slice A0_2 l0_2.length c0_2] 83 ?_; intro gb683 hg w24 hbox hb; have BK683 := Aside0.mk (hbox); have GE683 := bG hg; replace HB := BS hb; clear hb hbox hg) | ((with_reducible refine gate_dst (N := 3) rfl ?_); refine bE 3 #[.string a1_0, .int .i64 a1_1, .slice A1_2 l1_2.length c1_2] 83 ?_; intro gb684 hg w25 hbox hb; have BK684 := Aside0.mk (hbox); have GE684 := bG hg; replace HB := BS hb; have NB683_684 := bN BK683 hg; have NB684_683 := bM BK683 hg; replace BK683 := KB BK683 hb; clear hb hbox hg; have hnb26 := NB683_684.out; have hnc26 := NB684_683.out; have hcz27 := cz3 BK683; have hcz28 := cz3 BK684))
  go_ret
  exact ⟨TE, TB⟩
end
section
/-! ### laws_FnExactCutAbove: function 14 -/
def laws_FnExactCutAbove.j0 : Nat → Bool → ByteArray → Int → List (S_LRecord) → ByteArray → Int → List (S_Record) → Option (Bool)
 | 0, _, _, _, _, _, _, _ => none
 | k + 1, x41, x687000, x687001, x687002, x701000, x701001, x701002 => if x41 = true then (some false) else ((laws_toZone.f k x687000 x687001 x687002).bind fun bt703 => ((laws_eqZone.f k x701000 x701001 x701002 bt703.1 bt703.2.1 bt703.2.2).bind fun t708 => (if t708 = true then (some true) else (some false))))
def laws_FnExactCutAbove.f (k : Nat) (a0_0 : ByteArray) (a0_1 : Int) (l0_2 : List (S_LRecord)) (a1 : ByteArray) : Option (Bool) := if (a1.size : Int) > 1048576 then (some true) else ((laws_szZone.f k a0_0 a0_1 l0_2 1048576).bind fun t687 => (if t687 < 0 then (some true) else ((laws_toZone.f k a0_0 a0_1 l0_2).bind fun bt688 => ((spec_CutAbove.f k bt688.1 bt688.2.1 bt688.2.2 a1).bind fun bt693 => ((laws_toZone.f k a0_0 a0_1 l0_2).bind fun bt695 => ((impl_CutAbove.f k bt695.1 bt695.2.1 bt695.2.2 a1).bind fun bt701 => (if bt701.1.toList = bt693.1.toList then (laws_FnExactCutAbove.j0 k (bt701.2 != bt693.2) a0_0 a0_1 l0_2 bt695.1 bt695.2.1 bt695.2.2) else (laws_FnExactCutAbove.j0 k true a0_0 a0_1 l0_2 bt695.1 bt695.2.1 bt695.2.2))))))))
theorem laws_FnExactCutAbove.calls (k : Nat) (a0_0 : ByteArray) (a0_1 : Int) (A0_2 : Option Addr) (c0_2 : Nat) (l0_2 : List (S_LRecord)) (a1 : ByteArray) (r : Bool) (w : World) (hr0_2 : Kd.C k_LRecord w A0_2 l0_2.length l0_2) (hc0_2 : l0_2.length ≤ c0_2) (hG_ : Glob w) (h : laws_FnExactCutAbove.f k a0_0 a0_1 l0_2 a1 = some r) :
  Calls Tryz.prog 14 #[.agg #[.string a0_0, .int .i64 a0_1, .slice A0_2 l0_2.length c0_2], .string a1] w fun e w' => e = .returned (.bool r) ∧ Below w.heap.size w w' := by
 have hu78 := Tryz.underlying78
 have hu83 := Tryz.underlying83
 have HR0_2 := Aside0.mk hr0_2
 have HC0_2 := Aside0.mk hc0_2
 clear hr0_2 hc0_2
 have HGL := Aside0.mk hG_
 clear hG_
 have HB := Aside0.mk (Below.refl w.heap.size w)
 have H : (if (a1.size : Int) > 1048576 then (some true) else ((laws_szZone.f k a0_0 a0_1 l0_2 1048576).bind fun t687 => (if t687 < 0 then (some true) else ((laws_toZone.f k a0_0 a0_1 l0_2).bind fun bt688 => ((spec_CutAbove.f k bt688.1 bt688.2.1 bt688.2.2 a1).bind fun bt693 => ((laws_toZone.f k a0_0 a0_1 l0_2).bind fun bt695 => ((impl_CutAbove.f k bt695.1 bt695.2.1 bt695.2.2 a1).bind fun bt701 => (if bt701.1.toList = bt693.1.toList then (laws_FnExactCutAbove.j0 k (bt701.2 != bt693.2) a0_0 a0_1 l0_2 bt695.1 bt695.2.1 bt695.2.2) else (laws_FnExactCutAbove.j0 k true a0_0 a0_1 l0_2 bt695.1 bt695.2.1 bt695.2.2))))))))) = some r := h
 clear h
 by_cases c3 : (a1.size : Int) > 1048576
 ·rw [if_pos c3] at H
  have c3b0 : decide (1048576 < (a1.size : Int)) = true := decide_eq_true c3
  have c3b1 : decide (1048576 < a1.size) = true := decide_eq_true (by omega)
  clear c3
  obtain rfl := Option.some.inj H
  go_enter Tryz.func14, Tryz.ntmps14
  go_wp2_with (first | ((with_reducible refine gate_dst (N := 2) rfl ?_); refine bE 2 #[.string a0_0, .int .i64 a0_1, .slice A0_2 l0_2.length c0_2] 78 ?_; intro gb686 hg w4 hbox hb; have BK686 := Aside0.mk (hbox); have GE686 := bG hg; replace HB := BS hb; clear hb hbox hg))
  go_ret
  exact ⟨TE, TB⟩
 ·rw [if_neg c3] at H
  have c3b0 : decide (1048576 < (a1.size : Int)) = false := decide_eq_false c3
  have c3b1 : decide (1048576 < a1.size) = false := decide_eq_false (by omega)
  clear c3
  obtain ⟨t687, A5, H⟩ := bnd H
  by_cases c6 : t687 < 0
  ·rw [if_pos c6] at H
   have c6b0 : decide (t687 < 0) = true := decide_eq_true c6
   clear c6
   obtain rfl := Option.some.inj H
   go_enter Tryz.func14, Tryz.ntmps14
   go_wp2_with (first | ((with_reducible refine gate_dst (N := 2) rfl ?_); refine bE 2 #[.string a0_0, .int .i64 a0_1, .slice A0_2 l0_2.length c0_2] 78 ?_; intro gb686 hg w7 hbox hb; have BK686 := Aside0.mk (hbox); have GE686 := bG hg; replace HB := BS hb; clear hb hbox hg; have hcz8 := cz3 BK686) | ((with_reducible refine gate_callee (f := 53) rfl ?_); refine goesL_ (some 16) rfl rfl Tryz.func53 KR rfl #[.agg #[.string a0_0, .int .i64 a0_1, .slice A0_2 l0_2.length c0_2], .int .i64 1048576] rfl TA ?_; (with_reducible refine (laws_szZone.calls k a0_0 a0_1 _ _ l0_2 1048576 t687 _ ?side1 ?side2 A5.out).mono ?_); (case side1 => exact CW ((Kd.C_below HR0_2.out HB.out))); (case side2 => exact HC0_2.out); rintro e w9 ⟨rfl, hb⟩; refine ⟨_, rfl, ?_⟩; replace BK686 := KB BK686 hb; replace HB := BS hb; (try clear hb); (try clear hb2); (try clear hk); (try clear hi)))
   go_ret
   exact ⟨TE, TB⟩
  ·rw [if_neg c6] at H
   have c6b0 : decide (t687 < 0) = false := decide_eq_false c6
   clear c6
   obtain ⟨⟨t688, t689, t690⟩, A10, H⟩ := bnd H
   try dsimp only at H
   obtain ⟨⟨t693, t694⟩, A11, H⟩ := bnd H
   try dsimp only at H
   obtain ⟨⟨t695, t696, t697⟩, A12, H⟩ := bnd H
   try dsimp only at H
   obtain ⟨⟨t701, t702⟩, A13, H⟩ := bnd H
   try dsimp only at H
   have HC14 := Aside0.mk H
   clear H
   go_enter Tryz.func14, Tryz.ntmps14
   go_upto_region 10 with (first | ((with_reducible refine gate_dst (N := 2) rfl ?_); refine bE 2 #[.string a0_0, .int .i64 a0_1, .slice A0_2 l0_2.length c0_2] 78 ?_; intro gb686 hg w15 hbox hb; have BK686 := Aside0.mk (hbox); have GE686 := bG hg; replace HB := BS hb; clear hb hbox hg; have hcz16 := cz3 BK686) | ((with_reducible refine gate_callee (f := 53) rfl ?_); refine goesL_ (some 16) rfl rfl Tryz.func53 KR rfl #[.agg #[.string a0_0, .int .i64 a0_1, .slice A0_2 l0_2.length c0_2], .int .i64 1048576] rfl TA ?_; (with_reducible refine (laws_szZone.calls k a0_0 a0_1 _ _ l0_2 1048576 t687 _ ?side1 ?side2 A5.out).mono ?_); (case side1 => exact CW ((Kd.C_below HR0_2.out HB.out))); (case side2 => exact HC0_2.out); rintro e w17 ⟨rfl, hb⟩; refine ⟨_, rfl, ?_⟩; replace BK686 := KB BK686 hb; replace HB := BS hb; (try clear hb); (try clear hb2); (try clear hk); (try clear hi); have hcz18 := cz3 BK686) | ((with_reducible refine gate_callee (f := 55) rfl ?_); refine goesL_ (some 21) rfl rfl Tryz.func55 KR rfl #[.agg #[.string a0_0, .int .i64 a0_1, .slice A0_2 l0_2.length c0_2]] rfl TA ?_; (with_reducible refine (laws_toZone.calls k a0_0 a0_1 _ _ l0_2 t688 t689 t690 _ ?side1 ?side2 A10.out).mono ?_); (case side1 => exact CW ((Kd.C_below HR0_2.out HB.out))); (case side2 => exact HC0_2.out); rintro e w19 ⟨v691, rfl, ho0, hb⟩; refine ⟨_, rfl, ?_⟩; have HO692 := RL ho0; replace BK686 := KB BK686 hb; replace HB := BS hb; (try clear hb); (try clear hb2); (try clear hk); (try clear hi); (try clear ho0); obtain ⟨Ao20, co20, eo20⟩ := Kd.R_slice HO692.out; subst eo20) | ((with_reducible refine gate_callee (f := 58) rfl ?_); refine goesL_ (some 23) rfl rfl Tryz.func58 KR rfl #[.agg #[.string t688, .int .i64 t689, .slice Ao20 t690.length co20], .string a1] rfl TA ?_; (with_reducible refine (spec_CutAbove.calls k t688 t689 _ _ t690 a1 t693 t694 _ ?side1 ?side2 A11.out).mono ?_); (case side1 => exact CW ((Kd.R_reads' HO692.out).2.2)); (case side2 => exact (Kd.R_reads' HO692.out).2.1); rintro e w21 ⟨rfl, hb⟩; refine ⟨_, rfl, ?_⟩; replace HO692 := RB HO692 hb; replace BK686 := KB BK686 hb; replace HB := BS hb; (try clear hb); (try clear hb2); (try clear hk); (try clear hi); have hcz22 := cz3 BK686) | ((with_reducible refine gate_callee (f := 55) rfl ?_); refine goesL_ (some 27) rfl rfl Tryz.func55 KR rfl #[.agg #[.string a0_0, .int .i64 a0_1, .slice A0_2 l0_2.length c0_2]] rfl TA ?_; (with_reducible refine (laws_toZone.calls k a0_0 a0_1 _ _ l0_2 t695 t696 t697 _ ?side1 ?side2 A12.out).mono ?_); (case side1 => exact CW ((Kd.C_below HR0_2.out HB.out))); (case side2 => exact HC0_2.out); rintro e w23 ⟨v698, rfl, ho0, hb⟩; refine ⟨_, rfl, ?_⟩; have HO699 := Aside0.mk (Kd.R_lower (Kd.R_new' ho0 (Kd.R_lt (RW HO692).out)) (below_size TB)); replace HO692 := Aside0.mk (Kd.R_elder' (RW HO692).out (Kd.R_base ho0) hb); replace BK686 := KB BK686 hb; replace HB := BS hb; (try clear hb); (try clear hb2); (try clear hk); (try clear hi); (try clear ho0)) | ((with_reducible refine gate_dst (N := 8) rfl ?_); refine bE 8 #[.string (⟨#[]⟩ : ByteArray), .int .i64 0, .slice none 0 0] 83 ?_; intro gb700 hg w24 hbox hb; replace HO692 := RB HO692 hb; replace HO699 := RB HO699 hb; have BK700 := Aside0.mk (hbox); have GE700 := bG hg; replace HB := BS hb; have NB686_700 := bN BK686 hg; have NB700_686 := bM BK686 hg; replace BK686 := KB BK686 hb; clear hb hbox hg; have hnb25 := NB700_686.out; have hnc25 := NB686_700.out; have hcz26 := cz3 BK700; obtain ⟨Ao27, co27, eo27⟩ := Kd.R_slice HO699.out; subst eo27) | ((with_reducible refine gate_callee (f := 59) rfl ?_); refine goesL_ (some 31) rfl rfl Tryz.func59 KR rfl #[.agg #[.string t695, .int .i64 t696, .slice Ao27 t697.length co27], .string a1] rfl TA ?_; (with_reducible refine (impl_CutAbove.calls k t695 t696 _ _ t697 a1 t701 t702 _ ?side1 ?side2 ?side3 A13.out).mono ?_); (case side1 => refine (Kd.R_reads' (e := 93) (base := w.heap.size) (ok := fun k_ => (True ∧ some k_ ≠ (.slice Ao20 t690.length co20 : Value).ownBlock)) (n := t697.length) (c := co27) ?_).2.2; exact (by (with_reducible repeat (first | apply Kd.R_alloc | apply Kd.R_drewN | apply Kd.R_drew)); exact (Kd.R_mono (Kd.R_far (p := ⟨gb700, 2, none⟩) (Kd.R_far (p := ⟨gb700, 1, none⟩) (Kd.R_far (p := ⟨gb700, 0, none⟩) (Kd.R_types HO699.out BK700.out (by decide)) (fun _ hk => hk.2) (.string t695)) (fun _ hk => hk.2) (.int .i64 t696)) (fun _ hk => hk.2) (.slice Ao27 t697.length co27)) (fun _ h_ => h_.1)))); (case side2 => exact (Kd.R_reads' HO699.out).2.1); (case side3 => exact GW HGL); rintro e w28 ⟨rfl, hb⟩; refine ⟨_, rfl, ?_⟩; replace HO692 := Aside0.mk (Kd.R_below (by (with_reducible repeat (first | apply Kd.R_alloc | apply Kd.R_drewN | apply Kd.R_drew)); exact (Kd.R_mono (Kd.R_far (p := ⟨gb700, 2, none⟩) (Kd.R_far (p := ⟨gb700, 1, none⟩) (Kd.R_far (p := ⟨gb700, 0, none⟩) (Kd.R_types HO692.out BK700.out (by decide)) (fun _ hk => hk.2) (.string t695)) (fun _ hk => hk.2) (.int .i64 t696)) (fun _ hk => hk.2) (.slice Ao27 t697.length co27)) (fun _ h_ => h_.1))) hb); replace HO699 := Aside0.mk (Kd.R_below (by (with_reducible repeat (first | apply Kd.R_alloc | apply Kd.R_drewN | apply Kd.R_drew)); exact (Kd.R_mono (Kd.R_far (p := ⟨gb700, 2, none⟩) (Kd.R_far (p := ⟨gb700, 1, none⟩) (Kd.R_far (p := ⟨gb700, 0, none⟩) (Kd.R_types HO699.out BK700.out (by decide)) (fun _ hk => hk.2) (.string t695)) (fun _ hk => hk.2) (.int .i64 t696)) (fun _ hk => hk.2) (.slice Ao27 t697.length co27)) (fun _ h_ => h_.1))) hb); replace BK686 := Aside0.mk (blk_below (g := gb686) (o := .cells #[.string a0_0, .int .i64 a0_1, .slice A0_2 l0_2.length c0_2] 78 (0, 0)) (by (with_reducible repeat (first | refine blk_drewN ?_ _ | refine blk_drew ?_ | refine blk_alloc ?_ _)); refine blk_far ?_ NB686_700.out _; (with_reducible repeat (first | refine blk_drewN ?_ _ | refine blk_drew ?_ | refine blk_alloc ?_ _)); refine blk_far ?_ NB686_700.out _; (with_reducible repeat (first | refine blk_drewN ?_ _ | refine blk_drew ?_ | refine blk_alloc ?_ _)); refine blk_far ?_ NB686_700.out _; (with_reducible repeat (first | refine blk_drewN ?_ _ | refine blk_drew ?_ | refine blk_alloc ?_ _)); exact BK686.out) hb); replace BK700 := Aside0.mk (blk_below (g := gb700) (o := .cells #[.string t695, .int .i64 t696, .slice Ao27 t697.length co27] 83 (0, 0)) (by (with_reducible repeat (first | refine blk_drewN ?_ _ | refine blk_drew ?_ | refine blk_alloc ?_ _)); refine blk_put (cs := #[.string t695, .int .i64 t696, .slice none 0 0]) ?_ 2 _ rfl; (with_reducible repeat (first | refine blk_drewN ?_ _ | refine blk_drew ?_ | refine blk_alloc ?_ _)); refine blk_put (cs := #[.string t695, .int .i64 0, .slice none 0 0]) ?_ 1 _ rfl; (with_reducible repeat (first | refine blk_drewN ?_ _ | refine blk_drew ?_ | refine blk_alloc ?_ _)); refine blk_put (cs := #[.string (⟨#[]⟩ : ByteArray), .int .i64 0, .slice none 0 0]) ?_ 0 _ rfl; (with_reducible repeat (first | refine blk_drewN ?_ _ | refine blk_drew ?_ | refine blk_alloc ?_ _)); exact BK700.out) hb); replace HB := BS hb; (try clear hb); (try clear hb2); (try clear hk); (try clear hi)))
   (try simp only [Act.put, List.setIfInBounds_toArray, List.set_cons_zero, List.set_cons_succ])
   go_cut [41] (fun v41 wc => ∃ (kq : Nat) (x41_13 : Bool), v41 = .bool x41_13 ∧ Aside0 (laws_FnExactCutAbove.j0 kq x41_13 a0_0 a0_1 l0_2 t695 t696 t697 = some r) ∧ Aside0 (kq ≤ k) ∧ Aside0 (Kd.R k_Record 93 wc w.heap.size (fun _ => True) (.slice Ao27 t697.length co27) t697) ∧ Aside0 (wc.heap[gb686]? = some (.cells #[.string a0_0, .int .i64 a0_1, (.slice A0_2 l0_2.length c0_2)] 78 (0, 0))) ∧ Aside0 (wc.heap[gb700]? = some (.cells #[.string t695, .int .i64 t696, (.slice Ao27 t697.length co27)] 83 (0, 0))) ∧ Aside0 (Below w.heap.size w wc))
   case first =>
    have H := HC14.out
    clear HC14
    by_cases c29 : t701.toList = t693.toList
    ·rw [if_pos c29] at H
     have c29b0 : (t701.toList == t693.toList) = true := beq_iff_eq.mpr c29
     have c29b1 : (t701.toList != t693.toList) = false := bne_eq_false_iff_eq.mpr c29
     clear c29
     (first | rw [c29b0] | (simp only [i64_w, i32_w]; rw [c29b0]) | skip)
     have H' := Aside0.mk H
     clear H
     go_wp2
     go_meet
     case rel => exact ⟨_, ((t702 != t694)), TF, H', ⟨by first | omega | exact Nat.le_refl _⟩, ⟨by (with_reducible repeat (first | apply Kd.R_alloc | apply Kd.R_drewN | apply Kd.R_drew)); exact Kd.R_mono HO699.out (fun _ hk => trivial)⟩, KW BK686, KW BK700, ⟨TB⟩⟩
    ·rw [if_neg c29] at H
     have c29b0 : (t701.toList == t693.toList) = false := beq_eq_false_iff_ne.mpr c29
     have c29b1 : (t701.toList != t693.toList) = true := bne_iff_ne.mpr c29
     (first | rw [c29b0] | (simp only [i64_w, i32_w]; rw [c29b0]) | skip)
     have H' := Aside0.mk H
     clear H
     go_wp2
     go_meet
     case rel => exact ⟨_, (true), TF, H', ⟨by first | omega | exact Nat.le_refl _⟩, ⟨by (with_reducible repeat (first | apply Kd.R_alloc | apply Kd.R_drewN | apply Kd.R_drew)); exact Kd.R_mono HO699.out (fun _ hk => trivial)⟩, KW BK686, KW BK700, ⟨TB⟩⟩
   case rest =>
    clear HC14
    try clear c1
    try clear c2
    try clear p2
    try clear c3
    try clear c3b0
    try clear c3b1
    try clear c5
    try clear c6
    try clear c6b0
    try clear c14
    try clear c25
    try clear c29
    try clear c29b0
    try clear c29b1
    try clear hcz16
    try clear hcz18
    try clear hcz22
    try clear hcz26
    try clear hcz8
    try clear hfz16_0
    try clear hfz16_1
    try clear hfz16_2
    try clear hfz18_0
    try clear hfz18_1
    try clear hfz18_2
    try clear hfz22_0
    try clear hfz22_1
    try clear hfz22_2
    try clear hfz26_0
    try clear hfz26_1
    try clear hfz26_2
    try clear hfz8_0
    try clear hfz8_1
    try clear hfz8_2
    obtain ⟨kq, x41_13, rfl, HA, HJ13, HO_701002, BK686, BK700, HB⟩ := hcut
    cases kq with
    | zero => exact absurd HA.out (by simp [laws_FnExactCutAbove.j0])
    | succ kj13 =>
     have H := HA.out
     clear HA
     simp only [laws_FnExactCutAbove.j0] at H
     by_cases c30 : x41_13 = true
     ·subst c30
      replace H := ift H
      obtain rfl := Option.some.inj H
      go_wp2
      go_ret
      exact ⟨TE, TB⟩
     ·replace c30 := Bool.eq_false_iff.mpr c30
      subst c30
      replace H := iff' H
      obtain ⟨⟨t703, t704, t705⟩, A31, H⟩ := bnd H
      try dsimp only at H
      obtain ⟨t708, A32, H⟩ := bnd H
      by_cases c33 : t708 = true
      ·subst c33
       replace H := ift H
       obtain rfl := Option.some.inj H
       try go_wp2
       replace HO_701002 := Aside0.mk (Kd.R_drew HO_701002.out)
       replace BK686 := Aside0.mk (blk_drew BK686.out)
       replace BK700 := Aside0.mk (blk_drew BK700.out)
       replace HB := Aside0.mk (below_drew1 HB.out)
       refine start_ (n := 5) (S := fun w' => w'.cell? ⟨gb700, 0, none⟩ = some (.string t695) ∧ w'.cell? ⟨gb700, 1, none⟩ = some (.int .i64 t696) ∧ w'.cell? ⟨gb700, 2, none⟩ = some (.slice Ao27 t697.length co27) ∧ w'.cell? ⟨gb686, 0, none⟩ = some (.string a0_0) ∧ w'.cell? ⟨gb686, 1, none⟩ = some (.int .i64 a0_1) ∧ w'.cell? ⟨gb686, 2, none⟩ = some (.slice A0_2 l0_2.length c0_2)) (ds := []) #[false, false, false, false, false] KR rfl rfl ⟨bc 0 BK700, bc 1 BK700, bc 2 BK700, bc 0 BK686, bc 1 BK686, bc 2 BK686⟩ (fun hHeld => ?_)
       generalize wc.drew = w34 at HO_701002 BK686 BK700 HB hHeld ⊢
       refine take_ (i := 0) (N := some 42) (v := ?_) (a' := ?_) #[true, false, false, false, false] rfl rfl KR (fun _ _ _ h => h) (Or.inl ⟨by rfl, ?_⟩) hHeld ?_ ?_
       rotate_left
       ·rintro w' ⟨s0, s1, s2, s3, s4, s5⟩
        go_simp
        with_reducible rfl
       rotate_left
       ·simp only [Act.put, List.setIfInBounds_toArray, List.set_cons_zero, List.set_cons_succ, i64_w, i32_w]
        rfl
       refine take_ (i := 1) (N := some 43) (v := ?_) (a' := ?_) #[true, true, false, false, false] rfl rfl KR (fun _ _ _ h => h) (Or.inl ⟨by rfl, ?_⟩) hHeld ?_ ?_
       rotate_left
       ·rintro w' ⟨s0, s1, s2, s3, s4, s5⟩
        go_simp
        with_reducible rfl
       rotate_left
       ·simp only [Act.put, List.setIfInBounds_toArray, List.set_cons_zero, List.set_cons_succ, i64_w, i32_w]
        rfl
       refine one_ (i := 2) (N := some 44) (mL 5 7) rfl rfl KR (by decide) (fun K hK => ?_)
       refine goes_ Tryz.func55 KR rfl #[.agg #[.string a0_0, .int .i64 a0_1, .slice A0_2 l0_2.length c0_2]] (by rfl) rfl rfl TA ?_
       with_reducible refine (laws_toZone.calls kj13 a0_0 a0_1 _ _ l0_2 t703 t704 t705 _ ?side1 ?side2 A31.out).mono ?_
       (case side1 => exact CW ((Kd.C_below HR0_2.out HB.out)))
       (case side2 => exact HC0_2.out)
       rintro e w35 ⟨v706, rfl, ho0, hb⟩
       refine ⟨_, rfl, ?_⟩
       have HO707 := Aside0.mk (Kd.R_lower (Kd.R_new' ho0 (Kd.R_lt (RW HO_701002).out)) (below_size TB))
       replace HO_701002 := Aside0.mk (Kd.R_elder' (RW HO_701002).out (Kd.R_base ho0) hb)
       replace BK686 := KB BK686 hb
       replace BK700 := KB BK700 hb
       replace HB := BS hb
       (try clear hb)
       (try clear hb2)
       (try clear hk)
       (try clear hi)
       (try clear ho0)
       obtain ⟨Ao36, co36, eo36⟩ := Kd.R_slice HO707.out
       (first | subst eo36 | (injection eo36 with f1_ f2_ f3_; have f4_ := f1_.symm; have f5_ := f3_.symm; clear f1_ f2_ f3_; subst f4_; subst f5_))
       refine hK.out _ _ ⟨bc 0 BK700, bc 1 BK700, bc 2 BK700, bc 0 BK686, bc 1 BK686, bc 2 BK686⟩ (fun hHeld => ?_)
       clear hK K
       refine nA ?_
       refine one_ (i := 3) (N := some 45) (mL 5 15) rfl rfl KR (by decide) (fun K hK => ?_)
       refine goes_ Tryz.func57 KR rfl #[.agg #[.string t695, .int .i64 t696, .slice Ao27 t697.length co27], .agg #[.string t703, .int .i64 t704, .slice Ao36 t705.length co36]] (by rfl) rfl rfl TA ?_
       with_reducible refine (laws_eqZone.calls kj13 t695 t696 _ _ t697 t703 t704 _ _ t705 true _ ?side1 ?side2 ?side3 ?side4 A32.out).mono ?_
       (case side1 => exact CW ((Kd.R_reads' HO_701002.out).2.2))
       (case side2 => exact (Kd.R_reads' HO_701002.out).2.1)
       (case side3 => exact CW ((Kd.R_reads' HO707.out).2.2))
       (case side4 => exact (Kd.R_reads' HO707.out).2.1)
       rintro e w37 ⟨rfl, hb⟩
       refine ⟨_, rfl, ?_⟩
       replace HO_701002 := RB HO_701002 hb
       replace HO707 := RB HO707 hb
       replace BK686 := KB BK686 hb
       replace BK700 := KB BK700 hb
       replace HB := BS hb
       (try clear hb)
       (try clear hb2)
       (try clear hk)
       (try clear hi)
       refine hK.out _ _ ⟨bc 0 BK700, bc 1 BK700, bc 2 BK700, bc 0 BK686, bc 1 BK686, bc 2 BK686⟩ (fun hHeld => ?_)
       clear hK K
       refine nA ?_
       refine pure_ (i := 4) (N := some 46) (v := ?_) (a' := ?_) #[true, true, true, true, true] rfl rfl KR (fun _ _ _ h => h) (Or.inl ⟨by rfl, ?_⟩) ?_ ?_
       rotate_left
       ·intro w'
        go_simp
        with_reducible rfl
       rotate_left
       ·simp only [Act.put, List.setIfInBounds_toArray, List.set_cons_zero, List.set_cons_succ, i64_w, i32_w]
        rfl
       refine done_ KR ?_
       try go_wp2
       go_ret
       exact ⟨TE, TB⟩
      ·replace c33 := Bool.eq_false_iff.mpr c33
       subst c33
       replace H := iff' H
       obtain rfl := Option.some.inj H
       try go_wp2
       replace HO_701002 := Aside0.mk (Kd.R_drew HO_701002.out)
       replace BK686 := Aside0.mk (blk_drew BK686.out)
       replace BK700 := Aside0.mk (blk_drew BK700.out)
       replace HB := Aside0.mk (below_drew1 HB.out)
       refine start_ (n := 5) (S := fun w' => w'.cell? ⟨gb700, 0, none⟩ = some (.string t695) ∧ w'.cell? ⟨gb700, 1, none⟩ = some (.int .i64 t696) ∧ w'.cell? ⟨gb700, 2, none⟩ = some (.slice Ao27 t697.length co27) ∧ w'.cell? ⟨gb686, 0, none⟩ = some (.string a0_0) ∧ w'.cell? ⟨gb686, 1, none⟩ = some (.int .i64 a0_1) ∧ w'.cell? ⟨gb686, 2, none⟩ = some (.slice A0_2 l0_2.length c0_2)) (ds := []) #[false, false, false, false, false] KR rfl rfl ⟨bc 0 BK700, bc 1 BK700, bc 2 BK700, bc 0 BK686, bc 1 BK686, bc 2 BK686⟩ (fun hHeld => ?_)
       generalize wc.drew = w38 at HO_701002 BK686 BK700 HB hHeld ⊢
       refine take_ (i := 0) (N := some 42) (v := ?_) (a' := ?_) #[true, false, false, false, false] rfl rfl KR (fun _ _ _ h => h) (Or.inl ⟨by rfl, ?_⟩) hHeld ?_ ?_
       rotate_left
       ·rintro w' ⟨s0, s1, s2, s3, s4, s5⟩
        go_simp
        with_reducible rfl
       rotate_left
       ·simp only [Act.put, List.setIfInBounds_toArray, List.set_cons_zero, List.set_cons_succ, i64_w, i32_w]
        rfl
       refine take_ (i := 1) (N := some 43) (v := ?_) (a' := ?_) #[true, true, false, false, false] rfl rfl KR (fun _ _ _ h => h) (Or.inl ⟨by rfl, ?_⟩) hHeld ?_ ?_
       rotate_left
       ·rintro w' ⟨s0, s1, s2, s3, s4, s5⟩
        go_simp
        with_reducible rfl
       rotate_left
       ·simp only [Act.put, List.setIfInBounds_toArray, List.set_cons_zero, List.set_cons_succ, i64_w, i32_w]
        rfl
       refine one_ (i := 2) (N := some 44) (mL 5 7) rfl rfl KR (by decide) (fun K hK => ?_)
       refine goes_ Tryz.func55 KR rfl #[.agg #[.string a0_0, .int .i64 a0_1, .slice A0_2 l0_2.length c0_2]] (by rfl) rfl rfl TA ?_
       with_reducible refine (laws_toZone.calls kj13 a0_0 a0_1 _ _ l0_2 t703 t704 t705 _ ?side1 ?side2 A31.out).mono ?_
       (case side1 => exact CW ((Kd.C_below HR0_2.out HB.out)))
       (case side2 => exact HC0_2.out)
       rintro e w39 ⟨v706, rfl, ho0, hb⟩
       refine ⟨_, rfl, ?_⟩
       have HO707 := Aside0.mk (Kd.R_lower (Kd.R_new' ho0 (Kd.R_lt (RW HO_701002).out)) (below_size TB))
       replace HO_701002 := Aside0.mk (Kd.R_elder' (RW HO_701002).out (Kd.R_base ho0) hb)
       replace BK686 := KB BK686 hb
       replace BK700 := KB BK700 hb
       replace HB := BS hb
       (try clear hb)
       (try clear hb2)
       (try clear hk)
       (try clear hi)
       (try clear ho0)
       obtain ⟨Ao40, co40, eo40⟩ := Kd.R_slice HO707.out
       (first | subst eo40 | (injection eo40 with f1_ f2_ f3_; have f4_ := f1_.symm; have f5_ := f3_.symm; clear f1_ f2_ f3_; subst f4_; subst f5_))
       refine hK.out _ _ ⟨bc 0 BK700, bc 1 BK700, bc 2 BK700, bc 0 BK686, bc 1 BK686, bc 2 BK686⟩ (fun hHeld => ?_)
       clear hK K
       refine nA ?_
       refine one_ (i := 3) (N := some 45) (mL 5 15) rfl rfl KR (by decide) (fun K hK => ?_)
       refine goes_ Tryz.func57 KR rfl #[.agg #[.string t695, .int .i64 t696, .slice Ao27 t697.length co27], .agg #[.string t703, .int .i64 t704, .slice Ao40 t705.length co40]] (by rfl) rfl rfl TA ?_
       with_reducible refine (laws_eqZone.calls kj13 t695 t696 _ _ t697 t703 t704 _ _ t705 false _ ?side1 ?side2 ?side3 ?side4 A32.out).mono ?_
       (case side1 => exact CW ((Kd.R_reads' HO_701002.out).2.2))
       (case side2 => exact (Kd.R_reads' HO_701002.out).2.1)
       (case side3 => exact CW ((Kd.R_reads' HO707.out).2.2))
       (case side4 => exact (Kd.R_reads' HO707.out).2.1)
       rintro e w41 ⟨rfl, hb⟩
       refine ⟨_, rfl, ?_⟩
       replace HO_701002 := RB HO_701002 hb
       replace HO707 := RB HO707 hb
       replace BK686 := KB BK686 hb
       replace BK700 := KB BK700 hb
       replace HB := BS hb
       (try clear hb)
       (try clear hb2)
       (try clear hk)
       (try clear hi)
       refine hK.out _ _ ⟨bc 0 BK700, bc 1 BK700, bc 2 BK700, bc 0 BK686, bc 1 BK686, bc 2 BK686⟩ (fun hHeld => ?_)
       clear hK K
       refine nA ?_
       refine pure_ (i := 4) (N := some 46) (v := ?_) (a' := ?_) #[true, true, true, true, true] rfl rfl KR (fun _ _ _ h => h) (Or.inl ⟨by rfl, ?_⟩) ?_ ?_
       rotate_left
       ·intro w'
        go_simp
        with_reducible rfl
       rotate_left
       ·simp only [Act.put, List.setIfInBounds_toArray, List.set_cons_zero, List.set_cons_succ, i64_w, i32_w]
        rfl
       refine done_ KR ?_
       try go_wp2
       go_ret
       exact ⟨TE, TB⟩

/-- THE ONE PURE STATEMENT of laws_FnExactCutAbove. -/
def laws_FnExactCutAbove.Pure : Prop := ∀ (a0_0 : ByteArray) (a0_1 : Int) (l0_2 : List (S_LRecord)) (a1 : ByteArray), (a0_0.size ≤ maxLen) → ((Lit.int .i64 a0_1).wf = true) → (l0_2.length ≤ maxLen ∧ ∀ x_ ∈ l0_2, WF_LRecord x_) → (a1.size ≤ maxLen) → ∃ k, laws_FnExactCutAbove.f k a0_0 a0_1 l0_2 a1 = some true
end
end Go.Proofs.YthohohfmdieohaaGreatDoor.Pp
