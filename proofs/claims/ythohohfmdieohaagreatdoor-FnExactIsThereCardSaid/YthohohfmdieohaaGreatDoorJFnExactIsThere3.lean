/- The functions that the law reaches, one Lean function and its proof for each; written by wip/pp of this workplace, joined by claimit.py. -/
import Derived.Test.YthohohfmdieohaaGreatDoorProg
import Derived.Below
import Derived.Deep.Draws
import Derived.Deep.AppendLies
import Derived.Maps.AppendAt
import Derived.OwnWalk
import Derived.Laws.BytesArg
import Derived.Laws.MakeOwn
import Derived.Laws.OwnMore
import Derived.Deep.OwnRows
import Derived.Tactics
import Derived.Lib.ConvBytes
import Derived.Laws.Slices
import Derived.WalkKit
import Derived.KernelRfl
import Derived.RowKit3
import Derived.Deep.LoopGhost
import Derived.Deep.QuietTactic
import Derived.BigQuiet
import Derived.WideLaws
import Derived.Deep.DeepCutAuto
import Derived.Deep.CutBlock
import Derived.Deep.RegionHeld3
import Derived.Laws.Rows
import Derived.Lib.AppendStr
import Derived.ArgAppend
import Derived.Laws.IdiomCopy
import Derived.OrdersHeld
import Derived.Laws.BitsLemmas
import Derived.RowKit
import Derived.Test.YthohohfmdieohaaGreatDoorKFnExactIsThereW
import Derived.Test.YthohohfmdieohaaGreatDoorJFnExactIsThere0
import Derived.Test.YthohohfmdieohaaGreatDoorJFnExactIsThere1
import Derived.Test.YthohohfmdieohaaGreatDoorJFnExactIsThere2
namespace Go.Proofs.YthohohfmdieohaaGreatDoor.Pp
open Go.RowKit Go.Proofs.YthohohfmdieohaaGreatDoorW.PrintWords Go.Proofs.YthohohfmdieohaaGreatDoorW.PrintLast Go.Proofs.YthohohfmdieohaaGreatDoorW.PrintMore
attribute [local go_sem] max2_int min2_int max_two min_two max_three min_three max_four min_four   -- for this text's walks alone
set_option linter.unusedVariables false
set_option linter.unusedSimpArgs false
set_option maxHeartbeats 8000000
set_option maxRecDepth 100000

section
/-! ### impl_GoodZone: function 113 -/
def impl_GoodZone.f (k : Nat) (a0_0 : ByteArray) (a0_1 : Int) (l0_2 : List (S_Record)) : Option (Bool) := (impl_isCounter.f a0_1).bind fun t661 => (if t661 = true then ((impl_RuleOf.f k a0_0 l0_2).bind fun t662 => (if t662 = 0 then ((impl_at.f k l0_2 a0_0 6).bind fun t663 => (if 0 < (t663.length : Int) then ((impl_serialText.f a0_1).bind fun t667 => (some (((rd_TRecord t663 0).f3).toList == t667.toList))) else (none))) else (some false))) else (some false))
def impl_GoodZone.T1 : Bool × List (List Nat × List Nat) := (true, [([], []), ([0], [0]), ([1], [1]), ([2, 2], [2]), ([3], [3]), ([4, 3], [3, 4]), ([3], [3]), ([6, 3], [3, 6]), ([5, 7, 3, 3], [3, 5, 7]), ([8, 3], [3, 8]), ([3, 9], [3, 9]), ([10, 8], [10]), ([11], [11]), ([12, 11], [11, 12]), ([11], [11]), ([14, 11], [11, 14]), ([13, 15, 11, 11], [11, 13, 15]), ([16, 11], [11, 16]), ([17, 11], [11, 17]), ([18, 11], [11, 18]), ([11], [11]), ([20, 11], [11, 20]), ([21, 16, 11], [11, 21]), ([19, 22, 11], [11, 19, 22]), ([11, 23], [11, 23]), ([24, 22, 0, 1, 2, 3, 4, 5, 6, 7, 8, 9, 10, 11, 12, 13, 14, 15, 16, 17, 18, 19, 20, 21, 22, 23, 24], [24])])
def impl_GoodZone.B1 : List Nat := [0, 1, 3, 7, 15, 31, 15, 79, 255, 511, 1023, 2047, 4095, 8191, 4095, 20479, 65535, 131071, 262143, 524287, 4095, 1052671, 3276799, 8388607, 16777215, 33554431]
theorem impl_GoodZone.tab1 : rtab .any (opsOf Tryz.f113 1) = impl_GoodZone.T1 := by kernel_rfl
theorem impl_GoodZone.bits1 : waitsOk impl_GoodZone.T1.2 impl_GoodZone.B1 = true := by kernel_rfl
theorem impl_GoodZone.calls (k : Nat) (a0_0 : ByteArray) (a0_1 : Int) (A0_2 : Option Addr) (c0_2 : Nat) (l0_2 : List (S_Record)) (r : Bool) (w : World) (hr0_2 : Kd.C k_Record w A0_2 l0_2.length l0_2) (hc0_2 : l0_2.length ≤ c0_2) (hG_ : Glob w) (h : impl_GoodZone.f k a0_0 a0_1 l0_2 = some r) :
  Calls Tryz.prog 113 #[.agg #[.string a0_0, .int .i64 a0_1, .slice A0_2 l0_2.length c0_2]] w fun e w' => e = .returned (.bool r) ∧ Below w.heap.size w w' := by
 have hu83 := Tryz.underlying83
 have HR0_2 := Aside0.mk hr0_2
 have HC0_2 := Aside0.mk hc0_2
 clear hr0_2 hc0_2
 have HGL := Aside0.mk hG_
 clear hG_
 have HB := Aside0.mk (Below.refl w.heap.size w)
 have H : ((impl_isCounter.f a0_1).bind fun t661 => (if t661 = true then ((impl_RuleOf.f k a0_0 l0_2).bind fun t662 => (if t662 = 0 then ((impl_at.f k l0_2 a0_0 6).bind fun t663 => (if 0 < (t663.length : Int) then ((impl_serialText.f a0_1).bind fun t667 => (some (((rd_TRecord t663 0).f3).toList == t667.toList))) else (none))) else (some false))) else (some false))) = some r := h
 clear h
 obtain ⟨t661, A2, H⟩ := bnd H
 by_cases c3 : t661 = true
 ·subst c3
  replace H := ift H
  obtain ⟨t662, A4, H⟩ := bnd H
  by_cases c5 : t662 = 0
  ·rw [if_pos c5] at H
   have c5b0 : (t662 == 0) = true := beq_iff_eq.mpr c5
   have c5b1 : (t662 != 0) = false := bne_eq_false_iff_eq.mpr c5
   clear c5
   obtain ⟨t663, A6, H⟩ := bnd H
   obtain ⟨c7, H⟩ := ifn H
   have c7b0 : decide (0 < (t663.length : Int)) = true := decide_eq_true c7
   have c7b1 : decide (0 < t663.length) = true := decide_eq_true (by omega)
   clear c7
   obtain ⟨t667, A8, H⟩ := bnd H
   obtain rfl := Option.some.inj H
   go_enter Tryz.func113, Tryz.ntmps113
   try go_wp2_with (first | ((with_reducible refine gate_dst (N := 1) rfl ?_); refine bE 1 #[.string a0_0, .int .i64 a0_1, .slice A0_2 l0_2.length c0_2] 83 ?_; intro gb660 hg w9 hbox hb; have BK660 := Aside0.mk (hbox); have GE660 := bG hg; replace HB := BS hb; clear hb hbox hg))
   replace BK660 := Aside0.mk (blk_drew BK660.out)
   replace HB := Aside0.mk (below_drew1 HB.out)
   refine start_ (n := 26) (S := fun w' => w'.cell? ⟨gb660, 0, none⟩ = some (.string a0_0) ∧ w'.cell? ⟨gb660, 1, none⟩ = some (.int .i64 a0_1) ∧ w'.cell? ⟨gb660, 2, none⟩ = some (.slice A0_2 l0_2.length c0_2)) (ds := []) #[false, false, false, false, false, false, false, false, false, false, false, false, false, false, false, false, false, false, false, false, false, false, false, false, false, false] KR rfl rfl ⟨bc 0 BK660, bc 1 BK660, bc 2 BK660⟩ (fun hHeld => ?_); refine with_tabW impl_GoodZone.tab1 impl_GoodZone.bits1 (fun HT_ HW_ => ?_)
   generalize w9.drew = w10 at BK660 HB hHeld ⊢
   refine pA 0 3 (mL 26 1) HT_ rfl rfl ?_
   refine tA 1 4 (mL 26 3) HT_ HW_ hHeld rfl rfl (by rintro w' ⟨s0, s1, s2⟩; go_simp; with_reducible rfl) ?_
   refine one_ (i := 2) (N := some 5) (mL 26 7) rfl rfl (one_of HT_.out KR) (by decide) (fun K hK => ?_)
   refine goes_ Tryz.func78 KR rfl #[.int .i64 a0_1] (by rfl) rfl rfl TA ?_
   with_reducible refine (impl_isCounter.calls a0_1 true _ A2.out).mono ?_
   rintro e w' ⟨rfl, ⟨nd, rfl⟩⟩
   refine ⟨_, rfl, ?_⟩
   refine hK.out _ _ ⟨bc 0 BK660, bc 1 BK660, bc 2 BK660⟩ (fun hHeld => ?_)
   clear hK K
   refine nA ?_
   refine pA 3 6 (mL 26 15) HT_ rfl rfl ?_
   refine pA 4 7 (mL 26 31) HT_ rfl rfl ?_
   refine pA 6 9 (mL 26 95) HT_ rfl rfl ?_
   refine tA 5 8 (mL 26 127) HT_ HW_ hHeld rfl rfl (by rintro w' ⟨s0, s1, s2⟩; go_simp; with_reducible rfl) ?_
   refine tA 7 10 (mL 26 255) HT_ HW_ hHeld rfl rfl (by rintro w' ⟨s0, s1, s2⟩; go_simp; with_reducible rfl) ?_
   refine one_ (i := 8) (N := some 11) (mL 26 511) rfl rfl (one_of HT_.out KR) (by decide) (fun K hK => ?_)
   refine goes_ Tryz.func153 KR rfl #[.string a0_0, .slice A0_2 l0_2.length c0_2] (by rfl) rfl rfl TA ?_
   with_reducible refine (impl_RuleOf.calls k a0_0 _ _ l0_2 t662 _ ?side1 ?side2 ?side3 A4.out).mono ?_
   (case side1 => exact CW ((Kd.C_below HR0_2.out TB)))
   (case side2 => exact HC0_2.out)
   (case side3 => exact GW HGL)
   rintro e w11 ⟨rfl, hb⟩
   refine ⟨_, rfl, ?_⟩
   replace BK660 := KB BK660 hb
   replace HB := BS hb
   (try clear hb)
   (try clear hb2)
   (try clear hk)
   (try clear hi)
   refine hK.out _ _ ⟨bc 0 BK660, bc 1 BK660, bc 2 BK660⟩ (fun hHeld => ?_)
   clear hK K
   refine nA ?_
   refine pA 9 12 (mL 26 1023) HT_ rfl rfl ?_
   refine pA 10 13 (mL 26 2047) HT_ rfl rfl ?_
   refine pA 11 14 (mL 26 4095) HT_ rfl rfl ?_
   refine pA 12 15 (mL 26 8191) HT_ rfl rfl ?_
   refine pA 14 17 (mL 26 24575) HT_ rfl rfl ?_
   refine pA 20 23 (mL 26 1073151) HT_ rfl rfl ?_
   refine tA 13 16 (mL 26 1081343) HT_ HW_ hHeld rfl rfl (by rintro w' ⟨s0, s1, s2⟩; go_simp; with_reducible rfl) ?_
   refine tA 15 18 (mL 26 1114111) HT_ HW_ hHeld rfl rfl (by rintro w' ⟨s0, s1, s2⟩; go_simp; with_reducible rfl) ?_
   refine tA 21 24 (mL 26 3211263) HT_ HW_ hHeld rfl rfl (by rintro w' ⟨s0, s1, s2⟩; go_simp; with_reducible rfl) ?_
   refine one_ (i := 16) (N := some 19) (mL 26 3276799) rfl rfl (one_of HT_.out KR) (by decide) (fun K hK => ?_)
   refine goes_ Tryz.func154 KR rfl #[.slice A0_2 l0_2.length c0_2, .string a0_0, .int .i64 6] (by rfl) rfl rfl TA ?_
   with_reducible refine (impl_at.calls k _ _ l0_2 a0_0 6 t663 _ ?side1 ?side2 A6.out).mono ?_
   (case side1 => exact CW ((Kd.C_below HR0_2.out HB.out)))
   (case side2 => exact HC0_2.out)
   rintro e w12 ⟨v664, rfl, ho0, hb⟩
   refine ⟨_, rfl, ?_⟩
   have HO665 := RL ho0
   replace BK660 := KB BK660 hb
   replace HB := BS hb
   (try clear hb)
   (try clear hb2)
   (try clear hk)
   (try clear hi)
   (try clear ho0)
   obtain ⟨Ao13, co13, eo13⟩ := Kd.R_slice HO665.out
   (first | subst eo13 | (injection eo13 with f1_ f2_ f3_; have f4_ := f1_.symm; have f5_ := f3_.symm; clear f1_ f2_ f3_; subst f4_; subst f5_))
   have p666 : 0 ≤ (0 : Int) := (by omega)
   have q666 : 0 < (t663.length : Int) := TD
   obtain ⟨ad666, e666, hx666_0, hx666_1, hx666_2, hx666_3⟩ := at_TRecord (Kd.R_reads' HO665.out).2.2 0 p666 q666
   cases e666
   have qi666 : (0 < t663.length) = True := eq_true (by omega)
   (try rw [show ((0 : Int)).toNat = 0 from rfl] at hx666_0)
   (try rw [show 0 * 4 = 0 from rfl] at hx666_0)
   (try rw [Addr.add_zero'] at hx666_0)
   (try rw [show ((0 : Int)).toNat = 0 from rfl] at hx666_1)
   (try rw [show 0 * 4 = 0 from rfl] at hx666_1)
   (try rw [Addr.add_zero'] at hx666_1)
   (try rw [show ((0 : Int)).toNat = 0 from rfl] at hx666_2)
   (try rw [show 0 * 4 = 0 from rfl] at hx666_2)
   (try rw [Addr.add_zero'] at hx666_2)
   (try rw [show ((0 : Int)).toNat = 0 from rfl] at hx666_3)
   (try rw [show 0 * 4 = 0 from rfl] at hx666_3)
   (try rw [Addr.add_zero'] at hx666_3)
   replace p666 := eq_true p666
   replace q666 := eq_true q666
   refine hK.out _ _ ⟨bc 0 BK660, bc 1 BK660, bc 2 BK660⟩ (fun hHeld => ?_)
   clear hK K
   refine nA ?_
   refine more_ (fun w' => w'.cell? ⟨gb660, 0, none⟩ = some (.string a0_0) ∧ w'.cell? ⟨gb660, 1, none⟩ = some (.int .i64 a0_1) ∧ w'.cell? ⟨gb660, 2, none⟩ = some (.slice A0_2 l0_2.length c0_2) ∧ w'.cell? ad666 = some (.string ((rd_TRecord t663 0).f0)) ∧ w'.cell? ⟨ad666.block, ad666.off + 1, none⟩ = some (.int .i64 ((rd_TRecord t663 0).f1)) ∧ w'.cell? ⟨ad666.block, ad666.off + 2, none⟩ = some (.int .i64 ((rd_TRecord t663 0).f2)) ∧ w'.cell? ⟨ad666.block, ad666.off + 3, none⟩ = some (.string ((rd_TRecord t663 0).f3))) (fun w' h => ⟨h.1, h.2.1, h.2.2.1⟩) ⟨bc 0 BK660, bc 1 BK660, bc 2 BK660, hx666_0, hx666_1, hx666_2, hx666_3⟩ (fun hHeld => ?_)
   refine pA 17 20 (mL 26 3407871) HT_ rfl rfl ?_
   refine pA 18 21 (mL 26 3670015) HT_ rfl rfl ?_
   refine tA 19 22 (mL 26 4194303) HT_ HW_ hHeld rfl rfl (by rintro w' ⟨s0, s1, s2, s3, s4, s5, s6⟩; go_simp; with_reducible rfl) ?_
   refine one_ (i := 22) (N := some 25) (mL 26 8388607) rfl rfl (one_of HT_.out KR) (by decide) (fun K hK => ?_)
   refine goes_ Tryz.func155 KR rfl #[.int .i64 a0_1] (by rfl) rfl rfl TA ?_
   with_reducible refine (impl_serialText.calls a0_1 t667 _ ?side1 A8.out).mono ?_
   (case side1 => exact GW HGL)
   rintro e w14 ⟨rfl, hb⟩
   have HS3_ := (hb.cell (World.block_lt_of_cell? _ _ (hHeld.2.2.2.1))).trans (hHeld.2.2.2.1)
   have HS4_ := (hb.cell (World.block_lt_of_cell? _ _ (hHeld.2.2.2.2.1))).trans (hHeld.2.2.2.2.1)
   have HS5_ := (hb.cell (World.block_lt_of_cell? _ _ (hHeld.2.2.2.2.2.1))).trans (hHeld.2.2.2.2.2.1)
   have HS6_ := (hb.cell (World.block_lt_of_cell? _ _ (hHeld.2.2.2.2.2.2))).trans (hHeld.2.2.2.2.2.2)
   refine ⟨_, rfl, ?_⟩
   replace HO665 := RB HO665 hb
   replace BK660 := KB BK660 hb
   replace HB := BS hb
   (try clear hb)
   (try clear hb2)
   (try clear hk)
   (try clear hi)
   refine hK.out _ _ ⟨bc 0 BK660, bc 1 BK660, bc 2 BK660, HS3_, HS4_, HS5_, HS6_⟩ (fun hHeld => ?_)
   clear hK K
   refine nA ?_
   refine pA 23 26 (mL 26 16777215) HT_ rfl rfl ?_
   refine pA 24 27 (mL 26 33554431) HT_ rfl rfl ?_
   refine pA 25 2 (mL 26 67108863) HT_ rfl rfl ?_
   refine done_ (done_of HT_.out KR) ?_
   try go_wp2
   go_ret
   exact ⟨TE, TB⟩
  ·rw [if_neg c5] at H
   have c5b0 : (t662 == 0) = false := beq_eq_false_iff_ne.mpr c5
   have c5b1 : (t662 != 0) = true := bne_iff_ne.mpr c5
   obtain rfl := Option.some.inj H
   go_enter Tryz.func113, Tryz.ntmps113
   try go_wp2_with (first | ((with_reducible refine gate_dst (N := 1) rfl ?_); refine bE 1 #[.string a0_0, .int .i64 a0_1, .slice A0_2 l0_2.length c0_2] 83 ?_; intro gb660 hg w15 hbox hb; have BK660 := Aside0.mk (hbox); have GE660 := bG hg; replace HB := BS hb; clear hb hbox hg))
   replace BK660 := Aside0.mk (blk_drew BK660.out)
   replace HB := Aside0.mk (below_drew1 HB.out)
   refine start_ (n := 26) (S := fun w' => w'.cell? ⟨gb660, 0, none⟩ = some (.string a0_0) ∧ w'.cell? ⟨gb660, 1, none⟩ = some (.int .i64 a0_1) ∧ w'.cell? ⟨gb660, 2, none⟩ = some (.slice A0_2 l0_2.length c0_2)) (ds := []) #[false, false, false, false, false, false, false, false, false, false, false, false, false, false, false, false, false, false, false, false, false, false, false, false, false, false] KR rfl rfl ⟨bc 0 BK660, bc 1 BK660, bc 2 BK660⟩ (fun hHeld => ?_); refine with_tabW impl_GoodZone.tab1 impl_GoodZone.bits1 (fun HT_ HW_ => ?_)
   generalize w15.drew = w16 at BK660 HB hHeld ⊢
   refine pA 0 3 (mL 26 1) HT_ rfl rfl ?_
   refine tA 1 4 (mL 26 3) HT_ HW_ hHeld rfl rfl (by rintro w' ⟨s0, s1, s2⟩; go_simp; with_reducible rfl) ?_
   refine one_ (i := 2) (N := some 5) (mL 26 7) rfl rfl (one_of HT_.out KR) (by decide) (fun K hK => ?_)
   refine goes_ Tryz.func78 KR rfl #[.int .i64 a0_1] (by rfl) rfl rfl TA ?_
   with_reducible refine (impl_isCounter.calls a0_1 true _ A2.out).mono ?_
   rintro e w' ⟨rfl, ⟨nd, rfl⟩⟩
   refine ⟨_, rfl, ?_⟩
   refine hK.out _ _ ⟨bc 0 BK660, bc 1 BK660, bc 2 BK660⟩ (fun hHeld => ?_)
   clear hK K
   refine nA ?_
   refine pA 3 6 (mL 26 15) HT_ rfl rfl ?_
   refine pA 4 7 (mL 26 31) HT_ rfl rfl ?_
   refine pA 6 9 (mL 26 95) HT_ rfl rfl ?_
   refine tA 5 8 (mL 26 127) HT_ HW_ hHeld rfl rfl (by rintro w' ⟨s0, s1, s2⟩; go_simp; with_reducible rfl) ?_
   refine tA 7 10 (mL 26 255) HT_ HW_ hHeld rfl rfl (by rintro w' ⟨s0, s1, s2⟩; go_simp; with_reducible rfl) ?_
   refine one_ (i := 8) (N := some 11) (mL 26 511) rfl rfl (one_of HT_.out KR) (by decide) (fun K hK => ?_)
   refine goes_ Tryz.func153 KR rfl #[.string a0_0, .slice A0_2 l0_2.length c0_2] (by rfl) rfl rfl TA ?_
   with_reducible refine (impl_RuleOf.calls k a0_0 _ _ l0_2 t662 _ ?side1 ?side2 ?side3 A4.out).mono ?_
   (case side1 => exact CW ((Kd.C_below HR0_2.out TB)))
   (case side2 => exact HC0_2.out)
   (case side3 => exact GW HGL)
   rintro e w17 ⟨rfl, hb⟩
   refine ⟨_, rfl, ?_⟩
   replace BK660 := KB BK660 hb
   replace HB := BS hb
   (try clear hb)
   (try clear hb2)
   (try clear hk)
   (try clear hi)
   refine hK.out _ _ ⟨bc 0 BK660, bc 1 BK660, bc 2 BK660⟩ (fun hHeld => ?_)
   clear hK K
   refine nA ?_
   refine pA 9 12 (mL 26 1023) HT_ rfl rfl ?_
   refine pA 10 13 (mL 26 2047) HT_ rfl rfl ?_
   refine pA 11 14 (mL 26 4095) HT_ rfl rfl ?_
   refine pU 12 15 (mL 26 8191) HT_ rfl rfl ?_
   refine pU 13 16 (mL 26 16383) HT_ rfl rfl ?_
   refine pU 14 17 (mL 26 32767) HT_ rfl rfl ?_
   refine pU 15 18 (mL 26 65535) HT_ rfl rfl ?_
   refine pU 16 19 (mL 26 131071) HT_ rfl rfl ?_
   refine pU 17 20 (mL 26 262143) HT_ rfl rfl ?_
   refine pU 18 21 (mL 26 524287) HT_ rfl rfl ?_
   refine pU 19 22 (mL 26 1048575) HT_ rfl rfl ?_
   refine pU 20 23 (mL 26 2097151) HT_ rfl rfl ?_
   refine pU 21 24 (mL 26 4194303) HT_ rfl rfl ?_
   refine pU 22 25 (mL 26 8388607) HT_ rfl rfl ?_
   refine pU 23 26 (mL 26 16777215) HT_ rfl rfl ?_
   refine pA 24 27 (mL 26 33554431) HT_ rfl rfl ?_
   refine pA 25 2 (mL 26 67108863) HT_ rfl rfl ?_
   refine done_ (done_of HT_.out KR) ?_
   try go_wp2
   go_ret
   exact ⟨TE, TB⟩
 ·replace c3 := Bool.eq_false_iff.mpr c3
  subst c3
  replace H := iff' H
  obtain rfl := Option.some.inj H
  go_enter Tryz.func113, Tryz.ntmps113
  try go_wp2_with (first | ((with_reducible refine gate_dst (N := 1) rfl ?_); refine bE 1 #[.string a0_0, .int .i64 a0_1, .slice A0_2 l0_2.length c0_2] 83 ?_; intro gb660 hg w18 hbox hb; have BK660 := Aside0.mk (hbox); have GE660 := bG hg; replace HB := BS hb; clear hb hbox hg))
  replace BK660 := Aside0.mk (blk_drew BK660.out)
  replace HB := Aside0.mk (below_drew1 HB.out)
  refine start_ (n := 26) (S := fun w' => w'.cell? ⟨gb660, 0, none⟩ = some (.string a0_0) ∧ w'.cell? ⟨gb660, 1, none⟩ = some (.int .i64 a0_1) ∧ w'.cell? ⟨gb660, 2, none⟩ = some (.slice A0_2 l0_2.length c0_2)) (ds := []) #[false, false, false, false, false, false, false, false, false, false, false, false, false, false, false, false, false, false, false, false, false, false, false, false, false, false] KR rfl rfl ⟨bc 0 BK660, bc 1 BK660, bc 2 BK660⟩ (fun hHeld => ?_); refine with_tabW impl_GoodZone.tab1 impl_GoodZone.bits1 (fun HT_ HW_ => ?_)
  generalize w18.drew = w19 at BK660 HB hHeld ⊢
  refine pA 0 3 (mL 26 1) HT_ rfl rfl ?_
  refine tA 1 4 (mL 26 3) HT_ HW_ hHeld rfl rfl (by rintro w' ⟨s0, s1, s2⟩; go_simp; with_reducible rfl) ?_
  refine one_ (i := 2) (N := some 5) (mL 26 7) rfl rfl (one_of HT_.out KR) (by decide) (fun K hK => ?_)
  refine goes_ Tryz.func78 KR rfl #[.int .i64 a0_1] (by rfl) rfl rfl TA ?_
  with_reducible refine (impl_isCounter.calls a0_1 false _ A2.out).mono ?_
  rintro e w' ⟨rfl, ⟨nd, rfl⟩⟩
  refine ⟨_, rfl, ?_⟩
  refine hK.out _ _ ⟨bc 0 BK660, bc 1 BK660, bc 2 BK660⟩ (fun hHeld => ?_)
  clear hK K
  refine nA ?_
  refine pA 3 6 (mL 26 15) HT_ rfl rfl ?_
  refine pU 4 7 (mL 26 31) HT_ rfl rfl ?_
  refine pU 5 8 (mL 26 63) HT_ rfl rfl ?_
  refine pU 6 9 (mL 26 127) HT_ rfl rfl ?_
  refine pU 7 10 (mL 26 255) HT_ rfl rfl ?_
  refine pU 8 11 (mL 26 511) HT_ rfl rfl ?_
  refine pU 9 12 (mL 26 1023) HT_ rfl rfl ?_
  refine pA 10 13 (mL 26 2047) HT_ rfl rfl ?_
  refine pA 11 14 (mL 26 4095) HT_ rfl rfl ?_
  refine pU 12 15 (mL 26 8191) HT_ rfl rfl ?_
  refine pU 13 16 (mL 26 16383) HT_ rfl rfl ?_
  refine pU 14 17 (mL 26 32767) HT_ rfl rfl ?_
  refine pU 15 18 (mL 26 65535) HT_ rfl rfl ?_
  refine pU 16 19 (mL 26 131071) HT_ rfl rfl ?_
  refine pU 17 20 (mL 26 262143) HT_ rfl rfl ?_
  refine pU 18 21 (mL 26 524287) HT_ rfl rfl ?_
  refine pU 19 22 (mL 26 1048575) HT_ rfl rfl ?_
  refine pU 20 23 (mL 26 2097151) HT_ rfl rfl ?_
  refine pU 21 24 (mL 26 4194303) HT_ rfl rfl ?_
  refine pU 22 25 (mL 26 8388607) HT_ rfl rfl ?_
  refine pU 23 26 (mL 26 16777215) HT_ rfl rfl ?_
  refine pA 24 27 (mL 26 33554431) HT_ rfl rfl ?_
  refine pA 25 2 (mL 26 67108863) HT_ rfl rfl ?_
  refine done_ (done_of HT_.out KR) ?_
  try go_wp2
  go_ret
  exact ⟨TE, TB⟩
end
section
/-! ### impl_isThere_1: function 156 -/
def impl_isThere_1.f (a0_0 : ByteArray) (a0_1 : Int) (a0_2 : Int) (a0_3 : ByteArray) (a1_0 : ByteArray) : Option (Bool) := (impl_isBelow.f a0_0 a1_0).bind fun t1143 => (some t1143)
theorem impl_isThere_1.calls (a0_0 : ByteArray) (a0_1 : Int) (a0_2 : Int) (a0_3 : ByteArray) (g1_ : Nat) (a1_0 : ByteArray) (r : Bool) (w : World) (hkg1_ : w.heap[g1_]? = some (.cells #[.string a1_0] 9 (0, 0))) (h : impl_isThere_1.f a0_0 a0_1 a0_2 a0_3 a1_0 = some r) :
  Calls Tryz.prog 156 #[.agg #[.string a0_0, .int .i64 a0_1, .int .i64 a0_2, .string a0_3], .pointer (some ⟨g1_, 0, none⟩)] w fun e w' => e = .returned (.bool r) ∧ Below w.heap.size w w' := by
 have hu93 := Tryz.underlying93
 have BKrg1_ := Aside0.mk hkg1_
 clear hkg1_
 have HB := Aside0.mk (Below.refl w.heap.size w)
 have H : ((impl_isBelow.f a0_0 a1_0).bind fun t1143 => (some t1143)) = some r := h
 clear h
 obtain ⟨t1143, A3, H⟩ := bnd H
 obtain rfl := Option.some.inj H
 go_enter Tryz.func156, Tryz.ntmps156
 go_wp2_with (first | ((with_reducible refine gate_dst (N := 2) rfl ?_); refine bE 2 #[.string a0_0, .int .i64 a0_1, .int .i64 a0_2, .string a0_3] 93 ?_; intro gb1142 hg w4 hbox hb; have BK1142 := Aside0.mk (hbox); have GE1142 := bG hg; replace HB := BS hb; have NB1_1142 := bN BKrg1_ hg; have NB1142_1 := bM BKrg1_ hg; replace BKrg1_ := KB BKrg1_ hb; clear hb hbox hg; have hnb5 := NB1142_1.out; have hnc5 := NB1_1142.out; have hcz6 := cz4 BK1142; have hcz7 := cz1 BKrg1_) | ((with_reducible refine gate_callee (f := 110) rfl ?_); refine goesL_ (some 7) rfl rfl Tryz.func110 KR rfl #[.string a0_0, .string a1_0] rfl TA ?_; (with_reducible refine (impl_isBelow.calls a0_0 a1_0 t1143 _ A3.out).mono ?_); rintro e w' ⟨rfl, ⟨nd, rfl⟩⟩; refine ⟨_, rfl, ?_⟩))
 go_ret
 exact ⟨TE, TB⟩
end
section
/-! ### slices_IndexFunc_impl_Record_impl_Record_isThere_1: function 122 -/
def slices_IndexFunc_impl_Record_impl_Record_isThere_1.l0 : Nat → List (S_Record) → Int → Int → ByteArray → Option (Int)
 | 0, _, _, _, _ => none
 | k + 1, x0, x7, x8, x59000 => if x8 < x7 then (if 0 ≤ x8 then (if x8 < (x0.length : Int) then ((impl_isThere_1.f ((rd_TRecord x0 x8).f0) ((rd_TRecord x0 x8).f1) ((rd_TRecord x0 x8).f2) ((rd_TRecord x0 x8).f3) x59000).bind fun t1145 => (if t1145 = true then (some x8) else (slices_IndexFunc_impl_Record_impl_Record_isThere_1.l0 k x0 x7 (wrap64 (x8 + 1)) x59000))) else (none)) else (none)) else (some (-1))
def slices_IndexFunc_impl_Record_impl_Record_isThere_1.f (k : Nat) (l0 : List (S_Record)) (a1_0 : ByteArray) : Option (Int) := slices_IndexFunc_impl_Record_impl_Record_isThere_1.l0 k l0 (l0.length : Int) 0 a1_0
theorem slices_IndexFunc_impl_Record_impl_Record_isThere_1.calls (k : Nat) (A0 : Option Addr) (c0 : Nat) (l0 : List (S_Record)) (g1_0_ : Nat) (a1_0 : ByteArray) (r : Int) (w : World) (hr0 : Kd.C k_Record w A0 l0.length l0) (hc0 : l0.length ≤ c0) (hkg1_0_ : w.heap[g1_0_]? = some (.cells #[.string a1_0] 9 (0, 0))) (h : slices_IndexFunc_impl_Record_impl_Record_isThere_1.f k l0 a1_0 = some r) :
  Calls Tryz.prog 122 #[.slice A0 l0.length c0, .func (.func 156) #[] #[.pointer (some ⟨g1_0_, 0, none⟩)]] w fun e w' => e = .returned (.int .i64 r) ∧ Below w.heap.size w w' := by
 have hu93 := Tryz.underlying93
 have HR0 := Aside0.mk hr0
 have HC0 := Aside0.mk hc0
 clear hr0 hc0
 have BKrg1_0_ := Aside0.mk hkg1_0_
 clear hkg1_0_
 have HB := Aside0.mk (Below.refl w.heap.size w)
 have H : (slices_IndexFunc_impl_Record_impl_Record_isThere_1.l0 k l0 (l0.length : Int) 0 a1_0) = some r := h
 clear h
 have H' := Aside0.mk H
 clear H
 go_enter Tryz.func122, Tryz.ntmps122
 go_wp2
 go_loopg [8] k (fun kq v8 w' => ∃ (x8_1 : Int), v8 = .int .i64 x8_1 ∧ Aside0 (slices_IndexFunc_impl_Record_impl_Record_isThere_1.l0 kq l0 (l0.length : Int) x8_1 a1_0 = some r) ∧ Aside0 (kq ≤ k) ∧ Aside0 (w'.heap[g1_0_]? = some (.cells #[.string a1_0] 9 (0, 0))) ∧ Aside0 (Below w.heap.size w w'))
 case atStart => exact ⟨(0), TF, H', ⟨Nat.le_refl _⟩, KW BKrg1_0_, ⟨TB⟩⟩
 case round =>
  clear H'
  try clear c1
  try clear p2
  obtain ⟨x8_1, rfl, HA, HK1, BKrg1_0_, HB⟩ := hrel
  cases gk with
  | zero => exact absurd HA.out (by simp [slices_IndexFunc_impl_Record_impl_Record_isThere_1.l0])
  | succ k1 =>
   have H := HA.out
   clear HA
   simp only [slices_IndexFunc_impl_Record_impl_Record_isThere_1.l0] at H
   by_cases c3 : x8_1 < (l0.length : Int)
   ·rw [if_pos c3] at H
    have c3b0 : decide (x8_1 < (l0.length : Int)) = true := decide_eq_true c3
    clear c3
    obtain ⟨c4, H⟩ := ifn H
    have c4b0 : decide (0 ≤ x8_1) = true := decide_eq_true c4
    clear c4
    obtain ⟨c5, H⟩ := ifn H
    have c5b0 : decide (x8_1 < (l0.length : Int)) = true := decide_eq_true c5
    clear c5
    obtain ⟨t1145, A6, H⟩ := bnd H
    by_cases c7 : t1145 = true
    ·subst c7
     replace H := ift H
     obtain rfl := Option.some.inj H
     have p1144 : 0 ≤ (x8_1 : Int) := TD
     have q1144 : x8_1 < (l0.length : Int) := TD
     obtain ⟨ad1144, e1144, hx1144_0, hx1144_1, hx1144_2, hx1144_3⟩ := at_TRecord (Kd.C_below HR0.out HB.out) x8_1 p1144 q1144
     cases e1144
     replace p1144 := eq_true p1144
     replace q1144 := eq_true q1144
     go_wp2_with (first | (go_at_call 156; (with_reducible refine (impl_isThere_1.calls ((rd_TRecord l0 x8_1).f0) ((rd_TRecord l0 x8_1).f1) ((rd_TRecord l0 x8_1).f2) ((rd_TRecord l0 x8_1).f3) g1_0_ a1_0 true _ ?side1 A6.out).mono ?_); (case side1 => exact (KW BKrg1_0_).out); rintro e w8 ⟨rfl, hb⟩; replace BKrg1_0_ := KB BKrg1_0_ hb; replace HB := BS hb; (try clear hb); (try clear hb2); (try clear hk); (try clear hi)))
     go_ret
     exact ⟨TE, TB⟩
    ·replace c7 := Bool.eq_false_iff.mpr c7
     subst c7
     replace H := iff' H
     have H' := Aside0.mk H
     clear H
     have p1144 : 0 ≤ (x8_1 : Int) := TD
     have q1144 : x8_1 < (l0.length : Int) := TD
     obtain ⟨ad1144, e1144, hx1144_0, hx1144_1, hx1144_2, hx1144_3⟩ := at_TRecord (Kd.C_below HR0.out HB.out) x8_1 p1144 q1144
     cases e1144
     replace p1144 := eq_true p1144
     replace q1144 := eq_true q1144
     go_wp2_with (first | (go_at_call 156; (with_reducible refine (impl_isThere_1.calls ((rd_TRecord l0 x8_1).f0) ((rd_TRecord l0 x8_1).f1) ((rd_TRecord l0 x8_1).f2) ((rd_TRecord l0 x8_1).f3) g1_0_ a1_0 false _ ?side1 A6.out).mono ?_); (case side1 => exact (KW BKrg1_0_).out); rintro e w9 ⟨rfl, hb⟩; replace BKrg1_0_ := KB BKrg1_0_ hb; replace HB := BS hb; (try clear hb); (try clear hb2); (try clear hk); (try clear hi)))
     go_roundg k1
     case measure => have := HK1.out; omega
     case rel => exact ⟨(wrap64 (x8_1 + 1)), TF, H', ⟨TM⟩, KW BKrg1_0_, ⟨TB⟩⟩
   ·rw [if_neg c3] at H
    have c3b0 : decide (x8_1 < (l0.length : Int)) = false := decide_eq_false c3
    clear c3
    obtain rfl := Option.some.inj H
    go_wp2
    go_ret
    exact ⟨TE, TB⟩
end
section
/-! ### slices_ContainsFunc_impl_Record_impl_Record_isThere_1: function 66 -/
def slices_ContainsFunc_impl_Record_impl_Record_isThere_1.f (k : Nat) (l0 : List (S_Record)) (a1_0 : ByteArray) : Option (Bool) := (slices_IndexFunc_impl_Record_impl_Record_isThere_1.f k l0 a1_0).bind fun t1146 => (some (decide (t1146 ≥ 0)))
theorem slices_ContainsFunc_impl_Record_impl_Record_isThere_1.calls (k : Nat) (A0 : Option Addr) (c0 : Nat) (l0 : List (S_Record)) (g1_0_ : Nat) (a1_0 : ByteArray) (r : Bool) (w : World) (hr0 : Kd.C k_Record w A0 l0.length l0) (hc0 : l0.length ≤ c0) (hkg1_0_ : w.heap[g1_0_]? = some (.cells #[.string a1_0] 9 (0, 0))) (h : slices_ContainsFunc_impl_Record_impl_Record_isThere_1.f k l0 a1_0 = some r) :
  Calls Tryz.prog 66 #[.slice A0 l0.length c0, .func (.func 156) #[] #[.pointer (some ⟨g1_0_, 0, none⟩)]] w fun e w' => e = .returned (.bool r) ∧ Below w.heap.size w w' := by
 have HR0 := Aside0.mk hr0
 have HC0 := Aside0.mk hc0
 clear hr0 hc0
 have BKrg1_0_ := Aside0.mk hkg1_0_
 clear hkg1_0_
 have HB := Aside0.mk (Below.refl w.heap.size w)
 have H : ((slices_IndexFunc_impl_Record_impl_Record_isThere_1.f k l0 a1_0).bind fun t1146 => (some (decide (t1146 ≥ 0)))) = some r := h
 clear h
 obtain ⟨t1146, A3, H⟩ := bnd H
 obtain rfl := Option.some.inj H
 go_enter Tryz.func66, Tryz.ntmps66
 go_wp2_with (first | ((with_reducible refine gate_callee (f := 122) rfl ?_); refine goesL_ (some 7) rfl rfl Tryz.func122 KR rfl #[.slice A0 l0.length c0, .func (.func 156) #[] #[.pointer (some ⟨g1_0_, 0, none⟩)]] rfl TA ?_; (with_reducible refine (slices_IndexFunc_impl_Record_impl_Record_isThere_1.calls k _ _ l0 g1_0_ a1_0 t1146 _ ?side1 ?side2 ?side3 A3.out).mono ?_); (case side1 => exact CW (HR0.out)); (case side2 => exact HC0.out); (case side3 => exact (KW BKrg1_0_).out); rintro e w4 ⟨rfl, hb⟩; refine ⟨_, rfl, ?_⟩; replace BKrg1_0_ := KB BKrg1_0_ hb; replace HB := BS hb; (try clear hb); (try clear hb2); (try clear hk); (try clear hi)))
 go_ret
 exact ⟨TE, TB⟩
end
section
/-! ### impl_isThere: function 114 -/
def impl_isThere.f (k : Nat) (a0_0 : ByteArray) (a0_1 : Int) (l0_2 : List (S_Record)) (a1 : ByteArray) : Option (Bool) := (impl_isBelow.f a1 a0_0).bind fun t1149 => (if t1149 = true then ((slices_ContainsFunc_impl_Record_impl_Record_isThere_1.f k l0_2 a1).bind fun t1150 => (some t1150)) else (some false))
theorem impl_isThere.calls (k : Nat) (a0_0 : ByteArray) (a0_1 : Int) (A0_2 : Option Addr) (c0_2 : Nat) (l0_2 : List (S_Record)) (a1 : ByteArray) (r : Bool) (w : World) (hr0_2 : Kd.C k_Record w A0_2 l0_2.length l0_2) (hc0_2 : l0_2.length ≤ c0_2) (h : impl_isThere.f k a0_0 a0_1 l0_2 a1 = some r) :
  Calls Tryz.prog 114 #[.agg #[.string a0_0, .int .i64 a0_1, .slice A0_2 l0_2.length c0_2], .string a1] w fun e w' => e = .returned (.bool r) ∧ Below w.heap.size w w' := by
 have hu83 := Tryz.underlying83
 have HR0_2 := Aside0.mk hr0_2
 have HC0_2 := Aside0.mk hc0_2
 clear hr0_2 hc0_2
 have HB := Aside0.mk (Below.refl w.heap.size w)
 have H : ((impl_isBelow.f a1 a0_0).bind fun t1149 => (if t1149 = true then ((slices_ContainsFunc_impl_Record_impl_Record_isThere_1.f k l0_2 a1).bind fun t1150 => (some t1150)) else (some false))) = some r := h
 clear h
 obtain ⟨t1149, A3, H⟩ := bnd H
 by_cases c4 : t1149 = true
 ·subst c4
  replace H := ift H
  obtain ⟨t1150, A5, H⟩ := bnd H
  obtain rfl := Option.some.inj H
  go_enter Tryz.func114, Tryz.ntmps114
  go_wp2_with (first | ((with_reducible refine gate_dst (N := 2) rfl ?_); refine bE 2 #[.string a0_0, .int .i64 a0_1, .slice A0_2 l0_2.length c0_2] 83 ?_; intro gb1147 hg w6 hbox hb; have BK1147 := Aside0.mk (hbox); have GE1147 := bG hg; replace HB := BS hb; clear hb hbox hg) | ((with_reducible refine gate_dst (N := 3) rfl ?_); refine bE 3 #[.string a1] 9 ?_; intro gb1148 hg w7 hbox hb; have BK1148 := Aside0.mk (hbox); have GE1148 := bG hg; replace HB := BS hb; have NB1147_1148 := bN BK1147 hg; have NB1148_1147 := bM BK1147 hg; replace BK1147 := KB BK1147 hb; clear hb hbox hg; have hnb8 := NB1148_1147.out; have hnc8 := NB1147_1148.out; have hcz9 := cz1 BK1148; have hcz10 := cz3 BK1147) | ((with_reducible refine gate_callee (f := 110) rfl ?_); refine goesL_ (some 8) rfl rfl Tryz.func110 KR rfl #[.string a1, .string a0_0] rfl TA ?_; (with_reducible refine (impl_isBelow.calls a1 a0_0 true _ A3.out).mono ?_); rintro e w' ⟨rfl, ⟨nd, rfl⟩⟩; refine ⟨_, rfl, ?_⟩) | (go_at_call 66; (with_reducible refine (slices_ContainsFunc_impl_Record_impl_Record_isThere_1.calls k _ _ l0_2 gb1148 a1 t1150 _ ?side1 ?side2 ?side3 A5.out).mono ?_); (case side1 => exact CW ((Kd.C_below HR0_2.out TB))); (case side2 => exact HC0_2.out); (case side3 => exact (KW BK1148).out); rintro e w11 ⟨rfl, hb⟩; replace BK1147 := KB BK1147 hb; replace BK1148 := KB BK1148 hb; replace HB := BS hb; (try clear hb); (try clear hb2); (try clear hk); (try clear hi)))
  go_ret
  exact ⟨TE, TB⟩
 ·replace c4 := Bool.eq_false_iff.mpr c4
  subst c4
  replace H := iff' H
  obtain rfl := Option.some.inj H
  go_enter Tryz.func114, Tryz.ntmps114
  go_wp2_with (first | ((with_reducible refine gate_dst (N := 2) rfl ?_); refine bE 2 #[.string a0_0, .int .i64 a0_1, .slice A0_2 l0_2.length c0_2] 83 ?_; intro gb1147 hg w12 hbox hb; have BK1147 := Aside0.mk (hbox); have GE1147 := bG hg; replace HB := BS hb; clear hb hbox hg) | ((with_reducible refine gate_dst (N := 3) rfl ?_); refine bE 3 #[.string a1] 9 ?_; intro gb1148 hg w13 hbox hb; have BK1148 := Aside0.mk (hbox); have GE1148 := bG hg; replace HB := BS hb; have NB1147_1148 := bN BK1147 hg; have NB1148_1147 := bM BK1147 hg; replace BK1147 := KB BK1147 hb; clear hb hbox hg; have hnb14 := NB1148_1147.out; have hnc14 := NB1147_1148.out; have hcz15 := cz1 BK1148; have hcz16 := cz3 BK1147) | ((with_reducible refine gate_callee (f := 110) rfl ?_); refine goesL_ (some 8) rfl rfl Tryz.func110 KR rfl #[.string a1, .string a0_0] rfl TA ?_; (with_reducible refine (impl_isBelow.calls a1 a0_0 false _ A3.out).mono ?_); rintro e w' ⟨rfl, ⟨nd, rfl⟩⟩; refine ⟨_, rfl, ?_⟩))
  go_ret
  exact ⟨TE, TB⟩
end
section
/-! ### impl_IsThere: function 56 -/
def impl_IsThere.f (k : Nat) (a0_0 : ByteArray) (a0_1 : Int) (l0_2 : List (S_Record)) (a1 : ByteArray) : Option (Bool × Bool) := (impl_GoodZone.f k a0_0 a0_1 l0_2).bind fun t1152 => (if t1152 = true then ((impl_GoodName.f k a1).bind fun t1153 => (if t1153 = true then ((impl_isThere.f k a0_0 a0_1 l0_2 a1).bind fun t1154 => (some (t1154, true))) else (some (false, false)))) else (some (false, false)))
theorem impl_IsThere.calls (k : Nat) (a0_0 : ByteArray) (a0_1 : Int) (A0_2 : Option Addr) (c0_2 : Nat) (l0_2 : List (S_Record)) (a1 : ByteArray) (r1 : Bool) (r2 : Bool) (w : World) (hr0_2 : Kd.C k_Record w A0_2 l0_2.length l0_2) (hc0_2 : l0_2.length ≤ c0_2) (hG_ : Glob w) (h : impl_IsThere.f k a0_0 a0_1 l0_2 a1 = some (r1, r2)) :
  Calls Tryz.prog 56 #[.agg #[.string a0_0, .int .i64 a0_1, .slice A0_2 l0_2.length c0_2], .string a1] w fun e w' => e = .returned (.tuple #[.bool r1, .bool r2]) ∧ Below w.heap.size w w' := by
 have hu83 := Tryz.underlying83
 have HR0_2 := Aside0.mk hr0_2
 have HC0_2 := Aside0.mk hc0_2
 clear hr0_2 hc0_2
 have HGL := Aside0.mk hG_
 clear hG_
 have HB := Aside0.mk (Below.refl w.heap.size w)
 have H : ((impl_GoodZone.f k a0_0 a0_1 l0_2).bind fun t1152 => (if t1152 = true then ((impl_GoodName.f k a1).bind fun t1153 => (if t1153 = true then ((impl_isThere.f k a0_0 a0_1 l0_2 a1).bind fun t1154 => (some (t1154, true))) else (some (false, false)))) else (some (false, false)))) = some (r1, r2) := h
 clear h
 obtain ⟨t1152, A3, H⟩ := bnd H
 by_cases c4 : t1152 = true
 ·subst c4
  replace H := ift H
  obtain ⟨t1153, A5, H⟩ := bnd H
  by_cases c6 : t1153 = true
  ·subst c6
   replace H := ift H
   obtain ⟨t1154, A7, H⟩ := bnd H
   simp only [Option.some.injEq, Prod.mk.injEq] at H
   obtain ⟨rfl, rfl⟩ := H
   go_enter Tryz.func56, Tryz.ntmps56
   go_wp2_with (first | ((with_reducible refine gate_dst (N := 2) rfl ?_); refine bE 2 #[.string a0_0, .int .i64 a0_1, .slice A0_2 l0_2.length c0_2] 83 ?_; intro gb1151 hg w8 hbox hb; have BK1151 := Aside0.mk (hbox); have GE1151 := bG hg; replace HB := BS hb; clear hb hbox hg; have hcz9 := cz3 BK1151) | ((with_reducible refine gate_callee (f := 113) rfl ?_); refine goesL_ (some 7) rfl rfl Tryz.func113 KR rfl #[.agg #[.string a0_0, .int .i64 a0_1, .slice A0_2 l0_2.length c0_2]] rfl TA ?_; (with_reducible refine (impl_GoodZone.calls k a0_0 a0_1 _ _ l0_2 true _ ?side1 ?side2 ?side3 A3.out).mono ?_); (case side1 => exact CW ((Kd.C_below HR0_2.out HB.out))); (case side2 => exact HC0_2.out); (case side3 => exact GW HGL); rintro e w10 ⟨rfl, hb⟩; refine ⟨_, rfl, ?_⟩; replace BK1151 := KB BK1151 hb; replace HB := BS hb; (try clear hb); (try clear hb2); (try clear hk); (try clear hi)) | (go_at_call 77; (with_reducible refine (impl_GoodName.calls k a1 true _ A5.out).mono ?_); rintro e w11 ⟨rfl, hb⟩; replace BK1151 := KB BK1151 hb; replace HB := BS hb; (try clear hb); (try clear hb2); (try clear hk); (try clear hi); have hcz12 := cz3 BK1151) | ((with_reducible refine gate_callee (f := 114) rfl ?_); refine goesL_ (some 16) rfl rfl Tryz.func114 KR rfl #[.agg #[.string a0_0, .int .i64 a0_1, .slice A0_2 l0_2.length c0_2], .string a1] rfl TA ?_; (with_reducible refine (impl_isThere.calls k a0_0 a0_1 _ _ l0_2 a1 t1154 _ ?side1 ?side2 A7.out).mono ?_); (case side1 => exact CW ((Kd.C_below HR0_2.out HB.out))); (case side2 => exact HC0_2.out); rintro e w13 ⟨rfl, hb⟩; refine ⟨_, rfl, ?_⟩; replace BK1151 := KB BK1151 hb; replace HB := BS hb; (try clear hb); (try clear hb2); (try clear hk); (try clear hi)))
   go_ret2
   exact ⟨TE, TB⟩
  ·replace c6 := Bool.eq_false_iff.mpr c6
   subst c6
   replace H := iff' H
   simp only [Option.some.injEq, Prod.mk.injEq] at H
   obtain ⟨rfl, rfl⟩ := H
   go_enter Tryz.func56, Tryz.ntmps56
   go_wp2_with (first | ((with_reducible refine gate_dst (N := 2) rfl ?_); refine bE 2 #[.string a0_0, .int .i64 a0_1, .slice A0_2 l0_2.length c0_2] 83 ?_; intro gb1151 hg w14 hbox hb; have BK1151 := Aside0.mk (hbox); have GE1151 := bG hg; replace HB := BS hb; clear hb hbox hg; have hcz15 := cz3 BK1151) | ((with_reducible refine gate_callee (f := 113) rfl ?_); refine goesL_ (some 7) rfl rfl Tryz.func113 KR rfl #[.agg #[.string a0_0, .int .i64 a0_1, .slice A0_2 l0_2.length c0_2]] rfl TA ?_; (with_reducible refine (impl_GoodZone.calls k a0_0 a0_1 _ _ l0_2 true _ ?side1 ?side2 ?side3 A3.out).mono ?_); (case side1 => exact CW ((Kd.C_below HR0_2.out HB.out))); (case side2 => exact HC0_2.out); (case side3 => exact GW HGL); rintro e w16 ⟨rfl, hb⟩; refine ⟨_, rfl, ?_⟩; replace BK1151 := KB BK1151 hb; replace HB := BS hb; (try clear hb); (try clear hb2); (try clear hk); (try clear hi)) | (go_at_call 77; (with_reducible refine (impl_GoodName.calls k a1 false _ A5.out).mono ?_); rintro e w17 ⟨rfl, hb⟩; replace BK1151 := KB BK1151 hb; replace HB := BS hb; (try clear hb); (try clear hb2); (try clear hk); (try clear hi)))
   go_ret2
   exact ⟨TE, TB⟩
 ·replace c4 := Bool.eq_false_iff.mpr c4
  subst c4
  replace H := iff' H
  simp only [Option.some.injEq, Prod.mk.injEq] at H
  obtain ⟨rfl, rfl⟩ := H
  go_enter Tryz.func56, Tryz.ntmps56
  go_wp2_with (first | ((with_reducible refine gate_dst (N := 2) rfl ?_); refine bE 2 #[.string a0_0, .int .i64 a0_1, .slice A0_2 l0_2.length c0_2] 83 ?_; intro gb1151 hg w18 hbox hb; have BK1151 := Aside0.mk (hbox); have GE1151 := bG hg; replace HB := BS hb; clear hb hbox hg; have hcz19 := cz3 BK1151) | ((with_reducible refine gate_callee (f := 113) rfl ?_); refine goesL_ (some 7) rfl rfl Tryz.func113 KR rfl #[.agg #[.string a0_0, .int .i64 a0_1, .slice A0_2 l0_2.length c0_2]] rfl TA ?_; (with_reducible refine (impl_GoodZone.calls k a0_0 a0_1 _ _ l0_2 false _ ?side1 ?side2 ?side3 A3.out).mono ?_); (case side1 => exact CW ((Kd.C_below HR0_2.out HB.out))); (case side2 => exact HC0_2.out); (case side3 => exact GW HGL); rintro e w20 ⟨rfl, hb⟩; refine ⟨_, rfl, ?_⟩; replace BK1151 := KB BK1151 hb; replace HB := BS hb; (try clear hb); (try clear hb2); (try clear hk); (try clear hi)))
  go_ret2
  exact ⟨TE, TB⟩
end
section
/-! ### laws_FnExactIsThere: function 13 -/
def laws_FnExactIsThere.j0 : Nat → Bool → ByteArray → Int → List (S_LRecord) → ByteArray → Int → List (S_Record) → Option (Bool)
 | 0, _, _, _, _, _, _, _ => none
 | k + 1, x41, x1156000, x1156001, x1156002, x1170000, x1170001, x1170002 => if x41 = true then (some false) else ((laws_toZone.f k x1156000 x1156001 x1156002).bind fun bt1172 => ((laws_eqZone.f k x1170000 x1170001 x1170002 bt1172.1 bt1172.2.1 bt1172.2.2).bind fun t1177 => (if t1177 = true then (some true) else (some false))))
def laws_FnExactIsThere.f (k : Nat) (a0_0 : ByteArray) (a0_1 : Int) (l0_2 : List (S_LRecord)) (a1 : ByteArray) : Option (Bool) := if (a1.size : Int) > 1048576 then (some true) else ((laws_szZone.f k a0_0 a0_1 l0_2 1048576).bind fun t1156 => (if t1156 < 0 then (some true) else ((laws_toZone.f k a0_0 a0_1 l0_2).bind fun bt1157 => ((spec_IsThere.f k bt1157.1 bt1157.2.1 bt1157.2.2 a1).bind fun bt1162 => ((laws_toZone.f k a0_0 a0_1 l0_2).bind fun bt1164 => ((impl_IsThere.f k bt1164.1 bt1164.2.1 bt1164.2.2 a1).bind fun bt1170 => (if (bt1170.1 != bt1162.1) = true then (laws_FnExactIsThere.j0 k true a0_0 a0_1 l0_2 bt1164.1 bt1164.2.1 bt1164.2.2) else (laws_FnExactIsThere.j0 k (bt1170.2 != bt1162.2) a0_0 a0_1 l0_2 bt1164.1 bt1164.2.1 bt1164.2.2))))))))
theorem laws_FnExactIsThere.calls (k : Nat) (a0_0 : ByteArray) (a0_1 : Int) (A0_2 : Option Addr) (c0_2 : Nat) (l0_2 : List (S_LRecord)) (a1 : ByteArray) (r : Bool) (w : World) (hr0_2 : Kd.C k_LRecord w A0_2 l0_2.length l0_2) (hc0_2 : l0_2.length ≤ c0_2) (hG_ : Glob w) (h : laws_FnExactIsThere.f k a0_0 a0_1 l0_2 a1 = some r) :
  Calls Tryz.prog 13 #[.agg #[.string a0_0, .int .i64 a0_1, .slice A0_2 l0_2.length c0_2], .string a1] w fun e w' => e = .returned (.bool r) ∧ Below w.heap.size w w' := by
 have hu78 := Tryz.underlying78
 have hu83 := Tryz.underlying83
 have HR0_2 := Aside0.mk hr0_2
 have HC0_2 := Aside0.mk hc0_2
 clear hr0_2 hc0_2
 have HGL := Aside0.mk hG_
 clear hG_
 have HB := Aside0.mk (Below.refl w.heap.size w)
 have H : (if (a1.size : Int) > 1048576 then (some true) else ((laws_szZone.f k a0_0 a0_1 l0_2 1048576).bind fun t1156 => (if t1156 < 0 then (some true) else ((laws_toZone.f k a0_0 a0_1 l0_2).bind fun bt1157 => ((spec_IsThere.f k bt1157.1 bt1157.2.1 bt1157.2.2 a1).bind fun bt1162 => ((laws_toZone.f k a0_0 a0_1 l0_2).bind fun bt1164 => ((impl_IsThere.f k bt1164.1 bt1164.2.1 bt1164.2.2 a1).bind fun bt1170 => (if (bt1170.1 != bt1162.1) = true then (laws_FnExactIsThere.j0 k true a0_0 a0_1 l0_2 bt1164.1 bt1164.2.1 bt1164.2.2) else (laws_FnExactIsThere.j0 k (bt1170.2 != bt1162.2) a0_0 a0_1 l0_2 bt1164.1 bt1164.2.1 bt1164.2.2))))))))) = some r := h
 clear h
 by_cases c3 : (a1.size : Int) > 1048576
 ·rw [if_pos c3] at H
  have c3b0 : decide (1048576 < (a1.size : Int)) = true := decide_eq_true c3
  have c3b1 : decide (1048576 < a1.size) = true := decide_eq_true (by omega)
  clear c3
  obtain rfl := Option.some.inj H
  go_enter Tryz.func13, Tryz.ntmps13
  go_wp2_with (first | ((with_reducible refine gate_dst (N := 2) rfl ?_); refine bE 2 #[.string a0_0, .int .i64 a0_1, .slice A0_2 l0_2.length c0_2] 78 ?_; intro gb1155 hg w4 hbox hb; have BK1155 := Aside0.mk (hbox); have GE1155 := bG hg; replace HB := BS hb; clear hb hbox hg))
  go_ret
  exact ⟨TE, TB⟩
 ·rw [if_neg c3] at H
  have c3b0 : decide (1048576 < (a1.size : Int)) = false := decide_eq_false c3
  have c3b1 : decide (1048576 < a1.size) = false := decide_eq_false (by omega)
  clear c3
  obtain ⟨t1156, A5, H⟩ := bnd H
  by_cases c6 : t1156 < 0
  ·rw [if_pos c6] at H
   have c6b0 : decide (t1156 < 0) = true := decide_eq_true c6
   clear c6
   obtain rfl := Option.some.inj H
   go_enter Tryz.func13, Tryz.ntmps13
   go_wp2_with (first | ((with_reducible refine gate_dst (N := 2) rfl ?_); refine bE 2 #[.string a0_0, .int .i64 a0_1, .slice A0_2 l0_2.length c0_2] 78 ?_; intro gb1155 hg w7 hbox hb; have BK1155 := Aside0.mk (hbox); have GE1155 := bG hg; replace HB := BS hb; clear hb hbox hg; have hcz8 := cz3 BK1155) | ((with_reducible refine gate_callee (f := 53) rfl ?_); refine goesL_ (some 16) rfl rfl Tryz.func53 KR rfl #[.agg #[.string a0_0, .int .i64 a0_1, .slice A0_2 l0_2.length c0_2], .int .i64 1048576] rfl TA ?_; (with_reducible refine (laws_szZone.calls k a0_0 a0_1 _ _ l0_2 1048576 t1156 _ ?side1 ?side2 A5.out).mono ?_); (case side1 => exact CW ((Kd.C_below HR0_2.out HB.out))); (case side2 => exact HC0_2.out); rintro e w9 ⟨rfl, hb⟩; refine ⟨_, rfl, ?_⟩; replace BK1155 := KB BK1155 hb; replace HB := BS hb; (try clear hb); (try clear hb2); (try clear hk); (try clear hi)))
   go_ret
   exact ⟨TE, TB⟩
  ·rw [if_neg c6] at H
   have c6b0 : decide (t1156 < 0) = false := decide_eq_false c6
   clear c6
   obtain ⟨⟨t1157, t1158, t1159⟩, A10, H⟩ := bnd H
   try dsimp only at H
   obtain ⟨⟨t1162, t1163⟩, A11, H⟩ := bnd H
   try dsimp only at H
   obtain ⟨⟨t1164, t1165, t1166⟩, A12, H⟩ := bnd H
   try dsimp only at H
   obtain ⟨⟨t1170, t1171⟩, A13, H⟩ := bnd H
   try dsimp only at H
   have HC14 := Aside0.mk H
   clear H
   go_enter Tryz.func13, Tryz.ntmps13
   go_upto_region 10 with (first | ((with_reducible refine gate_dst (N := 2) rfl ?_); refine bE 2 #[.string a0_0, .int .i64 a0_1, .slice A0_2 l0_2.length c0_2] 78 ?_; intro gb1155 hg w15 hbox hb; have BK1155 := Aside0.mk (hbox); have GE1155 := bG hg; replace HB := BS hb; clear hb hbox hg; have hcz16 := cz3 BK1155) | ((with_reducible refine gate_callee (f := 53) rfl ?_); refine goesL_ (some 16) rfl rfl Tryz.func53 KR rfl #[.agg #[.string a0_0, .int .i64 a0_1, .slice A0_2 l0_2.length c0_2], .int .i64 1048576] rfl TA ?_; (with_reducible refine (laws_szZone.calls k a0_0 a0_1 _ _ l0_2 1048576 t1156 _ ?side1 ?side2 A5.out).mono ?_); (case side1 => exact CW ((Kd.C_below HR0_2.out HB.out))); (case side2 => exact HC0_2.out); rintro e w17 ⟨rfl, hb⟩; refine ⟨_, rfl, ?_⟩; replace BK1155 := KB BK1155 hb; replace HB := BS hb; (try clear hb); (try clear hb2); (try clear hk); (try clear hi); have hcz18 := cz3 BK1155) | ((with_reducible refine gate_callee (f := 55) rfl ?_); refine goesL_ (some 21) rfl rfl Tryz.func55 KR rfl #[.agg #[.string a0_0, .int .i64 a0_1, .slice A0_2 l0_2.length c0_2]] rfl TA ?_; (with_reducible refine (laws_toZone.calls k a0_0 a0_1 _ _ l0_2 t1157 t1158 t1159 _ ?side1 ?side2 A10.out).mono ?_); (case side1 => exact CW ((Kd.C_below HR0_2.out HB.out))); (case side2 => exact HC0_2.out); rintro e w19 ⟨v1160, rfl, ho0, hb⟩; refine ⟨_, rfl, ?_⟩; have HO1161 := RL ho0; replace BK1155 := KB BK1155 hb; replace HB := BS hb; (try clear hb); (try clear hb2); (try clear hk); (try clear hi); (try clear ho0); obtain ⟨Ao20, co20, eo20⟩ := Kd.R_slice HO1161.out; subst eo20) | ((with_reducible refine gate_callee (f := 54) rfl ?_); refine goesL_ (some 23) rfl rfl Tryz.func54 KR rfl #[.agg #[.string t1157, .int .i64 t1158, .slice Ao20 t1159.length co20], .string a1] rfl TA ?_; (with_reducible refine (spec_IsThere.calls k t1157 t1158 _ _ t1159 a1 t1162 t1163 _ ?side1 ?side2 A11.out).mono ?_); (case side1 => exact CW ((Kd.R_reads' HO1161.out).2.2)); (case side2 => exact (Kd.R_reads' HO1161.out).2.1); rintro e w21 ⟨rfl, hb⟩; refine ⟨_, rfl, ?_⟩; replace HO1161 := RB HO1161 hb; replace BK1155 := KB BK1155 hb; replace HB := BS hb; (try clear hb); (try clear hb2); (try clear hk); (try clear hi); have hcz22 := cz3 BK1155) | ((with_reducible refine gate_callee (f := 55) rfl ?_); refine goesL_ (some 27) rfl rfl Tryz.func55 KR rfl #[.agg #[.string a0_0, .int .i64 a0_1, .slice A0_2 l0_2.length c0_2]] rfl TA ?_; (with_reducible refine (laws_toZone.calls k a0_0 a0_1 _ _ l0_2 t1164 t1165 t1166 _ ?side1 ?side2 A12.out).mono ?_); (case side1 => exact CW ((Kd.C_below HR0_2.out HB.out))); (case side2 => exact HC0_2.out); rintro e w23 ⟨v1167, rfl, ho0, hb⟩; refine ⟨_, rfl, ?_⟩; have HO1168 := Aside0.mk (Kd.R_lower (Kd.R_new' ho0 (Kd.R_lt (RW HO1161).out)) (below_size TB)); replace HO1161 := Aside0.mk (Kd.R_elder' (RW HO1161).out (Kd.R_base ho0) hb); replace BK1155 := KB BK1155 hb; replace HB := BS hb; (try clear hb); (try clear hb2); (try clear hk); (try clear hi); (try clear ho0)) | ((with_reducible refine gate_dst (N := 8) rfl ?_); refine bE 8 #[.string (⟨#[]⟩ : ByteArray), .int .i64 0, .slice none 0 0] 83 ?_; intro gb1169 hg w24 hbox hb; replace HO1161 := RB HO1161 hb; replace HO1168 := RB HO1168 hb; have BK1169 := Aside0.mk (hbox); have GE1169 := bG hg; replace HB := BS hb; have NB1155_1169 := bN BK1155 hg; have NB1169_1155 := bM BK1155 hg; replace BK1155 := KB BK1155 hb; clear hb hbox hg; have hnb25 := NB1169_1155.out; have hnc25 := NB1155_1169.out; have hcz26 := cz3 BK1169; obtain ⟨Ao27, co27, eo27⟩ := Kd.R_slice HO1168.out; subst eo27) | ((with_reducible refine gate_callee (f := 56) rfl ?_); refine goesL_ (some 31) rfl rfl Tryz.func56 KR rfl #[.agg #[.string t1164, .int .i64 t1165, .slice Ao27 t1166.length co27], .string a1] rfl TA ?_; (with_reducible refine (impl_IsThere.calls k t1164 t1165 _ _ t1166 a1 t1170 t1171 _ ?side1 ?side2 ?side3 A13.out).mono ?_); (case side1 => refine (Kd.R_reads' (e := 93) (base := w.heap.size) (ok := fun k_ => (True ∧ some k_ ≠ (.slice Ao20 t1159.length co20 : Value).ownBlock)) (n := t1166.length) (c := co27) ?_).2.2; exact (by (with_reducible repeat (first | apply Kd.R_alloc | apply Kd.R_drewN | apply Kd.R_drew)); exact (Kd.R_mono (Kd.R_far (p := ⟨gb1169, 2, none⟩) (Kd.R_far (p := ⟨gb1169, 1, none⟩) (Kd.R_far (p := ⟨gb1169, 0, none⟩) (Kd.R_types HO1168.out BK1169.out (by decide)) (fun _ hk => hk.2) (.string t1164)) (fun _ hk => hk.2) (.int .i64 t1165)) (fun _ hk => hk.2) (.slice Ao27 t1166.length co27)) (fun _ h_ => h_.1)))); (case side2 => exact (Kd.R_reads' HO1168.out).2.1); (case side3 => exact GW HGL); rintro e w28 ⟨rfl, hb⟩; refine ⟨_, rfl, ?_⟩; replace HO1161 := Aside0.mk (Kd.R_below (by (with_reducible repeat (first | apply Kd.R_alloc | apply Kd.R_drewN | apply Kd.R_drew)); exact (Kd.R_mono (Kd.R_far (p := ⟨gb1169, 2, none⟩) (Kd.R_far (p := ⟨gb1169, 1, none⟩) (Kd.R_far (p := ⟨gb1169, 0, none⟩) (Kd.R_types HO1161.out BK1169.out (by decide)) (fun _ hk => hk.2) (.string t1164)) (fun _ hk => hk.2) (.int .i64 t1165)) (fun _ hk => hk.2) (.slice Ao27 t1166.length co27)) (fun _ h_ => h_.1))) hb); replace HO1168 := Aside0.mk (Kd.R_below (by (with_reducible repeat (first | apply Kd.R_alloc | apply Kd.R_drewN | apply Kd.R_drew)); exact (Kd.R_mono (Kd.R_far (p := ⟨gb1169, 2, none⟩) (Kd.R_far (p := ⟨gb1169, 1, none⟩) (Kd.R_far (p := ⟨gb1169, 0, none⟩) (Kd.R_types HO1168.out BK1169.out (by decide)) (fun _ hk => hk.2) (.string t1164)) (fun _ hk => hk.2) (.int .i64 t1165)) (fun _ hk => hk.2) (.slice Ao27 t1166.length co27)) (fun _ h_ => h_.1))) hb); replace BK1155 := Aside0.mk (blk_below (g := gb1155) (o := .cells #[.string a0_0, .int .i64 a0_1, .slice A0_2 l0_2.length c0_2] 78 (0, 0)) (by (with_reducible repeat (first | refine blk_drewN ?_ _ | refine blk_drew ?_ | refine blk_alloc ?_ _)); refine blk_far ?_ NB1155_1169.out _; (with_reducible repeat (first | refine blk_drewN ?_ _ | refine blk_drew ?_ | refine blk_alloc ?_ _)); refine blk_far ?_ NB1155_1169.out _; (with_reducible repeat (first | refine blk_drewN ?_ _ | refine blk_drew ?_ | refine blk_alloc ?_ _)); refine blk_far ?_ NB1155_1169.out _; (with_reducible repeat (first | refine blk_drewN ?_ _ | refine blk_drew ?_ | refine blk_alloc ?_ _)); exact BK1155.out) hb); replace BK1169 := Aside0.mk (blk_below (g := gb1169) (o := .cells #[.string t1164, .int .i64 t1165, .slice Ao27 t1166.length co27] 83 (0, 0)) (by (with_reducible repeat (first | refine blk_drewN ?_ _ | refine blk_drew ?_ | refine blk_alloc ?_ _)); refine blk_put (cs := #[.string t1164, .int .i64 t1165, .slice none 0 0]) ?_ 2 _ rfl; (with_reducible repeat (first | refine blk_drewN ?_ _ | refine blk_drew ?_ | refine blk_alloc ?_ _)); refine blk_put (cs := #[.string t1164, .int .i64 0, .slice none 0 0]) ?_ 1 _ rfl; (with_reducible repeat (first | refine blk_drewN ?_ _ | refine blk_drew ?_ | refine blk_alloc ?_ _)); refine blk_put (cs := #[.string (⟨#[]⟩ : ByteArray), .int .i64 0, .slice none 0 0]) ?_ 0 _ rfl; (with_reducible repeat (first | refine blk_drewN ?_ _ | refine blk_drew ?_ | refine blk_alloc ?_ _)); exact BK1169.out) hb); replace HB := BS hb; (try clear hb); (try clear hb2); (try clear hk); (try clear hi)))
   (try simp only [Act.put, List.setIfInBounds_toArray, List.set_cons_zero, List.set_cons_succ])
   go_cut [41] (fun v41 wc => ∃ (kq : Nat) (x41_13 : Bool), v41 = .bool x41_13 ∧ Aside0 (laws_FnExactIsThere.j0 kq x41_13 a0_0 a0_1 l0_2 t1164 t1165 t1166 = some r) ∧ Aside0 (kq ≤ k) ∧ Aside0 (Kd.R k_Record 93 wc w.heap.size (fun _ => True) (.slice Ao27 t1166.length co27) t1166) ∧ Aside0 (wc.heap[gb1155]? = some (.cells #[.string a0_0, .int .i64 a0_1, (.slice A0_2 l0_2.length c0_2)] 78 (0, 0))) ∧ Aside0 (wc.heap[gb1169]? = some (.cells #[.string t1164, .int .i64 t1165, (.slice Ao27 t1166.length co27)] 83 (0, 0))) ∧ Aside0 (Below w.heap.size w wc))
   case first =>
    have H := HC14.out
    clear HC14
    by_cases c29 : (t1170 != t1162) = true
    ·rw [if_pos c29] at H
     have c29b0 : (t1170 != t1162) = true := c29
     (try (have c29b1 : decide (t1170 = t1162) = false := by simpa using c29))
     (try (have c29b2 : (t1170 == t1162) = false := by simpa using c29))
     (try (have c29b3 : ¬ (t1170 = t1162) := by simpa using c29))
     clear c29
     (first | rw [c29b0] | (simp only [i64_w, i32_w]; rw [c29b0]) | skip)
     have H' := Aside0.mk H
     clear H
     go_wp2
     go_meet
     case rel => exact ⟨_, (true), TF, H', ⟨by first | omega | exact Nat.le_refl _⟩, ⟨by (with_reducible repeat (first | apply Kd.R_alloc | apply Kd.R_drewN | apply Kd.R_drew)); exact Kd.R_mono HO1168.out (fun _ hk => trivial)⟩, KW BK1155, KW BK1169, ⟨TB⟩⟩
    ·rw [if_neg c29] at H
     have c29b0 : (t1170 != t1162) = false := by simpa using c29
     (try (have c29b1 : decide (t1170 = t1162) = true := by simpa using c29))
     (try (have c29b2 : (t1170 == t1162) = true := by simpa using c29))
     clear c29
     (first | rw [c29b0] | (simp only [i64_w, i32_w]; rw [c29b0]) | skip)
     have H' := Aside0.mk H
     clear H
     go_wp2
     go_meet
     case rel => exact ⟨_, ((t1171 != t1163)), TF, H', ⟨by first | omega | exact Nat.le_refl _⟩, ⟨by (with_reducible repeat (first | apply Kd.R_alloc | apply Kd.R_drewN | apply Kd.R_drew)); exact Kd.R_mono HO1168.out (fun _ hk => trivial)⟩, KW BK1155, KW BK1169, ⟨TB⟩⟩
   case rest =>
    clear HC14
    try clear c1
    try clear c2
    try clear p2
    try clear c3
    try clear c3b0
    try clear c3b1
    try clear c5
    try clear c6
    try clear c6b0
    try clear c13
    try clear c25
    try clear c29
    try clear c29b0
    try clear c29b1
    try clear c29b2
    try clear hcz16
    try clear hcz18
    try clear hcz22
    try clear hcz26
    try clear hcz8
    try clear hfz16_0
    try clear hfz16_1
    try clear hfz16_2
    try clear hfz18_0
    try clear hfz18_1
    try clear hfz18_2
    try clear hfz22_0
    try clear hfz22_1
    try clear hfz22_2
    try clear hfz26_0
    try clear hfz26_1
    try clear hfz26_2
    try clear hfz8_0
    try clear hfz8_1
    try clear hfz8_2
    obtain ⟨kq, x41_13, rfl, HA, HJ13, HO_1170002, BK1155, BK1169, HB⟩ := hcut
    cases kq with
    | zero => exact absurd HA.out (by simp [laws_FnExactIsThere.j0])
    | succ kj13 =>
     have H := HA.out
     clear HA
     simp only [laws_FnExactIsThere.j0] at H
     by_cases c30 : x41_13 = true
     ·subst c30
      replace H := ift H
      obtain rfl := Option.some.inj H
      go_wp2
      go_ret
      exact ⟨TE, TB⟩
     ·replace c30 := Bool.eq_false_iff.mpr c30
      subst c30
      replace H := iff' H
      obtain ⟨⟨t1172, t1173, t1174⟩, A31, H⟩ := bnd H
      try dsimp only at H
      obtain ⟨t1177, A32, H⟩ := bnd H
      by_cases c33 : t1177 = true
      ·subst c33
       replace H := ift H
       obtain rfl := Option.some.inj H
       try go_wp2
       replace HO_1170002 := Aside0.mk (Kd.R_drew HO_1170002.out)
       replace BK1155 := Aside0.mk (blk_drew BK1155.out)
       replace BK1169 := Aside0.mk (blk_drew BK1169.out)
       replace HB := Aside0.mk (below_drew1 HB.out)
       refine start_ (n := 5) (S := fun w' => w'.cell? ⟨gb1169, 0, none⟩ = some (.string t1164) ∧ w'.cell? ⟨gb1169, 1, none⟩ = some (.int .i64 t1165) ∧ w'.cell? ⟨gb1169, 2, none⟩ = some (.slice Ao27 t1166.length co27) ∧ w'.cell? ⟨gb1155, 0, none⟩ = some (.string a0_0) ∧ w'.cell? ⟨gb1155, 1, none⟩ = some (.int .i64 a0_1) ∧ w'.cell? ⟨gb1155, 2, none⟩ = some (.slice A0_2 l0_2.length c0_2)) (ds := []) #[false, false, false, false, false] KR rfl rfl ⟨bc 0 BK1169, bc 1 BK1169, bc 2 BK1169, bc 0 BK1155, bc 1 BK1155, bc 2 BK1155⟩ (fun hHeld => ?_)
       generalize wc.drew = w34 at HO_1170002 BK1155 BK1169 HB hHeld ⊢
       refine take_ (i := 0) (N := some 42) (v := ?_) (a' := ?_) #[true, false, false, false, false] rfl rfl KR (fun _ _ _ h => h) (Or.inl ⟨by rfl, ?_⟩) hHeld ?_ ?_
       rotate_left
       ·rintro w' ⟨s0, s1, s2, s3, s4, s5⟩
        go_simp
        with_reducible rfl
       rotate_left
       ·simp only [Act.put, List.setIfInBounds_toArray, List.set_cons_zero, List.set_cons_succ, i64_w, i32_w]
        rfl
       refine take_ (i := 1) (N := some 43) (v := ?_) (a' := ?_) #[true, true, false, false, false] rfl rfl KR (fun _ _ _ h => h) (Or.inl ⟨by rfl, ?_⟩) hHeld ?_ ?_
       rotate_left
       ·rintro w' ⟨s0, s1, s2, s3, s4, s5⟩
        go_simp
        with_reducible rfl
       rotate_left
       ·simp only [Act.put, List.setIfInBounds_toArray, List.set_cons_zero, List.set_cons_succ, i64_w, i32_w]
        rfl
       refine one_ (i := 2) (N := some 44) (mL 5 7) rfl rfl KR (by decide) (fun K hK => ?_)
       refine goes_ Tryz.func55 KR rfl #[.agg #[.string a0_0, .int .i64 a0_1, .slice A0_2 l0_2.length c0_2]] (by rfl) rfl rfl TA ?_
       with_reducible refine (laws_toZone.calls kj13 a0_0 a0_1 _ _ l0_2 t1172 t1173 t1174 _ ?side1 ?side2 A31.out).mono ?_
       (case side1 => exact CW ((Kd.C_below HR0_2.out HB.out)))
       (case side2 => exact HC0_2.out)
       rintro e w35 ⟨v1175, rfl, ho0, hb⟩
       refine ⟨_, rfl, ?_⟩
       have HO1176 := Aside0.mk (Kd.R_lower (Kd.R_new' ho0 (Kd.R_lt (RW HO_1170002).out)) (below_size TB))
       replace HO_1170002 := Aside0.mk (Kd.R_elder' (RW HO_1170002).out (Kd.R_base ho0) hb)
       replace BK1155 := KB BK1155 hb
       replace BK1169 := KB BK1169 hb
       replace HB := BS hb
       (try clear hb)
       (try clear hb2)
       (try clear hk)
       (try clear hi)
       (try clear ho0)
       obtain ⟨Ao36, co36, eo36⟩ := Kd.R_slice HO1176.out
       (first | subst eo36 | (injection eo36 with f1_ f2_ f3_; have f4_ := f1_.symm; have f5_ := f3_.symm; clear f1_ f2_ f3_; subst f4_; subst f5_))
       refine hK.out _ _ ⟨bc 0 BK1169, bc 1 BK1169, bc 2 BK1169, bc 0 BK1155, bc 1 BK1155, bc 2 BK1155⟩ (fun hHeld => ?_)
       clear hK K
       refine nA ?_
       refine one_ (i := 3) (N := some 45) (mL 5 15) rfl rfl KR (by decide) (fun K hK => ?_)
       refine goes_ Tryz.func57 KR rfl #[.agg #[.string t1164, .int .i64 t1165, .slice Ao27 t1166.length co27], .agg #[.string t1172, .int .i64 t1173, .slice Ao36 t1174.length co36]] (by rfl) rfl rfl TA ?_
       with_reducible refine (laws_eqZone.calls kj13 t1164 t1165 _ _ t1166 t1172 t1173 _ _ t1174 true _ ?side1 ?side2 ?side3 ?side4 A32.out).mono ?_
       (case side1 => exact CW ((Kd.R_reads' HO_1170002.out).2.2))
       (case side2 => exact (Kd.R_reads' HO_1170002.out).2.1)
       (case side3 => exact CW ((Kd.R_reads' HO1176.out).2.2))
       (case side4 => exact (Kd.R_reads' HO1176.out).2.1)
       rintro e w37 ⟨rfl, hb⟩
       refine ⟨_, rfl, ?_⟩
       replace HO_1170002 := RB HO_1170002 hb
       replace HO1176 := RB HO1176 hb
       replace BK1155 := KB BK1155 hb
       replace BK1169 := KB BK1169 hb
       replace HB := BS hb
       (try clear hb)
       (try clear hb2)
       (try clear hk)
       (try clear hi)
       refine hK.out _ _ ⟨bc 0 BK1169, bc 1 BK1169, bc 2 BK1169, bc 0 BK1155, bc 1 BK1155, bc 2 BK1155⟩ (fun hHeld => ?_)
       clear hK K
       refine nA ?_
       refine pure_ (i := 4) (N := some 46) (v := ?_) (a' := ?_) #[true, true, true, true, true] rfl rfl KR (fun _ _ _ h => h) (Or.inl ⟨by rfl, ?_⟩) ?_ ?_
       rotate_left
       ·intro w'
        go_simp
        with_reducible rfl
       rotate_left
       ·simp only [Act.put, List.setIfInBounds_toArray, List.set_cons_zero, List.set_cons_succ, i64_w, i32_w]
        rfl
       refine done_ KR ?_
       try go_wp2
       go_ret
       exact ⟨TE, TB⟩
      ·replace c33 := Bool.eq_false_iff.mpr c33
       subst c33
       replace H := iff' H
       obtain rfl := Option.some.inj H
       try go_wp2
       replace HO_1170002 := Aside0.mk (Kd.R_drew HO_1170002.out)
       replace BK1155 := Aside0.mk (blk_drew BK1155.out)
       replace BK1169 := Aside0.mk (blk_drew BK1169.out)
       replace HB := Aside0.mk (below_drew1 HB.out)
       refine start_ (n := 5) (S := fun w' => w'.cell? ⟨gb1169, 0, none⟩ = some (.string t1164) ∧ w'.cell? ⟨gb1169, 1, none⟩ = some (.int .i64 t1165) ∧ w'.cell? ⟨gb1169, 2, none⟩ = some (.slice Ao27 t1166.length co27) ∧ w'.cell? ⟨gb1155, 0, none⟩ = some (.string a0_0) ∧ w'.cell? ⟨gb1155, 1, none⟩ = some (.int .i64 a0_1) ∧ w'.cell? ⟨gb1155, 2, none⟩ = some (.slice A0_2 l0_2.length c0_2)) (ds := []) #[false, false, false, false, false] KR rfl rfl ⟨bc 0 BK1169, bc 1 BK1169, bc 2 BK1169, bc 0 BK1155, bc 1 BK1155, bc 2 BK1155⟩ (fun hHeld => ?_)
       generalize wc.drew = w38 at HO_1170002 BK1155 BK1169 HB hHeld ⊢
       refine take_ (i := 0) (N := some 42) (v := ?_) (a' := ?_) #[true, false, false, false, false] rfl rfl KR (fun _ _ _ h => h) (Or.inl ⟨by rfl, ?_⟩) hHeld ?_ ?_
       rotate_left
       ·rintro w' ⟨s0, s1, s2, s3, s4, s5⟩
        go_simp
        with_reducible rfl
       rotate_left
       ·simp only [Act.put, List.setIfInBounds_toArray, List.set_cons_zero, List.set_cons_succ, i64_w, i32_w]
        rfl
       refine take_ (i := 1) (N := some 43) (v := ?_) (a' := ?_) #[true, true, false, false, false] rfl rfl KR (fun _ _ _ h => h) (Or.inl ⟨by rfl, ?_⟩) hHeld ?_ ?_
       rotate_left
       ·rintro w' ⟨s0, s1, s2, s3, s4, s5⟩
        go_simp
        with_reducible rfl
       rotate_left
       ·simp only [Act.put, List.setIfInBounds_toArray, List.set_cons_zero, List.set_cons_succ, i64_w, i32_w]
        rfl
       refine one_ (i := 2) (N := some 44) (mL 5 7) rfl rfl KR (by decide) (fun K hK => ?_)
       refine goes_ Tryz.func55 KR rfl #[.agg #[.string a0_0, .int .i64 a0_1, .slice A0_2 l0_2.length c0_2]] (by rfl) rfl rfl TA ?_
       with_reducible refine (laws_toZone.calls kj13 a0_0 a0_1 _ _ l0_2 t1172 t1173 t1174 _ ?side1 ?side2 A31.out).mono ?_
       (case side1 => exact CW ((Kd.C_below HR0_2.out HB.out)))
       (case side2 => exact HC0_2.out)
       rintro e w39 ⟨v1175, rfl, ho0, hb⟩
       refine ⟨_, rfl, ?_⟩
       have HO1176 := Aside0.mk (Kd.R_lower (Kd.R_new' ho0 (Kd.R_lt (RW HO_1170002).out)) (below_size TB))
       replace HO_1170002 := Aside0.mk (Kd.R_elder' (RW HO_1170002).out (Kd.R_base ho0) hb)
       replace BK1155 := KB BK1155 hb
       replace BK1169 := KB BK1169 hb
       replace HB := BS hb
       (try clear hb)
       (try clear hb2)
       (try clear hk)
       (try clear hi)
       (try clear ho0)
       obtain ⟨Ao40, co40, eo40⟩ := Kd.R_slice HO1176.out
       (first | subst eo40 | (injection eo40 with f1_ f2_ f3_; have f4_ := f1_.symm; have f5_ := f3_.symm; clear f1_ f2_ f3_; subst f4_; subst f5_))
       refine hK.out _ _ ⟨bc 0 BK1169, bc 1 BK1169, bc 2 BK1169, bc 0 BK1155, bc 1 BK1155, bc 2 BK1155⟩ (fun hHeld => ?_)
       clear hK K
       refine nA ?_
       refine one_ (i := 3) (N := some 45) (mL 5 15) rfl rfl KR (by decide) (fun K hK => ?_)
       refine goes_ Tryz.func57 KR rfl #[.agg #[.string t1164, .int .i64 t1165, .slice Ao27 t1166.length co27], .agg #[.string t1172, .int .i64 t1173, .slice Ao40 t1174.length co40]] (by rfl) rfl rfl TA ?_
       with_reducible refine (laws_eqZone.calls kj13 t1164 t1165 _ _ t1166 t1172 t1173 _ _ t1174 false _ ?side1 ?side2 ?side3 ?side4 A32.out).mono ?_
       (case side1 => exact CW ((Kd.R_reads' HO_1170002.out).2.2))
       (case side2 => exact (Kd.R_reads' HO_1170002.out).2.1)
       (case side3 => exact CW ((Kd.R_reads' HO1176.out).2.2))
       (case side4 => exact (Kd.R_reads' HO1176.out).2.1)
       rintro e w41 ⟨rfl, hb⟩
       refine ⟨_, rfl, ?_⟩
       replace HO_1170002 := RB HO_1170002 hb
       replace HO1176 := RB HO1176 hb
       replace BK1155 := KB BK1155 hb
       replace BK1169 := KB BK1169 hb
       replace HB := BS hb
       (try clear hb)
       (try clear hb2)
       (try clear hk)
       (try clear hi)
       refine hK.out _ _ ⟨bc 0 BK1169, bc 1 BK1169, bc 2 BK1169, bc 0 BK1155, bc 1 BK1155, bc 2 BK1155⟩ (fun hHeld => ?_)
       clear hK K
       refine nA ?_
       refine pure_ (i := 4) (N := some 46) (v := ?_) (a' := ?_) #[true, true, true, true, true] rfl rfl KR (fun _ _ _ h => h) (Or.inl ⟨by rfl, ?_⟩) ?_ ?_
       rotate_left
       ·intro w'
        go_simp
        with_reducible rfl
       rotate_left
       ·simp only [Act.put, List.setIfInBounds_toArray, List.set_cons_zero, List.set_cons_succ, i64_w, i32_w]
        rfl
       refine done_ KR ?_
       try go_wp2
       go_ret
       exact ⟨TE, TB⟩

/-- THE ONE PURE STATEMENT of laws_FnExactIsThere. -/
def laws_FnExactIsThere.Pure : Prop := ∀ (a0_0 : ByteArray) (a0_1 : Int) (l0_2 : List (S_LRecord)) (a1 : ByteArray), (a0_0.size ≤ maxLen) → ((Lit.int .i64 a0_1).wf = true) → (l0_2.length ≤ maxLen ∧ ∀ x_ ∈ l0_2, WF_LRecord x_) → (a1.size ≤ maxLen) → ∃ k, laws_FnExactIsThere.f k a0_0 a0_1 l0_2 a1 = some true
end
section
/-! ### impl_parentOf: function 159 -/
def impl_parentOf.f (a0 : ByteArray) : Option (ByteArray) := (strings_Cut.f a0 (⟨#[46]⟩ : ByteArray)).bind fun bt668 => (some bt668.2.1)
theorem impl_parentOf.calls (a0 : ByteArray) (r : ByteArray) (w : World) (h : impl_parentOf.f a0 = some r) :
  Calls Tryz.prog 159 #[.string a0] w fun e w' => e = .returned (.string r) ∧ Drawn0 w w' := by
 have H : ((strings_Cut.f a0 (⟨#[46]⟩ : ByteArray)).bind fun bt668 => (some bt668.2.1)) = some r := h
 clear h
 obtain ⟨⟨t668, t669, t670⟩, A2, H⟩ := bnd H
 try dsimp only at H
 obtain rfl := Option.some.inj H
 go_enter Tryz.func159, Tryz.ntmps159
 go_wp2_with (first | ((with_reducible refine gate_callee (f := 182) rfl ?_); refine goesL_ (some 8) rfl rfl Tryz.func182 KR rfl #[.string a0, .string (⟨#[46]⟩ : ByteArray)] rfl TA ?_; (with_reducible refine (strings_Cut.calls a0 (⟨#[46]⟩ : ByteArray) t668 t669 t670 _ A2.out).mono ?_); rintro e w' ⟨rfl, ⟨nd, rfl⟩⟩; refine ⟨_, rfl, ?_⟩))
 go_ret
 exact ⟨TF, TN⟩
end
section
/-! ### impl_cutAbove: function 116 -/
def impl_cutAbove.l0 : Nat → ByteArray → ByteArray → Bool → ByteArray → Int → List (S_Record) → Option (ByteArray × Bool)
 | 0, _, _, _, _, _, _ => none
 | k + 1, x1, x6, x7, x672000, x672001, x672002 => if x1.toList = x672000.toList then (some (x6, x7)) else ((impl_at.f k x672002 x1 2).bind fun t672 => (if (t672.length : Int) > 0 then ((impl_parentOf.f x1).bind fun t675 => (impl_cutAbove.l0 k t675 x1 true x672000 x672001 x672002)) else ((impl_parentOf.f x1).bind fun t676 => (impl_cutAbove.l0 k t676 x6 x7 x672000 x672001 x672002))))
def impl_cutAbove.f (k : Nat) (a0_0 : ByteArray) (a0_1 : Int) (l0_2 : List (S_Record)) (a1 : ByteArray) : Option (ByteArray × Bool) := impl_cutAbove.l0 k a1 (⟨#[]⟩ : ByteArray) false a0_0 a0_1 l0_2
theorem impl_cutAbove.calls (k : Nat) (a0_0 : ByteArray) (a0_1 : Int) (A0_2 : Option Addr) (c0_2 : Nat) (l0_2 : List (S_Record)) (a1 : ByteArray) (r1 : ByteArray) (r2 : Bool) (w : World) (hr0_2 : Kd.C k_Record w A0_2 l0_2.length l0_2) (hc0_2 : l0_2.length ≤ c0_2) (h : impl_cutAbove.f k a0_0 a0_1 l0_2 a1 = some (r1, r2)) :
  Calls Tryz.prog 116 #[.agg #[.string a0_0, .int .i64 a0_1, .slice A0_2 l0_2.length c0_2], .string a1] w fun e w' => e = .returned (.tuple #[.string r1, .bool r2]) ∧ Below w.heap.size w w' := by
 have hu83 := Tryz.underlying83
 have HR0_2 := Aside0.mk hr0_2
 have HC0_2 := Aside0.mk hc0_2
 clear hr0_2 hc0_2
 have HB := Aside0.mk (Below.refl w.heap.size w)
 have H : (impl_cutAbove.l0 k a1 (⟨#[]⟩ : ByteArray) false a0_0 a0_1 l0_2) = some (r1, r2) := h
 clear h
 have H' := Aside0.mk H
 clear H
 go_enter Tryz.func116, Tryz.ntmps116
 go_wp2_with (first | ((with_reducible refine gate_dst (N := 2) rfl ?_); refine bE 2 #[.string a0_0, .int .i64 a0_1, .slice A0_2 l0_2.length c0_2] 83 ?_; intro gb671 hg w3 hbox hb; have BK671 := Aside0.mk (hbox); have GE671 := bG hg; replace HB := BS hb; clear hb hbox hg))
 go_loopg [1, 6, 7] k (fun kq v1 v6 v7 w' => ∃ (x1_1 : ByteArray) (x6_1 : ByteArray) (x7_1 : Bool), v1 = .string x1_1 ∧ v6 = .string x6_1 ∧ v7 = .bool x7_1 ∧ Aside0 (impl_cutAbove.l0 kq x1_1 x6_1 x7_1 a0_0 a0_1 l0_2 = some (r1, r2)) ∧ Aside0 (kq ≤ k) ∧ Aside0 (w'.heap[gb671]? = some (.cells #[.string a0_0, .int .i64 a0_1, (.slice A0_2 l0_2.length c0_2)] 83 (0, 0))) ∧ Aside0 (Below w.heap.size w w'))
 case atStart => exact ⟨(a1), ((⟨#[]⟩ : ByteArray)), (false), TF, TF, TF, H', ⟨Nat.le_refl _⟩, KW BK671, ⟨TB⟩⟩
 case round =>
  clear H'
  try clear c1
  try clear p2
  obtain ⟨x1_1, x6_1, x7_1, rfl, rfl, rfl, HA, HK1, BK671, HB⟩ := hrel
  cases gk with
  | zero => exact absurd HA.out (by simp [impl_cutAbove.l0])
  | succ k1 =>
   have H := HA.out
   clear HA
   simp only [impl_cutAbove.l0] at H
   by_cases c4 : x1_1.toList = a0_0.toList
   ·rw [if_pos c4] at H
    have c4b0 : (x1_1.toList == a0_0.toList) = true := beq_iff_eq.mpr c4
    have c4b1 : (x1_1.toList != a0_0.toList) = false := bne_eq_false_iff_eq.mpr c4
    clear c4
    simp only [Option.some.injEq, Prod.mk.injEq] at H
    obtain ⟨rfl, rfl⟩ := H
    have hcz5 := cz3 BK671
    go_wp2
    go_ret2
    exact ⟨TE, TB⟩
   ·rw [if_neg c4] at H
    have c4b0 : (x1_1.toList == a0_0.toList) = false := beq_eq_false_iff_ne.mpr c4
    have c4b1 : (x1_1.toList != a0_0.toList) = true := bne_iff_ne.mpr c4
    obtain ⟨t672, A6, H⟩ := bnd H
    by_cases c7 : (t672.length : Int) > 0
    ·rw [if_pos c7] at H
     have c7b0 : decide (0 < (t672.length : Int)) = true := decide_eq_true c7
     have c7b1 : decide (0 < t672.length) = true := decide_eq_true (by omega)
     clear c7
     obtain ⟨t675, A8, H⟩ := bnd H
     have H' := Aside0.mk H
     clear H
     have hcz9 := cz3 BK671
     go_wp2_with (first | ((with_reducible refine gate_callee (f := 154) rfl ?_); refine goesL_ (some 17) rfl rfl Tryz.func154 KR rfl #[.slice A0_2 l0_2.length c0_2, .string x1_1, .int .i64 2] rfl TA ?_; (with_reducible refine (impl_at.calls k1 _ _ l0_2 x1_1 2 t672 _ ?side1 ?side2 A6.out).mono ?_); (case side1 => exact CW ((Kd.C_below HR0_2.out HB.out))); (case side2 => exact HC0_2.out); rintro e w10 ⟨v673, rfl, ho0, hb⟩; refine ⟨_, rfl, ?_⟩; have HO674 := RL ho0; replace BK671 := KB BK671 hb; replace HB := BS hb; (try clear hb); (try clear hb2); (try clear hk); (try clear hi); (try clear ho0); obtain ⟨Ao11, co11, eo11⟩ := Kd.R_slice HO674.out; subst eo11) | ((with_reducible refine gate_callee (f := 159) rfl ?_); refine goesL_ (some 13) rfl rfl Tryz.func159 KR rfl #[.string x1_1] rfl TA ?_; (with_reducible refine (impl_parentOf.calls x1_1 t675 _ A8.out).mono ?_); rintro e w' ⟨rfl, ⟨nd, rfl⟩⟩; refine ⟨_, rfl, ?_⟩))
     go_roundg k1
     case measure => have := HK1.out; omega
     case rel => exact ⟨(t675), (x1_1), (true), TF, TF, TF, H', ⟨TM⟩, KW BK671, ⟨TB⟩⟩
    ·rw [if_neg c7] at H
     have c7b0 : decide (0 < (t672.length : Int)) = false := decide_eq_false c7
     have c7b1 : decide (0 < t672.length) = false := decide_eq_false (by omega)
     clear c7
     obtain ⟨t676, A12, H⟩ := bnd H
     have H' := Aside0.mk H
     clear H
     have hcz13 := cz3 BK671
     go_wp2_with (first | ((with_reducible refine gate_callee (f := 154) rfl ?_); refine goesL_ (some 17) rfl rfl Tryz.func154 KR rfl #[.slice A0_2 l0_2.length c0_2, .string x1_1, .int .i64 2] rfl TA ?_; (with_reducible refine (impl_at.calls k1 _ _ l0_2 x1_1 2 t672 _ ?side1 ?side2 A6.out).mono ?_); (case side1 => exact CW ((Kd.C_below HR0_2.out HB.out))); (case side2 => exact HC0_2.out); rintro e w14 ⟨v673, rfl, ho0, hb⟩; refine ⟨_, rfl, ?_⟩; have HO674 := RL ho0; replace BK671 := KB BK671 hb; replace HB := BS hb; (try clear hb); (try clear hb2); (try clear hk); (try clear hi); (try clear ho0); obtain ⟨Ao15, co15, eo15⟩ := Kd.R_slice HO674.out; subst eo15) | ((with_reducible refine gate_callee (f := 159) rfl ?_); refine goesL_ (some 13) rfl rfl Tryz.func159 KR rfl #[.string x1_1] rfl TA ?_; (with_reducible refine (impl_parentOf.calls x1_1 t676 _ A12.out).mono ?_); rintro e w' ⟨rfl, ⟨nd, rfl⟩⟩; refine ⟨_, rfl, ?_⟩))
     go_roundg k1
     case measure => have := HK1.out; omega
     case rel => exact ⟨(t676), (x6_1), (x7_1), TF, TF, TF, H', ⟨TM⟩, KW BK671, ⟨TB⟩⟩
end
end Go.Proofs.YthohohfmdieohaaGreatDoor.Pp
